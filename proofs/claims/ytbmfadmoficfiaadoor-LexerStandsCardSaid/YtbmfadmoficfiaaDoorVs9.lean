/- A part of the proof, made small by a program: Qx35. -/
import Derived.Test.YtbmfadmoficfiaaDoorVs2
import Derived.Test.YtbmfadmoficfiaaDoorVs4
import Derived.Test.YtbmfadmoficfiaaDoorVs8
namespace Go.Proofs.YtbmfadmoficfiaaDoor.Q
open Go.RowKit Go.Proofs.YtbmfadmoficfiaaDoorW.PrintWords Go.Proofs.YtbmfadmoficfiaaDoorW.PrintLast Go.Proofs.YtbmfadmoficfiaaDoorW.PrintMore
attribute [local go_sem] Z56 Z54 Z61 Z60 Z49 Z48 Z55 Z53
set_option linter.unusedVariables false
set_option linter.unusedSimpArgs false
mutual
def cruciblelaw07_LexerStands.l0 : Nat → ByteArray → Int → List (S24) → List Int → Int → Int → Option (Bool)
 | 0, _, _, _, _, _, _ => none
 | k + 1, x0, x1, x5, x8, x9, x10 => if x10 < (x5.length : Int) then (if 0 ≤ x10 then (if ((rd_T24 x5 x10).f4) < x9 then (cruciblelaw07_LexerStands.j1 k x0 x1 x5 x8 x9 x10 true ((rd_T24 x5 x10).f0) ((rd_T24 x5 x10).f1) ((rd_T24 x5 x10).f2) ((rd_T24 x5 x10).f3) ((rd_T24 x5 x10).f4) ((rd_T24 x5 x10).f5)) else (if ((rd_T24 x5 x10).f5) < ((rd_T24 x5 x10).f4) then (cruciblelaw07_LexerStands.j1 k x0 x1 x5 x8 x9 x10 true ((rd_T24 x5 x10).f0) ((rd_T24 x5 x10).f1) ((rd_T24 x5 x10).f2) ((rd_T24 x5 x10).f3) ((rd_T24 x5 x10).f4) ((rd_T24 x5 x10).f5)) else (cruciblelaw07_LexerStands.j1 k x0 x1 x5 x8 x9 x10 ((((rd_T24 x5 x10).f5) == ((rd_T24 x5 x10).f4)) != (((rd_T24 x5 x10).f0) == 1)) ((rd_T24 x5 x10).f0) ((rd_T24 x5 x10).f1) ((rd_T24 x5 x10).f2) ((rd_T24 x5 x10).f3) ((rd_T24 x5 x10).f4) ((rd_T24 x5 x10).f5)))) else (none)) else ((Z44.f k (strOfNums x8)).bind fun bt351 => (if bt351.2.2 = 3 then (if ((strOfNums x8).size : Int) > 65536 then ((cruciblelaw07_awake.f k).bind fun t356 => (some t356)) else (some false)) else (if bt351.2.2 = 0 then (if (bt351.1.length : Int) = (x5.length : Int) then (cruciblelaw07_LexerStands.j3 k x5 bt351.1 (x9 != (x0.size : Int))) else (cruciblelaw07_LexerStands.j3 k x5 bt351.1 true)) else (cruciblelaw07_LexerStands.j3 k x5 bt351.1 true))))
def cruciblelaw07_LexerStands.j1 : Nat → ByteArray → Int → List (S24) → List Int → Int → Int → Bool → Int → ByteArray → Int → Bool → Int → Int → Option (Bool)
 | 0, _, _, _, _, _, _, _, _, _, _, _, _, _ => none
 | k + 1, x0, x1, x5, x8, x9, x10, x66, x334000, x334001, x334002, x334003, x334004, x334005 => if x66 = true then (some false) else (if 0 ≤ x9 then (if x9 ≤ x334004 then (if x334004 ≤ (x0.size : Int) then ((Z44.f k (x0.extract (x9 : Int).toNat (x334004 : Int).toNat)).bind fun bt334 => (if bt334.2.2 = 0 then (cruciblelaw07_LexerStands.j2 k x0 x1 x5 x8 x9 x10 ((bt334.1.length : Int) != 1) x334000 x334001 x334002 x334003 x334004 x334005) else (cruciblelaw07_LexerStands.j2 k x0 x1 x5 x8 x9 x10 true x334000 x334001 x334002 x334003 x334004 x334005))) else (none)) else (none)) else (none))
def cruciblelaw07_LexerStands.j2 : Nat → ByteArray → Int → List (S24) → List Int → Int → Int → Bool → Int → ByteArray → Int → Bool → Int → Int → Option (Bool)
 | 0, _, _, _, _, _, _, _, _, _, _, _, _, _ => none
 | k + 1, x0, x1, x5, x8, x9, x10, x83, x334000, x334001, x334002, x334003, x334004, x334005 => if x83 = true then (some false) else (if 0 ≤ x9 then (if x9 ≤ x334004 then (if x334004 ≤ (x0.size : Int) then (if x8.length + (x0.extract (x9 : Int).toNat (x334004 : Int).toNat).size < 140737488355328 then ((some (x8 ++ bytesOf (x0.extract (x9 : Int).toNat (x334004 : Int).toNat) : List Int)).bind fun y339 => (if (Int.tmod (wrap64 (x10 + (wrap64 (x1)))) 3) = 0 then (if y339.length + 2 < 140737488355328 then ((some (y339 ++ bytesOf (⟨#[32, 9]⟩ : ByteArray) : List Int)).bind fun y342 => (if 0 ≤ x334004 then (if x334004 ≤ x334005 then (if x334005 ≤ (x0.size : Int) then (if y342.length + (x0.extract (x334004 : Int).toNat (x334005 : Int).toNat).size < 140737488355328 then (cruciblelaw07_LexerStands.l0 k x0 x1 x5 (y342 ++ bytesOf (x0.extract (x334004 : Int).toNat (x334005 : Int).toNat)) x334005 (wrap64 (x10 + 1))) else (none)) else (none)) else (none)) else (none))) else (none)) else (if 0 ≤ x334004 then (if x334004 ≤ x334005 then (if x334005 ≤ (x0.size : Int) then (if y339.length + (x0.extract (x334004 : Int).toNat (x334005 : Int).toNat).size < 140737488355328 then (cruciblelaw07_LexerStands.l0 k x0 x1 x5 (y339 ++ bytesOf (x0.extract (x334004 : Int).toNat (x334005 : Int).toNat)) x334005 (wrap64 (x10 + 1))) else (none)) else (none)) else (none)) else (none)))) else (none)) else (none)) else (none)) else (none))
def cruciblelaw07_LexerStands.j3 : Nat → List (S24) → List (S24) → Bool → Option (Bool)
 | 0, _, _, _ => none
 | k + 1, x5, x16, x139 => if x139 = true then (some false) else (cruciblelaw07_LexerStands.l1 k x5 x16 0)
def cruciblelaw07_LexerStands.l1 : Nat → List (S24) → List (S24) → Int → Option (Bool)
 | 0, _, _, _ => none
 | k + 1, x5, x16, x19 => if x19 < (x16.length : Int) then (if 0 ≤ x19 then (if x19 < (x5.length : Int) then ((some (x16.set (x19 : Int).toNat (⟨(rd_T24 x16 x19).f0, (rd_T24 x16 x19).f1, (rd_T24 x16 x19).f2, (rd_T24 x16 x19).f3, (rd_T24 x5 x19).f4, (rd_T24 x16 x19).f5⟩ : S24) : List (S24))).bind fun y358 => (cruciblelaw07_LexerStands.l1 k x5 (y358.set (x19 : Int).toNat (⟨(rd_T24 y358 x19).f0, (rd_T24 y358 x19).f1, (rd_T24 y358 x19).f2, (rd_T24 y358 x19).f3, (rd_T24 y358 x19).f4, (rd_T24 x5 x19).f5⟩ : S24)) (wrap64 (x19 + 1)))) else (none)) else (none)) else ((Z50.f k x5 x16).bind fun t361 => (if t361 = true then ((cruciblelaw07_awake.f k).bind fun t362 => (some t362)) else (some false)))
end
def cruciblelaw07_LexerStands.f (k : Nat) (a0 : ByteArray) (a1 : Int) : Option (Bool) := (Z44.f k a0).bind fun bt323 => (if bt323.2.2 = 0 then (cruciblelaw07_LexerStands.l0 k a0 a1 bt323.1 (([] : List Int)) 0 0) else (if (bt323.1.length : Int) = 0 then ((cruciblelaw07_awake.f k).bind fun t328 => (some t328)) else (some false)))
theorem cruciblelaw07_LexerStands.mono_l : ∀ k, (∀ y0 y1 y2 y3 y4 y5, LeO (cruciblelaw07_LexerStands.l0 k y0 y1 y2 y3 y4 y5) (cruciblelaw07_LexerStands.l0 (k + 1) y0 y1 y2 y3 y4 y5)) ∧ (∀ y0 y1 y2 y3 y4 y5 y6 y7 y8 y9 y10 y11 y12, LeO (cruciblelaw07_LexerStands.j1 k y0 y1 y2 y3 y4 y5 y6 y7 y8 y9 y10 y11 y12) (cruciblelaw07_LexerStands.j1 (k + 1) y0 y1 y2 y3 y4 y5 y6 y7 y8 y9 y10 y11 y12)) ∧ (∀ y0 y1 y2 y3 y4 y5 y6 y7 y8 y9 y10 y11 y12, LeO (cruciblelaw07_LexerStands.j2 k y0 y1 y2 y3 y4 y5 y6 y7 y8 y9 y10 y11 y12) (cruciblelaw07_LexerStands.j2 (k + 1) y0 y1 y2 y3 y4 y5 y6 y7 y8 y9 y10 y11 y12)) ∧ (∀ y0 y1 y2, LeO (cruciblelaw07_LexerStands.j3 k y0 y1 y2) (cruciblelaw07_LexerStands.j3 (k + 1) y0 y1 y2)) ∧ (∀ y0 y1 y2, LeO (cruciblelaw07_LexerStands.l1 k y0 y1 y2) (cruciblelaw07_LexerStands.l1 (k + 1) y0 y1 y2))
 | 0 => ⟨fun _ _ _ _ _ _ r h => by simp [cruciblelaw07_LexerStands.l0] at h, fun _ _ _ _ _ _ _ _ _ _ _ _ _ r h => by simp [cruciblelaw07_LexerStands.j1] at h, fun _ _ _ _ _ _ _ _ _ _ _ _ _ r h => by simp [cruciblelaw07_LexerStands.j2] at h, fun _ _ _ r h => by simp [cruciblelaw07_LexerStands.j3] at h, fun _ _ _ r h => by simp [cruciblelaw07_LexerStands.l1] at h⟩
 | k + 1 => by
  obtain ⟨ih0, ih1, ih2, ih3, ih4⟩ := cruciblelaw07_LexerStands.mono_l k
  refine ⟨?_, ?_, ?_, ?_, ?_⟩
  · intro y0 y1 y2 y3 y4 y5
    unfold cruciblelaw07_LexerStands.l0
    repeat' first
    | (with_reducible exact ih0 _ _ _ _ _ _)
    | (with_reducible exact ih1 _ _ _ _ _ _ _ _ _ _ _ _ _)
    | (with_reducible exact ih2 _ _ _ _ _ _ _ _ _ _ _ _ _)
    | (with_reducible exact ih3 _ _ _)
    | (with_reducible exact ih4 _ _ _)
    | (with_reducible exact cruciblelaw07_awake.mono _)
    | (with_reducible exact Z50.mono _ _ _)
    | (with_reducible exact Z44.mono _ _)
    | (with_reducible exact LeO.refl _)
    | (with_reducible exact LeO.none _)
    | (with_reducible refine LeO.ite ?_ ?_)
    | (with_reducible refine LeO.bind ?_ (fun _ => ?_))
    | exact ih0 _ _ _ _ _ _
    | exact ih1 _ _ _ _ _ _ _ _ _ _ _ _ _
    | exact ih2 _ _ _ _ _ _ _ _ _ _ _ _ _
    | exact ih3 _ _ _
    | exact ih4 _ _ _
    | exact cruciblelaw07_awake.mono _
    | exact Z50.mono _ _ _
    | exact Z44.mono _ _
    | exact LeO.none _
    | refine LeO.ite ?_ ?_
    | refine LeO.bind ?_ (fun _ => ?_)
  · intro y0 y1 y2 y3 y4 y5 y6 y7 y8 y9 y10 y11 y12
    unfold cruciblelaw07_LexerStands.j1
    repeat' first
    | (with_reducible exact ih0 _ _ _ _ _ _)
    | (with_reducible exact ih1 _ _ _ _ _ _ _ _ _ _ _ _ _)
    | (with_reducible exact ih2 _ _ _ _ _ _ _ _ _ _ _ _ _)
    | (with_reducible exact ih3 _ _ _)
    | (with_reducible exact ih4 _ _ _)
    | (with_reducible exact cruciblelaw07_awake.mono _)
    | (with_reducible exact Z50.mono _ _ _)
    | (with_reducible exact Z44.mono _ _)
    | (with_reducible exact LeO.refl _)
    | (with_reducible exact LeO.none _)
    | (with_reducible refine LeO.ite ?_ ?_)
    | (with_reducible refine LeO.bind ?_ (fun _ => ?_))
    | exact ih0 _ _ _ _ _ _
    | exact ih1 _ _ _ _ _ _ _ _ _ _ _ _ _
    | exact ih2 _ _ _ _ _ _ _ _ _ _ _ _ _
    | exact ih3 _ _ _
    | exact ih4 _ _ _
    | exact cruciblelaw07_awake.mono _
    | exact Z50.mono _ _ _
    | exact Z44.mono _ _
    | exact LeO.none _
    | refine LeO.ite ?_ ?_
    | refine LeO.bind ?_ (fun _ => ?_)
  · intro y0 y1 y2 y3 y4 y5 y6 y7 y8 y9 y10 y11 y12
    unfold cruciblelaw07_LexerStands.j2
    repeat' first
    | (with_reducible exact ih0 _ _ _ _ _ _)
    | (with_reducible exact ih1 _ _ _ _ _ _ _ _ _ _ _ _ _)
    | (with_reducible exact ih2 _ _ _ _ _ _ _ _ _ _ _ _ _)
    | (with_reducible exact ih3 _ _ _)
    | (with_reducible exact ih4 _ _ _)
    | (with_reducible exact cruciblelaw07_awake.mono _)
    | (with_reducible exact Z50.mono _ _ _)
    | (with_reducible exact Z44.mono _ _)
    | (with_reducible exact LeO.refl _)
    | (with_reducible exact LeO.none _)
    | (with_reducible refine LeO.ite ?_ ?_)
    | (with_reducible refine LeO.bind ?_ (fun _ => ?_))
    | exact ih0 _ _ _ _ _ _
    | exact ih1 _ _ _ _ _ _ _ _ _ _ _ _ _
    | exact ih2 _ _ _ _ _ _ _ _ _ _ _ _ _
    | exact ih3 _ _ _
    | exact ih4 _ _ _
    | exact cruciblelaw07_awake.mono _
    | exact Z50.mono _ _ _
    | exact Z44.mono _ _
    | exact LeO.none _
    | refine LeO.ite ?_ ?_
    | refine LeO.bind ?_ (fun _ => ?_)
  · intro y0 y1 y2
    unfold cruciblelaw07_LexerStands.j3
    repeat' first
    | (with_reducible exact ih0 _ _ _ _ _ _)
    | (with_reducible exact ih1 _ _ _ _ _ _ _ _ _ _ _ _ _)
    | (with_reducible exact ih2 _ _ _ _ _ _ _ _ _ _ _ _ _)
    | (with_reducible exact ih3 _ _ _)
    | (with_reducible exact ih4 _ _ _)
    | (with_reducible exact cruciblelaw07_awake.mono _)
    | (with_reducible exact Z50.mono _ _ _)
    | (with_reducible exact Z44.mono _ _)
    | (with_reducible exact LeO.refl _)
    | (with_reducible exact LeO.none _)
    | (with_reducible refine LeO.ite ?_ ?_)
    | (with_reducible refine LeO.bind ?_ (fun _ => ?_))
    | exact ih0 _ _ _ _ _ _
    | exact ih1 _ _ _ _ _ _ _ _ _ _ _ _ _
    | exact ih2 _ _ _ _ _ _ _ _ _ _ _ _ _
    | exact ih3 _ _ _
    | exact ih4 _ _ _
    | exact cruciblelaw07_awake.mono _
    | exact Z50.mono _ _ _
    | exact Z44.mono _ _
    | exact LeO.none _
    | refine LeO.ite ?_ ?_
    | refine LeO.bind ?_ (fun _ => ?_)
  · intro y0 y1 y2
    unfold cruciblelaw07_LexerStands.l1
    repeat' first
    | (with_reducible exact ih0 _ _ _ _ _ _)
    | (with_reducible exact ih1 _ _ _ _ _ _ _ _ _ _ _ _ _)
    | (with_reducible exact ih2 _ _ _ _ _ _ _ _ _ _ _ _ _)
    | (with_reducible exact ih3 _ _ _)
    | (with_reducible exact ih4 _ _ _)
    | (with_reducible exact cruciblelaw07_awake.mono _)
    | (with_reducible exact Z50.mono _ _ _)
    | (with_reducible exact Z44.mono _ _)
    | (with_reducible exact LeO.refl _)
    | (with_reducible exact LeO.none _)
    | (with_reducible refine LeO.ite ?_ ?_)
    | (with_reducible refine LeO.bind ?_ (fun _ => ?_))
    | exact ih0 _ _ _ _ _ _
    | exact ih1 _ _ _ _ _ _ _ _ _ _ _ _ _
    | exact ih2 _ _ _ _ _ _ _ _ _ _ _ _ _
    | exact ih3 _ _ _
    | exact ih4 _ _ _
    | exact cruciblelaw07_awake.mono _
    | exact Z50.mono _ _ _
    | exact Z44.mono _ _
    | exact LeO.none _
    | refine LeO.ite ?_ ?_
    | refine LeO.bind ?_ (fun _ => ?_)
theorem cruciblelaw07_LexerStands.mono : ∀ a0 a1 k, LeO (cruciblelaw07_LexerStands.f k a0 a1) (cruciblelaw07_LexerStands.f (k + 1) a0 a1) := by
 intro a0 a1 k
 obtain ⟨ih0, ih1, ih2, ih3, ih4⟩ := cruciblelaw07_LexerStands.mono_l k
 unfold cruciblelaw07_LexerStands.f
 repeat' first
  | (with_reducible exact ih0 _ _ _ _ _ _)
  | (with_reducible exact ih1 _ _ _ _ _ _ _ _ _ _ _ _ _)
  | (with_reducible exact ih2 _ _ _ _ _ _ _ _ _ _ _ _ _)
  | (with_reducible exact ih3 _ _ _)
  | (with_reducible exact ih4 _ _ _)
  | (with_reducible exact cruciblelaw07_awake.mono _)
  | (with_reducible exact Z50.mono _ _ _)
  | (with_reducible exact Z44.mono _ _)
  | (with_reducible exact LeO.refl _)
  | (with_reducible exact LeO.none _)
  | (with_reducible refine LeO.ite ?_ ?_)
  | (with_reducible refine LeO.bind ?_ (fun _ => ?_))
  | exact ih0 _ _ _ _ _ _
  | exact ih1 _ _ _ _ _ _ _ _ _ _ _ _ _
  | exact ih2 _ _ _ _ _ _ _ _ _ _ _ _ _
  | exact ih3 _ _ _
  | exact ih4 _ _ _
  | exact cruciblelaw07_awake.mono _
  | exact Z50.mono _ _ _
  | exact Z44.mono _ _
  | exact LeO.none _
  | refine LeO.ite ?_ ?_
  | refine LeO.bind ?_ (fun _ => ?_)
set_option maxHeartbeats 8000000 in
set_option maxRecDepth 100000 in
theorem cruciblelaw07_LexerStands.calls (k : Nat) (a0 : ByteArray) (a1 : Int) (r : Bool) (w : World) (hG : PremW w) (h : cruciblelaw07_LexerStands.f k a0 a1 = some r) :
 Calls Tryd.prog 5 #[.string a0, .int .u8 a1] w fun e w' => e = .returned (.bool r) ∧ Below w.heap.size w w' := by
 have hu24 := Tryd.underlying24
 have HG := Aside0.mk hG
 clear hG
 have HB := Aside0.mk (Below.refl w.heap.size w)
 have H : ((Z44.f k a0).bind fun bt323 => (if bt323.2.2 = 0 then (cruciblelaw07_LexerStands.l0 k a0 a1 bt323.1 (([] : List Int)) 0 0) else (if (bt323.1.length : Int) = 0 then ((cruciblelaw07_awake.f k).bind fun t328 => (some t328)) else (some false)))) = some r := h
 clear h
 replace H := Option.bind_eq_some_iff.mp H
 obtain ⟨⟨t323, t324, t325⟩, A30, H⟩ := H
 replace H : (if t325 = 0 then (cruciblelaw07_LexerStands.l0 k a0 a1 t323 (([] : List Int)) 0 0) else (if (t323.length : Int) = 0 then ((cruciblelaw07_awake.f k).bind fun t328 => (some t328)) else (some false))) = some r := H
 have A3 := Aside0.mk A30
 clear A30
 by_cases c4 : t325 = 0
 · rw [if_pos c4] at H
   have c4b0 : (t325 == 0) = true := beq_iff_eq.mpr c4
   have c4b1 : (t325 != 0) = false := bne_eq_false_iff_eq.mpr c4
   clear c4
   obtain ⟨y329, hy329⟩ : ∃ y_ : List Int, y_ = (([] : List Int)) := ⟨_, rfl⟩
   replace H : (cruciblelaw07_LexerStands.l0 k a0 a1 t323 y329 0 0) = some r := by first | (rw [hy329]; with_reducible exact H) | (have H2_ := (Option.bind_some _ _).symm.trans H; rw [hy329]; with_reducible exact H2_) | (have H2_ := (Option.bind_some _ _).symm.trans H; with_reducible exact H2_) | with_reducible exact H | (rw [hy329]; exact H) | exact H
   have Ny329 := Aside0.mk hy329
   clear hy329
   have H' := Aside0.mk H
   clear H
   go_enter Tryd.func5, Tryd.ntmps5
   go_wp2_with (first | ((with_reducible refine Z14 (f := 12) rfl ?_); refine goesL_ (some 22) rfl rfl Tryd.func12 (by kernel_rfl) rfl #[.string a0] rfl (by (try simp only [List.map_toArray, List.map_cons, List.map_nil]); first | done | rfl | (simp only [List.length_drop, List.length_take]; rfl)) ?_; (with_reducible refine (Z44.calls k a0 t323 t324 t325 _ ?side1 A3.out).mono ?_); (case side1 => refine PremW.below HG.out ?_; repeat (first | (with_reducible first | exact HB.out | apply Z7 | apply Z4 | apply Z6) | exact HB.out)); rintro e w5 ⟨v326, rfl, ho0, hb⟩; refine ⟨_, rfl, ?_⟩; have n0_ := Aside0.mk (Kd.R_lower ho0 (Z27 (by repeat (first | (with_reducible first | exact HB.out | apply Z7 | apply Z4 | apply Z6) | exact HB.out)))); have n1_ := Aside0.mk (Z25 (by repeat (first | (with_reducible first | exact HB.out | apply Z7 | apply Z4 | apply Z6) | exact HB.out)) hb); clear HB; have HO327 := n0_; have HB := n1_; clear n0_ n1_; (try clear hb); (try clear hb2); (try clear hk); (try clear hi); (try clear ho0)) | ((with_reducible refine Z52 (N := 34) rfl ?_); (try (refine Z66 (by rfl) ?_; dsimp only)); refine Kd.R_lit (Kd.int .u8) _ 5 ?hg (N := 34) ?hd (xs := ([] : List Int)) (inner := []) (ok := fun _ => True) (okp := fun _ => True) ?hr ?hp (fun _ hk => hk) trivial (Below.refl _ _) (Nat.le_refl _) (by simp) ?_; (case hd => rfl); (case hg => rfl); (case hr => first | (go_simp; done) | (go_simp; rfl)); (case hp => exact (Reps.none _ _)); intro v330 w6 ho7 hb hg_ hnew_; clear hg_ hnew_; (first | rw [← Ny329.out] at ho7 | (simp only [Int.reduceToNat] at ho7; rw [← Ny329.out] at ho7)); have n0_ := Aside0.mk (Kd.R_below (by (with_reducible repeat (first | apply Kd.R_alloc | apply Kd.R_drewN | apply Kd.R_drew)); exact HO327.out) hb); have n1_ := Aside0.mk (Kd.R_lower ho7 (Z27 (by repeat (first | (with_reducible first | exact HB.out | apply Z7 | apply Z4 | apply Z6) | exact HB.out)))); have n2_ := Aside0.mk (Z25 (by repeat (first | (with_reducible first | exact HB.out | apply Z7 | apply Z4 | apply Z6) | exact HB.out)) hb); clear HO327; clear HB; have HO327 := n0_; have HO331 := n1_; have HB := n2_; clear n0_ n1_ n2_; clear hb ho7))
   go_loopg [8, 9, 10] k (fun kq v8 v9 v10 w' => ∃ (x8_1 : List Int) (x9_1 : Int) (x10_1 : Int), v9 = .int .i64 x9_1 ∧ v10 = .int .i64 x10_1 ∧ Aside0 (cruciblelaw07_LexerStands.l0 kq a0 a1 t323 x8_1 x9_1 x10_1 = some r) ∧ Aside0 (kq ≤ k) ∧ Aside0 (Kd.R k24 24 w' w.heap.size (fun _ => True) v326 t323) ∧ Aside0 (Kd.R (Kd.int .u8) 5 w' w.heap.size (fun _ => True) v8 x8_1) ∧ Aside0 (Below w.heap.size w w'))
   case atStart => exact ⟨(y329), (0), (0), (by first | rfl | (simp; done) | (simp [*]; done)), (by first | rfl | (simp; done) | (simp [*]; done)), H', ⟨Nat.le_refl _⟩, ⟨by (with_reducible repeat (first | apply Kd.R_alloc | apply Kd.R_drewN | apply Kd.R_drew)); exact HO327.out⟩, ⟨by (with_reducible repeat (first | apply Kd.R_alloc | apply Kd.R_drewN | apply Kd.R_drew)); exact HO331.out⟩, ⟨by repeat (first | (with_reducible first | exact HB.out | apply Z7 | apply Z4 | apply Z6) | exact HB.out)⟩⟩
   case round =>
    clear H'
    try clear c4
    try clear c4b0
    try clear c4b1
    obtain ⟨x8_1, x9_1, x10_1, rfl, rfl, HA, HK1, HO_5, HO_8, HB⟩ := hrel
    cases gk with
    | zero => exact absurd HA.out (by simp [cruciblelaw07_LexerStands.l0])
    | succ k1 =>
     have H := HA.out
     clear HA
     simp only [cruciblelaw07_LexerStands.l0] at H
     by_cases c8 : x10_1 < (t323.length : Int)
     · rw [if_pos c8] at H
       have c8b0 : decide (x10_1 < (t323.length : Int)) = true := decide_eq_true c8
       clear c8
       by_cases c9 : 0 ≤ x10_1
       · rw [if_pos c9] at H
         have c9b0 : decide (0 ≤ x10_1) = true := decide_eq_true c9
         clear c9
         have HC10 := Aside0.mk H
         clear H
         obtain ⟨Ao11, co11, eo11⟩ := Kd.R_slice HO_5.out
         subst eo11
         have p332 : 0 ≤ (x10_1 : Int) := of_decide_eq_true (by first | (with_reducible assumption) | assumption)
         have q332 : x10_1 < (t323.length : Int) := of_decide_eq_true (by first | (with_reducible assumption) | assumption)
         obtain ⟨ad332, e332, hx332_0, hx332_1, hx332_2, hx332_3, hx332_4, hx332_5⟩ := at_T24 (Kd.R_reads' HO_5.out).2.2 x10_1 p332 q332
         cases e332
         replace p332 := eq_true p332
         replace q332 := eq_true q332
         go_upto_region 10 with (first | ((with_reducible refine Z52 (N := 11) rfl ?_); (try (refine Z66 (by rfl) ?_; dsimp only)); refine Z51 ?hg (N := 11) ?hd (cs := #[.int .i64 0, .string (⟨#[]⟩ : ByteArray), .int .u32 0, .bool false, .int .i64 0, .int .i64 0]) (t := 24) ?hr ?_; (case hd => rfl); (case hg => rfl); (case hr => first | (go_simp; done) | (go_simp; rfl)); intro gb333 hg w12 hbox hb; have n0_ := Aside0.mk (Kd.R_below (Kd.R_elderB (by (with_reducible repeat (first | apply Kd.R_alloc | apply Kd.R_drewN | apply Kd.R_drew)); exact HO_5.out) gb333 (Nat.le_of_eq hg.symm)) hb); have n1_ := Aside0.mk (Kd.R_below (by (with_reducible repeat (first | apply Kd.R_alloc | apply Kd.R_drewN | apply Kd.R_drew)); exact HO_8.out) hb); have n2_ := Aside0.mk (Z25 (by repeat (first | (with_reducible first | exact HB.out | apply Z7 | apply Z4 | apply Z6) | exact HB.out)) hb); have n3_ := Aside0.mk (hbox); have n4_ := Aside0.mk ((by rw [hg]; exact (Z27 (by repeat (first | (with_reducible first | exact HB.out | apply Z7 | apply Z4 | apply Z6) | exact HB.out))) : w.heap.size ≤ gb333)); have n5_ := Aside0.mk ((by rw [hg]; exact (Z27 (by repeat (first | (with_reducible first | exact HB.out | apply Z7 | apply Z4 | apply Z6) | exact HB.out))) : w.heap.size ≤ gb333)); clear HO_5; clear HO_8; clear HB; have HO_5 := n0_; have HO_8 := n1_; have HB := n2_; have BK333 := n3_; have GW333 := n4_; have GE333 := n5_; clear n0_ n1_ n2_ n3_ n4_ n5_; clear hb hbox hg; have hcz13_0 : w12.cell? ⟨gb333, 0, none⟩ = some (.int .i64 0) := (Z5 BK333.out 0).trans rfl; have hcz13_1 : w12.cell? ⟨gb333, 1, none⟩ = some (.string (⟨#[]⟩ : ByteArray)) := (Z5 BK333.out 1).trans rfl; have hcz13_2 : w12.cell? ⟨gb333, 2, none⟩ = some (.int .u32 0) := (Z5 BK333.out 2).trans rfl; have hcz13_3 : w12.cell? ⟨gb333, 3, none⟩ = some (.bool false) := (Z5 BK333.out 3).trans rfl; have hcz13_4 : w12.cell? ⟨gb333, 4, none⟩ = some (.int .i64 0) := (Z5 BK333.out 4).trans rfl; have hcz13_5 : w12.cell? ⟨gb333, 5, none⟩ = some (.int .i64 0) := (Z5 BK333.out 5).trans rfl; have hfz13_0 := Z2 BK333.out 0; have hfz13_1 := Z2 BK333.out 1; have hfz13_2 := Z2 BK333.out 2; have hfz13_3 := Z2 BK333.out 3; have hfz13_4 := Z2 BK333.out 4; have hfz13_5 := Z2 BK333.out 5))
         (try simp only [Act.put, List.setIfInBounds_toArray, List.set_cons_zero, List.set_cons_succ])
         go_cut [66] (fun v66 wc => ∃ (kq : Nat) (x66_9 : Bool), v66 = .bool x66_9 ∧ Aside0 (cruciblelaw07_LexerStands.j1 kq a0 a1 t323 x8_1 x9_1 x10_1 x66_9 ((rd_T24 t323 x10_1).f0) ((rd_T24 t323 x10_1).f1) ((rd_T24 t323 x10_1).f2) ((rd_T24 t323 x10_1).f3) ((rd_T24 t323 x10_1).f4) ((rd_T24 t323 x10_1).f5) = some r) ∧ Aside0 (kq ≤ k1) ∧ Aside0 (Kd.R k24 24 wc w.heap.size (fun k_ => k_ ≠ gb333) (.slice (some ad332) t323.length co11) t323) ∧ Aside0 (Kd.R (Kd.int .u8) 5 wc w.heap.size (fun _ => True) u8 x8_1) ∧ Aside0 (wc.heap[gb333]? = some (.cells #[.int .i64 ((rd_T24 t323 x10_1).f0), .string ((rd_T24 t323 x10_1).f1), .int .u32 ((rd_T24 t323 x10_1).f2), .bool ((rd_T24 t323 x10_1).f3), .int .i64 ((rd_T24 t323 x10_1).f4), .int .i64 ((rd_T24 t323 x10_1).f5)] 24 (0, 0))) ∧ Aside0 (Below w.heap.size w wc))
         case first =>
          have H := HC10.out
          clear HC10
          by_cases c14 : ((rd_T24 t323 x10_1).f4) < x9_1
          · rw [if_pos c14] at H
            have c14b0 : decide (((rd_T24 t323 x10_1).f4) < x9_1) = true := decide_eq_true c14
            clear c14
            (first | rw [c14b0] | (simp only [i64_w, i32_w]; rw [c14b0]) | skip)
            have H' := Aside0.mk H
            clear H
            have hcz15_0 : w12.cell? ⟨gb333, 0, none⟩ = some (.int .i64 0) := (Z5 BK333.out 0).trans rfl
            have hcz15_1 : w12.cell? ⟨gb333, 1, none⟩ = some (.string (⟨#[]⟩ : ByteArray)) := (Z5 BK333.out 1).trans rfl
            have hcz15_2 : w12.cell? ⟨gb333, 2, none⟩ = some (.int .u32 0) := (Z5 BK333.out 2).trans rfl
            have hcz15_3 : w12.cell? ⟨gb333, 3, none⟩ = some (.bool false) := (Z5 BK333.out 3).trans rfl
            have hcz15_4 : w12.cell? ⟨gb333, 4, none⟩ = some (.int .i64 0) := (Z5 BK333.out 4).trans rfl
            have hcz15_5 : w12.cell? ⟨gb333, 5, none⟩ = some (.int .i64 0) := (Z5 BK333.out 5).trans rfl
            have hfz15_0 := Z2 BK333.out 0
            have hfz15_1 := Z2 BK333.out 1
            have hfz15_2 := Z2 BK333.out 2
            have hfz15_3 := Z2 BK333.out 3
            have hfz15_4 := Z2 BK333.out 4
            have hfz15_5 := Z2 BK333.out 5
            go_wp2
            go_meet
            case rel => exact ⟨_, (true), (by first | rfl | (simp; done) | (simp [*]; done)), H', ⟨by have := HK1.out; first | omega | exact Nat.le_refl _⟩, ⟨by (with_reducible repeat (first | apply Kd.R_alloc | apply Kd.R_drewN | apply Kd.R_drew)); exact Kd.R_mono (Kd.R_far (p := ⟨gb333, 5, none⟩) (Kd.R_far (p := ⟨gb333, 4, none⟩) (Kd.R_far (p := ⟨gb333, 3, none⟩) (Kd.R_far (p := ⟨gb333, 2, none⟩) (Kd.R_far (p := ⟨gb333, 1, none⟩) (Kd.R_far (p := ⟨gb333, 0, none⟩) (Kd.R_mono HO_5.out (fun k_ hk => (⟨hk, hk.2⟩ : _ ∧ k_ ≠ gb333))) (fun _ hk => hk.2) (.int .i64 ((rd_T24 t323 x10_1).f0))) (fun _ hk => hk.2) (.string ((rd_T24 t323 x10_1).f1))) (fun _ hk => hk.2) (.int .u32 ((rd_T24 t323 x10_1).f2))) (fun _ hk => hk.2) (.bool ((rd_T24 t323 x10_1).f3))) (fun _ hk => hk.2) (.int .i64 ((rd_T24 t323 x10_1).f4))) (fun _ hk => hk.2) (.int .i64 ((rd_T24 t323 x10_1).f5))) (fun _ hk => hk.1.2)⟩, ⟨by (with_reducible repeat (first | apply Kd.R_alloc | apply Kd.R_drewN | apply Kd.R_drew)); exact Kd.R_mono (Kd.R_far (p := ⟨gb333, 5, none⟩) (Kd.R_far (p := ⟨gb333, 4, none⟩) (Kd.R_far (p := ⟨gb333, 3, none⟩) (Kd.R_far (p := ⟨gb333, 2, none⟩) (Kd.R_far (p := ⟨gb333, 1, none⟩) (Kd.R_far (p := ⟨gb333, 0, none⟩) (Kd.R_types HO_8.out BK333.out (by decide)) (fun _ hk => hk.2) (.int .i64 ((rd_T24 t323 x10_1).f0))) (fun _ hk => hk.2) (.string ((rd_T24 t323 x10_1).f1))) (fun _ hk => hk.2) (.int .u32 ((rd_T24 t323 x10_1).f2))) (fun _ hk => hk.2) (.bool ((rd_T24 t323 x10_1).f3))) (fun _ hk => hk.2) (.int .i64 ((rd_T24 t323 x10_1).f4))) (fun _ hk => hk.2) (.int .i64 ((rd_T24 t323 x10_1).f5))) (fun _ hk => trivial)⟩, ⟨by (with_reducible repeat (first | refine Z0 ?_ _ | refine Z3 ?_ | refine Z1 ?_ _)); refine Z9 (cs := #[.int .i64 ((rd_T24 t323 x10_1).f0), .string ((rd_T24 t323 x10_1).f1), .int .u32 ((rd_T24 t323 x10_1).f2), .bool ((rd_T24 t323 x10_1).f3), .int .i64 ((rd_T24 t323 x10_1).f4), .int .i64 0]) ?_ 5 _ rfl; (with_reducible repeat (first | refine Z0 ?_ _ | refine Z3 ?_ | refine Z1 ?_ _)); refine Z9 (cs := #[.int .i64 ((rd_T24 t323 x10_1).f0), .string ((rd_T24 t323 x10_1).f1), .int .u32 ((rd_T24 t323 x10_1).f2), .bool ((rd_T24 t323 x10_1).f3), .int .i64 0, .int .i64 0]) ?_ 4 _ rfl; (with_reducible repeat (first | refine Z0 ?_ _ | refine Z3 ?_ | refine Z1 ?_ _)); refine Z9 (cs := #[.int .i64 ((rd_T24 t323 x10_1).f0), .string ((rd_T24 t323 x10_1).f1), .int .u32 ((rd_T24 t323 x10_1).f2), .bool false, .int .i64 0, .int .i64 0]) ?_ 3 _ rfl; (with_reducible repeat (first | refine Z0 ?_ _ | refine Z3 ?_ | refine Z1 ?_ _)); refine Z9 (cs := #[.int .i64 ((rd_T24 t323 x10_1).f0), .string ((rd_T24 t323 x10_1).f1), .int .u32 0, .bool false, .int .i64 0, .int .i64 0]) ?_ 2 _ rfl; (with_reducible repeat (first | refine Z0 ?_ _ | refine Z3 ?_ | refine Z1 ?_ _)); refine Z9 (cs := #[.int .i64 ((rd_T24 t323 x10_1).f0), .string (⟨#[]⟩ : ByteArray), .int .u32 0, .bool false, .int .i64 0, .int .i64 0]) ?_ 1 _ rfl; (with_reducible repeat (first | refine Z0 ?_ _ | refine Z3 ?_ | refine Z1 ?_ _)); refine Z9 (cs := #[.int .i64 0, .string (⟨#[]⟩ : ByteArray), .int .u32 0, .bool false, .int .i64 0, .int .i64 0]) ?_ 0 _ rfl; (with_reducible repeat (first | refine Z0 ?_ _ | refine Z3 ?_ | refine Z1 ?_ _)); exact BK333.out⟩, ⟨by repeat (first | (with_reducible first | exact HB.out | apply Z7 | apply Z4 | apply Z6 | refine Z8 ?_ GE333.out) | exact HB.out)⟩⟩
          · rw [if_neg c14] at H
            have c14b0 : decide (((rd_T24 t323 x10_1).f4) < x9_1) = false := decide_eq_false c14
            clear c14
            (first | rw [c14b0] | (simp only [i64_w, i32_w]; rw [c14b0]) | skip)
            by_cases c16 : ((rd_T24 t323 x10_1).f5) < ((rd_T24 t323 x10_1).f4)
            · rw [if_pos c16] at H
              have c16b0 : decide (((rd_T24 t323 x10_1).f5) < ((rd_T24 t323 x10_1).f4)) = true := decide_eq_true c16
              clear c16
              have H' := Aside0.mk H
              clear H
              have hcz17_0 : w12.cell? ⟨gb333, 0, none⟩ = some (.int .i64 0) := (Z5 BK333.out 0).trans rfl
              have hcz17_1 : w12.cell? ⟨gb333, 1, none⟩ = some (.string (⟨#[]⟩ : ByteArray)) := (Z5 BK333.out 1).trans rfl
              have hcz17_2 : w12.cell? ⟨gb333, 2, none⟩ = some (.int .u32 0) := (Z5 BK333.out 2).trans rfl
              have hcz17_3 : w12.cell? ⟨gb333, 3, none⟩ = some (.bool false) := (Z5 BK333.out 3).trans rfl
              have hcz17_4 : w12.cell? ⟨gb333, 4, none⟩ = some (.int .i64 0) := (Z5 BK333.out 4).trans rfl
              have hcz17_5 : w12.cell? ⟨gb333, 5, none⟩ = some (.int .i64 0) := (Z5 BK333.out 5).trans rfl
              have hfz17_0 := Z2 BK333.out 0
              have hfz17_1 := Z2 BK333.out 1
              have hfz17_2 := Z2 BK333.out 2
              have hfz17_3 := Z2 BK333.out 3
              have hfz17_4 := Z2 BK333.out 4
              have hfz17_5 := Z2 BK333.out 5
              go_wp2
              go_meet
              case rel => exact ⟨_, (true), (by first | rfl | (simp; done) | (simp [*]; done)), H', ⟨by have := HK1.out; first | omega | exact Nat.le_refl _⟩, ⟨by (with_reducible repeat (first | apply Kd.R_alloc | apply Kd.R_drewN | apply Kd.R_drew)); exact Kd.R_mono (Kd.R_far (p := ⟨gb333, 5, none⟩) (Kd.R_far (p := ⟨gb333, 4, none⟩) (Kd.R_far (p := ⟨gb333, 3, none⟩) (Kd.R_far (p := ⟨gb333, 2, none⟩) (Kd.R_far (p := ⟨gb333, 1, none⟩) (Kd.R_far (p := ⟨gb333, 0, none⟩) (Kd.R_mono HO_5.out (fun k_ hk => (⟨hk, hk.2⟩ : _ ∧ k_ ≠ gb333))) (fun _ hk => hk.2) (.int .i64 ((rd_T24 t323 x10_1).f0))) (fun _ hk => hk.2) (.string ((rd_T24 t323 x10_1).f1))) (fun _ hk => hk.2) (.int .u32 ((rd_T24 t323 x10_1).f2))) (fun _ hk => hk.2) (.bool ((rd_T24 t323 x10_1).f3))) (fun _ hk => hk.2) (.int .i64 ((rd_T24 t323 x10_1).f4))) (fun _ hk => hk.2) (.int .i64 ((rd_T24 t323 x10_1).f5))) (fun _ hk => hk.1.2)⟩, ⟨by (with_reducible repeat (first | apply Kd.R_alloc | apply Kd.R_drewN | apply Kd.R_drew)); exact Kd.R_mono (Kd.R_far (p := ⟨gb333, 5, none⟩) (Kd.R_far (p := ⟨gb333, 4, none⟩) (Kd.R_far (p := ⟨gb333, 3, none⟩) (Kd.R_far (p := ⟨gb333, 2, none⟩) (Kd.R_far (p := ⟨gb333, 1, none⟩) (Kd.R_far (p := ⟨gb333, 0, none⟩) (Kd.R_types HO_8.out BK333.out (by decide)) (fun _ hk => hk.2) (.int .i64 ((rd_T24 t323 x10_1).f0))) (fun _ hk => hk.2) (.string ((rd_T24 t323 x10_1).f1))) (fun _ hk => hk.2) (.int .u32 ((rd_T24 t323 x10_1).f2))) (fun _ hk => hk.2) (.bool ((rd_T24 t323 x10_1).f3))) (fun _ hk => hk.2) (.int .i64 ((rd_T24 t323 x10_1).f4))) (fun _ hk => hk.2) (.int .i64 ((rd_T24 t323 x10_1).f5))) (fun _ hk => trivial)⟩, ⟨by (with_reducible repeat (first | refine Z0 ?_ _ | refine Z3 ?_ | refine Z1 ?_ _)); refine Z9 (cs := #[.int .i64 ((rd_T24 t323 x10_1).f0), .string ((rd_T24 t323 x10_1).f1), .int .u32 ((rd_T24 t323 x10_1).f2), .bool ((rd_T24 t323 x10_1).f3), .int .i64 ((rd_T24 t323 x10_1).f4), .int .i64 0]) ?_ 5 _ rfl; (with_reducible repeat (first | refine Z0 ?_ _ | refine Z3 ?_ | refine Z1 ?_ _)); refine Z9 (cs := #[.int .i64 ((rd_T24 t323 x10_1).f0), .string ((rd_T24 t323 x10_1).f1), .int .u32 ((rd_T24 t323 x10_1).f2), .bool ((rd_T24 t323 x10_1).f3), .int .i64 0, .int .i64 0]) ?_ 4 _ rfl; (with_reducible repeat (first | refine Z0 ?_ _ | refine Z3 ?_ | refine Z1 ?_ _)); refine Z9 (cs := #[.int .i64 ((rd_T24 t323 x10_1).f0), .string ((rd_T24 t323 x10_1).f1), .int .u32 ((rd_T24 t323 x10_1).f2), .bool false, .int .i64 0, .int .i64 0]) ?_ 3 _ rfl; (with_reducible repeat (first | refine Z0 ?_ _ | refine Z3 ?_ | refine Z1 ?_ _)); refine Z9 (cs := #[.int .i64 ((rd_T24 t323 x10_1).f0), .string ((rd_T24 t323 x10_1).f1), .int .u32 0, .bool false, .int .i64 0, .int .i64 0]) ?_ 2 _ rfl; (with_reducible repeat (first | refine Z0 ?_ _ | refine Z3 ?_ | refine Z1 ?_ _)); refine Z9 (cs := #[.int .i64 ((rd_T24 t323 x10_1).f0), .string (⟨#[]⟩ : ByteArray), .int .u32 0, .bool false, .int .i64 0, .int .i64 0]) ?_ 1 _ rfl; (with_reducible repeat (first | refine Z0 ?_ _ | refine Z3 ?_ | refine Z1 ?_ _)); refine Z9 (cs := #[.int .i64 0, .string (⟨#[]⟩ : ByteArray), .int .u32 0, .bool false, .int .i64 0, .int .i64 0]) ?_ 0 _ rfl; (with_reducible repeat (first | refine Z0 ?_ _ | refine Z3 ?_ | refine Z1 ?_ _)); exact BK333.out⟩, ⟨by repeat (first | (with_reducible first | exact HB.out | apply Z7 | apply Z4 | apply Z6 | refine Z8 ?_ GE333.out) | exact HB.out)⟩⟩
            · rw [if_neg c16] at H
              have c16b0 : decide (((rd_T24 t323 x10_1).f5) < ((rd_T24 t323 x10_1).f4)) = false := decide_eq_false c16
              clear c16
              have H' := Aside0.mk H
              clear H
              have hcz18_0 : w12.cell? ⟨gb333, 0, none⟩ = some (.int .i64 0) := (Z5 BK333.out 0).trans rfl
              have hcz18_1 : w12.cell? ⟨gb333, 1, none⟩ = some (.string (⟨#[]⟩ : ByteArray)) := (Z5 BK333.out 1).trans rfl
              have hcz18_2 : w12.cell? ⟨gb333, 2, none⟩ = some (.int .u32 0) := (Z5 BK333.out 2).trans rfl
              have hcz18_3 : w12.cell? ⟨gb333, 3, none⟩ = some (.bool false) := (Z5 BK333.out 3).trans rfl
              have hcz18_4 : w12.cell? ⟨gb333, 4, none⟩ = some (.int .i64 0) := (Z5 BK333.out 4).trans rfl
              have hcz18_5 : w12.cell? ⟨gb333, 5, none⟩ = some (.int .i64 0) := (Z5 BK333.out 5).trans rfl
              have hfz18_0 := Z2 BK333.out 0
              have hfz18_1 := Z2 BK333.out 1
              have hfz18_2 := Z2 BK333.out 2
              have hfz18_3 := Z2 BK333.out 3
              have hfz18_4 := Z2 BK333.out 4
              have hfz18_5 := Z2 BK333.out 5
              go_wp2
              go_meet
              case rel => exact ⟨_, (((((rd_T24 t323 x10_1).f5) == ((rd_T24 t323 x10_1).f4)) != (((rd_T24 t323 x10_1).f0) == 1))), (by first | rfl | (simp; done) | (simp [*]; done)), H', ⟨by have := HK1.out; first | omega | exact Nat.le_refl _⟩, ⟨by (with_reducible repeat (first | apply Kd.R_alloc | apply Kd.R_drewN | apply Kd.R_drew)); exact Kd.R_mono (Kd.R_far (p := ⟨gb333, 5, none⟩) (Kd.R_far (p := ⟨gb333, 4, none⟩) (Kd.R_far (p := ⟨gb333, 3, none⟩) (Kd.R_far (p := ⟨gb333, 2, none⟩) (Kd.R_far (p := ⟨gb333, 1, none⟩) (Kd.R_far (p := ⟨gb333, 0, none⟩) (Kd.R_mono HO_5.out (fun k_ hk => (⟨hk, hk.2⟩ : _ ∧ k_ ≠ gb333))) (fun _ hk => hk.2) (.int .i64 ((rd_T24 t323 x10_1).f0))) (fun _ hk => hk.2) (.string ((rd_T24 t323 x10_1).f1))) (fun _ hk => hk.2) (.int .u32 ((rd_T24 t323 x10_1).f2))) (fun _ hk => hk.2) (.bool ((rd_T24 t323 x10_1).f3))) (fun _ hk => hk.2) (.int .i64 ((rd_T24 t323 x10_1).f4))) (fun _ hk => hk.2) (.int .i64 ((rd_T24 t323 x10_1).f5))) (fun _ hk => hk.1.2)⟩, ⟨by (with_reducible repeat (first | apply Kd.R_alloc | apply Kd.R_drewN | apply Kd.R_drew)); exact Kd.R_mono (Kd.R_far (p := ⟨gb333, 5, none⟩) (Kd.R_far (p := ⟨gb333, 4, none⟩) (Kd.R_far (p := ⟨gb333, 3, none⟩) (Kd.R_far (p := ⟨gb333, 2, none⟩) (Kd.R_far (p := ⟨gb333, 1, none⟩) (Kd.R_far (p := ⟨gb333, 0, none⟩) (Kd.R_types HO_8.out BK333.out (by decide)) (fun _ hk => hk.2) (.int .i64 ((rd_T24 t323 x10_1).f0))) (fun _ hk => hk.2) (.string ((rd_T24 t323 x10_1).f1))) (fun _ hk => hk.2) (.int .u32 ((rd_T24 t323 x10_1).f2))) (fun _ hk => hk.2) (.bool ((rd_T24 t323 x10_1).f3))) (fun _ hk => hk.2) (.int .i64 ((rd_T24 t323 x10_1).f4))) (fun _ hk => hk.2) (.int .i64 ((rd_T24 t323 x10_1).f5))) (fun _ hk => trivial)⟩, ⟨by (with_reducible repeat (first | refine Z0 ?_ _ | refine Z3 ?_ | refine Z1 ?_ _)); refine Z9 (cs := #[.int .i64 ((rd_T24 t323 x10_1).f0), .string ((rd_T24 t323 x10_1).f1), .int .u32 ((rd_T24 t323 x10_1).f2), .bool ((rd_T24 t323 x10_1).f3), .int .i64 ((rd_T24 t323 x10_1).f4), .int .i64 0]) ?_ 5 _ rfl; (with_reducible repeat (first | refine Z0 ?_ _ | refine Z3 ?_ | refine Z1 ?_ _)); refine Z9 (cs := #[.int .i64 ((rd_T24 t323 x10_1).f0), .string ((rd_T24 t323 x10_1).f1), .int .u32 ((rd_T24 t323 x10_1).f2), .bool ((rd_T24 t323 x10_1).f3), .int .i64 0, .int .i64 0]) ?_ 4 _ rfl; (with_reducible repeat (first | refine Z0 ?_ _ | refine Z3 ?_ | refine Z1 ?_ _)); refine Z9 (cs := #[.int .i64 ((rd_T24 t323 x10_1).f0), .string ((rd_T24 t323 x10_1).f1), .int .u32 ((rd_T24 t323 x10_1).f2), .bool false, .int .i64 0, .int .i64 0]) ?_ 3 _ rfl; (with_reducible repeat (first | refine Z0 ?_ _ | refine Z3 ?_ | refine Z1 ?_ _)); refine Z9 (cs := #[.int .i64 ((rd_T24 t323 x10_1).f0), .string ((rd_T24 t323 x10_1).f1), .int .u32 0, .bool false, .int .i64 0, .int .i64 0]) ?_ 2 _ rfl; (with_reducible repeat (first | refine Z0 ?_ _ | refine Z3 ?_ | refine Z1 ?_ _)); refine Z9 (cs := #[.int .i64 ((rd_T24 t323 x10_1).f0), .string (⟨#[]⟩ : ByteArray), .int .u32 0, .bool false, .int .i64 0, .int .i64 0]) ?_ 1 _ rfl; (with_reducible repeat (first | refine Z0 ?_ _ | refine Z3 ?_ | refine Z1 ?_ _)); refine Z9 (cs := #[.int .i64 0, .string (⟨#[]⟩ : ByteArray), .int .u32 0, .bool false, .int .i64 0, .int .i64 0]) ?_ 0 _ rfl; (with_reducible repeat (first | refine Z0 ?_ _ | refine Z3 ?_ | refine Z1 ?_ _)); exact BK333.out⟩, ⟨by repeat (first | (with_reducible first | exact HB.out | apply Z7 | apply Z4 | apply Z6 | refine Z8 ?_ GE333.out) | exact HB.out)⟩⟩
         case rest =>
          clear HC10
          try clear c4
          try clear c4b0
          try clear c4b1
          try clear c8
          try clear c8b0
          try clear c9
          try clear c9b0
          try clear hcz13_0
          try clear hcz13_1
          try clear hcz13_2
          try clear hcz13_3
          try clear hcz13_4
          try clear hcz13_5
          try clear hfz13_0
          try clear hfz13_1
          try clear hfz13_2
          try clear hfz13_3
          try clear hfz13_4
          try clear hfz13_5
          try clear hx332_0
          try clear hx332_1
          try clear hx332_2
          try clear hx332_3
          try clear hx332_4
          try clear hx332_5
          try clear p332
          try clear q332
          obtain ⟨kq, x66_9, rfl, HA, HJ9, HO_5, HO_8, BK333, HB⟩ := hcut
          cases kq with
          | zero => exact absurd HA.out (by simp [cruciblelaw07_LexerStands.j1])
          | succ kj9 =>
           have H := HA.out
           clear HA
           simp only [cruciblelaw07_LexerStands.j1] at H
           by_cases c19 : x66_9 = true
           · subst c19
             have H1 : (some false) = some r := by rw [if_pos rfl] at H; exact H
             clear H
             have H := H1
             clear H1
             obtain rfl := Option.some.inj H
             go_wp2
             go_ret
             exact ⟨by first | rfl | (simp [Z16, Z15] <;> rfl) | (simp [*, Z16, Z15] <;> rfl), by repeat (first | (with_reducible first | exact HB.out | apply Z7 | apply Z4 | apply Z6 | refine Z8 ?_ GE333.out) | exact HB.out)⟩
           · replace c19 := Bool.eq_false_iff.mpr c19
             subst c19
             have H1 : (if 0 ≤ x9_1 then (if x9_1 ≤ ((rd_T24 t323 x10_1).f4) then (if ((rd_T24 t323 x10_1).f4) ≤ (a0.size : Int) then ((Z44.f kj9 (a0.extract (x9_1 : Int).toNat (((rd_T24 t323 x10_1).f4) : Int).toNat)).bind fun bt334 => (if bt334.2.2 = 0 then (cruciblelaw07_LexerStands.j2 kj9 a0 a1 t323 x8_1 x9_1 x10_1 ((bt334.1.length : Int) != 1) ((rd_T24 t323 x10_1).f0) ((rd_T24 t323 x10_1).f1) ((rd_T24 t323 x10_1).f2) ((rd_T24 t323 x10_1).f3) ((rd_T24 t323 x10_1).f4) ((rd_T24 t323 x10_1).f5)) else (cruciblelaw07_LexerStands.j2 kj9 a0 a1 t323 x8_1 x9_1 x10_1 true ((rd_T24 t323 x10_1).f0) ((rd_T24 t323 x10_1).f1) ((rd_T24 t323 x10_1).f2) ((rd_T24 t323 x10_1).f3) ((rd_T24 t323 x10_1).f4) ((rd_T24 t323 x10_1).f5)))) else (none)) else (none)) else (none)) = some r := by rw [if_neg (show ¬ (false = true) by decide)] at H; exact H
             clear H
             have H := H1
             clear H1
             by_cases c20 : 0 ≤ x9_1
             · rw [if_pos c20] at H
               have c20b0 := eq_true c20
               have c20b1 : decide (0 ≤ x9_1) = true := decide_eq_true c20
               clear c20
               by_cases c21 : x9_1 ≤ ((rd_T24 t323 x10_1).f4)
               · rw [if_pos c21] at H
                 have c21b0 := eq_true c21
                 have c21b1 : decide (x9_1 ≤ ((rd_T24 t323 x10_1).f4)) = true := decide_eq_true c21
                 clear c21
                 by_cases c22 : ((rd_T24 t323 x10_1).f4) ≤ (a0.size : Int)
                 · rw [if_pos c22] at H
                   have c22b0 := eq_true c22
                   have c22b1 : decide (((rd_T24 t323 x10_1).f4) ≤ (a0.size : Int)) = true := decide_eq_true c22
                   clear c22
                   replace H := Option.bind_eq_some_iff.mp H
                   obtain ⟨⟨t334, t335, t336⟩, A230, H⟩ := H
                   replace H : (if t336 = 0 then (cruciblelaw07_LexerStands.j2 kj9 a0 a1 t323 x8_1 x9_1 x10_1 ((t334.length : Int) != 1) ((rd_T24 t323 x10_1).f0) ((rd_T24 t323 x10_1).f1) ((rd_T24 t323 x10_1).f2) ((rd_T24 t323 x10_1).f3) ((rd_T24 t323 x10_1).f4) ((rd_T24 t323 x10_1).f5)) else (cruciblelaw07_LexerStands.j2 kj9 a0 a1 t323 x8_1 x9_1 x10_1 true ((rd_T24 t323 x10_1).f0) ((rd_T24 t323 x10_1).f1) ((rd_T24 t323 x10_1).f2) ((rd_T24 t323 x10_1).f3) ((rd_T24 t323 x10_1).f4) ((rd_T24 t323 x10_1).f5))) = some r := H
                   have A23 := Aside0.mk A230
                   clear A230
                   have HC24 := Aside0.mk H
                   clear H
                   have hcz25_0 : wc.cell? ⟨gb333, 0, none⟩ = some (.int .i64 ((rd_T24 t323 x10_1).f0)) := (Z5 BK333.out 0).trans rfl
                   have hcz25_1 : wc.cell? ⟨gb333, 1, none⟩ = some (.string ((rd_T24 t323 x10_1).f1)) := (Z5 BK333.out 1).trans rfl
                   have hcz25_2 : wc.cell? ⟨gb333, 2, none⟩ = some (.int .u32 ((rd_T24 t323 x10_1).f2)) := (Z5 BK333.out 2).trans rfl
                   have hcz25_3 : wc.cell? ⟨gb333, 3, none⟩ = some (.bool ((rd_T24 t323 x10_1).f3)) := (Z5 BK333.out 3).trans rfl
                   have hcz25_4 : wc.cell? ⟨gb333, 4, none⟩ = some (.int .i64 ((rd_T24 t323 x10_1).f4)) := (Z5 BK333.out 4).trans rfl
                   have hcz25_5 : wc.cell? ⟨gb333, 5, none⟩ = some (.int .i64 ((rd_T24 t323 x10_1).f5)) := (Z5 BK333.out 5).trans rfl
                   have hfz25_0 := Z2 BK333.out 0
                   have hfz25_1 := Z2 BK333.out 1
                   have hfz25_2 := Z2 BK333.out 2
                   have hfz25_3 := Z2 BK333.out 3
                   have hfz25_4 := Z2 BK333.out 4
                   have hfz25_5 := Z2 BK333.out 5
                   go_upto_region 13 with (first | ((with_reducible refine Z14 (f := 12) rfl ?_); refine goesL_ (some 73) rfl rfl Tryd.func12 (by kernel_rfl) rfl #[.string (a0.extract (x9_1 : Int).toNat (((rd_T24 t323 x10_1).f4) : Int).toNat)] rfl (by (try simp only [List.map_toArray, List.map_cons, List.map_nil]); first | done | rfl | (simp only [List.length_drop, List.length_take]; rfl)) ?_; (with_reducible refine (Z44.calls kj9 (a0.extract (x9_1 : Int).toNat (((rd_T24 t323 x10_1).f4) : Int).toNat) t334 t335 t336 _ ?side1 A23.out).mono ?_); (case side1 => refine PremW.below HG.out ?_; repeat (first | (with_reducible first | exact HB.out | apply Z7 | apply Z4 | apply Z6 | refine Z8 ?_ GE333.out) | exact HB.out)); rintro e w26 ⟨v337, rfl, ho0, hb⟩; refine ⟨_, rfl, ?_⟩; have n0_ := Aside0.mk (Kd.R_elder' (by (with_reducible repeat (first | apply Kd.R_alloc | apply Kd.R_drewN | apply Kd.R_drew)); exact HO_5.out) (Kd.R_base ho0) hb); have n1_ := Aside0.mk (Kd.R_below (by (with_reducible repeat (first | apply Kd.R_alloc | apply Kd.R_drewN | apply Kd.R_drew)); exact HO_8.out) hb); have n2_ := Aside0.mk (Kd.R_lower (Kd.R_newB (Kd.R_new' ho0 (Kd.R_lt (by (with_reducible repeat (first | apply Kd.R_alloc | apply Kd.R_drewN | apply Kd.R_drew)); exact HO_5.out))) (g := gb333) (o := .cells #[.int .i64 ((rd_T24 t323 x10_1).f0), .string ((rd_T24 t323 x10_1).f1), .int .u32 ((rd_T24 t323 x10_1).f2), .bool ((rd_T24 t323 x10_1).f3), .int .i64 ((rd_T24 t323 x10_1).f4), .int .i64 ((rd_T24 t323 x10_1).f5)] 24 (0, 0)) (by (with_reducible repeat (first | refine Z0 ?_ _ | refine Z3 ?_ | refine Z1 ?_ _)); exact BK333.out)) (Z27 (by repeat (first | (with_reducible first | exact HB.out | apply Z7 | apply Z4 | apply Z6 | refine Z8 ?_ GE333.out) | exact HB.out)))); have n3_ := Aside0.mk (Z40 (g := gb333) (o := .cells #[.int .i64 ((rd_T24 t323 x10_1).f0), .string ((rd_T24 t323 x10_1).f1), .int .u32 ((rd_T24 t323 x10_1).f2), .bool ((rd_T24 t323 x10_1).f3), .int .i64 ((rd_T24 t323 x10_1).f4), .int .i64 ((rd_T24 t323 x10_1).f5)] 24 (0, 0)) (by (with_reducible repeat (first | refine Z0 ?_ _ | refine Z3 ?_ | refine Z1 ?_ _)); exact BK333.out) hb); have n4_ := Aside0.mk (Z25 (by repeat (first | (with_reducible first | exact HB.out | apply Z7 | apply Z4 | apply Z6 | refine Z8 ?_ GE333.out) | exact HB.out)) hb); clear HO_5; clear HO_8; clear BK333; clear HB; have HO_5 := n0_; have HO_8 := n1_; have HO338 := n2_; have BK333 := n3_; have HB := n4_; clear n0_ n1_ n2_ n3_ n4_; (try clear hb); (try clear hb2); (try clear hk); (try clear hi); (try clear ho0)))
                   (try simp only [Act.put, List.setIfInBounds_toArray, List.set_cons_zero, List.set_cons_succ])
                   go_cut [83] (fun v83 wc => ∃ (kq : Nat) (x83_23 : Bool), v83 = .bool x83_23 ∧ Aside0 (cruciblelaw07_LexerStands.j2 kq a0 a1 t323 x8_1 x9_1 x10_1 x83_23 ((rd_T24 t323 x10_1).f0) ((rd_T24 t323 x10_1).f1) ((rd_T24 t323 x10_1).f2) ((rd_T24 t323 x10_1).f3) ((rd_T24 t323 x10_1).f4) ((rd_T24 t323 x10_1).f5) = some r) ∧ Aside0 (kq ≤ kj9) ∧ Aside0 (Kd.R k24 24 wc w.heap.size (fun k_ => k_ ≠ gb333) (.slice (some ad332) t323.length co11) t323) ∧ Aside0 (Kd.R (Kd.int .u8) 5 wc w.heap.size (fun _ => True) u8 x8_1) ∧ Aside0 (wc.heap[gb333]? = some (.cells #[.int .i64 ((rd_T24 t323 x10_1).f0), .string ((rd_T24 t323 x10_1).f1), .int .u32 ((rd_T24 t323 x10_1).f2), .bool ((rd_T24 t323 x10_1).f3), .int .i64 ((rd_T24 t323 x10_1).f4), .int .i64 ((rd_T24 t323 x10_1).f5)] 24 (0, 0))) ∧ Aside0 (Below w.heap.size w wc))
                   case first =>
                    have H := HC24.out
                    clear HC24
                    by_cases c27 : t336 = 0
                    · rw [if_pos c27] at H
                      have c27b0 : (t336 == 0) = true := beq_iff_eq.mpr c27
                      have c27b1 : (t336 != 0) = false := bne_eq_false_iff_eq.mpr c27
                      clear c27
                      (first | rw [c27b0] | (simp only [i64_w, i32_w]; rw [c27b0]) | skip)
                      have H' := Aside0.mk H
                      clear H
                      obtain ⟨Ao28, co28, eo28⟩ := Kd.R_slice HO338.out
                      subst eo28
                      go_wp2
                      go_meet
                      case rel => exact ⟨_, (((t334.length : Int) != 1)), (by first | rfl | (simp; done) | (simp [*]; done)), H', ⟨by have := HK1.out; have := HJ9.out; first | omega | exact Nat.le_refl _⟩, ⟨by (with_reducible repeat (first | apply Kd.R_alloc | apply Kd.R_drewN | apply Kd.R_drew)); exact Kd.R_mono HO_5.out (fun _ hk => hk.1)⟩, ⟨by (with_reducible repeat (first | apply Kd.R_alloc | apply Kd.R_drewN | apply Kd.R_drew)); exact HO_8.out⟩, ⟨by (with_reducible repeat (first | refine Z0 ?_ _ | refine Z3 ?_ | refine Z1 ?_ _)); exact BK333.out⟩, ⟨by repeat (first | (with_reducible first | exact HB.out | apply Z7 | apply Z4 | apply Z6 | refine Z8 ?_ GE333.out) | exact HB.out)⟩⟩
                    · rw [if_neg c27] at H
                      have c27b0 : (t336 == 0) = false := beq_eq_false_iff_ne.mpr c27
                      have c27b1 : (t336 != 0) = true := bne_iff_ne.mpr c27
                      (first | rw [c27b0] | (simp only [i64_w, i32_w]; rw [c27b0]) | skip)
                      have H' := Aside0.mk H
                      clear H
                      go_wp2
                      go_meet
                      case rel => exact ⟨_, (true), (by first | rfl | (simp; done) | (simp [*]; done)), H', ⟨by have := HK1.out; have := HJ9.out; first | omega | exact Nat.le_refl _⟩, ⟨by (with_reducible repeat (first | apply Kd.R_alloc | apply Kd.R_drewN | apply Kd.R_drew)); exact Kd.R_mono HO_5.out (fun _ hk => hk.1)⟩, ⟨by (with_reducible repeat (first | apply Kd.R_alloc | apply Kd.R_drewN | apply Kd.R_drew)); exact HO_8.out⟩, ⟨by (with_reducible repeat (first | refine Z0 ?_ _ | refine Z3 ?_ | refine Z1 ?_ _)); exact BK333.out⟩, ⟨by repeat (first | (with_reducible first | exact HB.out | apply Z7 | apply Z4 | apply Z6 | refine Z8 ?_ GE333.out) | exact HB.out)⟩⟩
                   case rest =>
                    clear HC24
                    try clear c4
                    try clear c4b0
                    try clear c4b1
                    try clear c8
                    try clear c8b0
                    try clear c9
                    try clear c9b0
                    try clear c19
                    try clear c20
                    try clear c20b0
                    try clear c20b1
                    try clear c21
                    try clear c21b0
                    try clear c21b1
                    try clear c22
                    try clear c22b0
                    try clear c22b1
                    try clear hcz13_0
                    try clear hcz13_1
                    try clear hcz13_2
                    try clear hcz13_3
                    try clear hcz13_4
                    try clear hcz13_5
                    try clear hcz25_0
                    try clear hcz25_1
                    try clear hcz25_2
                    try clear hcz25_3
                    try clear hcz25_4
                    try clear hcz25_5
                    try clear hfz13_0
                    try clear hfz13_1
                    try clear hfz13_2
                    try clear hfz13_3
                    try clear hfz13_4
                    try clear hfz13_5
                    try clear hfz25_0
                    try clear hfz25_1
                    try clear hfz25_2
                    try clear hfz25_3
                    try clear hfz25_4
                    try clear hfz25_5
                    try clear hx332_0
                    try clear hx332_1
                    try clear hx332_2
                    try clear hx332_3
                    try clear hx332_4
                    try clear hx332_5
                    try clear p332
                    try clear q332
                    obtain ⟨kq, x83_23, rfl, HA, HJ23, HO_5, HO_8, BK333, HB⟩ := hcut
                    cases kq with
                    | zero => exact absurd HA.out (by simp [cruciblelaw07_LexerStands.j2])
                    | succ kj23 =>
                     have H := HA.out
                     clear HA
                     simp only [cruciblelaw07_LexerStands.j2] at H
                     by_cases c29 : x83_23 = true
                     · subst c29
                       have H1 : (some false) = some r := by rw [if_pos rfl] at H; exact H
                       clear H
                       have H := H1
                       clear H1
                       obtain rfl := Option.some.inj H
                       go_wp2
                       go_ret
                       exact ⟨by first | rfl | (simp [Z16, Z15] <;> rfl) | (simp [*, Z16, Z15] <;> rfl), by repeat (first | (with_reducible first | exact HB.out | apply Z7 | apply Z4 | apply Z6 | refine Z8 ?_ GE333.out) | exact HB.out)⟩
                     · replace c29 := Bool.eq_false_iff.mpr c29
                       subst c29
                       have H1 : (if 0 ≤ x9_1 then (if x9_1 ≤ ((rd_T24 t323 x10_1).f4) then (if ((rd_T24 t323 x10_1).f4) ≤ (a0.size : Int) then (if x8_1.length + (a0.extract (x9_1 : Int).toNat (((rd_T24 t323 x10_1).f4) : Int).toNat).size < 140737488355328 then ((some (x8_1 ++ bytesOf (a0.extract (x9_1 : Int).toNat (((rd_T24 t323 x10_1).f4) : Int).toNat) : List Int)).bind fun y339 => (if (Int.tmod (wrap64 (x10_1 + (wrap64 (a1)))) 3) = 0 then (if y339.length + 2 < 140737488355328 then ((some (y339 ++ bytesOf (⟨#[32, 9]⟩ : ByteArray) : List Int)).bind fun y342 => (if 0 ≤ ((rd_T24 t323 x10_1).f4) then (if ((rd_T24 t323 x10_1).f4) ≤ ((rd_T24 t323 x10_1).f5) then (if ((rd_T24 t323 x10_1).f5) ≤ (a0.size : Int) then (if y342.length + (a0.extract (((rd_T24 t323 x10_1).f4) : Int).toNat (((rd_T24 t323 x10_1).f5) : Int).toNat).size < 140737488355328 then (cruciblelaw07_LexerStands.l0 kj23 a0 a1 t323 (y342 ++ bytesOf (a0.extract (((rd_T24 t323 x10_1).f4) : Int).toNat (((rd_T24 t323 x10_1).f5) : Int).toNat)) ((rd_T24 t323 x10_1).f5) (wrap64 (x10_1 + 1))) else (none)) else (none)) else (none)) else (none))) else (none)) else (if 0 ≤ ((rd_T24 t323 x10_1).f4) then (if ((rd_T24 t323 x10_1).f4) ≤ ((rd_T24 t323 x10_1).f5) then (if ((rd_T24 t323 x10_1).f5) ≤ (a0.size : Int) then (if y339.length + (a0.extract (((rd_T24 t323 x10_1).f4) : Int).toNat (((rd_T24 t323 x10_1).f5) : Int).toNat).size < 140737488355328 then (cruciblelaw07_LexerStands.l0 kj23 a0 a1 t323 (y339 ++ bytesOf (a0.extract (((rd_T24 t323 x10_1).f4) : Int).toNat (((rd_T24 t323 x10_1).f5) : Int).toNat)) ((rd_T24 t323 x10_1).f5) (wrap64 (x10_1 + 1))) else (none)) else (none)) else (none)) else (none)))) else (none)) else (none)) else (none)) else (none)) = some r := by rw [if_neg (show ¬ (false = true) by decide)] at H; exact H
                       clear H
                       have H := H1
                       clear H1
                       by_cases c30 : 0 ≤ x9_1
                       · rw [if_pos c30] at H
                         have c30b0 := eq_true c30
                         have c30b1 : decide (0 ≤ x9_1) = true := decide_eq_true c30
                         clear c30
                         by_cases c31 : x9_1 ≤ ((rd_T24 t323 x10_1).f4)
                         · rw [if_pos c31] at H
                           have c31b0 := eq_true c31
                           have c31b1 : decide (x9_1 ≤ ((rd_T24 t323 x10_1).f4)) = true := decide_eq_true c31
                           clear c31
                           by_cases c32 : ((rd_T24 t323 x10_1).f4) ≤ (a0.size : Int)
                           · rw [if_pos c32] at H
                             have c32b0 := eq_true c32
                             have c32b1 : decide (((rd_T24 t323 x10_1).f4) ≤ (a0.size : Int)) = true := decide_eq_true c32
                             clear c32
                             by_cases c33 : x8_1.length + (a0.extract (x9_1 : Int).toNat (((rd_T24 t323 x10_1).f4) : Int).toNat).size < 140737488355328
                             · rw [if_pos c33] at H
                               have LMc33 := Aside0.mk c33
                               clear c33
                               obtain ⟨y339, hy339⟩ : ∃ y_ : List Int, y_ = (x8_1 ++ bytesOf (a0.extract (x9_1 : Int).toNat (((rd_T24 t323 x10_1).f4) : Int).toNat)) := ⟨_, rfl⟩
                               replace H : (if (Int.tmod (wrap64 (x10_1 + (wrap64 (a1)))) 3) = 0 then (if y339.length + 2 < 140737488355328 then ((some (y339 ++ bytesOf (⟨#[32, 9]⟩ : ByteArray) : List Int)).bind fun y342 => (if 0 ≤ ((rd_T24 t323 x10_1).f4) then (if ((rd_T24 t323 x10_1).f4) ≤ ((rd_T24 t323 x10_1).f5) then (if ((rd_T24 t323 x10_1).f5) ≤ (a0.size : Int) then (if y342.length + (a0.extract (((rd_T24 t323 x10_1).f4) : Int).toNat (((rd_T24 t323 x10_1).f5) : Int).toNat).size < 140737488355328 then (cruciblelaw07_LexerStands.l0 kj23 a0 a1 t323 (y342 ++ bytesOf (a0.extract (((rd_T24 t323 x10_1).f4) : Int).toNat (((rd_T24 t323 x10_1).f5) : Int).toNat)) ((rd_T24 t323 x10_1).f5) (wrap64 (x10_1 + 1))) else (none)) else (none)) else (none)) else (none))) else (none)) else (if 0 ≤ ((rd_T24 t323 x10_1).f4) then (if ((rd_T24 t323 x10_1).f4) ≤ ((rd_T24 t323 x10_1).f5) then (if ((rd_T24 t323 x10_1).f5) ≤ (a0.size : Int) then (if y339.length + (a0.extract (((rd_T24 t323 x10_1).f4) : Int).toNat (((rd_T24 t323 x10_1).f5) : Int).toNat).size < 140737488355328 then (cruciblelaw07_LexerStands.l0 kj23 a0 a1 t323 (y339 ++ bytesOf (a0.extract (((rd_T24 t323 x10_1).f4) : Int).toNat (((rd_T24 t323 x10_1).f5) : Int).toNat)) ((rd_T24 t323 x10_1).f5) (wrap64 (x10_1 + 1))) else (none)) else (none)) else (none)) else (none))) = some r := by first | (rw [hy339]; with_reducible exact H) | (have H2_ := (Option.bind_some _ _).symm.trans H; rw [hy339]; with_reducible exact H2_) | (have H2_ := (Option.bind_some _ _).symm.trans H; with_reducible exact H2_) | with_reducible exact H | (rw [hy339]; exact H) | exact H
                               have Ny339 := Aside0.mk hy339
                               clear hy339
                               by_cases c34 : (Int.tmod (wrap64 (x10_1 + (wrap64 (a1)))) 3) = 0
                               · rw [if_pos c34] at H
                                 have c34b0 : ((Int.tmod (wrap64 (x10_1 + (wrap64 (a1)))) 3) == 0) = true := beq_iff_eq.mpr c34
                                 have c34b1 : ((Int.tmod (wrap64 (x10_1 + (wrap64 (a1)))) 3) != 0) = false := bne_eq_false_iff_eq.mpr c34
                                 clear c34
                                 by_cases c35 : y339.length + 2 < 140737488355328
                                 · rw [if_pos c35] at H
                                   have LMc35 := Aside0.mk c35
                                   clear c35
                                   obtain ⟨y342, hy342⟩ : ∃ y_ : List Int, y_ = (y339 ++ bytesOf (⟨#[32, 9]⟩ : ByteArray)) := ⟨_, rfl⟩
                                   replace H : (if 0 ≤ ((rd_T24 t323 x10_1).f4) then (if ((rd_T24 t323 x10_1).f4) ≤ ((rd_T24 t323 x10_1).f5) then (if ((rd_T24 t323 x10_1).f5) ≤ (a0.size : Int) then (if y342.length + (a0.extract (((rd_T24 t323 x10_1).f4) : Int).toNat (((rd_T24 t323 x10_1).f5) : Int).toNat).size < 140737488355328 then (cruciblelaw07_LexerStands.l0 kj23 a0 a1 t323 (y342 ++ bytesOf (a0.extract (((rd_T24 t323 x10_1).f4) : Int).toNat (((rd_T24 t323 x10_1).f5) : Int).toNat)) ((rd_T24 t323 x10_1).f5) (wrap64 (x10_1 + 1))) else (none)) else (none)) else (none)) else (none)) = some r := by first | (rw [hy342]; with_reducible exact H) | (have H2_ := (Option.bind_some _ _).symm.trans H; rw [hy342]; with_reducible exact H2_) | (have H2_ := (Option.bind_some _ _).symm.trans H; with_reducible exact H2_) | with_reducible exact H | (rw [hy342]; exact H) | exact H
                                   have Ny342 := Aside0.mk hy342
                                   clear hy342
                                   by_cases c36 : 0 ≤ ((rd_T24 t323 x10_1).f4)
                                   · rw [if_pos c36] at H
                                     have c36b0 := eq_true c36
                                     have c36b1 : decide (0 ≤ ((rd_T24 t323 x10_1).f4)) = true := decide_eq_true c36
                                     clear c36
                                     by_cases c37 : ((rd_T24 t323 x10_1).f4) ≤ ((rd_T24 t323 x10_1).f5)
                                     · rw [if_pos c37] at H
                                       have c37b0 := eq_true c37
                                       have c37b1 : decide (((rd_T24 t323 x10_1).f4) ≤ ((rd_T24 t323 x10_1).f5)) = true := decide_eq_true c37
                                       clear c37
                                       by_cases c38 : ((rd_T24 t323 x10_1).f5) ≤ (a0.size : Int)
                                       · rw [if_pos c38] at H
                                         have c38b0 := eq_true c38
                                         have c38b1 : decide (((rd_T24 t323 x10_1).f5) ≤ (a0.size : Int)) = true := decide_eq_true c38
                                         clear c38
                                         by_cases c39 : y342.length + (a0.extract (((rd_T24 t323 x10_1).f4) : Int).toNat (((rd_T24 t323 x10_1).f5) : Int).toNat).size < 140737488355328
                                         · rw [if_pos c39] at H
                                           have LMc39 := Aside0.mk c39
                                           clear c39
                                           obtain ⟨y345, hy345⟩ : ∃ y_ : List Int, y_ = (y342 ++ bytesOf (a0.extract (((rd_T24 t323 x10_1).f4) : Int).toNat (((rd_T24 t323 x10_1).f5) : Int).toNat)) := ⟨_, rfl⟩
                                           replace H : (cruciblelaw07_LexerStands.l0 kj23 a0 a1 t323 y345 ((rd_T24 t323 x10_1).f5) (wrap64 (x10_1 + 1))) = some r := by first | (rw [hy345]; with_reducible exact H) | (have H2_ := (Option.bind_some _ _).symm.trans H; rw [hy345]; with_reducible exact H2_) | (have H2_ := (Option.bind_some _ _).symm.trans H; with_reducible exact H2_) | with_reducible exact H | (rw [hy345]; exact H) | exact H
                                           have Ny345 := Aside0.mk hy345
                                           clear hy345
                                           have H' := Aside0.mk H
                                           clear H
                                           have hcz40_0 : wc.cell? ⟨gb333, 0, none⟩ = some (.int .i64 ((rd_T24 t323 x10_1).f0)) := (Z5 BK333.out 0).trans rfl
                                           have hcz40_1 : wc.cell? ⟨gb333, 1, none⟩ = some (.string ((rd_T24 t323 x10_1).f1)) := (Z5 BK333.out 1).trans rfl
                                           have hcz40_2 : wc.cell? ⟨gb333, 2, none⟩ = some (.int .u32 ((rd_T24 t323 x10_1).f2)) := (Z5 BK333.out 2).trans rfl
                                           have hcz40_3 : wc.cell? ⟨gb333, 3, none⟩ = some (.bool ((rd_T24 t323 x10_1).f3)) := (Z5 BK333.out 3).trans rfl
                                           have hcz40_4 : wc.cell? ⟨gb333, 4, none⟩ = some (.int .i64 ((rd_T24 t323 x10_1).f4)) := (Z5 BK333.out 4).trans rfl
                                           have hcz40_5 : wc.cell? ⟨gb333, 5, none⟩ = some (.int .i64 ((rd_T24 t323 x10_1).f5)) := (Z5 BK333.out 5).trans rfl
                                           have hfz40_0 := Z2 BK333.out 0
                                           have hfz40_1 := Z2 BK333.out 1
                                           have hfz40_2 := Z2 BK333.out 2
                                           have hfz40_3 := Z2 BK333.out 3
                                           have hfz40_4 := Z2 BK333.out 4
                                           have hfz40_5 := Z2 BK333.out 5
                                           go_wp2_with (first | (at_builtin; refine print_append_str (w0 := w) w.heap.size rfl (.tmp 84) _ 35 9 5 rfl Tryd.underlying35 Tryd.underlying9 info5 u8 x8_1 (a0.extract (x9_1 : Int).toNat (((rd_T24 t323 x10_1).f4) : Int).toNat) rfl rfl ?aO ?aB ?aS ?aL ?_; (case aB => exact (by repeat (first | (with_reducible first | exact HB.out | apply Z7 | apply Z4 | apply Z6 | refine Z8 ?_ GE333.out) | exact HB.out))); (case aO => exact (Kd.own_of_R (by (with_reducible repeat (first | apply Kd.R_alloc | apply Kd.R_drewN | apply Kd.R_drew)); exact HO_8.out))); (case aS => exact (Z27 (by repeat (first | (with_reducible first | exact HB.out | apply Z7 | apply Z4 | apply Z6 | refine Z8 ?_ GE333.out) | exact HB.out)))); (case aL => have := LMc33.out; omega); intro v340 w41 ho0 hb hg; have ho := Kd.R_of_own (h1 := fun _ => rfl) (ok := fun _ => True) ho0 (fun _ _ => trivial); clear ho0; have hat := True.intro; rw [← Ny339.out] at ho; change Kd.R (Kd.int .u8) 5 w41 w.heap.size (fun _ => True) v340 y339 at ho; have n0_ := Aside0.mk (Kd.R_over' (by (with_reducible repeat (first | apply Kd.R_alloc | apply Kd.R_drewN | apply Kd.R_drew)); exact HO_5.out) (Kd.R_typed (by (with_reducible repeat (first | apply Kd.R_alloc | apply Kd.R_drewN | apply Kd.R_drew)); exact HO_8.out)) (by decide) hg); have n1_ := Aside0.mk (Z89 (g := gb333) (o := .cells #[.int .i64 ((rd_T24 t323 x10_1).f0), .string ((rd_T24 t323 x10_1).f1), .int .u32 ((rd_T24 t323 x10_1).f2), .bool ((rd_T24 t323 x10_1).f3), .int .i64 ((rd_T24 t323 x10_1).f4), .int .i64 ((rd_T24 t323 x10_1).f5)] 24 (0, 0)) (by (with_reducible repeat (first | refine Z0 ?_ _ | refine Z3 ?_ | refine Z1 ?_ _)); exact BK333.out) hg (Kd.R_ne HO_8.out BK333.out (by decide))); have n2_ := Aside0.mk (hb); have n3_ := Aside0.mk (ho); clear HO_5; clear BK333; clear HB; clear HO_8; have HO_5 := n0_; have BK333 := n1_; have HB := n2_; have HO341 := n3_; clear n0_ n1_ n2_ n3_; clear ho hb hg hat) | (at_builtin; refine print_append_str (w0 := w) w.heap.size rfl (.tmp 97) _ 35 9 5 rfl Tryd.underlying35 Tryd.underlying9 info5 v340 y339 (⟨#[32, 9]⟩ : ByteArray) rfl rfl ?aO ?aB ?aS ?aL ?_; (case aB => exact (by repeat (first | (with_reducible first | exact HB.out | apply Z7 | apply Z4 | apply Z6 | refine Z8 ?_ GE333.out) | exact HB.out))); (case aO => exact (Kd.own_of_R (by (with_reducible repeat (first | apply Kd.R_alloc | apply Kd.R_drewN | apply Kd.R_drew)); exact HO341.out))); (case aS => exact (Z27 (by repeat (first | (with_reducible first | exact HB.out | apply Z7 | apply Z4 | apply Z6 | refine Z8 ?_ GE333.out) | exact HB.out)))); (case aL => have := LMc35.out; have h2_ : (⟨#[32, 9]⟩ : ByteArray).size = 2 := rfl; omega); intro v343 w42 ho0 hb hg; have ho := Kd.R_of_own (h1 := fun _ => rfl) (ok := fun _ => True) ho0 (fun _ _ => trivial); clear ho0; have hat := True.intro; rw [← Ny342.out] at ho; change Kd.R (Kd.int .u8) 5 w42 w.heap.size (fun _ => True) v343 y342 at ho; have n0_ := Aside0.mk (Kd.R_over' (by (with_reducible repeat (first | apply Kd.R_alloc | apply Kd.R_drewN | apply Kd.R_drew)); exact HO_5.out) (Kd.R_typed (by (with_reducible repeat (first | apply Kd.R_alloc | apply Kd.R_drewN | apply Kd.R_drew)); exact HO341.out)) (by decide) hg); have n1_ := Aside0.mk (Z89 (g := gb333) (o := .cells #[.int .i64 ((rd_T24 t323 x10_1).f0), .string ((rd_T24 t323 x10_1).f1), .int .u32 ((rd_T24 t323 x10_1).f2), .bool ((rd_T24 t323 x10_1).f3), .int .i64 ((rd_T24 t323 x10_1).f4), .int .i64 ((rd_T24 t323 x10_1).f5)] 24 (0, 0)) (by (with_reducible repeat (first | refine Z0 ?_ _ | refine Z3 ?_ | refine Z1 ?_ _)); exact BK333.out) hg (Kd.R_ne HO341.out BK333.out (by decide))); have n2_ := Aside0.mk (hb); have n3_ := Aside0.mk (ho); clear HO_5; clear BK333; clear HB; clear HO341; have HO_5 := n0_; have BK333 := n1_; have HB := n2_; have HO344 := n3_; clear n0_ n1_ n2_ n3_; clear ho hb hg hat; have hcz43_0 : w42.cell? ⟨gb333, 0, none⟩ = some (.int .i64 ((rd_T24 t323 x10_1).f0)) := (Z5 BK333.out 0).trans rfl; have hcz43_1 : w42.cell? ⟨gb333, 1, none⟩ = some (.string ((rd_T24 t323 x10_1).f1)) := (Z5 BK333.out 1).trans rfl; have hcz43_2 : w42.cell? ⟨gb333, 2, none⟩ = some (.int .u32 ((rd_T24 t323 x10_1).f2)) := (Z5 BK333.out 2).trans rfl; have hcz43_3 : w42.cell? ⟨gb333, 3, none⟩ = some (.bool ((rd_T24 t323 x10_1).f3)) := (Z5 BK333.out 3).trans rfl; have hcz43_4 : w42.cell? ⟨gb333, 4, none⟩ = some (.int .i64 ((rd_T24 t323 x10_1).f4)) := (Z5 BK333.out 4).trans rfl; have hcz43_5 : w42.cell? ⟨gb333, 5, none⟩ = some (.int .i64 ((rd_T24 t323 x10_1).f5)) := (Z5 BK333.out 5).trans rfl; have hfz43_0 := Z2 BK333.out 0; have hfz43_1 := Z2 BK333.out 1; have hfz43_2 := Z2 BK333.out 2; have hfz43_3 := Z2 BK333.out 3; have hfz43_4 := Z2 BK333.out 4; have hfz43_5 := Z2 BK333.out 5) | (at_builtin; refine print_append_str (w0 := w) w.heap.size rfl (.tmp 99) _ 35 9 5 rfl Tryd.underlying35 Tryd.underlying9 info5 v343 y342 (a0.extract (((rd_T24 t323 x10_1).f4) : Int).toNat (((rd_T24 t323 x10_1).f5) : Int).toNat) rfl rfl ?aO ?aB ?aS ?aL ?_; (case aB => exact (by repeat (first | (with_reducible first | exact HB.out | apply Z7 | apply Z4 | apply Z6 | refine Z8 ?_ GE333.out) | exact HB.out))); (case aO => exact (Kd.own_of_R (by (with_reducible repeat (first | apply Kd.R_alloc | apply Kd.R_drewN | apply Kd.R_drew)); exact HO344.out))); (case aS => exact (Z27 (by repeat (first | (with_reducible first | exact HB.out | apply Z7 | apply Z4 | apply Z6 | refine Z8 ?_ GE333.out) | exact HB.out)))); (case aL => have := LMc39.out; omega); intro v346 w44 ho0 hb hg; have ho := Kd.R_of_own (h1 := fun _ => rfl) (ok := fun _ => True) ho0 (fun _ _ => trivial); clear ho0; have hat := True.intro; rw [← Ny345.out] at ho; change Kd.R (Kd.int .u8) 5 w44 w.heap.size (fun _ => True) v346 y345 at ho; have n0_ := Aside0.mk (Kd.R_over' (by (with_reducible repeat (first | apply Kd.R_alloc | apply Kd.R_drewN | apply Kd.R_drew)); exact HO_5.out) (Kd.R_typed (by (with_reducible repeat (first | apply Kd.R_alloc | apply Kd.R_drewN | apply Kd.R_drew)); exact HO344.out)) (by decide) hg); have n1_ := Aside0.mk (Z89 (g := gb333) (o := .cells #[.int .i64 ((rd_T24 t323 x10_1).f0), .string ((rd_T24 t323 x10_1).f1), .int .u32 ((rd_T24 t323 x10_1).f2), .bool ((rd_T24 t323 x10_1).f3), .int .i64 ((rd_T24 t323 x10_1).f4), .int .i64 ((rd_T24 t323 x10_1).f5)] 24 (0, 0)) (by (with_reducible repeat (first | refine Z0 ?_ _ | refine Z3 ?_ | refine Z1 ?_ _)); exact BK333.out) hg (Kd.R_ne HO344.out BK333.out (by decide))); have n2_ := Aside0.mk (hb); have n3_ := Aside0.mk (ho); clear HO_5; clear BK333; clear HB; clear HO344; have HO_5 := n0_; have BK333 := n1_; have HB := n2_; have HO347 := n3_; clear n0_ n1_ n2_ n3_; clear ho hb hg hat; have hcz45_0 : w44.cell? ⟨gb333, 0, none⟩ = some (.int .i64 ((rd_T24 t323 x10_1).f0)) := (Z5 BK333.out 0).trans rfl; have hcz45_1 : w44.cell? ⟨gb333, 1, none⟩ = some (.string ((rd_T24 t323 x10_1).f1)) := (Z5 BK333.out 1).trans rfl; have hcz45_2 : w44.cell? ⟨gb333, 2, none⟩ = some (.int .u32 ((rd_T24 t323 x10_1).f2)) := (Z5 BK333.out 2).trans rfl; have hcz45_3 : w44.cell? ⟨gb333, 3, none⟩ = some (.bool ((rd_T24 t323 x10_1).f3)) := (Z5 BK333.out 3).trans rfl; have hcz45_4 : w44.cell? ⟨gb333, 4, none⟩ = some (.int .i64 ((rd_T24 t323 x10_1).f4)) := (Z5 BK333.out 4).trans rfl; have hcz45_5 : w44.cell? ⟨gb333, 5, none⟩ = some (.int .i64 ((rd_T24 t323 x10_1).f5)) := (Z5 BK333.out 5).trans rfl; have hfz45_0 := Z2 BK333.out 0; have hfz45_1 := Z2 BK333.out 1; have hfz45_2 := Z2 BK333.out 2; have hfz45_3 := Z2 BK333.out 3; have hfz45_4 := Z2 BK333.out 4; have hfz45_5 := Z2 BK333.out 5))
                                           go_roundg kj23
                                           case measure => have := HK1.out; have := HJ9.out; have := HJ23.out; omega
                                           case rel => exact ⟨(y345), (((rd_T24 t323 x10_1).f5)), (wrap64 (x10_1 + 1)), (by first | rfl | (simp; done) | (simp [*]; done)), (by first | rfl | (simp; done) | (simp [*]; done)), H', ⟨by have := HK1.out; have := HJ9.out; have := HJ23.out; omega⟩, ⟨by (with_reducible repeat (first | apply Kd.R_alloc | apply Kd.R_drewN | apply Kd.R_drew)); exact Kd.R_mono HO_5.out (fun _ hk => trivial)⟩, ⟨by (with_reducible repeat (first | apply Kd.R_alloc | apply Kd.R_drewN | apply Kd.R_drew)); exact HO347.out⟩, ⟨by repeat (first | (with_reducible first | exact HB.out | apply Z7 | apply Z4 | apply Z6 | refine Z8 ?_ GE333.out) | exact HB.out)⟩⟩
                                         · rw [if_neg c39] at H
                                           exact absurd H (by simp)
                                       · rw [if_neg c38] at H
                                         exact absurd H (by simp)
                                     · rw [if_neg c37] at H
                                       exact absurd H (by simp)
                                   · rw [if_neg c36] at H
                                     exact absurd H (by simp)
                                 · rw [if_neg c35] at H
                                   exact absurd H (by simp)
                               · rw [if_neg c34] at H
                                 have c34b0 : ((Int.tmod (wrap64 (x10_1 + (wrap64 (a1)))) 3) == 0) = false := beq_eq_false_iff_ne.mpr c34
                                 have c34b1 : ((Int.tmod (wrap64 (x10_1 + (wrap64 (a1)))) 3) != 0) = true := bne_iff_ne.mpr c34
                                 by_cases c46 : 0 ≤ ((rd_T24 t323 x10_1).f4)
                                 · rw [if_pos c46] at H
                                   have c46b0 := eq_true c46
                                   have c46b1 : decide (0 ≤ ((rd_T24 t323 x10_1).f4)) = true := decide_eq_true c46
                                   clear c46
                                   by_cases c47 : ((rd_T24 t323 x10_1).f4) ≤ ((rd_T24 t323 x10_1).f5)
                                   · rw [if_pos c47] at H
                                     have c47b0 := eq_true c47
                                     have c47b1 : decide (((rd_T24 t323 x10_1).f4) ≤ ((rd_T24 t323 x10_1).f5)) = true := decide_eq_true c47
                                     clear c47
                                     by_cases c48 : ((rd_T24 t323 x10_1).f5) ≤ (a0.size : Int)
                                     · rw [if_pos c48] at H
                                       have c48b0 := eq_true c48
                                       have c48b1 : decide (((rd_T24 t323 x10_1).f5) ≤ (a0.size : Int)) = true := decide_eq_true c48
                                       clear c48
                                       by_cases c49 : y339.length + (a0.extract (((rd_T24 t323 x10_1).f4) : Int).toNat (((rd_T24 t323 x10_1).f5) : Int).toNat).size < 140737488355328
                                       · rw [if_pos c49] at H
                                         have LMc49 := Aside0.mk c49
                                         clear c49
                                         obtain ⟨y348, hy348⟩ : ∃ y_ : List Int, y_ = (y339 ++ bytesOf (a0.extract (((rd_T24 t323 x10_1).f4) : Int).toNat (((rd_T24 t323 x10_1).f5) : Int).toNat)) := ⟨_, rfl⟩
                                         replace H : (cruciblelaw07_LexerStands.l0 kj23 a0 a1 t323 y348 ((rd_T24 t323 x10_1).f5) (wrap64 (x10_1 + 1))) = some r := by first | (rw [hy348]; with_reducible exact H) | (have H2_ := (Option.bind_some _ _).symm.trans H; rw [hy348]; with_reducible exact H2_) | (have H2_ := (Option.bind_some _ _).symm.trans H; with_reducible exact H2_) | with_reducible exact H | (rw [hy348]; exact H) | exact H
                                         have Ny348 := Aside0.mk hy348
                                         clear hy348
                                         have H' := Aside0.mk H
                                         clear H
                                         have hcz50_0 : wc.cell? ⟨gb333, 0, none⟩ = some (.int .i64 ((rd_T24 t323 x10_1).f0)) := (Z5 BK333.out 0).trans rfl
                                         have hcz50_1 : wc.cell? ⟨gb333, 1, none⟩ = some (.string ((rd_T24 t323 x10_1).f1)) := (Z5 BK333.out 1).trans rfl
                                         have hcz50_2 : wc.cell? ⟨gb333, 2, none⟩ = some (.int .u32 ((rd_T24 t323 x10_1).f2)) := (Z5 BK333.out 2).trans rfl
                                         have hcz50_3 : wc.cell? ⟨gb333, 3, none⟩ = some (.bool ((rd_T24 t323 x10_1).f3)) := (Z5 BK333.out 3).trans rfl
                                         have hcz50_4 : wc.cell? ⟨gb333, 4, none⟩ = some (.int .i64 ((rd_T24 t323 x10_1).f4)) := (Z5 BK333.out 4).trans rfl
                                         have hcz50_5 : wc.cell? ⟨gb333, 5, none⟩ = some (.int .i64 ((rd_T24 t323 x10_1).f5)) := (Z5 BK333.out 5).trans rfl
                                         have hfz50_0 := Z2 BK333.out 0
                                         have hfz50_1 := Z2 BK333.out 1
                                         have hfz50_2 := Z2 BK333.out 2
                                         have hfz50_3 := Z2 BK333.out 3
                                         have hfz50_4 := Z2 BK333.out 4
                                         have hfz50_5 := Z2 BK333.out 5
                                         go_wp2_with (first | (at_builtin; refine print_append_str (w0 := w) w.heap.size rfl (.tmp 84) _ 35 9 5 rfl Tryd.underlying35 Tryd.underlying9 info5 u8 x8_1 (a0.extract (x9_1 : Int).toNat (((rd_T24 t323 x10_1).f4) : Int).toNat) rfl rfl ?aO ?aB ?aS ?aL ?_; (case aB => exact (by repeat (first | (with_reducible first | exact HB.out | apply Z7 | apply Z4 | apply Z6 | refine Z8 ?_ GE333.out) | exact HB.out))); (case aO => exact (Kd.own_of_R (by (with_reducible repeat (first | apply Kd.R_alloc | apply Kd.R_drewN | apply Kd.R_drew)); exact HO_8.out))); (case aS => exact (Z27 (by repeat (first | (with_reducible first | exact HB.out | apply Z7 | apply Z4 | apply Z6 | refine Z8 ?_ GE333.out) | exact HB.out)))); (case aL => have := LMc33.out; omega); intro v340 w51 ho0 hb hg; have ho := Kd.R_of_own (h1 := fun _ => rfl) (ok := fun _ => True) ho0 (fun _ _ => trivial); clear ho0; have hat := True.intro; rw [← Ny339.out] at ho; change Kd.R (Kd.int .u8) 5 w51 w.heap.size (fun _ => True) v340 y339 at ho; have n0_ := Aside0.mk (Kd.R_over' (by (with_reducible repeat (first | apply Kd.R_alloc | apply Kd.R_drewN | apply Kd.R_drew)); exact HO_5.out) (Kd.R_typed (by (with_reducible repeat (first | apply Kd.R_alloc | apply Kd.R_drewN | apply Kd.R_drew)); exact HO_8.out)) (by decide) hg); have n1_ := Aside0.mk (Z89 (g := gb333) (o := .cells #[.int .i64 ((rd_T24 t323 x10_1).f0), .string ((rd_T24 t323 x10_1).f1), .int .u32 ((rd_T24 t323 x10_1).f2), .bool ((rd_T24 t323 x10_1).f3), .int .i64 ((rd_T24 t323 x10_1).f4), .int .i64 ((rd_T24 t323 x10_1).f5)] 24 (0, 0)) (by (with_reducible repeat (first | refine Z0 ?_ _ | refine Z3 ?_ | refine Z1 ?_ _)); exact BK333.out) hg (Kd.R_ne HO_8.out BK333.out (by decide))); have n2_ := Aside0.mk (hb); have n3_ := Aside0.mk (ho); clear HO_5; clear BK333; clear HB; clear HO_8; have HO_5 := n0_; have BK333 := n1_; have HB := n2_; have HO341 := n3_; clear n0_ n1_ n2_ n3_; clear ho hb hg hat; have hcz52_0 : w51.cell? ⟨gb333, 0, none⟩ = some (.int .i64 ((rd_T24 t323 x10_1).f0)) := (Z5 BK333.out 0).trans rfl; have hcz52_1 : w51.cell? ⟨gb333, 1, none⟩ = some (.string ((rd_T24 t323 x10_1).f1)) := (Z5 BK333.out 1).trans rfl; have hcz52_2 : w51.cell? ⟨gb333, 2, none⟩ = some (.int .u32 ((rd_T24 t323 x10_1).f2)) := (Z5 BK333.out 2).trans rfl; have hcz52_3 : w51.cell? ⟨gb333, 3, none⟩ = some (.bool ((rd_T24 t323 x10_1).f3)) := (Z5 BK333.out 3).trans rfl; have hcz52_4 : w51.cell? ⟨gb333, 4, none⟩ = some (.int .i64 ((rd_T24 t323 x10_1).f4)) := (Z5 BK333.out 4).trans rfl; have hcz52_5 : w51.cell? ⟨gb333, 5, none⟩ = some (.int .i64 ((rd_T24 t323 x10_1).f5)) := (Z5 BK333.out 5).trans rfl; have hfz52_0 := Z2 BK333.out 0; have hfz52_1 := Z2 BK333.out 1; have hfz52_2 := Z2 BK333.out 2; have hfz52_3 := Z2 BK333.out 3; have hfz52_4 := Z2 BK333.out 4; have hfz52_5 := Z2 BK333.out 5) | (at_builtin; refine print_append_str (w0 := w) w.heap.size rfl (.tmp 99) _ 35 9 5 rfl Tryd.underlying35 Tryd.underlying9 info5 v340 y339 (a0.extract (((rd_T24 t323 x10_1).f4) : Int).toNat (((rd_T24 t323 x10_1).f5) : Int).toNat) rfl rfl ?aO ?aB ?aS ?aL ?_; (case aB => exact (by repeat (first | (with_reducible first | exact HB.out | apply Z7 | apply Z4 | apply Z6 | refine Z8 ?_ GE333.out) | exact HB.out))); (case aO => exact (Kd.own_of_R (by (with_reducible repeat (first | apply Kd.R_alloc | apply Kd.R_drewN | apply Kd.R_drew)); exact HO341.out))); (case aS => exact (Z27 (by repeat (first | (with_reducible first | exact HB.out | apply Z7 | apply Z4 | apply Z6 | refine Z8 ?_ GE333.out) | exact HB.out)))); (case aL => have := LMc49.out; omega); intro v349 w53 ho0 hb hg; have ho := Kd.R_of_own (h1 := fun _ => rfl) (ok := fun _ => True) ho0 (fun _ _ => trivial); clear ho0; have hat := True.intro; rw [← Ny348.out] at ho; change Kd.R (Kd.int .u8) 5 w53 w.heap.size (fun _ => True) v349 y348 at ho; have n0_ := Aside0.mk (Kd.R_over' (by (with_reducible repeat (first | apply Kd.R_alloc | apply Kd.R_drewN | apply Kd.R_drew)); exact HO_5.out) (Kd.R_typed (by (with_reducible repeat (first | apply Kd.R_alloc | apply Kd.R_drewN | apply Kd.R_drew)); exact HO341.out)) (by decide) hg); have n1_ := Aside0.mk (Z89 (g := gb333) (o := .cells #[.int .i64 ((rd_T24 t323 x10_1).f0), .string ((rd_T24 t323 x10_1).f1), .int .u32 ((rd_T24 t323 x10_1).f2), .bool ((rd_T24 t323 x10_1).f3), .int .i64 ((rd_T24 t323 x10_1).f4), .int .i64 ((rd_T24 t323 x10_1).f5)] 24 (0, 0)) (by (with_reducible repeat (first | refine Z0 ?_ _ | refine Z3 ?_ | refine Z1 ?_ _)); exact BK333.out) hg (Kd.R_ne HO341.out BK333.out (by decide))); have n2_ := Aside0.mk (hb); have n3_ := Aside0.mk (ho); clear HO_5; clear BK333; clear HB; clear HO341; have HO_5 := n0_; have BK333 := n1_; have HB := n2_; have HO350 := n3_; clear n0_ n1_ n2_ n3_; clear ho hb hg hat; have hcz54_0 : w53.cell? ⟨gb333, 0, none⟩ = some (.int .i64 ((rd_T24 t323 x10_1).f0)) := (Z5 BK333.out 0).trans rfl; have hcz54_1 : w53.cell? ⟨gb333, 1, none⟩ = some (.string ((rd_T24 t323 x10_1).f1)) := (Z5 BK333.out 1).trans rfl; have hcz54_2 : w53.cell? ⟨gb333, 2, none⟩ = some (.int .u32 ((rd_T24 t323 x10_1).f2)) := (Z5 BK333.out 2).trans rfl; have hcz54_3 : w53.cell? ⟨gb333, 3, none⟩ = some (.bool ((rd_T24 t323 x10_1).f3)) := (Z5 BK333.out 3).trans rfl; have hcz54_4 : w53.cell? ⟨gb333, 4, none⟩ = some (.int .i64 ((rd_T24 t323 x10_1).f4)) := (Z5 BK333.out 4).trans rfl; have hcz54_5 : w53.cell? ⟨gb333, 5, none⟩ = some (.int .i64 ((rd_T24 t323 x10_1).f5)) := (Z5 BK333.out 5).trans rfl; have hfz54_0 := Z2 BK333.out 0; have hfz54_1 := Z2 BK333.out 1; have hfz54_2 := Z2 BK333.out 2; have hfz54_3 := Z2 BK333.out 3; have hfz54_4 := Z2 BK333.out 4; have hfz54_5 := Z2 BK333.out 5))
                                         go_roundg kj23
                                         case measure => have := HK1.out; have := HJ9.out; have := HJ23.out; omega
                                         case rel => exact ⟨(y348), (((rd_T24 t323 x10_1).f5)), (wrap64 (x10_1 + 1)), (by first | rfl | (simp; done) | (simp [*]; done)), (by first | rfl | (simp; done) | (simp [*]; done)), H', ⟨by have := HK1.out; have := HJ9.out; have := HJ23.out; omega⟩, ⟨by (with_reducible repeat (first | apply Kd.R_alloc | apply Kd.R_drewN | apply Kd.R_drew)); exact Kd.R_mono HO_5.out (fun _ hk => trivial)⟩, ⟨by (with_reducible repeat (first | apply Kd.R_alloc | apply Kd.R_drewN | apply Kd.R_drew)); exact HO350.out⟩, ⟨by repeat (first | (with_reducible first | exact HB.out | apply Z7 | apply Z4 | apply Z6 | refine Z8 ?_ GE333.out) | exact HB.out)⟩⟩
                                       · rw [if_neg c49] at H
                                         exact absurd H (by simp)
                                     · rw [if_neg c48] at H
                                       exact absurd H (by simp)
                                   · rw [if_neg c47] at H
                                     exact absurd H (by simp)
                                 · rw [if_neg c46] at H
                                   exact absurd H (by simp)
                             · rw [if_neg c33] at H
                               exact absurd H (by simp)
                           · rw [if_neg c32] at H
                             exact absurd H (by simp)
                         · rw [if_neg c31] at H
                           exact absurd H (by simp)
                       · rw [if_neg c30] at H
                         exact absurd H (by simp)
                 · rw [if_neg c22] at H
                   exact absurd H (by simp)
               · rw [if_neg c21] at H
                 exact absurd H (by simp)
             · rw [if_neg c20] at H
               exact absurd H (by simp)
       · rw [if_neg c9] at H
         exact absurd H (by simp)
     · rw [if_neg c8] at H
       have c8b0 : decide (x10_1 < (t323.length : Int)) = false := decide_eq_false c8
       clear c8
       replace H := Option.bind_eq_some_iff.mp H
       obtain ⟨⟨t351, t352, t353⟩, A550, H⟩ := H
       replace H : (if t353 = 3 then (if ((strOfNums x8_1).size : Int) > 65536 then ((cruciblelaw07_awake.f k1).bind fun t356 => (some t356)) else (some false)) else (if t353 = 0 then (if (t351.length : Int) = (t323.length : Int) then (cruciblelaw07_LexerStands.j3 k1 t323 t351 (x9_1 != (a0.size : Int))) else (cruciblelaw07_LexerStands.j3 k1 t323 t351 true)) else (cruciblelaw07_LexerStands.j3 k1 t323 t351 true))) = some r := H
       have A55 := Aside0.mk A550
       clear A550
       by_cases c56 : t353 = 3
       · rw [if_pos c56] at H
         have c56b0 : (t353 == 3) = true := beq_iff_eq.mpr c56
         have c56b1 : (t353 != 3) = false := bne_eq_false_iff_eq.mpr c56
         clear c56
         by_cases c57 : ((strOfNums x8_1).size : Int) > 65536
         · rw [if_pos c57] at H
           have c57b0 : decide (65536 < ((strOfNums x8_1).size : Int)) = true := decide_eq_true c57
           have c57b1 : decide (65536 < (strOfNums x8_1).size) = true := decide_eq_true (by omega)
           clear c57
           replace H := Option.bind_eq_some_iff.mp H
           obtain ⟨t356, A580, H⟩ := H
           replace H : (some t356) = some r := H
           have A58 := Aside0.mk A580
           clear A580
           obtain rfl := Option.some.inj H
           obtain ⟨Ao59, co59, eo59⟩ := Kd.R_slice HO_5.out
           subst eo59
           have hcv60 := own_string (P := Tryd.prog) Tryd.underlying35 Tryd.underlying5 Tryd.underlying9 (Kd.own_of_R HO_8.out)
           go_wp2_with (first | ((with_reducible refine Z14 (f := 12) rfl ?_); refine goesL_ (some 113) rfl rfl Tryd.func12 (by kernel_rfl) rfl #[.string (strOfNums x8_1)] rfl (by (try simp only [List.map_toArray, List.map_cons, List.map_nil]); first | done | rfl | (simp only [List.length_drop, List.length_take]; rfl)) ?_; (with_reducible refine (Z44.calls k1 (strOfNums x8_1) t351 t352 t353 _ ?side1 A55.out).mono ?_); (case side1 => refine PremW.below HG.out ?_; repeat (first | (with_reducible first | exact HB.out | apply Z7 | apply Z4 | apply Z6) | exact HB.out)); rintro e w61 ⟨v354, rfl, ho0, hb⟩; refine ⟨_, rfl, ?_⟩; have n0_ := Aside0.mk (Kd.R_elder' (by (with_reducible repeat (first | apply Kd.R_alloc | apply Kd.R_drewN | apply Kd.R_drew)); exact HO_5.out) (Kd.R_base ho0) hb); have n1_ := Aside0.mk (Kd.R_below (by (with_reducible repeat (first | apply Kd.R_alloc | apply Kd.R_drewN | apply Kd.R_drew)); exact HO_8.out) hb); have n2_ := Aside0.mk (Kd.R_lower (Kd.R_new' ho0 (Kd.R_lt (by (with_reducible repeat (first | apply Kd.R_alloc | apply Kd.R_drewN | apply Kd.R_drew)); exact HO_5.out))) (Z27 (by repeat (first | (with_reducible first | exact HB.out | apply Z7 | apply Z4 | apply Z6) | exact HB.out)))); have n3_ := Aside0.mk (Z25 (by repeat (first | (with_reducible first | exact HB.out | apply Z7 | apply Z4 | apply Z6) | exact HB.out)) hb); clear HO_5; clear HO_8; clear HB; have HO_5 := n0_; have HO_8 := n1_; have HO355 := n2_; have HB := n3_; clear n0_ n1_ n2_ n3_; (try clear hb); (try clear hb2); (try clear hk); (try clear hi); (try clear ho0)) | (go_at_call 11; (with_reducible refine (cruciblelaw07_awake.calls k1  t356 _ ?side1 A58.out).mono ?_); (case side1 => refine PremW.below HG.out ?_; repeat (first | (with_reducible first | exact HB.out | apply Z7 | apply Z4 | apply Z6) | exact HB.out)); rintro e w62 ⟨rfl, hb⟩; have n0_ := Aside0.mk (Kd.R_below (by (with_reducible repeat (first | apply Kd.R_alloc | apply Kd.R_drewN | apply Kd.R_drew)); exact HO_5.out) hb); have n1_ := Aside0.mk (Kd.R_below (by (with_reducible repeat (first | apply Kd.R_alloc | apply Kd.R_drewN | apply Kd.R_drew)); exact HO_8.out) hb); have n2_ := Aside0.mk (Kd.R_below (by (with_reducible repeat (first | apply Kd.R_alloc | apply Kd.R_drewN | apply Kd.R_drew)); exact HO355.out) hb); have n3_ := Aside0.mk (Z25 (by repeat (first | (with_reducible first | exact HB.out | apply Z7 | apply Z4 | apply Z6) | exact HB.out)) hb); clear HO_5; clear HO_8; clear HO355; clear HB; have HO_5 := n0_; have HO_8 := n1_; have HO355 := n2_; have HB := n3_; clear n0_ n1_ n2_ n3_; (try clear hb); (try clear hb2); (try clear hk); (try clear hi)))
           go_ret
           exact ⟨by first | rfl | (simp [Z16, Z15] <;> rfl) | (simp [*, Z16, Z15] <;> rfl), by repeat (first | (with_reducible first | exact HB.out | apply Z7 | apply Z4 | apply Z6) | exact HB.out)⟩
         · rw [if_neg c57] at H
           have c57b0 : decide (65536 < ((strOfNums x8_1).size : Int)) = false := decide_eq_false c57
           have c57b1 : decide (65536 < (strOfNums x8_1).size) = false := decide_eq_false (by omega)
           clear c57
           obtain rfl := Option.some.inj H
           obtain ⟨Ao63, co63, eo63⟩ := Kd.R_slice HO_5.out
           subst eo63
           have hcv64 := own_string (P := Tryd.prog) Tryd.underlying35 Tryd.underlying5 Tryd.underlying9 (Kd.own_of_R HO_8.out)
           go_wp2_with (first | ((with_reducible refine Z14 (f := 12) rfl ?_); refine goesL_ (some 113) rfl rfl Tryd.func12 (by kernel_rfl) rfl #[.string (strOfNums x8_1)] rfl (by (try simp only [List.map_toArray, List.map_cons, List.map_nil]); first | done | rfl | (simp only [List.length_drop, List.length_take]; rfl)) ?_; (with_reducible refine (Z44.calls k1 (strOfNums x8_1) t351 t352 t353 _ ?side1 A55.out).mono ?_); (case side1 => refine PremW.below HG.out ?_; repeat (first | (with_reducible first | exact HB.out | apply Z7 | apply Z4 | apply Z6) | exact HB.out)); rintro e w65 ⟨v354, rfl, ho0, hb⟩; refine ⟨_, rfl, ?_⟩; have n0_ := Aside0.mk (Kd.R_elder' (by (with_reducible repeat (first | apply Kd.R_alloc | apply Kd.R_drewN | apply Kd.R_drew)); exact HO_5.out) (Kd.R_base ho0) hb); have n1_ := Aside0.mk (Kd.R_below (by (with_reducible repeat (first | apply Kd.R_alloc | apply Kd.R_drewN | apply Kd.R_drew)); exact HO_8.out) hb); have n2_ := Aside0.mk (Kd.R_lower (Kd.R_new' ho0 (Kd.R_lt (by (with_reducible repeat (first | apply Kd.R_alloc | apply Kd.R_drewN | apply Kd.R_drew)); exact HO_5.out))) (Z27 (by repeat (first | (with_reducible first | exact HB.out | apply Z7 | apply Z4 | apply Z6) | exact HB.out)))); have n3_ := Aside0.mk (Z25 (by repeat (first | (with_reducible first | exact HB.out | apply Z7 | apply Z4 | apply Z6) | exact HB.out)) hb); clear HO_5; clear HO_8; clear HB; have HO_5 := n0_; have HO_8 := n1_; have HO355 := n2_; have HB := n3_; clear n0_ n1_ n2_ n3_; (try clear hb); (try clear hb2); (try clear hk); (try clear hi); (try clear ho0)))
           go_ret
           exact ⟨by first | rfl | (simp [Z16, Z15] <;> rfl) | (simp [*, Z16, Z15] <;> rfl), by repeat (first | (with_reducible first | exact HB.out | apply Z7 | apply Z4 | apply Z6) | exact HB.out)⟩
       · rw [if_neg c56] at H
         have c56b0 : (t353 == 3) = false := beq_eq_false_iff_ne.mpr c56
         have c56b1 : (t353 != 3) = true := bne_iff_ne.mpr c56
         have HC66 := Aside0.mk H
         clear H
         obtain ⟨Ao67, co67, eo67⟩ := Kd.R_slice HO_5.out
         subst eo67
         have hcv68 := own_string (P := Tryd.prog) Tryd.underlying35 Tryd.underlying5 Tryd.underlying9 (Kd.own_of_R HO_8.out)
         go_upto_region 24 with (first | ((with_reducible refine Z14 (f := 12) rfl ?_); refine goesL_ (some 113) rfl rfl Tryd.func12 (by kernel_rfl) rfl #[.string (strOfNums x8_1)] rfl (by (try simp only [List.map_toArray, List.map_cons, List.map_nil]); first | done | rfl | (simp only [List.length_drop, List.length_take]; rfl)) ?_; (with_reducible refine (Z44.calls k1 (strOfNums x8_1) t351 t352 t353 _ ?side1 A55.out).mono ?_); (case side1 => refine PremW.below HG.out ?_; repeat (first | (with_reducible first | exact HB.out | apply Z7 | apply Z4 | apply Z6) | exact HB.out)); rintro e w69 ⟨v354, rfl, ho0, hb⟩; refine ⟨_, rfl, ?_⟩; have n0_ := Aside0.mk (Kd.R_elder' (by (with_reducible repeat (first | apply Kd.R_alloc | apply Kd.R_drewN | apply Kd.R_drew)); exact HO_5.out) (Kd.R_base ho0) hb); have n1_ := Aside0.mk (Kd.R_below (by (with_reducible repeat (first | apply Kd.R_alloc | apply Kd.R_drewN | apply Kd.R_drew)); exact HO_8.out) hb); have n2_ := Aside0.mk (Kd.R_lower (Kd.R_new' ho0 (Kd.R_lt (by (with_reducible repeat (first | apply Kd.R_alloc | apply Kd.R_drewN | apply Kd.R_drew)); exact HO_5.out))) (Z27 (by repeat (first | (with_reducible first | exact HB.out | apply Z7 | apply Z4 | apply Z6) | exact HB.out)))); have n3_ := Aside0.mk (Z25 (by repeat (first | (with_reducible first | exact HB.out | apply Z7 | apply Z4 | apply Z6) | exact HB.out)) hb); clear HO_5; clear HO_8; clear HB; have HO_5 := n0_; have HO_8 := n1_; have HO355 := n2_; have HB := n3_; clear n0_ n1_ n2_ n3_; (try clear hb); (try clear hb2); (try clear hk); (try clear hi); (try clear ho0)))
         (try simp only [Act.put, List.setIfInBounds_toArray, List.set_cons_zero, List.set_cons_succ])
         go_cut [139] (fun v139 wc => ∃ (kq : Nat) (x139_65 : Bool), v139 = .bool x139_65 ∧ Aside0 (cruciblelaw07_LexerStands.j3 kq t323 t351 x139_65 = some r) ∧ Aside0 (kq ≤ k1) ∧ Aside0 (Kd.R k24 24 wc w.heap.size (fun k_ => some k_ ≠ (v354 : Value).ownBlock) (.slice Ao67 t323.length co67) t323) ∧ Aside0 (Kd.R k24 24 wc w.heap.size (fun k_ => some k_ ≠ ((.slice Ao67 t323.length co67) : Value).ownBlock) v354 t351) ∧ Aside0 (Below w.heap.size w wc))
         case first =>
          have H := HC66.out
          clear HC66
          by_cases c70 : t353 = 0
          · rw [if_pos c70] at H
            have c70b0 : (t353 == 0) = true := beq_iff_eq.mpr c70
            have c70b1 : (t353 != 0) = false := bne_eq_false_iff_eq.mpr c70
            clear c70
            (first | rw [c70b0] | (simp only [i64_w, i32_w]; rw [c70b0]) | skip)
            by_cases c71 : (t351.length : Int) = (t323.length : Int)
            · rw [if_pos c71] at H
              have c71b0 : ((t351.length : Int) == (t323.length : Int)) = true := beq_iff_eq.mpr c71
              have c71b1 : ((t351.length : Int) != (t323.length : Int)) = false := bne_eq_false_iff_eq.mpr c71
              have c71b2 : (t351.length == t323.length) = true := by first | simpa using c71 | (simp at c71 ⊢; omega)
              clear c71
              have H' := Aside0.mk H
              clear H
              obtain ⟨Ao72, co72, eo72⟩ := Kd.R_slice HO355.out
              subst eo72
              go_wp2
              go_meet
              case rel => exact ⟨_, ((x9_1 != (a0.size : Int))), (by first | rfl | (simp; done) | (simp [*]; done)), H', ⟨by have := HK1.out; first | omega | exact Nat.le_refl _⟩, ⟨by (with_reducible repeat (first | apply Kd.R_alloc | apply Kd.R_drewN | apply Kd.R_drew)); exact Kd.R_mono HO_5.out (fun _ hk => hk.2)⟩, ⟨by (with_reducible repeat (first | apply Kd.R_alloc | apply Kd.R_drewN | apply Kd.R_drew)); exact Kd.R_mono HO355.out (fun _ hk => hk.2)⟩, ⟨by repeat (first | (with_reducible first | exact HB.out | apply Z7 | apply Z4 | apply Z6) | exact HB.out)⟩⟩
            · rw [if_neg c71] at H
              have c71b0 : ((t351.length : Int) == (t323.length : Int)) = false := beq_eq_false_iff_ne.mpr c71
              have c71b1 : ((t351.length : Int) != (t323.length : Int)) = true := bne_iff_ne.mpr c71
              have c71b2 : (t351.length == t323.length) = false := by first | simpa using c71 | (simp at c71 ⊢; omega)
              have H' := Aside0.mk H
              clear H
              obtain ⟨Ao73, co73, eo73⟩ := Kd.R_slice HO355.out
              subst eo73
              go_wp2
              go_meet
              case rel => exact ⟨_, (true), (by first | rfl | (simp; done) | (simp [*]; done)), H', ⟨by have := HK1.out; first | omega | exact Nat.le_refl _⟩, ⟨by (with_reducible repeat (first | apply Kd.R_alloc | apply Kd.R_drewN | apply Kd.R_drew)); exact Kd.R_mono HO_5.out (fun _ hk => hk.2)⟩, ⟨by (with_reducible repeat (first | apply Kd.R_alloc | apply Kd.R_drewN | apply Kd.R_drew)); exact Kd.R_mono HO355.out (fun _ hk => hk.2)⟩, ⟨by repeat (first | (with_reducible first | exact HB.out | apply Z7 | apply Z4 | apply Z6) | exact HB.out)⟩⟩
          · rw [if_neg c70] at H
            have c70b0 : (t353 == 0) = false := beq_eq_false_iff_ne.mpr c70
            have c70b1 : (t353 != 0) = true := bne_iff_ne.mpr c70
            (first | rw [c70b0] | (simp only [i64_w, i32_w]; rw [c70b0]) | skip)
            have H' := Aside0.mk H
            clear H
            go_wp2
            go_meet
            case rel => exact ⟨_, (true), (by first | rfl | (simp; done) | (simp [*]; done)), H', ⟨by have := HK1.out; first | omega | exact Nat.le_refl _⟩, ⟨by (with_reducible repeat (first | apply Kd.R_alloc | apply Kd.R_drewN | apply Kd.R_drew)); exact Kd.R_mono HO_5.out (fun _ hk => hk.2)⟩, ⟨by (with_reducible repeat (first | apply Kd.R_alloc | apply Kd.R_drewN | apply Kd.R_drew)); exact Kd.R_mono HO355.out (fun _ hk => hk.2)⟩, ⟨by repeat (first | (with_reducible first | exact HB.out | apply Z7 | apply Z4 | apply Z6) | exact HB.out)⟩⟩
         case rest =>
          clear HC66
          try clear c4
          try clear c4b0
          try clear c4b1
          try clear c8
          try clear c8b0
          try clear c56
          try clear c56b0
          try clear c56b1
          try clear hcv68
          obtain ⟨kq, x139_65, rfl, HA, HJ65, HO_5, HO_16, HB⟩ := hcut
          cases kq with
          | zero => exact absurd HA.out (by simp [cruciblelaw07_LexerStands.j3])
          | succ kj65 =>
           have H := HA.out
           clear HA
           simp only [cruciblelaw07_LexerStands.j3] at H
           by_cases c74 : x139_65 = true
           · subst c74
             have H1 : (some false) = some r := by rw [if_pos rfl] at H; exact H
             clear H
             have H := H1
             clear H1
             obtain rfl := Option.some.inj H
             go_wp2
             go_ret
             exact ⟨by first | rfl | (simp [Z16, Z15] <;> rfl) | (simp [*, Z16, Z15] <;> rfl), by repeat (first | (with_reducible first | exact HB.out | apply Z7 | apply Z4 | apply Z6) | exact HB.out)⟩
           · replace c74 := Bool.eq_false_iff.mpr c74
             subst c74
             have H1 : (cruciblelaw07_LexerStands.l1 kj65 t323 t351 0) = some r := by rw [if_neg (show ¬ (false = true) by decide)] at H; exact H
             clear H
             have H := H1
             clear H1
             have H' := Aside0.mk H
             clear H
             go_wp2
             go_loopg [19] kj65 (fun kq v19 w' => ∃ (x16_3 : List (S24)) (x19_3 : Int), v19 = .int .i64 x19_3 ∧ Aside0 (cruciblelaw07_LexerStands.l1 kq t323 x16_3 x19_3 = some r) ∧ Aside0 (kq ≤ kj65) ∧ Aside0 (Kd.R k24 24 w' w.heap.size (fun k_ => some k_ ≠ (v354 : Value).ownBlock) (.slice Ao67 t323.length co67) t323) ∧ Aside0 (Kd.R k24 24 w' w.heap.size (fun k_ => some k_ ≠ ((.slice Ao67 t323.length co67) : Value).ownBlock) v354 x16_3) ∧ Aside0 (Below w.heap.size w w'))
             case atStart => exact ⟨(t351), (0), (by first | rfl | (simp; done) | (simp [*]; done)), H', ⟨Nat.le_refl _⟩, ⟨by (with_reducible repeat (first | apply Kd.R_alloc | apply Kd.R_drewN | apply Kd.R_drew)); exact HO_5.out⟩, ⟨by (with_reducible repeat (first | apply Kd.R_alloc | apply Kd.R_drewN | apply Kd.R_drew)); exact HO_16.out⟩, ⟨by repeat (first | (with_reducible first | exact HB.out | apply Z7 | apply Z4 | apply Z6) | exact HB.out)⟩⟩
             case round =>
              clear H'
              try clear c4
              try clear c4b0
              try clear c4b1
              try clear c8
              try clear c8b0
              try clear c56
              try clear c56b0
              try clear c56b1
              try clear hcv68
              try clear c74
              obtain ⟨x16_3, x19_3, rfl, HA, HK3, HO_5, HO_16, HB⟩ := hrel
              cases gk with
              | zero => exact absurd HA.out (by simp [cruciblelaw07_LexerStands.l1])
              | succ k3 =>
               have H := HA.out
               clear HA
               simp only [cruciblelaw07_LexerStands.l1] at H
               by_cases c75 : x19_3 < (x16_3.length : Int)
               · rw [if_pos c75] at H
                 have c75b0 : decide (x19_3 < (x16_3.length : Int)) = true := decide_eq_true c75
                 clear c75
                 by_cases c76 : 0 ≤ x19_3
                 · rw [if_pos c76] at H
                   have c76b0 : decide (0 ≤ x19_3) = true := decide_eq_true c76
                   clear c76
                   by_cases c77 : x19_3 < (t323.length : Int)
                   · rw [if_pos c77] at H
                     have c77b0 : decide (x19_3 < (t323.length : Int)) = true := decide_eq_true c77
                     clear c77
                     obtain ⟨y358, hy358⟩ : ∃ y_ : List (S24), y_ = (x16_3.set (x19_3 : Int).toNat (⟨(rd_T24 x16_3 x19_3).f0, (rd_T24 x16_3 x19_3).f1, (rd_T24 x16_3 x19_3).f2, (rd_T24 x16_3 x19_3).f3, (rd_T24 t323 x19_3).f4, (rd_T24 x16_3 x19_3).f5⟩ : S24)) := ⟨_, rfl⟩
                     replace H : (cruciblelaw07_LexerStands.l1 k3 t323 (y358.set (x19_3 : Int).toNat (⟨(rd_T24 y358 x19_3).f0, (rd_T24 y358 x19_3).f1, (rd_T24 y358 x19_3).f2, (rd_T24 y358 x19_3).f3, (rd_T24 y358 x19_3).f4, (rd_T24 t323 x19_3).f5⟩ : S24)) (wrap64 (x19_3 + 1))) = some r := by first | (rw [hy358]; with_reducible exact H) | (have H2_ := (Option.bind_some _ _).symm.trans H; rw [hy358]; with_reducible exact H2_) | (have H2_ := (Option.bind_some _ _).symm.trans H; with_reducible exact H2_) | with_reducible exact H | (rw [hy358]; exact H) | exact H
                     have Ny358 := Aside0.mk hy358
                     clear hy358
                     obtain ⟨y360, hy360⟩ : ∃ y_ : List (S24), y_ = (y358.set (x19_3 : Int).toNat (⟨(rd_T24 y358 x19_3).f0, (rd_T24 y358 x19_3).f1, (rd_T24 y358 x19_3).f2, (rd_T24 y358 x19_3).f3, (rd_T24 y358 x19_3).f4, (rd_T24 t323 x19_3).f5⟩ : S24)) := ⟨_, rfl⟩
                     replace H : (cruciblelaw07_LexerStands.l1 k3 t323 y360 (wrap64 (x19_3 + 1))) = some r := by first | (rw [hy360]; with_reducible exact H) | (have H2_ := (Option.bind_some _ _).symm.trans H; rw [hy360]; with_reducible exact H2_) | (have H2_ := (Option.bind_some _ _).symm.trans H; with_reducible exact H2_) | with_reducible exact H | (rw [hy360]; exact H) | exact H
                     have Ny360 := Aside0.mk hy360
                     clear hy360
                     have H' := Aside0.mk H
                     clear H
                     obtain ⟨Ao80, co80, eo80⟩ := Kd.R_slice HO_16.out
                     subst eo80
                     have p357 : 0 ≤ (x19_3 : Int) := of_decide_eq_true (by first | (with_reducible assumption) | assumption)
                     have q357 : x19_3 < (t323.length : Int) := of_decide_eq_true (by first | (with_reducible assumption) | assumption)
                     obtain ⟨ad357, e357, hx357_0, hx357_1, hx357_2, hx357_3, hx357_4, hx357_5⟩ := at_T24 (Kd.R_reads' HO_5.out).2.2 x19_3 p357 q357
                     cases e357
                     replace p357 := eq_true p357
                     replace q357 := eq_true q357
                     have p78 : 0 ≤ (x19_3 : Int) := of_decide_eq_true (by first | (with_reducible assumption) | assumption)
                     have q78 : (x19_3 : Int) < ((x16_3.length : Int) : Int) := of_decide_eq_true (by first | (with_reducible assumption) | assumption)
                     obtain ⟨go78, co78, eo78, gb78, gl78, cl78, HG78⟩ := Kd.R_form HO_16.out (by omega)
                     (first | cases eo78 | (injection eo78 with ea_ en_ ec_; (first | subst ea_ | (injection ea_ with ea_; subst ea_)); subst ec_; clear en_))
                     have GB78 := Aside0.mk gb78
                     have GG78 := Aside0.mk HG78
                     clear gb78 gl78 HG78
                     obtain ⟨ce78, hcl78, hM78, hcc78, hfr78⟩ := Kd.R_elem HO_16.out z24 (x19_3 : Int) p78 q78
                     obtain rfl := k24_openM hM78
                     have hx78_0 : wr.cell? ⟨go78, (x19_3 : Int).toNat * 6, none⟩ = some (.int .i64 ((rd_T24 x16_3 x19_3).f0)) := hcc78 0 _ rfl
                     have hx78_1 : wr.cell? ⟨go78, (x19_3 : Int).toNat * 6 + 1, none⟩ = some (.string ((rd_T24 x16_3 x19_3).f1)) := hcc78 1 _ rfl
                     have hx78_2 : wr.cell? ⟨go78, (x19_3 : Int).toNat * 6 + 2, none⟩ = some (.int .u32 ((rd_T24 x16_3 x19_3).f2)) := hcc78 2 _ rfl
                     have hx78_3 : wr.cell? ⟨go78, (x19_3 : Int).toNat * 6 + 3, none⟩ = some (.bool ((rd_T24 x16_3 x19_3).f3)) := hcc78 3 _ rfl
                     have hx78_4 : wr.cell? ⟨go78, (x19_3 : Int).toNat * 6 + 4, none⟩ = some (.int .i64 ((rd_T24 x16_3 x19_3).f4)) := hcc78 4 _ rfl
                     have hx78_5 : wr.cell? ⟨go78, (x19_3 : Int).toNat * 6 + 5, none⟩ = some (.int .i64 ((rd_T24 x16_3 x19_3).f5)) := hcc78 5 _ rfl
                     have hf78_0 : wr.frozen? ⟨go78, (x19_3 : Int).toNat * 6, none⟩ = false := hfr78 0
                     have hf78_1 : wr.frozen? ⟨go78, (x19_3 : Int).toNat * 6 + 1, none⟩ = false := hfr78 1
                     have hf78_2 : wr.frozen? ⟨go78, (x19_3 : Int).toNat * 6 + 2, none⟩ = false := hfr78 2
                     have hf78_3 : wr.frozen? ⟨go78, (x19_3 : Int).toNat * 6 + 3, none⟩ = false := hfr78 3
                     have hf78_4 : wr.frozen? ⟨go78, (x19_3 : Int).toNat * 6 + 4, none⟩ = false := hfr78 4
                     have hf78_5 : wr.frozen? ⟨go78, (x19_3 : Int).toNat * 6 + 5, none⟩ = false := hfr78 5
                     clear hcl78 hcc78 hfr78 hM78
                     replace p78 := eq_true p78
                     replace q78 := eq_true q78
                     have HX81 := Aside0.mk (show Kd.R k24 24 wr w.heap.size (fun k_ => some k_ ≠ (.slice (some ad357) t323.length co67 : Value).ownBlock) (.slice (some ⟨go78, 0, none⟩) x16_3.length co80) x16_3 from (by (with_reducible repeat (first | apply Kd.R_alloc | apply Kd.R_drewN | apply Kd.R_drew)); exact HO_16.out))
                     obtain ⟨ce81, hcl81, hM81, hcc81, hfr81⟩ := Kd.R_elem HX81.out z24 (x19_3 : Int) (of_decide_eq_true (by first | (with_reducible assumption) | assumption)) (by have h_ : (x19_3 : Int) < ((x16_3.length : Int) : Int) := of_decide_eq_true (by first | (with_reducible assumption) | assumption); first | exact h_ | (have e_ := (Kd.R_reads' HO_16.out).1; omega) | simpa using h_)
                     obtain rfl := k24_openM hM81
                     have HP81 := Kd.R_seg HX81.out (x19_3 : Int) (of_decide_eq_true (by first | (with_reducible assumption) | assumption)) (by have h_ : (x19_3 : Int) < ((x16_3.length : Int) : Int) := of_decide_eq_true (by first | (with_reducible assumption) | assumption); first | exact h_ | (have e_ := (Kd.R_reads' HO_16.out).1; omega) | simpa using h_) (seg := [.int .i64 ((rd_T24 t323 x19_3).f4)]) (j := 4) hcl81 hcc81 (show 5 ≤ 6 from by decide) (x' := (⟨(rd_T24 x16_3 x19_3).f0, (rd_T24 x16_3 x19_3).f1, (rd_T24 x16_3 x19_3).f2, (rd_T24 x16_3 x19_3).f3, (rd_T24 t323 x19_3).f4, (rd_T24 x16_3 x19_3).f5⟩ : S24)) (k24_mkM _ _ _ (⟨(rd_T24 x16_3 x19_3).f0, (rd_T24 x16_3 x19_3).f1, (rd_T24 x16_3 x19_3).f2, (rd_T24 x16_3 x19_3).f3, (rd_T24 t323 x19_3).f4, (rd_T24 x16_3 x19_3).f5⟩ : S24) ) (fun _ hk => hk)
                     have hx81_4 := hcc81 4 _ rfl
                     (try simp only [show (k24).sz = 6 from rfl, Nat.mul_one, Nat.add_zero] at hx81_4)
                     have hf81_4 := hfr81 4
                     (try simp only [show (k24).sz = 6 from rfl, Nat.mul_one, Nat.add_zero] at hf81_4)
                     clear hcl81 hcc81 hfr81 hM81
                     go_wp2_with (first | ((with_reducible refine gate_store (t := 3) (p := 154) rfl ?_); refine store_event (t := 3) (p := 154) (v := ?vo_w82) (w1 := (wr.setCell ⟨go78, (x19_3 : Int).toNat * 6 + 4, none⟩ (.int .i64 ((rd_T24 t323 x19_3).f4)))) ?hg ?ho ?hn ?hr ?_; (case ho => rfl); (case hg => rfl); (case hn => rfl); (case hr => first | (go_simp; done) | (go_simp; rfl)); intro w82 hw; have hg : wr.grownBy w82 (some go78) := (by rw [hw]; exact HP81.2); have hp_ : Kd.R k24 24 w82 w.heap.size (fun k_ => some k_ ≠ (.slice (some ad357) t323.length co67 : Value).ownBlock) (.slice (some ⟨go78, 0, none⟩) x16_3.length co80) y358 := (by rw [hw, Ny358.out]; exact HP81.1); clear HP81; have n0_ := Aside0.mk (Kd.R_after (v := (.slice (some ⟨go78, 0, none⟩) x16_3.length co80)) (v1 := (.slice (some ⟨go78, 0, none⟩) x16_3.length co80)) (ok := (fun _ => True)) (by (with_reducible repeat (first | apply Kd.R_alloc | apply Kd.R_drewN | apply Kd.R_drew)); exact Kd.R_mono HO_5.out (fun _ hk => ⟨trivial, hk⟩)) hg (.inl rfl)); have n1_ := Aside0.mk (hp_); have n2_ := Aside0.mk ((by rw [hw]; exact Z8 (HB.out) GB78.out : Below w.heap.size w w82)); clear HO_5; clear HO_16; clear HB; have HO_5 := n0_; have HO_16 := n1_; have HB := n2_; clear n0_ n1_ n2_; clear hg hw hp_; have p359 : 0 ≤ (x19_3 : Int) := of_decide_eq_true (by first | (with_reducible assumption) | assumption); have q359 : x19_3 < (t323.length : Int) := of_decide_eq_true (by first | (with_reducible assumption) | assumption); obtain ⟨ad359, e359, hx359_0, hx359_1, hx359_2, hx359_3, hx359_4, hx359_5⟩ := at_T24 (Kd.R_reads' HO_5.out).2.2 x19_3 p359 q359; obtain rfl : ad357 = ad359 := (by injection e359); replace p359 := eq_true p359; replace q359 := eq_true q359; have p79 : 0 ≤ (x19_3 : Int) := of_decide_eq_true (by first | (with_reducible assumption) | assumption); have q79 : (x19_3 : Int) < ((x16_3.length : Int) : Int) := of_decide_eq_true (by first | (with_reducible assumption) | assumption); obtain ⟨ce79, hcl79, hM79, hcc79, hfr79⟩ := Kd.R_elem HO_16.out z24 (x19_3 : Int) p79 q79; obtain rfl := k24_openM hM79; have hx79_0 : w82.cell? ⟨go78, (x19_3 : Int).toNat * 6, none⟩ = some (.int .i64 ((rd_T24 y358 x19_3).f0)) := hcc79 0 _ rfl; have hx79_1 : w82.cell? ⟨go78, (x19_3 : Int).toNat * 6 + 1, none⟩ = some (.string ((rd_T24 y358 x19_3).f1)) := hcc79 1 _ rfl; have hx79_2 : w82.cell? ⟨go78, (x19_3 : Int).toNat * 6 + 2, none⟩ = some (.int .u32 ((rd_T24 y358 x19_3).f2)) := hcc79 2 _ rfl; have hx79_3 : w82.cell? ⟨go78, (x19_3 : Int).toNat * 6 + 3, none⟩ = some (.bool ((rd_T24 y358 x19_3).f3)) := hcc79 3 _ rfl; have hx79_4 : w82.cell? ⟨go78, (x19_3 : Int).toNat * 6 + 4, none⟩ = some (.int .i64 ((rd_T24 y358 x19_3).f4)) := hcc79 4 _ rfl; have hx79_5 : w82.cell? ⟨go78, (x19_3 : Int).toNat * 6 + 5, none⟩ = some (.int .i64 ((rd_T24 y358 x19_3).f5)) := hcc79 5 _ rfl; have hf79_0 : w82.frozen? ⟨go78, (x19_3 : Int).toNat * 6, none⟩ = false := hfr79 0; have hf79_1 : w82.frozen? ⟨go78, (x19_3 : Int).toNat * 6 + 1, none⟩ = false := hfr79 1; have hf79_2 : w82.frozen? ⟨go78, (x19_3 : Int).toNat * 6 + 2, none⟩ = false := hfr79 2; have hf79_3 : w82.frozen? ⟨go78, (x19_3 : Int).toNat * 6 + 3, none⟩ = false := hfr79 3; have hf79_4 : w82.frozen? ⟨go78, (x19_3 : Int).toNat * 6 + 4, none⟩ = false := hfr79 4; have hf79_5 : w82.frozen? ⟨go78, (x19_3 : Int).toNat * 6 + 5, none⟩ = false := hfr79 5; clear hcl79 hcc79 hfr79 hM79; replace p79 := eq_true p79; replace q79 := eq_true q79; have HX83 := Aside0.mk (show Kd.R k24 24 w82 w.heap.size (fun k_ => some k_ ≠ (.slice (some ad357) t323.length co67 : Value).ownBlock) (.slice (some ⟨go78, 0, none⟩) x16_3.length co80) y358 from (by (with_reducible repeat (first | apply Kd.R_alloc | apply Kd.R_drewN | apply Kd.R_drew)); exact HO_16.out)); obtain ⟨ce83, hcl83, hM83, hcc83, hfr83⟩ := Kd.R_elem HX83.out z24 (x19_3 : Int) (of_decide_eq_true (by first | (with_reducible assumption) | assumption)) (by have h_ : (x19_3 : Int) < ((x16_3.length : Int) : Int) := of_decide_eq_true (by first | (with_reducible assumption) | assumption); first | exact h_ | (have e_ := (Kd.R_reads' HO_16.out).1; omega) | simpa using h_); obtain rfl := k24_openM hM83; have HP83 := Kd.R_seg HX83.out (x19_3 : Int) (of_decide_eq_true (by first | (with_reducible assumption) | assumption)) (by have h_ : (x19_3 : Int) < ((x16_3.length : Int) : Int) := of_decide_eq_true (by first | (with_reducible assumption) | assumption); first | exact h_ | (have e_ := (Kd.R_reads' HO_16.out).1; omega) | simpa using h_) (seg := [.int .i64 ((rd_T24 t323 x19_3).f5)]) (j := 5) hcl83 hcc83 (show 6 ≤ 6 from by decide) (x' := (⟨(rd_T24 y358 x19_3).f0, (rd_T24 y358 x19_3).f1, (rd_T24 y358 x19_3).f2, (rd_T24 y358 x19_3).f3, (rd_T24 y358 x19_3).f4, (rd_T24 t323 x19_3).f5⟩ : S24)) (k24_mkM _ _ _ (⟨(rd_T24 y358 x19_3).f0, (rd_T24 y358 x19_3).f1, (rd_T24 y358 x19_3).f2, (rd_T24 y358 x19_3).f3, (rd_T24 y358 x19_3).f4, (rd_T24 t323 x19_3).f5⟩ : S24) ) (fun _ hk => hk); have hx83_5 := hcc83 5 _ rfl; (try simp only [show (k24).sz = 6 from rfl, Nat.mul_one, Nat.add_zero] at hx83_5); have hf83_5 := hfr83 5; (try simp only [show (k24).sz = 6 from rfl, Nat.mul_one, Nat.add_zero] at hf83_5); clear hcl83 hcc83 hfr83 hM83) | ((with_reducible refine gate_store (t := 3) (p := 163) rfl ?_); refine store_event (t := 3) (p := 163) (v := ?vo_w84) (w1 := (w82.setCell ⟨go78, (x19_3 : Int).toNat * 6 + 5, none⟩ (.int .i64 ((rd_T24 t323 x19_3).f5)))) ?hg ?ho ?hn ?hr ?_; (case ho => rfl); (case hg => rfl); (case hn => rfl); (case hr => first | (go_simp; done) | (go_simp; rfl)); intro w84 hw; have hg : w82.grownBy w84 (some go78) := (by rw [hw]; exact HP83.2); have hp_ : Kd.R k24 24 w84 w.heap.size (fun k_ => some k_ ≠ (.slice (some ad357) t323.length co67 : Value).ownBlock) (.slice (some ⟨go78, 0, none⟩) x16_3.length co80) y360 := (by rw [hw, Ny360.out]; exact HP83.1); clear HP83; have n0_ := Aside0.mk (Kd.R_after (v := (.slice (some ⟨go78, 0, none⟩) x16_3.length co80)) (v1 := (.slice (some ⟨go78, 0, none⟩) x16_3.length co80)) (ok := (fun _ => True)) (by (with_reducible repeat (first | apply Kd.R_alloc | apply Kd.R_drewN | apply Kd.R_drew)); exact HO_5.out) hg (.inl rfl)); have n1_ := Aside0.mk (hp_); have n2_ := Aside0.mk ((by rw [hw]; exact Z8 (HB.out) GB78.out : Below w.heap.size w w84)); clear HO_5; clear HO_16; clear HB; have HO_5 := n0_; have HO_16 := n1_; have HB := n2_; clear n0_ n1_ n2_; clear hg hw hp_))
                     go_roundg k3
                     case measure => have := HK1.out; have := HJ65.out; have := HK3.out; omega
                     case rel => exact ⟨(y360), (wrap64 (x19_3 + 1)), (by first | rfl | (simp; done) | (simp [*]; done)), H', ⟨by have := HK1.out; have := HJ65.out; have := HK3.out; omega⟩, ⟨by (with_reducible repeat (first | apply Kd.R_alloc | apply Kd.R_drewN | apply Kd.R_drew)); exact Kd.R_mono HO_5.out (fun _ hk => hk.2)⟩, ⟨by (with_reducible repeat (first | apply Kd.R_alloc | apply Kd.R_drewN | apply Kd.R_drew)); exact HO_16.out⟩, ⟨by repeat (first | (with_reducible first | exact HB.out | apply Z7 | apply Z4 | apply Z6) | exact HB.out)⟩⟩
                   · rw [if_neg c77] at H
                     exact absurd H (by simp)
                 · rw [if_neg c76] at H
                   exact absurd H (by simp)
               · rw [if_neg c75] at H
                 have c75b0 : decide (x19_3 < (x16_3.length : Int)) = false := decide_eq_false c75
                 clear c75
                 replace H := Option.bind_eq_some_iff.mp H
                 obtain ⟨t361, A850, H⟩ := H
                 replace H : (if t361 = true then ((cruciblelaw07_awake.f k3).bind fun t362 => (some t362)) else (some false)) = some r := H
                 have A85 := Aside0.mk A850
                 clear A850
                 by_cases c86 : t361 = true
                 · subst c86
                   have H1 : ((cruciblelaw07_awake.f k3).bind fun t362 => (some t362)) = some r := by rw [if_pos rfl] at H; exact H
                   clear H
                   have H := H1
                   clear H1
                   replace H := Option.bind_eq_some_iff.mp H
                   obtain ⟨t362, A870, H⟩ := H
                   replace H : (some t362) = some r := H
                   have A87 := Aside0.mk A870
                   clear A870
                   obtain rfl := Option.some.inj H
                   obtain ⟨Ao88, co88, eo88⟩ := Kd.R_slice HO_16.out
                   subst eo88
                   go_wp2_with (first | ((with_reducible refine Z14 (f := 14) rfl ?_); refine goesL_ (some 166) rfl rfl Tryd.func14 (by kernel_rfl) rfl #[.slice Ao67 t323.length co67, .slice Ao88 x16_3.length co88] rfl (by (try simp only [List.map_toArray, List.map_cons, List.map_nil]); first | done | rfl | (simp only [List.length_drop, List.length_take]; rfl)) ?_; (with_reducible refine (Z50.calls k3 _ _ t323 _ _ x16_3 true _ ?side1 ?side2 ?side3 ?side4 A85.out).mono ?_); (case side1 => repeat (first | exact (Kd.R_reads' HO_5.out).2.2 | (with_reducible refine Kd.C_alloc ?_ _) | (with_reducible refine Kd.C_drewN ?_ _) | (with_reducible refine Kd.C_drew ?_))); (case side2 => exact (Kd.R_reads' HO_5.out).2.1); (case side3 => repeat (first | exact (Kd.R_reads' HO_16.out).2.2 | (with_reducible refine Kd.C_alloc ?_ _) | (with_reducible refine Kd.C_drewN ?_ _) | (with_reducible refine Kd.C_drew ?_))); (case side4 => exact (Kd.R_reads' HO_16.out).2.1); rintro e w' ⟨rfl, ⟨nd, rfl⟩⟩; refine ⟨_, rfl, ?_⟩) | (go_at_call 11; (with_reducible refine (cruciblelaw07_awake.calls k3  t362 _ ?side1 A87.out).mono ?_); (case side1 => refine PremW.below HG.out ?_; repeat (first | (with_reducible first | exact HB.out | apply Z7 | apply Z4 | apply Z6) | exact HB.out)); rintro e w89 ⟨rfl, hb⟩; have n0_ := Aside0.mk (Kd.R_below (by (with_reducible repeat (first | apply Kd.R_alloc | apply Kd.R_drewN | apply Kd.R_drew)); exact HO_5.out) hb); have n1_ := Aside0.mk (Kd.R_below (by (with_reducible repeat (first | apply Kd.R_alloc | apply Kd.R_drewN | apply Kd.R_drew)); exact HO_16.out) hb); have n2_ := Aside0.mk (Z25 (by repeat (first | (with_reducible first | exact HB.out | apply Z7 | apply Z4 | apply Z6) | exact HB.out)) hb); clear HO_5; clear HO_16; clear HB; have HO_5 := n0_; have HO_16 := n1_; have HB := n2_; clear n0_ n1_ n2_; (try clear hb); (try clear hb2); (try clear hk); (try clear hi)))
                   go_ret
                   exact ⟨by first | rfl | (simp [Z16, Z15] <;> rfl) | (simp [*, Z16, Z15] <;> rfl), by repeat (first | (with_reducible first | exact HB.out | apply Z7 | apply Z4 | apply Z6) | exact HB.out)⟩
                 · replace c86 := Bool.eq_false_iff.mpr c86
                   subst c86
                   have H1 : (some false) = some r := by rw [if_neg (show ¬ (false = true) by decide)] at H; exact H
                   clear H
                   have H := H1
                   clear H1
                   obtain rfl := Option.some.inj H
                   obtain ⟨Ao90, co90, eo90⟩ := Kd.R_slice HO_16.out
                   subst eo90
                   go_wp2_with (first | ((with_reducible refine Z14 (f := 14) rfl ?_); refine goesL_ (some 166) rfl rfl Tryd.func14 (by kernel_rfl) rfl #[.slice Ao67 t323.length co67, .slice Ao90 x16_3.length co90] rfl (by (try simp only [List.map_toArray, List.map_cons, List.map_nil]); first | done | rfl | (simp only [List.length_drop, List.length_take]; rfl)) ?_; (with_reducible refine (Z50.calls k3 _ _ t323 _ _ x16_3 false _ ?side1 ?side2 ?side3 ?side4 A85.out).mono ?_); (case side1 => repeat (first | exact (Kd.R_reads' HO_5.out).2.2 | (with_reducible refine Kd.C_alloc ?_ _) | (with_reducible refine Kd.C_drewN ?_ _) | (with_reducible refine Kd.C_drew ?_))); (case side2 => exact (Kd.R_reads' HO_5.out).2.1); (case side3 => repeat (first | exact (Kd.R_reads' HO_16.out).2.2 | (with_reducible refine Kd.C_alloc ?_ _) | (with_reducible refine Kd.C_drewN ?_ _) | (with_reducible refine Kd.C_drew ?_))); (case side4 => exact (Kd.R_reads' HO_16.out).2.1); rintro e w' ⟨rfl, ⟨nd, rfl⟩⟩; refine ⟨_, rfl, ?_⟩))
                   go_ret
                   exact ⟨by first | rfl | (simp [Z16, Z15] <;> rfl) | (simp [*, Z16, Z15] <;> rfl), by repeat (first | (with_reducible first | exact HB.out | apply Z7 | apply Z4 | apply Z6) | exact HB.out)⟩
 · rw [if_neg c4] at H
   have c4b0 : (t325 == 0) = false := beq_eq_false_iff_ne.mpr c4
   have c4b1 : (t325 != 0) = true := bne_iff_ne.mpr c4
   by_cases c91 : (t323.length : Int) = 0
   · rw [if_pos c91] at H
     have c91b0 : ((t323.length : Int) == 0) = true := beq_iff_eq.mpr c91
     have c91b1 : ((t323.length : Int) != 0) = false := bne_eq_false_iff_eq.mpr c91
     clear c91
     replace H := Option.bind_eq_some_iff.mp H
     obtain ⟨t328, A920, H⟩ := H
     replace H : (some t328) = some r := H
     have A92 := Aside0.mk A920
     clear A920
     obtain rfl := Option.some.inj H
     go_enter Tryd.func5, Tryd.ntmps5
     go_wp2_with (first | ((with_reducible refine Z14 (f := 12) rfl ?_); refine goesL_ (some 22) rfl rfl Tryd.func12 (by kernel_rfl) rfl #[.string a0] rfl (by (try simp only [List.map_toArray, List.map_cons, List.map_nil]); first | done | rfl | (simp only [List.length_drop, List.length_take]; rfl)) ?_; (with_reducible refine (Z44.calls k a0 t323 t324 t325 _ ?side1 A3.out).mono ?_); (case side1 => refine PremW.below HG.out ?_; repeat (first | (with_reducible first | exact HB.out | apply Z7 | apply Z4 | apply Z6) | exact HB.out)); rintro e w93 ⟨v326, rfl, ho0, hb⟩; refine ⟨_, rfl, ?_⟩; have n0_ := Aside0.mk (Kd.R_lower ho0 (Z27 (by repeat (first | (with_reducible first | exact HB.out | apply Z7 | apply Z4 | apply Z6) | exact HB.out)))); have n1_ := Aside0.mk (Z25 (by repeat (first | (with_reducible first | exact HB.out | apply Z7 | apply Z4 | apply Z6) | exact HB.out)) hb); clear HB; have HO327 := n0_; have HB := n1_; clear n0_ n1_; (try clear hb); (try clear hb2); (try clear hk); (try clear hi); (try clear ho0); obtain ⟨Ao94, co94, eo94⟩ := Kd.R_slice HO327.out; subst eo94) | (go_at_call 11; (with_reducible refine (cruciblelaw07_awake.calls k  t328 _ ?side1 A92.out).mono ?_); (case side1 => refine PremW.below HG.out ?_; repeat (first | (with_reducible first | exact HB.out | apply Z7 | apply Z4 | apply Z6) | exact HB.out)); rintro e w95 ⟨rfl, hb⟩; have n0_ := Aside0.mk (Kd.R_below (by (with_reducible repeat (first | apply Kd.R_alloc | apply Kd.R_drewN | apply Kd.R_drew)); exact HO327.out) hb); have n1_ := Aside0.mk (Z25 (by repeat (first | (with_reducible first | exact HB.out | apply Z7 | apply Z4 | apply Z6) | exact HB.out)) hb); clear HO327; clear HB; have HO327 := n0_; have HB := n1_; clear n0_ n1_; (try clear hb); (try clear hb2); (try clear hk); (try clear hi)))
     go_ret
     exact ⟨by first | rfl | (simp [Z16, Z15] <;> rfl) | (simp [*, Z16, Z15] <;> rfl), by repeat (first | (with_reducible first | exact HB.out | apply Z7 | apply Z4 | apply Z6) | exact HB.out)⟩
   · rw [if_neg c91] at H
     have c91b0 : ((t323.length : Int) == 0) = false := beq_eq_false_iff_ne.mpr c91
     have c91b1 : ((t323.length : Int) != 0) = true := bne_iff_ne.mpr c91
     have c91b2 : ¬ (t323 = []) := fun h_ => c91 (by rw [h_]; rfl)
     obtain rfl := Option.some.inj H
     go_enter Tryd.func5, Tryd.ntmps5
     go_wp2_with (first | ((with_reducible refine Z14 (f := 12) rfl ?_); refine goesL_ (some 22) rfl rfl Tryd.func12 (by kernel_rfl) rfl #[.string a0] rfl (by (try simp only [List.map_toArray, List.map_cons, List.map_nil]); first | done | rfl | (simp only [List.length_drop, List.length_take]; rfl)) ?_; (with_reducible refine (Z44.calls k a0 t323 t324 t325 _ ?side1 A3.out).mono ?_); (case side1 => refine PremW.below HG.out ?_; repeat (first | (with_reducible first | exact HB.out | apply Z7 | apply Z4 | apply Z6) | exact HB.out)); rintro e w96 ⟨v326, rfl, ho0, hb⟩; refine ⟨_, rfl, ?_⟩; have n0_ := Aside0.mk (Kd.R_lower ho0 (Z27 (by repeat (first | (with_reducible first | exact HB.out | apply Z7 | apply Z4 | apply Z6) | exact HB.out)))); have n1_ := Aside0.mk (Z25 (by repeat (first | (with_reducible first | exact HB.out | apply Z7 | apply Z4 | apply Z6) | exact HB.out)) hb); clear HB; have HO327 := n0_; have HB := n1_; clear n0_ n1_; (try clear hb); (try clear hb2); (try clear hk); (try clear hi); (try clear ho0); obtain ⟨Ao97, co97, eo97⟩ := Kd.R_slice HO327.out; subst eo97))
     go_ret
     exact ⟨by first | rfl | (simp [Z16, Z15] <;> rfl) | (simp [*, Z16, Z15] <;> rfl), by repeat (first | (with_reducible first | exact HB.out | apply Z7 | apply Z4 | apply Z6) | exact HB.out)⟩
end Go.Proofs.YtbmfadmoficfiaaDoor.Q
