/- A part of the proof, made small by a program: Qx36. -/
import Derived.Test.YtbmfadmoficfiaaDoorVj2
import Derived.Test.YtbmfadmoficfiaaDoorVj4
import Derived.Test.YtbmfadmoficfiaaDoorVj5
import Derived.Test.YtbmfadmoficfiaaDoorVj8
import Derived.Test.YtbmfadmoficfiaaDoorVj9
namespace Go.Proofs.YtbmfadmoficfiaaDoor.Q
open Go.RowKit Go.Proofs.YtbmfadmoficfiaaDoorW.PrintWords Go.Proofs.YtbmfadmoficfiaaDoorW.PrintLast Go.Proofs.YtbmfadmoficfiaaDoorW.PrintMore
attribute [local go_sem] Z56 Z54 Z61 Z60 Z49 Z48 Z55 Z53
set_option linter.unusedVariables false
set_option linter.unusedSimpArgs false
attribute [local go_sem high] eqA24
mutual
def cruciblelaw07_LexerJoins.j0 : Nat → ByteArray → ByteArray → List (S24) → List (S24) → Bool → Option (Bool)
 | 0, _, _, _, _, _ => none
 | k + 1, x0, x1, x5, x8, x34 => if x34 = true then ((cruciblelaw07_awake.f k).bind fun t373 => (some t373)) else (if x0.size + 1 ≤ 9223372036854775807 then (if (x0 ++ (⟨#[10]⟩ : ByteArray)).size + x1.size ≤ 9223372036854775807 then ((Z44.f k ((x0 ++ (⟨#[10]⟩ : ByteArray)) ++ x1)).bind fun bt374 => (if bt374.2.2 = 3 then (if (wrap64 ((wrap64 ((x0.size : Int) + (x1.size : Int))) + 1)) > 65536 then ((cruciblelaw07_awake.f k).bind fun t379 => (some t379)) else (some false)) else (if bt374.2.2 = 0 then (if (x5.length : Int) = 0 then (cruciblelaw07_LexerJoins.j1 k x0 x5 x8 bt374.1 true) else (if (x8.length : Int) = 0 then (cruciblelaw07_LexerJoins.j1 k x0 x5 x8 bt374.1 true) else (cruciblelaw07_LexerJoins.j1 k x0 x5 x8 bt374.1 ((bt374.1.length : Int) != (wrap64 ((wrap64 ((x5.length : Int) - 1)) + (x8.length : Int))))))) else (cruciblelaw07_LexerJoins.j1 k x0 x5 x8 bt374.1 true)))) else (none)) else (none))
def cruciblelaw07_LexerJoins.j1 : Nat → ByteArray → List (S24) → List (S24) → List (S24) → Bool → Option (Bool)
 | 0, _, _, _, _, _ => none
 | k + 1, x0, x5, x8, x11, x79 => if x79 = true then (some false) else (cruciblelaw07_LexerJoins.l0 k x0 x5 x8 x11 0)
def cruciblelaw07_LexerJoins.l0 : Nat → ByteArray → List (S24) → List (S24) → List (S24) → Int → Option (Bool)
 | 0, _, _, _, _, _ => none
 | k + 1, x0, x5, x8, x11, x14 => if x14 < (x11.length : Int) then (if 0 ≤ x14 then (if x14 < (wrap64 ((x5.length : Int) - 1)) then (if x14 < (x5.length : Int) then (if (!(((rd_T24 x11 x14).f0) == ((rd_T24 x5 x14).f0)) || (!((((rd_T24 x11 x14).f1).toList) == (((rd_T24 x5 x14).f1).toList)) || (!(((rd_T24 x11 x14).f2) == ((rd_T24 x5 x14).f2)) || (!(((rd_T24 x11 x14).f3) == ((rd_T24 x5 x14).f3)) || (!(((rd_T24 x11 x14).f4) == ((rd_T24 x5 x14).f4)) || (!(((rd_T24 x11 x14).f5) == ((rd_T24 x5 x14).f5)))))))) = true then (some false) else (cruciblelaw07_LexerJoins.l0 k x0 x5 x8 x11 (wrap64 (x14 + 1)))) else (none)) else (if 0 ≤ (wrap64 ((wrap64 (x14 - (x5.length : Int))) + 1)) then (if (wrap64 ((wrap64 (x14 - (x5.length : Int))) + 1)) < (x8.length : Int) then (if (!(((rd_T24 x11 x14).f0) == ((rd_T24 x8 (wrap64 ((wrap64 (x14 - (x5.length : Int))) + 1))).f0)) || (!((((rd_T24 x11 x14).f1).toList) == (((rd_T24 x8 (wrap64 ((wrap64 (x14 - (x5.length : Int))) + 1))).f1).toList)) || (!(((rd_T24 x11 x14).f2) == ((rd_T24 x8 (wrap64 ((wrap64 (x14 - (x5.length : Int))) + 1))).f2)) || (!(((rd_T24 x11 x14).f3) == ((rd_T24 x8 (wrap64 ((wrap64 (x14 - (x5.length : Int))) + 1))).f3)) || (!(((rd_T24 x11 x14).f4) == (wrap64 ((wrap64 (((rd_T24 x8 (wrap64 ((wrap64 (x14 - (x5.length : Int))) + 1))).f4) + (x0.size : Int))) + 1))) || (!(((rd_T24 x11 x14).f5) == (wrap64 ((wrap64 (((rd_T24 x8 (wrap64 ((wrap64 (x14 - (x5.length : Int))) + 1))).f5) + (x0.size : Int))) + 1))))))))) = true then (some false) else (cruciblelaw07_LexerJoins.l0 k x0 x5 x8 x11 (wrap64 (x14 + 1)))) else (none)) else (none))) else (none)) else ((cruciblelaw07_awake.f k).bind fun t380 => (some t380))
end
def cruciblelaw07_LexerJoins.f (k : Nat) (a0 : ByteArray) (a1 : ByteArray) : Option (Bool) := (Z44.f k a0).bind fun bt363 => ((Z44.f k a1).bind fun bt368 => (if bt363.2.2 = 0 then (cruciblelaw07_LexerJoins.j0 k a0 a1 bt363.1 bt368.1 (bt368.2.2 != 0)) else (cruciblelaw07_LexerJoins.j0 k a0 a1 bt363.1 bt368.1 true)))
theorem cruciblelaw07_LexerJoins.mono_l : ∀ k, (∀ y0 y1 y2 y3 y4, LeO (cruciblelaw07_LexerJoins.j0 k y0 y1 y2 y3 y4) (cruciblelaw07_LexerJoins.j0 (k + 1) y0 y1 y2 y3 y4)) ∧ (∀ y0 y1 y2 y3 y4, LeO (cruciblelaw07_LexerJoins.j1 k y0 y1 y2 y3 y4) (cruciblelaw07_LexerJoins.j1 (k + 1) y0 y1 y2 y3 y4)) ∧ (∀ y0 y1 y2 y3 y4, LeO (cruciblelaw07_LexerJoins.l0 k y0 y1 y2 y3 y4) (cruciblelaw07_LexerJoins.l0 (k + 1) y0 y1 y2 y3 y4))
 | 0 => ⟨fun _ _ _ _ _ r h => by simp [cruciblelaw07_LexerJoins.j0] at h, fun _ _ _ _ _ r h => by simp [cruciblelaw07_LexerJoins.j1] at h, fun _ _ _ _ _ r h => by simp [cruciblelaw07_LexerJoins.l0] at h⟩
 | k + 1 => by
  obtain ⟨ih0, ih1, ih2⟩ := cruciblelaw07_LexerJoins.mono_l k
  refine ⟨?_, ?_, ?_⟩
  · intro y0 y1 y2 y3 y4
    unfold cruciblelaw07_LexerJoins.j0
    repeat' first
    | (with_reducible exact ih0 _ _ _ _ _)
    | (with_reducible exact ih1 _ _ _ _ _)
    | (with_reducible exact ih2 _ _ _ _ _)
    | (with_reducible exact cruciblelaw07_awake.mono _)
    | (with_reducible exact Z44.mono _ _)
    | (with_reducible exact LeO.refl _)
    | (with_reducible exact LeO.none _)
    | (with_reducible refine LeO.ite ?_ ?_)
    | (with_reducible refine LeO.bind ?_ (fun _ => ?_))
    | exact ih0 _ _ _ _ _
    | exact ih1 _ _ _ _ _
    | exact ih2 _ _ _ _ _
    | exact cruciblelaw07_awake.mono _
    | exact Z44.mono _ _
    | exact LeO.none _
    | refine LeO.ite ?_ ?_
    | refine LeO.bind ?_ (fun _ => ?_)
  · intro y0 y1 y2 y3 y4
    unfold cruciblelaw07_LexerJoins.j1
    repeat' first
    | (with_reducible exact ih0 _ _ _ _ _)
    | (with_reducible exact ih1 _ _ _ _ _)
    | (with_reducible exact ih2 _ _ _ _ _)
    | (with_reducible exact cruciblelaw07_awake.mono _)
    | (with_reducible exact Z44.mono _ _)
    | (with_reducible exact LeO.refl _)
    | (with_reducible exact LeO.none _)
    | (with_reducible refine LeO.ite ?_ ?_)
    | (with_reducible refine LeO.bind ?_ (fun _ => ?_))
    | exact ih0 _ _ _ _ _
    | exact ih1 _ _ _ _ _
    | exact ih2 _ _ _ _ _
    | exact cruciblelaw07_awake.mono _
    | exact Z44.mono _ _
    | exact LeO.none _
    | refine LeO.ite ?_ ?_
    | refine LeO.bind ?_ (fun _ => ?_)
  · intro y0 y1 y2 y3 y4
    unfold cruciblelaw07_LexerJoins.l0
    repeat' first
    | (with_reducible exact ih0 _ _ _ _ _)
    | (with_reducible exact ih1 _ _ _ _ _)
    | (with_reducible exact ih2 _ _ _ _ _)
    | (with_reducible exact cruciblelaw07_awake.mono _)
    | (with_reducible exact Z44.mono _ _)
    | (with_reducible exact LeO.refl _)
    | (with_reducible exact LeO.none _)
    | (with_reducible refine LeO.ite ?_ ?_)
    | (with_reducible refine LeO.bind ?_ (fun _ => ?_))
    | exact ih0 _ _ _ _ _
    | exact ih1 _ _ _ _ _
    | exact ih2 _ _ _ _ _
    | exact cruciblelaw07_awake.mono _
    | exact Z44.mono _ _
    | exact LeO.none _
    | refine LeO.ite ?_ ?_
    | refine LeO.bind ?_ (fun _ => ?_)
theorem cruciblelaw07_LexerJoins.mono : ∀ a0 a1 k, LeO (cruciblelaw07_LexerJoins.f k a0 a1) (cruciblelaw07_LexerJoins.f (k + 1) a0 a1) := by
 intro a0 a1 k
 obtain ⟨ih0, ih1, ih2⟩ := cruciblelaw07_LexerJoins.mono_l k
 unfold cruciblelaw07_LexerJoins.f
 repeat' first
  | (with_reducible exact ih0 _ _ _ _ _)
  | (with_reducible exact ih1 _ _ _ _ _)
  | (with_reducible exact ih2 _ _ _ _ _)
  | (with_reducible exact cruciblelaw07_awake.mono _)
  | (with_reducible exact Z44.mono _ _)
  | (with_reducible exact LeO.refl _)
  | (with_reducible exact LeO.none _)
  | (with_reducible refine LeO.ite ?_ ?_)
  | (with_reducible refine LeO.bind ?_ (fun _ => ?_))
  | exact ih0 _ _ _ _ _
  | exact ih1 _ _ _ _ _
  | exact ih2 _ _ _ _ _
  | exact cruciblelaw07_awake.mono _
  | exact Z44.mono _ _
  | exact LeO.none _
  | refine LeO.ite ?_ ?_
  | refine LeO.bind ?_ (fun _ => ?_)
set_option maxHeartbeats 8000000 in
set_option maxRecDepth 100000 in
theorem cruciblelaw07_LexerJoins.calls (k : Nat) (a0 : ByteArray) (a1 : ByteArray) (r : Bool) (w : World) (hG : PremW w) (h : cruciblelaw07_LexerJoins.f k a0 a1 = some r) :
 Calls Tryd.prog 6 #[.string a0, .string a1] w fun e w' => e = .returned (.bool r) ∧ Below w.heap.size w w' := by
 have hu24 := Tryd.underlying24
 have HG := Aside0.mk hG
 clear hG
 have HB := Aside0.mk (Below.refl w.heap.size w)
 have H : ((Z44.f k a0).bind fun bt363 => ((Z44.f k a1).bind fun bt368 => (if bt363.2.2 = 0 then (cruciblelaw07_LexerJoins.j0 k a0 a1 bt363.1 bt368.1 (bt368.2.2 != 0)) else (cruciblelaw07_LexerJoins.j0 k a0 a1 bt363.1 bt368.1 true)))) = some r := h
 clear h
 replace H := Option.bind_eq_some_iff.mp H
 obtain ⟨⟨t363, t364, t365⟩, A30, H⟩ := H
 replace H : ((Z44.f k a1).bind fun bt368 => (if t365 = 0 then (cruciblelaw07_LexerJoins.j0 k a0 a1 t363 bt368.1 (bt368.2.2 != 0)) else (cruciblelaw07_LexerJoins.j0 k a0 a1 t363 bt368.1 true))) = some r := H
 have A3 := Aside0.mk A30
 clear A30
 replace H := Option.bind_eq_some_iff.mp H
 obtain ⟨⟨t368, t369, t370⟩, A40, H⟩ := H
 replace H : (if t365 = 0 then (cruciblelaw07_LexerJoins.j0 k a0 a1 t363 t368 (t370 != 0)) else (cruciblelaw07_LexerJoins.j0 k a0 a1 t363 t368 true)) = some r := H
 have A4 := Aside0.mk A40
 clear A40
 have HC5 := Aside0.mk H
 clear H
 go_enter Tryd.func6, Tryd.ntmps6
 go_upto_region 3 with (first | (go_at_call 12; (with_reducible refine (Z44.calls k a0 t363 t364 t365 _ ?side1 A3.out).mono ?_); (case side1 => refine PremW.below HG.out ?_; repeat (first | (with_reducible first | exact HB.out | apply Z7 | apply Z4 | apply Z6) | exact HB.out)); rintro e w6 ⟨v366, rfl, ho0, hb⟩; have n0_ := Aside0.mk (Kd.R_lower ho0 (Z27 (by repeat (first | (with_reducible first | exact HB.out | apply Z7 | apply Z4 | apply Z6) | exact HB.out)))); have n1_ := Aside0.mk (Z25 (by repeat (first | (with_reducible first | exact HB.out | apply Z7 | apply Z4 | apply Z6) | exact HB.out)) hb); clear HB; have HO367 := n0_; have HB := n1_; clear n0_ n1_; (try clear hb); (try clear hb2); (try clear hk); (try clear hi); (try clear ho0)) | (go_at_call 12; (with_reducible refine (Z44.calls k a1 t368 t369 t370 _ ?side1 A4.out).mono ?_); (case side1 => refine PremW.below HG.out ?_; repeat (first | (with_reducible first | exact HB.out | apply Z7 | apply Z4 | apply Z6) | exact HB.out)); rintro e w7 ⟨v371, rfl, ho0, hb⟩; have n0_ := Aside0.mk (Kd.R_elder' (by (with_reducible repeat (first | apply Kd.R_alloc | apply Kd.R_drewN | apply Kd.R_drew)); exact HO367.out) (Kd.R_base ho0) hb); have n1_ := Aside0.mk (Kd.R_lower (Kd.R_new' ho0 (Kd.R_lt (by (with_reducible repeat (first | apply Kd.R_alloc | apply Kd.R_drewN | apply Kd.R_drew)); exact HO367.out))) (Z27 (by repeat (first | (with_reducible first | exact HB.out | apply Z7 | apply Z4 | apply Z6) | exact HB.out)))); have n2_ := Aside0.mk (Z25 (by repeat (first | (with_reducible first | exact HB.out | apply Z7 | apply Z4 | apply Z6) | exact HB.out)) hb); clear HO367; clear HB; have HO367 := n0_; have HO372 := n1_; have HB := n2_; clear n0_ n1_ n2_; (try clear hb); (try clear hb2); (try clear hk); (try clear hi); (try clear ho0)))
 repeat (go_quiet (first | (go_at_call 12; (with_reducible refine (Z44.calls k a0 t363 t364 t365 _ ?side1 A3.out).mono ?_); (case side1 => refine PremW.below HG.out ?_; repeat (first | (with_reducible first | exact HB.out | apply Z7 | apply Z4 | apply Z6) | exact HB.out)); rintro e w6 ⟨v366, rfl, ho0, hb⟩; have n0_ := Aside0.mk (Kd.R_lower ho0 (Z27 (by repeat (first | (with_reducible first | exact HB.out | apply Z7 | apply Z4 | apply Z6) | exact HB.out)))); have n1_ := Aside0.mk (Z25 (by repeat (first | (with_reducible first | exact HB.out | apply Z7 | apply Z4 | apply Z6) | exact HB.out)) hb); clear HB; have HO367 := n0_; have HB := n1_; clear n0_ n1_; (try clear hb); (try clear hb2); (try clear hk); (try clear hi); (try clear ho0)) | (go_at_call 12; (with_reducible refine (Z44.calls k a1 t368 t369 t370 _ ?side1 A4.out).mono ?_); (case side1 => refine PremW.below HG.out ?_; repeat (first | (with_reducible first | exact HB.out | apply Z7 | apply Z4 | apply Z6) | exact HB.out)); rintro e w7 ⟨v371, rfl, ho0, hb⟩; have n0_ := Aside0.mk (Kd.R_elder' (by (with_reducible repeat (first | apply Kd.R_alloc | apply Kd.R_drewN | apply Kd.R_drew)); exact HO367.out) (Kd.R_base ho0) hb); have n1_ := Aside0.mk (Kd.R_lower (Kd.R_new' ho0 (Kd.R_lt (by (with_reducible repeat (first | apply Kd.R_alloc | apply Kd.R_drewN | apply Kd.R_drew)); exact HO367.out))) (Z27 (by repeat (first | (with_reducible first | exact HB.out | apply Z7 | apply Z4 | apply Z6) | exact HB.out)))); have n2_ := Aside0.mk (Z25 (by repeat (first | (with_reducible first | exact HB.out | apply Z7 | apply Z4 | apply Z6) | exact HB.out)) hb); clear HO367; clear HB; have HO367 := n0_; have HO372 := n1_; have HB := n2_; clear n0_ n1_ n2_; (try clear hb); (try clear hb2); (try clear hk); (try clear hi); (try clear ho0))); go_upto_region 3 with (first | (go_at_call 12; (with_reducible refine (Z44.calls k a0 t363 t364 t365 _ ?side1 A3.out).mono ?_); (case side1 => refine PremW.below HG.out ?_; repeat (first | (with_reducible first | exact HB.out | apply Z7 | apply Z4 | apply Z6) | exact HB.out)); rintro e w6 ⟨v366, rfl, ho0, hb⟩; have n0_ := Aside0.mk (Kd.R_lower ho0 (Z27 (by repeat (first | (with_reducible first | exact HB.out | apply Z7 | apply Z4 | apply Z6) | exact HB.out)))); have n1_ := Aside0.mk (Z25 (by repeat (first | (with_reducible first | exact HB.out | apply Z7 | apply Z4 | apply Z6) | exact HB.out)) hb); clear HB; have HO367 := n0_; have HB := n1_; clear n0_ n1_; (try clear hb); (try clear hb2); (try clear hk); (try clear hi); (try clear ho0)) | (go_at_call 12; (with_reducible refine (Z44.calls k a1 t368 t369 t370 _ ?side1 A4.out).mono ?_); (case side1 => refine PremW.below HG.out ?_; repeat (first | (with_reducible first | exact HB.out | apply Z7 | apply Z4 | apply Z6) | exact HB.out)); rintro e w7 ⟨v371, rfl, ho0, hb⟩; have n0_ := Aside0.mk (Kd.R_elder' (by (with_reducible repeat (first | apply Kd.R_alloc | apply Kd.R_drewN | apply Kd.R_drew)); exact HO367.out) (Kd.R_base ho0) hb); have n1_ := Aside0.mk (Kd.R_lower (Kd.R_new' ho0 (Kd.R_lt (by (with_reducible repeat (first | apply Kd.R_alloc | apply Kd.R_drewN | apply Kd.R_drew)); exact HO367.out))) (Z27 (by repeat (first | (with_reducible first | exact HB.out | apply Z7 | apply Z4 | apply Z6) | exact HB.out)))); have n2_ := Aside0.mk (Z25 (by repeat (first | (with_reducible first | exact HB.out | apply Z7 | apply Z4 | apply Z6) | exact HB.out)) hb); clear HO367; clear HB; have HO367 := n0_; have HO372 := n1_; have HB := n2_; clear n0_ n1_ n2_; (try clear hb); (try clear hb2); (try clear hk); (try clear hi); (try clear ho0))))
 (try simp only [Act.put, List.setIfInBounds_toArray, List.set_cons_zero, List.set_cons_succ])
 go_cut [34] (fun v34 wc => ∃ (kq : Nat) (x34_4 : Bool), v34 = .bool x34_4 ∧ Aside0 (cruciblelaw07_LexerJoins.j0 kq a0 a1 t363 t368 x34_4 = some r) ∧ Aside0 (kq ≤ k) ∧ Aside0 (Kd.R k24 24 wc w.heap.size (fun k_ => some k_ ≠ (v371 : Value).ownBlock) v366 t363) ∧ Aside0 (Kd.R k24 24 wc w.heap.size (fun k_ => some k_ ≠ (v366 : Value).ownBlock) v371 t368) ∧ Aside0 (Below w.heap.size w wc))
 case first =>
  have H := HC5.out
  clear HC5
  by_cases c8 : t365 = 0
  · rw [if_pos c8] at H
    have c8b0 : (t365 == 0) = true := beq_iff_eq.mpr c8
    have c8b1 : (t365 != 0) = false := bne_eq_false_iff_eq.mpr c8
    clear c8
    (first | rw [c8b0] | (simp only [i64_w, i32_w]; rw [c8b0]) | skip)
    have H' := Aside0.mk H
    clear H
    go_wp2
    repeat (go_quiet (fail); try go_wp2)
    go_meet
    case rel => exact ⟨_, ((t370 != 0)), (by first | rfl | (simp; done) | (simp [*]; done)), H', ⟨by first | omega | exact Nat.le_refl _⟩, ⟨by (with_reducible repeat (first | apply Kd.R_alloc | apply Kd.R_drewN | apply Kd.R_drew)); exact Kd.R_mono HO367.out (fun _ hk => hk.2)⟩, ⟨by (with_reducible repeat (first | apply Kd.R_alloc | apply Kd.R_drewN | apply Kd.R_drew)); exact Kd.R_mono HO372.out (fun _ hk => hk.2)⟩, ⟨by repeat (first | (with_reducible first | exact HB.out | apply Z7 | apply Z4 | apply Z6) | exact HB.out)⟩⟩
  · rw [if_neg c8] at H
    have c8b0 : (t365 == 0) = false := beq_eq_false_iff_ne.mpr c8
    have c8b1 : (t365 != 0) = true := bne_iff_ne.mpr c8
    (first | rw [c8b0] | (simp only [i64_w, i32_w]; rw [c8b0]) | skip)
    have H' := Aside0.mk H
    clear H
    go_wp2
    repeat (go_quiet (fail); try go_wp2)
    go_meet
    case rel => exact ⟨_, (true), (by first | rfl | (simp; done) | (simp [*]; done)), H', ⟨by first | omega | exact Nat.le_refl _⟩, ⟨by (with_reducible repeat (first | apply Kd.R_alloc | apply Kd.R_drewN | apply Kd.R_drew)); exact Kd.R_mono HO367.out (fun _ hk => hk.2)⟩, ⟨by (with_reducible repeat (first | apply Kd.R_alloc | apply Kd.R_drewN | apply Kd.R_drew)); exact Kd.R_mono HO372.out (fun _ hk => hk.2)⟩, ⟨by repeat (first | (with_reducible first | exact HB.out | apply Z7 | apply Z4 | apply Z6) | exact HB.out)⟩⟩
 case rest =>
  clear HC5
  obtain ⟨kq, x34_4, rfl, HA, HJ4, HO_5, HO_8, HB⟩ := hcut
  cases kq with
  | zero => exact absurd HA.out (by simp [cruciblelaw07_LexerJoins.j0])
  | succ kj4 =>
   have H := HA.out
   clear HA
   simp only [cruciblelaw07_LexerJoins.j0] at H
   by_cases c9 : x34_4 = true
   · subst c9
     have H1 : ((cruciblelaw07_awake.f kj4).bind fun t373 => (some t373)) = some r := by rw [if_pos rfl] at H; exact H
     clear H
     have H := H1
     clear H1
     replace H := Option.bind_eq_some_iff.mp H
     obtain ⟨t373, A100, H⟩ := H
     replace H : (some t373) = some r := H
     have A10 := Aside0.mk A100
     clear A100
     obtain rfl := Option.some.inj H
     go_wp2_with (first | (go_at_call 11; (with_reducible refine (cruciblelaw07_awake.calls kj4  t373 _ ?side1 A10.out).mono ?_); (case side1 => refine PremW.below HG.out ?_; repeat (first | (with_reducible first | exact HB.out | apply Z7 | apply Z4 | apply Z6) | exact HB.out)); rintro e w11 ⟨rfl, hb⟩; have n0_ := Aside0.mk (Kd.R_below (by (with_reducible repeat (first | apply Kd.R_alloc | apply Kd.R_drewN | apply Kd.R_drew)); exact HO_5.out) hb); have n1_ := Aside0.mk (Kd.R_below (by (with_reducible repeat (first | apply Kd.R_alloc | apply Kd.R_drewN | apply Kd.R_drew)); exact HO_8.out) hb); have n2_ := Aside0.mk (Z25 (by repeat (first | (with_reducible first | exact HB.out | apply Z7 | apply Z4 | apply Z6) | exact HB.out)) hb); clear HO_5; clear HO_8; clear HB; have HO_5 := n0_; have HO_8 := n1_; have HB := n2_; clear n0_ n1_ n2_; (try clear hb); (try clear hb2); (try clear hk); (try clear hi)))
     repeat (go_quiet (first | (go_at_call 11; (with_reducible refine (cruciblelaw07_awake.calls kj4  t373 _ ?side1 A10.out).mono ?_); (case side1 => refine PremW.below HG.out ?_; repeat (first | (with_reducible first | exact HB.out | apply Z7 | apply Z4 | apply Z6) | exact HB.out)); rintro e w11 ⟨rfl, hb⟩; have n0_ := Aside0.mk (Kd.R_below (by (with_reducible repeat (first | apply Kd.R_alloc | apply Kd.R_drewN | apply Kd.R_drew)); exact HO_5.out) hb); have n1_ := Aside0.mk (Kd.R_below (by (with_reducible repeat (first | apply Kd.R_alloc | apply Kd.R_drewN | apply Kd.R_drew)); exact HO_8.out) hb); have n2_ := Aside0.mk (Z25 (by repeat (first | (with_reducible first | exact HB.out | apply Z7 | apply Z4 | apply Z6) | exact HB.out)) hb); clear HO_5; clear HO_8; clear HB; have HO_5 := n0_; have HO_8 := n1_; have HB := n2_; clear n0_ n1_ n2_; (try clear hb); (try clear hb2); (try clear hk); (try clear hi))); try go_wp2_with (first | (go_at_call 11; (with_reducible refine (cruciblelaw07_awake.calls kj4  t373 _ ?side1 A10.out).mono ?_); (case side1 => refine PremW.below HG.out ?_; repeat (first | (with_reducible first | exact HB.out | apply Z7 | apply Z4 | apply Z6) | exact HB.out)); rintro e w11 ⟨rfl, hb⟩; have n0_ := Aside0.mk (Kd.R_below (by (with_reducible repeat (first | apply Kd.R_alloc | apply Kd.R_drewN | apply Kd.R_drew)); exact HO_5.out) hb); have n1_ := Aside0.mk (Kd.R_below (by (with_reducible repeat (first | apply Kd.R_alloc | apply Kd.R_drewN | apply Kd.R_drew)); exact HO_8.out) hb); have n2_ := Aside0.mk (Z25 (by repeat (first | (with_reducible first | exact HB.out | apply Z7 | apply Z4 | apply Z6) | exact HB.out)) hb); clear HO_5; clear HO_8; clear HB; have HO_5 := n0_; have HO_8 := n1_; have HB := n2_; clear n0_ n1_ n2_; (try clear hb); (try clear hb2); (try clear hk); (try clear hi))))
     go_ret
     exact ⟨by first | rfl | (simp [Z16, Z15] <;> rfl) | (simp [*, Z16, Z15] <;> rfl), by repeat (first | (with_reducible first | exact HB.out | apply Z7 | apply Z4 | apply Z6) | exact HB.out)⟩
   · replace c9 := Bool.eq_false_iff.mpr c9
     subst c9
     have H1 : (if a0.size + 1 ≤ 9223372036854775807 then (if (a0 ++ (⟨#[10]⟩ : ByteArray)).size + a1.size ≤ 9223372036854775807 then ((Z44.f kj4 ((a0 ++ (⟨#[10]⟩ : ByteArray)) ++ a1)).bind fun bt374 => (if bt374.2.2 = 3 then (if (wrap64 ((wrap64 ((a0.size : Int) + (a1.size : Int))) + 1)) > 65536 then ((cruciblelaw07_awake.f kj4).bind fun t379 => (some t379)) else (some false)) else (if bt374.2.2 = 0 then (if (t363.length : Int) = 0 then (cruciblelaw07_LexerJoins.j1 kj4 a0 t363 t368 bt374.1 true) else (if (t368.length : Int) = 0 then (cruciblelaw07_LexerJoins.j1 kj4 a0 t363 t368 bt374.1 true) else (cruciblelaw07_LexerJoins.j1 kj4 a0 t363 t368 bt374.1 ((bt374.1.length : Int) != (wrap64 ((wrap64 ((t363.length : Int) - 1)) + (t368.length : Int))))))) else (cruciblelaw07_LexerJoins.j1 kj4 a0 t363 t368 bt374.1 true)))) else (none)) else (none)) = some r := by rw [if_neg (show ¬ (false = true) by decide)] at H; exact H
     clear H
     have H := H1
     clear H1
     by_cases c12 : a0.size + 1 ≤ 9223372036854775807
     · rw [if_pos c12] at H
       have c12b0 := eq_true c12
       have c12b1 : decide (a0.size + 1 ≤ 9223372036854775807) = true := decide_eq_true c12
       try have c12b2 : (9223372036854775807 < a0.size + 1) = False := eq_false (Nat.not_lt.2 c12)
       by_cases c13 : (a0 ++ (⟨#[10]⟩ : ByteArray)).size + a1.size ≤ 9223372036854775807
       · rw [if_pos c13] at H
         have c13b0 := eq_true c13
         have c13b1 : decide ((a0 ++ (⟨#[10]⟩ : ByteArray)).size + a1.size ≤ 9223372036854775807) = true := decide_eq_true c13
         try have c13b2 : (9223372036854775807 < (a0 ++ (⟨#[10]⟩ : ByteArray)).size + a1.size) = False := eq_false (Nat.not_lt.2 c13)
         replace H := Option.bind_eq_some_iff.mp H
         obtain ⟨⟨t374, t375, t376⟩, A140, H⟩ := H
         replace H : (if t376 = 3 then (if (wrap64 ((wrap64 ((a0.size : Int) + (a1.size : Int))) + 1)) > 65536 then ((cruciblelaw07_awake.f kj4).bind fun t379 => (some t379)) else (some false)) else (if t376 = 0 then (if (t363.length : Int) = 0 then (cruciblelaw07_LexerJoins.j1 kj4 a0 t363 t368 t374 true) else (if (t368.length : Int) = 0 then (cruciblelaw07_LexerJoins.j1 kj4 a0 t363 t368 t374 true) else (cruciblelaw07_LexerJoins.j1 kj4 a0 t363 t368 t374 ((t374.length : Int) != (wrap64 ((wrap64 ((t363.length : Int) - 1)) + (t368.length : Int))))))) else (cruciblelaw07_LexerJoins.j1 kj4 a0 t363 t368 t374 true))) = some r := H
         have A14 := Aside0.mk A140
         clear A140
         by_cases c15 : t376 = 3
         · rw [if_pos c15] at H
           have c15b0 : (t376 == 3) = true := beq_iff_eq.mpr c15
           have c15b1 : (t376 != 3) = false := bne_eq_false_iff_eq.mpr c15
           clear c15
           by_cases c16 : (wrap64 ((wrap64 ((a0.size : Int) + (a1.size : Int))) + 1)) > 65536
           · rw [if_pos c16] at H
             have c16b0 : decide (65536 < (wrap64 ((wrap64 ((a0.size : Int) + (a1.size : Int))) + 1))) = true := decide_eq_true c16
             clear c16
             replace H := Option.bind_eq_some_iff.mp H
             obtain ⟨t379, A170, H⟩ := H
             replace H : (some t379) = some r := H
             have A17 := Aside0.mk A170
             clear A170
             obtain rfl := Option.some.inj H
             go_wp2_with (first | (go_at_call 12; (with_reducible refine (Z44.calls kj4 ((a0 ++ (⟨#[10]⟩ : ByteArray)) ++ a1) t374 t375 t376 _ ?side1 A14.out).mono ?_); (case side1 => refine PremW.below HG.out ?_; repeat (first | (with_reducible first | exact HB.out | apply Z7 | apply Z4 | apply Z6) | exact HB.out)); rintro e w18 ⟨v377, rfl, ho0, hb⟩; have n0_ := Aside0.mk (Kd.R_elder' (by (with_reducible repeat (first | apply Kd.R_alloc | apply Kd.R_drewN | apply Kd.R_drew)); exact HO_5.out) (Kd.R_base ho0) hb); have n1_ := Aside0.mk (Kd.R_elder' (by (with_reducible repeat (first | apply Kd.R_alloc | apply Kd.R_drewN | apply Kd.R_drew)); exact HO_8.out) (Kd.R_base ho0) hb); have n2_ := Aside0.mk (Kd.R_lower (Kd.R_new' (Kd.R_new' ho0 (Kd.R_lt (by (with_reducible repeat (first | apply Kd.R_alloc | apply Kd.R_drewN | apply Kd.R_drew)); exact HO_5.out))) (Kd.R_lt (by (with_reducible repeat (first | apply Kd.R_alloc | apply Kd.R_drewN | apply Kd.R_drew)); exact HO_8.out))) (Z27 (by repeat (first | (with_reducible first | exact HB.out | apply Z7 | apply Z4 | apply Z6) | exact HB.out)))); have n3_ := Aside0.mk (Z25 (by repeat (first | (with_reducible first | exact HB.out | apply Z7 | apply Z4 | apply Z6) | exact HB.out)) hb); clear HO_5; clear HO_8; clear HB; have HO_5 := n0_; have HO_8 := n1_; have HO378 := n2_; have HB := n3_; clear n0_ n1_ n2_ n3_; (try clear hb); (try clear hb2); (try clear hk); (try clear hi); (try clear ho0)) | (go_at_call 11; (with_reducible refine (cruciblelaw07_awake.calls kj4  t379 _ ?side1 A17.out).mono ?_); (case side1 => refine PremW.below HG.out ?_; repeat (first | (with_reducible first | exact HB.out | apply Z7 | apply Z4 | apply Z6) | exact HB.out)); rintro e w19 ⟨rfl, hb⟩; have n0_ := Aside0.mk (Kd.R_below (by (with_reducible repeat (first | apply Kd.R_alloc | apply Kd.R_drewN | apply Kd.R_drew)); exact HO_5.out) hb); have n1_ := Aside0.mk (Kd.R_below (by (with_reducible repeat (first | apply Kd.R_alloc | apply Kd.R_drewN | apply Kd.R_drew)); exact HO_8.out) hb); have n2_ := Aside0.mk (Kd.R_below (by (with_reducible repeat (first | apply Kd.R_alloc | apply Kd.R_drewN | apply Kd.R_drew)); exact HO378.out) hb); have n3_ := Aside0.mk (Z25 (by repeat (first | (with_reducible first | exact HB.out | apply Z7 | apply Z4 | apply Z6) | exact HB.out)) hb); clear HO_5; clear HO_8; clear HO378; clear HB; have HO_5 := n0_; have HO_8 := n1_; have HO378 := n2_; have HB := n3_; clear n0_ n1_ n2_ n3_; (try clear hb); (try clear hb2); (try clear hk); (try clear hi)))
             repeat (go_quiet (first | (go_at_call 12; (with_reducible refine (Z44.calls kj4 ((a0 ++ (⟨#[10]⟩ : ByteArray)) ++ a1) t374 t375 t376 _ ?side1 A14.out).mono ?_); (case side1 => refine PremW.below HG.out ?_; repeat (first | (with_reducible first | exact HB.out | apply Z7 | apply Z4 | apply Z6) | exact HB.out)); rintro e w18 ⟨v377, rfl, ho0, hb⟩; have n0_ := Aside0.mk (Kd.R_elder' (by (with_reducible repeat (first | apply Kd.R_alloc | apply Kd.R_drewN | apply Kd.R_drew)); exact HO_5.out) (Kd.R_base ho0) hb); have n1_ := Aside0.mk (Kd.R_elder' (by (with_reducible repeat (first | apply Kd.R_alloc | apply Kd.R_drewN | apply Kd.R_drew)); exact HO_8.out) (Kd.R_base ho0) hb); have n2_ := Aside0.mk (Kd.R_lower (Kd.R_new' (Kd.R_new' ho0 (Kd.R_lt (by (with_reducible repeat (first | apply Kd.R_alloc | apply Kd.R_drewN | apply Kd.R_drew)); exact HO_5.out))) (Kd.R_lt (by (with_reducible repeat (first | apply Kd.R_alloc | apply Kd.R_drewN | apply Kd.R_drew)); exact HO_8.out))) (Z27 (by repeat (first | (with_reducible first | exact HB.out | apply Z7 | apply Z4 | apply Z6) | exact HB.out)))); have n3_ := Aside0.mk (Z25 (by repeat (first | (with_reducible first | exact HB.out | apply Z7 | apply Z4 | apply Z6) | exact HB.out)) hb); clear HO_5; clear HO_8; clear HB; have HO_5 := n0_; have HO_8 := n1_; have HO378 := n2_; have HB := n3_; clear n0_ n1_ n2_ n3_; (try clear hb); (try clear hb2); (try clear hk); (try clear hi); (try clear ho0)) | (go_at_call 11; (with_reducible refine (cruciblelaw07_awake.calls kj4  t379 _ ?side1 A17.out).mono ?_); (case side1 => refine PremW.below HG.out ?_; repeat (first | (with_reducible first | exact HB.out | apply Z7 | apply Z4 | apply Z6) | exact HB.out)); rintro e w19 ⟨rfl, hb⟩; have n0_ := Aside0.mk (Kd.R_below (by (with_reducible repeat (first | apply Kd.R_alloc | apply Kd.R_drewN | apply Kd.R_drew)); exact HO_5.out) hb); have n1_ := Aside0.mk (Kd.R_below (by (with_reducible repeat (first | apply Kd.R_alloc | apply Kd.R_drewN | apply Kd.R_drew)); exact HO_8.out) hb); have n2_ := Aside0.mk (Kd.R_below (by (with_reducible repeat (first | apply Kd.R_alloc | apply Kd.R_drewN | apply Kd.R_drew)); exact HO378.out) hb); have n3_ := Aside0.mk (Z25 (by repeat (first | (with_reducible first | exact HB.out | apply Z7 | apply Z4 | apply Z6) | exact HB.out)) hb); clear HO_5; clear HO_8; clear HO378; clear HB; have HO_5 := n0_; have HO_8 := n1_; have HO378 := n2_; have HB := n3_; clear n0_ n1_ n2_ n3_; (try clear hb); (try clear hb2); (try clear hk); (try clear hi))); try go_wp2_with (first | (go_at_call 12; (with_reducible refine (Z44.calls kj4 ((a0 ++ (⟨#[10]⟩ : ByteArray)) ++ a1) t374 t375 t376 _ ?side1 A14.out).mono ?_); (case side1 => refine PremW.below HG.out ?_; repeat (first | (with_reducible first | exact HB.out | apply Z7 | apply Z4 | apply Z6) | exact HB.out)); rintro e w18 ⟨v377, rfl, ho0, hb⟩; have n0_ := Aside0.mk (Kd.R_elder' (by (with_reducible repeat (first | apply Kd.R_alloc | apply Kd.R_drewN | apply Kd.R_drew)); exact HO_5.out) (Kd.R_base ho0) hb); have n1_ := Aside0.mk (Kd.R_elder' (by (with_reducible repeat (first | apply Kd.R_alloc | apply Kd.R_drewN | apply Kd.R_drew)); exact HO_8.out) (Kd.R_base ho0) hb); have n2_ := Aside0.mk (Kd.R_lower (Kd.R_new' (Kd.R_new' ho0 (Kd.R_lt (by (with_reducible repeat (first | apply Kd.R_alloc | apply Kd.R_drewN | apply Kd.R_drew)); exact HO_5.out))) (Kd.R_lt (by (with_reducible repeat (first | apply Kd.R_alloc | apply Kd.R_drewN | apply Kd.R_drew)); exact HO_8.out))) (Z27 (by repeat (first | (with_reducible first | exact HB.out | apply Z7 | apply Z4 | apply Z6) | exact HB.out)))); have n3_ := Aside0.mk (Z25 (by repeat (first | (with_reducible first | exact HB.out | apply Z7 | apply Z4 | apply Z6) | exact HB.out)) hb); clear HO_5; clear HO_8; clear HB; have HO_5 := n0_; have HO_8 := n1_; have HO378 := n2_; have HB := n3_; clear n0_ n1_ n2_ n3_; (try clear hb); (try clear hb2); (try clear hk); (try clear hi); (try clear ho0)) | (go_at_call 11; (with_reducible refine (cruciblelaw07_awake.calls kj4  t379 _ ?side1 A17.out).mono ?_); (case side1 => refine PremW.below HG.out ?_; repeat (first | (with_reducible first | exact HB.out | apply Z7 | apply Z4 | apply Z6) | exact HB.out)); rintro e w19 ⟨rfl, hb⟩; have n0_ := Aside0.mk (Kd.R_below (by (with_reducible repeat (first | apply Kd.R_alloc | apply Kd.R_drewN | apply Kd.R_drew)); exact HO_5.out) hb); have n1_ := Aside0.mk (Kd.R_below (by (with_reducible repeat (first | apply Kd.R_alloc | apply Kd.R_drewN | apply Kd.R_drew)); exact HO_8.out) hb); have n2_ := Aside0.mk (Kd.R_below (by (with_reducible repeat (first | apply Kd.R_alloc | apply Kd.R_drewN | apply Kd.R_drew)); exact HO378.out) hb); have n3_ := Aside0.mk (Z25 (by repeat (first | (with_reducible first | exact HB.out | apply Z7 | apply Z4 | apply Z6) | exact HB.out)) hb); clear HO_5; clear HO_8; clear HO378; clear HB; have HO_5 := n0_; have HO_8 := n1_; have HO378 := n2_; have HB := n3_; clear n0_ n1_ n2_ n3_; (try clear hb); (try clear hb2); (try clear hk); (try clear hi))))
             go_ret
             exact ⟨by first | rfl | (simp [Z16, Z15] <;> rfl) | (simp [*, Z16, Z15] <;> rfl), by repeat (first | (with_reducible first | exact HB.out | apply Z7 | apply Z4 | apply Z6) | exact HB.out)⟩
           · rw [if_neg c16] at H
             have c16b0 : decide (65536 < (wrap64 ((wrap64 ((a0.size : Int) + (a1.size : Int))) + 1))) = false := decide_eq_false c16
             clear c16
             obtain rfl := Option.some.inj H
             go_wp2_with (first | (go_at_call 12; (with_reducible refine (Z44.calls kj4 ((a0 ++ (⟨#[10]⟩ : ByteArray)) ++ a1) t374 t375 t376 _ ?side1 A14.out).mono ?_); (case side1 => refine PremW.below HG.out ?_; repeat (first | (with_reducible first | exact HB.out | apply Z7 | apply Z4 | apply Z6) | exact HB.out)); rintro e w20 ⟨v377, rfl, ho0, hb⟩; have n0_ := Aside0.mk (Kd.R_elder' (by (with_reducible repeat (first | apply Kd.R_alloc | apply Kd.R_drewN | apply Kd.R_drew)); exact HO_5.out) (Kd.R_base ho0) hb); have n1_ := Aside0.mk (Kd.R_elder' (by (with_reducible repeat (first | apply Kd.R_alloc | apply Kd.R_drewN | apply Kd.R_drew)); exact HO_8.out) (Kd.R_base ho0) hb); have n2_ := Aside0.mk (Kd.R_lower (Kd.R_new' (Kd.R_new' ho0 (Kd.R_lt (by (with_reducible repeat (first | apply Kd.R_alloc | apply Kd.R_drewN | apply Kd.R_drew)); exact HO_5.out))) (Kd.R_lt (by (with_reducible repeat (first | apply Kd.R_alloc | apply Kd.R_drewN | apply Kd.R_drew)); exact HO_8.out))) (Z27 (by repeat (first | (with_reducible first | exact HB.out | apply Z7 | apply Z4 | apply Z6) | exact HB.out)))); have n3_ := Aside0.mk (Z25 (by repeat (first | (with_reducible first | exact HB.out | apply Z7 | apply Z4 | apply Z6) | exact HB.out)) hb); clear HO_5; clear HO_8; clear HB; have HO_5 := n0_; have HO_8 := n1_; have HO378 := n2_; have HB := n3_; clear n0_ n1_ n2_ n3_; (try clear hb); (try clear hb2); (try clear hk); (try clear hi); (try clear ho0)))
             repeat (go_quiet (first | (go_at_call 12; (with_reducible refine (Z44.calls kj4 ((a0 ++ (⟨#[10]⟩ : ByteArray)) ++ a1) t374 t375 t376 _ ?side1 A14.out).mono ?_); (case side1 => refine PremW.below HG.out ?_; repeat (first | (with_reducible first | exact HB.out | apply Z7 | apply Z4 | apply Z6) | exact HB.out)); rintro e w20 ⟨v377, rfl, ho0, hb⟩; have n0_ := Aside0.mk (Kd.R_elder' (by (with_reducible repeat (first | apply Kd.R_alloc | apply Kd.R_drewN | apply Kd.R_drew)); exact HO_5.out) (Kd.R_base ho0) hb); have n1_ := Aside0.mk (Kd.R_elder' (by (with_reducible repeat (first | apply Kd.R_alloc | apply Kd.R_drewN | apply Kd.R_drew)); exact HO_8.out) (Kd.R_base ho0) hb); have n2_ := Aside0.mk (Kd.R_lower (Kd.R_new' (Kd.R_new' ho0 (Kd.R_lt (by (with_reducible repeat (first | apply Kd.R_alloc | apply Kd.R_drewN | apply Kd.R_drew)); exact HO_5.out))) (Kd.R_lt (by (with_reducible repeat (first | apply Kd.R_alloc | apply Kd.R_drewN | apply Kd.R_drew)); exact HO_8.out))) (Z27 (by repeat (first | (with_reducible first | exact HB.out | apply Z7 | apply Z4 | apply Z6) | exact HB.out)))); have n3_ := Aside0.mk (Z25 (by repeat (first | (with_reducible first | exact HB.out | apply Z7 | apply Z4 | apply Z6) | exact HB.out)) hb); clear HO_5; clear HO_8; clear HB; have HO_5 := n0_; have HO_8 := n1_; have HO378 := n2_; have HB := n3_; clear n0_ n1_ n2_ n3_; (try clear hb); (try clear hb2); (try clear hk); (try clear hi); (try clear ho0))); try go_wp2_with (first | (go_at_call 12; (with_reducible refine (Z44.calls kj4 ((a0 ++ (⟨#[10]⟩ : ByteArray)) ++ a1) t374 t375 t376 _ ?side1 A14.out).mono ?_); (case side1 => refine PremW.below HG.out ?_; repeat (first | (with_reducible first | exact HB.out | apply Z7 | apply Z4 | apply Z6) | exact HB.out)); rintro e w20 ⟨v377, rfl, ho0, hb⟩; have n0_ := Aside0.mk (Kd.R_elder' (by (with_reducible repeat (first | apply Kd.R_alloc | apply Kd.R_drewN | apply Kd.R_drew)); exact HO_5.out) (Kd.R_base ho0) hb); have n1_ := Aside0.mk (Kd.R_elder' (by (with_reducible repeat (first | apply Kd.R_alloc | apply Kd.R_drewN | apply Kd.R_drew)); exact HO_8.out) (Kd.R_base ho0) hb); have n2_ := Aside0.mk (Kd.R_lower (Kd.R_new' (Kd.R_new' ho0 (Kd.R_lt (by (with_reducible repeat (first | apply Kd.R_alloc | apply Kd.R_drewN | apply Kd.R_drew)); exact HO_5.out))) (Kd.R_lt (by (with_reducible repeat (first | apply Kd.R_alloc | apply Kd.R_drewN | apply Kd.R_drew)); exact HO_8.out))) (Z27 (by repeat (first | (with_reducible first | exact HB.out | apply Z7 | apply Z4 | apply Z6) | exact HB.out)))); have n3_ := Aside0.mk (Z25 (by repeat (first | (with_reducible first | exact HB.out | apply Z7 | apply Z4 | apply Z6) | exact HB.out)) hb); clear HO_5; clear HO_8; clear HB; have HO_5 := n0_; have HO_8 := n1_; have HO378 := n2_; have HB := n3_; clear n0_ n1_ n2_ n3_; (try clear hb); (try clear hb2); (try clear hk); (try clear hi); (try clear ho0))))
             go_ret
             exact ⟨by first | rfl | (simp [Z16, Z15] <;> rfl) | (simp [*, Z16, Z15] <;> rfl), by repeat (first | (with_reducible first | exact HB.out | apply Z7 | apply Z4 | apply Z6) | exact HB.out)⟩
         · rw [if_neg c15] at H
           have c15b0 : (t376 == 3) = false := beq_eq_false_iff_ne.mpr c15
           have c15b1 : (t376 != 3) = true := bne_iff_ne.mpr c15
           have HC21 := Aside0.mk H
           clear H
           go_upto_region 8 with (first | (go_at_call 12; (with_reducible refine (Z44.calls kj4 ((a0 ++ (⟨#[10]⟩ : ByteArray)) ++ a1) t374 t375 t376 _ ?side1 A14.out).mono ?_); (case side1 => refine PremW.below HG.out ?_; repeat (first | (with_reducible first | exact HB.out | apply Z7 | apply Z4 | apply Z6) | exact HB.out)); rintro e w22 ⟨v377, rfl, ho0, hb⟩; have n0_ := Aside0.mk (Kd.R_elder' (by (with_reducible repeat (first | apply Kd.R_alloc | apply Kd.R_drewN | apply Kd.R_drew)); exact HO_5.out) (Kd.R_base ho0) hb); have n1_ := Aside0.mk (Kd.R_elder' (by (with_reducible repeat (first | apply Kd.R_alloc | apply Kd.R_drewN | apply Kd.R_drew)); exact HO_8.out) (Kd.R_base ho0) hb); have n2_ := Aside0.mk (Kd.R_lower (Kd.R_new' (Kd.R_new' ho0 (Kd.R_lt (by (with_reducible repeat (first | apply Kd.R_alloc | apply Kd.R_drewN | apply Kd.R_drew)); exact HO_5.out))) (Kd.R_lt (by (with_reducible repeat (first | apply Kd.R_alloc | apply Kd.R_drewN | apply Kd.R_drew)); exact HO_8.out))) (Z27 (by repeat (first | (with_reducible first | exact HB.out | apply Z7 | apply Z4 | apply Z6) | exact HB.out)))); have n3_ := Aside0.mk (Z25 (by repeat (first | (with_reducible first | exact HB.out | apply Z7 | apply Z4 | apply Z6) | exact HB.out)) hb); clear HO_5; clear HO_8; clear HB; have HO_5 := n0_; have HO_8 := n1_; have HO378 := n2_; have HB := n3_; clear n0_ n1_ n2_ n3_; (try clear hb); (try clear hb2); (try clear hk); (try clear hi); (try clear ho0)))
           repeat (go_quiet (first | (go_at_call 12; (with_reducible refine (Z44.calls kj4 ((a0 ++ (⟨#[10]⟩ : ByteArray)) ++ a1) t374 t375 t376 _ ?side1 A14.out).mono ?_); (case side1 => refine PremW.below HG.out ?_; repeat (first | (with_reducible first | exact HB.out | apply Z7 | apply Z4 | apply Z6) | exact HB.out)); rintro e w22 ⟨v377, rfl, ho0, hb⟩; have n0_ := Aside0.mk (Kd.R_elder' (by (with_reducible repeat (first | apply Kd.R_alloc | apply Kd.R_drewN | apply Kd.R_drew)); exact HO_5.out) (Kd.R_base ho0) hb); have n1_ := Aside0.mk (Kd.R_elder' (by (with_reducible repeat (first | apply Kd.R_alloc | apply Kd.R_drewN | apply Kd.R_drew)); exact HO_8.out) (Kd.R_base ho0) hb); have n2_ := Aside0.mk (Kd.R_lower (Kd.R_new' (Kd.R_new' ho0 (Kd.R_lt (by (with_reducible repeat (first | apply Kd.R_alloc | apply Kd.R_drewN | apply Kd.R_drew)); exact HO_5.out))) (Kd.R_lt (by (with_reducible repeat (first | apply Kd.R_alloc | apply Kd.R_drewN | apply Kd.R_drew)); exact HO_8.out))) (Z27 (by repeat (first | (with_reducible first | exact HB.out | apply Z7 | apply Z4 | apply Z6) | exact HB.out)))); have n3_ := Aside0.mk (Z25 (by repeat (first | (with_reducible first | exact HB.out | apply Z7 | apply Z4 | apply Z6) | exact HB.out)) hb); clear HO_5; clear HO_8; clear HB; have HO_5 := n0_; have HO_8 := n1_; have HO378 := n2_; have HB := n3_; clear n0_ n1_ n2_ n3_; (try clear hb); (try clear hb2); (try clear hk); (try clear hi); (try clear ho0))); go_upto_region 8 with (first | (go_at_call 12; (with_reducible refine (Z44.calls kj4 ((a0 ++ (⟨#[10]⟩ : ByteArray)) ++ a1) t374 t375 t376 _ ?side1 A14.out).mono ?_); (case side1 => refine PremW.below HG.out ?_; repeat (first | (with_reducible first | exact HB.out | apply Z7 | apply Z4 | apply Z6) | exact HB.out)); rintro e w22 ⟨v377, rfl, ho0, hb⟩; have n0_ := Aside0.mk (Kd.R_elder' (by (with_reducible repeat (first | apply Kd.R_alloc | apply Kd.R_drewN | apply Kd.R_drew)); exact HO_5.out) (Kd.R_base ho0) hb); have n1_ := Aside0.mk (Kd.R_elder' (by (with_reducible repeat (first | apply Kd.R_alloc | apply Kd.R_drewN | apply Kd.R_drew)); exact HO_8.out) (Kd.R_base ho0) hb); have n2_ := Aside0.mk (Kd.R_lower (Kd.R_new' (Kd.R_new' ho0 (Kd.R_lt (by (with_reducible repeat (first | apply Kd.R_alloc | apply Kd.R_drewN | apply Kd.R_drew)); exact HO_5.out))) (Kd.R_lt (by (with_reducible repeat (first | apply Kd.R_alloc | apply Kd.R_drewN | apply Kd.R_drew)); exact HO_8.out))) (Z27 (by repeat (first | (with_reducible first | exact HB.out | apply Z7 | apply Z4 | apply Z6) | exact HB.out)))); have n3_ := Aside0.mk (Z25 (by repeat (first | (with_reducible first | exact HB.out | apply Z7 | apply Z4 | apply Z6) | exact HB.out)) hb); clear HO_5; clear HO_8; clear HB; have HO_5 := n0_; have HO_8 := n1_; have HO378 := n2_; have HB := n3_; clear n0_ n1_ n2_ n3_; (try clear hb); (try clear hb2); (try clear hk); (try clear hi); (try clear ho0))))
           (try simp only [Act.put, List.setIfInBounds_toArray, List.set_cons_zero, List.set_cons_succ])
           go_cut [79] (fun v79 wc => ∃ (kq : Nat) (x79_20 : Bool), v79 = .bool x79_20 ∧ Aside0 (cruciblelaw07_LexerJoins.j1 kq a0 t363 t368 t374 x79_20 = some r) ∧ Aside0 (kq ≤ kj4) ∧ Aside0 (Kd.R k24 24 wc w.heap.size (fun k_ => some k_ ≠ (v371 : Value).ownBlock ∧ some k_ ≠ (v377 : Value).ownBlock) v366 t363) ∧ Aside0 (Kd.R k24 24 wc w.heap.size (fun k_ => some k_ ≠ (v366 : Value).ownBlock ∧ some k_ ≠ (v377 : Value).ownBlock) v371 t368) ∧ Aside0 (Kd.R k24 24 wc w.heap.size (fun k_ => some k_ ≠ (v366 : Value).ownBlock ∧ some k_ ≠ (v371 : Value).ownBlock) v377 t374) ∧ Aside0 (Below w.heap.size w wc))
           case first =>
            have H := HC21.out
            clear HC21
            by_cases c23 : t376 = 0
            · rw [if_pos c23] at H
              have c23b0 : (t376 == 0) = true := beq_iff_eq.mpr c23
              have c23b1 : (t376 != 0) = false := bne_eq_false_iff_eq.mpr c23
              clear c23
              (first | rw [c23b0] | (simp only [i64_w, i32_w]; rw [c23b0]) | skip)
              by_cases c24 : (t363.length : Int) = 0
              · rw [if_pos c24] at H
                have c24b0 : ((t363.length : Int) == 0) = true := beq_iff_eq.mpr c24
                have c24b1 : ((t363.length : Int) != 0) = false := bne_eq_false_iff_eq.mpr c24
                clear c24
                have H' := Aside0.mk H
                clear H
                obtain ⟨Ao25, co25, eo25⟩ := Kd.R_slice HO_5.out
                subst eo25
                go_wp2
                repeat (go_quiet (fail); try go_wp2)
                go_meet
                case rel => exact ⟨_, (true), (by first | rfl | (simp; done) | (simp [*]; done)), H', ⟨by have := HJ4.out; first | omega | exact Nat.le_refl _⟩, ⟨by (with_reducible repeat (first | apply Kd.R_alloc | apply Kd.R_drewN | apply Kd.R_drew)); exact HO_5.out⟩, ⟨by (with_reducible repeat (first | apply Kd.R_alloc | apply Kd.R_drewN | apply Kd.R_drew)); exact HO_8.out⟩, ⟨by (with_reducible repeat (first | apply Kd.R_alloc | apply Kd.R_drewN | apply Kd.R_drew)); exact Kd.R_mono HO378.out (fun _ hk => ⟨hk.1.2, hk.2⟩)⟩, ⟨by repeat (first | (with_reducible first | exact HB.out | apply Z7 | apply Z4 | apply Z6) | exact HB.out)⟩⟩
              · rw [if_neg c24] at H
                have c24b0 : ((t363.length : Int) == 0) = false := beq_eq_false_iff_ne.mpr c24
                have c24b1 : ((t363.length : Int) != 0) = true := bne_iff_ne.mpr c24
                have c24b2 : ¬ (t363 = []) := fun h_ => c24 (by rw [h_]; rfl)
                by_cases c26 : (t368.length : Int) = 0
                · rw [if_pos c26] at H
                  have c26b0 : ((t368.length : Int) == 0) = true := beq_iff_eq.mpr c26
                  have c26b1 : ((t368.length : Int) != 0) = false := bne_eq_false_iff_eq.mpr c26
                  clear c26
                  have H' := Aside0.mk H
                  clear H
                  obtain ⟨Ao27, co27, eo27⟩ := Kd.R_slice HO_5.out
                  subst eo27
                  obtain ⟨Ao28, co28, eo28⟩ := Kd.R_slice HO_8.out
                  subst eo28
                  go_wp2
                  repeat (go_quiet (fail); try go_wp2)
                  go_meet
                  case rel => exact ⟨_, (true), (by first | rfl | (simp; done) | (simp [*]; done)), H', ⟨by have := HJ4.out; first | omega | exact Nat.le_refl _⟩, ⟨by (with_reducible repeat (first | apply Kd.R_alloc | apply Kd.R_drewN | apply Kd.R_drew)); exact HO_5.out⟩, ⟨by (with_reducible repeat (first | apply Kd.R_alloc | apply Kd.R_drewN | apply Kd.R_drew)); exact HO_8.out⟩, ⟨by (with_reducible repeat (first | apply Kd.R_alloc | apply Kd.R_drewN | apply Kd.R_drew)); exact Kd.R_mono HO378.out (fun _ hk => ⟨hk.1.2, hk.2⟩)⟩, ⟨by repeat (first | (with_reducible first | exact HB.out | apply Z7 | apply Z4 | apply Z6) | exact HB.out)⟩⟩
                · rw [if_neg c26] at H
                  have c26b0 : ((t368.length : Int) == 0) = false := beq_eq_false_iff_ne.mpr c26
                  have c26b1 : ((t368.length : Int) != 0) = true := bne_iff_ne.mpr c26
                  have c26b2 : ¬ (t368 = []) := fun h_ => c26 (by rw [h_]; rfl)
                  have H' := Aside0.mk H
                  clear H
                  obtain ⟨Ao29, co29, eo29⟩ := Kd.R_slice HO_5.out
                  subst eo29
                  obtain ⟨Ao30, co30, eo30⟩ := Kd.R_slice HO_8.out
                  subst eo30
                  obtain ⟨Ao31, co31, eo31⟩ := Kd.R_slice HO378.out
                  subst eo31
                  go_wp2
                  repeat (go_quiet (fail); try go_wp2)
                  go_meet
                  case rel => exact ⟨_, (((t374.length : Int) != (wrap64 ((wrap64 ((t363.length : Int) - 1)) + (t368.length : Int))))), (by first | rfl | (simp; done) | (simp [*]; done)), H', ⟨by have := HJ4.out; first | omega | exact Nat.le_refl _⟩, ⟨by (with_reducible repeat (first | apply Kd.R_alloc | apply Kd.R_drewN | apply Kd.R_drew)); exact HO_5.out⟩, ⟨by (with_reducible repeat (first | apply Kd.R_alloc | apply Kd.R_drewN | apply Kd.R_drew)); exact HO_8.out⟩, ⟨by (with_reducible repeat (first | apply Kd.R_alloc | apply Kd.R_drewN | apply Kd.R_drew)); exact Kd.R_mono HO378.out (fun _ hk => ⟨hk.1.2, hk.2⟩)⟩, ⟨by repeat (first | (with_reducible first | exact HB.out | apply Z7 | apply Z4 | apply Z6) | exact HB.out)⟩⟩
            · rw [if_neg c23] at H
              have c23b0 : (t376 == 0) = false := beq_eq_false_iff_ne.mpr c23
              have c23b1 : (t376 != 0) = true := bne_iff_ne.mpr c23
              (first | rw [c23b0] | (simp only [i64_w, i32_w]; rw [c23b0]) | skip)
              have H' := Aside0.mk H
              clear H
              go_wp2
              repeat (go_quiet (fail); try go_wp2)
              go_meet
              case rel => exact ⟨_, (true), (by first | rfl | (simp; done) | (simp [*]; done)), H', ⟨by have := HJ4.out; first | omega | exact Nat.le_refl _⟩, ⟨by (with_reducible repeat (first | apply Kd.R_alloc | apply Kd.R_drewN | apply Kd.R_drew)); exact HO_5.out⟩, ⟨by (with_reducible repeat (first | apply Kd.R_alloc | apply Kd.R_drewN | apply Kd.R_drew)); exact HO_8.out⟩, ⟨by (with_reducible repeat (first | apply Kd.R_alloc | apply Kd.R_drewN | apply Kd.R_drew)); exact Kd.R_mono HO378.out (fun _ hk => ⟨hk.1.2, hk.2⟩)⟩, ⟨by repeat (first | (with_reducible first | exact HB.out | apply Z7 | apply Z4 | apply Z6) | exact HB.out)⟩⟩
           case rest =>
            clear HC21
            try clear c9
            try clear c12
            try clear c12b0
            try clear c12b1
            try clear c12b2
            try clear c13
            try clear c13b0
            try clear c13b1
            try clear c13b2
            try clear c15
            try clear c15b0
            try clear c15b1
            obtain ⟨kq, x79_20, rfl, HA, HJ20, HO_5, HO_8, HO_11, HB⟩ := hcut
            cases kq with
            | zero => exact absurd HA.out (by simp [cruciblelaw07_LexerJoins.j1])
            | succ kj20 =>
             have H := HA.out
             clear HA
             simp only [cruciblelaw07_LexerJoins.j1] at H
             by_cases c32 : x79_20 = true
             · subst c32
               have H1 : (some false) = some r := by rw [if_pos rfl] at H; exact H
               clear H
               have H := H1
               clear H1
               obtain rfl := Option.some.inj H
               go_wp2
               repeat (go_quiet (fail); try go_wp2)
               go_ret
               exact ⟨by first | rfl | (simp [Z16, Z15] <;> rfl) | (simp [*, Z16, Z15] <;> rfl), by repeat (first | (with_reducible first | exact HB.out | apply Z7 | apply Z4 | apply Z6) | exact HB.out)⟩
             · replace c32 := Bool.eq_false_iff.mpr c32
               subst c32
               have H1 : (cruciblelaw07_LexerJoins.l0 kj20 a0 t363 t368 t374 0) = some r := by rw [if_neg (show ¬ (false = true) by decide)] at H; exact H
               clear H
               have H := H1
               clear H1
               have H' := Aside0.mk H
               clear H
               go_wp2
               repeat (go_quiet (fail); try go_wp2)
               go_loopg [14] kj20 (fun kq v14 w' => ∃ (x14_3 : Int), v14 = .int .i64 x14_3 ∧ Aside0 (cruciblelaw07_LexerJoins.l0 kq a0 t363 t368 t374 x14_3 = some r) ∧ Aside0 (kq ≤ kj20) ∧ Aside0 (Kd.R k24 24 w' w.heap.size (fun k_ => some k_ ≠ (v371 : Value).ownBlock ∧ some k_ ≠ (v377 : Value).ownBlock) v366 t363) ∧ Aside0 (Kd.R k24 24 w' w.heap.size (fun k_ => some k_ ≠ (v366 : Value).ownBlock ∧ some k_ ≠ (v377 : Value).ownBlock) v371 t368) ∧ Aside0 (Kd.R k24 24 w' w.heap.size (fun k_ => some k_ ≠ (v366 : Value).ownBlock ∧ some k_ ≠ (v371 : Value).ownBlock) v377 t374) ∧ Aside0 (Below w.heap.size w w'))
               case atStart => exact ⟨(0), (by first | rfl | (simp; done) | (simp [*]; done)), H', ⟨Nat.le_refl _⟩, ⟨by (with_reducible repeat (first | apply Kd.R_alloc | apply Kd.R_drewN | apply Kd.R_drew)); exact HO_5.out⟩, ⟨by (with_reducible repeat (first | apply Kd.R_alloc | apply Kd.R_drewN | apply Kd.R_drew)); exact HO_8.out⟩, ⟨by (with_reducible repeat (first | apply Kd.R_alloc | apply Kd.R_drewN | apply Kd.R_drew)); exact HO_11.out⟩, ⟨by repeat (first | (with_reducible first | exact HB.out | apply Z7 | apply Z4 | apply Z6) | exact HB.out)⟩⟩
               case round =>
                clear H'
                try clear c9
                try clear c12
                try clear c12b0
                try clear c12b1
                try clear c12b2
                try clear c13
                try clear c13b0
                try clear c13b1
                try clear c13b2
                try clear c15
                try clear c15b0
                try clear c15b1
                try clear c32
                obtain ⟨x14_3, rfl, HA, HK3, HO_5, HO_8, HO_11, HB⟩ := hrel
                cases gk with
                | zero => exact absurd HA.out (by simp [cruciblelaw07_LexerJoins.l0])
                | succ k3 =>
                 have H := HA.out
                 clear HA
                 simp only [cruciblelaw07_LexerJoins.l0] at H
                 by_cases c33 : x14_3 < (t374.length : Int)
                 · rw [if_pos c33] at H
                   have c33b0 : decide (x14_3 < (t374.length : Int)) = true := decide_eq_true c33
                   clear c33
                   by_cases c34 : 0 ≤ x14_3
                   · rw [if_pos c34] at H
                     have c34b0 : decide (0 ≤ x14_3) = true := decide_eq_true c34
                     clear c34
                     by_cases c35 : x14_3 < (wrap64 ((t363.length : Int) - 1))
                     · rw [if_pos c35] at H
                       have c35b0 : decide (x14_3 < (wrap64 ((t363.length : Int) - 1))) = true := decide_eq_true c35
                       clear c35
                       by_cases c36 : x14_3 < (t363.length : Int)
                       · rw [if_pos c36] at H
                         have c36b0 : decide (x14_3 < (t363.length : Int)) = true := decide_eq_true c36
                         clear c36
                         by_cases c37 : (!(((rd_T24 t374 x14_3).f0) == ((rd_T24 t363 x14_3).f0)) || (!((((rd_T24 t374 x14_3).f1).toList) == (((rd_T24 t363 x14_3).f1).toList)) || (!(((rd_T24 t374 x14_3).f2) == ((rd_T24 t363 x14_3).f2)) || (!(((rd_T24 t374 x14_3).f3) == ((rd_T24 t363 x14_3).f3)) || (!(((rd_T24 t374 x14_3).f4) == ((rd_T24 t363 x14_3).f4)) || (!(((rd_T24 t374 x14_3).f5) == ((rd_T24 t363 x14_3).f5)))))))) = true
                         · rw [if_pos c37] at H
                           have c37b0 : (!(((rd_T24 t374 x14_3).f0) == ((rd_T24 t363 x14_3).f0)) || (!((((rd_T24 t374 x14_3).f1).toList) == (((rd_T24 t363 x14_3).f1).toList)) || (!(((rd_T24 t374 x14_3).f2) == ((rd_T24 t363 x14_3).f2)) || (!(((rd_T24 t374 x14_3).f3) == ((rd_T24 t363 x14_3).f3)) || (!(((rd_T24 t374 x14_3).f4) == ((rd_T24 t363 x14_3).f4)) || (!(((rd_T24 t374 x14_3).f5) == ((rd_T24 t363 x14_3).f5)))))))) = true := c37
                           clear c37
                           obtain rfl := Option.some.inj H
                           obtain ⟨Ao38, co38, eo38⟩ := Kd.R_slice HO_11.out
                           subst eo38
                           have p381 : 0 ≤ (x14_3 : Int) := of_decide_eq_true (by first | (with_reducible assumption) | assumption)
                           have q381 : x14_3 < (t374.length : Int) := of_decide_eq_true (by first | (with_reducible assumption) | assumption)
                           obtain ⟨ad381, e381, hx381_0, hx381_1, hx381_2, hx381_3, hx381_4, hx381_5⟩ := at_T24 (Kd.R_reads' HO_11.out).2.2 x14_3 p381 q381
                           cases e381
                           replace p381 := eq_true p381
                           replace q381 := eq_true q381
                           go_wp2_with (first | ((with_reducible refine Z52 (N := 15) rfl ?_); (try (refine Z66 (by rfl) ?_; dsimp only)); refine Z51 ?hg (N := 15) ?hd (cs := #[.int .i64 0, .string (⟨#[]⟩ : ByteArray), .int .u32 0, .bool false, .int .i64 0, .int .i64 0]) (t := 24) ?hr ?_; (case hd => rfl); (case hg => rfl); (case hr => first | (go_simp; done) | (go_simp; rfl)); intro gb382 hg w39 hbox hb; have n0_ := Aside0.mk (Kd.R_below (Kd.R_elderB (by (with_reducible repeat (first | apply Kd.R_alloc | apply Kd.R_drewN | apply Kd.R_drew)); exact HO_5.out) gb382 (Nat.le_of_eq hg.symm)) hb); have n1_ := Aside0.mk (Kd.R_below (Kd.R_elderB (by (with_reducible repeat (first | apply Kd.R_alloc | apply Kd.R_drewN | apply Kd.R_drew)); exact HO_8.out) gb382 (Nat.le_of_eq hg.symm)) hb); have n2_ := Aside0.mk (Kd.R_below (Kd.R_elderB (by (with_reducible repeat (first | apply Kd.R_alloc | apply Kd.R_drewN | apply Kd.R_drew)); exact HO_11.out) gb382 (Nat.le_of_eq hg.symm)) hb); have n3_ := Aside0.mk (Z25 (by repeat (first | (with_reducible first | exact HB.out | apply Z7 | apply Z4 | apply Z6) | exact HB.out)) hb); have n4_ := Aside0.mk (hbox); have n5_ := Aside0.mk ((by rw [hg]; exact (Z27 (by repeat (first | (with_reducible first | exact HB.out | apply Z7 | apply Z4 | apply Z6) | exact HB.out))) : w.heap.size ≤ gb382)); have n6_ := Aside0.mk ((by rw [hg]; exact (Z27 (by repeat (first | (with_reducible first | exact HB.out | apply Z7 | apply Z4 | apply Z6) | exact HB.out))) : w.heap.size ≤ gb382)); clear HO_5; clear HO_8; clear HO_11; clear HB; have HO_5 := n0_; have HO_8 := n1_; have HO_11 := n2_; have HB := n3_; have BK382 := n4_; have GW382 := n5_; have GE382 := n6_; clear n0_ n1_ n2_ n3_ n4_ n5_ n6_; clear hb hbox hg; have hcz40_0 : w39.cell? ⟨gb382, 0, none⟩ = some (.int .i64 0) := (Z5 BK382.out 0).trans rfl; have hcz40_1 : w39.cell? ⟨gb382, 1, none⟩ = some (.string (⟨#[]⟩ : ByteArray)) := (Z5 BK382.out 1).trans rfl; have hcz40_2 : w39.cell? ⟨gb382, 2, none⟩ = some (.int .u32 0) := (Z5 BK382.out 2).trans rfl; have hcz40_3 : w39.cell? ⟨gb382, 3, none⟩ = some (.bool false) := (Z5 BK382.out 3).trans rfl; have hcz40_4 : w39.cell? ⟨gb382, 4, none⟩ = some (.int .i64 0) := (Z5 BK382.out 4).trans rfl; have hcz40_5 : w39.cell? ⟨gb382, 5, none⟩ = some (.int .i64 0) := (Z5 BK382.out 5).trans rfl; have hfz40_0 := Z2 BK382.out 0; have hfz40_1 := Z2 BK382.out 1; have hfz40_2 := Z2 BK382.out 2; have hfz40_3 := Z2 BK382.out 3; have hfz40_4 := Z2 BK382.out 4; have hfz40_5 := Z2 BK382.out 5) | ((with_reducible refine gate_store (t := 24) (p := 15) rfl ?_); refine store_event (t := 24) (p := 15) (v := ?vo_w90) (w1 := ((((((w39.setCell ⟨gb382, 0, none⟩ (.int .i64 ((rd_T24 t374 x14_3).f0))).setCell ⟨gb382, 1, none⟩ (.string ((rd_T24 t374 x14_3).f1))).setCell ⟨gb382, 2, none⟩ (.int .u32 ((rd_T24 t374 x14_3).f2))).setCell ⟨gb382, 3, none⟩ (.bool ((rd_T24 t374 x14_3).f3))).setCell ⟨gb382, 4, none⟩ (.int .i64 ((rd_T24 t374 x14_3).f4))).setCell ⟨gb382, 5, none⟩ (.int .i64 ((rd_T24 t374 x14_3).f5)))) ?hg ?ho ?hn ?hr ?_; (case ho => rfl); (case hg => rfl); (case hn => rfl); (case hr => first | (go_simp; done) | (go_simp; rfl)); intro w90 hw; have n0_ := Aside0.mk (by rw [hw]; exact six_R HO_5.out (fun _ hk => hk.2) : Kd.R k24 24 w90 w.heap.size _ _ _); have n1_ := Aside0.mk (by rw [hw]; exact six_R HO_8.out (fun _ hk => hk.2) : Kd.R k24 24 w90 w.heap.size _ _ _); have n2_ := Aside0.mk (by rw [hw]; exact six_R HO_11.out (fun _ hk => hk.2) : Kd.R k24 24 w90 w.heap.size _ _ _); have n3_ := Aside0.mk (by rw [hw]; exact six_blk BK382.out : w90.heap[gb382]? = some (.cells #[(.int .i64 ((rd_T24 t374 x14_3).f0)), (.string ((rd_T24 t374 x14_3).f1)), (.int .u32 ((rd_T24 t374 x14_3).f2)), (.bool ((rd_T24 t374 x14_3).f3)), (.int .i64 ((rd_T24 t374 x14_3).f4)), (.int .i64 ((rd_T24 t374 x14_3).f5))] 24 (0, 0))); have n4_ := Aside0.mk (by rw [hw]; exact six_below HB.out GE382.out : Below w.heap.size w w90); clear HO_5 HO_8 HO_11 HB BK382; have HO_5 := n0_; have HO_8 := n1_; have HO_11 := n2_; have BK382 := n3_; have HB := n4_; clear n0_ n1_ n2_ n3_ n4_ hw; clear hx381_0 hx381_1 hx381_2 hx381_3 hx381_4 hx381_5 hcz40_0 hfz40_0 hcz40_1 hfz40_1 hcz40_2 hfz40_2 hcz40_3 hfz40_3 hcz40_4 hfz40_4 hcz40_5 hfz40_5; have hcz90_0 : w90.cell? ⟨gb382, 0, none⟩ = some (.int .i64 ((rd_T24 t374 x14_3).f0)) := (Z5 BK382.out 0).trans rfl; have hcz90_1 : w90.cell? ⟨gb382, 1, none⟩ = some (.string ((rd_T24 t374 x14_3).f1)) := (Z5 BK382.out 1).trans rfl; have hcz90_2 : w90.cell? ⟨gb382, 2, none⟩ = some (.int .u32 ((rd_T24 t374 x14_3).f2)) := (Z5 BK382.out 2).trans rfl; have hcz90_3 : w90.cell? ⟨gb382, 3, none⟩ = some (.bool ((rd_T24 t374 x14_3).f3)) := (Z5 BK382.out 3).trans rfl; have hcz90_4 : w90.cell? ⟨gb382, 4, none⟩ = some (.int .i64 ((rd_T24 t374 x14_3).f4)) := (Z5 BK382.out 4).trans rfl; have hcz90_5 : w90.cell? ⟨gb382, 5, none⟩ = some (.int .i64 ((rd_T24 t374 x14_3).f5)) := (Z5 BK382.out 5).trans rfl; have hfz90_0 := Z2 BK382.out 0; have hfz90_1 := Z2 BK382.out 1; have hfz90_2 := Z2 BK382.out 2; have hfz90_3 := Z2 BK382.out 3; have hfz90_4 := Z2 BK382.out 4; have hfz90_5 := Z2 BK382.out 5; obtain ⟨Ao41, co41, eo41⟩ := Kd.R_slice HO_5.out; subst eo41; have p383 : 0 ≤ (x14_3 : Int) := of_decide_eq_true (by first | (with_reducible assumption) | assumption); have q383 : x14_3 < (t363.length : Int) := of_decide_eq_true (by first | (with_reducible assumption) | assumption); obtain ⟨ad383, e383, hx383_0, hx383_1, hx383_2, hx383_3, hx383_4, hx383_5⟩ := at_T24 (Kd.R_reads' HO_5.out).2.2 x14_3 p383 q383; cases e383; replace p383 := eq_true p383; replace q383 := eq_true q383))
                           repeat (go_quiet (fail); try go_wp2)
                           go_ret
                           exact ⟨by first | rfl | (simp [Z16, Z15] <;> rfl) | (simp [*, Z16, Z15] <;> rfl), by repeat (first | (with_reducible first | exact HB.out | apply Z7 | apply Z4 | apply Z6 | refine Z8 ?_ GE382.out) | exact HB.out)⟩
                         · rw [if_neg c37] at H
                           have c37b0 : (!(((rd_T24 t374 x14_3).f0) == ((rd_T24 t363 x14_3).f0)) || (!((((rd_T24 t374 x14_3).f1).toList) == (((rd_T24 t363 x14_3).f1).toList)) || (!(((rd_T24 t374 x14_3).f2) == ((rd_T24 t363 x14_3).f2)) || (!(((rd_T24 t374 x14_3).f3) == ((rd_T24 t363 x14_3).f3)) || (!(((rd_T24 t374 x14_3).f4) == ((rd_T24 t363 x14_3).f4)) || (!(((rd_T24 t374 x14_3).f5) == ((rd_T24 t363 x14_3).f5)))))))) = false := by simpa using c37
                           clear c37
                           have H' := Aside0.mk H
                           clear H
                           obtain ⟨Ao42, co42, eo42⟩ := Kd.R_slice HO_11.out
                           subst eo42
                           have p381 : 0 ≤ (x14_3 : Int) := of_decide_eq_true (by first | (with_reducible assumption) | assumption)
                           have q381 : x14_3 < (t374.length : Int) := of_decide_eq_true (by first | (with_reducible assumption) | assumption)
                           obtain ⟨ad381, e381, hx381_0, hx381_1, hx381_2, hx381_3, hx381_4, hx381_5⟩ := at_T24 (Kd.R_reads' HO_11.out).2.2 x14_3 p381 q381
                           cases e381
                           replace p381 := eq_true p381
                           replace q381 := eq_true q381
                           go_wp2_with (first | ((with_reducible refine Z52 (N := 15) rfl ?_); (try (refine Z66 (by rfl) ?_; dsimp only)); refine Z51 ?hg (N := 15) ?hd (cs := #[.int .i64 0, .string (⟨#[]⟩ : ByteArray), .int .u32 0, .bool false, .int .i64 0, .int .i64 0]) (t := 24) ?hr ?_; (case hd => rfl); (case hg => rfl); (case hr => first | (go_simp; done) | (go_simp; rfl)); intro gb382 hg w43 hbox hb; have n0_ := Aside0.mk (Kd.R_below (Kd.R_elderB (by (with_reducible repeat (first | apply Kd.R_alloc | apply Kd.R_drewN | apply Kd.R_drew)); exact HO_5.out) gb382 (Nat.le_of_eq hg.symm)) hb); have n1_ := Aside0.mk (Kd.R_below (Kd.R_elderB (by (with_reducible repeat (first | apply Kd.R_alloc | apply Kd.R_drewN | apply Kd.R_drew)); exact HO_8.out) gb382 (Nat.le_of_eq hg.symm)) hb); have n2_ := Aside0.mk (Kd.R_below (Kd.R_elderB (by (with_reducible repeat (first | apply Kd.R_alloc | apply Kd.R_drewN | apply Kd.R_drew)); exact HO_11.out) gb382 (Nat.le_of_eq hg.symm)) hb); have n3_ := Aside0.mk (Z25 (by repeat (first | (with_reducible first | exact HB.out | apply Z7 | apply Z4 | apply Z6) | exact HB.out)) hb); have n4_ := Aside0.mk (hbox); have n5_ := Aside0.mk ((by rw [hg]; exact (Z27 (by repeat (first | (with_reducible first | exact HB.out | apply Z7 | apply Z4 | apply Z6) | exact HB.out))) : w.heap.size ≤ gb382)); have n6_ := Aside0.mk ((by rw [hg]; exact (Z27 (by repeat (first | (with_reducible first | exact HB.out | apply Z7 | apply Z4 | apply Z6) | exact HB.out))) : w.heap.size ≤ gb382)); clear HO_5; clear HO_8; clear HO_11; clear HB; have HO_5 := n0_; have HO_8 := n1_; have HO_11 := n2_; have HB := n3_; have BK382 := n4_; have GW382 := n5_; have GE382 := n6_; clear n0_ n1_ n2_ n3_ n4_ n5_ n6_; clear hb hbox hg; have hcz44_0 : w43.cell? ⟨gb382, 0, none⟩ = some (.int .i64 0) := (Z5 BK382.out 0).trans rfl; have hcz44_1 : w43.cell? ⟨gb382, 1, none⟩ = some (.string (⟨#[]⟩ : ByteArray)) := (Z5 BK382.out 1).trans rfl; have hcz44_2 : w43.cell? ⟨gb382, 2, none⟩ = some (.int .u32 0) := (Z5 BK382.out 2).trans rfl; have hcz44_3 : w43.cell? ⟨gb382, 3, none⟩ = some (.bool false) := (Z5 BK382.out 3).trans rfl; have hcz44_4 : w43.cell? ⟨gb382, 4, none⟩ = some (.int .i64 0) := (Z5 BK382.out 4).trans rfl; have hcz44_5 : w43.cell? ⟨gb382, 5, none⟩ = some (.int .i64 0) := (Z5 BK382.out 5).trans rfl; have hfz44_0 := Z2 BK382.out 0; have hfz44_1 := Z2 BK382.out 1; have hfz44_2 := Z2 BK382.out 2; have hfz44_3 := Z2 BK382.out 3; have hfz44_4 := Z2 BK382.out 4; have hfz44_5 := Z2 BK382.out 5) | ((with_reducible refine gate_store (t := 24) (p := 15) rfl ?_); refine store_event (t := 24) (p := 15) (v := ?vo_w90) (w1 := ((((((w43.setCell ⟨gb382, 0, none⟩ (.int .i64 ((rd_T24 t374 x14_3).f0))).setCell ⟨gb382, 1, none⟩ (.string ((rd_T24 t374 x14_3).f1))).setCell ⟨gb382, 2, none⟩ (.int .u32 ((rd_T24 t374 x14_3).f2))).setCell ⟨gb382, 3, none⟩ (.bool ((rd_T24 t374 x14_3).f3))).setCell ⟨gb382, 4, none⟩ (.int .i64 ((rd_T24 t374 x14_3).f4))).setCell ⟨gb382, 5, none⟩ (.int .i64 ((rd_T24 t374 x14_3).f5)))) ?hg ?ho ?hn ?hr ?_; (case ho => rfl); (case hg => rfl); (case hn => rfl); (case hr => first | (go_simp; done) | (go_simp; rfl)); intro w90 hw; have n0_ := Aside0.mk (by rw [hw]; exact six_R HO_5.out (fun _ hk => hk.2) : Kd.R k24 24 w90 w.heap.size _ _ _); have n1_ := Aside0.mk (by rw [hw]; exact six_R HO_8.out (fun _ hk => hk.2) : Kd.R k24 24 w90 w.heap.size _ _ _); have n2_ := Aside0.mk (by rw [hw]; exact six_R HO_11.out (fun _ hk => hk.2) : Kd.R k24 24 w90 w.heap.size _ _ _); have n3_ := Aside0.mk (by rw [hw]; exact six_blk BK382.out : w90.heap[gb382]? = some (.cells #[(.int .i64 ((rd_T24 t374 x14_3).f0)), (.string ((rd_T24 t374 x14_3).f1)), (.int .u32 ((rd_T24 t374 x14_3).f2)), (.bool ((rd_T24 t374 x14_3).f3)), (.int .i64 ((rd_T24 t374 x14_3).f4)), (.int .i64 ((rd_T24 t374 x14_3).f5))] 24 (0, 0))); have n4_ := Aside0.mk (by rw [hw]; exact six_below HB.out GE382.out : Below w.heap.size w w90); clear HO_5 HO_8 HO_11 HB BK382; have HO_5 := n0_; have HO_8 := n1_; have HO_11 := n2_; have BK382 := n3_; have HB := n4_; clear n0_ n1_ n2_ n3_ n4_ hw; clear hx381_0 hx381_1 hx381_2 hx381_3 hx381_4 hx381_5 hcz44_0 hfz44_0 hcz44_1 hfz44_1 hcz44_2 hfz44_2 hcz44_3 hfz44_3 hcz44_4 hfz44_4 hcz44_5 hfz44_5; have hcz90_0 : w90.cell? ⟨gb382, 0, none⟩ = some (.int .i64 ((rd_T24 t374 x14_3).f0)) := (Z5 BK382.out 0).trans rfl; have hcz90_1 : w90.cell? ⟨gb382, 1, none⟩ = some (.string ((rd_T24 t374 x14_3).f1)) := (Z5 BK382.out 1).trans rfl; have hcz90_2 : w90.cell? ⟨gb382, 2, none⟩ = some (.int .u32 ((rd_T24 t374 x14_3).f2)) := (Z5 BK382.out 2).trans rfl; have hcz90_3 : w90.cell? ⟨gb382, 3, none⟩ = some (.bool ((rd_T24 t374 x14_3).f3)) := (Z5 BK382.out 3).trans rfl; have hcz90_4 : w90.cell? ⟨gb382, 4, none⟩ = some (.int .i64 ((rd_T24 t374 x14_3).f4)) := (Z5 BK382.out 4).trans rfl; have hcz90_5 : w90.cell? ⟨gb382, 5, none⟩ = some (.int .i64 ((rd_T24 t374 x14_3).f5)) := (Z5 BK382.out 5).trans rfl; have hfz90_0 := Z2 BK382.out 0; have hfz90_1 := Z2 BK382.out 1; have hfz90_2 := Z2 BK382.out 2; have hfz90_3 := Z2 BK382.out 3; have hfz90_4 := Z2 BK382.out 4; have hfz90_5 := Z2 BK382.out 5; obtain ⟨Ao45, co45, eo45⟩ := Kd.R_slice HO_5.out; subst eo45; have p383 : 0 ≤ (x14_3 : Int) := of_decide_eq_true (by first | (with_reducible assumption) | assumption); have q383 : x14_3 < (t363.length : Int) := of_decide_eq_true (by first | (with_reducible assumption) | assumption); obtain ⟨ad383, e383, hx383_0, hx383_1, hx383_2, hx383_3, hx383_4, hx383_5⟩ := at_T24 (Kd.R_reads' HO_5.out).2.2 x14_3 p383 q383; cases e383; replace p383 := eq_true p383; replace q383 := eq_true q383))
                           repeat (go_quiet (fail); try go_wp2)
                           go_roundg k3
                           case measure => have := HJ4.out; have := HJ20.out; have := HK3.out; omega
                           case rel => exact ⟨(wrap64 (x14_3 + 1)), (by first | rfl | (simp; done) | (simp [*]; done)), H', ⟨by have := HJ4.out; have := HJ20.out; have := HK3.out; omega⟩, ⟨Kd.R_mono HO_5.out (fun _ hk => hk.1)⟩, ⟨Kd.R_mono HO_8.out (fun _ hk => hk.1)⟩, ⟨Kd.R_mono HO_11.out (fun _ hk => hk.1)⟩, ⟨by repeat (first | (with_reducible first | exact HB.out | apply Z7 | apply Z4 | apply Z6) | exact HB.out)⟩⟩
                       · rw [if_neg c36] at H
                         exact absurd H (by simp)
                     · rw [if_neg c35] at H
                       have c35b0 : decide (x14_3 < (wrap64 ((t363.length : Int) - 1))) = false := decide_eq_false c35
                       clear c35
                       obtain ⟨ji46, hji46⟩ : ∃ j_ : Int, (wrap64 ((wrap64 (x14_3 - (t363.length : Int))) + 1)) = j_ := ⟨_, rfl⟩
                       replace H : (if 0 ≤ (ji46) then (if (ji46) < (t368.length : Int) then (if (!(((rd_T24 t374 x14_3).f0) == ((rd_T24 t368 (ji46)).f0)) || (!((((rd_T24 t374 x14_3).f1).toList) == (((rd_T24 t368 (ji46)).f1).toList)) || (!(((rd_T24 t374 x14_3).f2) == ((rd_T24 t368 (ji46)).f2)) || (!(((rd_T24 t374 x14_3).f3) == ((rd_T24 t368 (ji46)).f3)) || (!(((rd_T24 t374 x14_3).f4) == (wrap64 ((wrap64 (((rd_T24 t368 (ji46)).f4) + (a0.size : Int))) + 1))) || (!(((rd_T24 t374 x14_3).f5) == (wrap64 ((wrap64 (((rd_T24 t368 (ji46)).f5) + (a0.size : Int))) + 1))))))))) = true then (some false) else (cruciblelaw07_LexerJoins.l0 k3 a0 t363 t368 t374 (wrap64 (x14_3 + 1)))) else (none)) else (none)) = some r := by first | (rw [hji46] at H; exact H) | (simp only [hji46] at H ⊢; exact H)
                       have hji46w : (IntKind.i64.wrap ((wrap64 (x14_3 - (t363.length : Int))) + 1)) = ji46 := (i64_w _).trans hji46
                       by_cases c47 : 0 ≤ (ji46)
                       · rw [if_pos c47] at H
                         have c47b0 : decide (0 ≤ (ji46)) = true := decide_eq_true c47
                         clear c47
                         by_cases c48 : (ji46) < (t368.length : Int)
                         · rw [if_pos c48] at H
                           have c48b0 : decide ((ji46) < (t368.length : Int)) = true := decide_eq_true c48
                           clear c48
                           by_cases c49 : (!(((rd_T24 t374 x14_3).f0) == ((rd_T24 t368 (ji46)).f0)) || (!((((rd_T24 t374 x14_3).f1).toList) == (((rd_T24 t368 (ji46)).f1).toList)) || (!(((rd_T24 t374 x14_3).f2) == ((rd_T24 t368 (ji46)).f2)) || (!(((rd_T24 t374 x14_3).f3) == ((rd_T24 t368 (ji46)).f3)) || (!(((rd_T24 t374 x14_3).f4) == (wrap64 ((wrap64 (((rd_T24 t368 (ji46)).f4) + (a0.size : Int))) + 1))) || (!(((rd_T24 t374 x14_3).f5) == (wrap64 ((wrap64 (((rd_T24 t368 (ji46)).f5) + (a0.size : Int))) + 1))))))))) = true
                           · rw [if_pos c49] at H
                             have c49b0 : (!(((rd_T24 t374 x14_3).f0) == ((rd_T24 t368 (ji46)).f0)) || (!((((rd_T24 t374 x14_3).f1).toList) == (((rd_T24 t368 (ji46)).f1).toList)) || (!(((rd_T24 t374 x14_3).f2) == ((rd_T24 t368 (ji46)).f2)) || (!(((rd_T24 t374 x14_3).f3) == ((rd_T24 t368 (ji46)).f3)) || (!(((rd_T24 t374 x14_3).f4) == (wrap64 ((wrap64 (((rd_T24 t368 (ji46)).f4) + (a0.size : Int))) + 1))) || (!(((rd_T24 t374 x14_3).f5) == (wrap64 ((wrap64 (((rd_T24 t368 (ji46)).f5) + (a0.size : Int))) + 1))))))))) = true := c49
                             clear c49
                             obtain rfl := Option.some.inj H
                             obtain ⟨Ao50, co50, eo50⟩ := Kd.R_slice HO_11.out
                             subst eo50
                             have p381 : 0 ≤ (x14_3 : Int) := of_decide_eq_true (by first | (with_reducible assumption) | assumption)
                             have q381 : x14_3 < (t374.length : Int) := of_decide_eq_true (by first | (with_reducible assumption) | assumption)
                             obtain ⟨ad381, e381, hx381_0, hx381_1, hx381_2, hx381_3, hx381_4, hx381_5⟩ := at_T24 (Kd.R_reads' HO_11.out).2.2 x14_3 p381 q381
                             cases e381
                             replace p381 := eq_true p381
                             replace q381 := eq_true q381
                             go_wp2_with (first | ((with_reducible refine Z52 (N := 15) rfl ?_); (try (refine Z66 (by rfl) ?_; dsimp only)); refine Z51 ?hg (N := 15) ?hd (cs := #[.int .i64 0, .string (⟨#[]⟩ : ByteArray), .int .u32 0, .bool false, .int .i64 0, .int .i64 0]) (t := 24) ?hr ?_; (case hd => rfl); (case hg => rfl); (case hr => first | (go_simp; done) | (go_simp; rfl)); intro gb382 hg w51 hbox hb; have n0_ := Aside0.mk (Kd.R_below (Kd.R_elderB (by (with_reducible repeat (first | apply Kd.R_alloc | apply Kd.R_drewN | apply Kd.R_drew)); exact HO_5.out) gb382 (Nat.le_of_eq hg.symm)) hb); have n1_ := Aside0.mk (Kd.R_below (Kd.R_elderB (by (with_reducible repeat (first | apply Kd.R_alloc | apply Kd.R_drewN | apply Kd.R_drew)); exact HO_8.out) gb382 (Nat.le_of_eq hg.symm)) hb); have n2_ := Aside0.mk (Kd.R_below (Kd.R_elderB (by (with_reducible repeat (first | apply Kd.R_alloc | apply Kd.R_drewN | apply Kd.R_drew)); exact HO_11.out) gb382 (Nat.le_of_eq hg.symm)) hb); have n3_ := Aside0.mk (Z25 (by repeat (first | (with_reducible first | exact HB.out | apply Z7 | apply Z4 | apply Z6) | exact HB.out)) hb); have n4_ := Aside0.mk (hbox); have n5_ := Aside0.mk ((by rw [hg]; exact (Z27 (by repeat (first | (with_reducible first | exact HB.out | apply Z7 | apply Z4 | apply Z6) | exact HB.out))) : w.heap.size ≤ gb382)); have n6_ := Aside0.mk ((by rw [hg]; exact (Z27 (by repeat (first | (with_reducible first | exact HB.out | apply Z7 | apply Z4 | apply Z6) | exact HB.out))) : w.heap.size ≤ gb382)); clear HO_5; clear HO_8; clear HO_11; clear HB; have HO_5 := n0_; have HO_8 := n1_; have HO_11 := n2_; have HB := n3_; have BK382 := n4_; have GW382 := n5_; have GE382 := n6_; clear n0_ n1_ n2_ n3_ n4_ n5_ n6_; clear hb hbox hg; have hcz52_0 : w51.cell? ⟨gb382, 0, none⟩ = some (.int .i64 0) := (Z5 BK382.out 0).trans rfl; have hcz52_1 : w51.cell? ⟨gb382, 1, none⟩ = some (.string (⟨#[]⟩ : ByteArray)) := (Z5 BK382.out 1).trans rfl; have hcz52_2 : w51.cell? ⟨gb382, 2, none⟩ = some (.int .u32 0) := (Z5 BK382.out 2).trans rfl; have hcz52_3 : w51.cell? ⟨gb382, 3, none⟩ = some (.bool false) := (Z5 BK382.out 3).trans rfl; have hcz52_4 : w51.cell? ⟨gb382, 4, none⟩ = some (.int .i64 0) := (Z5 BK382.out 4).trans rfl; have hcz52_5 : w51.cell? ⟨gb382, 5, none⟩ = some (.int .i64 0) := (Z5 BK382.out 5).trans rfl; have hfz52_0 := Z2 BK382.out 0; have hfz52_1 := Z2 BK382.out 1; have hfz52_2 := Z2 BK382.out 2; have hfz52_3 := Z2 BK382.out 3; have hfz52_4 := Z2 BK382.out 4; have hfz52_5 := Z2 BK382.out 5) | ((with_reducible refine gate_store (t := 24) (p := 15) rfl ?_); refine store_event (t := 24) (p := 15) (v := ?vo_w90) (w1 := ((((((w51.setCell ⟨gb382, 0, none⟩ (.int .i64 ((rd_T24 t374 x14_3).f0))).setCell ⟨gb382, 1, none⟩ (.string ((rd_T24 t374 x14_3).f1))).setCell ⟨gb382, 2, none⟩ (.int .u32 ((rd_T24 t374 x14_3).f2))).setCell ⟨gb382, 3, none⟩ (.bool ((rd_T24 t374 x14_3).f3))).setCell ⟨gb382, 4, none⟩ (.int .i64 ((rd_T24 t374 x14_3).f4))).setCell ⟨gb382, 5, none⟩ (.int .i64 ((rd_T24 t374 x14_3).f5)))) ?hg ?ho ?hn ?hr ?_; (case ho => rfl); (case hg => rfl); (case hn => rfl); (case hr => first | (go_simp; done) | (go_simp; rfl)); intro w90 hw; have n0_ := Aside0.mk (by rw [hw]; exact six_R HO_5.out (fun _ hk => hk.2) : Kd.R k24 24 w90 w.heap.size _ _ _); have n1_ := Aside0.mk (by rw [hw]; exact six_R HO_8.out (fun _ hk => hk.2) : Kd.R k24 24 w90 w.heap.size _ _ _); have n2_ := Aside0.mk (by rw [hw]; exact six_R HO_11.out (fun _ hk => hk.2) : Kd.R k24 24 w90 w.heap.size _ _ _); have n3_ := Aside0.mk (by rw [hw]; exact six_blk BK382.out : w90.heap[gb382]? = some (.cells #[(.int .i64 ((rd_T24 t374 x14_3).f0)), (.string ((rd_T24 t374 x14_3).f1)), (.int .u32 ((rd_T24 t374 x14_3).f2)), (.bool ((rd_T24 t374 x14_3).f3)), (.int .i64 ((rd_T24 t374 x14_3).f4)), (.int .i64 ((rd_T24 t374 x14_3).f5))] 24 (0, 0))); have n4_ := Aside0.mk (by rw [hw]; exact six_below HB.out GE382.out : Below w.heap.size w w90); clear HO_5 HO_8 HO_11 HB BK382; have HO_5 := n0_; have HO_8 := n1_; have HO_11 := n2_; have BK382 := n3_; have HB := n4_; clear n0_ n1_ n2_ n3_ n4_ hw; clear hx381_0 hx381_1 hx381_2 hx381_3 hx381_4 hx381_5 hcz52_0 hfz52_0 hcz52_1 hfz52_1 hcz52_2 hfz52_2 hcz52_3 hfz52_3 hcz52_4 hfz52_4 hcz52_5 hfz52_5; obtain ⟨Ao53, co53, eo53⟩ := Kd.R_slice HO_5.out; subst eo53; obtain ⟨Ao54, co54, eo54⟩ := Kd.R_slice HO_8.out; subst eo54; have p384 : 0 ≤ ((ji46) : Int) := of_decide_eq_true (by first | (with_reducible assumption) | assumption); have q384 : (ji46) < (t368.length : Int) := of_decide_eq_true (by first | (with_reducible assumption) | assumption); obtain ⟨ad384, e384, hx384_0, hx384_1, hx384_2, hx384_3, hx384_4, hx384_5⟩ := at_T24 (Kd.R_reads' HO_8.out).2.2 (ji46) p384 q384; cases e384; replace p384 := eq_true p384; replace q384 := eq_true q384) | ((with_reducible refine Z52 (N := 16) rfl ?_); (try (refine Z66 (by rfl) ?_; dsimp only)); refine Z51 ?hg (N := 16) ?hd (cs := #[(.int .i64 0), (.string (⟨#[]⟩ : ByteArray)), (.int .u32 0), (.bool false), (.int .i64 0), (.int .i64 0)]) (t := 24) ?hr ?_; (case hd => rfl); (case hg => rfl); (case hr => first | (go_simp; done) | (go_simp; rfl)); intro gb385 hg w55 hbox hb; have n0_ := Aside0.mk (Kd.R_below (Kd.R_elderB HO_5.out gb385 (Nat.le_of_eq hg.symm)) hb); have n1_ := Aside0.mk (Kd.R_below (Kd.R_elderB HO_8.out gb385 (Nat.le_of_eq hg.symm)) hb); have n2_ := Aside0.mk (Kd.R_below (Kd.R_elderB HO_11.out gb385 (Nat.le_of_eq hg.symm)) hb); have n3_ := Aside0.mk (Z40 BK382.out hb); have n4_ := Aside0.mk (Z25 HB.out hb); have n5_ := Aside0.mk (hbox); have n6_ := Aside0.mk ((by rw [hg]; exact (Z27 HB.out)) : w.heap.size ≤ gb385); have n7_ := Aside0.mk ((by rw [hg]; exact Nat.ne_of_lt (blk_lt BK382.out)) : gb382 ≠ gb385); clear HO_5 HO_8 HO_11 HB BK382; have HO_5 := n0_; have HO_8 := n1_; have HO_11 := n2_; have BK382 := n3_; have HB := n4_; have BK385 := n5_; have GE385 := n6_; have NB385 := n7_; clear n0_ n1_ n2_ n3_ n4_ n5_ n6_ n7_; clear hb hbox hg; clear hx384_0 hx384_1 hx384_2 hx384_3 hx384_4 hx384_5; have hcz91_0 : w55.cell? ⟨gb385, 0, none⟩ = some (.int .i64 0) := (Z5 BK385.out 0).trans rfl; have hcz91_1 : w55.cell? ⟨gb385, 1, none⟩ = some (.string (⟨#[]⟩ : ByteArray)) := (Z5 BK385.out 1).trans rfl; have hcz91_2 : w55.cell? ⟨gb385, 2, none⟩ = some (.int .u32 0) := (Z5 BK385.out 2).trans rfl; have hcz91_3 : w55.cell? ⟨gb385, 3, none⟩ = some (.bool false) := (Z5 BK385.out 3).trans rfl; have hcz91_4 : w55.cell? ⟨gb385, 4, none⟩ = some (.int .i64 0) := (Z5 BK385.out 4).trans rfl; have hcz91_5 : w55.cell? ⟨gb385, 5, none⟩ = some (.int .i64 0) := (Z5 BK385.out 5).trans rfl; have hfz91_0 := Z2 BK385.out 0; have hfz91_1 := Z2 BK385.out 1; have hfz91_2 := Z2 BK385.out 2; have hfz91_3 := Z2 BK385.out 3; have hfz91_4 := Z2 BK385.out 4; have hfz91_5 := Z2 BK385.out 5) | ((with_reducible refine gate_store (t := 24) (p := 16) rfl ?_); refine store_event (t := 24) (p := 16) (v := ?vo_w91) (w1 := ((((((w55.setCell ⟨gb385, 0, none⟩ (.int .i64 ((rd_T24 t368 (ji46)).f0))).setCell ⟨gb385, 1, none⟩ (.string ((rd_T24 t368 (ji46)).f1))).setCell ⟨gb385, 2, none⟩ (.int .u32 ((rd_T24 t368 (ji46)).f2))).setCell ⟨gb385, 3, none⟩ (.bool ((rd_T24 t368 (ji46)).f3))).setCell ⟨gb385, 4, none⟩ (.int .i64 ((rd_T24 t368 (ji46)).f4))).setCell ⟨gb385, 5, none⟩ (.int .i64 ((rd_T24 t368 (ji46)).f5)))) ?hg ?ho ?hn ?hr ?_; (case ho => rfl); (case hg => rfl); (case hn => rfl); (case hr => first | (go_simp; done) | (go_simp; rfl)); intro w91 hw; have n0_ := Aside0.mk (by rw [hw]; exact six_R HO_5.out (fun _ hk => hk.2) : Kd.R k24 24 w91 w.heap.size _ _ _); have n1_ := Aside0.mk (by rw [hw]; exact six_R HO_8.out (fun _ hk => hk.2) : Kd.R k24 24 w91 w.heap.size _ _ _); have n2_ := Aside0.mk (by rw [hw]; exact six_R HO_11.out (fun _ hk => hk.2) : Kd.R k24 24 w91 w.heap.size _ _ _); have n3_ := Aside0.mk (by rw [hw]; exact six_blk BK385.out : w91.heap[gb385]? = some (.cells #[(.int .i64 ((rd_T24 t368 (ji46)).f0)), (.string ((rd_T24 t368 (ji46)).f1)), (.int .u32 ((rd_T24 t368 (ji46)).f2)), (.bool ((rd_T24 t368 (ji46)).f3)), (.int .i64 ((rd_T24 t368 (ji46)).f4)), (.int .i64 ((rd_T24 t368 (ji46)).f5))] 24 (0, 0))); have n4_ := Aside0.mk (by rw [hw]; exact six_below HB.out GE385.out : Below w.heap.size w w91); have n5_ := Aside0.mk (by rw [hw]; exact six_far BK382.out NB385.out : w91.heap[gb382]? = some (.cells #[(.int .i64 ((rd_T24 t374 x14_3).f0)), (.string ((rd_T24 t374 x14_3).f1)), (.int .u32 ((rd_T24 t374 x14_3).f2)), (.bool ((rd_T24 t374 x14_3).f3)), (.int .i64 ((rd_T24 t374 x14_3).f4)), (.int .i64 ((rd_T24 t374 x14_3).f5))] 24 (0, 0))); clear HO_5 HO_8 HO_11 HB BK382 BK385; have HO_5 := n0_; have HO_8 := n1_; have HO_11 := n2_; have BK385 := n3_; have HB := n4_; have BK382 := n5_; clear n0_ n1_ n2_ n3_ n4_ n5_ hw; clear hcz91_0 hfz91_0 hcz91_1 hfz91_1 hcz91_2 hfz91_2 hcz91_3 hfz91_3 hcz91_4 hfz91_4 hcz91_5 hfz91_5; have hcz92_0 : w91.cell? ⟨gb385, 0, none⟩ = some (.int .i64 ((rd_T24 t368 (ji46)).f0)) := (Z5 BK385.out 0).trans rfl; have hcz92_1 : w91.cell? ⟨gb385, 1, none⟩ = some (.string ((rd_T24 t368 (ji46)).f1)) := (Z5 BK385.out 1).trans rfl; have hcz92_2 : w91.cell? ⟨gb385, 2, none⟩ = some (.int .u32 ((rd_T24 t368 (ji46)).f2)) := (Z5 BK385.out 2).trans rfl; have hcz92_3 : w91.cell? ⟨gb385, 3, none⟩ = some (.bool ((rd_T24 t368 (ji46)).f3)) := (Z5 BK385.out 3).trans rfl; have hcz92_4 : w91.cell? ⟨gb385, 4, none⟩ = some (.int .i64 ((rd_T24 t368 (ji46)).f4)) := (Z5 BK385.out 4).trans rfl; have hcz92_5 : w91.cell? ⟨gb385, 5, none⟩ = some (.int .i64 ((rd_T24 t368 (ji46)).f5)) := (Z5 BK385.out 5).trans rfl; have hfz92_0 := Z2 BK385.out 0; have hfz92_1 := Z2 BK385.out 1; have hfz92_2 := Z2 BK385.out 2; have hfz92_3 := Z2 BK385.out 3; have hfz92_4 := Z2 BK385.out 4; have hfz92_5 := Z2 BK385.out 5; have hcz93_0 : w91.cell? ⟨gb382, 0, none⟩ = some (.int .i64 ((rd_T24 t374 x14_3).f0)) := (Z5 BK382.out 0).trans rfl; have hcz93_1 : w91.cell? ⟨gb382, 1, none⟩ = some (.string ((rd_T24 t374 x14_3).f1)) := (Z5 BK382.out 1).trans rfl; have hcz93_2 : w91.cell? ⟨gb382, 2, none⟩ = some (.int .u32 ((rd_T24 t374 x14_3).f2)) := (Z5 BK382.out 2).trans rfl; have hcz93_3 : w91.cell? ⟨gb382, 3, none⟩ = some (.bool ((rd_T24 t374 x14_3).f3)) := (Z5 BK382.out 3).trans rfl; have hcz93_4 : w91.cell? ⟨gb382, 4, none⟩ = some (.int .i64 ((rd_T24 t374 x14_3).f4)) := (Z5 BK382.out 4).trans rfl; have hcz93_5 : w91.cell? ⟨gb382, 5, none⟩ = some (.int .i64 ((rd_T24 t374 x14_3).f5)) := (Z5 BK382.out 5).trans rfl; have hfz93_0 := Z2 BK382.out 0; have hfz93_1 := Z2 BK382.out 1; have hfz93_2 := Z2 BK382.out 2; have hfz93_3 := Z2 BK382.out 3; have hfz93_4 := Z2 BK382.out 4; have hfz93_5 := Z2 BK382.out 5; have hnb92 := NB385.out; have hnc92 := hnb92.symm))
                             try repeat (go_quiet (fail); try go_wp2)
                             go_ret
                             exact ⟨by first | rfl | (simp [Z16, Z15] <;> rfl) | (simp only [← hji46]; first | rfl | (simp [Z16, Z15] <;> rfl)) | (simp [*, Z16, Z15] <;> rfl), by repeat (first | (with_reducible first | exact HB.out | apply Z7 | apply Z4 | apply Z6 | refine Z8 ?_ GE385.out) | exact HB.out)⟩
                           · rw [if_neg c49] at H
                             have c49b0 : (!(((rd_T24 t374 x14_3).f0) == ((rd_T24 t368 (ji46)).f0)) || (!((((rd_T24 t374 x14_3).f1).toList) == (((rd_T24 t368 (ji46)).f1).toList)) || (!(((rd_T24 t374 x14_3).f2) == ((rd_T24 t368 (ji46)).f2)) || (!(((rd_T24 t374 x14_3).f3) == ((rd_T24 t368 (ji46)).f3)) || (!(((rd_T24 t374 x14_3).f4) == (wrap64 ((wrap64 (((rd_T24 t368 (ji46)).f4) + (a0.size : Int))) + 1))) || (!(((rd_T24 t374 x14_3).f5) == (wrap64 ((wrap64 (((rd_T24 t368 (ji46)).f5) + (a0.size : Int))) + 1))))))))) = false := by simpa using c49
                             clear c49
                             have H' := Aside0.mk H
                             clear H
                             obtain ⟨Ao59, co59, eo59⟩ := Kd.R_slice HO_11.out
                             subst eo59
                             have p381 : 0 ≤ (x14_3 : Int) := of_decide_eq_true (by first | (with_reducible assumption) | assumption)
                             have q381 : x14_3 < (t374.length : Int) := of_decide_eq_true (by first | (with_reducible assumption) | assumption)
                             obtain ⟨ad381, e381, hx381_0, hx381_1, hx381_2, hx381_3, hx381_4, hx381_5⟩ := at_T24 (Kd.R_reads' HO_11.out).2.2 x14_3 p381 q381
                             cases e381
                             replace p381 := eq_true p381
                             replace q381 := eq_true q381
                             go_wp2_with (first | ((with_reducible refine Z52 (N := 15) rfl ?_); (try (refine Z66 (by rfl) ?_; dsimp only)); refine Z51 ?hg (N := 15) ?hd (cs := #[.int .i64 0, .string (⟨#[]⟩ : ByteArray), .int .u32 0, .bool false, .int .i64 0, .int .i64 0]) (t := 24) ?hr ?_; (case hd => rfl); (case hg => rfl); (case hr => first | (go_simp; done) | (go_simp; rfl)); intro gb382 hg w60 hbox hb; have n0_ := Aside0.mk (Kd.R_below (Kd.R_elderB (by (with_reducible repeat (first | apply Kd.R_alloc | apply Kd.R_drewN | apply Kd.R_drew)); exact HO_5.out) gb382 (Nat.le_of_eq hg.symm)) hb); have n1_ := Aside0.mk (Kd.R_below (Kd.R_elderB (by (with_reducible repeat (first | apply Kd.R_alloc | apply Kd.R_drewN | apply Kd.R_drew)); exact HO_8.out) gb382 (Nat.le_of_eq hg.symm)) hb); have n2_ := Aside0.mk (Kd.R_below (Kd.R_elderB (by (with_reducible repeat (first | apply Kd.R_alloc | apply Kd.R_drewN | apply Kd.R_drew)); exact HO_11.out) gb382 (Nat.le_of_eq hg.symm)) hb); have n3_ := Aside0.mk (Z25 (by repeat (first | (with_reducible first | exact HB.out | apply Z7 | apply Z4 | apply Z6) | exact HB.out)) hb); have n4_ := Aside0.mk (hbox); have n5_ := Aside0.mk ((by rw [hg]; exact (Z27 (by repeat (first | (with_reducible first | exact HB.out | apply Z7 | apply Z4 | apply Z6) | exact HB.out))) : w.heap.size ≤ gb382)); have n6_ := Aside0.mk ((by rw [hg]; exact (Z27 (by repeat (first | (with_reducible first | exact HB.out | apply Z7 | apply Z4 | apply Z6) | exact HB.out))) : w.heap.size ≤ gb382)); clear HO_5; clear HO_8; clear HO_11; clear HB; have HO_5 := n0_; have HO_8 := n1_; have HO_11 := n2_; have HB := n3_; have BK382 := n4_; have GW382 := n5_; have GE382 := n6_; clear n0_ n1_ n2_ n3_ n4_ n5_ n6_; clear hb hbox hg; have hcz61_0 : w60.cell? ⟨gb382, 0, none⟩ = some (.int .i64 0) := (Z5 BK382.out 0).trans rfl; have hcz61_1 : w60.cell? ⟨gb382, 1, none⟩ = some (.string (⟨#[]⟩ : ByteArray)) := (Z5 BK382.out 1).trans rfl; have hcz61_2 : w60.cell? ⟨gb382, 2, none⟩ = some (.int .u32 0) := (Z5 BK382.out 2).trans rfl; have hcz61_3 : w60.cell? ⟨gb382, 3, none⟩ = some (.bool false) := (Z5 BK382.out 3).trans rfl; have hcz61_4 : w60.cell? ⟨gb382, 4, none⟩ = some (.int .i64 0) := (Z5 BK382.out 4).trans rfl; have hcz61_5 : w60.cell? ⟨gb382, 5, none⟩ = some (.int .i64 0) := (Z5 BK382.out 5).trans rfl; have hfz61_0 := Z2 BK382.out 0; have hfz61_1 := Z2 BK382.out 1; have hfz61_2 := Z2 BK382.out 2; have hfz61_3 := Z2 BK382.out 3; have hfz61_4 := Z2 BK382.out 4; have hfz61_5 := Z2 BK382.out 5) | ((with_reducible refine gate_store (t := 24) (p := 15) rfl ?_); refine store_event (t := 24) (p := 15) (v := ?vo_w90) (w1 := ((((((w60.setCell ⟨gb382, 0, none⟩ (.int .i64 ((rd_T24 t374 x14_3).f0))).setCell ⟨gb382, 1, none⟩ (.string ((rd_T24 t374 x14_3).f1))).setCell ⟨gb382, 2, none⟩ (.int .u32 ((rd_T24 t374 x14_3).f2))).setCell ⟨gb382, 3, none⟩ (.bool ((rd_T24 t374 x14_3).f3))).setCell ⟨gb382, 4, none⟩ (.int .i64 ((rd_T24 t374 x14_3).f4))).setCell ⟨gb382, 5, none⟩ (.int .i64 ((rd_T24 t374 x14_3).f5)))) ?hg ?ho ?hn ?hr ?_; (case ho => rfl); (case hg => rfl); (case hn => rfl); (case hr => first | (go_simp; done) | (go_simp; rfl)); intro w90 hw; have n0_ := Aside0.mk (by rw [hw]; exact six_R HO_5.out (fun _ hk => hk.2) : Kd.R k24 24 w90 w.heap.size _ _ _); have n1_ := Aside0.mk (by rw [hw]; exact six_R HO_8.out (fun _ hk => hk.2) : Kd.R k24 24 w90 w.heap.size _ _ _); have n2_ := Aside0.mk (by rw [hw]; exact six_R HO_11.out (fun _ hk => hk.2) : Kd.R k24 24 w90 w.heap.size _ _ _); have n3_ := Aside0.mk (by rw [hw]; exact six_blk BK382.out : w90.heap[gb382]? = some (.cells #[(.int .i64 ((rd_T24 t374 x14_3).f0)), (.string ((rd_T24 t374 x14_3).f1)), (.int .u32 ((rd_T24 t374 x14_3).f2)), (.bool ((rd_T24 t374 x14_3).f3)), (.int .i64 ((rd_T24 t374 x14_3).f4)), (.int .i64 ((rd_T24 t374 x14_3).f5))] 24 (0, 0))); have n4_ := Aside0.mk (by rw [hw]; exact six_below HB.out GE382.out : Below w.heap.size w w90); clear HO_5 HO_8 HO_11 HB BK382; have HO_5 := n0_; have HO_8 := n1_; have HO_11 := n2_; have BK382 := n3_; have HB := n4_; clear n0_ n1_ n2_ n3_ n4_ hw; clear hx381_0 hx381_1 hx381_2 hx381_3 hx381_4 hx381_5 hcz61_0 hfz61_0 hcz61_1 hfz61_1 hcz61_2 hfz61_2 hcz61_3 hfz61_3 hcz61_4 hfz61_4 hcz61_5 hfz61_5; obtain ⟨Ao62, co62, eo62⟩ := Kd.R_slice HO_5.out; subst eo62; obtain ⟨Ao63, co63, eo63⟩ := Kd.R_slice HO_8.out; subst eo63; have p384 : 0 ≤ ((ji46) : Int) := of_decide_eq_true (by first | (with_reducible assumption) | assumption); have q384 : (ji46) < (t368.length : Int) := of_decide_eq_true (by first | (with_reducible assumption) | assumption); obtain ⟨ad384, e384, hx384_0, hx384_1, hx384_2, hx384_3, hx384_4, hx384_5⟩ := at_T24 (Kd.R_reads' HO_8.out).2.2 (ji46) p384 q384; cases e384; replace p384 := eq_true p384; replace q384 := eq_true q384) | ((with_reducible refine Z52 (N := 16) rfl ?_); (try (refine Z66 (by rfl) ?_; dsimp only)); refine Z51 ?hg (N := 16) ?hd (cs := #[(.int .i64 0), (.string (⟨#[]⟩ : ByteArray)), (.int .u32 0), (.bool false), (.int .i64 0), (.int .i64 0)]) (t := 24) ?hr ?_; (case hd => rfl); (case hg => rfl); (case hr => first | (go_simp; done) | (go_simp; rfl)); intro gb385 hg w55 hbox hb; have n0_ := Aside0.mk (Kd.R_below (Kd.R_elderB HO_5.out gb385 (Nat.le_of_eq hg.symm)) hb); have n1_ := Aside0.mk (Kd.R_below (Kd.R_elderB HO_8.out gb385 (Nat.le_of_eq hg.symm)) hb); have n2_ := Aside0.mk (Kd.R_below (Kd.R_elderB HO_11.out gb385 (Nat.le_of_eq hg.symm)) hb); have n3_ := Aside0.mk (Z40 BK382.out hb); have n4_ := Aside0.mk (Z25 HB.out hb); have n5_ := Aside0.mk (hbox); have n6_ := Aside0.mk ((by rw [hg]; exact (Z27 HB.out)) : w.heap.size ≤ gb385); have n7_ := Aside0.mk ((by rw [hg]; exact Nat.ne_of_lt (blk_lt BK382.out)) : gb382 ≠ gb385); clear HO_5 HO_8 HO_11 HB BK382; have HO_5 := n0_; have HO_8 := n1_; have HO_11 := n2_; have BK382 := n3_; have HB := n4_; have BK385 := n5_; have GE385 := n6_; have NB385 := n7_; clear n0_ n1_ n2_ n3_ n4_ n5_ n6_ n7_; clear hb hbox hg; clear hx384_0 hx384_1 hx384_2 hx384_3 hx384_4 hx384_5; have hcz91_0 : w55.cell? ⟨gb385, 0, none⟩ = some (.int .i64 0) := (Z5 BK385.out 0).trans rfl; have hcz91_1 : w55.cell? ⟨gb385, 1, none⟩ = some (.string (⟨#[]⟩ : ByteArray)) := (Z5 BK385.out 1).trans rfl; have hcz91_2 : w55.cell? ⟨gb385, 2, none⟩ = some (.int .u32 0) := (Z5 BK385.out 2).trans rfl; have hcz91_3 : w55.cell? ⟨gb385, 3, none⟩ = some (.bool false) := (Z5 BK385.out 3).trans rfl; have hcz91_4 : w55.cell? ⟨gb385, 4, none⟩ = some (.int .i64 0) := (Z5 BK385.out 4).trans rfl; have hcz91_5 : w55.cell? ⟨gb385, 5, none⟩ = some (.int .i64 0) := (Z5 BK385.out 5).trans rfl; have hfz91_0 := Z2 BK385.out 0; have hfz91_1 := Z2 BK385.out 1; have hfz91_2 := Z2 BK385.out 2; have hfz91_3 := Z2 BK385.out 3; have hfz91_4 := Z2 BK385.out 4; have hfz91_5 := Z2 BK385.out 5) | ((with_reducible refine gate_store (t := 24) (p := 16) rfl ?_); refine store_event (t := 24) (p := 16) (v := ?vo_w91) (w1 := ((((((w55.setCell ⟨gb385, 0, none⟩ (.int .i64 ((rd_T24 t368 (ji46)).f0))).setCell ⟨gb385, 1, none⟩ (.string ((rd_T24 t368 (ji46)).f1))).setCell ⟨gb385, 2, none⟩ (.int .u32 ((rd_T24 t368 (ji46)).f2))).setCell ⟨gb385, 3, none⟩ (.bool ((rd_T24 t368 (ji46)).f3))).setCell ⟨gb385, 4, none⟩ (.int .i64 ((rd_T24 t368 (ji46)).f4))).setCell ⟨gb385, 5, none⟩ (.int .i64 ((rd_T24 t368 (ji46)).f5)))) ?hg ?ho ?hn ?hr ?_; (case ho => rfl); (case hg => rfl); (case hn => rfl); (case hr => first | (go_simp; done) | (go_simp; rfl)); intro w91 hw; have n0_ := Aside0.mk (by rw [hw]; exact six_R HO_5.out (fun _ hk => hk.2) : Kd.R k24 24 w91 w.heap.size _ _ _); have n1_ := Aside0.mk (by rw [hw]; exact six_R HO_8.out (fun _ hk => hk.2) : Kd.R k24 24 w91 w.heap.size _ _ _); have n2_ := Aside0.mk (by rw [hw]; exact six_R HO_11.out (fun _ hk => hk.2) : Kd.R k24 24 w91 w.heap.size _ _ _); have n3_ := Aside0.mk (by rw [hw]; exact six_blk BK385.out : w91.heap[gb385]? = some (.cells #[(.int .i64 ((rd_T24 t368 (ji46)).f0)), (.string ((rd_T24 t368 (ji46)).f1)), (.int .u32 ((rd_T24 t368 (ji46)).f2)), (.bool ((rd_T24 t368 (ji46)).f3)), (.int .i64 ((rd_T24 t368 (ji46)).f4)), (.int .i64 ((rd_T24 t368 (ji46)).f5))] 24 (0, 0))); have n4_ := Aside0.mk (by rw [hw]; exact six_below HB.out GE385.out : Below w.heap.size w w91); have n5_ := Aside0.mk (by rw [hw]; exact six_far BK382.out NB385.out : w91.heap[gb382]? = some (.cells #[(.int .i64 ((rd_T24 t374 x14_3).f0)), (.string ((rd_T24 t374 x14_3).f1)), (.int .u32 ((rd_T24 t374 x14_3).f2)), (.bool ((rd_T24 t374 x14_3).f3)), (.int .i64 ((rd_T24 t374 x14_3).f4)), (.int .i64 ((rd_T24 t374 x14_3).f5))] 24 (0, 0))); clear HO_5 HO_8 HO_11 HB BK382 BK385; have HO_5 := n0_; have HO_8 := n1_; have HO_11 := n2_; have BK385 := n3_; have HB := n4_; have BK382 := n5_; clear n0_ n1_ n2_ n3_ n4_ n5_ hw; clear hcz91_0 hfz91_0 hcz91_1 hfz91_1 hcz91_2 hfz91_2 hcz91_3 hfz91_3 hcz91_4 hfz91_4 hcz91_5 hfz91_5; have hcz92_0 : w91.cell? ⟨gb385, 0, none⟩ = some (.int .i64 ((rd_T24 t368 (ji46)).f0)) := (Z5 BK385.out 0).trans rfl; have hcz92_1 : w91.cell? ⟨gb385, 1, none⟩ = some (.string ((rd_T24 t368 (ji46)).f1)) := (Z5 BK385.out 1).trans rfl; have hcz92_2 : w91.cell? ⟨gb385, 2, none⟩ = some (.int .u32 ((rd_T24 t368 (ji46)).f2)) := (Z5 BK385.out 2).trans rfl; have hcz92_3 : w91.cell? ⟨gb385, 3, none⟩ = some (.bool ((rd_T24 t368 (ji46)).f3)) := (Z5 BK385.out 3).trans rfl; have hcz92_4 : w91.cell? ⟨gb385, 4, none⟩ = some (.int .i64 ((rd_T24 t368 (ji46)).f4)) := (Z5 BK385.out 4).trans rfl; have hcz92_5 : w91.cell? ⟨gb385, 5, none⟩ = some (.int .i64 ((rd_T24 t368 (ji46)).f5)) := (Z5 BK385.out 5).trans rfl; have hfz92_0 := Z2 BK385.out 0; have hfz92_1 := Z2 BK385.out 1; have hfz92_2 := Z2 BK385.out 2; have hfz92_3 := Z2 BK385.out 3; have hfz92_4 := Z2 BK385.out 4; have hfz92_5 := Z2 BK385.out 5; have hcz93_0 : w91.cell? ⟨gb382, 0, none⟩ = some (.int .i64 ((rd_T24 t374 x14_3).f0)) := (Z5 BK382.out 0).trans rfl; have hcz93_1 : w91.cell? ⟨gb382, 1, none⟩ = some (.string ((rd_T24 t374 x14_3).f1)) := (Z5 BK382.out 1).trans rfl; have hcz93_2 : w91.cell? ⟨gb382, 2, none⟩ = some (.int .u32 ((rd_T24 t374 x14_3).f2)) := (Z5 BK382.out 2).trans rfl; have hcz93_3 : w91.cell? ⟨gb382, 3, none⟩ = some (.bool ((rd_T24 t374 x14_3).f3)) := (Z5 BK382.out 3).trans rfl; have hcz93_4 : w91.cell? ⟨gb382, 4, none⟩ = some (.int .i64 ((rd_T24 t374 x14_3).f4)) := (Z5 BK382.out 4).trans rfl; have hcz93_5 : w91.cell? ⟨gb382, 5, none⟩ = some (.int .i64 ((rd_T24 t374 x14_3).f5)) := (Z5 BK382.out 5).trans rfl; have hfz93_0 := Z2 BK382.out 0; have hfz93_1 := Z2 BK382.out 1; have hfz93_2 := Z2 BK382.out 2; have hfz93_3 := Z2 BK382.out 3; have hfz93_4 := Z2 BK382.out 4; have hfz93_5 := Z2 BK382.out 5; have hnb92 := NB385.out; have hnc92 := hnb92.symm))
                             try repeat (go_quiet (fail); try go_wp2)
                             go_roundg k3
                             case measure => have := HJ4.out; have := HJ20.out; have := HK3.out; omega
                             case rel => exact ⟨(wrap64 (x14_3 + 1)), (by first | rfl | (simp; done) | (simp [*]; done)), H', ⟨by have := HJ4.out; have := HJ20.out; have := HK3.out; omega⟩, ⟨by (with_reducible repeat (first | apply Kd.R_alloc | apply Kd.R_drewN | apply Kd.R_drew)); exact Kd.R_mono (Kd.R_far (p := ⟨gb385, 5, none⟩) (Kd.R_far (p := ⟨gb385, 4, none⟩) HO_5.out (fun _ hk => hk.2) (.int .i64 (wrap64 ((wrap64 (((rd_T24 t368 (ji46)).f4) + (a0.size : Int))) + 1)))) (fun _ hk => hk.2) (.int .i64 (wrap64 ((wrap64 (((rd_T24 t368 (ji46)).f5) + (a0.size : Int))) + 1)))) (fun _ hk => hk.1.1)⟩, ⟨by (with_reducible repeat (first | apply Kd.R_alloc | apply Kd.R_drewN | apply Kd.R_drew)); exact Kd.R_mono (Kd.R_far (p := ⟨gb385, 5, none⟩) (Kd.R_far (p := ⟨gb385, 4, none⟩) HO_8.out (fun _ hk => hk.2) (.int .i64 (wrap64 ((wrap64 (((rd_T24 t368 (ji46)).f4) + (a0.size : Int))) + 1)))) (fun _ hk => hk.2) (.int .i64 (wrap64 ((wrap64 (((rd_T24 t368 (ji46)).f5) + (a0.size : Int))) + 1)))) (fun _ hk => hk.1.1)⟩, ⟨by (with_reducible repeat (first | apply Kd.R_alloc | apply Kd.R_drewN | apply Kd.R_drew)); exact Kd.R_mono (Kd.R_far (p := ⟨gb385, 5, none⟩) (Kd.R_far (p := ⟨gb385, 4, none⟩) HO_11.out (fun _ hk => hk.2) (.int .i64 (wrap64 ((wrap64 (((rd_T24 t368 (ji46)).f4) + (a0.size : Int))) + 1)))) (fun _ hk => hk.2) (.int .i64 (wrap64 ((wrap64 (((rd_T24 t368 (ji46)).f5) + (a0.size : Int))) + 1)))) (fun _ hk => hk.1.1)⟩, ⟨by repeat (first | (with_reducible first | exact HB.out | apply Z7 | apply Z4 | apply Z6 | refine Z8 ?_ GE385.out) | exact HB.out)⟩⟩
                         · rw [if_neg c48] at H
                           exact absurd H (by simp)
                       · rw [if_neg c47] at H
                         exact absurd H (by simp)
                   · rw [if_neg c34] at H
                     exact absurd H (by simp)
                 · rw [if_neg c33] at H
                   have c33b0 : decide (x14_3 < (t374.length : Int)) = false := decide_eq_false c33
                   clear c33
                   replace H := Option.bind_eq_some_iff.mp H
                   obtain ⟨t380, A680, H⟩ := H
                   replace H : (some t380) = some r := H
                   have A68 := Aside0.mk A680
                   clear A680
                   obtain rfl := Option.some.inj H
                   obtain ⟨Ao69, co69, eo69⟩ := Kd.R_slice HO_11.out
                   subst eo69
                   go_wp2_with (first | (go_at_call 11; (with_reducible refine (cruciblelaw07_awake.calls k3  t380 _ ?side1 A68.out).mono ?_); (case side1 => refine PremW.below HG.out ?_; repeat (first | (with_reducible first | exact HB.out | apply Z7 | apply Z4 | apply Z6) | exact HB.out)); rintro e w70 ⟨rfl, hb⟩; have n0_ := Aside0.mk (Kd.R_below (by (with_reducible repeat (first | apply Kd.R_alloc | apply Kd.R_drewN | apply Kd.R_drew)); exact HO_5.out) hb); have n1_ := Aside0.mk (Kd.R_below (by (with_reducible repeat (first | apply Kd.R_alloc | apply Kd.R_drewN | apply Kd.R_drew)); exact HO_8.out) hb); have n2_ := Aside0.mk (Kd.R_below (by (with_reducible repeat (first | apply Kd.R_alloc | apply Kd.R_drewN | apply Kd.R_drew)); exact HO_11.out) hb); have n3_ := Aside0.mk (Z25 (by repeat (first | (with_reducible first | exact HB.out | apply Z7 | apply Z4 | apply Z6) | exact HB.out)) hb); clear HO_5; clear HO_8; clear HO_11; clear HB; have HO_5 := n0_; have HO_8 := n1_; have HO_11 := n2_; have HB := n3_; clear n0_ n1_ n2_ n3_; (try clear hb); (try clear hb2); (try clear hk); (try clear hi)))
                   repeat (go_quiet (first | (go_at_call 11; (with_reducible refine (cruciblelaw07_awake.calls k3  t380 _ ?side1 A68.out).mono ?_); (case side1 => refine PremW.below HG.out ?_; repeat (first | (with_reducible first | exact HB.out | apply Z7 | apply Z4 | apply Z6) | exact HB.out)); rintro e w70 ⟨rfl, hb⟩; have n0_ := Aside0.mk (Kd.R_below (by (with_reducible repeat (first | apply Kd.R_alloc | apply Kd.R_drewN | apply Kd.R_drew)); exact HO_5.out) hb); have n1_ := Aside0.mk (Kd.R_below (by (with_reducible repeat (first | apply Kd.R_alloc | apply Kd.R_drewN | apply Kd.R_drew)); exact HO_8.out) hb); have n2_ := Aside0.mk (Kd.R_below (by (with_reducible repeat (first | apply Kd.R_alloc | apply Kd.R_drewN | apply Kd.R_drew)); exact HO_11.out) hb); have n3_ := Aside0.mk (Z25 (by repeat (first | (with_reducible first | exact HB.out | apply Z7 | apply Z4 | apply Z6) | exact HB.out)) hb); clear HO_5; clear HO_8; clear HO_11; clear HB; have HO_5 := n0_; have HO_8 := n1_; have HO_11 := n2_; have HB := n3_; clear n0_ n1_ n2_ n3_; (try clear hb); (try clear hb2); (try clear hk); (try clear hi))); try go_wp2_with (first | (go_at_call 11; (with_reducible refine (cruciblelaw07_awake.calls k3  t380 _ ?side1 A68.out).mono ?_); (case side1 => refine PremW.below HG.out ?_; repeat (first | (with_reducible first | exact HB.out | apply Z7 | apply Z4 | apply Z6) | exact HB.out)); rintro e w70 ⟨rfl, hb⟩; have n0_ := Aside0.mk (Kd.R_below (by (with_reducible repeat (first | apply Kd.R_alloc | apply Kd.R_drewN | apply Kd.R_drew)); exact HO_5.out) hb); have n1_ := Aside0.mk (Kd.R_below (by (with_reducible repeat (first | apply Kd.R_alloc | apply Kd.R_drewN | apply Kd.R_drew)); exact HO_8.out) hb); have n2_ := Aside0.mk (Kd.R_below (by (with_reducible repeat (first | apply Kd.R_alloc | apply Kd.R_drewN | apply Kd.R_drew)); exact HO_11.out) hb); have n3_ := Aside0.mk (Z25 (by repeat (first | (with_reducible first | exact HB.out | apply Z7 | apply Z4 | apply Z6) | exact HB.out)) hb); clear HO_5; clear HO_8; clear HO_11; clear HB; have HO_5 := n0_; have HO_8 := n1_; have HO_11 := n2_; have HB := n3_; clear n0_ n1_ n2_ n3_; (try clear hb); (try clear hb2); (try clear hk); (try clear hi))))
                   go_ret
                   exact ⟨by first | rfl | (simp [Z16, Z15] <;> rfl) | (simp [*, Z16, Z15] <;> rfl), by repeat (first | (with_reducible first | exact HB.out | apply Z7 | apply Z4 | apply Z6) | exact HB.out)⟩
       · rw [if_neg c13] at H
         exact absurd H (by simp)
     · rw [if_neg c12] at H
       exact absurd H (by simp)
end Go.Proofs.YtbmfadmoficfiaaDoor.Q
