/- A part of the proof, made small by a program: Qx10, Qx11. -/
import Derived.Test.YtbklmnieakefnaaVw1
import Derived.Test.YtbklmnieakefnaaVw3
namespace Go.Proofs.Ytbklmnieakefnaa.Q
open Go.RowKit Go.Proofs.YtbklmnieakefnaaW.PrintWords Go.Proofs.YtbklmnieakefnaaW.PrintLast Go.Proofs.YtbklmnieakefnaaW.PrintMore
attribute [local go_sem] Z56 Z54 Z61 Z60 Z49 Z48 Z55 Z53
set_option linter.unusedVariables false
set_option linter.unusedSimpArgs false
mutual
def crucibleref14_Func.j0 : Nat → Bool → ByteArray → Int → Int → Int → List (S45) → Option (Bool)
 | 0, _, _, _, _, _, _ => none
 | k + 1, x60, x157000, x157001, x157002, x157003, x157004 => if x60 = true then (some false) else (crucibleref14_Func.l0 k 0 0 x157000 x157001 x157002 x157003 x157004)
def crucibleref14_Func.l0 : Nat → Int → Int → ByteArray → Int → Int → Int → List (S45) → Option (Bool)
 | 0, _, _, _, _, _, _, _ => none
 | k + 1, x5, x6, x157000, x157001, x157002, x157003, x157004 => if x6 < (x157004.length : Int) then (if 0 ≤ x6 then (crucibleref14_Func.l0 k (wrap64 (x5 + (((rd_T45 x157004 x6).f0).length : Int))) (wrap64 (x6 + 1)) x157000 x157001 x157002 x157003 x157004) else (none)) else (if x5 > 65536 then (some false) else ((crucibleref14_Preds.f k x157000 x157001 x157002 x157003 x157004).bind fun t158 => (if 0 < (t158.length : Int) then (if ((rd_L1 t158 0).length : Int) > 0 then (some false) else (crucibleref14_Func.l1 k 0 x157000 x157001 x157002 x157003 x157004)) else (none))))
def crucibleref14_Func.l1 : Nat → Int → ByteArray → Int → Int → Int → List (S45) → Option (Bool)
 | 0, _, _, _, _, _, _ => none
 | k + 1, x8, x157000, x157001, x157002, x157003, x157004 => if x8 < (x157004.length : Int) then (if 0 ≤ x8 then (crucibleref14_Func.l2 k x8 0 x157000 x157001 x157002 x157003 x157004 ((rd_T45 x157004 x8).f0) ((rd_T45 x157004 x8).f1) ((rd_T45 x157004 x8).f2) ((rd_T45 x157004 x8).f3)) else (none)) else (some true)
def crucibleref14_Func.l2 : Nat → Int → Int → ByteArray → Int → Int → Int → List (S45) → List (S59) → Int → Int → List Int → Option (Bool)
 | 0, _, _, _, _, _, _, _, _, _, _, _ => none
 | k + 1, x8, x11, x157000, x157001, x157002, x157003, x157004, x164000, x164001, x164002, x164003 => if x11 < (x164000.length : Int) then (none) else ((crucibleref14_ends.f k x157000 x157001 x157002 x157003 x157004 x164000 x164001 x164002 x164003).bind fun t164 => (if t164 = true then (crucibleref14_Func.l1 k (wrap64 (x8 + 1)) x157000 x157001 x157002 x157003 x157004) else (some false)))
end
def crucibleref14_Func.f (k : Nat) (l0_0 : List (S24)) (a0_1 : Int) (l0_2 : List (S85)) (a0_3 : Int) (a1_0 : ByteArray) (a1_1 : Int) (a1_2 : Int) (a1_3 : Int) (l1_4 : List (S45)) : Option (Bool) := if (l1_4.length : Int) < 1 then (crucibleref14_Func.j0 k true a1_0 a1_1 a1_2 a1_3 l1_4) else (if (l1_4.length : Int) > 4096 then (crucibleref14_Func.j0 k true a1_0 a1_1 a1_2 a1_3 l1_4) else (if a1_1 < 0 then (crucibleref14_Func.j0 k true a1_0 a1_1 a1_2 a1_3 l1_4) else (if a1_1 > 12 then (crucibleref14_Func.j0 k true a1_0 a1_1 a1_2 a1_3 l1_4) else (if a1_2 < a1_1 then (crucibleref14_Func.j0 k true a1_0 a1_1 a1_2 a1_3 l1_4) else (if a1_2 > 65536 then (crucibleref14_Func.j0 k true a1_0 a1_1 a1_2 a1_3 l1_4) else (if a1_3 < 0 then (crucibleref14_Func.j0 k true a1_0 a1_1 a1_2 a1_3 l1_4) else (if a1_3 > 65536 then (crucibleref14_Func.j0 k true a1_0 a1_1 a1_2 a1_3 l1_4) else (crucibleref14_Func.j0 k ((Int.tmod a1_3 4) != 0) a1_0 a1_1 a1_2 a1_3 l1_4))))))))
theorem crucibleref14_Func.mono_l : ∀ k, (∀ y0 y1 y2 y3 y4 y5, LeO (crucibleref14_Func.j0 k y0 y1 y2 y3 y4 y5) (crucibleref14_Func.j0 (k + 1) y0 y1 y2 y3 y4 y5)) ∧ (∀ y0 y1 y2 y3 y4 y5 y6, LeO (crucibleref14_Func.l0 k y0 y1 y2 y3 y4 y5 y6) (crucibleref14_Func.l0 (k + 1) y0 y1 y2 y3 y4 y5 y6)) ∧ (∀ y0 y1 y2 y3 y4 y5, LeO (crucibleref14_Func.l1 k y0 y1 y2 y3 y4 y5) (crucibleref14_Func.l1 (k + 1) y0 y1 y2 y3 y4 y5)) ∧ (∀ y0 y1 y2 y3 y4 y5 y6 y7 y8 y9 y10, LeO (crucibleref14_Func.l2 k y0 y1 y2 y3 y4 y5 y6 y7 y8 y9 y10) (crucibleref14_Func.l2 (k + 1) y0 y1 y2 y3 y4 y5 y6 y7 y8 y9 y10))
 | 0 => ⟨fun _ _ _ _ _ _ r h => by simp [crucibleref14_Func.j0] at h, fun _ _ _ _ _ _ _ r h => by simp [crucibleref14_Func.l0] at h, fun _ _ _ _ _ _ r h => by simp [crucibleref14_Func.l1] at h, fun _ _ _ _ _ _ _ _ _ _ _ r h => by simp [crucibleref14_Func.l2] at h⟩
 | k + 1 => by
  obtain ⟨ih0, ih1, ih2, ih3⟩ := crucibleref14_Func.mono_l k
  refine ⟨?_, ?_, ?_, ?_⟩
  · intro y0 y1 y2 y3 y4 y5
    unfold crucibleref14_Func.j0
    repeat' first
    | (with_reducible exact ih0 _ _ _ _ _ _)
    | (with_reducible exact ih1 _ _ _ _ _ _ _)
    | (with_reducible exact ih2 _ _ _ _ _ _)
    | (with_reducible exact ih3 _ _ _ _ _ _ _ _ _ _ _)
    | (with_reducible exact crucibleref14_Preds.mono _ _ _ _ _ _)
    | (with_reducible exact crucibleref14_ends.mono _ _ _ _ _ _ _ _ _ _)
    | (with_reducible exact LeO.refl _)
    | (with_reducible exact LeO.none _)
    | (with_reducible refine LeO.ite ?_ ?_)
    | (with_reducible refine LeO.bind ?_ (fun _ => ?_))
    | exact ih0 _ _ _ _ _ _
    | exact ih1 _ _ _ _ _ _ _
    | exact ih2 _ _ _ _ _ _
    | exact ih3 _ _ _ _ _ _ _ _ _ _ _
    | exact crucibleref14_Preds.mono _ _ _ _ _ _
    | exact crucibleref14_ends.mono _ _ _ _ _ _ _ _ _ _
    | exact LeO.none _
    | refine LeO.ite ?_ ?_
    | refine LeO.bind ?_ (fun _ => ?_)
  · intro y0 y1 y2 y3 y4 y5 y6
    unfold crucibleref14_Func.l0
    repeat' first
    | (with_reducible exact ih0 _ _ _ _ _ _)
    | (with_reducible exact ih1 _ _ _ _ _ _ _)
    | (with_reducible exact ih2 _ _ _ _ _ _)
    | (with_reducible exact ih3 _ _ _ _ _ _ _ _ _ _ _)
    | (with_reducible exact crucibleref14_Preds.mono _ _ _ _ _ _)
    | (with_reducible exact crucibleref14_ends.mono _ _ _ _ _ _ _ _ _ _)
    | (with_reducible exact LeO.refl _)
    | (with_reducible exact LeO.none _)
    | (with_reducible refine LeO.ite ?_ ?_)
    | (with_reducible refine LeO.bind ?_ (fun _ => ?_))
    | exact ih0 _ _ _ _ _ _
    | exact ih1 _ _ _ _ _ _ _
    | exact ih2 _ _ _ _ _ _
    | exact ih3 _ _ _ _ _ _ _ _ _ _ _
    | exact crucibleref14_Preds.mono _ _ _ _ _ _
    | exact crucibleref14_ends.mono _ _ _ _ _ _ _ _ _ _
    | exact LeO.none _
    | refine LeO.ite ?_ ?_
    | refine LeO.bind ?_ (fun _ => ?_)
  · intro y0 y1 y2 y3 y4 y5
    unfold crucibleref14_Func.l1
    repeat' first
    | (with_reducible exact ih0 _ _ _ _ _ _)
    | (with_reducible exact ih1 _ _ _ _ _ _ _)
    | (with_reducible exact ih2 _ _ _ _ _ _)
    | (with_reducible exact ih3 _ _ _ _ _ _ _ _ _ _ _)
    | (with_reducible exact crucibleref14_Preds.mono _ _ _ _ _ _)
    | (with_reducible exact crucibleref14_ends.mono _ _ _ _ _ _ _ _ _ _)
    | (with_reducible exact LeO.refl _)
    | (with_reducible exact LeO.none _)
    | (with_reducible refine LeO.ite ?_ ?_)
    | (with_reducible refine LeO.bind ?_ (fun _ => ?_))
    | exact ih0 _ _ _ _ _ _
    | exact ih1 _ _ _ _ _ _ _
    | exact ih2 _ _ _ _ _ _
    | exact ih3 _ _ _ _ _ _ _ _ _ _ _
    | exact crucibleref14_Preds.mono _ _ _ _ _ _
    | exact crucibleref14_ends.mono _ _ _ _ _ _ _ _ _ _
    | exact LeO.none _
    | refine LeO.ite ?_ ?_
    | refine LeO.bind ?_ (fun _ => ?_)
  · intro y0 y1 y2 y3 y4 y5 y6 y7 y8 y9 y10
    unfold crucibleref14_Func.l2
    repeat' first
    | (with_reducible exact ih0 _ _ _ _ _ _)
    | (with_reducible exact ih1 _ _ _ _ _ _ _)
    | (with_reducible exact ih2 _ _ _ _ _ _)
    | (with_reducible exact ih3 _ _ _ _ _ _ _ _ _ _ _)
    | (with_reducible exact crucibleref14_Preds.mono _ _ _ _ _ _)
    | (with_reducible exact crucibleref14_ends.mono _ _ _ _ _ _ _ _ _ _)
    | (with_reducible exact LeO.refl _)
    | (with_reducible exact LeO.none _)
    | (with_reducible refine LeO.ite ?_ ?_)
    | (with_reducible refine LeO.bind ?_ (fun _ => ?_))
    | exact ih0 _ _ _ _ _ _
    | exact ih1 _ _ _ _ _ _ _
    | exact ih2 _ _ _ _ _ _
    | exact ih3 _ _ _ _ _ _ _ _ _ _ _
    | exact crucibleref14_Preds.mono _ _ _ _ _ _
    | exact crucibleref14_ends.mono _ _ _ _ _ _ _ _ _ _
    | exact LeO.none _
    | refine LeO.ite ?_ ?_
    | refine LeO.bind ?_ (fun _ => ?_)
theorem crucibleref14_Func.mono : ∀ a0 a1 a2 a3 a4 a5 a6 a7 a8 k, LeO (crucibleref14_Func.f k a0 a1 a2 a3 a4 a5 a6 a7 a8) (crucibleref14_Func.f (k + 1) a0 a1 a2 a3 a4 a5 a6 a7 a8) := by
 intro a0 a1 a2 a3 a4 a5 a6 a7 a8 k
 obtain ⟨ih0, ih1, ih2, ih3⟩ := crucibleref14_Func.mono_l k
 unfold crucibleref14_Func.f
 repeat' first
  | (with_reducible exact ih0 _ _ _ _ _ _)
  | (with_reducible exact ih1 _ _ _ _ _ _ _)
  | (with_reducible exact ih2 _ _ _ _ _ _)
  | (with_reducible exact ih3 _ _ _ _ _ _ _ _ _ _ _)
  | (with_reducible exact crucibleref14_Preds.mono _ _ _ _ _ _)
  | (with_reducible exact crucibleref14_ends.mono _ _ _ _ _ _ _ _ _ _)
  | (with_reducible exact LeO.refl _)
  | (with_reducible exact LeO.none _)
  | (with_reducible refine LeO.ite ?_ ?_)
  | (with_reducible refine LeO.bind ?_ (fun _ => ?_))
  | exact ih0 _ _ _ _ _ _
  | exact ih1 _ _ _ _ _ _ _
  | exact ih2 _ _ _ _ _ _
  | exact ih3 _ _ _ _ _ _ _ _ _ _ _
  | exact crucibleref14_Preds.mono _ _ _ _ _ _
  | exact crucibleref14_ends.mono _ _ _ _ _ _ _ _ _ _
  | exact LeO.none _
  | refine LeO.ite ?_ ?_
  | refine LeO.bind ?_ (fun _ => ?_)
set_option maxHeartbeats 8000000 in
set_option maxRecDepth 100000 in
theorem crucibleref14_Func.calls (k : Nat) (A0_0 : Option Addr) (c0_0 : Nat) (l0_0 : List (S24)) (a0_1 : Int) (A0_2 : Option Addr) (c0_2 : Nat) (l0_2 : List (S85)) (a0_3 : Int) (a1_0 : ByteArray) (a1_1 : Int) (a1_2 : Int) (a1_3 : Int) (A1_4 : Option Addr) (c1_4 : Nat) (l1_4 : List (S45)) (r : Bool) (w : World) (hr0_0 : Kd.C k24 w A0_0 l0_0.length l0_0) (hc0_0 : l0_0.length ≤ c0_0) (hr0_2 : Kd.C k85 w A0_2 l0_2.length l0_2) (hc0_2 : l0_2.length ≤ c0_2) (hr1_4 : Kd.C k45 w A1_4 l1_4.length l1_4) (hc1_4 : l1_4.length ≤ c1_4) (h : crucibleref14_Func.f k l0_0 a0_1 l0_2 a0_3 a1_0 a1_1 a1_2 a1_3 l1_4 = some r) :
 Calls Try.prog 25 #[.agg #[.slice A0_0 l0_0.length c0_0, .int .i64 a0_1, .slice A0_2 l0_2.length c0_2, .int .i64 a0_3], .agg #[.string a1_0, .int .i64 a1_1, .int .i64 a1_2, .int .i64 a1_3, .slice A1_4 l1_4.length c1_4]] w fun e w' => e = .returned (.bool r) ∧ Below w.heap.size w w' := by
 have hu50 := Try.underlying50
 have hu24 := Try.underlying24
 have hu45 := Try.underlying45
 have HR0_0 := Aside0.mk hr0_0
 have HC0_0 := Aside0.mk hc0_0
 clear hr0_0 hc0_0
 have HR0_2 := Aside0.mk hr0_2
 have HC0_2 := Aside0.mk hc0_2
 clear hr0_2 hc0_2
 have HR1_4 := Aside0.mk hr1_4
 have HC1_4 := Aside0.mk hc1_4
 clear hr1_4 hc1_4
 have HB := Aside0.mk (Below.refl w.heap.size w)
 have H : (if (l1_4.length : Int) < 1 then (crucibleref14_Func.j0 k true a1_0 a1_1 a1_2 a1_3 l1_4) else (if (l1_4.length : Int) > 4096 then (crucibleref14_Func.j0 k true a1_0 a1_1 a1_2 a1_3 l1_4) else (if a1_1 < 0 then (crucibleref14_Func.j0 k true a1_0 a1_1 a1_2 a1_3 l1_4) else (if a1_1 > 12 then (crucibleref14_Func.j0 k true a1_0 a1_1 a1_2 a1_3 l1_4) else (if a1_2 < a1_1 then (crucibleref14_Func.j0 k true a1_0 a1_1 a1_2 a1_3 l1_4) else (if a1_2 > 65536 then (crucibleref14_Func.j0 k true a1_0 a1_1 a1_2 a1_3 l1_4) else (if a1_3 < 0 then (crucibleref14_Func.j0 k true a1_0 a1_1 a1_2 a1_3 l1_4) else (if a1_3 > 65536 then (crucibleref14_Func.j0 k true a1_0 a1_1 a1_2 a1_3 l1_4) else (crucibleref14_Func.j0 k ((Int.tmod a1_3 4) != 0) a1_0 a1_1 a1_2 a1_3 l1_4))))))))) = some r := h
 clear h
 have HC3 := Aside0.mk H
 clear H
 go_enter Try.func25, Try.ntmps25
 go_upto_region 1 with (first | ((with_reducible refine Z52 (N := 2) rfl ?_); (try (refine Z66 (by rfl) ?_; dsimp only)); refine Z51 ?hg (N := 2) ?hd (cs := #[.slice A0_0 l0_0.length c0_0, .int .i64 a0_1, .slice A0_2 l0_2.length c0_2, .int .i64 a0_3]) (t := 50) ?hr ?_; (case hd => rfl); (case hg => rfl); (case hr => first | (go_simp; done) | (go_simp; rfl)); intro gb155 hg w4 hbox hb; have n0_ := Aside0.mk (Z25 (by repeat (first | (with_reducible first | exact HB.out | apply Z7 | apply Z4 | apply Z6) | exact HB.out)) hb); have n1_ := Aside0.mk (hbox); have n2_ := Aside0.mk ((by rw [hg]; exact (Z27 (by repeat (first | (with_reducible first | exact HB.out | apply Z7 | apply Z4 | apply Z6) | exact HB.out))) : w.heap.size ≤ gb155)); have n3_ := Aside0.mk ((by rw [hg]; exact (Z27 (by repeat (first | (with_reducible first | exact HB.out | apply Z7 | apply Z4 | apply Z6) | exact HB.out))) : w.heap.size ≤ gb155)); clear HB; have HB := n0_; have BK155 := n1_; have GW155 := n2_; have GE155 := n3_; clear n0_ n1_ n2_ n3_; clear hb hbox hg) | ((with_reducible refine Z52 (N := 3) rfl ?_); (try (refine Z66 (by rfl) ?_; dsimp only)); refine Z51 ?hg (N := 3) ?hd (cs := #[.string a1_0, .int .i64 a1_1, .int .i64 a1_2, .int .i64 a1_3, .slice A1_4 l1_4.length c1_4]) (t := 24) ?hr ?_; (case hd => rfl); (case hg => rfl); (case hr => first | (go_simp; done) | (go_simp; rfl)); intro gb156 hg w5 hbox hb; have n0_ := Aside0.mk (Z40 (g := gb155) (o := .cells #[.slice A0_0 l0_0.length c0_0, .int .i64 a0_1, .slice A0_2 l0_2.length c0_2, .int .i64 a0_3] 50 (0, 0)) (by (with_reducible repeat (first | refine Z0 ?_ _ | refine Z3 ?_ | refine Z1 ?_ _)); exact BK155.out) hb); have n1_ := Aside0.mk (Z25 (by repeat (first | (with_reducible first | exact HB.out | apply Z7 | apply Z4 | apply Z6 | refine Z8 ?_ GE155.out) | exact HB.out)) hb); have n2_ := Aside0.mk (hbox); have n3_ := Aside0.mk ((by rw [hg]; exact (Z27 (by repeat (first | (with_reducible first | exact HB.out | apply Z7 | apply Z4 | apply Z6 | refine Z8 ?_ GE155.out) | exact HB.out))) : w.heap.size ≤ gb156)); have n4_ := Aside0.mk ((by rw [hg]; exact (Z27 (by repeat (first | (with_reducible first | exact HB.out | apply Z7 | apply Z4 | apply Z6 | refine Z8 ?_ GE155.out) | exact HB.out))) : w.heap.size ≤ gb156)); have n5_ := Aside0.mk ((by rw [hg]; exact Nat.ne_of_lt (blk_lt (g := gb155) (o := .cells #[.slice A0_0 l0_0.length c0_0, .int .i64 a0_1, .slice A0_2 l0_2.length c0_2, .int .i64 a0_3] 50 (0, 0)) (by (with_reducible repeat (first | refine Z0 ?_ _ | refine Z3 ?_ | refine Z1 ?_ _)); exact BK155.out)) : gb155 ≠ gb156)); have n6_ := Aside0.mk ((by rw [hg]; exact Nat.ne_of_gt (blk_lt (g := gb155) (o := .cells #[.slice A0_0 l0_0.length c0_0, .int .i64 a0_1, .slice A0_2 l0_2.length c0_2, .int .i64 a0_3] 50 (0, 0)) (by (with_reducible repeat (first | refine Z0 ?_ _ | refine Z3 ?_ | refine Z1 ?_ _)); exact BK155.out)) : gb156 ≠ gb155)); clear BK155; clear HB; have BK155 := n0_; have HB := n1_; have BK156 := n2_; have GW156 := n3_; have GE156 := n4_; have NB155_156 := n5_; have NB156_155 := n6_; clear n0_ n1_ n2_ n3_ n4_ n5_ n6_; clear hb hbox hg))
 (try simp only [Act.put, List.setIfInBounds_toArray, List.set_cons_zero, List.set_cons_succ])
 go_cut [60] (fun v60 wc => ∃ (kq : Nat) (x60_2 : Bool), v60 = .bool x60_2 ∧ Aside0 (crucibleref14_Func.j0 kq x60_2 a1_0 a1_1 a1_2 a1_3 l1_4 = some r) ∧ Aside0 (kq ≤ k) ∧ Aside0 (wc.heap[gb155]? = some (.cells #[(.slice A0_0 l0_0.length c0_0), .int .i64 a0_1, (.slice A0_2 l0_2.length c0_2), .int .i64 a0_3] 50 (0, 0))) ∧ Aside0 (wc.heap[gb156]? = some (.cells #[.string a1_0, .int .i64 a1_1, .int .i64 a1_2, .int .i64 a1_3, (.slice A1_4 l1_4.length c1_4)] 24 (0, 0))) ∧ Aside0 (Below w.heap.size w wc))
 case first =>
  have H := HC3.out
  clear HC3
  by_cases c6 : (l1_4.length : Int) < 1
  · rw [if_pos c6] at H
    have c6b0 : decide ((l1_4.length : Int) < 1) = true := decide_eq_true c6
    have c6b1 : decide (l1_4.length < 1) = true := decide_eq_true (by omega)
    clear c6
    (first | rw [c6b0] | (simp only [i64_w, i32_w]; rw [c6b0]) | skip)
    have H' := Aside0.mk H
    clear H
    have hnb7 := NB156_155.out
    have hnc7 := NB155_156.out
    have hcz8_0 : w5.cell? ⟨gb156, 0, none⟩ = some (.string a1_0) := (Z5 BK156.out 0).trans rfl
    have hcz8_1 : w5.cell? ⟨gb156, 1, none⟩ = some (.int .i64 a1_1) := (Z5 BK156.out 1).trans rfl
    have hcz8_2 : w5.cell? ⟨gb156, 2, none⟩ = some (.int .i64 a1_2) := (Z5 BK156.out 2).trans rfl
    have hcz8_3 : w5.cell? ⟨gb156, 3, none⟩ = some (.int .i64 a1_3) := (Z5 BK156.out 3).trans rfl
    have hcz8_4 : w5.cell? ⟨gb156, 4, none⟩ = some (.slice A1_4 l1_4.length c1_4) := (Z5 BK156.out 4).trans rfl
    have hfz8_0 := Z2 BK156.out 0
    have hfz8_1 := Z2 BK156.out 1
    have hfz8_2 := Z2 BK156.out 2
    have hfz8_3 := Z2 BK156.out 3
    have hfz8_4 := Z2 BK156.out 4
    go_wp2
    go_meet
    case rel => exact ⟨_, (true), (by first | rfl | (simp; done) | (simp [*]; done)), H', ⟨by first | omega | exact Nat.le_refl _⟩, ⟨by (with_reducible repeat (first | refine Z0 ?_ _ | refine Z3 ?_ | refine Z1 ?_ _)); exact BK155.out⟩, ⟨by (with_reducible repeat (first | refine Z0 ?_ _ | refine Z3 ?_ | refine Z1 ?_ _)); exact BK156.out⟩, ⟨by repeat (first | (with_reducible first | exact HB.out | apply Z7 | apply Z4 | apply Z6 | refine Z8 ?_ GE155.out | refine Z8 ?_ GE156.out) | exact HB.out)⟩⟩
  · rw [if_neg c6] at H
    have c6b0 : decide ((l1_4.length : Int) < 1) = false := decide_eq_false c6
    have c6b1 : decide (l1_4.length < 1) = false := decide_eq_false (by omega)
    clear c6
    (first | rw [c6b0] | (simp only [i64_w, i32_w]; rw [c6b0]) | skip)
    by_cases c9 : (l1_4.length : Int) > 4096
    · rw [if_pos c9] at H
      have c9b0 : decide (4096 < (l1_4.length : Int)) = true := decide_eq_true c9
      have c9b1 : decide (4096 < l1_4.length) = true := decide_eq_true (by omega)
      clear c9
      have H' := Aside0.mk H
      clear H
      have hnb10 := NB156_155.out
      have hnc10 := NB155_156.out
      have hcz11_0 : w5.cell? ⟨gb156, 0, none⟩ = some (.string a1_0) := (Z5 BK156.out 0).trans rfl
      have hcz11_1 : w5.cell? ⟨gb156, 1, none⟩ = some (.int .i64 a1_1) := (Z5 BK156.out 1).trans rfl
      have hcz11_2 : w5.cell? ⟨gb156, 2, none⟩ = some (.int .i64 a1_2) := (Z5 BK156.out 2).trans rfl
      have hcz11_3 : w5.cell? ⟨gb156, 3, none⟩ = some (.int .i64 a1_3) := (Z5 BK156.out 3).trans rfl
      have hcz11_4 : w5.cell? ⟨gb156, 4, none⟩ = some (.slice A1_4 l1_4.length c1_4) := (Z5 BK156.out 4).trans rfl
      have hfz11_0 := Z2 BK156.out 0
      have hfz11_1 := Z2 BK156.out 1
      have hfz11_2 := Z2 BK156.out 2
      have hfz11_3 := Z2 BK156.out 3
      have hfz11_4 := Z2 BK156.out 4
      go_wp2
      go_meet
      case rel => exact ⟨_, (true), (by first | rfl | (simp; done) | (simp [*]; done)), H', ⟨by first | omega | exact Nat.le_refl _⟩, ⟨by (with_reducible repeat (first | refine Z0 ?_ _ | refine Z3 ?_ | refine Z1 ?_ _)); exact BK155.out⟩, ⟨by (with_reducible repeat (first | refine Z0 ?_ _ | refine Z3 ?_ | refine Z1 ?_ _)); exact BK156.out⟩, ⟨by repeat (first | (with_reducible first | exact HB.out | apply Z7 | apply Z4 | apply Z6 | refine Z8 ?_ GE155.out | refine Z8 ?_ GE156.out) | exact HB.out)⟩⟩
    · rw [if_neg c9] at H
      have c9b0 : decide (4096 < (l1_4.length : Int)) = false := decide_eq_false c9
      have c9b1 : decide (4096 < l1_4.length) = false := decide_eq_false (by omega)
      clear c9
      by_cases c12 : a1_1 < 0
      · rw [if_pos c12] at H
        have c12b0 : decide (a1_1 < 0) = true := decide_eq_true c12
        clear c12
        have H' := Aside0.mk H
        clear H
        have hnb13 := NB156_155.out
        have hnc13 := NB155_156.out
        have hcz14_0 : w5.cell? ⟨gb156, 0, none⟩ = some (.string a1_0) := (Z5 BK156.out 0).trans rfl
        have hcz14_1 : w5.cell? ⟨gb156, 1, none⟩ = some (.int .i64 a1_1) := (Z5 BK156.out 1).trans rfl
        have hcz14_2 : w5.cell? ⟨gb156, 2, none⟩ = some (.int .i64 a1_2) := (Z5 BK156.out 2).trans rfl
        have hcz14_3 : w5.cell? ⟨gb156, 3, none⟩ = some (.int .i64 a1_3) := (Z5 BK156.out 3).trans rfl
        have hcz14_4 : w5.cell? ⟨gb156, 4, none⟩ = some (.slice A1_4 l1_4.length c1_4) := (Z5 BK156.out 4).trans rfl
        have hfz14_0 := Z2 BK156.out 0
        have hfz14_1 := Z2 BK156.out 1
        have hfz14_2 := Z2 BK156.out 2
        have hfz14_3 := Z2 BK156.out 3
        have hfz14_4 := Z2 BK156.out 4
        go_wp2
        go_meet
        case rel => exact ⟨_, (true), (by first | rfl | (simp; done) | (simp [*]; done)), H', ⟨by first | omega | exact Nat.le_refl _⟩, ⟨by (with_reducible repeat (first | refine Z0 ?_ _ | refine Z3 ?_ | refine Z1 ?_ _)); exact BK155.out⟩, ⟨by (with_reducible repeat (first | refine Z0 ?_ _ | refine Z3 ?_ | refine Z1 ?_ _)); exact BK156.out⟩, ⟨by repeat (first | (with_reducible first | exact HB.out | apply Z7 | apply Z4 | apply Z6 | refine Z8 ?_ GE155.out | refine Z8 ?_ GE156.out) | exact HB.out)⟩⟩
      · rw [if_neg c12] at H
        have c12b0 : decide (a1_1 < 0) = false := decide_eq_false c12
        clear c12
        by_cases c15 : a1_1 > 12
        · rw [if_pos c15] at H
          have c15b0 : decide (12 < a1_1) = true := decide_eq_true c15
          clear c15
          have H' := Aside0.mk H
          clear H
          have hnb16 := NB156_155.out
          have hnc16 := NB155_156.out
          have hcz17_0 : w5.cell? ⟨gb156, 0, none⟩ = some (.string a1_0) := (Z5 BK156.out 0).trans rfl
          have hcz17_1 : w5.cell? ⟨gb156, 1, none⟩ = some (.int .i64 a1_1) := (Z5 BK156.out 1).trans rfl
          have hcz17_2 : w5.cell? ⟨gb156, 2, none⟩ = some (.int .i64 a1_2) := (Z5 BK156.out 2).trans rfl
          have hcz17_3 : w5.cell? ⟨gb156, 3, none⟩ = some (.int .i64 a1_3) := (Z5 BK156.out 3).trans rfl
          have hcz17_4 : w5.cell? ⟨gb156, 4, none⟩ = some (.slice A1_4 l1_4.length c1_4) := (Z5 BK156.out 4).trans rfl
          have hfz17_0 := Z2 BK156.out 0
          have hfz17_1 := Z2 BK156.out 1
          have hfz17_2 := Z2 BK156.out 2
          have hfz17_3 := Z2 BK156.out 3
          have hfz17_4 := Z2 BK156.out 4
          go_wp2
          go_meet
          case rel => exact ⟨_, (true), (by first | rfl | (simp; done) | (simp [*]; done)), H', ⟨by first | omega | exact Nat.le_refl _⟩, ⟨by (with_reducible repeat (first | refine Z0 ?_ _ | refine Z3 ?_ | refine Z1 ?_ _)); exact BK155.out⟩, ⟨by (with_reducible repeat (first | refine Z0 ?_ _ | refine Z3 ?_ | refine Z1 ?_ _)); exact BK156.out⟩, ⟨by repeat (first | (with_reducible first | exact HB.out | apply Z7 | apply Z4 | apply Z6 | refine Z8 ?_ GE155.out | refine Z8 ?_ GE156.out) | exact HB.out)⟩⟩
        · rw [if_neg c15] at H
          have c15b0 : decide (12 < a1_1) = false := decide_eq_false c15
          clear c15
          by_cases c18 : a1_2 < a1_1
          · rw [if_pos c18] at H
            have c18b0 : decide (a1_2 < a1_1) = true := decide_eq_true c18
            clear c18
            have H' := Aside0.mk H
            clear H
            have hnb19 := NB156_155.out
            have hnc19 := NB155_156.out
            have hcz20_0 : w5.cell? ⟨gb156, 0, none⟩ = some (.string a1_0) := (Z5 BK156.out 0).trans rfl
            have hcz20_1 : w5.cell? ⟨gb156, 1, none⟩ = some (.int .i64 a1_1) := (Z5 BK156.out 1).trans rfl
            have hcz20_2 : w5.cell? ⟨gb156, 2, none⟩ = some (.int .i64 a1_2) := (Z5 BK156.out 2).trans rfl
            have hcz20_3 : w5.cell? ⟨gb156, 3, none⟩ = some (.int .i64 a1_3) := (Z5 BK156.out 3).trans rfl
            have hcz20_4 : w5.cell? ⟨gb156, 4, none⟩ = some (.slice A1_4 l1_4.length c1_4) := (Z5 BK156.out 4).trans rfl
            have hfz20_0 := Z2 BK156.out 0
            have hfz20_1 := Z2 BK156.out 1
            have hfz20_2 := Z2 BK156.out 2
            have hfz20_3 := Z2 BK156.out 3
            have hfz20_4 := Z2 BK156.out 4
            go_wp2
            go_meet
            case rel => exact ⟨_, (true), (by first | rfl | (simp; done) | (simp [*]; done)), H', ⟨by first | omega | exact Nat.le_refl _⟩, ⟨by (with_reducible repeat (first | refine Z0 ?_ _ | refine Z3 ?_ | refine Z1 ?_ _)); exact BK155.out⟩, ⟨by (with_reducible repeat (first | refine Z0 ?_ _ | refine Z3 ?_ | refine Z1 ?_ _)); exact BK156.out⟩, ⟨by repeat (first | (with_reducible first | exact HB.out | apply Z7 | apply Z4 | apply Z6 | refine Z8 ?_ GE155.out | refine Z8 ?_ GE156.out) | exact HB.out)⟩⟩
          · rw [if_neg c18] at H
            have c18b0 : decide (a1_2 < a1_1) = false := decide_eq_false c18
            clear c18
            by_cases c21 : a1_2 > 65536
            · rw [if_pos c21] at H
              have c21b0 : decide (65536 < a1_2) = true := decide_eq_true c21
              clear c21
              have H' := Aside0.mk H
              clear H
              have hnb22 := NB156_155.out
              have hnc22 := NB155_156.out
              have hcz23_0 : w5.cell? ⟨gb156, 0, none⟩ = some (.string a1_0) := (Z5 BK156.out 0).trans rfl
              have hcz23_1 : w5.cell? ⟨gb156, 1, none⟩ = some (.int .i64 a1_1) := (Z5 BK156.out 1).trans rfl
              have hcz23_2 : w5.cell? ⟨gb156, 2, none⟩ = some (.int .i64 a1_2) := (Z5 BK156.out 2).trans rfl
              have hcz23_3 : w5.cell? ⟨gb156, 3, none⟩ = some (.int .i64 a1_3) := (Z5 BK156.out 3).trans rfl
              have hcz23_4 : w5.cell? ⟨gb156, 4, none⟩ = some (.slice A1_4 l1_4.length c1_4) := (Z5 BK156.out 4).trans rfl
              have hfz23_0 := Z2 BK156.out 0
              have hfz23_1 := Z2 BK156.out 1
              have hfz23_2 := Z2 BK156.out 2
              have hfz23_3 := Z2 BK156.out 3
              have hfz23_4 := Z2 BK156.out 4
              go_wp2
              go_meet
              case rel => exact ⟨_, (true), (by first | rfl | (simp; done) | (simp [*]; done)), H', ⟨by first | omega | exact Nat.le_refl _⟩, ⟨by (with_reducible repeat (first | refine Z0 ?_ _ | refine Z3 ?_ | refine Z1 ?_ _)); exact BK155.out⟩, ⟨by (with_reducible repeat (first | refine Z0 ?_ _ | refine Z3 ?_ | refine Z1 ?_ _)); exact BK156.out⟩, ⟨by repeat (first | (with_reducible first | exact HB.out | apply Z7 | apply Z4 | apply Z6 | refine Z8 ?_ GE155.out | refine Z8 ?_ GE156.out) | exact HB.out)⟩⟩
            · rw [if_neg c21] at H
              have c21b0 : decide (65536 < a1_2) = false := decide_eq_false c21
              clear c21
              by_cases c24 : a1_3 < 0
              · rw [if_pos c24] at H
                have c24b0 : decide (a1_3 < 0) = true := decide_eq_true c24
                clear c24
                have H' := Aside0.mk H
                clear H
                have hnb25 := NB156_155.out
                have hnc25 := NB155_156.out
                have hcz26_0 : w5.cell? ⟨gb156, 0, none⟩ = some (.string a1_0) := (Z5 BK156.out 0).trans rfl
                have hcz26_1 : w5.cell? ⟨gb156, 1, none⟩ = some (.int .i64 a1_1) := (Z5 BK156.out 1).trans rfl
                have hcz26_2 : w5.cell? ⟨gb156, 2, none⟩ = some (.int .i64 a1_2) := (Z5 BK156.out 2).trans rfl
                have hcz26_3 : w5.cell? ⟨gb156, 3, none⟩ = some (.int .i64 a1_3) := (Z5 BK156.out 3).trans rfl
                have hcz26_4 : w5.cell? ⟨gb156, 4, none⟩ = some (.slice A1_4 l1_4.length c1_4) := (Z5 BK156.out 4).trans rfl
                have hfz26_0 := Z2 BK156.out 0
                have hfz26_1 := Z2 BK156.out 1
                have hfz26_2 := Z2 BK156.out 2
                have hfz26_3 := Z2 BK156.out 3
                have hfz26_4 := Z2 BK156.out 4
                go_wp2
                go_meet
                case rel => exact ⟨_, (true), (by first | rfl | (simp; done) | (simp [*]; done)), H', ⟨by first | omega | exact Nat.le_refl _⟩, ⟨by (with_reducible repeat (first | refine Z0 ?_ _ | refine Z3 ?_ | refine Z1 ?_ _)); exact BK155.out⟩, ⟨by (with_reducible repeat (first | refine Z0 ?_ _ | refine Z3 ?_ | refine Z1 ?_ _)); exact BK156.out⟩, ⟨by repeat (first | (with_reducible first | exact HB.out | apply Z7 | apply Z4 | apply Z6 | refine Z8 ?_ GE155.out | refine Z8 ?_ GE156.out) | exact HB.out)⟩⟩
              · rw [if_neg c24] at H
                have c24b0 : decide (a1_3 < 0) = false := decide_eq_false c24
                clear c24
                by_cases c27 : a1_3 > 65536
                · rw [if_pos c27] at H
                  have c27b0 : decide (65536 < a1_3) = true := decide_eq_true c27
                  clear c27
                  have H' := Aside0.mk H
                  clear H
                  have hnb28 := NB156_155.out
                  have hnc28 := NB155_156.out
                  have hcz29_0 : w5.cell? ⟨gb156, 0, none⟩ = some (.string a1_0) := (Z5 BK156.out 0).trans rfl
                  have hcz29_1 : w5.cell? ⟨gb156, 1, none⟩ = some (.int .i64 a1_1) := (Z5 BK156.out 1).trans rfl
                  have hcz29_2 : w5.cell? ⟨gb156, 2, none⟩ = some (.int .i64 a1_2) := (Z5 BK156.out 2).trans rfl
                  have hcz29_3 : w5.cell? ⟨gb156, 3, none⟩ = some (.int .i64 a1_3) := (Z5 BK156.out 3).trans rfl
                  have hcz29_4 : w5.cell? ⟨gb156, 4, none⟩ = some (.slice A1_4 l1_4.length c1_4) := (Z5 BK156.out 4).trans rfl
                  have hfz29_0 := Z2 BK156.out 0
                  have hfz29_1 := Z2 BK156.out 1
                  have hfz29_2 := Z2 BK156.out 2
                  have hfz29_3 := Z2 BK156.out 3
                  have hfz29_4 := Z2 BK156.out 4
                  go_wp2
                  go_meet
                  case rel => exact ⟨_, (true), (by first | rfl | (simp; done) | (simp [*]; done)), H', ⟨by first | omega | exact Nat.le_refl _⟩, ⟨by (with_reducible repeat (first | refine Z0 ?_ _ | refine Z3 ?_ | refine Z1 ?_ _)); exact BK155.out⟩, ⟨by (with_reducible repeat (first | refine Z0 ?_ _ | refine Z3 ?_ | refine Z1 ?_ _)); exact BK156.out⟩, ⟨by repeat (first | (with_reducible first | exact HB.out | apply Z7 | apply Z4 | apply Z6 | refine Z8 ?_ GE155.out | refine Z8 ?_ GE156.out) | exact HB.out)⟩⟩
                · rw [if_neg c27] at H
                  have c27b0 : decide (65536 < a1_3) = false := decide_eq_false c27
                  clear c27
                  have H' := Aside0.mk H
                  clear H
                  have hnb30 := NB156_155.out
                  have hnc30 := NB155_156.out
                  have hcz31_0 : w5.cell? ⟨gb156, 0, none⟩ = some (.string a1_0) := (Z5 BK156.out 0).trans rfl
                  have hcz31_1 : w5.cell? ⟨gb156, 1, none⟩ = some (.int .i64 a1_1) := (Z5 BK156.out 1).trans rfl
                  have hcz31_2 : w5.cell? ⟨gb156, 2, none⟩ = some (.int .i64 a1_2) := (Z5 BK156.out 2).trans rfl
                  have hcz31_3 : w5.cell? ⟨gb156, 3, none⟩ = some (.int .i64 a1_3) := (Z5 BK156.out 3).trans rfl
                  have hcz31_4 : w5.cell? ⟨gb156, 4, none⟩ = some (.slice A1_4 l1_4.length c1_4) := (Z5 BK156.out 4).trans rfl
                  have hfz31_0 := Z2 BK156.out 0
                  have hfz31_1 := Z2 BK156.out 1
                  have hfz31_2 := Z2 BK156.out 2
                  have hfz31_3 := Z2 BK156.out 3
                  have hfz31_4 := Z2 BK156.out 4
                  go_wp2
                  go_meet
                  case rel => exact ⟨_, (((Int.tmod a1_3 4) != 0)), (by first | rfl | (simp; done) | (simp [*]; done)), H', ⟨by first | omega | exact Nat.le_refl _⟩, ⟨by (with_reducible repeat (first | refine Z0 ?_ _ | refine Z3 ?_ | refine Z1 ?_ _)); exact BK155.out⟩, ⟨by (with_reducible repeat (first | refine Z0 ?_ _ | refine Z3 ?_ | refine Z1 ?_ _)); exact BK156.out⟩, ⟨by repeat (first | (with_reducible first | exact HB.out | apply Z7 | apply Z4 | apply Z6 | refine Z8 ?_ GE155.out | refine Z8 ?_ GE156.out) | exact HB.out)⟩⟩
 case rest =>
  clear HC3
  obtain ⟨kq, x60_2, rfl, HA, HJ2, BK155, BK156, HB⟩ := hcut
  cases kq with
  | zero => exact absurd HA.out (by simp [crucibleref14_Func.j0])
  | succ kj2 =>
   have H := HA.out
   clear HA
   simp only [crucibleref14_Func.j0] at H
   by_cases c32 : x60_2 = true
   · subst c32
     have H1 : (some false) = some r := by rw [if_pos rfl] at H; exact H
     clear H
     have H := H1
     clear H1
     obtain rfl := Option.some.inj H
     go_wp2
     go_ret
     exact ⟨by first | rfl | (simp [Z16, Z15] <;> rfl) | (simp [*, Z16, Z15] <;> rfl), by repeat (first | (with_reducible first | exact HB.out | apply Z7 | apply Z4 | apply Z6 | refine Z8 ?_ GE155.out | refine Z8 ?_ GE156.out) | exact HB.out)⟩
   · replace c32 := Bool.eq_false_iff.mpr c32
     subst c32
     have H1 : (crucibleref14_Func.l0 kj2 0 0 a1_0 a1_1 a1_2 a1_3 l1_4) = some r := by rw [if_neg (show ¬ (false = true) by decide)] at H; exact H
     clear H
     have H := H1
     clear H1
     have H' := Aside0.mk H
     clear H
     go_wp2
     go_loopg [5, 6] kj2 (fun kq v5 v6 w' => ∃ (x5_2 : Int) (x6_2 : Int), v5 = .int .i64 x5_2 ∧ v6 = .int .i64 x6_2 ∧ Aside0 (crucibleref14_Func.l0 kq x5_2 x6_2 a1_0 a1_1 a1_2 a1_3 l1_4 = some r) ∧ Aside0 (kq ≤ kj2) ∧ Aside0 (w'.heap[gb155]? = some (.cells #[(.slice A0_0 l0_0.length c0_0), .int .i64 a0_1, (.slice A0_2 l0_2.length c0_2), .int .i64 a0_3] 50 (0, 0))) ∧ Aside0 (w'.heap[gb156]? = some (.cells #[.string a1_0, .int .i64 a1_1, .int .i64 a1_2, .int .i64 a1_3, (.slice A1_4 l1_4.length c1_4)] 24 (0, 0))) ∧ Aside0 (Below w.heap.size w w'))
     case atStart => exact ⟨(0), (0), (by first | rfl | (simp; done) | (simp [*]; done)), (by first | rfl | (simp; done) | (simp [*]; done)), H', ⟨Nat.le_refl _⟩, ⟨by (with_reducible repeat (first | refine Z0 ?_ _ | refine Z3 ?_ | refine Z1 ?_ _)); exact BK155.out⟩, ⟨by (with_reducible repeat (first | refine Z0 ?_ _ | refine Z3 ?_ | refine Z1 ?_ _)); exact BK156.out⟩, ⟨by repeat (first | (with_reducible first | exact HB.out | apply Z7 | apply Z4 | apply Z6 | refine Z8 ?_ GE155.out | refine Z8 ?_ GE156.out) | exact HB.out)⟩⟩
     case round =>
      clear H'
      try clear c32
      obtain ⟨x5_2, x6_2, rfl, rfl, HA, HK2, BK155, BK156, HB⟩ := hrel
      cases gk with
      | zero => exact absurd HA.out (by simp [crucibleref14_Func.l0])
      | succ k2 =>
       have H := HA.out
       clear HA
       simp only [crucibleref14_Func.l0] at H
       by_cases c33 : x6_2 < (l1_4.length : Int)
       · rw [if_pos c33] at H
         have c33b0 : decide (x6_2 < (l1_4.length : Int)) = true := decide_eq_true c33
         clear c33
         by_cases c34 : 0 ≤ x6_2
         · rw [if_pos c34] at H
           have c34b0 : decide (0 ≤ x6_2) = true := decide_eq_true c34
           clear c34
           have H' := Aside0.mk H
           clear H
           have hnb35 := NB156_155.out
           have hnc35 := NB155_156.out
           have hcz36_0 : wr.cell? ⟨gb156, 0, none⟩ = some (.string a1_0) := (Z5 BK156.out 0).trans rfl
           have hcz36_1 : wr.cell? ⟨gb156, 1, none⟩ = some (.int .i64 a1_1) := (Z5 BK156.out 1).trans rfl
           have hcz36_2 : wr.cell? ⟨gb156, 2, none⟩ = some (.int .i64 a1_2) := (Z5 BK156.out 2).trans rfl
           have hcz36_3 : wr.cell? ⟨gb156, 3, none⟩ = some (.int .i64 a1_3) := (Z5 BK156.out 3).trans rfl
           have hcz36_4 : wr.cell? ⟨gb156, 4, none⟩ = some (.slice A1_4 l1_4.length c1_4) := (Z5 BK156.out 4).trans rfl
           have hfz36_0 := Z2 BK156.out 0
           have hfz36_1 := Z2 BK156.out 1
           have hfz36_2 := Z2 BK156.out 2
           have hfz36_3 := Z2 BK156.out 3
           have hfz36_4 := Z2 BK156.out 4
           have p157 : 0 ≤ (x6_2 : Int) := of_decide_eq_true (by first | (with_reducible assumption) | assumption)
           have q157 : x6_2 < (l1_4.length : Int) := of_decide_eq_true (by first | (with_reducible assumption) | assumption)
           obtain ⟨ad157, A157_0, c157_0, A157_3, c157_3, e157, hx157_0, hx157_1, hx157_2, hx157_3, hl157_0, hi157_0, hl157_3, hi157_3⟩ := at_T45 HR1_4.out x6_2 p157 q157
           cases e157
           replace hx157_0 := (HB.out.cell (World.block_lt_of_cell? w _ hx157_0)).trans hx157_0
           replace hx157_1 := (HB.out.cell (World.block_lt_of_cell? w _ hx157_1)).trans hx157_1
           replace hx157_2 := (HB.out.cell (World.block_lt_of_cell? w _ hx157_2)).trans hx157_2
           replace hx157_3 := (HB.out.cell (World.block_lt_of_cell? w _ hx157_3)).trans hx157_3
           have HR157_0 := Aside0.mk hi157_0
           have HC157_0 := Aside0.mk hl157_0
           clear hi157_0 hl157_0
           have HR157_3 := Aside0.mk hi157_3
           have HC157_3 := Aside0.mk hl157_3
           clear hi157_3 hl157_3
           replace p157 := eq_true p157
           replace q157 := eq_true q157
           go_wp2
           go_roundg k2
           case measure => have := HJ2.out; have := HK2.out; omega
           case rel => exact ⟨(wrap64 (x5_2 + (((rd_T45 l1_4 x6_2).f0).length : Int))), (wrap64 (x6_2 + 1)), (by first | rfl | (simp; done) | (simp [*]; done)), (by first | rfl | (simp; done) | (simp [*]; done)), H', ⟨by have := HJ2.out; have := HK2.out; omega⟩, ⟨by (with_reducible repeat (first | refine Z0 ?_ _ | refine Z3 ?_ | refine Z1 ?_ _)); exact BK155.out⟩, ⟨by (with_reducible repeat (first | refine Z0 ?_ _ | refine Z3 ?_ | refine Z1 ?_ _)); exact BK156.out⟩, ⟨by repeat (first | (with_reducible first | exact HB.out | apply Z7 | apply Z4 | apply Z6 | refine Z8 ?_ GE155.out | refine Z8 ?_ GE156.out) | exact HB.out)⟩⟩
         · rw [if_neg c34] at H
           exact absurd H (by simp)
       · rw [if_neg c33] at H
         have c33b0 : decide (x6_2 < (l1_4.length : Int)) = false := decide_eq_false c33
         clear c33
         by_cases c37 : x5_2 > 65536
         · rw [if_pos c37] at H
           have c37b0 : decide (65536 < x5_2) = true := decide_eq_true c37
           clear c37
           obtain rfl := Option.some.inj H
           have hnb38 := NB156_155.out
           have hnc38 := NB155_156.out
           have hcz39_0 : wr.cell? ⟨gb156, 0, none⟩ = some (.string a1_0) := (Z5 BK156.out 0).trans rfl
           have hcz39_1 : wr.cell? ⟨gb156, 1, none⟩ = some (.int .i64 a1_1) := (Z5 BK156.out 1).trans rfl
           have hcz39_2 : wr.cell? ⟨gb156, 2, none⟩ = some (.int .i64 a1_2) := (Z5 BK156.out 2).trans rfl
           have hcz39_3 : wr.cell? ⟨gb156, 3, none⟩ = some (.int .i64 a1_3) := (Z5 BK156.out 3).trans rfl
           have hcz39_4 : wr.cell? ⟨gb156, 4, none⟩ = some (.slice A1_4 l1_4.length c1_4) := (Z5 BK156.out 4).trans rfl
           have hfz39_0 := Z2 BK156.out 0
           have hfz39_1 := Z2 BK156.out 1
           have hfz39_2 := Z2 BK156.out 2
           have hfz39_3 := Z2 BK156.out 3
           have hfz39_4 := Z2 BK156.out 4
           go_wp2
           go_ret
           exact ⟨by first | rfl | (simp [Z16, Z15] <;> rfl) | (simp [*, Z16, Z15] <;> rfl), by repeat (first | (with_reducible first | exact HB.out | apply Z7 | apply Z4 | apply Z6 | refine Z8 ?_ GE155.out | refine Z8 ?_ GE156.out) | exact HB.out)⟩
         · rw [if_neg c37] at H
           have c37b0 : decide (65536 < x5_2) = false := decide_eq_false c37
           clear c37
           replace H := Option.bind_eq_some_iff.mp H
           obtain ⟨t158, A400, H⟩ := H
           replace H : (if 0 < (t158.length : Int) then (if ((rd_L1 t158 0).length : Int) > 0 then (some false) else (crucibleref14_Func.l1 k2 0 a1_0 a1_1 a1_2 a1_3 l1_4)) else (none)) = some r := H
           have A40 := Aside0.mk A400
           clear A400
           by_cases c41 : 0 < (t158.length : Int)
           · rw [if_pos c41] at H
             have c41b0 : decide (0 < (t158.length : Int)) = true := decide_eq_true c41
             have c41b1 : decide (0 < t158.length) = true := decide_eq_true (by omega)
             clear c41
             by_cases c42 : ((rd_L1 t158 0).length : Int) > 0
             · rw [if_pos c42] at H
               have c42b0 : decide (0 < ((rd_L1 t158 0).length : Int)) = true := decide_eq_true c42
               have c42b1 : decide (0 < (rd_L1 t158 0).length) = true := decide_eq_true (by omega)
               clear c42
               obtain rfl := Option.some.inj H
               have hnb43 := NB156_155.out
               have hnc43 := NB155_156.out
               have hcz44_0 : wr.cell? ⟨gb156, 0, none⟩ = some (.string a1_0) := (Z5 BK156.out 0).trans rfl
               have hcz44_1 : wr.cell? ⟨gb156, 1, none⟩ = some (.int .i64 a1_1) := (Z5 BK156.out 1).trans rfl
               have hcz44_2 : wr.cell? ⟨gb156, 2, none⟩ = some (.int .i64 a1_2) := (Z5 BK156.out 2).trans rfl
               have hcz44_3 : wr.cell? ⟨gb156, 3, none⟩ = some (.int .i64 a1_3) := (Z5 BK156.out 3).trans rfl
               have hcz44_4 : wr.cell? ⟨gb156, 4, none⟩ = some (.slice A1_4 l1_4.length c1_4) := (Z5 BK156.out 4).trans rfl
               have hfz44_0 := Z2 BK156.out 0
               have hfz44_1 := Z2 BK156.out 1
               have hfz44_2 := Z2 BK156.out 2
               have hfz44_3 := Z2 BK156.out 3
               have hfz44_4 := Z2 BK156.out 4
               go_wp2_with (first | ((with_reducible refine Z14 (f := 33) rfl ?_); refine goesL_ (some 80) rfl rfl Try.func33 (by kernel_rfl) rfl #[.agg #[.string a1_0, .int .i64 a1_1, .int .i64 a1_2, .int .i64 a1_3, .slice A1_4 l1_4.length c1_4]] rfl (by (try simp only [List.map_toArray, List.map_cons, List.map_nil]); first | done | rfl | (simp only [List.length_drop, List.length_take]; rfl)) ?_; (with_reducible refine (crucibleref14_Preds.calls k2 a1_0 a1_1 a1_2 a1_3 _ _ l1_4 t158 _ ?side1 ?side2 A40.out).mono ?_); (case side1 => repeat (first | exact (Kd.C_below HR1_4.out HB.out) | (with_reducible refine Kd.C_alloc ?_ _) | (with_reducible refine Kd.C_drewN ?_ _) | (with_reducible refine Kd.C_drew ?_))); (case side2 => exact HC1_4.out); rintro e w45 ⟨v159, rfl, ho0, hb⟩; refine ⟨_, rfl, ?_⟩; have n0_ := Aside0.mk (Kd.S_lower ho0 (Z27 (by repeat (first | (with_reducible first | exact HB.out | apply Z7 | apply Z4 | apply Z6 | refine Z8 ?_ GE155.out | refine Z8 ?_ GE156.out) | exact HB.out)))); have n1_ := Aside0.mk (Z40 (g := gb155) (o := .cells #[.slice A0_0 l0_0.length c0_0, .int .i64 a0_1, .slice A0_2 l0_2.length c0_2, .int .i64 a0_3] 50 (0, 0)) (by (with_reducible repeat (first | refine Z0 ?_ _ | refine Z3 ?_ | refine Z1 ?_ _)); exact BK155.out) hb); have n2_ := Aside0.mk (Z40 (g := gb156) (o := .cells #[.string a1_0, .int .i64 a1_1, .int .i64 a1_2, .int .i64 a1_3, .slice A1_4 l1_4.length c1_4] 24 (0, 0)) (by (with_reducible repeat (first | refine Z0 ?_ _ | refine Z3 ?_ | refine Z1 ?_ _)); exact BK156.out) hb); have n3_ := Aside0.mk (Z25 (by repeat (first | (with_reducible first | exact HB.out | apply Z7 | apply Z4 | apply Z6 | refine Z8 ?_ GE155.out | refine Z8 ?_ GE156.out) | exact HB.out)) hb); clear BK155; clear BK156; clear HB; have HO160 := n0_; have BK155 := n1_; have BK156 := n2_; have HB := n3_; clear n0_ n1_ n2_ n3_; (try clear hb); (try clear hb2); (try clear hk); (try clear hi); (try clear ho0); obtain ⟨Ao46, co46, eo46⟩ := Kd.S_slice HO160.out; subst eo46; have p161 : 0 ≤ (0 : Int) := (by omega); have q161 : 0 < (t158.length : Int) := of_decide_eq_true (by first | (with_reducible assumption) | assumption); obtain ⟨ad161, A161_0, c161_0, e161, hx161_0, hl161_0, hi161_0⟩ := at_L1 (Kd.S_reads' HO160.out).2.2 0 p161 q161; cases e161; obtain ⟨ce161, hce161, hMe161, hcc161⟩ := Kd.S_get HO160.out [] 0 p161 (by first | exact q161 | exact of_decide_eq_true (by first | (with_reducible assumption) | assumption) | (have e_ := (Kd.S_reads' HO160.out).1; omega)); obtain ⟨ve161_0, rfl, ge161_0⟩ := hMe161; have hv161_0 := hcc161 0 _ rfl; rw [Nat.add_zero, show ((Kd.slice 3 (Kd.int .i64))).sz = 1 from rfl, Nat.mul_one] at hv161_0; replace hv161_0 := Option.some.inj (hv161_0.symm.trans hx161_0); rw [hv161_0] at ge161_0; have HL161_0 := Aside0.mk (show Kd.R (Kd.int .i64) 3 _ _ _ _ (rd_L1 t158 0) from ge161_0); clear hv161_0 ge161_0; clear hcc161 hce161; have qi161 : (0 < t158.length) = True := eq_true (by omega); (try rw [show ((0 : Int)).toNat = 0 from rfl] at hx161_0); (try rw [Addr.add_zero'] at hx161_0); have HR161_0 := Aside0.mk hi161_0; have HC161_0 := Aside0.mk hl161_0; clear hi161_0 hl161_0; replace p161 := eq_true p161; replace q161 := eq_true q161))
               go_ret
               exact ⟨by first | rfl | (simp [Z16, Z15] <;> rfl) | (simp [*, Z16, Z15] <;> rfl), by repeat (first | (with_reducible first | exact HB.out | apply Z7 | apply Z4 | apply Z6 | refine Z8 ?_ GE155.out | refine Z8 ?_ GE156.out) | exact HB.out)⟩
             · rw [if_neg c42] at H
               have c42b0 : decide (0 < ((rd_L1 t158 0).length : Int)) = false := decide_eq_false c42
               have c42b1 : decide (0 < (rd_L1 t158 0).length) = false := decide_eq_false (by omega)
               clear c42
               have H' := Aside0.mk H
               clear H
               have hnb47 := NB156_155.out
               have hnc47 := NB155_156.out
               have hcz48_0 : wr.cell? ⟨gb156, 0, none⟩ = some (.string a1_0) := (Z5 BK156.out 0).trans rfl
               have hcz48_1 : wr.cell? ⟨gb156, 1, none⟩ = some (.int .i64 a1_1) := (Z5 BK156.out 1).trans rfl
               have hcz48_2 : wr.cell? ⟨gb156, 2, none⟩ = some (.int .i64 a1_2) := (Z5 BK156.out 2).trans rfl
               have hcz48_3 : wr.cell? ⟨gb156, 3, none⟩ = some (.int .i64 a1_3) := (Z5 BK156.out 3).trans rfl
               have hcz48_4 : wr.cell? ⟨gb156, 4, none⟩ = some (.slice A1_4 l1_4.length c1_4) := (Z5 BK156.out 4).trans rfl
               have hfz48_0 := Z2 BK156.out 0
               have hfz48_1 := Z2 BK156.out 1
               have hfz48_2 := Z2 BK156.out 2
               have hfz48_3 := Z2 BK156.out 3
               have hfz48_4 := Z2 BK156.out 4
               go_wp2_with (first | ((with_reducible refine Z14 (f := 33) rfl ?_); refine goesL_ (some 80) rfl rfl Try.func33 (by kernel_rfl) rfl #[.agg #[.string a1_0, .int .i64 a1_1, .int .i64 a1_2, .int .i64 a1_3, .slice A1_4 l1_4.length c1_4]] rfl (by (try simp only [List.map_toArray, List.map_cons, List.map_nil]); first | done | rfl | (simp only [List.length_drop, List.length_take]; rfl)) ?_; (with_reducible refine (crucibleref14_Preds.calls k2 a1_0 a1_1 a1_2 a1_3 _ _ l1_4 t158 _ ?side1 ?side2 A40.out).mono ?_); (case side1 => repeat (first | exact (Kd.C_below HR1_4.out HB.out) | (with_reducible refine Kd.C_alloc ?_ _) | (with_reducible refine Kd.C_drewN ?_ _) | (with_reducible refine Kd.C_drew ?_))); (case side2 => exact HC1_4.out); rintro e w49 ⟨v159, rfl, ho0, hb⟩; refine ⟨_, rfl, ?_⟩; have n0_ := Aside0.mk (Kd.S_lower ho0 (Z27 (by repeat (first | (with_reducible first | exact HB.out | apply Z7 | apply Z4 | apply Z6 | refine Z8 ?_ GE155.out | refine Z8 ?_ GE156.out) | exact HB.out)))); have n1_ := Aside0.mk (Z40 (g := gb155) (o := .cells #[.slice A0_0 l0_0.length c0_0, .int .i64 a0_1, .slice A0_2 l0_2.length c0_2, .int .i64 a0_3] 50 (0, 0)) (by (with_reducible repeat (first | refine Z0 ?_ _ | refine Z3 ?_ | refine Z1 ?_ _)); exact BK155.out) hb); have n2_ := Aside0.mk (Z40 (g := gb156) (o := .cells #[.string a1_0, .int .i64 a1_1, .int .i64 a1_2, .int .i64 a1_3, .slice A1_4 l1_4.length c1_4] 24 (0, 0)) (by (with_reducible repeat (first | refine Z0 ?_ _ | refine Z3 ?_ | refine Z1 ?_ _)); exact BK156.out) hb); have n3_ := Aside0.mk (Z25 (by repeat (first | (with_reducible first | exact HB.out | apply Z7 | apply Z4 | apply Z6 | refine Z8 ?_ GE155.out | refine Z8 ?_ GE156.out) | exact HB.out)) hb); clear BK155; clear BK156; clear HB; have HO160 := n0_; have BK155 := n1_; have BK156 := n2_; have HB := n3_; clear n0_ n1_ n2_ n3_; (try clear hb); (try clear hb2); (try clear hk); (try clear hi); (try clear ho0); obtain ⟨Ao50, co50, eo50⟩ := Kd.S_slice HO160.out; subst eo50; have p161 : 0 ≤ (0 : Int) := (by omega); have q161 : 0 < (t158.length : Int) := of_decide_eq_true (by first | (with_reducible assumption) | assumption); obtain ⟨ad161, A161_0, c161_0, e161, hx161_0, hl161_0, hi161_0⟩ := at_L1 (Kd.S_reads' HO160.out).2.2 0 p161 q161; cases e161; obtain ⟨ce161, hce161, hMe161, hcc161⟩ := Kd.S_get HO160.out [] 0 p161 (by first | exact q161 | exact of_decide_eq_true (by first | (with_reducible assumption) | assumption) | (have e_ := (Kd.S_reads' HO160.out).1; omega)); obtain ⟨ve161_0, rfl, ge161_0⟩ := hMe161; have hv161_0 := hcc161 0 _ rfl; rw [Nat.add_zero, show ((Kd.slice 3 (Kd.int .i64))).sz = 1 from rfl, Nat.mul_one] at hv161_0; replace hv161_0 := Option.some.inj (hv161_0.symm.trans hx161_0); rw [hv161_0] at ge161_0; have HL161_0 := Aside0.mk (show Kd.R (Kd.int .i64) 3 _ _ _ _ (rd_L1 t158 0) from ge161_0); clear hv161_0 ge161_0; clear hcc161 hce161; have qi161 : (0 < t158.length) = True := eq_true (by omega); (try rw [show ((0 : Int)).toNat = 0 from rfl] at hx161_0); (try rw [Addr.add_zero'] at hx161_0); have HR161_0 := Aside0.mk hi161_0; have HC161_0 := Aside0.mk hl161_0; clear hi161_0 hl161_0; replace p161 := eq_true p161; replace q161 := eq_true q161))
               go_loopg [8] k2 (fun kq v8 w' => ∃ (x8_3 : Int), v8 = .int .i64 x8_3 ∧ Aside0 (crucibleref14_Func.l1 kq x8_3 a1_0 a1_1 a1_2 a1_3 l1_4 = some r) ∧ Aside0 (kq ≤ k2) ∧ Aside0 (w'.heap[gb155]? = some (.cells #[(.slice A0_0 l0_0.length c0_0), .int .i64 a0_1, (.slice A0_2 l0_2.length c0_2), .int .i64 a0_3] 50 (0, 0))) ∧ Aside0 (w'.heap[gb156]? = some (.cells #[.string a1_0, .int .i64 a1_1, .int .i64 a1_2, .int .i64 a1_3, (.slice A1_4 l1_4.length c1_4)] 24 (0, 0))) ∧ Aside0 (Below w.heap.size w w'))
               case atStart => exact ⟨(0), (by first | rfl | (simp; done) | (simp [*]; done)), H', ⟨Nat.le_refl _⟩, ⟨by (with_reducible repeat (first | refine Z0 ?_ _ | refine Z3 ?_ | refine Z1 ?_ _)); exact BK155.out⟩, ⟨by (with_reducible repeat (first | refine Z0 ?_ _ | refine Z3 ?_ | refine Z1 ?_ _)); exact BK156.out⟩, ⟨by repeat (first | (with_reducible first | exact HB.out | apply Z7 | apply Z4 | apply Z6 | refine Z8 ?_ GE155.out | refine Z8 ?_ GE156.out) | exact HB.out)⟩⟩
               case round =>
                clear H'
                try clear c32
                try clear c33
                try clear c33b0
                try clear c37
                try clear c37b0
                try clear c41
                try clear c41b0
                try clear c41b1
                try clear c42
                try clear c42b0
                try clear c42b1
                try clear hcz48_0
                try clear hcz48_1
                try clear hcz48_2
                try clear hcz48_3
                try clear hcz48_4
                try clear hfz48_0
                try clear hfz48_1
                try clear hfz48_2
                try clear hfz48_3
                try clear hfz48_4
                try clear hx161_0
                try clear p161
                try clear q161
                obtain ⟨x8_3, rfl, HA, HK3, BK155, BK156, HB⟩ := hrel
                cases gk with
                | zero => exact absurd HA.out (by simp [crucibleref14_Func.l1])
                | succ k3 =>
                 have H := HA.out
                 clear HA
                 simp only [crucibleref14_Func.l1] at H
                 by_cases c51 : x8_3 < (l1_4.length : Int)
                 · rw [if_pos c51] at H
                   have c51b0 : decide (x8_3 < (l1_4.length : Int)) = true := decide_eq_true c51
                   clear c51
                   by_cases c52 : 0 ≤ x8_3
                   · rw [if_pos c52] at H
                     have c52b0 : decide (0 ≤ x8_3) = true := decide_eq_true c52
                     clear c52
                     have H' := Aside0.mk H
                     clear H
                     have hnb53 := NB156_155.out
                     have hnc53 := NB155_156.out
                     have hcz54_0 : wr.cell? ⟨gb156, 0, none⟩ = some (.string a1_0) := (Z5 BK156.out 0).trans rfl
                     have hcz54_1 : wr.cell? ⟨gb156, 1, none⟩ = some (.int .i64 a1_1) := (Z5 BK156.out 1).trans rfl
                     have hcz54_2 : wr.cell? ⟨gb156, 2, none⟩ = some (.int .i64 a1_2) := (Z5 BK156.out 2).trans rfl
                     have hcz54_3 : wr.cell? ⟨gb156, 3, none⟩ = some (.int .i64 a1_3) := (Z5 BK156.out 3).trans rfl
                     have hcz54_4 : wr.cell? ⟨gb156, 4, none⟩ = some (.slice A1_4 l1_4.length c1_4) := (Z5 BK156.out 4).trans rfl
                     have hfz54_0 := Z2 BK156.out 0
                     have hfz54_1 := Z2 BK156.out 1
                     have hfz54_2 := Z2 BK156.out 2
                     have hfz54_3 := Z2 BK156.out 3
                     have hfz54_4 := Z2 BK156.out 4
                     have p162 : 0 ≤ (x8_3 : Int) := of_decide_eq_true (by first | (with_reducible assumption) | assumption)
                     have q162 : x8_3 < (l1_4.length : Int) := of_decide_eq_true (by first | (with_reducible assumption) | assumption)
                     obtain ⟨ad162, A162_0, c162_0, A162_3, c162_3, e162, hx162_0, hx162_1, hx162_2, hx162_3, hl162_0, hi162_0, hl162_3, hi162_3⟩ := at_T45 HR1_4.out x8_3 p162 q162
                     cases e162
                     replace hx162_0 := (HB.out.cell (World.block_lt_of_cell? w _ hx162_0)).trans hx162_0
                     replace hx162_1 := (HB.out.cell (World.block_lt_of_cell? w _ hx162_1)).trans hx162_1
                     replace hx162_2 := (HB.out.cell (World.block_lt_of_cell? w _ hx162_2)).trans hx162_2
                     replace hx162_3 := (HB.out.cell (World.block_lt_of_cell? w _ hx162_3)).trans hx162_3
                     have HR162_0 := Aside0.mk hi162_0
                     have HC162_0 := Aside0.mk hl162_0
                     clear hi162_0 hl162_0
                     have HR162_3 := Aside0.mk hi162_3
                     have HC162_3 := Aside0.mk hl162_3
                     clear hi162_3 hl162_3
                     replace p162 := eq_true p162
                     replace q162 := eq_true q162
                     go_wp2_with (first | ((with_reducible refine Z52 (N := 9) rfl ?_); (try (refine Z66 (by rfl) ?_; dsimp only)); refine Z51 ?hg (N := 9) ?hd (cs := #[.slice none 0 0, .int .i64 0, .int .i64 0, .slice none 0 0]) (t := 45) ?hr ?_; (case hd => rfl); (case hg => rfl); (case hr => first | (go_simp; done) | (go_simp; rfl)); intro gb163 hg w55 hbox hb; have n0_ := Aside0.mk (Z40 (g := gb155) (o := .cells #[.slice A0_0 l0_0.length c0_0, .int .i64 a0_1, .slice A0_2 l0_2.length c0_2, .int .i64 a0_3] 50 (0, 0)) (by (with_reducible repeat (first | refine Z0 ?_ _ | refine Z3 ?_ | refine Z1 ?_ _)); exact BK155.out) hb); have n1_ := Aside0.mk (Z40 (g := gb156) (o := .cells #[.string a1_0, .int .i64 a1_1, .int .i64 a1_2, .int .i64 a1_3, .slice (some ad162) l1_4.length c1_4] 24 (0, 0)) (by (with_reducible repeat (first | refine Z0 ?_ _ | refine Z3 ?_ | refine Z1 ?_ _)); exact BK156.out) hb); have n2_ := Aside0.mk (Z25 (by repeat (first | (with_reducible first | exact HB.out | apply Z7 | apply Z4 | apply Z6 | refine Z8 ?_ GE155.out | refine Z8 ?_ GE156.out) | exact HB.out)) hb); have n3_ := Aside0.mk (hbox); have n4_ := Aside0.mk ((by rw [hg]; exact (Z27 (by repeat (first | (with_reducible first | exact HB.out | apply Z7 | apply Z4 | apply Z6 | refine Z8 ?_ GE155.out | refine Z8 ?_ GE156.out) | exact HB.out))) : w.heap.size ≤ gb163)); have n5_ := Aside0.mk ((by rw [hg]; exact (Z27 (by repeat (first | (with_reducible first | exact HB.out | apply Z7 | apply Z4 | apply Z6 | refine Z8 ?_ GE155.out | refine Z8 ?_ GE156.out) | exact HB.out))) : w.heap.size ≤ gb163)); have n6_ := Aside0.mk ((by rw [hg]; exact Nat.ne_of_lt (blk_lt (g := gb155) (o := .cells #[.slice A0_0 l0_0.length c0_0, .int .i64 a0_1, .slice A0_2 l0_2.length c0_2, .int .i64 a0_3] 50 (0, 0)) (by (with_reducible repeat (first | refine Z0 ?_ _ | refine Z3 ?_ | refine Z1 ?_ _)); exact BK155.out)) : gb155 ≠ gb163)); have n7_ := Aside0.mk ((by rw [hg]; exact Nat.ne_of_gt (blk_lt (g := gb155) (o := .cells #[.slice A0_0 l0_0.length c0_0, .int .i64 a0_1, .slice A0_2 l0_2.length c0_2, .int .i64 a0_3] 50 (0, 0)) (by (with_reducible repeat (first | refine Z0 ?_ _ | refine Z3 ?_ | refine Z1 ?_ _)); exact BK155.out)) : gb163 ≠ gb155)); have n8_ := Aside0.mk ((by rw [hg]; exact Nat.ne_of_lt (blk_lt (g := gb156) (o := .cells #[.string a1_0, .int .i64 a1_1, .int .i64 a1_2, .int .i64 a1_3, .slice (some ad162) l1_4.length c1_4] 24 (0, 0)) (by (with_reducible repeat (first | refine Z0 ?_ _ | refine Z3 ?_ | refine Z1 ?_ _)); exact BK156.out)) : gb156 ≠ gb163)); have n9_ := Aside0.mk ((by rw [hg]; exact Nat.ne_of_gt (blk_lt (g := gb156) (o := .cells #[.string a1_0, .int .i64 a1_1, .int .i64 a1_2, .int .i64 a1_3, .slice (some ad162) l1_4.length c1_4] 24 (0, 0)) (by (with_reducible repeat (first | refine Z0 ?_ _ | refine Z3 ?_ | refine Z1 ?_ _)); exact BK156.out)) : gb163 ≠ gb156)); clear BK155; clear BK156; clear HB; have BK155 := n0_; have BK156 := n1_; have HB := n2_; have BK163 := n3_; have GW163 := n4_; have GE163 := n5_; have NB155_163 := n6_; have NB163_155 := n7_; have NB156_163 := n8_; have NB163_156 := n9_; clear n0_ n1_ n2_ n3_ n4_ n5_ n6_ n7_ n8_ n9_; clear hb hbox hg; have hnb56 := NB163_155.out; have hnc56 := NB155_163.out; have hnb57 := NB163_156.out; have hnc57 := NB156_163.out; have hcz58_0 : w55.cell? ⟨gb163, 0, none⟩ = some (.slice none 0 0) := (Z5 BK163.out 0).trans rfl; have hcz58_1 : w55.cell? ⟨gb163, 1, none⟩ = some (.int .i64 0) := (Z5 BK163.out 1).trans rfl; have hcz58_2 : w55.cell? ⟨gb163, 2, none⟩ = some (.int .i64 0) := (Z5 BK163.out 2).trans rfl; have hcz58_3 : w55.cell? ⟨gb163, 3, none⟩ = some (.slice none 0 0) := (Z5 BK163.out 3).trans rfl; have hfz58_0 := Z2 BK163.out 0; have hfz58_1 := Z2 BK163.out 1; have hfz58_2 := Z2 BK163.out 2; have hfz58_3 := Z2 BK163.out 3))
                     go_loopg [11] k3 (fun kq v11 w' => ∃ (x11_4 : Int), v11 = .int .i64 x11_4 ∧ Aside0 (crucibleref14_Func.l2 kq x8_3 x11_4 a1_0 a1_1 a1_2 a1_3 l1_4 ((rd_T45 l1_4 x8_3).f0) ((rd_T45 l1_4 x8_3).f1) ((rd_T45 l1_4 x8_3).f2) ((rd_T45 l1_4 x8_3).f3) = some r) ∧ Aside0 (kq ≤ k3) ∧ Aside0 (w'.heap[gb155]? = some (.cells #[(.slice A0_0 l0_0.length c0_0), .int .i64 a0_1, (.slice A0_2 l0_2.length c0_2), .int .i64 a0_3] 50 (0, 0))) ∧ Aside0 (w'.heap[gb156]? = some (.cells #[.string a1_0, .int .i64 a1_1, .int .i64 a1_2, .int .i64 a1_3, (.slice (some ad162) l1_4.length c1_4)] 24 (0, 0))) ∧ Aside0 (w'.heap[gb163]? = some (.cells #[(.slice A162_0 ((rd_T45 l1_4 x8_3).f0).length c162_0), .int .i64 ((rd_T45 l1_4 x8_3).f1), .int .i64 ((rd_T45 l1_4 x8_3).f2), (.slice A162_3 ((rd_T45 l1_4 x8_3).f3).length c162_3)] 45 (0, 0))) ∧ Aside0 (Below w.heap.size w w'))
                     case atStart => exact ⟨(0), (by first | rfl | (simp; done) | (simp [*]; done)), H', ⟨Nat.le_refl _⟩, ⟨by (with_reducible repeat (first | refine Z0 ?_ _ | refine Z3 ?_ | refine Z1 ?_ _)); refine Z22 ?_ NB155_163.out _; (with_reducible repeat (first | refine Z0 ?_ _ | refine Z3 ?_ | refine Z1 ?_ _)); refine Z22 ?_ NB155_163.out _; (with_reducible repeat (first | refine Z0 ?_ _ | refine Z3 ?_ | refine Z1 ?_ _)); refine Z22 ?_ NB155_163.out _; (with_reducible repeat (first | refine Z0 ?_ _ | refine Z3 ?_ | refine Z1 ?_ _)); refine Z22 ?_ NB155_163.out _; (with_reducible repeat (first | refine Z0 ?_ _ | refine Z3 ?_ | refine Z1 ?_ _)); exact BK155.out⟩, ⟨by (with_reducible repeat (first | refine Z0 ?_ _ | refine Z3 ?_ | refine Z1 ?_ _)); refine Z22 ?_ NB156_163.out _; (with_reducible repeat (first | refine Z0 ?_ _ | refine Z3 ?_ | refine Z1 ?_ _)); refine Z22 ?_ NB156_163.out _; (with_reducible repeat (first | refine Z0 ?_ _ | refine Z3 ?_ | refine Z1 ?_ _)); refine Z22 ?_ NB156_163.out _; (with_reducible repeat (first | refine Z0 ?_ _ | refine Z3 ?_ | refine Z1 ?_ _)); refine Z22 ?_ NB156_163.out _; (with_reducible repeat (first | refine Z0 ?_ _ | refine Z3 ?_ | refine Z1 ?_ _)); exact BK156.out⟩, ⟨by (with_reducible repeat (first | refine Z0 ?_ _ | refine Z3 ?_ | refine Z1 ?_ _)); refine Z9 (cs := #[.slice A162_0 ((rd_T45 l1_4 x8_3).f0).length c162_0, .int .i64 ((rd_T45 l1_4 x8_3).f1), .int .i64 ((rd_T45 l1_4 x8_3).f2), .slice none 0 0]) ?_ 3 _ rfl; (with_reducible repeat (first | refine Z0 ?_ _ | refine Z3 ?_ | refine Z1 ?_ _)); refine Z9 (cs := #[.slice A162_0 ((rd_T45 l1_4 x8_3).f0).length c162_0, .int .i64 ((rd_T45 l1_4 x8_3).f1), .int .i64 0, .slice none 0 0]) ?_ 2 _ rfl; (with_reducible repeat (first | refine Z0 ?_ _ | refine Z3 ?_ | refine Z1 ?_ _)); refine Z9 (cs := #[.slice A162_0 ((rd_T45 l1_4 x8_3).f0).length c162_0, .int .i64 0, .int .i64 0, .slice none 0 0]) ?_ 1 _ rfl; (with_reducible repeat (first | refine Z0 ?_ _ | refine Z3 ?_ | refine Z1 ?_ _)); refine Z9 (cs := #[.slice none 0 0, .int .i64 0, .int .i64 0, .slice none 0 0]) ?_ 0 _ rfl; (with_reducible repeat (first | refine Z0 ?_ _ | refine Z3 ?_ | refine Z1 ?_ _)); exact BK163.out⟩, ⟨by repeat (first | (with_reducible first | exact HB.out | apply Z7 | apply Z4 | apply Z6 | refine Z8 ?_ GE155.out | refine Z8 ?_ GE156.out | refine Z8 ?_ GE163.out) | exact HB.out)⟩⟩
                     case round =>
                      clear H'
                      try clear c32
                      try clear c33
                      try clear c33b0
                      try clear c37
                      try clear c37b0
                      try clear c41
                      try clear c41b0
                      try clear c41b1
                      try clear c42
                      try clear c42b0
                      try clear c42b1
                      try clear c51
                      try clear c51b0
                      try clear c52
                      try clear c52b0
                      try clear hcz48_0
                      try clear hcz48_1
                      try clear hcz48_2
                      try clear hcz48_3
                      try clear hcz48_4
                      try clear hcz54_0
                      try clear hcz54_1
                      try clear hcz54_2
                      try clear hcz54_3
                      try clear hcz54_4
                      try clear hcz58_0
                      try clear hcz58_1
                      try clear hcz58_2
                      try clear hcz58_3
                      try clear hfz48_0
                      try clear hfz48_1
                      try clear hfz48_2
                      try clear hfz48_3
                      try clear hfz48_4
                      try clear hfz54_0
                      try clear hfz54_1
                      try clear hfz54_2
                      try clear hfz54_3
                      try clear hfz54_4
                      try clear hfz58_0
                      try clear hfz58_1
                      try clear hfz58_2
                      try clear hfz58_3
                      try clear hx161_0
                      try clear hx162_0
                      try clear hx162_1
                      try clear hx162_2
                      try clear hx162_3
                      try clear p161
                      try clear p162
                      try clear q161
                      try clear q162
                      obtain ⟨x11_4, rfl, HA, HK4, BK155, BK156, BK163, HB⟩ := hrel
                      cases gk with
                      | zero => exact absurd HA.out (by simp [crucibleref14_Func.l2])
                      | succ k4 =>
                       have H := HA.out
                       clear HA
                       simp only [crucibleref14_Func.l2] at H
                       by_cases c59 : x11_4 < (((rd_T45 l1_4 x8_3).f0).length : Int)
                       · rw [if_pos c59] at H
                         exact absurd H (by simp)
                       · rw [if_neg c59] at H
                         have c59b0 : decide (x11_4 < (((rd_T45 l1_4 x8_3).f0).length : Int)) = false := decide_eq_false c59
                         clear c59
                         replace H := Option.bind_eq_some_iff.mp H
                         obtain ⟨t164, A630, H⟩ := H
                         replace H : (if t164 = true then (crucibleref14_Func.l1 k4 (wrap64 (x8_3 + 1)) a1_0 a1_1 a1_2 a1_3 l1_4) else (some false)) = some r := H
                         have A63 := Aside0.mk A630
                         clear A630
                         by_cases c64 : t164 = true
                         · subst c64
                           have H1 : (crucibleref14_Func.l1 k4 (wrap64 (x8_3 + 1)) a1_0 a1_1 a1_2 a1_3 l1_4) = some r := by rw [if_pos rfl] at H; exact H
                           clear H
                           have H := H1
                           clear H1
                           have H' := Aside0.mk H
                           clear H
                           have hnb65 := NB163_155.out
                           have hnc65 := NB155_163.out
                           have hnb66 := NB163_156.out
                           have hnc66 := NB156_163.out
                           have hcz67_0 : wr.cell? ⟨gb163, 0, none⟩ = some (.slice A162_0 ((rd_T45 l1_4 x8_3).f0).length c162_0) := (Z5 BK163.out 0).trans rfl
                           have hcz67_1 : wr.cell? ⟨gb163, 1, none⟩ = some (.int .i64 ((rd_T45 l1_4 x8_3).f1)) := (Z5 BK163.out 1).trans rfl
                           have hcz67_2 : wr.cell? ⟨gb163, 2, none⟩ = some (.int .i64 ((rd_T45 l1_4 x8_3).f2)) := (Z5 BK163.out 2).trans rfl
                           have hcz67_3 : wr.cell? ⟨gb163, 3, none⟩ = some (.slice A162_3 ((rd_T45 l1_4 x8_3).f3).length c162_3) := (Z5 BK163.out 3).trans rfl
                           have hfz67_0 := Z2 BK163.out 0
                           have hfz67_1 := Z2 BK163.out 1
                           have hfz67_2 := Z2 BK163.out 2
                           have hfz67_3 := Z2 BK163.out 3
                           have hnb68 := NB156_155.out
                           have hnc68 := NB155_156.out
                           have hcz69_0 : wr.cell? ⟨gb156, 0, none⟩ = some (.string a1_0) := (Z5 BK156.out 0).trans rfl
                           have hcz69_1 : wr.cell? ⟨gb156, 1, none⟩ = some (.int .i64 a1_1) := (Z5 BK156.out 1).trans rfl
                           have hcz69_2 : wr.cell? ⟨gb156, 2, none⟩ = some (.int .i64 a1_2) := (Z5 BK156.out 2).trans rfl
                           have hcz69_3 : wr.cell? ⟨gb156, 3, none⟩ = some (.int .i64 a1_3) := (Z5 BK156.out 3).trans rfl
                           have hcz69_4 : wr.cell? ⟨gb156, 4, none⟩ = some (.slice (some ad162) l1_4.length c1_4) := (Z5 BK156.out 4).trans rfl
                           have hfz69_0 := Z2 BK156.out 0
                           have hfz69_1 := Z2 BK156.out 1
                           have hfz69_2 := Z2 BK156.out 2
                           have hfz69_3 := Z2 BK156.out 3
                           have hfz69_4 := Z2 BK156.out 4
                           go_wp2_with (first | ((with_reducible refine Z14 (f := 35) rfl ?_); refine goesL_ (some 149) rfl rfl Try.func35 (by kernel_rfl) rfl #[.agg #[.string a1_0, .int .i64 a1_1, .int .i64 a1_2, .int .i64 a1_3, .slice (some ad162) l1_4.length c1_4], .agg #[.slice A162_0 ((rd_T45 l1_4 x8_3).f0).length c162_0, .int .i64 ((rd_T45 l1_4 x8_3).f1), .int .i64 ((rd_T45 l1_4 x8_3).f2), .slice A162_3 ((rd_T45 l1_4 x8_3).f3).length c162_3]] rfl (by (try simp only [List.map_toArray, List.map_cons, List.map_nil]); first | done | rfl | (simp only [List.length_drop, List.length_take]; rfl)) ?_; (with_reducible refine (crucibleref14_ends.calls k4 a1_0 a1_1 a1_2 a1_3 _ _ l1_4 _ _ ((rd_T45 l1_4 x8_3).f0) ((rd_T45 l1_4 x8_3).f1) ((rd_T45 l1_4 x8_3).f2) _ _ ((rd_T45 l1_4 x8_3).f3) true _ ?side1 ?side2 ?side3 ?side4 ?side5 ?side6 A63.out).mono ?_); (case side1 => repeat (first | exact (Kd.C_below HR1_4.out HB.out) | (with_reducible refine Kd.C_alloc ?_ _) | (with_reducible refine Kd.C_drewN ?_ _) | (with_reducible refine Kd.C_drew ?_))); (case side2 => exact HC1_4.out); (case side3 => repeat (first | exact (Kd.C_below HR162_0.out HB.out) | (with_reducible refine Kd.C_alloc ?_ _) | (with_reducible refine Kd.C_drewN ?_ _) | (with_reducible refine Kd.C_drew ?_))); (case side4 => exact HC162_0.out); (case side5 => repeat (first | exact (Kd.C_below HR162_3.out HB.out) | (with_reducible refine Kd.C_alloc ?_ _) | (with_reducible refine Kd.C_drewN ?_ _) | (with_reducible refine Kd.C_drew ?_))); (case side6 => exact HC162_3.out); rintro e w70 ⟨rfl, hb⟩; refine ⟨_, rfl, ?_⟩; have n0_ := Aside0.mk (Z40 (g := gb155) (o := .cells #[.slice A0_0 l0_0.length c0_0, .int .i64 a0_1, .slice A0_2 l0_2.length c0_2, .int .i64 a0_3] 50 (0, 0)) (by (with_reducible repeat (first | refine Z0 ?_ _ | refine Z3 ?_ | refine Z1 ?_ _)); exact BK155.out) hb); have n1_ := Aside0.mk (Z40 (g := gb156) (o := .cells #[.string a1_0, .int .i64 a1_1, .int .i64 a1_2, .int .i64 a1_3, .slice (some ad162) l1_4.length c1_4] 24 (0, 0)) (by (with_reducible repeat (first | refine Z0 ?_ _ | refine Z3 ?_ | refine Z1 ?_ _)); exact BK156.out) hb); have n2_ := Aside0.mk (Z40 (g := gb163) (o := .cells #[.slice A162_0 ((rd_T45 l1_4 x8_3).f0).length c162_0, .int .i64 ((rd_T45 l1_4 x8_3).f1), .int .i64 ((rd_T45 l1_4 x8_3).f2), .slice A162_3 ((rd_T45 l1_4 x8_3).f3).length c162_3] 45 (0, 0)) (by (with_reducible repeat (first | refine Z0 ?_ _ | refine Z3 ?_ | refine Z1 ?_ _)); exact BK163.out) hb); have n3_ := Aside0.mk (Z25 (by repeat (first | (with_reducible first | exact HB.out | apply Z7 | apply Z4 | apply Z6 | refine Z8 ?_ GE155.out | refine Z8 ?_ GE156.out | refine Z8 ?_ GE163.out) | exact HB.out)) hb); clear BK155; clear BK156; clear BK163; clear HB; have BK155 := n0_; have BK156 := n1_; have BK163 := n2_; have HB := n3_; clear n0_ n1_ n2_ n3_; (try clear hb); (try clear hb2); (try clear hk); (try clear hi)))
                           go_roundg k4
                           case measure => have := HJ2.out; have := HK2.out; have := HK3.out; have := HK4.out; omega
                           case rel => exact ⟨(wrap64 (x8_3 + 1)), (by first | rfl | (simp; done) | (simp [*]; done)), H', ⟨by have := HJ2.out; have := HK2.out; have := HK3.out; have := HK4.out; omega⟩, ⟨by (with_reducible repeat (first | refine Z0 ?_ _ | refine Z3 ?_ | refine Z1 ?_ _)); exact BK155.out⟩, ⟨by (with_reducible repeat (first | refine Z0 ?_ _ | refine Z3 ?_ | refine Z1 ?_ _)); exact BK156.out⟩, ⟨by repeat (first | (with_reducible first | exact HB.out | apply Z7 | apply Z4 | apply Z6 | refine Z8 ?_ GE155.out | refine Z8 ?_ GE156.out | refine Z8 ?_ GE163.out) | exact HB.out)⟩⟩
                         · replace c64 := Bool.eq_false_iff.mpr c64
                           subst c64
                           have H1 : (some false) = some r := by rw [if_neg (show ¬ (false = true) by decide)] at H; exact H
                           clear H
                           have H := H1
                           clear H1
                           obtain rfl := Option.some.inj H
                           have hnb71 := NB163_155.out
                           have hnc71 := NB155_163.out
                           have hnb72 := NB163_156.out
                           have hnc72 := NB156_163.out
                           have hcz73_0 : wr.cell? ⟨gb163, 0, none⟩ = some (.slice A162_0 ((rd_T45 l1_4 x8_3).f0).length c162_0) := (Z5 BK163.out 0).trans rfl
                           have hcz73_1 : wr.cell? ⟨gb163, 1, none⟩ = some (.int .i64 ((rd_T45 l1_4 x8_3).f1)) := (Z5 BK163.out 1).trans rfl
                           have hcz73_2 : wr.cell? ⟨gb163, 2, none⟩ = some (.int .i64 ((rd_T45 l1_4 x8_3).f2)) := (Z5 BK163.out 2).trans rfl
                           have hcz73_3 : wr.cell? ⟨gb163, 3, none⟩ = some (.slice A162_3 ((rd_T45 l1_4 x8_3).f3).length c162_3) := (Z5 BK163.out 3).trans rfl
                           have hfz73_0 := Z2 BK163.out 0
                           have hfz73_1 := Z2 BK163.out 1
                           have hfz73_2 := Z2 BK163.out 2
                           have hfz73_3 := Z2 BK163.out 3
                           have hnb74 := NB156_155.out
                           have hnc74 := NB155_156.out
                           have hcz75_0 : wr.cell? ⟨gb156, 0, none⟩ = some (.string a1_0) := (Z5 BK156.out 0).trans rfl
                           have hcz75_1 : wr.cell? ⟨gb156, 1, none⟩ = some (.int .i64 a1_1) := (Z5 BK156.out 1).trans rfl
                           have hcz75_2 : wr.cell? ⟨gb156, 2, none⟩ = some (.int .i64 a1_2) := (Z5 BK156.out 2).trans rfl
                           have hcz75_3 : wr.cell? ⟨gb156, 3, none⟩ = some (.int .i64 a1_3) := (Z5 BK156.out 3).trans rfl
                           have hcz75_4 : wr.cell? ⟨gb156, 4, none⟩ = some (.slice (some ad162) l1_4.length c1_4) := (Z5 BK156.out 4).trans rfl
                           have hfz75_0 := Z2 BK156.out 0
                           have hfz75_1 := Z2 BK156.out 1
                           have hfz75_2 := Z2 BK156.out 2
                           have hfz75_3 := Z2 BK156.out 3
                           have hfz75_4 := Z2 BK156.out 4
                           go_wp2_with (first | ((with_reducible refine Z14 (f := 35) rfl ?_); refine goesL_ (some 149) rfl rfl Try.func35 (by kernel_rfl) rfl #[.agg #[.string a1_0, .int .i64 a1_1, .int .i64 a1_2, .int .i64 a1_3, .slice (some ad162) l1_4.length c1_4], .agg #[.slice A162_0 ((rd_T45 l1_4 x8_3).f0).length c162_0, .int .i64 ((rd_T45 l1_4 x8_3).f1), .int .i64 ((rd_T45 l1_4 x8_3).f2), .slice A162_3 ((rd_T45 l1_4 x8_3).f3).length c162_3]] rfl (by (try simp only [List.map_toArray, List.map_cons, List.map_nil]); first | done | rfl | (simp only [List.length_drop, List.length_take]; rfl)) ?_; (with_reducible refine (crucibleref14_ends.calls k4 a1_0 a1_1 a1_2 a1_3 _ _ l1_4 _ _ ((rd_T45 l1_4 x8_3).f0) ((rd_T45 l1_4 x8_3).f1) ((rd_T45 l1_4 x8_3).f2) _ _ ((rd_T45 l1_4 x8_3).f3) false _ ?side1 ?side2 ?side3 ?side4 ?side5 ?side6 A63.out).mono ?_); (case side1 => repeat (first | exact (Kd.C_below HR1_4.out HB.out) | (with_reducible refine Kd.C_alloc ?_ _) | (with_reducible refine Kd.C_drewN ?_ _) | (with_reducible refine Kd.C_drew ?_))); (case side2 => exact HC1_4.out); (case side3 => repeat (first | exact (Kd.C_below HR162_0.out HB.out) | (with_reducible refine Kd.C_alloc ?_ _) | (with_reducible refine Kd.C_drewN ?_ _) | (with_reducible refine Kd.C_drew ?_))); (case side4 => exact HC162_0.out); (case side5 => repeat (first | exact (Kd.C_below HR162_3.out HB.out) | (with_reducible refine Kd.C_alloc ?_ _) | (with_reducible refine Kd.C_drewN ?_ _) | (with_reducible refine Kd.C_drew ?_))); (case side6 => exact HC162_3.out); rintro e w76 ⟨rfl, hb⟩; refine ⟨_, rfl, ?_⟩; have n0_ := Aside0.mk (Z40 (g := gb155) (o := .cells #[.slice A0_0 l0_0.length c0_0, .int .i64 a0_1, .slice A0_2 l0_2.length c0_2, .int .i64 a0_3] 50 (0, 0)) (by (with_reducible repeat (first | refine Z0 ?_ _ | refine Z3 ?_ | refine Z1 ?_ _)); exact BK155.out) hb); have n1_ := Aside0.mk (Z40 (g := gb156) (o := .cells #[.string a1_0, .int .i64 a1_1, .int .i64 a1_2, .int .i64 a1_3, .slice (some ad162) l1_4.length c1_4] 24 (0, 0)) (by (with_reducible repeat (first | refine Z0 ?_ _ | refine Z3 ?_ | refine Z1 ?_ _)); exact BK156.out) hb); have n2_ := Aside0.mk (Z40 (g := gb163) (o := .cells #[.slice A162_0 ((rd_T45 l1_4 x8_3).f0).length c162_0, .int .i64 ((rd_T45 l1_4 x8_3).f1), .int .i64 ((rd_T45 l1_4 x8_3).f2), .slice A162_3 ((rd_T45 l1_4 x8_3).f3).length c162_3] 45 (0, 0)) (by (with_reducible repeat (first | refine Z0 ?_ _ | refine Z3 ?_ | refine Z1 ?_ _)); exact BK163.out) hb); have n3_ := Aside0.mk (Z25 (by repeat (first | (with_reducible first | exact HB.out | apply Z7 | apply Z4 | apply Z6 | refine Z8 ?_ GE155.out | refine Z8 ?_ GE156.out | refine Z8 ?_ GE163.out) | exact HB.out)) hb); clear BK155; clear BK156; clear BK163; clear HB; have BK155 := n0_; have BK156 := n1_; have BK163 := n2_; have HB := n3_; clear n0_ n1_ n2_ n3_; (try clear hb); (try clear hb2); (try clear hk); (try clear hi)))
                           go_ret
                           exact ⟨by first | rfl | (simp [Z16, Z15] <;> rfl) | (simp [*, Z16, Z15] <;> rfl), by repeat (first | (with_reducible first | exact HB.out | apply Z7 | apply Z4 | apply Z6 | refine Z8 ?_ GE155.out | refine Z8 ?_ GE156.out | refine Z8 ?_ GE163.out) | exact HB.out)⟩
                   · rw [if_neg c52] at H
                     exact absurd H (by simp)
                 · rw [if_neg c51] at H
                   have c51b0 : decide (x8_3 < (l1_4.length : Int)) = false := decide_eq_false c51
                   clear c51
                   obtain rfl := Option.some.inj H
                   have hnb77 := NB156_155.out
                   have hnc77 := NB155_156.out
                   have hcz78_0 : wr.cell? ⟨gb156, 0, none⟩ = some (.string a1_0) := (Z5 BK156.out 0).trans rfl
                   have hcz78_1 : wr.cell? ⟨gb156, 1, none⟩ = some (.int .i64 a1_1) := (Z5 BK156.out 1).trans rfl
                   have hcz78_2 : wr.cell? ⟨gb156, 2, none⟩ = some (.int .i64 a1_2) := (Z5 BK156.out 2).trans rfl
                   have hcz78_3 : wr.cell? ⟨gb156, 3, none⟩ = some (.int .i64 a1_3) := (Z5 BK156.out 3).trans rfl
                   have hcz78_4 : wr.cell? ⟨gb156, 4, none⟩ = some (.slice A1_4 l1_4.length c1_4) := (Z5 BK156.out 4).trans rfl
                   have hfz78_0 := Z2 BK156.out 0
                   have hfz78_1 := Z2 BK156.out 1
                   have hfz78_2 := Z2 BK156.out 2
                   have hfz78_3 := Z2 BK156.out 3
                   have hfz78_4 := Z2 BK156.out 4
                   go_wp2
                   go_ret
                   exact ⟨by first | rfl | (simp [Z16, Z15] <;> rfl) | (simp [*, Z16, Z15] <;> rfl), by repeat (first | (with_reducible first | exact HB.out | apply Z7 | apply Z4 | apply Z6 | refine Z8 ?_ GE155.out | refine Z8 ?_ GE156.out) | exact HB.out)⟩
           · rw [if_neg c41] at H
             exact absurd H (by simp)
end Go.Proofs.Ytbklmnieakefnaa.Q
namespace Go.Proofs.Ytbklmnieakefnaa.Q
open Go.RowKit Go.Proofs.YtbklmnieakefnaaW.PrintWords Go.Proofs.YtbklmnieakefnaaW.PrintLast Go.Proofs.YtbklmnieakefnaaW.PrintMore
attribute [local go_sem] Z56 Z54 Z61 Z60 Z49 Z48 Z55 Z53
set_option linter.unusedVariables false
set_option linter.unusedSimpArgs false
def cruciblelaw17_May.f (k : Nat) (a0_0 : ByteArray) (a0_1 : Int) (a0_2 : Int) (a0_3 : Int) (l0_4 : List (S45)) : Option (Bool) := if (l0_4.length : Int) ≤ 48 then (if 256 ≤ 4398046511104 then ((crucibleref14_Func.f k (List.replicate 256 z24) 65536 ([] : List (S85)) 0 a0_0 a0_1 a0_2 a0_3 l0_4).bind fun t169 => (some t169)) else (none)) else (some false)
theorem cruciblelaw17_May.mono : ∀ a0 a1 a2 a3 a4 k, LeO (cruciblelaw17_May.f k a0 a1 a2 a3 a4) (cruciblelaw17_May.f (k + 1) a0 a1 a2 a3 a4) := by
 intro a0 a1 a2 a3 a4 k
 unfold cruciblelaw17_May.f
 repeat' first
  | (with_reducible exact crucibleref14_Func.mono _ _ _ _ _ _ _ _ _ _)
  | (with_reducible exact LeO.refl _)
  | (with_reducible exact LeO.none _)
  | (with_reducible refine LeO.ite ?_ ?_)
  | (with_reducible refine LeO.bind ?_ (fun _ => ?_))
  | exact crucibleref14_Func.mono _ _ _ _ _ _ _ _ _ _
  | exact LeO.none _
  | refine LeO.ite ?_ ?_
  | refine LeO.bind ?_ (fun _ => ?_)
def cruciblelaw17_May.T1 : Bool × List (List Nat × List Nat) := (true, [([], []), ([0], [0]), ([1], [1]), ([2], [2]), ([3], [3]), ([4], [4]), ([5, 4], [4, 5]), ([4], [4]), ([6, 7, 4, 4], [4, 6, 7]), ([4, 8], [4, 8]), ([9, 8, 0, 1, 2, 3, 4, 5, 6, 7, 8, 9], [9])])
def cruciblelaw17_May.B1 : List Nat := [0, 1, 3, 7, 15, 31, 63, 31, 255, 511, 1023]
theorem cruciblelaw17_May.tab1 : rtab .any (opsOf Try.f11 1) = cruciblelaw17_May.T1 := by kernel_rfl
theorem cruciblelaw17_May.bits1 : waitsOk cruciblelaw17_May.T1.2 cruciblelaw17_May.B1 = true := by kernel_rfl
set_option maxHeartbeats 8000000 in
set_option maxRecDepth 100000 in
theorem cruciblelaw17_May.calls (k : Nat) (a0_0 : ByteArray) (a0_1 : Int) (a0_2 : Int) (a0_3 : Int) (A0_4 : Option Addr) (c0_4 : Nat) (l0_4 : List (S45)) (r : Bool) (w : World) (hr0_4 : Kd.C k45 w A0_4 l0_4.length l0_4) (hc0_4 : l0_4.length ≤ c0_4) (h : cruciblelaw17_May.f k a0_0 a0_1 a0_2 a0_3 l0_4 = some r) :
 Calls Try.prog 11 #[.agg #[.string a0_0, .int .i64 a0_1, .int .i64 a0_2, .int .i64 a0_3, .slice A0_4 l0_4.length c0_4]] w fun e w' => e = .returned (.bool r) ∧ Below w.heap.size w w' := by
 have hu24 := Try.underlying24
 have hu50 := Try.underlying50
 have HR0_4 := Aside0.mk hr0_4
 have HC0_4 := Aside0.mk hc0_4
 clear hr0_4 hc0_4
 have HB := Aside0.mk (Below.refl w.heap.size w)
 have H : (if (l0_4.length : Int) ≤ 48 then (if 256 ≤ 4398046511104 then ((crucibleref14_Func.f k (List.replicate 256 z24) 65536 ([] : List (S85)) 0 a0_0 a0_1 a0_2 a0_3 l0_4).bind fun t169 => (some t169)) else (none)) else (some false)) = some r := h
 clear h
 by_cases c2 : (l0_4.length : Int) ≤ 48
 · rw [if_pos c2] at H
   have c2b0 : decide ((l0_4.length : Int) ≤ 48) = true := decide_eq_true c2
   have c2b1 : decide (l0_4.length ≤ 48) = true := decide_eq_true (by omega)
   clear c2
   by_cases c3 : 256 ≤ 4398046511104
   · rw [if_pos c3] at H
     have c3b0 := eq_true c3
     have c3b1 : decide (256 ≤ 4398046511104) = true := decide_eq_true c3
     clear c3
     obtain ⟨y166, hy166⟩ : ∃ y_ : List (S24), y_ = (List.replicate 256 z24) := ⟨_, rfl⟩
     replace H : ((crucibleref14_Func.f k y166 65536 ([] : List (S85)) 0 a0_0 a0_1 a0_2 a0_3 l0_4).bind fun t169 => (some t169)) = some r := by first | (rw [hy166]; with_reducible exact H) | (have H2_ := (Option.bind_some _ _).symm.trans H; rw [hy166]; with_reducible exact H2_) | (have H2_ := (Option.bind_some _ _).symm.trans H; with_reducible exact H2_) | with_reducible exact H | (rw [hy166]; exact H) | exact H
     have Ny166 := Aside0.mk hy166
     clear hy166
     replace H := Option.bind_eq_some_iff.mp H
     obtain ⟨t169, A40, H⟩ := H
     replace H : (some t169) = some r := H
     have A4 := Aside0.mk A40
     clear A40
     obtain rfl := Option.some.inj H
     go_enter Try.func11, Try.ntmps11
     try go_wp2_with (first | ((with_reducible refine Z52 (N := 1) rfl ?_); (try (refine Z66 (by rfl) ?_; dsimp only)); refine Z51 ?hg (N := 1) ?hd (cs := #[.string a0_0, .int .i64 a0_1, .int .i64 a0_2, .int .i64 a0_3, .slice A0_4 l0_4.length c0_4]) (t := 24) ?hr ?_; (case hd => rfl); (case hg => rfl); (case hr => first | (go_simp; done) | (go_simp; rfl)); intro gb165 hg w5 hbox hb; have n0_ := Aside0.mk (Z25 (by repeat (first | (with_reducible first | exact HB.out | apply Z7 | apply Z4 | apply Z6) | exact HB.out)) hb); have n1_ := Aside0.mk (hbox); have n2_ := Aside0.mk ((by rw [hg]; exact (Z27 (by repeat (first | (with_reducible first | exact HB.out | apply Z7 | apply Z4 | apply Z6) | exact HB.out))) : w.heap.size ≤ gb165)); have n3_ := Aside0.mk ((by rw [hg]; exact (Z27 (by repeat (first | (with_reducible first | exact HB.out | apply Z7 | apply Z4 | apply Z6) | exact HB.out))) : w.heap.size ≤ gb165)); clear HB; have HB := n0_; have BK165 := n1_; have GW165 := n2_; have GE165 := n3_; clear n0_ n1_ n2_ n3_; clear hb hbox hg))
     have n0_ := Aside0.mk (Z3 BK165.out)
     have n1_ := Aside0.mk (Z6 HB.out)
     clear BK165
     clear HB
     have BK165 := n0_
     have HB := n1_
     clear n0_ n1_
     refine start_ (n := 11) (S := fun w' => w'.cell? ⟨gb165, 0, none⟩ = some (.string a0_0) ∧ w'.cell? ⟨gb165, 1, none⟩ = some (.int .i64 a0_1) ∧ w'.cell? ⟨gb165, 2, none⟩ = some (.int .i64 a0_2) ∧ w'.cell? ⟨gb165, 3, none⟩ = some (.int .i64 a0_3) ∧ w'.cell? ⟨gb165, 4, none⟩ = some (.slice A0_4 l0_4.length c0_4)) (ds := []) #[false, false, false, false, false, false, false, false, false, false, false] (by kernel_rfl) rfl rfl ⟨(Z5 BK165.out 0).trans rfl, (Z5 BK165.out 1).trans rfl, (Z5 BK165.out 2).trans rfl, (Z5 BK165.out 3).trans rfl, (Z5 BK165.out 4).trans rfl⟩ (fun hHeld => ?_); refine Z74 cruciblelaw17_May.tab1 cruciblelaw17_May.bits1 (fun HT_ HW_ => ?_)
     generalize w5.drew = w6 at BK165 HB hHeld ⊢
     refine pure_ (i := 0) (N := some 3) (v := ?_) (a' := ?_) #[true, false, false, false, false, false, false, false, false, false, false] rfl rfl (any_of HT_.out (by kernel_rfl)) (fun _ _ _ h => h) (Or.inl ⟨by rfl, ?_⟩) ?_ ?_
     rotate_left
     · intro w'
       go_simp
       with_reducible rfl
     rotate_left
     · simp only [Act.put, List.setIfInBounds_toArray, List.set_cons_zero, List.set_cons_succ, i64_w, i32_w]
       rfl
     refine take_ (i := 1) (N := some 4) (v := ?_) (a' := ?_) #[true, true, false, false, false, false, false, false, false, false, false] rfl rfl (Z67 HT_.out HW_.out (by kernel_rfl)) (fun _ _ _ h => h) (Or.inl ⟨by rfl, ?_⟩) hHeld ?_ ?_
     rotate_left
     · rintro w' ⟨s0, s1, s2, s3, s4⟩
       go_simp
       with_reducible rfl
     rotate_left
     · simp only [Act.put, List.setIfInBounds_toArray, List.set_cons_zero, List.set_cons_succ, i64_w, i32_w]
       rfl
     refine pure_ (i := 2) (N := some 5) (v := ?_) (a' := ?_) #[true, true, true, false, false, false, false, false, false, false, false] rfl rfl (any_of HT_.out (by kernel_rfl)) (fun _ _ _ h => h) (Or.inl ⟨by rfl, ?_⟩) ?_ ?_
     rotate_left
     · intro w'
       go_simp
       with_reducible rfl
     rotate_left
     · simp only [Act.put, List.setIfInBounds_toArray, List.set_cons_zero, List.set_cons_succ, i64_w, i32_w]
       rfl
     refine pure_ (i := 3) (N := some 6) (v := ?_) (a' := ?_) #[true, true, true, true, false, false, false, false, false, false, false] rfl rfl (any_of HT_.out (by kernel_rfl)) (fun _ _ _ h => h) (Or.inl ⟨by rfl, ?_⟩) ?_ ?_
     rotate_left
     · intro w'
       go_simp
       with_reducible rfl
     rotate_left
     · simp only [Act.put, List.setIfInBounds_toArray, List.set_cons_zero, List.set_cons_succ, i64_w, i32_w]
       rfl
     refine pure_ (i := 4) (N := some 7) (v := ?_) (a' := ?_) #[true, true, true, true, true, false, false, false, false, false, false] rfl rfl (any_of HT_.out (by kernel_rfl)) (fun _ _ _ h => h) (Or.inl ⟨by rfl, ?_⟩) ?_ ?_
     rotate_left
     · intro w'
       go_simp
       with_reducible rfl
     rotate_left
     · simp only [Act.put, List.setIfInBounds_toArray, List.set_cons_zero, List.set_cons_succ, i64_w, i32_w]
       rfl
     refine take_ (i := 7) (N := some 10) (v := ?_) (a' := ?_) #[true, true, true, true, true, false, false, true, false, false, false] rfl rfl (Z67 HT_.out HW_.out (by kernel_rfl)) (fun _ _ _ h => h) (Or.inl ⟨by rfl, ?_⟩) hHeld ?_ ?_
     rotate_left
     · rintro w' ⟨s0, s1, s2, s3, s4⟩
       go_simp
       with_reducible rfl
     rotate_left
     · simp only [Act.put, List.setIfInBounds_toArray, List.set_cons_zero, List.set_cons_succ, i64_w, i32_w]
       rfl
     refine one_ (i := 5) (N := some 8) #[true, true, true, true, true, true, false, true, false, false, false] rfl rfl (one_of HT_.out (by kernel_rfl)) (by decide) (fun K hK => ?_)
     refine Kd.R_make_step k24 _ 24 (by rfl) (N := 8) rfl 47 _ _ rfl 256 rfl rfl Try.underlying47 (.agg #[(.string ⟨#[]⟩), (.int .i64 0), (.int .i64 0), (.int .i64 0), (.slice none 0 0)]) 64 info24 rfl (by decide) (by omega) z24 (ok := fun _ => True) (okp := fun _ => True) (k24_mkM _ _ _ z24 (Kd.R_nil _ _ _ _ _)) (fun _ hk => hk) trivial (by omega) (by omega) (Below.refl _ _) (Nat.le_refl _) ?_
     intro v167 w7 ho8 hb hg_ hnew_
     clear hg_ hnew_
     (first | rw [← Ny166.out] at ho8 | (simp only [Int.reduceToNat] at ho8; rw [← Ny166.out] at ho8))
     have n0_ := Aside0.mk (Kd.R_lower (Kd.R_newB ho8 (g := gb165) (o := .cells #[.string a0_0, .int .i64 a0_1, .int .i64 a0_2, .int .i64 a0_3, .slice A0_4 l0_4.length c0_4] 24 (0, 0)) (by (with_reducible repeat (first | refine Z0 ?_ _ | refine Z3 ?_ | refine Z1 ?_ _)); exact BK165.out)) (Z27 (by repeat (first | (with_reducible first | exact HB.out | apply Z7 | apply Z4 | apply Z6 | refine Z8 ?_ GE165.out) | exact HB.out))))
     have n1_ := Aside0.mk (Z40 (g := gb165) (o := .cells #[.string a0_0, .int .i64 a0_1, .int .i64 a0_2, .int .i64 a0_3, .slice A0_4 l0_4.length c0_4] 24 (0, 0)) (by (with_reducible repeat (first | refine Z0 ?_ _ | refine Z3 ?_ | refine Z1 ?_ _)); exact BK165.out) hb)
     have n2_ := Aside0.mk (Z25 (by repeat (first | (with_reducible first | exact HB.out | apply Z7 | apply Z4 | apply Z6 | refine Z8 ?_ GE165.out) | exact HB.out)) hb)
     clear BK165
     clear HB
     have HO168 := n0_
     have BK165 := n1_
     have HB := n2_
     clear n0_ n1_ n2_
     clear hb ho8
     obtain ⟨Ao9, co9, eo9⟩ := Kd.R_slice HO168.out
     (first | subst eo9 | (injection eo9 with f1_ f2_ f3_; have f4_ := f1_.symm; have f5_ := f3_.symm; clear f1_ f2_ f3_; subst f4_; subst f5_))
     refine hK.out _ _ ⟨(Z5 BK165.out 0).trans rfl, (Z5 BK165.out 1).trans rfl, (Z5 BK165.out 2).trans rfl, (Z5 BK165.out 3).trans rfl, (Z5 BK165.out 4).trans rfl⟩ (fun hHeld => ?_)
     clear hK K
     refine norm_ (a' := ?_) ?_ ?_
     rotate_left
     · show Act.put _ (some 8) _ = _
       simp only [Act.put, List.setIfInBounds_toArray, List.set_cons_zero, List.set_cons_succ, i64_w, i32_w]
       rfl
     refine pure_ (i := 6) (N := some 9) (v := ?_) (a' := ?_) #[true, true, true, true, true, true, true, true, false, false, false] rfl rfl (any_of HT_.out (by kernel_rfl)) (fun _ _ _ h => h) (Or.inl ⟨by rfl, ?_⟩) ?_ ?_
     rotate_left
     · intro w'
       go_simp
       with_reducible rfl
     rotate_left
     · simp only [Act.put, List.setIfInBounds_toArray, List.set_cons_zero, List.set_cons_succ, i64_w, i32_w]
       rfl
     refine one_ (i := 8) (N := some 11) #[true, true, true, true, true, true, true, true, true, false, false] rfl rfl (one_of HT_.out (by kernel_rfl)) (by decide) (fun K hK => ?_)
     refine goes_ Try.func25 (by kernel_rfl) rfl #[.agg #[.slice Ao9 y166.length co9, .int .i64 65536, .slice none 0 0, .int .i64 0], .agg #[.string a0_0, .int .i64 a0_1, .int .i64 a0_2, .int .i64 a0_3, .slice A0_4 l0_4.length c0_4]] (by rfl) rfl rfl (by (try simp only [List.map_toArray, List.map_cons, List.map_nil]); first | done | rfl | (simp only [List.length_drop, List.length_take]; rfl)) ?_
     refine (crucibleref14_Func.calls k _ _ y166 65536 _ _ ([] : List (S85)) 0 a0_0 a0_1 a0_2 a0_3 _ _ l0_4 t169 _ ?side1 ?side2 ?side3 ?side4 ?side5 ?side6 A4.out).mono ?_
     (case side1 => repeat (first | exact (Kd.R_reads' HO168.out).2.2 | (with_reducible refine Kd.C_alloc ?_ _) | (with_reducible refine Kd.C_drewN ?_ _) | (with_reducible refine Kd.C_drew ?_)))
     (case side2 => exact (Kd.R_reads' HO168.out).2.1)
     (case side3 => exact Kd.C_nil _ _)
     (case side4 => exact Nat.le_refl _)
     (case side5 => repeat (first | exact (Kd.C_below HR0_4.out HB.out) | (with_reducible refine Kd.C_alloc ?_ _) | (with_reducible refine Kd.C_drewN ?_ _) | (with_reducible refine Kd.C_drew ?_)))
     (case side6 => exact HC0_4.out)
     rintro e w10 ⟨rfl, hb⟩
     refine ⟨_, rfl, ?_⟩
     have n0_ := Aside0.mk (Kd.R_below (by (with_reducible repeat (first | apply Kd.R_alloc | apply Kd.R_drewN | apply Kd.R_drew)); exact HO168.out) hb)
     have n1_ := Aside0.mk (Z40 (g := gb165) (o := .cells #[.string a0_0, .int .i64 a0_1, .int .i64 a0_2, .int .i64 a0_3, .slice A0_4 l0_4.length c0_4] 24 (0, 0)) (by (with_reducible repeat (first | refine Z0 ?_ _ | refine Z3 ?_ | refine Z1 ?_ _)); exact BK165.out) hb)
     have n2_ := Aside0.mk (Z25 (by repeat (first | (with_reducible first | exact HB.out | apply Z7 | apply Z4 | apply Z6 | refine Z8 ?_ GE165.out) | exact HB.out)) hb)
     clear HO168
     clear BK165
     clear HB
     have HO168 := n0_
     have BK165 := n1_
     have HB := n2_
     clear n0_ n1_ n2_
     (try clear hb)
     (try clear hb2)
     (try clear hk)
     (try clear hi)
     refine hK.out _ _ ⟨(Z5 BK165.out 0).trans rfl, (Z5 BK165.out 1).trans rfl, (Z5 BK165.out 2).trans rfl, (Z5 BK165.out 3).trans rfl, (Z5 BK165.out 4).trans rfl⟩ (fun hHeld => ?_)
     clear hK K
     refine norm_ (a' := ?_) ?_ ?_
     rotate_left
     · show Act.put _ (some 11) _ = _
       simp only [Act.put, List.setIfInBounds_toArray, List.set_cons_zero, List.set_cons_succ, i64_w, i32_w]
       rfl
     refine pure_ (i := 9) (N := some 12) (v := ?_) (a' := ?_) #[true, true, true, true, true, true, true, true, true, true, false] rfl rfl (any_of HT_.out (by kernel_rfl)) (fun _ _ _ h => h) (Or.inl ⟨by rfl, ?_⟩) ?_ ?_
     rotate_left
     · intro w'
       go_simp
       with_reducible rfl
     rotate_left
     · simp only [Act.put, List.setIfInBounds_toArray, List.set_cons_zero, List.set_cons_succ, i64_w, i32_w]
       rfl
     refine pure_ (i := 10) (N := some 2) (v := ?_) (a' := ?_) #[true, true, true, true, true, true, true, true, true, true, true] rfl rfl (any_of HT_.out (by kernel_rfl)) (fun _ _ _ h => h) (Or.inl ⟨by rfl, ?_⟩) ?_ ?_
     rotate_left
     · intro w'
       go_simp
       with_reducible rfl
     rotate_left
     · simp only [Act.put, List.setIfInBounds_toArray, List.set_cons_zero, List.set_cons_succ, i64_w, i32_w]
       rfl
     refine done_ (Z83 HT_.out (by kernel_rfl)) ?_
     try go_wp2
     go_ret
     exact ⟨by first | rfl | (simp [Z16, Z15] <;> rfl) | (simp [*, Z16, Z15] <;> rfl), by repeat (first | (with_reducible first | exact HB.out | apply Z7 | apply Z4 | apply Z6 | refine Z8 ?_ GE165.out) | exact HB.out)⟩
   · rw [if_neg c3] at H
     exact absurd H (by simp)
 · rw [if_neg c2] at H
   have c2b0 : decide ((l0_4.length : Int) ≤ 48) = false := decide_eq_false c2
   have c2b1 : decide (l0_4.length ≤ 48) = false := decide_eq_false (by omega)
   clear c2
   obtain rfl := Option.some.inj H
   go_enter Try.func11, Try.ntmps11
   try go_wp2_with (first | ((with_reducible refine Z52 (N := 1) rfl ?_); (try (refine Z66 (by rfl) ?_; dsimp only)); refine Z51 ?hg (N := 1) ?hd (cs := #[.string a0_0, .int .i64 a0_1, .int .i64 a0_2, .int .i64 a0_3, .slice A0_4 l0_4.length c0_4]) (t := 24) ?hr ?_; (case hd => rfl); (case hg => rfl); (case hr => first | (go_simp; done) | (go_simp; rfl)); intro gb165 hg w11 hbox hb; have n0_ := Aside0.mk (Z25 (by repeat (first | (with_reducible first | exact HB.out | apply Z7 | apply Z4 | apply Z6) | exact HB.out)) hb); have n1_ := Aside0.mk (hbox); have n2_ := Aside0.mk ((by rw [hg]; exact (Z27 (by repeat (first | (with_reducible first | exact HB.out | apply Z7 | apply Z4 | apply Z6) | exact HB.out))) : w.heap.size ≤ gb165)); have n3_ := Aside0.mk ((by rw [hg]; exact (Z27 (by repeat (first | (with_reducible first | exact HB.out | apply Z7 | apply Z4 | apply Z6) | exact HB.out))) : w.heap.size ≤ gb165)); clear HB; have HB := n0_; have BK165 := n1_; have GW165 := n2_; have GE165 := n3_; clear n0_ n1_ n2_ n3_; clear hb hbox hg))
   have n0_ := Aside0.mk (Z3 BK165.out)
   have n1_ := Aside0.mk (Z6 HB.out)
   clear BK165
   clear HB
   have BK165 := n0_
   have HB := n1_
   clear n0_ n1_
   refine start_ (n := 11) (S := fun w' => w'.cell? ⟨gb165, 0, none⟩ = some (.string a0_0) ∧ w'.cell? ⟨gb165, 1, none⟩ = some (.int .i64 a0_1) ∧ w'.cell? ⟨gb165, 2, none⟩ = some (.int .i64 a0_2) ∧ w'.cell? ⟨gb165, 3, none⟩ = some (.int .i64 a0_3) ∧ w'.cell? ⟨gb165, 4, none⟩ = some (.slice A0_4 l0_4.length c0_4)) (ds := []) #[false, false, false, false, false, false, false, false, false, false, false] (by kernel_rfl) rfl rfl ⟨(Z5 BK165.out 0).trans rfl, (Z5 BK165.out 1).trans rfl, (Z5 BK165.out 2).trans rfl, (Z5 BK165.out 3).trans rfl, (Z5 BK165.out 4).trans rfl⟩ (fun hHeld => ?_); refine Z74 cruciblelaw17_May.tab1 cruciblelaw17_May.bits1 (fun HT_ HW_ => ?_)
   generalize w11.drew = w12 at BK165 HB hHeld ⊢
   refine pure_ (i := 0) (N := some 3) (v := ?_) (a' := ?_) #[true, false, false, false, false, false, false, false, false, false, false] rfl rfl (any_of HT_.out (by kernel_rfl)) (fun _ _ _ h => h) (Or.inl ⟨by rfl, ?_⟩) ?_ ?_
   rotate_left
   · intro w'
     go_simp
     with_reducible rfl
   rotate_left
   · simp only [Act.put, List.setIfInBounds_toArray, List.set_cons_zero, List.set_cons_succ, i64_w, i32_w]
     rfl
   refine take_ (i := 1) (N := some 4) (v := ?_) (a' := ?_) #[true, true, false, false, false, false, false, false, false, false, false] rfl rfl (Z67 HT_.out HW_.out (by kernel_rfl)) (fun _ _ _ h => h) (Or.inl ⟨by rfl, ?_⟩) hHeld ?_ ?_
   rotate_left
   · rintro w' ⟨s0, s1, s2, s3, s4⟩
     go_simp
     with_reducible rfl
   rotate_left
   · simp only [Act.put, List.setIfInBounds_toArray, List.set_cons_zero, List.set_cons_succ, i64_w, i32_w]
     rfl
   refine pure_ (i := 2) (N := some 5) (v := ?_) (a' := ?_) #[true, true, true, false, false, false, false, false, false, false, false] rfl rfl (any_of HT_.out (by kernel_rfl)) (fun _ _ _ h => h) (Or.inl ⟨by rfl, ?_⟩) ?_ ?_
   rotate_left
   · intro w'
     go_simp
     with_reducible rfl
   rotate_left
   · simp only [Act.put, List.setIfInBounds_toArray, List.set_cons_zero, List.set_cons_succ, i64_w, i32_w]
     rfl
   refine pure_ (i := 3) (N := some 6) (v := ?_) (a' := ?_) #[true, true, true, true, false, false, false, false, false, false, false] rfl rfl (any_of HT_.out (by kernel_rfl)) (fun _ _ _ h => h) (Or.inl ⟨by rfl, ?_⟩) ?_ ?_
   rotate_left
   · intro w'
     go_simp
     with_reducible rfl
   rotate_left
   · simp only [Act.put, List.setIfInBounds_toArray, List.set_cons_zero, List.set_cons_succ, i64_w, i32_w]
     rfl
   refine pure_ (i := 4) (N := some 7) (v := ?_) (a' := ?_) #[true, true, true, true, true, false, false, false, false, false, false] rfl rfl (any_of HT_.out (by kernel_rfl)) (fun _ _ _ h => h) (Or.inl ⟨by rfl, ?_⟩) ?_ ?_
   rotate_left
   · intro w'
     go_simp
     with_reducible rfl
   rotate_left
   · simp only [Act.put, List.setIfInBounds_toArray, List.set_cons_zero, List.set_cons_succ, i64_w, i32_w]
     rfl
   refine pure_ (i := 5) (N := some 8) (v := undef) (a' := ?_) #[true, true, true, true, true, true, false, false, false, false, false] rfl rfl (any_of HT_.out (by kernel_rfl)) (fun _ _ _ h => h) (Or.inr ⟨by rfl, rfl⟩) ?_ ?_
   rotate_left
   · simp only [Act.put, List.setIfInBounds_toArray, List.set_cons_zero, List.set_cons_succ, i64_w, i32_w]
     rfl
   refine pure_ (i := 6) (N := some 9) (v := undef) (a' := ?_) #[true, true, true, true, true, true, true, false, false, false, false] rfl rfl (any_of HT_.out (by kernel_rfl)) (fun _ _ _ h => h) (Or.inr ⟨by rfl, rfl⟩) ?_ ?_
   rotate_left
   · simp only [Act.put, List.setIfInBounds_toArray, List.set_cons_zero, List.set_cons_succ, i64_w, i32_w]
     rfl
   refine pure_ (i := 7) (N := some 10) (v := undef) (a' := ?_) #[true, true, true, true, true, true, true, true, false, false, false] rfl rfl (any_of HT_.out (by kernel_rfl)) (fun _ _ _ h => h) (Or.inr ⟨by rfl, rfl⟩) ?_ ?_
   rotate_left
   · simp only [Act.put, List.setIfInBounds_toArray, List.set_cons_zero, List.set_cons_succ, i64_w, i32_w]
     rfl
   refine pure_ (i := 8) (N := some 11) (v := undef) (a' := ?_) #[true, true, true, true, true, true, true, true, true, false, false] rfl rfl (any_of HT_.out (by kernel_rfl)) (fun _ _ _ h => h) (Or.inr ⟨by rfl, rfl⟩) ?_ ?_
   rotate_left
   · simp only [Act.put, List.setIfInBounds_toArray, List.set_cons_zero, List.set_cons_succ, i64_w, i32_w]
     rfl
   refine pure_ (i := 9) (N := some 12) (v := ?_) (a' := ?_) #[true, true, true, true, true, true, true, true, true, true, false] rfl rfl (any_of HT_.out (by kernel_rfl)) (fun _ _ _ h => h) (Or.inl ⟨by rfl, ?_⟩) ?_ ?_
   rotate_left
   · intro w'
     go_simp
     with_reducible rfl
   rotate_left
   · simp only [Act.put, List.setIfInBounds_toArray, List.set_cons_zero, List.set_cons_succ, i64_w, i32_w]
     rfl
   refine pure_ (i := 10) (N := some 2) (v := ?_) (a' := ?_) #[true, true, true, true, true, true, true, true, true, true, true] rfl rfl (any_of HT_.out (by kernel_rfl)) (fun _ _ _ h => h) (Or.inl ⟨by rfl, ?_⟩) ?_ ?_
   rotate_left
   · intro w'
     go_simp
     with_reducible rfl
   rotate_left
   · simp only [Act.put, List.setIfInBounds_toArray, List.set_cons_zero, List.set_cons_succ, i64_w, i32_w]
     rfl
   refine done_ (Z83 HT_.out (by kernel_rfl)) ?_
   try go_wp2
   go_ret
   exact ⟨by first | rfl | (simp [Z16, Z15] <;> rfl) | (simp [*, Z16, Z15] <;> rfl), by repeat (first | (with_reducible first | exact HB.out | apply Z7 | apply Z4 | apply Z6 | refine Z8 ?_ GE165.out) | exact HB.out)⟩
end Go.Proofs.Ytbklmnieakefnaa.Q
