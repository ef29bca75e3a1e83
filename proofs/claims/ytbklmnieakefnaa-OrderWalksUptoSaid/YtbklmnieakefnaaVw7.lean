/- A part of the proof, made small by a program: Qx13, Qx14. -/
import Derived.Test.YtbklmnieakefnaaVw1
namespace Go.Proofs.Ytbklmnieakefnaa.Q
open Go.RowKit Go.Proofs.YtbklmnieakefnaaW.PrintWords Go.Proofs.YtbklmnieakefnaaW.PrintLast Go.Proofs.YtbklmnieakefnaaW.PrintMore
attribute [local go_sem] Z56 Z54 Z61 Z60 Z49 Z48 Z55 Z53
set_option linter.unusedVariables false
set_option linter.unusedSimpArgs false
def ir_within.f (a0 : Int) (a1 : Int) (a2 : Int) : Option (Bool) := if a0 ≥ a1 then (some (decide (a0 ≤ a2))) else (some false)
set_option maxHeartbeats 8000000 in
set_option maxRecDepth 100000 in
theorem ir_within.calls (a0 : Int) (a1 : Int) (a2 : Int) (r : Bool) (w : World) (h : ir_within.f a0 a1 a2 = some r) :
 Calls Try.prog 36 #[.int .i64 a0, .int .i64 a1, .int .i64 a2] w fun e w' => e = .returned (.bool r) ∧ Drawn0 w w' := by
 have H : (if a0 ≥ a1 then (some (decide (a0 ≤ a2))) else (some false)) = some r := h
 clear h
 by_cases c4 : a0 ≥ a1
 · rw [if_pos c4] at H
   have c4b0 : decide (a1 ≤ a0) = true := decide_eq_true c4
   clear c4
   obtain rfl := Option.some.inj H
   go_enter Try.func36, Try.ntmps36
   go_wp2
   go_ret
   exact ⟨by first | rfl | (simp; done) | (simp [*]; done), by repeat (first | exact Drawn0.refl _ | apply Drawn0.step)⟩
 · rw [if_neg c4] at H
   have c4b0 : decide (a1 ≤ a0) = false := decide_eq_false c4
   clear c4
   obtain rfl := Option.some.inj H
   go_enter Try.func36, Try.ntmps36
   go_wp2
   go_ret
   exact ⟨by first | rfl | (simp; done) | (simp [*]; done), by repeat (first | exact Drawn0.refl _ | apply Drawn0.step)⟩
end Go.Proofs.Ytbklmnieakefnaa.Q
namespace Go.Proofs.Ytbklmnieakefnaa.Q
open Go.RowKit Go.Proofs.YtbklmnieakefnaaW.PrintWords Go.Proofs.YtbklmnieakefnaaW.PrintLast Go.Proofs.YtbklmnieakefnaaW.PrintMore
attribute [local go_sem] Z56 Z54 Z61 Z60 Z49 Z48 Z55 Z53
set_option linter.unusedVariables false
set_option linter.unusedSimpArgs false
mutual
def ir_Preds.l0 : Nat → List (List Int) → List (S45) → Int → Int → Option ((List (List Int)))
 | 0, _, _, _, _ => none
 | k + 1, x3, x13, x14, x15 => if x15 < x14 then (if 0 ≤ x15 then (if x15 < (x13.length : Int) then (ir_Preds.l1 k x3 x15 x13 x14 x15 ((rd_T45 x13 x15).f3) (((rd_T45 x13 x15).f3).length : Int) 0) else (none)) else (none)) else (some x3)
def ir_Preds.l1 : Nat → List (List Int) → Int → List (S45) → Int → Int → List Int → Int → Int → Option ((List (List Int)))
 | 0, _, _, _, _, _, _, _, _ => none
 | k + 1, x3, x4, x13, x14, x15, x21, x22, x23 => if x23 < x22 then (if 0 ≤ x23 then (if x23 < (x21.length : Int) then ((ir_within.f (rd x21 x23) 0 (wrap64 ((x3.length : Int) - 1))).bind fun t203 => (if t203 = true then (if 0 ≤ (rd x21 x23) then (if (rd x21 x23) < (x3.length : Int) then (if ((rd_L1 x3 (rd x21 x23)).length : Int) = 0 then (if (rd_L1 x3 (rd x21 x23)).length < 17592186044416 then (ir_Preds.l1 k (x3.set ((rd x21 x23) : Int).toNat ((rd_L1 x3 (rd x21 x23)) ++ [x4])) x4 x13 x14 x15 x21 x22 (wrap64 (x23 + 1))) else (none)) else (if 0 ≤ (wrap64 (((rd_L1 x3 (rd x21 x23)).length : Int) - 1)) then (if (wrap64 (((rd_L1 x3 (rd x21 x23)).length : Int) - 1)) < ((rd_L1 x3 (rd x21 x23)).length : Int) then (if (rd (rd_L1 x3 (rd x21 x23)) (wrap64 (((rd_L1 x3 (rd x21 x23)).length : Int) - 1))) = x4 then (ir_Preds.l1 k x3 x4 x13 x14 x15 x21 x22 (wrap64 (x23 + 1))) else (if (rd_L1 x3 (rd x21 x23)).length < 17592186044416 then (ir_Preds.l1 k (x3.set ((rd x21 x23) : Int).toNat ((rd_L1 x3 (rd x21 x23)) ++ [x4])) x4 x13 x14 x15 x21 x22 (wrap64 (x23 + 1))) else (none))) else (none)) else (none))) else (none)) else (none)) else (ir_Preds.l1 k x3 x4 x13 x14 x15 x21 x22 (wrap64 (x23 + 1))))) else (none)) else (none)) else (ir_Preds.l0 k x3 x13 x14 (wrap64 (x15 + 1)))
end
def ir_Preds.f (k : Nat) (a0_0 : ByteArray) (a0_1 : Int) (a0_2 : Int) (a0_3 : Int) (l0_4 : List (S45)) : Option ((List (List Int))) := if 0 ≤ (l0_4.length : Int) then (if ((l0_4.length : Int) : Int).toNat ≤ 11728124029610 then (ir_Preds.l0 k (List.replicate ((l0_4.length : Int) : Int).toNat []) l0_4 (l0_4.length : Int) 0) else (none)) else (none)
theorem ir_Preds.mono_l : ∀ k, (∀ y0 y1 y2 y3, LeO (ir_Preds.l0 k y0 y1 y2 y3) (ir_Preds.l0 (k + 1) y0 y1 y2 y3)) ∧ (∀ y0 y1 y2 y3 y4 y5 y6 y7, LeO (ir_Preds.l1 k y0 y1 y2 y3 y4 y5 y6 y7) (ir_Preds.l1 (k + 1) y0 y1 y2 y3 y4 y5 y6 y7))
 | 0 => ⟨fun _ _ _ _ r h => by simp [ir_Preds.l0] at h, fun _ _ _ _ _ _ _ _ r h => by simp [ir_Preds.l1] at h⟩
 | k + 1 => by
  obtain ⟨ih0, ih1⟩ := ir_Preds.mono_l k
  refine ⟨?_, ?_⟩
  · intro y0 y1 y2 y3
    unfold ir_Preds.l0
    repeat' first
    | (with_reducible exact ih0 _ _ _ _)
    | (with_reducible exact ih1 _ _ _ _ _ _ _ _)
    | (with_reducible exact LeO.refl _)
    | (with_reducible exact LeO.none _)
    | (with_reducible refine LeO.ite ?_ ?_)
    | (with_reducible refine LeO.bind ?_ (fun _ => ?_))
    | exact ih0 _ _ _ _
    | exact ih1 _ _ _ _ _ _ _ _
    | exact LeO.none _
    | refine LeO.ite ?_ ?_
    | refine LeO.bind ?_ (fun _ => ?_)
  · intro y0 y1 y2 y3 y4 y5 y6 y7
    unfold ir_Preds.l1
    repeat' first
    | (with_reducible exact ih0 _ _ _ _)
    | (with_reducible exact ih1 _ _ _ _ _ _ _ _)
    | (with_reducible exact LeO.refl _)
    | (with_reducible exact LeO.none _)
    | (with_reducible refine LeO.ite ?_ ?_)
    | (with_reducible refine LeO.bind ?_ (fun _ => ?_))
    | exact ih0 _ _ _ _
    | exact ih1 _ _ _ _ _ _ _ _
    | exact LeO.none _
    | refine LeO.ite ?_ ?_
    | refine LeO.bind ?_ (fun _ => ?_)
theorem ir_Preds.mono : ∀ a0 a1 a2 a3 a4 k, LeO (ir_Preds.f k a0 a1 a2 a3 a4) (ir_Preds.f (k + 1) a0 a1 a2 a3 a4) := by
 intro a0 a1 a2 a3 a4 k
 obtain ⟨ih0, ih1⟩ := ir_Preds.mono_l k
 unfold ir_Preds.f
 repeat' first
  | (with_reducible exact ih0 _ _ _ _)
  | (with_reducible exact ih1 _ _ _ _ _ _ _ _)
  | (with_reducible exact LeO.refl _)
  | (with_reducible exact LeO.none _)
  | (with_reducible refine LeO.ite ?_ ?_)
  | (with_reducible refine LeO.bind ?_ (fun _ => ?_))
  | exact ih0 _ _ _ _
  | exact ih1 _ _ _ _ _ _ _ _
  | exact LeO.none _
  | refine LeO.ite ?_ ?_
  | refine LeO.bind ?_ (fun _ => ?_)
set_option maxHeartbeats 8000000 in
set_option maxRecDepth 100000 in
theorem ir_Preds.calls (k : Nat) (a0_0 : ByteArray) (a0_1 : Int) (a0_2 : Int) (a0_3 : Int) (A0_4 : Option Addr) (c0_4 : Nat) (l0_4 : List (S45)) (r : List (List Int)) (w : World) (hr0_4 : Kd.C k45 w A0_4 l0_4.length l0_4) (hc0_4 : l0_4.length ≤ c0_4) (h : ir_Preds.f k a0_0 a0_1 a0_2 a0_3 l0_4 = some r) :
 Calls Try.prog 28 #[.agg #[.string a0_0, .int .i64 a0_1, .int .i64 a0_2, .int .i64 a0_3, .slice A0_4 l0_4.length c0_4]] w fun e w' => ∃ v0_ : Value, e = .returned (v0_) ∧ Kd.S (Kd.slice 3 (Kd.int .i64)) 26 w' w.heap.size (fun _ => True) v0_ r ∧ Below w.heap.size w w' := by
 have hu24 := Try.underlying24
 have hu45 := Try.underlying45
 have HR0_4 := Aside0.mk hr0_4
 have HC0_4 := Aside0.mk hc0_4
 clear hr0_4 hc0_4
 have HB := Aside0.mk (Below.refl w.heap.size w)
 have H : (if 0 ≤ (l0_4.length : Int) then (if ((l0_4.length : Int) : Int).toNat ≤ 11728124029610 then (ir_Preds.l0 k (List.replicate ((l0_4.length : Int) : Int).toNat []) l0_4 (l0_4.length : Int) 0) else (none)) else (none)) = some r := h
 clear h
 by_cases c2 : 0 ≤ (l0_4.length : Int)
 · rw [if_pos c2] at H
   have c2b0 := eq_true c2
   have c2b1 : decide (0 ≤ (l0_4.length : Int)) = true := decide_eq_true c2
   clear c2
   by_cases c3 : ((l0_4.length : Int) : Int).toNat ≤ 11728124029610
   · rw [if_pos c3] at H
     have c3b0 := eq_true c3
     have c3b1 : decide (((l0_4.length : Int) : Int).toNat ≤ 11728124029610) = true := decide_eq_true c3
     clear c3
     obtain ⟨y197, hy197⟩ : ∃ y_ : List (List Int), y_ = (List.replicate ((l0_4.length : Int) : Int).toNat []) := ⟨_, rfl⟩
     replace H : (ir_Preds.l0 k y197 l0_4 (l0_4.length : Int) 0) = some r := by first | (rw [hy197]; with_reducible exact H) | (have H2_ := (Option.bind_some _ _).symm.trans H; rw [hy197]; with_reducible exact H2_) | (have H2_ := (Option.bind_some _ _).symm.trans H; with_reducible exact H2_) | with_reducible exact H | (rw [hy197]; exact H) | exact H
     have Ny197 := Aside0.mk hy197
     clear hy197
     have H' := Aside0.mk H
     clear H
     go_enter Try.func28, Try.ntmps28
     go_wp2_with (first | ((with_reducible refine Z52 (N := 1) rfl ?_); (try (refine Z66 (by rfl) ?_; dsimp only)); refine Z51 ?hg (N := 1) ?hd (cs := #[.string a0_0, .int .i64 a0_1, .int .i64 a0_2, .int .i64 a0_3, .slice A0_4 l0_4.length c0_4]) (t := 24) ?hr ?_; (case hd => rfl); (case hg => rfl); (case hr => first | (go_simp; done) | (go_simp; rfl)); intro gb196 hg w4 hbox hb; have n0_ := Aside0.mk (Z25 (by repeat (first | (with_reducible first | exact HB.out | apply Z7 | apply Z4 | apply Z6) | exact HB.out)) hb); have n1_ := Aside0.mk (hbox); have n2_ := Aside0.mk ((by rw [hg]; exact (Z27 (by repeat (first | (with_reducible first | exact HB.out | apply Z7 | apply Z4 | apply Z6) | exact HB.out))) : w.heap.size ≤ gb196)); have n3_ := Aside0.mk ((by rw [hg]; exact (Z27 (by repeat (first | (with_reducible first | exact HB.out | apply Z7 | apply Z4 | apply Z6) | exact HB.out))) : w.heap.size ≤ gb196)); clear HB; have HB := n0_; have BK196 := n1_; have GW196 := n2_; have GE196 := n3_; clear n0_ n1_ n2_ n3_; clear hb hbox hg; have hcz5_0 : w4.cell? ⟨gb196, 0, none⟩ = some (.string a0_0) := (Z5 BK196.out 0).trans rfl; have hcz5_1 : w4.cell? ⟨gb196, 1, none⟩ = some (.int .i64 a0_1) := (Z5 BK196.out 1).trans rfl; have hcz5_2 : w4.cell? ⟨gb196, 2, none⟩ = some (.int .i64 a0_2) := (Z5 BK196.out 2).trans rfl; have hcz5_3 : w4.cell? ⟨gb196, 3, none⟩ = some (.int .i64 a0_3) := (Z5 BK196.out 3).trans rfl; have hcz5_4 : w4.cell? ⟨gb196, 4, none⟩ = some (.slice A0_4 l0_4.length c0_4) := (Z5 BK196.out 4).trans rfl; have hfz5_0 := Z2 BK196.out 0; have hfz5_1 := Z2 BK196.out 1; have hfz5_2 := Z2 BK196.out 2; have hfz5_3 := Z2 BK196.out 3; have hfz5_4 := Z2 BK196.out 4) | ((with_reducible refine Z52 (N := 11) rfl ?_); (try (refine Z66 (by rfl) ?_; dsimp only)); refine Kd.S_make (Kd.slice 3 (Kd.int .i64)) _ 26 rfl (N := 11) rfl 36 _ _ rfl (l0_4.length : Int) rfl rfl Try.underlying36 (.slice none 0 0) 24 info26 rfl (by decide) (by omega) [] (ok := fun _ => True) (okp := fun _ => True) ⟨_, rfl, Kd.R_nil _ _ _ _ _⟩ (fun _ hk => hk) trivial (of_decide_eq_true (by first | (with_reducible assumption) | assumption)) (Nat.le_trans (Nat.mul_le_mul_right _ (of_decide_eq_true (by first | (with_reducible assumption) | assumption) : (l0_4.length : Int).toNat ≤ 11728124029610)) (by omega)) (Below.refl _ _) (Nat.le_refl _) ?_; intro v198 w6 ho7 hb hg_ hnew_; clear hg_ hnew_; (first | rw [← Ny197.out] at ho7 | (simp only [Int.reduceToNat] at ho7; rw [← Ny197.out] at ho7)); have n0_ := Aside0.mk (Kd.S_lower ho7 (Z27 (by repeat (first | (with_reducible first | exact HB.out | apply Z7 | apply Z4 | apply Z6 | refine Z8 ?_ GE196.out) | exact HB.out)))); have n1_ := Aside0.mk (Z40 (g := gb196) (o := .cells #[.string a0_0, .int .i64 a0_1, .int .i64 a0_2, .int .i64 a0_3, .slice A0_4 l0_4.length c0_4] 24 (0, 0)) (by (with_reducible repeat (first | refine Z0 ?_ _ | refine Z3 ?_ | refine Z1 ?_ _)); exact BK196.out) hb); have n2_ := Aside0.mk (Z25 (by repeat (first | (with_reducible first | exact HB.out | apply Z7 | apply Z4 | apply Z6 | refine Z8 ?_ GE196.out) | exact HB.out)) hb); clear BK196; clear HB; have HO199 := n0_; have BK196 := n1_; have HB := n2_; clear n0_ n1_ n2_; clear hb ho7; have hcz8_0 : w6.cell? ⟨gb196, 0, none⟩ = some (.string a0_0) := (Z5 BK196.out 0).trans rfl; have hcz8_1 : w6.cell? ⟨gb196, 1, none⟩ = some (.int .i64 a0_1) := (Z5 BK196.out 1).trans rfl; have hcz8_2 : w6.cell? ⟨gb196, 2, none⟩ = some (.int .i64 a0_2) := (Z5 BK196.out 2).trans rfl; have hcz8_3 : w6.cell? ⟨gb196, 3, none⟩ = some (.int .i64 a0_3) := (Z5 BK196.out 3).trans rfl; have hcz8_4 : w6.cell? ⟨gb196, 4, none⟩ = some (.slice A0_4 l0_4.length c0_4) := (Z5 BK196.out 4).trans rfl; have hfz8_0 := Z2 BK196.out 0; have hfz8_1 := Z2 BK196.out 1; have hfz8_2 := Z2 BK196.out 2; have hfz8_3 := Z2 BK196.out 3; have hfz8_4 := Z2 BK196.out 4))
     repeat (go_quiet (first | ((with_reducible refine Z52 (N := 1) rfl ?_); (try (refine Z66 (by rfl) ?_; dsimp only)); refine Z51 ?hg (N := 1) ?hd (cs := #[.string a0_0, .int .i64 a0_1, .int .i64 a0_2, .int .i64 a0_3, .slice A0_4 l0_4.length c0_4]) (t := 24) ?hr ?_; (case hd => rfl); (case hg => rfl); (case hr => first | (go_simp; done) | (go_simp; rfl)); intro gb196 hg w4 hbox hb; have n0_ := Aside0.mk (Z25 (by repeat (first | (with_reducible first | exact HB.out | apply Z7 | apply Z4 | apply Z6) | exact HB.out)) hb); have n1_ := Aside0.mk (hbox); have n2_ := Aside0.mk ((by rw [hg]; exact (Z27 (by repeat (first | (with_reducible first | exact HB.out | apply Z7 | apply Z4 | apply Z6) | exact HB.out))) : w.heap.size ≤ gb196)); have n3_ := Aside0.mk ((by rw [hg]; exact (Z27 (by repeat (first | (with_reducible first | exact HB.out | apply Z7 | apply Z4 | apply Z6) | exact HB.out))) : w.heap.size ≤ gb196)); clear HB; have HB := n0_; have BK196 := n1_; have GW196 := n2_; have GE196 := n3_; clear n0_ n1_ n2_ n3_; clear hb hbox hg; have hcz5_0 : w4.cell? ⟨gb196, 0, none⟩ = some (.string a0_0) := (Z5 BK196.out 0).trans rfl; have hcz5_1 : w4.cell? ⟨gb196, 1, none⟩ = some (.int .i64 a0_1) := (Z5 BK196.out 1).trans rfl; have hcz5_2 : w4.cell? ⟨gb196, 2, none⟩ = some (.int .i64 a0_2) := (Z5 BK196.out 2).trans rfl; have hcz5_3 : w4.cell? ⟨gb196, 3, none⟩ = some (.int .i64 a0_3) := (Z5 BK196.out 3).trans rfl; have hcz5_4 : w4.cell? ⟨gb196, 4, none⟩ = some (.slice A0_4 l0_4.length c0_4) := (Z5 BK196.out 4).trans rfl; have hfz5_0 := Z2 BK196.out 0; have hfz5_1 := Z2 BK196.out 1; have hfz5_2 := Z2 BK196.out 2; have hfz5_3 := Z2 BK196.out 3; have hfz5_4 := Z2 BK196.out 4) | ((with_reducible refine Z52 (N := 11) rfl ?_); (try (refine Z66 (by rfl) ?_; dsimp only)); refine Kd.S_make (Kd.slice 3 (Kd.int .i64)) _ 26 rfl (N := 11) rfl 36 _ _ rfl (l0_4.length : Int) rfl rfl Try.underlying36 (.slice none 0 0) 24 info26 rfl (by decide) (by omega) [] (ok := fun _ => True) (okp := fun _ => True) ⟨_, rfl, Kd.R_nil _ _ _ _ _⟩ (fun _ hk => hk) trivial (of_decide_eq_true (by first | (with_reducible assumption) | assumption)) (Nat.le_trans (Nat.mul_le_mul_right _ (of_decide_eq_true (by first | (with_reducible assumption) | assumption) : (l0_4.length : Int).toNat ≤ 11728124029610)) (by omega)) (Below.refl _ _) (Nat.le_refl _) ?_; intro v198 w6 ho7 hb hg_ hnew_; clear hg_ hnew_; (first | rw [← Ny197.out] at ho7 | (simp only [Int.reduceToNat] at ho7; rw [← Ny197.out] at ho7)); have n0_ := Aside0.mk (Kd.S_lower ho7 (Z27 (by repeat (first | (with_reducible first | exact HB.out | apply Z7 | apply Z4 | apply Z6 | refine Z8 ?_ GE196.out) | exact HB.out)))); have n1_ := Aside0.mk (Z40 (g := gb196) (o := .cells #[.string a0_0, .int .i64 a0_1, .int .i64 a0_2, .int .i64 a0_3, .slice A0_4 l0_4.length c0_4] 24 (0, 0)) (by (with_reducible repeat (first | refine Z0 ?_ _ | refine Z3 ?_ | refine Z1 ?_ _)); exact BK196.out) hb); have n2_ := Aside0.mk (Z25 (by repeat (first | (with_reducible first | exact HB.out | apply Z7 | apply Z4 | apply Z6 | refine Z8 ?_ GE196.out) | exact HB.out)) hb); clear BK196; clear HB; have HO199 := n0_; have BK196 := n1_; have HB := n2_; clear n0_ n1_ n2_; clear hb ho7; have hcz8_0 : w6.cell? ⟨gb196, 0, none⟩ = some (.string a0_0) := (Z5 BK196.out 0).trans rfl; have hcz8_1 : w6.cell? ⟨gb196, 1, none⟩ = some (.int .i64 a0_1) := (Z5 BK196.out 1).trans rfl; have hcz8_2 : w6.cell? ⟨gb196, 2, none⟩ = some (.int .i64 a0_2) := (Z5 BK196.out 2).trans rfl; have hcz8_3 : w6.cell? ⟨gb196, 3, none⟩ = some (.int .i64 a0_3) := (Z5 BK196.out 3).trans rfl; have hcz8_4 : w6.cell? ⟨gb196, 4, none⟩ = some (.slice A0_4 l0_4.length c0_4) := (Z5 BK196.out 4).trans rfl; have hfz8_0 := Z2 BK196.out 0; have hfz8_1 := Z2 BK196.out 1; have hfz8_2 := Z2 BK196.out 2; have hfz8_3 := Z2 BK196.out 3; have hfz8_4 := Z2 BK196.out 4)); try go_wp2_with (first | ((with_reducible refine Z52 (N := 1) rfl ?_); (try (refine Z66 (by rfl) ?_; dsimp only)); refine Z51 ?hg (N := 1) ?hd (cs := #[.string a0_0, .int .i64 a0_1, .int .i64 a0_2, .int .i64 a0_3, .slice A0_4 l0_4.length c0_4]) (t := 24) ?hr ?_; (case hd => rfl); (case hg => rfl); (case hr => first | (go_simp; done) | (go_simp; rfl)); intro gb196 hg w4 hbox hb; have n0_ := Aside0.mk (Z25 (by repeat (first | (with_reducible first | exact HB.out | apply Z7 | apply Z4 | apply Z6) | exact HB.out)) hb); have n1_ := Aside0.mk (hbox); have n2_ := Aside0.mk ((by rw [hg]; exact (Z27 (by repeat (first | (with_reducible first | exact HB.out | apply Z7 | apply Z4 | apply Z6) | exact HB.out))) : w.heap.size ≤ gb196)); have n3_ := Aside0.mk ((by rw [hg]; exact (Z27 (by repeat (first | (with_reducible first | exact HB.out | apply Z7 | apply Z4 | apply Z6) | exact HB.out))) : w.heap.size ≤ gb196)); clear HB; have HB := n0_; have BK196 := n1_; have GW196 := n2_; have GE196 := n3_; clear n0_ n1_ n2_ n3_; clear hb hbox hg; have hcz5_0 : w4.cell? ⟨gb196, 0, none⟩ = some (.string a0_0) := (Z5 BK196.out 0).trans rfl; have hcz5_1 : w4.cell? ⟨gb196, 1, none⟩ = some (.int .i64 a0_1) := (Z5 BK196.out 1).trans rfl; have hcz5_2 : w4.cell? ⟨gb196, 2, none⟩ = some (.int .i64 a0_2) := (Z5 BK196.out 2).trans rfl; have hcz5_3 : w4.cell? ⟨gb196, 3, none⟩ = some (.int .i64 a0_3) := (Z5 BK196.out 3).trans rfl; have hcz5_4 : w4.cell? ⟨gb196, 4, none⟩ = some (.slice A0_4 l0_4.length c0_4) := (Z5 BK196.out 4).trans rfl; have hfz5_0 := Z2 BK196.out 0; have hfz5_1 := Z2 BK196.out 1; have hfz5_2 := Z2 BK196.out 2; have hfz5_3 := Z2 BK196.out 3; have hfz5_4 := Z2 BK196.out 4) | ((with_reducible refine Z52 (N := 11) rfl ?_); (try (refine Z66 (by rfl) ?_; dsimp only)); refine Kd.S_make (Kd.slice 3 (Kd.int .i64)) _ 26 rfl (N := 11) rfl 36 _ _ rfl (l0_4.length : Int) rfl rfl Try.underlying36 (.slice none 0 0) 24 info26 rfl (by decide) (by omega) [] (ok := fun _ => True) (okp := fun _ => True) ⟨_, rfl, Kd.R_nil _ _ _ _ _⟩ (fun _ hk => hk) trivial (of_decide_eq_true (by first | (with_reducible assumption) | assumption)) (Nat.le_trans (Nat.mul_le_mul_right _ (of_decide_eq_true (by first | (with_reducible assumption) | assumption) : (l0_4.length : Int).toNat ≤ 11728124029610)) (by omega)) (Below.refl _ _) (Nat.le_refl _) ?_; intro v198 w6 ho7 hb hg_ hnew_; clear hg_ hnew_; (first | rw [← Ny197.out] at ho7 | (simp only [Int.reduceToNat] at ho7; rw [← Ny197.out] at ho7)); have n0_ := Aside0.mk (Kd.S_lower ho7 (Z27 (by repeat (first | (with_reducible first | exact HB.out | apply Z7 | apply Z4 | apply Z6 | refine Z8 ?_ GE196.out) | exact HB.out)))); have n1_ := Aside0.mk (Z40 (g := gb196) (o := .cells #[.string a0_0, .int .i64 a0_1, .int .i64 a0_2, .int .i64 a0_3, .slice A0_4 l0_4.length c0_4] 24 (0, 0)) (by (with_reducible repeat (first | refine Z0 ?_ _ | refine Z3 ?_ | refine Z1 ?_ _)); exact BK196.out) hb); have n2_ := Aside0.mk (Z25 (by repeat (first | (with_reducible first | exact HB.out | apply Z7 | apply Z4 | apply Z6 | refine Z8 ?_ GE196.out) | exact HB.out)) hb); clear BK196; clear HB; have HO199 := n0_; have BK196 := n1_; have HB := n2_; clear n0_ n1_ n2_; clear hb ho7; have hcz8_0 : w6.cell? ⟨gb196, 0, none⟩ = some (.string a0_0) := (Z5 BK196.out 0).trans rfl; have hcz8_1 : w6.cell? ⟨gb196, 1, none⟩ = some (.int .i64 a0_1) := (Z5 BK196.out 1).trans rfl; have hcz8_2 : w6.cell? ⟨gb196, 2, none⟩ = some (.int .i64 a0_2) := (Z5 BK196.out 2).trans rfl; have hcz8_3 : w6.cell? ⟨gb196, 3, none⟩ = some (.int .i64 a0_3) := (Z5 BK196.out 3).trans rfl; have hcz8_4 : w6.cell? ⟨gb196, 4, none⟩ = some (.slice A0_4 l0_4.length c0_4) := (Z5 BK196.out 4).trans rfl; have hfz8_0 := Z2 BK196.out 0; have hfz8_1 := Z2 BK196.out 1; have hfz8_2 := Z2 BK196.out 2; have hfz8_3 := Z2 BK196.out 3; have hfz8_4 := Z2 BK196.out 4)))
     go_loopg [15] k (fun kq v15 w' => ∃ (x3_1 : List (List Int)) (x15_1 : Int), v15 = .int .i64 x15_1 ∧ Aside0 (ir_Preds.l0 kq x3_1 l0_4 (l0_4.length : Int) x15_1 = some r) ∧ Aside0 (kq ≤ k) ∧ Aside0 (Kd.S (Kd.slice 3 (Kd.int .i64)) 26 w' w.heap.size (fun _ => True) v198 x3_1) ∧ Aside0 (w'.heap[gb196]? = some (.cells #[.string a0_0, .int .i64 a0_1, .int .i64 a0_2, .int .i64 a0_3, (.slice A0_4 l0_4.length c0_4)] 24 (0, 0))) ∧ Aside0 (Below w.heap.size w w'))
     case atStart => exact ⟨(y197), (0), (by first | rfl | (simp; done) | (simp [*]; done)), H', ⟨Nat.le_refl _⟩, ⟨by (with_reducible repeat (first | apply Kd.S_alloc | apply Kd.S_drewN | apply Kd.S_drew)); exact HO199.out⟩, ⟨by (with_reducible repeat (first | refine Z0 ?_ _ | refine Z3 ?_ | refine Z1 ?_ _)); exact BK196.out⟩, ⟨by repeat (first | (with_reducible first | exact HB.out | apply Z7 | apply Z4 | apply Z6 | refine Z8 ?_ GE196.out) | exact HB.out)⟩⟩
     case round =>
      clear H'
      try clear c2
      try clear c2b0
      try clear c2b1
      try clear c3
      try clear c3b0
      try clear c3b1
      try clear hcz5_0
      try clear hcz5_1
      try clear hcz5_2
      try clear hcz5_3
      try clear hcz5_4
      try clear hcz8_0
      try clear hcz8_1
      try clear hcz8_2
      try clear hcz8_3
      try clear hcz8_4
      try clear hfz5_0
      try clear hfz5_1
      try clear hfz5_2
      try clear hfz5_3
      try clear hfz5_4
      try clear hfz8_0
      try clear hfz8_1
      try clear hfz8_2
      try clear hfz8_3
      try clear hfz8_4
      obtain ⟨x3_1, x15_1, rfl, HA, HK1, HO_3, BK196, HB⟩ := hrel
      cases gk with
      | zero => exact absurd HA.out (by simp [ir_Preds.l0])
      | succ k1 =>
       have H := HA.out
       clear HA
       simp only [ir_Preds.l0] at H
       by_cases c9 : x15_1 < (l0_4.length : Int)
       · rw [if_pos c9] at H
         have c9b0 : decide (x15_1 < (l0_4.length : Int)) = true := decide_eq_true c9
         clear c9
         by_cases c10 : 0 ≤ x15_1
         · rw [if_pos c10] at H
           have c10b0 : decide (0 ≤ x15_1) = true := decide_eq_true c10
           clear c10
           by_cases c11 : x15_1 < (l0_4.length : Int)
           · rw [if_pos c11] at H
             have c11b0 : decide (x15_1 < (l0_4.length : Int)) = true := decide_eq_true c11
             clear c11
             have H' := Aside0.mk H
             clear H
             have p200 : 0 ≤ (x15_1 : Int) := of_decide_eq_true (by first | (with_reducible assumption) | assumption)
             have q200 : x15_1 < (l0_4.length : Int) := of_decide_eq_true (by first | (with_reducible assumption) | assumption)
             obtain ⟨ad200, A200_0, c200_0, A200_3, c200_3, e200, hx200_0, hx200_1, hx200_2, hx200_3, hl200_0, hi200_0, hl200_3, hi200_3⟩ := at_T45 HR0_4.out x15_1 p200 q200
             cases e200
             replace hx200_0 := (HB.out.cell (World.block_lt_of_cell? w _ hx200_0)).trans hx200_0
             replace hx200_1 := (HB.out.cell (World.block_lt_of_cell? w _ hx200_1)).trans hx200_1
             replace hx200_2 := (HB.out.cell (World.block_lt_of_cell? w _ hx200_2)).trans hx200_2
             replace hx200_3 := (HB.out.cell (World.block_lt_of_cell? w _ hx200_3)).trans hx200_3
             have HR200_0 := Aside0.mk hi200_0
             have HC200_0 := Aside0.mk hl200_0
             clear hi200_0 hl200_0
             have HR200_3 := Aside0.mk hi200_3
             have HC200_3 := Aside0.mk hl200_3
             clear hi200_3 hl200_3
             replace p200 := eq_true p200
             replace q200 := eq_true q200
             go_wp2_with (first | ((with_reducible refine Z52 (N := 5) rfl ?_); (try (refine Z66 (by rfl) ?_; dsimp only)); refine Z51 ?hg (N := 5) ?hd (cs := #[.slice none 0 0, .int .i64 0, .int .i64 0, .slice none 0 0]) (t := 45) ?hr ?_; (case hd => rfl); (case hg => rfl); (case hr => first | (go_simp; done) | (go_simp; rfl)); intro gb201 hg w12 hbox hb; have n0_ := Aside0.mk (Kd.S_below (by (with_reducible repeat (first | apply Kd.S_alloc | apply Kd.S_drewN | apply Kd.S_drew)); exact HO_3.out) hb); have n1_ := Aside0.mk (Z40 (g := gb196) (o := .cells #[.string a0_0, .int .i64 a0_1, .int .i64 a0_2, .int .i64 a0_3, .slice (some ad200) l0_4.length c0_4] 24 (0, 0)) (by (with_reducible repeat (first | refine Z0 ?_ _ | refine Z3 ?_ | refine Z1 ?_ _)); exact BK196.out) hb); have n2_ := Aside0.mk (Z25 (by repeat (first | (with_reducible first | exact HB.out | apply Z7 | apply Z4 | apply Z6 | refine Z8 ?_ GE196.out) | exact HB.out)) hb); have n3_ := Aside0.mk (hbox); have n4_ := Aside0.mk ((by rw [hg]; exact (Z27 (by repeat (first | (with_reducible first | exact HB.out | apply Z7 | apply Z4 | apply Z6 | refine Z8 ?_ GE196.out) | exact HB.out))) : w.heap.size ≤ gb201)); have n5_ := Aside0.mk ((by rw [hg]; exact (Z27 (by repeat (first | (with_reducible first | exact HB.out | apply Z7 | apply Z4 | apply Z6 | refine Z8 ?_ GE196.out) | exact HB.out))) : w.heap.size ≤ gb201)); have n6_ := Aside0.mk ((by rw [hg]; exact Nat.ne_of_lt (blk_lt (g := gb196) (o := .cells #[.string a0_0, .int .i64 a0_1, .int .i64 a0_2, .int .i64 a0_3, .slice (some ad200) l0_4.length c0_4] 24 (0, 0)) (by (with_reducible repeat (first | refine Z0 ?_ _ | refine Z3 ?_ | refine Z1 ?_ _)); exact BK196.out)) : gb196 ≠ gb201)); have n7_ := Aside0.mk ((by rw [hg]; exact Nat.ne_of_gt (blk_lt (g := gb196) (o := .cells #[.string a0_0, .int .i64 a0_1, .int .i64 a0_2, .int .i64 a0_3, .slice (some ad200) l0_4.length c0_4] 24 (0, 0)) (by (with_reducible repeat (first | refine Z0 ?_ _ | refine Z3 ?_ | refine Z1 ?_ _)); exact BK196.out)) : gb201 ≠ gb196)); clear HO_3; clear BK196; clear HB; have HO_3 := n0_; have BK196 := n1_; have HB := n2_; have BK201 := n3_; have GW201 := n4_; have GE201 := n5_; have NB196_201 := n6_; have NB201_196 := n7_; clear n0_ n1_ n2_ n3_ n4_ n5_ n6_ n7_; clear hb hbox hg; have hnb13 := NB201_196.out; have hnc13 := NB196_201.out; have hcz14_0 : w12.cell? ⟨gb201, 0, none⟩ = some (.slice none 0 0) := (Z5 BK201.out 0).trans rfl; have hcz14_1 : w12.cell? ⟨gb201, 1, none⟩ = some (.int .i64 0) := (Z5 BK201.out 1).trans rfl; have hcz14_2 : w12.cell? ⟨gb201, 2, none⟩ = some (.int .i64 0) := (Z5 BK201.out 2).trans rfl; have hcz14_3 : w12.cell? ⟨gb201, 3, none⟩ = some (.slice none 0 0) := (Z5 BK201.out 3).trans rfl; have hfz14_0 := Z2 BK201.out 0; have hfz14_1 := Z2 BK201.out 1; have hfz14_2 := Z2 BK201.out 2; have hfz14_3 := Z2 BK201.out 3))
             repeat (go_quiet (first | ((with_reducible refine Z52 (N := 5) rfl ?_); (try (refine Z66 (by rfl) ?_; dsimp only)); refine Z51 ?hg (N := 5) ?hd (cs := #[.slice none 0 0, .int .i64 0, .int .i64 0, .slice none 0 0]) (t := 45) ?hr ?_; (case hd => rfl); (case hg => rfl); (case hr => first | (go_simp; done) | (go_simp; rfl)); intro gb201 hg w12 hbox hb; have n0_ := Aside0.mk (Kd.S_below (by (with_reducible repeat (first | apply Kd.S_alloc | apply Kd.S_drewN | apply Kd.S_drew)); exact HO_3.out) hb); have n1_ := Aside0.mk (Z40 (g := gb196) (o := .cells #[.string a0_0, .int .i64 a0_1, .int .i64 a0_2, .int .i64 a0_3, .slice (some ad200) l0_4.length c0_4] 24 (0, 0)) (by (with_reducible repeat (first | refine Z0 ?_ _ | refine Z3 ?_ | refine Z1 ?_ _)); exact BK196.out) hb); have n2_ := Aside0.mk (Z25 (by repeat (first | (with_reducible first | exact HB.out | apply Z7 | apply Z4 | apply Z6 | refine Z8 ?_ GE196.out) | exact HB.out)) hb); have n3_ := Aside0.mk (hbox); have n4_ := Aside0.mk ((by rw [hg]; exact (Z27 (by repeat (first | (with_reducible first | exact HB.out | apply Z7 | apply Z4 | apply Z6 | refine Z8 ?_ GE196.out) | exact HB.out))) : w.heap.size ≤ gb201)); have n5_ := Aside0.mk ((by rw [hg]; exact (Z27 (by repeat (first | (with_reducible first | exact HB.out | apply Z7 | apply Z4 | apply Z6 | refine Z8 ?_ GE196.out) | exact HB.out))) : w.heap.size ≤ gb201)); have n6_ := Aside0.mk ((by rw [hg]; exact Nat.ne_of_lt (blk_lt (g := gb196) (o := .cells #[.string a0_0, .int .i64 a0_1, .int .i64 a0_2, .int .i64 a0_3, .slice (some ad200) l0_4.length c0_4] 24 (0, 0)) (by (with_reducible repeat (first | refine Z0 ?_ _ | refine Z3 ?_ | refine Z1 ?_ _)); exact BK196.out)) : gb196 ≠ gb201)); have n7_ := Aside0.mk ((by rw [hg]; exact Nat.ne_of_gt (blk_lt (g := gb196) (o := .cells #[.string a0_0, .int .i64 a0_1, .int .i64 a0_2, .int .i64 a0_3, .slice (some ad200) l0_4.length c0_4] 24 (0, 0)) (by (with_reducible repeat (first | refine Z0 ?_ _ | refine Z3 ?_ | refine Z1 ?_ _)); exact BK196.out)) : gb201 ≠ gb196)); clear HO_3; clear BK196; clear HB; have HO_3 := n0_; have BK196 := n1_; have HB := n2_; have BK201 := n3_; have GW201 := n4_; have GE201 := n5_; have NB196_201 := n6_; have NB201_196 := n7_; clear n0_ n1_ n2_ n3_ n4_ n5_ n6_ n7_; clear hb hbox hg; have hnb13 := NB201_196.out; have hnc13 := NB196_201.out; have hcz14_0 : w12.cell? ⟨gb201, 0, none⟩ = some (.slice none 0 0) := (Z5 BK201.out 0).trans rfl; have hcz14_1 : w12.cell? ⟨gb201, 1, none⟩ = some (.int .i64 0) := (Z5 BK201.out 1).trans rfl; have hcz14_2 : w12.cell? ⟨gb201, 2, none⟩ = some (.int .i64 0) := (Z5 BK201.out 2).trans rfl; have hcz14_3 : w12.cell? ⟨gb201, 3, none⟩ = some (.slice none 0 0) := (Z5 BK201.out 3).trans rfl; have hfz14_0 := Z2 BK201.out 0; have hfz14_1 := Z2 BK201.out 1; have hfz14_2 := Z2 BK201.out 2; have hfz14_3 := Z2 BK201.out 3)); try go_wp2_with (first | ((with_reducible refine Z52 (N := 5) rfl ?_); (try (refine Z66 (by rfl) ?_; dsimp only)); refine Z51 ?hg (N := 5) ?hd (cs := #[.slice none 0 0, .int .i64 0, .int .i64 0, .slice none 0 0]) (t := 45) ?hr ?_; (case hd => rfl); (case hg => rfl); (case hr => first | (go_simp; done) | (go_simp; rfl)); intro gb201 hg w12 hbox hb; have n0_ := Aside0.mk (Kd.S_below (by (with_reducible repeat (first | apply Kd.S_alloc | apply Kd.S_drewN | apply Kd.S_drew)); exact HO_3.out) hb); have n1_ := Aside0.mk (Z40 (g := gb196) (o := .cells #[.string a0_0, .int .i64 a0_1, .int .i64 a0_2, .int .i64 a0_3, .slice (some ad200) l0_4.length c0_4] 24 (0, 0)) (by (with_reducible repeat (first | refine Z0 ?_ _ | refine Z3 ?_ | refine Z1 ?_ _)); exact BK196.out) hb); have n2_ := Aside0.mk (Z25 (by repeat (first | (with_reducible first | exact HB.out | apply Z7 | apply Z4 | apply Z6 | refine Z8 ?_ GE196.out) | exact HB.out)) hb); have n3_ := Aside0.mk (hbox); have n4_ := Aside0.mk ((by rw [hg]; exact (Z27 (by repeat (first | (with_reducible first | exact HB.out | apply Z7 | apply Z4 | apply Z6 | refine Z8 ?_ GE196.out) | exact HB.out))) : w.heap.size ≤ gb201)); have n5_ := Aside0.mk ((by rw [hg]; exact (Z27 (by repeat (first | (with_reducible first | exact HB.out | apply Z7 | apply Z4 | apply Z6 | refine Z8 ?_ GE196.out) | exact HB.out))) : w.heap.size ≤ gb201)); have n6_ := Aside0.mk ((by rw [hg]; exact Nat.ne_of_lt (blk_lt (g := gb196) (o := .cells #[.string a0_0, .int .i64 a0_1, .int .i64 a0_2, .int .i64 a0_3, .slice (some ad200) l0_4.length c0_4] 24 (0, 0)) (by (with_reducible repeat (first | refine Z0 ?_ _ | refine Z3 ?_ | refine Z1 ?_ _)); exact BK196.out)) : gb196 ≠ gb201)); have n7_ := Aside0.mk ((by rw [hg]; exact Nat.ne_of_gt (blk_lt (g := gb196) (o := .cells #[.string a0_0, .int .i64 a0_1, .int .i64 a0_2, .int .i64 a0_3, .slice (some ad200) l0_4.length c0_4] 24 (0, 0)) (by (with_reducible repeat (first | refine Z0 ?_ _ | refine Z3 ?_ | refine Z1 ?_ _)); exact BK196.out)) : gb201 ≠ gb196)); clear HO_3; clear BK196; clear HB; have HO_3 := n0_; have BK196 := n1_; have HB := n2_; have BK201 := n3_; have GW201 := n4_; have GE201 := n5_; have NB196_201 := n6_; have NB201_196 := n7_; clear n0_ n1_ n2_ n3_ n4_ n5_ n6_ n7_; clear hb hbox hg; have hnb13 := NB201_196.out; have hnc13 := NB196_201.out; have hcz14_0 : w12.cell? ⟨gb201, 0, none⟩ = some (.slice none 0 0) := (Z5 BK201.out 0).trans rfl; have hcz14_1 : w12.cell? ⟨gb201, 1, none⟩ = some (.int .i64 0) := (Z5 BK201.out 1).trans rfl; have hcz14_2 : w12.cell? ⟨gb201, 2, none⟩ = some (.int .i64 0) := (Z5 BK201.out 2).trans rfl; have hcz14_3 : w12.cell? ⟨gb201, 3, none⟩ = some (.slice none 0 0) := (Z5 BK201.out 3).trans rfl; have hfz14_0 := Z2 BK201.out 0; have hfz14_1 := Z2 BK201.out 1; have hfz14_2 := Z2 BK201.out 2; have hfz14_3 := Z2 BK201.out 3)))
             go_loopg [23] k1 (fun kq v23 w' => ∃ (x3_2 : List (List Int)) (x23_2 : Int), v23 = .int .i64 x23_2 ∧ Aside0 (ir_Preds.l1 kq x3_2 x15_1 l0_4 (l0_4.length : Int) x15_1 ((rd_T45 l0_4 x15_1).f3) (((rd_T45 l0_4 x15_1).f3).length : Int) x23_2 = some r) ∧ Aside0 (kq ≤ k1) ∧ Aside0 (Kd.S (Kd.slice 3 (Kd.int .i64)) 26 w' w.heap.size (fun _ => True) v198 x3_2) ∧ Aside0 (w'.heap[gb196]? = some (.cells #[.string a0_0, .int .i64 a0_1, .int .i64 a0_2, .int .i64 a0_3, (.slice (some ad200) l0_4.length c0_4)] 24 (0, 0))) ∧ Aside0 (w'.heap[gb201]? = some (.cells #[(.slice A200_0 ((rd_T45 l0_4 x15_1).f0).length c200_0), .int .i64 ((rd_T45 l0_4 x15_1).f1), .int .i64 ((rd_T45 l0_4 x15_1).f2), (.slice A200_3 ((rd_T45 l0_4 x15_1).f3).length c200_3)] 45 (0, 0))) ∧ Aside0 (Below w.heap.size w w'))
             case atStart => exact ⟨(x3_1), (0), (by first | rfl | (simp; done) | (simp [*]; done)), H', ⟨Nat.le_refl _⟩, ⟨by (with_reducible repeat (first | apply Kd.S_alloc | apply Kd.S_drewN | apply Kd.S_drew)); exact Kd.S_mono (Kd.S_far (p := ⟨gb201, 3, none⟩) (Kd.S_far (p := ⟨gb201, 2, none⟩) (Kd.S_far (p := ⟨gb201, 1, none⟩) (Kd.S_far (p := ⟨gb201, 0, none⟩) (Kd.S_types HO_3.out BK201.out (by decide)) (fun _ hk => hk.2) (.slice A200_0 ((rd_T45 l0_4 x15_1).f0).length c200_0)) (fun _ hk => hk.2) (.int .i64 ((rd_T45 l0_4 x15_1).f1))) (fun _ hk => hk.2) (.int .i64 ((rd_T45 l0_4 x15_1).f2))) (fun _ hk => hk.2) (.slice A200_3 ((rd_T45 l0_4 x15_1).f3).length c200_3)) (fun _ hk => trivial)⟩, ⟨by (with_reducible repeat (first | refine Z0 ?_ _ | refine Z3 ?_ | refine Z1 ?_ _)); refine Z22 ?_ NB196_201.out _; (with_reducible repeat (first | refine Z0 ?_ _ | refine Z3 ?_ | refine Z1 ?_ _)); refine Z22 ?_ NB196_201.out _; (with_reducible repeat (first | refine Z0 ?_ _ | refine Z3 ?_ | refine Z1 ?_ _)); refine Z22 ?_ NB196_201.out _; (with_reducible repeat (first | refine Z0 ?_ _ | refine Z3 ?_ | refine Z1 ?_ _)); refine Z22 ?_ NB196_201.out _; (with_reducible repeat (first | refine Z0 ?_ _ | refine Z3 ?_ | refine Z1 ?_ _)); exact BK196.out⟩, ⟨by (with_reducible repeat (first | refine Z0 ?_ _ | refine Z3 ?_ | refine Z1 ?_ _)); refine Z9 (cs := #[.slice A200_0 ((rd_T45 l0_4 x15_1).f0).length c200_0, .int .i64 ((rd_T45 l0_4 x15_1).f1), .int .i64 ((rd_T45 l0_4 x15_1).f2), .slice none 0 0]) ?_ 3 _ rfl; (with_reducible repeat (first | refine Z0 ?_ _ | refine Z3 ?_ | refine Z1 ?_ _)); refine Z9 (cs := #[.slice A200_0 ((rd_T45 l0_4 x15_1).f0).length c200_0, .int .i64 ((rd_T45 l0_4 x15_1).f1), .int .i64 0, .slice none 0 0]) ?_ 2 _ rfl; (with_reducible repeat (first | refine Z0 ?_ _ | refine Z3 ?_ | refine Z1 ?_ _)); refine Z9 (cs := #[.slice A200_0 ((rd_T45 l0_4 x15_1).f0).length c200_0, .int .i64 0, .int .i64 0, .slice none 0 0]) ?_ 1 _ rfl; (with_reducible repeat (first | refine Z0 ?_ _ | refine Z3 ?_ | refine Z1 ?_ _)); refine Z9 (cs := #[.slice none 0 0, .int .i64 0, .int .i64 0, .slice none 0 0]) ?_ 0 _ rfl; (with_reducible repeat (first | refine Z0 ?_ _ | refine Z3 ?_ | refine Z1 ?_ _)); exact BK201.out⟩, ⟨by repeat (first | (with_reducible first | exact HB.out | apply Z7 | apply Z4 | apply Z6 | refine Z8 ?_ GE196.out | refine Z8 ?_ GE201.out) | exact HB.out)⟩⟩
             case round =>
              clear H'
              try clear c2
              try clear c2b0
              try clear c2b1
              try clear c3
              try clear c3b0
              try clear c3b1
              try clear c9
              try clear c9b0
              try clear c10
              try clear c10b0
              try clear c11
              try clear c11b0
              try clear hcz14_0
              try clear hcz14_1
              try clear hcz14_2
              try clear hcz14_3
              try clear hcz5_0
              try clear hcz5_1
              try clear hcz5_2
              try clear hcz5_3
              try clear hcz5_4
              try clear hcz8_0
              try clear hcz8_1
              try clear hcz8_2
              try clear hcz8_3
              try clear hcz8_4
              try clear hfz14_0
              try clear hfz14_1
              try clear hfz14_2
              try clear hfz14_3
              try clear hfz5_0
              try clear hfz5_1
              try clear hfz5_2
              try clear hfz5_3
              try clear hfz5_4
              try clear hfz8_0
              try clear hfz8_1
              try clear hfz8_2
              try clear hfz8_3
              try clear hfz8_4
              try clear hx200_0
              try clear hx200_1
              try clear hx200_2
              try clear hx200_3
              try clear p200
              try clear q200
              obtain ⟨x3_2, x23_2, rfl, HA, HK2, HO_3, BK196, BK201, HB⟩ := hrel
              cases gk with
              | zero => exact absurd HA.out (by simp [ir_Preds.l1])
              | succ k2 =>
               have H := HA.out
               clear HA
               simp only [ir_Preds.l1] at H
               by_cases c15 : x23_2 < (((rd_T45 l0_4 x15_1).f3).length : Int)
               · rw [if_pos c15] at H
                 have c15b0 : decide (x23_2 < (((rd_T45 l0_4 x15_1).f3).length : Int)) = true := decide_eq_true c15
                 clear c15
                 by_cases c16 : 0 ≤ x23_2
                 · rw [if_pos c16] at H
                   have c16b0 : decide (0 ≤ x23_2) = true := decide_eq_true c16
                   clear c16
                   by_cases c17 : x23_2 < (((rd_T45 l0_4 x15_1).f3).length : Int)
                   · rw [if_pos c17] at H
                     have c17b0 : decide (x23_2 < (((rd_T45 l0_4 x15_1).f3).length : Int)) = true := decide_eq_true c17
                     clear c17
                     replace H := Option.bind_eq_some_iff.mp H
                     obtain ⟨t203, A180, H⟩ := H
                     replace H : (if t203 = true then (if 0 ≤ (rd ((rd_T45 l0_4 x15_1).f3) x23_2) then (if (rd ((rd_T45 l0_4 x15_1).f3) x23_2) < (x3_2.length : Int) then (if ((rd_L1 x3_2 (rd ((rd_T45 l0_4 x15_1).f3) x23_2)).length : Int) = 0 then (if (rd_L1 x3_2 (rd ((rd_T45 l0_4 x15_1).f3) x23_2)).length < 17592186044416 then (ir_Preds.l1 k2 (x3_2.set ((rd ((rd_T45 l0_4 x15_1).f3) x23_2) : Int).toNat ((rd_L1 x3_2 (rd ((rd_T45 l0_4 x15_1).f3) x23_2)) ++ [x15_1])) x15_1 l0_4 (l0_4.length : Int) x15_1 ((rd_T45 l0_4 x15_1).f3) (((rd_T45 l0_4 x15_1).f3).length : Int) (wrap64 (x23_2 + 1))) else (none)) else (if 0 ≤ (wrap64 (((rd_L1 x3_2 (rd ((rd_T45 l0_4 x15_1).f3) x23_2)).length : Int) - 1)) then (if (wrap64 (((rd_L1 x3_2 (rd ((rd_T45 l0_4 x15_1).f3) x23_2)).length : Int) - 1)) < ((rd_L1 x3_2 (rd ((rd_T45 l0_4 x15_1).f3) x23_2)).length : Int) then (if (rd (rd_L1 x3_2 (rd ((rd_T45 l0_4 x15_1).f3) x23_2)) (wrap64 (((rd_L1 x3_2 (rd ((rd_T45 l0_4 x15_1).f3) x23_2)).length : Int) - 1))) = x15_1 then (ir_Preds.l1 k2 x3_2 x15_1 l0_4 (l0_4.length : Int) x15_1 ((rd_T45 l0_4 x15_1).f3) (((rd_T45 l0_4 x15_1).f3).length : Int) (wrap64 (x23_2 + 1))) else (if (rd_L1 x3_2 (rd ((rd_T45 l0_4 x15_1).f3) x23_2)).length < 17592186044416 then (ir_Preds.l1 k2 (x3_2.set ((rd ((rd_T45 l0_4 x15_1).f3) x23_2) : Int).toNat ((rd_L1 x3_2 (rd ((rd_T45 l0_4 x15_1).f3) x23_2)) ++ [x15_1])) x15_1 l0_4 (l0_4.length : Int) x15_1 ((rd_T45 l0_4 x15_1).f3) (((rd_T45 l0_4 x15_1).f3).length : Int) (wrap64 (x23_2 + 1))) else (none))) else (none)) else (none))) else (none)) else (none)) else (ir_Preds.l1 k2 x3_2 x15_1 l0_4 (l0_4.length : Int) x15_1 ((rd_T45 l0_4 x15_1).f3) (((rd_T45 l0_4 x15_1).f3).length : Int) (wrap64 (x23_2 + 1)))) = some r := H
                     have A18 := Aside0.mk A180
                     clear A180
                     by_cases c19 : t203 = true
                     · subst c19
                       have H1 : (if 0 ≤ (rd ((rd_T45 l0_4 x15_1).f3) x23_2) then (if (rd ((rd_T45 l0_4 x15_1).f3) x23_2) < (x3_2.length : Int) then (if ((rd_L1 x3_2 (rd ((rd_T45 l0_4 x15_1).f3) x23_2)).length : Int) = 0 then (if (rd_L1 x3_2 (rd ((rd_T45 l0_4 x15_1).f3) x23_2)).length < 17592186044416 then (ir_Preds.l1 k2 (x3_2.set ((rd ((rd_T45 l0_4 x15_1).f3) x23_2) : Int).toNat ((rd_L1 x3_2 (rd ((rd_T45 l0_4 x15_1).f3) x23_2)) ++ [x15_1])) x15_1 l0_4 (l0_4.length : Int) x15_1 ((rd_T45 l0_4 x15_1).f3) (((rd_T45 l0_4 x15_1).f3).length : Int) (wrap64 (x23_2 + 1))) else (none)) else (if 0 ≤ (wrap64 (((rd_L1 x3_2 (rd ((rd_T45 l0_4 x15_1).f3) x23_2)).length : Int) - 1)) then (if (wrap64 (((rd_L1 x3_2 (rd ((rd_T45 l0_4 x15_1).f3) x23_2)).length : Int) - 1)) < ((rd_L1 x3_2 (rd ((rd_T45 l0_4 x15_1).f3) x23_2)).length : Int) then (if (rd (rd_L1 x3_2 (rd ((rd_T45 l0_4 x15_1).f3) x23_2)) (wrap64 (((rd_L1 x3_2 (rd ((rd_T45 l0_4 x15_1).f3) x23_2)).length : Int) - 1))) = x15_1 then (ir_Preds.l1 k2 x3_2 x15_1 l0_4 (l0_4.length : Int) x15_1 ((rd_T45 l0_4 x15_1).f3) (((rd_T45 l0_4 x15_1).f3).length : Int) (wrap64 (x23_2 + 1))) else (if (rd_L1 x3_2 (rd ((rd_T45 l0_4 x15_1).f3) x23_2)).length < 17592186044416 then (ir_Preds.l1 k2 (x3_2.set ((rd ((rd_T45 l0_4 x15_1).f3) x23_2) : Int).toNat ((rd_L1 x3_2 (rd ((rd_T45 l0_4 x15_1).f3) x23_2)) ++ [x15_1])) x15_1 l0_4 (l0_4.length : Int) x15_1 ((rd_T45 l0_4 x15_1).f3) (((rd_T45 l0_4 x15_1).f3).length : Int) (wrap64 (x23_2 + 1))) else (none))) else (none)) else (none))) else (none)) else (none)) = some r := by rw [if_pos rfl] at H; exact H
                       clear H
                       have H := H1
                       clear H1
                       by_cases c20 : 0 ≤ (rd ((rd_T45 l0_4 x15_1).f3) x23_2)
                       · rw [if_pos c20] at H
                         have c20b0 : decide (0 ≤ (rd ((rd_T45 l0_4 x15_1).f3) x23_2)) = true := decide_eq_true c20
                         clear c20
                         by_cases c21 : (rd ((rd_T45 l0_4 x15_1).f3) x23_2) < (x3_2.length : Int)
                         · rw [if_pos c21] at H
                           have c21b0 : decide ((rd ((rd_T45 l0_4 x15_1).f3) x23_2) < (x3_2.length : Int)) = true := decide_eq_true c21
                           clear c21
                           by_cases c22 : ((rd_L1 x3_2 (rd ((rd_T45 l0_4 x15_1).f3) x23_2)).length : Int) = 0
                           · rw [if_pos c22] at H
                             have c22b0 : (((rd_L1 x3_2 (rd ((rd_T45 l0_4 x15_1).f3) x23_2)).length : Int) == 0) = true := beq_iff_eq.mpr c22
                             have c22b1 : (((rd_L1 x3_2 (rd ((rd_T45 l0_4 x15_1).f3) x23_2)).length : Int) != 0) = false := bne_eq_false_iff_eq.mpr c22
                             clear c22
                             by_cases c23 : (rd_L1 x3_2 (rd ((rd_T45 l0_4 x15_1).f3) x23_2)).length < 17592186044416
                             · rw [if_pos c23] at H
                               have LMc23 := Aside0.mk c23
                               clear c23
                               obtain ⟨y206, hy206⟩ : ∃ y_ : List Int, y_ = ((rd_L1 x3_2 (rd ((rd_T45 l0_4 x15_1).f3) x23_2)) ++ [x15_1]) := ⟨_, rfl⟩
                               replace H : (ir_Preds.l1 k2 (x3_2.set ((rd ((rd_T45 l0_4 x15_1).f3) x23_2) : Int).toNat y206) x15_1 l0_4 (l0_4.length : Int) x15_1 ((rd_T45 l0_4 x15_1).f3) (((rd_T45 l0_4 x15_1).f3).length : Int) (wrap64 (x23_2 + 1))) = some r := by first | (rw [hy206]; with_reducible exact H) | (have H2_ := (Option.bind_some _ _).symm.trans H; rw [hy206]; with_reducible exact H2_) | (have H2_ := (Option.bind_some _ _).symm.trans H; with_reducible exact H2_) | with_reducible exact H | (rw [hy206]; exact H) | exact H
                               have Ny206 := Aside0.mk hy206
                               clear hy206
                               obtain ⟨y209, hy209⟩ : ∃ y_ : List (List Int), y_ = (x3_2.set ((rd ((rd_T45 l0_4 x15_1).f3) x23_2) : Int).toNat y206) := ⟨_, rfl⟩
                               replace H : (ir_Preds.l1 k2 y209 x15_1 l0_4 (l0_4.length : Int) x15_1 ((rd_T45 l0_4 x15_1).f3) (((rd_T45 l0_4 x15_1).f3).length : Int) (wrap64 (x23_2 + 1))) = some r := by first | (rw [hy209]; with_reducible exact H) | (have H2_ := (Option.bind_some _ _).symm.trans H; rw [hy209]; with_reducible exact H2_) | (have H2_ := (Option.bind_some _ _).symm.trans H; with_reducible exact H2_) | with_reducible exact H | (rw [hy209]; exact H) | exact H
                               have Ny209 := Aside0.mk hy209
                               clear hy209
                               have H' := Aside0.mk H
                               clear H
                               have p202 : 0 ≤ (x23_2 : Int) := of_decide_eq_true (by first | (with_reducible assumption) | assumption)
                               have q202 : x23_2 < (((rd_T45 l0_4 x15_1).f3).length : Int) := of_decide_eq_true (by first | (with_reducible assumption) | assumption)
                               obtain ⟨ad202, e202, hx202_0⟩ := Kd.at_int HR200_3.out x23_2 p202 q202
                               cases e202
                               replace hx202_0 := (HB.out.cell (World.block_lt_of_cell? w _ hx202_0)).trans hx202_0
                               replace p202 := eq_true p202
                               replace q202 := eq_true q202
                               obtain ⟨Ao25, co25, eo25⟩ := Kd.S_slice HO_3.out
                               subst eo25
                               have p204 : 0 ≤ ((rd ((rd_T45 l0_4 x15_1).f3) x23_2) : Int) := of_decide_eq_true (by first | (with_reducible assumption) | assumption)
                               have q204 : (rd ((rd_T45 l0_4 x15_1).f3) x23_2) < (x3_2.length : Int) := of_decide_eq_true (by first | (with_reducible assumption) | assumption)
                               obtain ⟨ad204, A204_0, c204_0, e204, hx204_0, hl204_0, hi204_0⟩ := at_L1 (Kd.S_reads' HO_3.out).2.2 (rd ((rd_T45 l0_4 x15_1).f3) x23_2) p204 q204
                               cases e204
                               obtain ⟨ce204, hce204, hMe204, hcc204⟩ := Kd.S_get HO_3.out [] (rd ((rd_T45 l0_4 x15_1).f3) x23_2) p204 (by first | exact q204 | exact of_decide_eq_true (by first | (with_reducible assumption) | assumption) | (have e_ := (Kd.S_reads' HO_3.out).1; omega))
                               obtain ⟨ve204_0, rfl, ge204_0⟩ := hMe204
                               have hv204_0 := hcc204 0 _ rfl
                               rw [Nat.add_zero, show ((Kd.slice 3 (Kd.int .i64))).sz = 1 from rfl, Nat.mul_one] at hv204_0
                               replace hv204_0 := Option.some.inj (hv204_0.symm.trans hx204_0)
                               rw [hv204_0] at ge204_0
                               have HL204_0 := Aside0.mk (show Kd.R (Kd.int .i64) 3 _ _ _ _ (rd_L1 x3_2 (rd ((rd_T45 l0_4 x15_1).f3) x23_2)) from ge204_0)
                               clear hv204_0 ge204_0
                               have HX204_0 := Aside0.mk hx204_0
                               clear hcc204 hce204
                               have HR204_0 := Aside0.mk hi204_0
                               have HC204_0 := Aside0.mk hl204_0
                               clear hi204_0 hl204_0
                               replace p204 := eq_true p204
                               replace q204 := eq_true q204
                               have p205 : 0 ≤ ((rd ((rd_T45 l0_4 x15_1).f3) x23_2) : Int) := of_decide_eq_true (by first | (with_reducible assumption) | assumption)
                               have q205 : (rd ((rd_T45 l0_4 x15_1).f3) x23_2) < (x3_2.length : Int) := of_decide_eq_true (by first | (with_reducible assumption) | assumption)
                               obtain ⟨ad205, A205_0, c205_0, e205, hx205_0, hl205_0, hi205_0⟩ := at_L1 (Kd.S_reads' HO_3.out).2.2 (rd ((rd_T45 l0_4 x15_1).f3) x23_2) p205 q205
                               obtain rfl : ad204 = ad205 := (by injection e205)
                               obtain ⟨ce205, hce205, hMe205, hcc205⟩ := Kd.S_get HO_3.out [] (rd ((rd_T45 l0_4 x15_1).f3) x23_2) p205 (by first | exact q205 | exact of_decide_eq_true (by first | (with_reducible assumption) | assumption) | (have e_ := (Kd.S_reads' HO_3.out).1; omega))
                               obtain ⟨ve205_0, rfl, ge205_0⟩ := hMe205
                               have hv205_0 := hcc205 0 _ rfl
                               rw [Nat.add_zero, show ((Kd.slice 3 (Kd.int .i64))).sz = 1 from rfl, Nat.mul_one] at hv205_0
                               replace hv205_0 := Option.some.inj (hv205_0.symm.trans hx205_0)
                               rw [hv205_0] at ge205_0
                               have HL205_0 := Aside0.mk (show Kd.R (Kd.int .i64) 3 _ _ _ _ (rd_L1 x3_2 (rd ((rd_T45 l0_4 x15_1).f3) x23_2)) from ge205_0)
                               clear hv205_0 ge205_0
                               have HX205_0 := Aside0.mk hx205_0
                               clear hcc205 hce205
                               have HR205_0 := Aside0.mk hi205_0
                               have HC205_0 := Aside0.mk hl205_0
                               clear hi205_0 hl205_0
                               replace p205 := eq_true p205
                               replace q205 := eq_true q205
                               have ea_ := Option.some.inj (hx204_0.symm.trans hx205_0)
                               injection ea_ with ea_ en_ ec_
                               subst ea_
                               subst ec_
                               clear en_
                               obtain ⟨go26, co26, eo26, gb26, gl26, cl26, HG26⟩ := Kd.S_form HO_3.out (by have h_ : ((rd ((rd_T45 l0_4 x15_1).f3) x23_2) : Int) < ((x3_2.length : Int) : Int) := of_decide_eq_true (by first | (with_reducible assumption) | assumption); have h2_ : 0 ≤ ((rd ((rd_T45 l0_4 x15_1).f3) x23_2) : Int) := (of_decide_eq_true (by first | (with_reducible assumption) | assumption)); omega)
                               (first | cases eo26 | (injection eo26 with ea_ en_ ec_; (first | subst ea_ | (injection ea_ with ea_; subst ea_)); subst ec_; clear en_))
                               have GB26 := Aside0.mk gb26
                               have GG26 := Aside0.mk HG26
                               clear gb26 gl26 HG26
                               (first | simp only [add_plain] at hx204_0 | skip)
                               (first | simp only [add_plain] at hx205_0 | skip)
                               obtain ⟨oki26, ce26, hcl26, hM26, hcc26, _, _, hH26⟩ := Kd.S_elem HO_3.out [] ((rd ((rd_T45 l0_4 x15_1).f3) x23_2) : Int) (of_decide_eq_true (by first | (with_reducible assumption) | assumption)) (by have h_ : ((rd ((rd_T45 l0_4 x15_1).f3) x23_2) : Int) < ((x3_2.length : Int) : Int) := of_decide_eq_true (by first | (with_reducible assumption) | assumption); first | exact h_ | (have e_ := (Kd.S_reads' HO_3.out).1; omega) | simpa using h_)
                               obtain ⟨ve26_0, rfl, ge26_0⟩ := hM26
                               have hv26 := hcc26 0 _ rfl
                               have hX26 := HX205_0.out
                               (try simp only [add_plain] at hX26)
                               (try simp only [Nat.add_zero] at hv26)
                               (try rw [show ((Kd.slice 3 (Kd.int .i64))).sz = 1 from rfl, Nat.mul_one] at hv26)
                               replace hv26 := Option.some.inj (hv26.symm.trans hX26)
                               subst hv26
                               clear hX26 hcc26 hcl26
                               have UU26 := Aside0.mk (show Kd.R (Kd.int .i64) 3 _ w.heap.size oki26 (.slice A204_0 (rd_L1 x3_2 (rd ((rd_T45 l0_4 x15_1).f3) x23_2)).length c204_0) (rd_L1 x3_2 (rd ((rd_T45 l0_4 x15_1).f3) x23_2)) from ge26_0)
                               have HH26 := Aside0.mk hH26
                               have HN26 := Aside0.mk (Kd.S_reads' HO_3.out).1
                               clear hH26 ge26_0
                               go_wp2_with (first | (go_at_call 36; (with_reducible refine (ir_within.calls (rd ((rd_T45 l0_4 x15_1).f3) x23_2) 0 (wrap64 ((x3_2.length : Int) - 1)) true _ A18.out).mono ?_); rintro e w' ⟨rfl, ⟨nd, rfl⟩⟩; (try first | exact ⟨rfl, _, World.drewN_drewN _ _ _⟩ | exact ⟨rfl, _, Eq.trans (World.drewN_drewN _ _ _) (congrArg (World.drewN _) (Nat.add_assoc _ _ _))⟩)) | ((with_reducible refine Z69 (b := .append) (xs := #[.tmp 61, .tmp 63]) rfl ?_); (try (refine Z66 (by rfl) ?_; dsimp only)); at_builtin; refine Kd.R_append (Kd.int .i64) (w0 := w) w.heap.size rfl (.tmp 61) (.tmp 63) 26 3 (.int .i64 0) 8 rfl Try.underlying26 info3 rfl (by decide) (by omega) (.slice A204_0 (rd_L1 x3_2 (rd ((rd_T45 l0_4 x15_1).f3) x23_2)).length c204_0) (rd_L1 x3_2 (rd ((rd_T45 l0_4 x15_1).f3) x23_2)) x15_1 [.int .i64 x15_1] (fun k_ => oki26 k_ ∨ ((fun _ => True)) k_ ∧ wr.heap.size ≤ k_) (fun _ => False) rfl rfl ?aP (fun _ hk => hk.elim) ?aF ?aO ?aB ?aS ?aL ?_; (case aP => exact rfl); (case aB => exact (by repeat (first | (with_reducible first | exact HB.out | apply Z7 | apply Z4 | apply Z6 | refine Z8 ?_ GE196.out | refine Z8 ?_ GE201.out) | exact HB.out))); (case aF => exact (fun k_ hk => .inr ⟨trivial, hk⟩)); (case aO => exact (by (with_reducible repeat (first | apply Kd.R_alloc | apply Kd.R_drewN | apply Kd.R_drew)); exact Kd.R_mono UU26.out (fun _ hk => .inl hk))); (case aS => exact (Z27 (by repeat (first | (with_reducible first | exact HB.out | apply Z7 | apply Z4 | apply Z6 | refine Z8 ?_ GE196.out | refine Z8 ?_ GE201.out) | exact HB.out)))); (case aL => have := LMc23.out; omega); intro v207 w27 ho hb hg hat; rw [← Ny206.out] at ho; have n0_ := Aside0.mk (Z89 (g := gb196) (o := .cells #[.string a0_0, .int .i64 a0_1, .int .i64 a0_2, .int .i64 a0_3, .slice (some ad200) l0_4.length c0_4] 24 (0, 0)) (by (with_reducible repeat (first | refine Z0 ?_ _ | refine Z3 ?_ | refine Z1 ?_ _)); exact BK196.out) hg (Kd.R_ne HL205_0.out BK196.out (by decide))); have n1_ := Aside0.mk (Z89 (g := gb201) (o := .cells #[.slice A200_0 ((rd_T45 l0_4 x15_1).f0).length c200_0, .int .i64 ((rd_T45 l0_4 x15_1).f1), .int .i64 ((rd_T45 l0_4 x15_1).f2), .slice (some ad202) ((rd_T45 l0_4 x15_1).f3).length c200_3] 45 (0, 0)) (by (with_reducible repeat (first | refine Z0 ?_ _ | refine Z3 ?_ | refine Z1 ?_ _)); exact BK201.out) hg (Kd.R_ne HL205_0.out BK201.out (by decide))); have n2_ := Aside0.mk (hb); have n3_ := Aside0.mk (Kd.H_grown (Kd.H_widen (by repeat (first | exact HH26.out | refine Kd.H_alloc ?_ _ | refine Kd.H_drewN ?_ _ | refine Kd.H_drew ?_))) hg (fun k_ e_ => .inl (UU26.out.1 k_ e_))); have n4_ := Aside0.mk (ho); clear BK196; clear BK201; clear HB; clear HH26; clear HO_3; clear UU26; clear HL204_0; clear HL205_0; have BK196 := n0_; have BK201 := n1_; have HB := n2_; have HH26 := n3_; have HO208 := n4_; clear n0_ n1_ n2_ n3_ n4_; clear ho hb hg hat; have p24 : 0 ≤ ((rd ((rd_T45 l0_4 x15_1).f3) x23_2) : Int) := of_decide_eq_true (by first | (with_reducible assumption) | assumption); have q24 : ((rd ((rd_T45 l0_4 x15_1).f3) x23_2) : Int) < ((x3_2.length : Int) : Int) := of_decide_eq_true (by first | (with_reducible assumption) | assumption); replace p24 := eq_true p24; replace q24 := eq_true q24; obtain ⟨Ao30, co30, eo30⟩ := Kd.R_slice HO208.out; subst eo30; obtain ⟨_, _, hraw28, _, _, hcc28, _⟩ := Kd.H_raw HH26.out (of_decide_eq_true (by first | (with_reducible assumption) | assumption)) (by have h_ : ((rd ((rd_T45 l0_4 x15_1).f3) x23_2) : Int) < ((x3_2.length : Int) : Int) := of_decide_eq_true (by first | (with_reducible assumption) | assumption); first | exact h_ | (have e_ := (HN26.out); omega) | simpa using h_); obtain ⟨_, hfr28⟩ := Kd.H_at HH26.out (of_decide_eq_true (by first | (with_reducible assumption) | assumption)) (by have h_ : ((rd ((rd_T45 l0_4 x15_1).f3) x23_2) : Int) < ((x3_2.length : Int) : Int) := of_decide_eq_true (by first | (with_reducible assumption) | assumption); first | exact h_ | (have e_ := (HN26.out); omega) | simpa using h_); have hx28_0 := hcc28 0 _ rfl; have hf28_0 := hfr28 0; (try simp only [Nat.add_zero] at hx28_0 hf28_0); (try rw [show ((Kd.slice 3 (Kd.int .i64))).sz = 1 from rfl, Nat.mul_one] at hx28_0); (try rw [show ((Kd.slice 3 (Kd.int .i64))).sz = 1 from rfl, Nat.mul_one] at hf28_0); have HP28 := Kd.S_seg0 HH26.out (of_decide_eq_true (by first | (with_reducible assumption) | assumption)) (by have h_ : ((rd ((rd_T45 l0_4 x15_1).f3) x23_2) : Int) < ((x3_2.length : Int) : Int) := of_decide_eq_true (by first | (with_reducible assumption) | assumption); first | exact h_ | (have e_ := (HN26.out); omega) | simpa using h_) (seg := [.slice Ao30 y206.length co30]) (j := 0) (show 1 ≤ 1 from by decide) (x' := y206) (Kd.M_row HO208.out) (fun _ hk => hk); (try simp only [show ((Kd.slice 3 (Kd.int .i64))).sz = 1 from rfl, Nat.mul_one, Nat.add_zero] at HP28); clear hcc28 hfr28) | ((with_reducible refine gate_store (t := 26) (p := 65) rfl ?_); (try (rw [Z43 w27]; generalize hq_ : World.drewN w27 _ = w27; have n0_ := Aside0.mk (Kd.S_at hq_ HO_3.out); have n1_ := Aside0.mk (blk_at hq_ BK196.out); have n2_ := Aside0.mk (blk_at hq_ BK201.out); have n3_ := Aside0.mk (below_at hq_ HB.out); clear hq_ HO_3 BK196 BK201 HB; have HO_3 := n0_; have BK196 := n1_; have BK201 := n2_; have HB := n3_; clear n0_ n1_ n2_ n3_; (try (obtain ⟨Ao30, co30, eo30⟩ := Kd.R_slice HO208.out)); (try (subst eo30)); (try (obtain ⟨_, _, hraw28, _, _, hcc28, _⟩ := Kd.H_raw HH26.out (of_decide_eq_true (by first | (with_reducible assumption) | assumption)) (by have h_ : ((rd ((rd_T45 l0_4 x15_1).f3) x23_2) : Int) < ((x3_2.length : Int) : Int) := of_decide_eq_true (by first | (with_reducible assumption) | assumption); first | exact h_ | (have e_ := (HN26.out); omega) | simpa using h_))); (try (obtain ⟨_, hfr28⟩ := Kd.H_at HH26.out (of_decide_eq_true (by first | (with_reducible assumption) | assumption)) (by have h_ : ((rd ((rd_T45 l0_4 x15_1).f3) x23_2) : Int) < ((x3_2.length : Int) : Int) := of_decide_eq_true (by first | (with_reducible assumption) | assumption); first | exact h_ | (have e_ := (HN26.out); omega) | simpa using h_))); (try (have hx28_0 := hcc28 0 _ rfl)); (try (have hf28_0 := hfr28 0)); (try (try simp only [Nat.add_zero] at hx28_0 hf28_0)); (try (try rw [show ((Kd.slice 3 (Kd.int .i64))).sz = 1 from rfl, Nat.mul_one] at hx28_0)); (try (try rw [show ((Kd.slice 3 (Kd.int .i64))).sz = 1 from rfl, Nat.mul_one] at hf28_0)); (try (have HP28 := Kd.S_seg0 HH26.out (of_decide_eq_true (by first | (with_reducible assumption) | assumption)) (by have h_ : ((rd ((rd_T45 l0_4 x15_1).f3) x23_2) : Int) < ((x3_2.length : Int) : Int) := of_decide_eq_true (by first | (with_reducible assumption) | assumption); first | exact h_ | (have e_ := (HN26.out); omega) | simpa using h_) (seg := [.slice Ao30 y206.length co30]) (j := 0) (show 1 ≤ 1 from by decide) (x' := y206) (Kd.M_row HO208.out) (fun _ hk => hk))); (try (try simp only [show ((Kd.slice 3 (Kd.int .i64))).sz = 1 from rfl, Nat.mul_one, Nat.add_zero] at HP28)); (try (clear hcc28 hfr28)))); refine store_event (t := 26) (p := 65) (v := ?vo_w29) (w1 := (w27.setCell ⟨go26, ((rd ((rd_T45 l0_4 x15_1).f3) x23_2) : Int).toNat, none⟩ (.slice Ao30 y206.length co30))) ?hg ?ho ?hn ?hr ?_; (case ho => rfl); (case hg => rfl); (case hn => rfl); (case hr => first | (go_simp; done) | (go_simp; rfl)); intro w29 hw; have hg : w27.grownBy w29 (some go26) := (by rw [hw]; exact HP28.2); have hp_ : Kd.S (Kd.slice 3 (Kd.int .i64)) 26 w29 w.heap.size (fun _ => True) (.slice (some ⟨go26, 0, none⟩) x3_2.length co25) y209 := (by rw [hw, Ny209.out]; exact HP28.1); clear HP28; have n0_ := Aside0.mk (Z89 (g := gb196) (o := .cells #[.string a0_0, .int .i64 a0_1, .int .i64 a0_2, .int .i64 a0_3, .slice (some ad200) l0_4.length c0_4] 24 (0, 0)) (by (with_reducible repeat (first | refine Z0 ?_ _ | refine Z3 ?_ | refine Z1 ?_ _)); exact BK196.out) hg (Kd.R_ne hraw28 BK196.out (by decide))); have n1_ := Aside0.mk (Z89 (g := gb201) (o := .cells #[.slice A200_0 ((rd_T45 l0_4 x15_1).f0).length c200_0, .int .i64 ((rd_T45 l0_4 x15_1).f1), .int .i64 ((rd_T45 l0_4 x15_1).f2), .slice (some ad202) ((rd_T45 l0_4 x15_1).f3).length c200_3] 45 (0, 0)) (by (with_reducible repeat (first | refine Z0 ?_ _ | refine Z3 ?_ | refine Z1 ?_ _)); exact BK201.out) hg (Kd.R_ne hraw28 BK201.out (by decide))); have n2_ := Aside0.mk ((by rw [hw]; exact Z8 HB.out GB26.out : Below w.heap.size w w29)); have n3_ := Aside0.mk (hp_); clear BK196; clear BK201; clear HB; clear HO208; clear HH26; have BK196 := n0_; have BK201 := n1_; have HB := n2_; have HO_3 := n3_; clear n0_ n1_ n2_ n3_; clear hg hw hp_ hraw28))
                               repeat (go_quiet (first | (go_at_call 36; (with_reducible refine (ir_within.calls (rd ((rd_T45 l0_4 x15_1).f3) x23_2) 0 (wrap64 ((x3_2.length : Int) - 1)) true _ A18.out).mono ?_); rintro e w' ⟨rfl, ⟨nd, rfl⟩⟩; (try first | exact ⟨rfl, _, World.drewN_drewN _ _ _⟩ | exact ⟨rfl, _, Eq.trans (World.drewN_drewN _ _ _) (congrArg (World.drewN _) (Nat.add_assoc _ _ _))⟩)) | ((with_reducible refine Z69 (b := .append) (xs := #[.tmp 61, .tmp 63]) rfl ?_); (try (refine Z66 (by rfl) ?_; dsimp only)); at_builtin; refine Kd.R_append (Kd.int .i64) (w0 := w) w.heap.size rfl (.tmp 61) (.tmp 63) 26 3 (.int .i64 0) 8 rfl Try.underlying26 info3 rfl (by decide) (by omega) (.slice A204_0 (rd_L1 x3_2 (rd ((rd_T45 l0_4 x15_1).f3) x23_2)).length c204_0) (rd_L1 x3_2 (rd ((rd_T45 l0_4 x15_1).f3) x23_2)) x15_1 [.int .i64 x15_1] (fun k_ => oki26 k_ ∨ ((fun _ => True)) k_ ∧ wr.heap.size ≤ k_) (fun _ => False) rfl rfl ?aP (fun _ hk => hk.elim) ?aF ?aO ?aB ?aS ?aL ?_; (case aP => exact rfl); (case aB => exact (by repeat (first | (with_reducible first | exact HB.out | apply Z7 | apply Z4 | apply Z6 | refine Z8 ?_ GE196.out | refine Z8 ?_ GE201.out) | exact HB.out))); (case aF => exact (fun k_ hk => .inr ⟨trivial, hk⟩)); (case aO => exact (by (with_reducible repeat (first | apply Kd.R_alloc | apply Kd.R_drewN | apply Kd.R_drew)); exact Kd.R_mono UU26.out (fun _ hk => .inl hk))); (case aS => exact (Z27 (by repeat (first | (with_reducible first | exact HB.out | apply Z7 | apply Z4 | apply Z6 | refine Z8 ?_ GE196.out | refine Z8 ?_ GE201.out) | exact HB.out)))); (case aL => have := LMc23.out; omega); intro v207 w27 ho hb hg hat; rw [← Ny206.out] at ho; have n0_ := Aside0.mk (Z89 (g := gb196) (o := .cells #[.string a0_0, .int .i64 a0_1, .int .i64 a0_2, .int .i64 a0_3, .slice (some ad200) l0_4.length c0_4] 24 (0, 0)) (by (with_reducible repeat (first | refine Z0 ?_ _ | refine Z3 ?_ | refine Z1 ?_ _)); exact BK196.out) hg (Kd.R_ne HL205_0.out BK196.out (by decide))); have n1_ := Aside0.mk (Z89 (g := gb201) (o := .cells #[.slice A200_0 ((rd_T45 l0_4 x15_1).f0).length c200_0, .int .i64 ((rd_T45 l0_4 x15_1).f1), .int .i64 ((rd_T45 l0_4 x15_1).f2), .slice (some ad202) ((rd_T45 l0_4 x15_1).f3).length c200_3] 45 (0, 0)) (by (with_reducible repeat (first | refine Z0 ?_ _ | refine Z3 ?_ | refine Z1 ?_ _)); exact BK201.out) hg (Kd.R_ne HL205_0.out BK201.out (by decide))); have n2_ := Aside0.mk (hb); have n3_ := Aside0.mk (Kd.H_grown (Kd.H_widen (by repeat (first | exact HH26.out | refine Kd.H_alloc ?_ _ | refine Kd.H_drewN ?_ _ | refine Kd.H_drew ?_))) hg (fun k_ e_ => .inl (UU26.out.1 k_ e_))); have n4_ := Aside0.mk (ho); clear BK196; clear BK201; clear HB; clear HH26; clear HO_3; clear UU26; clear HL204_0; clear HL205_0; have BK196 := n0_; have BK201 := n1_; have HB := n2_; have HH26 := n3_; have HO208 := n4_; clear n0_ n1_ n2_ n3_ n4_; clear ho hb hg hat; have p24 : 0 ≤ ((rd ((rd_T45 l0_4 x15_1).f3) x23_2) : Int) := of_decide_eq_true (by first | (with_reducible assumption) | assumption); have q24 : ((rd ((rd_T45 l0_4 x15_1).f3) x23_2) : Int) < ((x3_2.length : Int) : Int) := of_decide_eq_true (by first | (with_reducible assumption) | assumption); replace p24 := eq_true p24; replace q24 := eq_true q24; obtain ⟨Ao30, co30, eo30⟩ := Kd.R_slice HO208.out; subst eo30; obtain ⟨_, _, hraw28, _, _, hcc28, _⟩ := Kd.H_raw HH26.out (of_decide_eq_true (by first | (with_reducible assumption) | assumption)) (by have h_ : ((rd ((rd_T45 l0_4 x15_1).f3) x23_2) : Int) < ((x3_2.length : Int) : Int) := of_decide_eq_true (by first | (with_reducible assumption) | assumption); first | exact h_ | (have e_ := (HN26.out); omega) | simpa using h_); obtain ⟨_, hfr28⟩ := Kd.H_at HH26.out (of_decide_eq_true (by first | (with_reducible assumption) | assumption)) (by have h_ : ((rd ((rd_T45 l0_4 x15_1).f3) x23_2) : Int) < ((x3_2.length : Int) : Int) := of_decide_eq_true (by first | (with_reducible assumption) | assumption); first | exact h_ | (have e_ := (HN26.out); omega) | simpa using h_); have hx28_0 := hcc28 0 _ rfl; have hf28_0 := hfr28 0; (try simp only [Nat.add_zero] at hx28_0 hf28_0); (try rw [show ((Kd.slice 3 (Kd.int .i64))).sz = 1 from rfl, Nat.mul_one] at hx28_0); (try rw [show ((Kd.slice 3 (Kd.int .i64))).sz = 1 from rfl, Nat.mul_one] at hf28_0); have HP28 := Kd.S_seg0 HH26.out (of_decide_eq_true (by first | (with_reducible assumption) | assumption)) (by have h_ : ((rd ((rd_T45 l0_4 x15_1).f3) x23_2) : Int) < ((x3_2.length : Int) : Int) := of_decide_eq_true (by first | (with_reducible assumption) | assumption); first | exact h_ | (have e_ := (HN26.out); omega) | simpa using h_) (seg := [.slice Ao30 y206.length co30]) (j := 0) (show 1 ≤ 1 from by decide) (x' := y206) (Kd.M_row HO208.out) (fun _ hk => hk); (try simp only [show ((Kd.slice 3 (Kd.int .i64))).sz = 1 from rfl, Nat.mul_one, Nat.add_zero] at HP28); clear hcc28 hfr28) | ((with_reducible refine gate_store (t := 26) (p := 65) rfl ?_); (try (rw [Z43 w27]; generalize hq_ : World.drewN w27 _ = w27; have n0_ := Aside0.mk (Kd.S_at hq_ HO_3.out); have n1_ := Aside0.mk (blk_at hq_ BK196.out); have n2_ := Aside0.mk (blk_at hq_ BK201.out); have n3_ := Aside0.mk (below_at hq_ HB.out); clear hq_ HO_3 BK196 BK201 HB; have HO_3 := n0_; have BK196 := n1_; have BK201 := n2_; have HB := n3_; clear n0_ n1_ n2_ n3_; (try (obtain ⟨Ao30, co30, eo30⟩ := Kd.R_slice HO208.out)); (try (subst eo30)); (try (obtain ⟨_, _, hraw28, _, _, hcc28, _⟩ := Kd.H_raw HH26.out (of_decide_eq_true (by first | (with_reducible assumption) | assumption)) (by have h_ : ((rd ((rd_T45 l0_4 x15_1).f3) x23_2) : Int) < ((x3_2.length : Int) : Int) := of_decide_eq_true (by first | (with_reducible assumption) | assumption); first | exact h_ | (have e_ := (HN26.out); omega) | simpa using h_))); (try (obtain ⟨_, hfr28⟩ := Kd.H_at HH26.out (of_decide_eq_true (by first | (with_reducible assumption) | assumption)) (by have h_ : ((rd ((rd_T45 l0_4 x15_1).f3) x23_2) : Int) < ((x3_2.length : Int) : Int) := of_decide_eq_true (by first | (with_reducible assumption) | assumption); first | exact h_ | (have e_ := (HN26.out); omega) | simpa using h_))); (try (have hx28_0 := hcc28 0 _ rfl)); (try (have hf28_0 := hfr28 0)); (try (try simp only [Nat.add_zero] at hx28_0 hf28_0)); (try (try rw [show ((Kd.slice 3 (Kd.int .i64))).sz = 1 from rfl, Nat.mul_one] at hx28_0)); (try (try rw [show ((Kd.slice 3 (Kd.int .i64))).sz = 1 from rfl, Nat.mul_one] at hf28_0)); (try (have HP28 := Kd.S_seg0 HH26.out (of_decide_eq_true (by first | (with_reducible assumption) | assumption)) (by have h_ : ((rd ((rd_T45 l0_4 x15_1).f3) x23_2) : Int) < ((x3_2.length : Int) : Int) := of_decide_eq_true (by first | (with_reducible assumption) | assumption); first | exact h_ | (have e_ := (HN26.out); omega) | simpa using h_) (seg := [.slice Ao30 y206.length co30]) (j := 0) (show 1 ≤ 1 from by decide) (x' := y206) (Kd.M_row HO208.out) (fun _ hk => hk))); (try (try simp only [show ((Kd.slice 3 (Kd.int .i64))).sz = 1 from rfl, Nat.mul_one, Nat.add_zero] at HP28)); (try (clear hcc28 hfr28)))); refine store_event (t := 26) (p := 65) (v := ?vo_w29) (w1 := (w27.setCell ⟨go26, ((rd ((rd_T45 l0_4 x15_1).f3) x23_2) : Int).toNat, none⟩ (.slice Ao30 y206.length co30))) ?hg ?ho ?hn ?hr ?_; (case ho => rfl); (case hg => rfl); (case hn => rfl); (case hr => first | (go_simp; done) | (go_simp; rfl)); intro w29 hw; have hg : w27.grownBy w29 (some go26) := (by rw [hw]; exact HP28.2); have hp_ : Kd.S (Kd.slice 3 (Kd.int .i64)) 26 w29 w.heap.size (fun _ => True) (.slice (some ⟨go26, 0, none⟩) x3_2.length co25) y209 := (by rw [hw, Ny209.out]; exact HP28.1); clear HP28; have n0_ := Aside0.mk (Z89 (g := gb196) (o := .cells #[.string a0_0, .int .i64 a0_1, .int .i64 a0_2, .int .i64 a0_3, .slice (some ad200) l0_4.length c0_4] 24 (0, 0)) (by (with_reducible repeat (first | refine Z0 ?_ _ | refine Z3 ?_ | refine Z1 ?_ _)); exact BK196.out) hg (Kd.R_ne hraw28 BK196.out (by decide))); have n1_ := Aside0.mk (Z89 (g := gb201) (o := .cells #[.slice A200_0 ((rd_T45 l0_4 x15_1).f0).length c200_0, .int .i64 ((rd_T45 l0_4 x15_1).f1), .int .i64 ((rd_T45 l0_4 x15_1).f2), .slice (some ad202) ((rd_T45 l0_4 x15_1).f3).length c200_3] 45 (0, 0)) (by (with_reducible repeat (first | refine Z0 ?_ _ | refine Z3 ?_ | refine Z1 ?_ _)); exact BK201.out) hg (Kd.R_ne hraw28 BK201.out (by decide))); have n2_ := Aside0.mk ((by rw [hw]; exact Z8 HB.out GB26.out : Below w.heap.size w w29)); have n3_ := Aside0.mk (hp_); clear BK196; clear BK201; clear HB; clear HO208; clear HH26; have BK196 := n0_; have BK201 := n1_; have HB := n2_; have HO_3 := n3_; clear n0_ n1_ n2_ n3_; clear hg hw hp_ hraw28)); try go_wp2_with (first | (go_at_call 36; (with_reducible refine (ir_within.calls (rd ((rd_T45 l0_4 x15_1).f3) x23_2) 0 (wrap64 ((x3_2.length : Int) - 1)) true _ A18.out).mono ?_); rintro e w' ⟨rfl, ⟨nd, rfl⟩⟩; (try first | exact ⟨rfl, _, World.drewN_drewN _ _ _⟩ | exact ⟨rfl, _, Eq.trans (World.drewN_drewN _ _ _) (congrArg (World.drewN _) (Nat.add_assoc _ _ _))⟩)) | ((with_reducible refine Z69 (b := .append) (xs := #[.tmp 61, .tmp 63]) rfl ?_); (try (refine Z66 (by rfl) ?_; dsimp only)); at_builtin; refine Kd.R_append (Kd.int .i64) (w0 := w) w.heap.size rfl (.tmp 61) (.tmp 63) 26 3 (.int .i64 0) 8 rfl Try.underlying26 info3 rfl (by decide) (by omega) (.slice A204_0 (rd_L1 x3_2 (rd ((rd_T45 l0_4 x15_1).f3) x23_2)).length c204_0) (rd_L1 x3_2 (rd ((rd_T45 l0_4 x15_1).f3) x23_2)) x15_1 [.int .i64 x15_1] (fun k_ => oki26 k_ ∨ ((fun _ => True)) k_ ∧ wr.heap.size ≤ k_) (fun _ => False) rfl rfl ?aP (fun _ hk => hk.elim) ?aF ?aO ?aB ?aS ?aL ?_; (case aP => exact rfl); (case aB => exact (by repeat (first | (with_reducible first | exact HB.out | apply Z7 | apply Z4 | apply Z6 | refine Z8 ?_ GE196.out | refine Z8 ?_ GE201.out) | exact HB.out))); (case aF => exact (fun k_ hk => .inr ⟨trivial, hk⟩)); (case aO => exact (by (with_reducible repeat (first | apply Kd.R_alloc | apply Kd.R_drewN | apply Kd.R_drew)); exact Kd.R_mono UU26.out (fun _ hk => .inl hk))); (case aS => exact (Z27 (by repeat (first | (with_reducible first | exact HB.out | apply Z7 | apply Z4 | apply Z6 | refine Z8 ?_ GE196.out | refine Z8 ?_ GE201.out) | exact HB.out)))); (case aL => have := LMc23.out; omega); intro v207 w27 ho hb hg hat; rw [← Ny206.out] at ho; have n0_ := Aside0.mk (Z89 (g := gb196) (o := .cells #[.string a0_0, .int .i64 a0_1, .int .i64 a0_2, .int .i64 a0_3, .slice (some ad200) l0_4.length c0_4] 24 (0, 0)) (by (with_reducible repeat (first | refine Z0 ?_ _ | refine Z3 ?_ | refine Z1 ?_ _)); exact BK196.out) hg (Kd.R_ne HL205_0.out BK196.out (by decide))); have n1_ := Aside0.mk (Z89 (g := gb201) (o := .cells #[.slice A200_0 ((rd_T45 l0_4 x15_1).f0).length c200_0, .int .i64 ((rd_T45 l0_4 x15_1).f1), .int .i64 ((rd_T45 l0_4 x15_1).f2), .slice (some ad202) ((rd_T45 l0_4 x15_1).f3).length c200_3] 45 (0, 0)) (by (with_reducible repeat (first | refine Z0 ?_ _ | refine Z3 ?_ | refine Z1 ?_ _)); exact BK201.out) hg (Kd.R_ne HL205_0.out BK201.out (by decide))); have n2_ := Aside0.mk (hb); have n3_ := Aside0.mk (Kd.H_grown (Kd.H_widen (by repeat (first | exact HH26.out | refine Kd.H_alloc ?_ _ | refine Kd.H_drewN ?_ _ | refine Kd.H_drew ?_))) hg (fun k_ e_ => .inl (UU26.out.1 k_ e_))); have n4_ := Aside0.mk (ho); clear BK196; clear BK201; clear HB; clear HH26; clear HO_3; clear UU26; clear HL204_0; clear HL205_0; have BK196 := n0_; have BK201 := n1_; have HB := n2_; have HH26 := n3_; have HO208 := n4_; clear n0_ n1_ n2_ n3_ n4_; clear ho hb hg hat; have p24 : 0 ≤ ((rd ((rd_T45 l0_4 x15_1).f3) x23_2) : Int) := of_decide_eq_true (by first | (with_reducible assumption) | assumption); have q24 : ((rd ((rd_T45 l0_4 x15_1).f3) x23_2) : Int) < ((x3_2.length : Int) : Int) := of_decide_eq_true (by first | (with_reducible assumption) | assumption); replace p24 := eq_true p24; replace q24 := eq_true q24; obtain ⟨Ao30, co30, eo30⟩ := Kd.R_slice HO208.out; subst eo30; obtain ⟨_, _, hraw28, _, _, hcc28, _⟩ := Kd.H_raw HH26.out (of_decide_eq_true (by first | (with_reducible assumption) | assumption)) (by have h_ : ((rd ((rd_T45 l0_4 x15_1).f3) x23_2) : Int) < ((x3_2.length : Int) : Int) := of_decide_eq_true (by first | (with_reducible assumption) | assumption); first | exact h_ | (have e_ := (HN26.out); omega) | simpa using h_); obtain ⟨_, hfr28⟩ := Kd.H_at HH26.out (of_decide_eq_true (by first | (with_reducible assumption) | assumption)) (by have h_ : ((rd ((rd_T45 l0_4 x15_1).f3) x23_2) : Int) < ((x3_2.length : Int) : Int) := of_decide_eq_true (by first | (with_reducible assumption) | assumption); first | exact h_ | (have e_ := (HN26.out); omega) | simpa using h_); have hx28_0 := hcc28 0 _ rfl; have hf28_0 := hfr28 0; (try simp only [Nat.add_zero] at hx28_0 hf28_0); (try rw [show ((Kd.slice 3 (Kd.int .i64))).sz = 1 from rfl, Nat.mul_one] at hx28_0); (try rw [show ((Kd.slice 3 (Kd.int .i64))).sz = 1 from rfl, Nat.mul_one] at hf28_0); have HP28 := Kd.S_seg0 HH26.out (of_decide_eq_true (by first | (with_reducible assumption) | assumption)) (by have h_ : ((rd ((rd_T45 l0_4 x15_1).f3) x23_2) : Int) < ((x3_2.length : Int) : Int) := of_decide_eq_true (by first | (with_reducible assumption) | assumption); first | exact h_ | (have e_ := (HN26.out); omega) | simpa using h_) (seg := [.slice Ao30 y206.length co30]) (j := 0) (show 1 ≤ 1 from by decide) (x' := y206) (Kd.M_row HO208.out) (fun _ hk => hk); (try simp only [show ((Kd.slice 3 (Kd.int .i64))).sz = 1 from rfl, Nat.mul_one, Nat.add_zero] at HP28); clear hcc28 hfr28) | ((with_reducible refine gate_store (t := 26) (p := 65) rfl ?_); (try (rw [Z43 w27]; generalize hq_ : World.drewN w27 _ = w27; have n0_ := Aside0.mk (Kd.S_at hq_ HO_3.out); have n1_ := Aside0.mk (blk_at hq_ BK196.out); have n2_ := Aside0.mk (blk_at hq_ BK201.out); have n3_ := Aside0.mk (below_at hq_ HB.out); clear hq_ HO_3 BK196 BK201 HB; have HO_3 := n0_; have BK196 := n1_; have BK201 := n2_; have HB := n3_; clear n0_ n1_ n2_ n3_; (try (obtain ⟨Ao30, co30, eo30⟩ := Kd.R_slice HO208.out)); (try (subst eo30)); (try (obtain ⟨_, _, hraw28, _, _, hcc28, _⟩ := Kd.H_raw HH26.out (of_decide_eq_true (by first | (with_reducible assumption) | assumption)) (by have h_ : ((rd ((rd_T45 l0_4 x15_1).f3) x23_2) : Int) < ((x3_2.length : Int) : Int) := of_decide_eq_true (by first | (with_reducible assumption) | assumption); first | exact h_ | (have e_ := (HN26.out); omega) | simpa using h_))); (try (obtain ⟨_, hfr28⟩ := Kd.H_at HH26.out (of_decide_eq_true (by first | (with_reducible assumption) | assumption)) (by have h_ : ((rd ((rd_T45 l0_4 x15_1).f3) x23_2) : Int) < ((x3_2.length : Int) : Int) := of_decide_eq_true (by first | (with_reducible assumption) | assumption); first | exact h_ | (have e_ := (HN26.out); omega) | simpa using h_))); (try (have hx28_0 := hcc28 0 _ rfl)); (try (have hf28_0 := hfr28 0)); (try (try simp only [Nat.add_zero] at hx28_0 hf28_0)); (try (try rw [show ((Kd.slice 3 (Kd.int .i64))).sz = 1 from rfl, Nat.mul_one] at hx28_0)); (try (try rw [show ((Kd.slice 3 (Kd.int .i64))).sz = 1 from rfl, Nat.mul_one] at hf28_0)); (try (have HP28 := Kd.S_seg0 HH26.out (of_decide_eq_true (by first | (with_reducible assumption) | assumption)) (by have h_ : ((rd ((rd_T45 l0_4 x15_1).f3) x23_2) : Int) < ((x3_2.length : Int) : Int) := of_decide_eq_true (by first | (with_reducible assumption) | assumption); first | exact h_ | (have e_ := (HN26.out); omega) | simpa using h_) (seg := [.slice Ao30 y206.length co30]) (j := 0) (show 1 ≤ 1 from by decide) (x' := y206) (Kd.M_row HO208.out) (fun _ hk => hk))); (try (try simp only [show ((Kd.slice 3 (Kd.int .i64))).sz = 1 from rfl, Nat.mul_one, Nat.add_zero] at HP28)); (try (clear hcc28 hfr28)))); refine store_event (t := 26) (p := 65) (v := ?vo_w29) (w1 := (w27.setCell ⟨go26, ((rd ((rd_T45 l0_4 x15_1).f3) x23_2) : Int).toNat, none⟩ (.slice Ao30 y206.length co30))) ?hg ?ho ?hn ?hr ?_; (case ho => rfl); (case hg => rfl); (case hn => rfl); (case hr => first | (go_simp; done) | (go_simp; rfl)); intro w29 hw; have hg : w27.grownBy w29 (some go26) := (by rw [hw]; exact HP28.2); have hp_ : Kd.S (Kd.slice 3 (Kd.int .i64)) 26 w29 w.heap.size (fun _ => True) (.slice (some ⟨go26, 0, none⟩) x3_2.length co25) y209 := (by rw [hw, Ny209.out]; exact HP28.1); clear HP28; have n0_ := Aside0.mk (Z89 (g := gb196) (o := .cells #[.string a0_0, .int .i64 a0_1, .int .i64 a0_2, .int .i64 a0_3, .slice (some ad200) l0_4.length c0_4] 24 (0, 0)) (by (with_reducible repeat (first | refine Z0 ?_ _ | refine Z3 ?_ | refine Z1 ?_ _)); exact BK196.out) hg (Kd.R_ne hraw28 BK196.out (by decide))); have n1_ := Aside0.mk (Z89 (g := gb201) (o := .cells #[.slice A200_0 ((rd_T45 l0_4 x15_1).f0).length c200_0, .int .i64 ((rd_T45 l0_4 x15_1).f1), .int .i64 ((rd_T45 l0_4 x15_1).f2), .slice (some ad202) ((rd_T45 l0_4 x15_1).f3).length c200_3] 45 (0, 0)) (by (with_reducible repeat (first | refine Z0 ?_ _ | refine Z3 ?_ | refine Z1 ?_ _)); exact BK201.out) hg (Kd.R_ne hraw28 BK201.out (by decide))); have n2_ := Aside0.mk ((by rw [hw]; exact Z8 HB.out GB26.out : Below w.heap.size w w29)); have n3_ := Aside0.mk (hp_); clear BK196; clear BK201; clear HB; clear HO208; clear HH26; have BK196 := n0_; have BK201 := n1_; have HB := n2_; have HO_3 := n3_; clear n0_ n1_ n2_ n3_; clear hg hw hp_ hraw28)))
                               go_roundg k2
                               case measure => have := HK1.out; have := HK2.out; omega
                               case rel => exact ⟨(y209), (wrap64 (x23_2 + 1)), (by first | rfl | (simp; done) | (simp [*]; done)), H', ⟨by have := HK1.out; have := HK2.out; omega⟩, ⟨by (with_reducible repeat (first | apply Kd.S_alloc | apply Kd.S_drewN | apply Kd.S_drew)); exact HO_3.out⟩, ⟨by (with_reducible repeat (first | refine Z0 ?_ _ | refine Z3 ?_ | refine Z1 ?_ _)); exact BK196.out⟩, ⟨by (with_reducible repeat (first | refine Z0 ?_ _ | refine Z3 ?_ | refine Z1 ?_ _)); exact BK201.out⟩, ⟨by repeat (first | (with_reducible first | exact HB.out | apply Z7 | apply Z4 | apply Z6 | refine Z8 ?_ GE196.out | refine Z8 ?_ GE201.out) | exact HB.out)⟩⟩
                             · rw [if_neg c23] at H
                               exact absurd H (by simp)
                           · rw [if_neg c22] at H
                             have c22b0 : (((rd_L1 x3_2 (rd ((rd_T45 l0_4 x15_1).f3) x23_2)).length : Int) == 0) = false := beq_eq_false_iff_ne.mpr c22
                             have c22b1 : (((rd_L1 x3_2 (rd ((rd_T45 l0_4 x15_1).f3) x23_2)).length : Int) != 0) = true := bne_iff_ne.mpr c22
                             have c22b2 : ¬ ((rd_L1 x3_2 (rd ((rd_T45 l0_4 x15_1).f3) x23_2)) = []) := fun h_ => c22 (by rw [h_]; rfl)
                             obtain ⟨ji31, hji31⟩ : ∃ j_ : Int, (wrap64 (((rd_L1 x3_2 (rd ((rd_T45 l0_4 x15_1).f3) x23_2)).length : Int) - 1)) = j_ := ⟨_, rfl⟩
                             replace H : (if 0 ≤ (ji31) then (if (ji31) < ((rd_L1 x3_2 (rd ((rd_T45 l0_4 x15_1).f3) x23_2)).length : Int) then (if (rd (rd_L1 x3_2 (rd ((rd_T45 l0_4 x15_1).f3) x23_2)) (ji31)) = x15_1 then (ir_Preds.l1 k2 x3_2 x15_1 l0_4 (l0_4.length : Int) x15_1 ((rd_T45 l0_4 x15_1).f3) (((rd_T45 l0_4 x15_1).f3).length : Int) (wrap64 (x23_2 + 1))) else (if (rd_L1 x3_2 (rd ((rd_T45 l0_4 x15_1).f3) x23_2)).length < 17592186044416 then (ir_Preds.l1 k2 (x3_2.set ((rd ((rd_T45 l0_4 x15_1).f3) x23_2) : Int).toNat ((rd_L1 x3_2 (rd ((rd_T45 l0_4 x15_1).f3) x23_2)) ++ [x15_1])) x15_1 l0_4 (l0_4.length : Int) x15_1 ((rd_T45 l0_4 x15_1).f3) (((rd_T45 l0_4 x15_1).f3).length : Int) (wrap64 (x23_2 + 1))) else (none))) else (none)) else (none)) = some r := by first | (rw [hji31] at H; exact H) | (simp only [hji31] at H ⊢; exact H)
                             (try rw [hji31] at A18)
                             have hji31w : (IntKind.i64.wrap (((rd_L1 x3_2 (rd ((rd_T45 l0_4 x15_1).f3) x23_2)).length : Int) - 1)) = ji31 := (i64_w _).trans hji31
                             by_cases c32 : 0 ≤ (ji31)
                             · rw [if_pos c32] at H
                               have c32b0 : decide (0 ≤ (ji31)) = true := decide_eq_true c32
                               clear c32
                               by_cases c33 : (ji31) < ((rd_L1 x3_2 (rd ((rd_T45 l0_4 x15_1).f3) x23_2)).length : Int)
                               · rw [if_pos c33] at H
                                 have c33b0 : decide ((ji31) < ((rd_L1 x3_2 (rd ((rd_T45 l0_4 x15_1).f3) x23_2)).length : Int)) = true := decide_eq_true c33
                                 clear c33
                                 by_cases c34 : (rd (rd_L1 x3_2 (rd ((rd_T45 l0_4 x15_1).f3) x23_2)) (ji31)) = x15_1
                                 · rw [if_pos c34] at H
                                   have c34b0 : ((rd (rd_L1 x3_2 (rd ((rd_T45 l0_4 x15_1).f3) x23_2)) (ji31)) == x15_1) = true := beq_iff_eq.mpr c34
                                   have c34b1 : ((rd (rd_L1 x3_2 (rd ((rd_T45 l0_4 x15_1).f3) x23_2)) (ji31)) != x15_1) = false := bne_eq_false_iff_eq.mpr c34
                                   clear c34
                                   have H' := Aside0.mk H
                                   clear H
                                   have p202 : 0 ≤ (x23_2 : Int) := of_decide_eq_true (by first | (with_reducible assumption) | assumption)
                                   have q202 : x23_2 < (((rd_T45 l0_4 x15_1).f3).length : Int) := of_decide_eq_true (by first | (with_reducible assumption) | assumption)
                                   obtain ⟨ad202, e202, hx202_0⟩ := Kd.at_int HR200_3.out x23_2 p202 q202
                                   cases e202
                                   replace hx202_0 := (HB.out.cell (World.block_lt_of_cell? w _ hx202_0)).trans hx202_0
                                   replace p202 := eq_true p202
                                   replace q202 := eq_true q202
                                   obtain ⟨Ao35, co35, eo35⟩ := Kd.S_slice HO_3.out
                                   subst eo35
                                   have p204 : 0 ≤ ((rd ((rd_T45 l0_4 x15_1).f3) x23_2) : Int) := of_decide_eq_true (by first | (with_reducible assumption) | assumption)
                                   have q204 : (rd ((rd_T45 l0_4 x15_1).f3) x23_2) < (x3_2.length : Int) := of_decide_eq_true (by first | (with_reducible assumption) | assumption)
                                   obtain ⟨ad204, A204_0, c204_0, e204, hx204_0, hl204_0, hi204_0⟩ := at_L1 (Kd.S_reads' HO_3.out).2.2 (rd ((rd_T45 l0_4 x15_1).f3) x23_2) p204 q204
                                   cases e204
                                   obtain ⟨ce204, hce204, hMe204, hcc204⟩ := Kd.S_get HO_3.out [] (rd ((rd_T45 l0_4 x15_1).f3) x23_2) p204 (by first | exact q204 | exact of_decide_eq_true (by first | (with_reducible assumption) | assumption) | (have e_ := (Kd.S_reads' HO_3.out).1; omega))
                                   obtain ⟨ve204_0, rfl, ge204_0⟩ := hMe204
                                   have hv204_0 := hcc204 0 _ rfl
                                   rw [Nat.add_zero, show ((Kd.slice 3 (Kd.int .i64))).sz = 1 from rfl, Nat.mul_one] at hv204_0
                                   replace hv204_0 := Option.some.inj (hv204_0.symm.trans hx204_0)
                                   rw [hv204_0] at ge204_0
                                   have HL204_0 := Aside0.mk (show Kd.R (Kd.int .i64) 3 _ _ _ _ (rd_L1 x3_2 (rd ((rd_T45 l0_4 x15_1).f3) x23_2)) from ge204_0)
                                   clear hv204_0 ge204_0
                                   have HX204_0 := Aside0.mk hx204_0
                                   clear hcc204 hce204
                                   have HR204_0 := Aside0.mk hi204_0
                                   have HC204_0 := Aside0.mk hl204_0
                                   clear hi204_0 hl204_0
                                   replace p204 := eq_true p204
                                   replace q204 := eq_true q204
                                   have p210 : 0 ≤ ((rd ((rd_T45 l0_4 x15_1).f3) x23_2) : Int) := of_decide_eq_true (by first | (with_reducible assumption) | assumption)
                                   have q210 : (rd ((rd_T45 l0_4 x15_1).f3) x23_2) < (x3_2.length : Int) := of_decide_eq_true (by first | (with_reducible assumption) | assumption)
                                   obtain ⟨ad210, A210_0, c210_0, e210, hx210_0, hl210_0, hi210_0⟩ := at_L1 (Kd.S_reads' HO_3.out).2.2 (rd ((rd_T45 l0_4 x15_1).f3) x23_2) p210 q210
                                   obtain rfl : ad204 = ad210 := (by injection e210)
                                   obtain ⟨ce210, hce210, hMe210, hcc210⟩ := Kd.S_get HO_3.out [] (rd ((rd_T45 l0_4 x15_1).f3) x23_2) p210 (by first | exact q210 | exact of_decide_eq_true (by first | (with_reducible assumption) | assumption) | (have e_ := (Kd.S_reads' HO_3.out).1; omega))
                                   obtain ⟨ve210_0, rfl, ge210_0⟩ := hMe210
                                   have hv210_0 := hcc210 0 _ rfl
                                   rw [Nat.add_zero, show ((Kd.slice 3 (Kd.int .i64))).sz = 1 from rfl, Nat.mul_one] at hv210_0
                                   replace hv210_0 := Option.some.inj (hv210_0.symm.trans hx210_0)
                                   rw [hv210_0] at ge210_0
                                   have HL210_0 := Aside0.mk (show Kd.R (Kd.int .i64) 3 _ _ _ _ (rd_L1 x3_2 (rd ((rd_T45 l0_4 x15_1).f3) x23_2)) from ge210_0)
                                   clear hv210_0 ge210_0
                                   have HX210_0 := Aside0.mk hx210_0
                                   clear hcc210 hce210
                                   have HR210_0 := Aside0.mk hi210_0
                                   have HC210_0 := Aside0.mk hl210_0
                                   clear hi210_0 hl210_0
                                   replace p210 := eq_true p210
                                   replace q210 := eq_true q210
                                   have ea_ := Option.some.inj (hx204_0.symm.trans hx210_0)
                                   injection ea_ with ea_ en_ ec_
                                   subst ea_
                                   subst ec_
                                   clear en_
                                   have p211 : 0 ≤ ((rd ((rd_T45 l0_4 x15_1).f3) x23_2) : Int) := of_decide_eq_true (by first | (with_reducible assumption) | assumption)
                                   have q211 : (rd ((rd_T45 l0_4 x15_1).f3) x23_2) < (x3_2.length : Int) := of_decide_eq_true (by first | (with_reducible assumption) | assumption)
                                   obtain ⟨ad211, A211_0, c211_0, e211, hx211_0, hl211_0, hi211_0⟩ := at_L1 (Kd.S_reads' HO_3.out).2.2 (rd ((rd_T45 l0_4 x15_1).f3) x23_2) p211 q211
                                   obtain rfl : ad204 = ad211 := (by injection e211)
                                   obtain ⟨ce211, hce211, hMe211, hcc211⟩ := Kd.S_get HO_3.out [] (rd ((rd_T45 l0_4 x15_1).f3) x23_2) p211 (by first | exact q211 | exact of_decide_eq_true (by first | (with_reducible assumption) | assumption) | (have e_ := (Kd.S_reads' HO_3.out).1; omega))
                                   obtain ⟨ve211_0, rfl, ge211_0⟩ := hMe211
                                   have hv211_0 := hcc211 0 _ rfl
                                   rw [Nat.add_zero, show ((Kd.slice 3 (Kd.int .i64))).sz = 1 from rfl, Nat.mul_one] at hv211_0
                                   replace hv211_0 := Option.some.inj (hv211_0.symm.trans hx211_0)
                                   rw [hv211_0] at ge211_0
                                   have HL211_0 := Aside0.mk (show Kd.R (Kd.int .i64) 3 _ _ _ _ (rd_L1 x3_2 (rd ((rd_T45 l0_4 x15_1).f3) x23_2)) from ge211_0)
                                   clear hv211_0 ge211_0
                                   have HX211_0 := Aside0.mk hx211_0
                                   clear hcc211 hce211
                                   have HR211_0 := Aside0.mk hi211_0
                                   have HC211_0 := Aside0.mk hl211_0
                                   clear hi211_0 hl211_0
                                   replace p211 := eq_true p211
                                   replace q211 := eq_true q211
                                   have ea_ := Option.some.inj (hx204_0.symm.trans hx211_0)
                                   injection ea_ with ea_ en_ ec_
                                   subst ea_
                                   subst ec_
                                   clear en_
                                   have p212 : 0 ≤ ((ji31) : Int) := of_decide_eq_true (by first | (with_reducible assumption) | assumption)
                                   have q212 : (ji31) < ((rd_L1 x3_2 (rd ((rd_T45 l0_4 x15_1).f3) x23_2)).length : Int) := of_decide_eq_true (by first | (with_reducible assumption) | assumption)
                                   obtain ⟨ad212, e212, hx212_0⟩ := Kd.at_int (by repeat (first | (with_reducible exact HR210_0.out) | (with_reducible refine Kd.C_alloc ?_ _) | (with_reducible refine Kd.C_drewN ?_ _) | (with_reducible refine Kd.C_drew ?_) | exact HR210_0.out)) (ji31) p212 q212
                                   cases e212
                                   replace p212 := eq_true p212
                                   replace q212 := eq_true q212
                                   go_wp2_with (first | (go_at_call 36; (with_reducible refine (ir_within.calls (rd ((rd_T45 l0_4 x15_1).f3) x23_2) 0 (wrap64 ((x3_2.length : Int) - 1)) true _ A18.out).mono ?_); rintro e w' ⟨rfl, ⟨nd, rfl⟩⟩; (try first | exact ⟨rfl, _, World.drewN_drewN _ _ _⟩ | exact ⟨rfl, _, Eq.trans (World.drewN_drewN _ _ _) (congrArg (World.drewN _) (Nat.add_assoc _ _ _))⟩)))
                                   repeat (go_quiet (first | (go_at_call 36; (with_reducible refine (ir_within.calls (rd ((rd_T45 l0_4 x15_1).f3) x23_2) 0 (wrap64 ((x3_2.length : Int) - 1)) true _ A18.out).mono ?_); rintro e w' ⟨rfl, ⟨nd, rfl⟩⟩; (try first | exact ⟨rfl, _, World.drewN_drewN _ _ _⟩ | exact ⟨rfl, _, Eq.trans (World.drewN_drewN _ _ _) (congrArg (World.drewN _) (Nat.add_assoc _ _ _))⟩))); try go_wp2_with (first | (go_at_call 36; (with_reducible refine (ir_within.calls (rd ((rd_T45 l0_4 x15_1).f3) x23_2) 0 (wrap64 ((x3_2.length : Int) - 1)) true _ A18.out).mono ?_); rintro e w' ⟨rfl, ⟨nd, rfl⟩⟩; (try first | exact ⟨rfl, _, World.drewN_drewN _ _ _⟩ | exact ⟨rfl, _, Eq.trans (World.drewN_drewN _ _ _) (congrArg (World.drewN _) (Nat.add_assoc _ _ _))⟩))))
                                   go_roundg k2
                                   case measure => have := HK1.out; have := HK2.out; omega
                                   case rel => exact ⟨(x3_2), (wrap64 (x23_2 + 1)), (by first | rfl | (simp; done) | (simp [*]; done)), H', ⟨by have := HK1.out; have := HK2.out; omega⟩, ⟨by (with_reducible repeat (first | apply Kd.S_alloc | apply Kd.S_drewN | apply Kd.S_drew)); exact HO_3.out⟩, ⟨by (with_reducible repeat (first | refine Z0 ?_ _ | refine Z3 ?_ | refine Z1 ?_ _)); exact BK196.out⟩, ⟨by (with_reducible repeat (first | refine Z0 ?_ _ | refine Z3 ?_ | refine Z1 ?_ _)); exact BK201.out⟩, ⟨by repeat (first | (with_reducible first | exact HB.out | apply Z7 | apply Z4 | apply Z6 | refine Z8 ?_ GE196.out | refine Z8 ?_ GE201.out) | exact HB.out)⟩⟩
                                 · rw [if_neg c34] at H
                                   have c34b0 : ((rd (rd_L1 x3_2 (rd ((rd_T45 l0_4 x15_1).f3) x23_2)) (ji31)) == x15_1) = false := beq_eq_false_iff_ne.mpr c34
                                   have c34b1 : ((rd (rd_L1 x3_2 (rd ((rd_T45 l0_4 x15_1).f3) x23_2)) (ji31)) != x15_1) = true := bne_iff_ne.mpr c34
                                   by_cases c36 : (rd_L1 x3_2 (rd ((rd_T45 l0_4 x15_1).f3) x23_2)).length < 17592186044416
                                   · rw [if_pos c36] at H
                                     have LMc36 := Aside0.mk c36
                                     clear c36
                                     obtain ⟨y214, hy214⟩ : ∃ y_ : List Int, y_ = ((rd_L1 x3_2 (rd ((rd_T45 l0_4 x15_1).f3) x23_2)) ++ [x15_1]) := ⟨_, rfl⟩
                                     replace H : (ir_Preds.l1 k2 (x3_2.set ((rd ((rd_T45 l0_4 x15_1).f3) x23_2) : Int).toNat y214) x15_1 l0_4 (l0_4.length : Int) x15_1 ((rd_T45 l0_4 x15_1).f3) (((rd_T45 l0_4 x15_1).f3).length : Int) (wrap64 (x23_2 + 1))) = some r := by first | (rw [hy214]; with_reducible exact H) | (have H2_ := (Option.bind_some _ _).symm.trans H; rw [hy214]; with_reducible exact H2_) | (have H2_ := (Option.bind_some _ _).symm.trans H; with_reducible exact H2_) | with_reducible exact H | (rw [hy214]; exact H) | exact H
                                     have Ny214 := Aside0.mk hy214
                                     clear hy214
                                     obtain ⟨y217, hy217⟩ : ∃ y_ : List (List Int), y_ = (x3_2.set ((rd ((rd_T45 l0_4 x15_1).f3) x23_2) : Int).toNat y214) := ⟨_, rfl⟩
                                     replace H : (ir_Preds.l1 k2 y217 x15_1 l0_4 (l0_4.length : Int) x15_1 ((rd_T45 l0_4 x15_1).f3) (((rd_T45 l0_4 x15_1).f3).length : Int) (wrap64 (x23_2 + 1))) = some r := by first | (rw [hy217]; with_reducible exact H) | (have H2_ := (Option.bind_some _ _).symm.trans H; rw [hy217]; with_reducible exact H2_) | (have H2_ := (Option.bind_some _ _).symm.trans H; with_reducible exact H2_) | with_reducible exact H | (rw [hy217]; exact H) | exact H
                                     have Ny217 := Aside0.mk hy217
                                     clear hy217
                                     have H' := Aside0.mk H
                                     clear H
                                     have p202 : 0 ≤ (x23_2 : Int) := of_decide_eq_true (by first | (with_reducible assumption) | assumption)
                                     have q202 : x23_2 < (((rd_T45 l0_4 x15_1).f3).length : Int) := of_decide_eq_true (by first | (with_reducible assumption) | assumption)
                                     obtain ⟨ad202, e202, hx202_0⟩ := Kd.at_int HR200_3.out x23_2 p202 q202
                                     cases e202
                                     replace hx202_0 := (HB.out.cell (World.block_lt_of_cell? w _ hx202_0)).trans hx202_0
                                     replace p202 := eq_true p202
                                     replace q202 := eq_true q202
                                     obtain ⟨Ao38, co38, eo38⟩ := Kd.S_slice HO_3.out
                                     subst eo38
                                     have p204 : 0 ≤ ((rd ((rd_T45 l0_4 x15_1).f3) x23_2) : Int) := of_decide_eq_true (by first | (with_reducible assumption) | assumption)
                                     have q204 : (rd ((rd_T45 l0_4 x15_1).f3) x23_2) < (x3_2.length : Int) := of_decide_eq_true (by first | (with_reducible assumption) | assumption)
                                     obtain ⟨ad204, A204_0, c204_0, e204, hx204_0, hl204_0, hi204_0⟩ := at_L1 (Kd.S_reads' HO_3.out).2.2 (rd ((rd_T45 l0_4 x15_1).f3) x23_2) p204 q204
                                     cases e204
                                     obtain ⟨ce204, hce204, hMe204, hcc204⟩ := Kd.S_get HO_3.out [] (rd ((rd_T45 l0_4 x15_1).f3) x23_2) p204 (by first | exact q204 | exact of_decide_eq_true (by first | (with_reducible assumption) | assumption) | (have e_ := (Kd.S_reads' HO_3.out).1; omega))
                                     obtain ⟨ve204_0, rfl, ge204_0⟩ := hMe204
                                     have hv204_0 := hcc204 0 _ rfl
                                     rw [Nat.add_zero, show ((Kd.slice 3 (Kd.int .i64))).sz = 1 from rfl, Nat.mul_one] at hv204_0
                                     replace hv204_0 := Option.some.inj (hv204_0.symm.trans hx204_0)
                                     rw [hv204_0] at ge204_0
                                     have HL204_0 := Aside0.mk (show Kd.R (Kd.int .i64) 3 _ _ _ _ (rd_L1 x3_2 (rd ((rd_T45 l0_4 x15_1).f3) x23_2)) from ge204_0)
                                     clear hv204_0 ge204_0
                                     have HX204_0 := Aside0.mk hx204_0
                                     clear hcc204 hce204
                                     have HR204_0 := Aside0.mk hi204_0
                                     have HC204_0 := Aside0.mk hl204_0
                                     clear hi204_0 hl204_0
                                     replace p204 := eq_true p204
                                     replace q204 := eq_true q204
                                     have p210 : 0 ≤ ((rd ((rd_T45 l0_4 x15_1).f3) x23_2) : Int) := of_decide_eq_true (by first | (with_reducible assumption) | assumption)
                                     have q210 : (rd ((rd_T45 l0_4 x15_1).f3) x23_2) < (x3_2.length : Int) := of_decide_eq_true (by first | (with_reducible assumption) | assumption)
                                     obtain ⟨ad210, A210_0, c210_0, e210, hx210_0, hl210_0, hi210_0⟩ := at_L1 (Kd.S_reads' HO_3.out).2.2 (rd ((rd_T45 l0_4 x15_1).f3) x23_2) p210 q210
                                     obtain rfl : ad204 = ad210 := (by injection e210)
                                     obtain ⟨ce210, hce210, hMe210, hcc210⟩ := Kd.S_get HO_3.out [] (rd ((rd_T45 l0_4 x15_1).f3) x23_2) p210 (by first | exact q210 | exact of_decide_eq_true (by first | (with_reducible assumption) | assumption) | (have e_ := (Kd.S_reads' HO_3.out).1; omega))
                                     obtain ⟨ve210_0, rfl, ge210_0⟩ := hMe210
                                     have hv210_0 := hcc210 0 _ rfl
                                     rw [Nat.add_zero, show ((Kd.slice 3 (Kd.int .i64))).sz = 1 from rfl, Nat.mul_one] at hv210_0
                                     replace hv210_0 := Option.some.inj (hv210_0.symm.trans hx210_0)
                                     rw [hv210_0] at ge210_0
                                     have HL210_0 := Aside0.mk (show Kd.R (Kd.int .i64) 3 _ _ _ _ (rd_L1 x3_2 (rd ((rd_T45 l0_4 x15_1).f3) x23_2)) from ge210_0)
                                     clear hv210_0 ge210_0
                                     have HX210_0 := Aside0.mk hx210_0
                                     clear hcc210 hce210
                                     have HR210_0 := Aside0.mk hi210_0
                                     have HC210_0 := Aside0.mk hl210_0
                                     clear hi210_0 hl210_0
                                     replace p210 := eq_true p210
                                     replace q210 := eq_true q210
                                     have ea_ := Option.some.inj (hx204_0.symm.trans hx210_0)
                                     injection ea_ with ea_ en_ ec_
                                     subst ea_
                                     subst ec_
                                     clear en_
                                     have p211 : 0 ≤ ((rd ((rd_T45 l0_4 x15_1).f3) x23_2) : Int) := of_decide_eq_true (by first | (with_reducible assumption) | assumption)
                                     have q211 : (rd ((rd_T45 l0_4 x15_1).f3) x23_2) < (x3_2.length : Int) := of_decide_eq_true (by first | (with_reducible assumption) | assumption)
                                     obtain ⟨ad211, A211_0, c211_0, e211, hx211_0, hl211_0, hi211_0⟩ := at_L1 (Kd.S_reads' HO_3.out).2.2 (rd ((rd_T45 l0_4 x15_1).f3) x23_2) p211 q211
                                     obtain rfl : ad204 = ad211 := (by injection e211)
                                     obtain ⟨ce211, hce211, hMe211, hcc211⟩ := Kd.S_get HO_3.out [] (rd ((rd_T45 l0_4 x15_1).f3) x23_2) p211 (by first | exact q211 | exact of_decide_eq_true (by first | (with_reducible assumption) | assumption) | (have e_ := (Kd.S_reads' HO_3.out).1; omega))
                                     obtain ⟨ve211_0, rfl, ge211_0⟩ := hMe211
                                     have hv211_0 := hcc211 0 _ rfl
                                     rw [Nat.add_zero, show ((Kd.slice 3 (Kd.int .i64))).sz = 1 from rfl, Nat.mul_one] at hv211_0
                                     replace hv211_0 := Option.some.inj (hv211_0.symm.trans hx211_0)
                                     rw [hv211_0] at ge211_0
                                     have HL211_0 := Aside0.mk (show Kd.R (Kd.int .i64) 3 _ _ _ _ (rd_L1 x3_2 (rd ((rd_T45 l0_4 x15_1).f3) x23_2)) from ge211_0)
                                     clear hv211_0 ge211_0
                                     have HX211_0 := Aside0.mk hx211_0
                                     clear hcc211 hce211
                                     have HR211_0 := Aside0.mk hi211_0
                                     have HC211_0 := Aside0.mk hl211_0
                                     clear hi211_0 hl211_0
                                     replace p211 := eq_true p211
                                     replace q211 := eq_true q211
                                     have ea_ := Option.some.inj (hx204_0.symm.trans hx211_0)
                                     injection ea_ with ea_ en_ ec_
                                     subst ea_
                                     subst ec_
                                     clear en_
                                     have p212 : 0 ≤ ((ji31) : Int) := of_decide_eq_true (by first | (with_reducible assumption) | assumption)
                                     have q212 : (ji31) < ((rd_L1 x3_2 (rd ((rd_T45 l0_4 x15_1).f3) x23_2)).length : Int) := of_decide_eq_true (by first | (with_reducible assumption) | assumption)
                                     obtain ⟨ad212, e212, hx212_0⟩ := Kd.at_int (by repeat (first | (with_reducible exact HR210_0.out) | (with_reducible refine Kd.C_alloc ?_ _) | (with_reducible refine Kd.C_drewN ?_ _) | (with_reducible refine Kd.C_drew ?_) | exact HR210_0.out)) (ji31) p212 q212
                                     cases e212
                                     replace p212 := eq_true p212
                                     replace q212 := eq_true q212
                                     have p213 : 0 ≤ ((rd ((rd_T45 l0_4 x15_1).f3) x23_2) : Int) := of_decide_eq_true (by first | (with_reducible assumption) | assumption)
                                     have q213 : (rd ((rd_T45 l0_4 x15_1).f3) x23_2) < (x3_2.length : Int) := of_decide_eq_true (by first | (with_reducible assumption) | assumption)
                                     obtain ⟨ad213, A213_0, c213_0, e213, hx213_0, hl213_0, hi213_0⟩ := at_L1 (Kd.S_reads' HO_3.out).2.2 (rd ((rd_T45 l0_4 x15_1).f3) x23_2) p213 q213
                                     obtain rfl : ad204 = ad213 := (by injection e213)
                                     obtain ⟨ce213, hce213, hMe213, hcc213⟩ := Kd.S_get HO_3.out [] (rd ((rd_T45 l0_4 x15_1).f3) x23_2) p213 (by first | exact q213 | exact of_decide_eq_true (by first | (with_reducible assumption) | assumption) | (have e_ := (Kd.S_reads' HO_3.out).1; omega))
                                     obtain ⟨ve213_0, rfl, ge213_0⟩ := hMe213
                                     have hv213_0 := hcc213 0 _ rfl
                                     rw [Nat.add_zero, show ((Kd.slice 3 (Kd.int .i64))).sz = 1 from rfl, Nat.mul_one] at hv213_0
                                     replace hv213_0 := Option.some.inj (hv213_0.symm.trans hx213_0)
                                     rw [hv213_0] at ge213_0
                                     have HL213_0 := Aside0.mk (show Kd.R (Kd.int .i64) 3 _ _ _ _ (rd_L1 x3_2 (rd ((rd_T45 l0_4 x15_1).f3) x23_2)) from ge213_0)
                                     clear hv213_0 ge213_0
                                     have HX213_0 := Aside0.mk hx213_0
                                     clear hcc213 hce213
                                     have HR213_0 := Aside0.mk hi213_0
                                     have HC213_0 := Aside0.mk hl213_0
                                     clear hi213_0 hl213_0
                                     replace p213 := eq_true p213
                                     replace q213 := eq_true q213
                                     have ea_ := Option.some.inj (hx204_0.symm.trans hx213_0)
                                     injection ea_ with ea_ en_ ec_
                                     subst ea_
                                     subst ec_
                                     clear en_
                                     obtain ⟨go39, co39, eo39, gb39, gl39, cl39, HG39⟩ := Kd.S_form HO_3.out (by have h_ : ((rd ((rd_T45 l0_4 x15_1).f3) x23_2) : Int) < ((x3_2.length : Int) : Int) := of_decide_eq_true (by first | (with_reducible assumption) | assumption); have h2_ : 0 ≤ ((rd ((rd_T45 l0_4 x15_1).f3) x23_2) : Int) := (of_decide_eq_true (by first | (with_reducible assumption) | assumption)); omega)
                                     (first | cases eo39 | (injection eo39 with ea_ en_ ec_; (first | subst ea_ | (injection ea_ with ea_; subst ea_)); subst ec_; clear en_))
                                     have GB39 := Aside0.mk gb39
                                     have GG39 := Aside0.mk HG39
                                     clear gb39 gl39 HG39
                                     (first | simp only [add_plain] at hx204_0 | skip)
                                     (first | simp only [add_plain] at hx210_0 | skip)
                                     (first | simp only [add_plain] at hx211_0 | skip)
                                     (first | simp only [add_plain] at hx213_0 | skip)
                                     obtain ⟨oki39, ce39, hcl39, hM39, hcc39, _, _, hH39⟩ := Kd.S_elem HO_3.out [] ((rd ((rd_T45 l0_4 x15_1).f3) x23_2) : Int) (of_decide_eq_true (by first | (with_reducible assumption) | assumption)) (by have h_ : ((rd ((rd_T45 l0_4 x15_1).f3) x23_2) : Int) < ((x3_2.length : Int) : Int) := of_decide_eq_true (by first | (with_reducible assumption) | assumption); first | exact h_ | (have e_ := (Kd.S_reads' HO_3.out).1; omega) | simpa using h_)
                                     obtain ⟨ve39_0, rfl, ge39_0⟩ := hM39
                                     have hv39 := hcc39 0 _ rfl
                                     have hX39 := HX213_0.out
                                     (try simp only [add_plain] at hX39)
                                     (try simp only [Nat.add_zero] at hv39)
                                     (try rw [show ((Kd.slice 3 (Kd.int .i64))).sz = 1 from rfl, Nat.mul_one] at hv39)
                                     replace hv39 := Option.some.inj (hv39.symm.trans hX39)
                                     subst hv39
                                     clear hX39 hcc39 hcl39
                                     have UU39 := Aside0.mk (show Kd.R (Kd.int .i64) 3 _ w.heap.size oki39 (.slice (some ad212) (rd_L1 x3_2 (rd ((rd_T45 l0_4 x15_1).f3) x23_2)).length c204_0) (rd_L1 x3_2 (rd ((rd_T45 l0_4 x15_1).f3) x23_2)) from ge39_0)
                                     have HH39 := Aside0.mk hH39
                                     have HN39 := Aside0.mk (Kd.S_reads' HO_3.out).1
                                     clear hH39 ge39_0
                                     go_wp2_with (first | (go_at_call 36; (with_reducible refine (ir_within.calls (rd ((rd_T45 l0_4 x15_1).f3) x23_2) 0 (wrap64 ((x3_2.length : Int) - 1)) true _ A18.out).mono ?_); rintro e w' ⟨rfl, ⟨nd, rfl⟩⟩; (try first | exact ⟨rfl, _, World.drewN_drewN _ _ _⟩ | exact ⟨rfl, _, Eq.trans (World.drewN_drewN _ _ _) (congrArg (World.drewN _) (Nat.add_assoc _ _ _))⟩)) | ((with_reducible refine Z69 (b := .append) (xs := #[.tmp 61, .tmp 63]) rfl ?_); (try (refine Z66 (by rfl) ?_; dsimp only)); at_builtin; refine Kd.R_append (Kd.int .i64) (w0 := w) w.heap.size rfl (.tmp 61) (.tmp 63) 26 3 (.int .i64 0) 8 rfl Try.underlying26 info3 rfl (by decide) (by omega) (.slice (some ad212) (rd_L1 x3_2 (rd ((rd_T45 l0_4 x15_1).f3) x23_2)).length c204_0) (rd_L1 x3_2 (rd ((rd_T45 l0_4 x15_1).f3) x23_2)) x15_1 [.int .i64 x15_1] (fun k_ => oki39 k_ ∨ ((fun _ => True)) k_ ∧ wr.heap.size ≤ k_) (fun _ => False) rfl rfl ?aP (fun _ hk => hk.elim) ?aF ?aO ?aB ?aS ?aL ?_; (case aP => exact rfl); (case aB => exact (by repeat (first | (with_reducible first | exact HB.out | apply Z7 | apply Z4 | apply Z6 | refine Z8 ?_ GE196.out | refine Z8 ?_ GE201.out) | exact HB.out))); (case aF => exact (fun k_ hk => .inr ⟨trivial, hk⟩)); (case aO => exact (by (with_reducible repeat (first | apply Kd.R_alloc | apply Kd.R_drewN | apply Kd.R_drew)); exact Kd.R_mono UU39.out (fun _ hk => .inl hk))); (case aS => exact (Z27 (by repeat (first | (with_reducible first | exact HB.out | apply Z7 | apply Z4 | apply Z6 | refine Z8 ?_ GE196.out | refine Z8 ?_ GE201.out) | exact HB.out)))); (case aL => have := LMc36.out; omega); intro v215 w40 ho hb hg hat; rw [← Ny214.out] at ho; have n0_ := Aside0.mk (Z89 (g := gb196) (o := .cells #[.string a0_0, .int .i64 a0_1, .int .i64 a0_2, .int .i64 a0_3, .slice (some ad200) l0_4.length c0_4] 24 (0, 0)) (by (with_reducible repeat (first | refine Z0 ?_ _ | refine Z3 ?_ | refine Z1 ?_ _)); exact BK196.out) hg (Kd.R_ne HL213_0.out BK196.out (by decide))); have n1_ := Aside0.mk (Z89 (g := gb201) (o := .cells #[.slice A200_0 ((rd_T45 l0_4 x15_1).f0).length c200_0, .int .i64 ((rd_T45 l0_4 x15_1).f1), .int .i64 ((rd_T45 l0_4 x15_1).f2), .slice (some ad202) ((rd_T45 l0_4 x15_1).f3).length c200_3] 45 (0, 0)) (by (with_reducible repeat (first | refine Z0 ?_ _ | refine Z3 ?_ | refine Z1 ?_ _)); exact BK201.out) hg (Kd.R_ne HL213_0.out BK201.out (by decide))); have n2_ := Aside0.mk (hb); have n3_ := Aside0.mk (Kd.H_grown (Kd.H_widen (by repeat (first | exact HH39.out | refine Kd.H_alloc ?_ _ | refine Kd.H_drewN ?_ _ | refine Kd.H_drew ?_))) hg (fun k_ e_ => .inl (UU39.out.1 k_ e_))); have n4_ := Aside0.mk (ho); clear BK196; clear BK201; clear HB; clear HH39; clear HO_3; clear UU39; clear HL204_0; clear HL210_0; clear HL211_0; clear HL213_0; have BK196 := n0_; have BK201 := n1_; have HB := n2_; have HH39 := n3_; have HO216 := n4_; clear n0_ n1_ n2_ n3_ n4_; clear ho hb hg hat; have p37 : 0 ≤ ((rd ((rd_T45 l0_4 x15_1).f3) x23_2) : Int) := of_decide_eq_true (by first | (with_reducible assumption) | assumption); have q37 : ((rd ((rd_T45 l0_4 x15_1).f3) x23_2) : Int) < ((x3_2.length : Int) : Int) := of_decide_eq_true (by first | (with_reducible assumption) | assumption); replace p37 := eq_true p37; replace q37 := eq_true q37; obtain ⟨Ao43, co43, eo43⟩ := Kd.R_slice HO216.out; subst eo43; obtain ⟨_, _, hraw41, _, _, hcc41, _⟩ := Kd.H_raw HH39.out (of_decide_eq_true (by first | (with_reducible assumption) | assumption)) (by have h_ : ((rd ((rd_T45 l0_4 x15_1).f3) x23_2) : Int) < ((x3_2.length : Int) : Int) := of_decide_eq_true (by first | (with_reducible assumption) | assumption); first | exact h_ | (have e_ := (HN39.out); omega) | simpa using h_); obtain ⟨_, hfr41⟩ := Kd.H_at HH39.out (of_decide_eq_true (by first | (with_reducible assumption) | assumption)) (by have h_ : ((rd ((rd_T45 l0_4 x15_1).f3) x23_2) : Int) < ((x3_2.length : Int) : Int) := of_decide_eq_true (by first | (with_reducible assumption) | assumption); first | exact h_ | (have e_ := (HN39.out); omega) | simpa using h_); have hx41_0 := hcc41 0 _ rfl; have hf41_0 := hfr41 0; (try simp only [Nat.add_zero] at hx41_0 hf41_0); (try rw [show ((Kd.slice 3 (Kd.int .i64))).sz = 1 from rfl, Nat.mul_one] at hx41_0); (try rw [show ((Kd.slice 3 (Kd.int .i64))).sz = 1 from rfl, Nat.mul_one] at hf41_0); have HP41 := Kd.S_seg0 HH39.out (of_decide_eq_true (by first | (with_reducible assumption) | assumption)) (by have h_ : ((rd ((rd_T45 l0_4 x15_1).f3) x23_2) : Int) < ((x3_2.length : Int) : Int) := of_decide_eq_true (by first | (with_reducible assumption) | assumption); first | exact h_ | (have e_ := (HN39.out); omega) | simpa using h_) (seg := [.slice Ao43 y214.length co43]) (j := 0) (show 1 ≤ 1 from by decide) (x' := y214) (Kd.M_row HO216.out) (fun _ hk => hk); (try simp only [show ((Kd.slice 3 (Kd.int .i64))).sz = 1 from rfl, Nat.mul_one, Nat.add_zero] at HP41); clear hcc41 hfr41) | ((with_reducible refine gate_store (t := 26) (p := 65) rfl ?_); (try (rw [Z43 w40]; generalize hq_ : World.drewN w40 _ = w40; have n0_ := Aside0.mk (Kd.S_at hq_ HO_3.out); have n1_ := Aside0.mk (blk_at hq_ BK196.out); have n2_ := Aside0.mk (blk_at hq_ BK201.out); have n3_ := Aside0.mk (below_at hq_ HB.out); clear hq_ HO_3 BK196 BK201 HB; have HO_3 := n0_; have BK196 := n1_; have BK201 := n2_; have HB := n3_; clear n0_ n1_ n2_ n3_; (try (obtain ⟨Ao43, co43, eo43⟩ := Kd.R_slice HO216.out)); (try (subst eo43)); (try (obtain ⟨_, _, hraw41, _, _, hcc41, _⟩ := Kd.H_raw HH39.out (of_decide_eq_true (by first | (with_reducible assumption) | assumption)) (by have h_ : ((rd ((rd_T45 l0_4 x15_1).f3) x23_2) : Int) < ((x3_2.length : Int) : Int) := of_decide_eq_true (by first | (with_reducible assumption) | assumption); first | exact h_ | (have e_ := (HN39.out); omega) | simpa using h_))); (try (obtain ⟨_, hfr41⟩ := Kd.H_at HH39.out (of_decide_eq_true (by first | (with_reducible assumption) | assumption)) (by have h_ : ((rd ((rd_T45 l0_4 x15_1).f3) x23_2) : Int) < ((x3_2.length : Int) : Int) := of_decide_eq_true (by first | (with_reducible assumption) | assumption); first | exact h_ | (have e_ := (HN39.out); omega) | simpa using h_))); (try (have hx41_0 := hcc41 0 _ rfl)); (try (have hf41_0 := hfr41 0)); (try (try simp only [Nat.add_zero] at hx41_0 hf41_0)); (try (try rw [show ((Kd.slice 3 (Kd.int .i64))).sz = 1 from rfl, Nat.mul_one] at hx41_0)); (try (try rw [show ((Kd.slice 3 (Kd.int .i64))).sz = 1 from rfl, Nat.mul_one] at hf41_0)); (try (have HP41 := Kd.S_seg0 HH39.out (of_decide_eq_true (by first | (with_reducible assumption) | assumption)) (by have h_ : ((rd ((rd_T45 l0_4 x15_1).f3) x23_2) : Int) < ((x3_2.length : Int) : Int) := of_decide_eq_true (by first | (with_reducible assumption) | assumption); first | exact h_ | (have e_ := (HN39.out); omega) | simpa using h_) (seg := [.slice Ao43 y214.length co43]) (j := 0) (show 1 ≤ 1 from by decide) (x' := y214) (Kd.M_row HO216.out) (fun _ hk => hk))); (try (try simp only [show ((Kd.slice 3 (Kd.int .i64))).sz = 1 from rfl, Nat.mul_one, Nat.add_zero] at HP41)); (try (clear hcc41 hfr41)))); refine store_event (t := 26) (p := 65) (v := ?vo_w42) (w1 := (w40.setCell ⟨go39, ((rd ((rd_T45 l0_4 x15_1).f3) x23_2) : Int).toNat, none⟩ (.slice Ao43 y214.length co43))) ?hg ?ho ?hn ?hr ?_; (case ho => rfl); (case hg => rfl); (case hn => rfl); (case hr => first | (go_simp; done) | (go_simp; rfl)); intro w42 hw; have hg : w40.grownBy w42 (some go39) := (by rw [hw]; exact HP41.2); have hp_ : Kd.S (Kd.slice 3 (Kd.int .i64)) 26 w42 w.heap.size (fun _ => True) (.slice (some ⟨go39, 0, none⟩) x3_2.length co38) y217 := (by rw [hw, Ny217.out]; exact HP41.1); clear HP41; have n0_ := Aside0.mk (Z89 (g := gb196) (o := .cells #[.string a0_0, .int .i64 a0_1, .int .i64 a0_2, .int .i64 a0_3, .slice (some ad200) l0_4.length c0_4] 24 (0, 0)) (by (with_reducible repeat (first | refine Z0 ?_ _ | refine Z3 ?_ | refine Z1 ?_ _)); exact BK196.out) hg (Kd.R_ne hraw41 BK196.out (by decide))); have n1_ := Aside0.mk (Z89 (g := gb201) (o := .cells #[.slice A200_0 ((rd_T45 l0_4 x15_1).f0).length c200_0, .int .i64 ((rd_T45 l0_4 x15_1).f1), .int .i64 ((rd_T45 l0_4 x15_1).f2), .slice (some ad202) ((rd_T45 l0_4 x15_1).f3).length c200_3] 45 (0, 0)) (by (with_reducible repeat (first | refine Z0 ?_ _ | refine Z3 ?_ | refine Z1 ?_ _)); exact BK201.out) hg (Kd.R_ne hraw41 BK201.out (by decide))); have n2_ := Aside0.mk ((by rw [hw]; exact Z8 HB.out GB39.out : Below w.heap.size w w42)); have n3_ := Aside0.mk (hp_); clear BK196; clear BK201; clear HB; clear HO216; clear HH39; have BK196 := n0_; have BK201 := n1_; have HB := n2_; have HO_3 := n3_; clear n0_ n1_ n2_ n3_; clear hg hw hp_ hraw41))
                                     repeat (go_quiet (first | (go_at_call 36; (with_reducible refine (ir_within.calls (rd ((rd_T45 l0_4 x15_1).f3) x23_2) 0 (wrap64 ((x3_2.length : Int) - 1)) true _ A18.out).mono ?_); rintro e w' ⟨rfl, ⟨nd, rfl⟩⟩; (try first | exact ⟨rfl, _, World.drewN_drewN _ _ _⟩ | exact ⟨rfl, _, Eq.trans (World.drewN_drewN _ _ _) (congrArg (World.drewN _) (Nat.add_assoc _ _ _))⟩)) | ((with_reducible refine Z69 (b := .append) (xs := #[.tmp 61, .tmp 63]) rfl ?_); (try (refine Z66 (by rfl) ?_; dsimp only)); at_builtin; refine Kd.R_append (Kd.int .i64) (w0 := w) w.heap.size rfl (.tmp 61) (.tmp 63) 26 3 (.int .i64 0) 8 rfl Try.underlying26 info3 rfl (by decide) (by omega) (.slice (some ad212) (rd_L1 x3_2 (rd ((rd_T45 l0_4 x15_1).f3) x23_2)).length c204_0) (rd_L1 x3_2 (rd ((rd_T45 l0_4 x15_1).f3) x23_2)) x15_1 [.int .i64 x15_1] (fun k_ => oki39 k_ ∨ ((fun _ => True)) k_ ∧ wr.heap.size ≤ k_) (fun _ => False) rfl rfl ?aP (fun _ hk => hk.elim) ?aF ?aO ?aB ?aS ?aL ?_; (case aP => exact rfl); (case aB => exact (by repeat (first | (with_reducible first | exact HB.out | apply Z7 | apply Z4 | apply Z6 | refine Z8 ?_ GE196.out | refine Z8 ?_ GE201.out) | exact HB.out))); (case aF => exact (fun k_ hk => .inr ⟨trivial, hk⟩)); (case aO => exact (by (with_reducible repeat (first | apply Kd.R_alloc | apply Kd.R_drewN | apply Kd.R_drew)); exact Kd.R_mono UU39.out (fun _ hk => .inl hk))); (case aS => exact (Z27 (by repeat (first | (with_reducible first | exact HB.out | apply Z7 | apply Z4 | apply Z6 | refine Z8 ?_ GE196.out | refine Z8 ?_ GE201.out) | exact HB.out)))); (case aL => have := LMc36.out; omega); intro v215 w40 ho hb hg hat; rw [← Ny214.out] at ho; have n0_ := Aside0.mk (Z89 (g := gb196) (o := .cells #[.string a0_0, .int .i64 a0_1, .int .i64 a0_2, .int .i64 a0_3, .slice (some ad200) l0_4.length c0_4] 24 (0, 0)) (by (with_reducible repeat (first | refine Z0 ?_ _ | refine Z3 ?_ | refine Z1 ?_ _)); exact BK196.out) hg (Kd.R_ne HL213_0.out BK196.out (by decide))); have n1_ := Aside0.mk (Z89 (g := gb201) (o := .cells #[.slice A200_0 ((rd_T45 l0_4 x15_1).f0).length c200_0, .int .i64 ((rd_T45 l0_4 x15_1).f1), .int .i64 ((rd_T45 l0_4 x15_1).f2), .slice (some ad202) ((rd_T45 l0_4 x15_1).f3).length c200_3] 45 (0, 0)) (by (with_reducible repeat (first | refine Z0 ?_ _ | refine Z3 ?_ | refine Z1 ?_ _)); exact BK201.out) hg (Kd.R_ne HL213_0.out BK201.out (by decide))); have n2_ := Aside0.mk (hb); have n3_ := Aside0.mk (Kd.H_grown (Kd.H_widen (by repeat (first | exact HH39.out | refine Kd.H_alloc ?_ _ | refine Kd.H_drewN ?_ _ | refine Kd.H_drew ?_))) hg (fun k_ e_ => .inl (UU39.out.1 k_ e_))); have n4_ := Aside0.mk (ho); clear BK196; clear BK201; clear HB; clear HH39; clear HO_3; clear UU39; clear HL204_0; clear HL210_0; clear HL211_0; clear HL213_0; have BK196 := n0_; have BK201 := n1_; have HB := n2_; have HH39 := n3_; have HO216 := n4_; clear n0_ n1_ n2_ n3_ n4_; clear ho hb hg hat; have p37 : 0 ≤ ((rd ((rd_T45 l0_4 x15_1).f3) x23_2) : Int) := of_decide_eq_true (by first | (with_reducible assumption) | assumption); have q37 : ((rd ((rd_T45 l0_4 x15_1).f3) x23_2) : Int) < ((x3_2.length : Int) : Int) := of_decide_eq_true (by first | (with_reducible assumption) | assumption); replace p37 := eq_true p37; replace q37 := eq_true q37; obtain ⟨Ao43, co43, eo43⟩ := Kd.R_slice HO216.out; subst eo43; obtain ⟨_, _, hraw41, _, _, hcc41, _⟩ := Kd.H_raw HH39.out (of_decide_eq_true (by first | (with_reducible assumption) | assumption)) (by have h_ : ((rd ((rd_T45 l0_4 x15_1).f3) x23_2) : Int) < ((x3_2.length : Int) : Int) := of_decide_eq_true (by first | (with_reducible assumption) | assumption); first | exact h_ | (have e_ := (HN39.out); omega) | simpa using h_); obtain ⟨_, hfr41⟩ := Kd.H_at HH39.out (of_decide_eq_true (by first | (with_reducible assumption) | assumption)) (by have h_ : ((rd ((rd_T45 l0_4 x15_1).f3) x23_2) : Int) < ((x3_2.length : Int) : Int) := of_decide_eq_true (by first | (with_reducible assumption) | assumption); first | exact h_ | (have e_ := (HN39.out); omega) | simpa using h_); have hx41_0 := hcc41 0 _ rfl; have hf41_0 := hfr41 0; (try simp only [Nat.add_zero] at hx41_0 hf41_0); (try rw [show ((Kd.slice 3 (Kd.int .i64))).sz = 1 from rfl, Nat.mul_one] at hx41_0); (try rw [show ((Kd.slice 3 (Kd.int .i64))).sz = 1 from rfl, Nat.mul_one] at hf41_0); have HP41 := Kd.S_seg0 HH39.out (of_decide_eq_true (by first | (with_reducible assumption) | assumption)) (by have h_ : ((rd ((rd_T45 l0_4 x15_1).f3) x23_2) : Int) < ((x3_2.length : Int) : Int) := of_decide_eq_true (by first | (with_reducible assumption) | assumption); first | exact h_ | (have e_ := (HN39.out); omega) | simpa using h_) (seg := [.slice Ao43 y214.length co43]) (j := 0) (show 1 ≤ 1 from by decide) (x' := y214) (Kd.M_row HO216.out) (fun _ hk => hk); (try simp only [show ((Kd.slice 3 (Kd.int .i64))).sz = 1 from rfl, Nat.mul_one, Nat.add_zero] at HP41); clear hcc41 hfr41) | ((with_reducible refine gate_store (t := 26) (p := 65) rfl ?_); (try (rw [Z43 w40]; generalize hq_ : World.drewN w40 _ = w40; have n0_ := Aside0.mk (Kd.S_at hq_ HO_3.out); have n1_ := Aside0.mk (blk_at hq_ BK196.out); have n2_ := Aside0.mk (blk_at hq_ BK201.out); have n3_ := Aside0.mk (below_at hq_ HB.out); clear hq_ HO_3 BK196 BK201 HB; have HO_3 := n0_; have BK196 := n1_; have BK201 := n2_; have HB := n3_; clear n0_ n1_ n2_ n3_; (try (obtain ⟨Ao43, co43, eo43⟩ := Kd.R_slice HO216.out)); (try (subst eo43)); (try (obtain ⟨_, _, hraw41, _, _, hcc41, _⟩ := Kd.H_raw HH39.out (of_decide_eq_true (by first | (with_reducible assumption) | assumption)) (by have h_ : ((rd ((rd_T45 l0_4 x15_1).f3) x23_2) : Int) < ((x3_2.length : Int) : Int) := of_decide_eq_true (by first | (with_reducible assumption) | assumption); first | exact h_ | (have e_ := (HN39.out); omega) | simpa using h_))); (try (obtain ⟨_, hfr41⟩ := Kd.H_at HH39.out (of_decide_eq_true (by first | (with_reducible assumption) | assumption)) (by have h_ : ((rd ((rd_T45 l0_4 x15_1).f3) x23_2) : Int) < ((x3_2.length : Int) : Int) := of_decide_eq_true (by first | (with_reducible assumption) | assumption); first | exact h_ | (have e_ := (HN39.out); omega) | simpa using h_))); (try (have hx41_0 := hcc41 0 _ rfl)); (try (have hf41_0 := hfr41 0)); (try (try simp only [Nat.add_zero] at hx41_0 hf41_0)); (try (try rw [show ((Kd.slice 3 (Kd.int .i64))).sz = 1 from rfl, Nat.mul_one] at hx41_0)); (try (try rw [show ((Kd.slice 3 (Kd.int .i64))).sz = 1 from rfl, Nat.mul_one] at hf41_0)); (try (have HP41 := Kd.S_seg0 HH39.out (of_decide_eq_true (by first | (with_reducible assumption) | assumption)) (by have h_ : ((rd ((rd_T45 l0_4 x15_1).f3) x23_2) : Int) < ((x3_2.length : Int) : Int) := of_decide_eq_true (by first | (with_reducible assumption) | assumption); first | exact h_ | (have e_ := (HN39.out); omega) | simpa using h_) (seg := [.slice Ao43 y214.length co43]) (j := 0) (show 1 ≤ 1 from by decide) (x' := y214) (Kd.M_row HO216.out) (fun _ hk => hk))); (try (try simp only [show ((Kd.slice 3 (Kd.int .i64))).sz = 1 from rfl, Nat.mul_one, Nat.add_zero] at HP41)); (try (clear hcc41 hfr41)))); refine store_event (t := 26) (p := 65) (v := ?vo_w42) (w1 := (w40.setCell ⟨go39, ((rd ((rd_T45 l0_4 x15_1).f3) x23_2) : Int).toNat, none⟩ (.slice Ao43 y214.length co43))) ?hg ?ho ?hn ?hr ?_; (case ho => rfl); (case hg => rfl); (case hn => rfl); (case hr => first | (go_simp; done) | (go_simp; rfl)); intro w42 hw; have hg : w40.grownBy w42 (some go39) := (by rw [hw]; exact HP41.2); have hp_ : Kd.S (Kd.slice 3 (Kd.int .i64)) 26 w42 w.heap.size (fun _ => True) (.slice (some ⟨go39, 0, none⟩) x3_2.length co38) y217 := (by rw [hw, Ny217.out]; exact HP41.1); clear HP41; have n0_ := Aside0.mk (Z89 (g := gb196) (o := .cells #[.string a0_0, .int .i64 a0_1, .int .i64 a0_2, .int .i64 a0_3, .slice (some ad200) l0_4.length c0_4] 24 (0, 0)) (by (with_reducible repeat (first | refine Z0 ?_ _ | refine Z3 ?_ | refine Z1 ?_ _)); exact BK196.out) hg (Kd.R_ne hraw41 BK196.out (by decide))); have n1_ := Aside0.mk (Z89 (g := gb201) (o := .cells #[.slice A200_0 ((rd_T45 l0_4 x15_1).f0).length c200_0, .int .i64 ((rd_T45 l0_4 x15_1).f1), .int .i64 ((rd_T45 l0_4 x15_1).f2), .slice (some ad202) ((rd_T45 l0_4 x15_1).f3).length c200_3] 45 (0, 0)) (by (with_reducible repeat (first | refine Z0 ?_ _ | refine Z3 ?_ | refine Z1 ?_ _)); exact BK201.out) hg (Kd.R_ne hraw41 BK201.out (by decide))); have n2_ := Aside0.mk ((by rw [hw]; exact Z8 HB.out GB39.out : Below w.heap.size w w42)); have n3_ := Aside0.mk (hp_); clear BK196; clear BK201; clear HB; clear HO216; clear HH39; have BK196 := n0_; have BK201 := n1_; have HB := n2_; have HO_3 := n3_; clear n0_ n1_ n2_ n3_; clear hg hw hp_ hraw41)); try go_wp2_with (first | (go_at_call 36; (with_reducible refine (ir_within.calls (rd ((rd_T45 l0_4 x15_1).f3) x23_2) 0 (wrap64 ((x3_2.length : Int) - 1)) true _ A18.out).mono ?_); rintro e w' ⟨rfl, ⟨nd, rfl⟩⟩; (try first | exact ⟨rfl, _, World.drewN_drewN _ _ _⟩ | exact ⟨rfl, _, Eq.trans (World.drewN_drewN _ _ _) (congrArg (World.drewN _) (Nat.add_assoc _ _ _))⟩)) | ((with_reducible refine Z69 (b := .append) (xs := #[.tmp 61, .tmp 63]) rfl ?_); (try (refine Z66 (by rfl) ?_; dsimp only)); at_builtin; refine Kd.R_append (Kd.int .i64) (w0 := w) w.heap.size rfl (.tmp 61) (.tmp 63) 26 3 (.int .i64 0) 8 rfl Try.underlying26 info3 rfl (by decide) (by omega) (.slice (some ad212) (rd_L1 x3_2 (rd ((rd_T45 l0_4 x15_1).f3) x23_2)).length c204_0) (rd_L1 x3_2 (rd ((rd_T45 l0_4 x15_1).f3) x23_2)) x15_1 [.int .i64 x15_1] (fun k_ => oki39 k_ ∨ ((fun _ => True)) k_ ∧ wr.heap.size ≤ k_) (fun _ => False) rfl rfl ?aP (fun _ hk => hk.elim) ?aF ?aO ?aB ?aS ?aL ?_; (case aP => exact rfl); (case aB => exact (by repeat (first | (with_reducible first | exact HB.out | apply Z7 | apply Z4 | apply Z6 | refine Z8 ?_ GE196.out | refine Z8 ?_ GE201.out) | exact HB.out))); (case aF => exact (fun k_ hk => .inr ⟨trivial, hk⟩)); (case aO => exact (by (with_reducible repeat (first | apply Kd.R_alloc | apply Kd.R_drewN | apply Kd.R_drew)); exact Kd.R_mono UU39.out (fun _ hk => .inl hk))); (case aS => exact (Z27 (by repeat (first | (with_reducible first | exact HB.out | apply Z7 | apply Z4 | apply Z6 | refine Z8 ?_ GE196.out | refine Z8 ?_ GE201.out) | exact HB.out)))); (case aL => have := LMc36.out; omega); intro v215 w40 ho hb hg hat; rw [← Ny214.out] at ho; have n0_ := Aside0.mk (Z89 (g := gb196) (o := .cells #[.string a0_0, .int .i64 a0_1, .int .i64 a0_2, .int .i64 a0_3, .slice (some ad200) l0_4.length c0_4] 24 (0, 0)) (by (with_reducible repeat (first | refine Z0 ?_ _ | refine Z3 ?_ | refine Z1 ?_ _)); exact BK196.out) hg (Kd.R_ne HL213_0.out BK196.out (by decide))); have n1_ := Aside0.mk (Z89 (g := gb201) (o := .cells #[.slice A200_0 ((rd_T45 l0_4 x15_1).f0).length c200_0, .int .i64 ((rd_T45 l0_4 x15_1).f1), .int .i64 ((rd_T45 l0_4 x15_1).f2), .slice (some ad202) ((rd_T45 l0_4 x15_1).f3).length c200_3] 45 (0, 0)) (by (with_reducible repeat (first | refine Z0 ?_ _ | refine Z3 ?_ | refine Z1 ?_ _)); exact BK201.out) hg (Kd.R_ne HL213_0.out BK201.out (by decide))); have n2_ := Aside0.mk (hb); have n3_ := Aside0.mk (Kd.H_grown (Kd.H_widen (by repeat (first | exact HH39.out | refine Kd.H_alloc ?_ _ | refine Kd.H_drewN ?_ _ | refine Kd.H_drew ?_))) hg (fun k_ e_ => .inl (UU39.out.1 k_ e_))); have n4_ := Aside0.mk (ho); clear BK196; clear BK201; clear HB; clear HH39; clear HO_3; clear UU39; clear HL204_0; clear HL210_0; clear HL211_0; clear HL213_0; have BK196 := n0_; have BK201 := n1_; have HB := n2_; have HH39 := n3_; have HO216 := n4_; clear n0_ n1_ n2_ n3_ n4_; clear ho hb hg hat; have p37 : 0 ≤ ((rd ((rd_T45 l0_4 x15_1).f3) x23_2) : Int) := of_decide_eq_true (by first | (with_reducible assumption) | assumption); have q37 : ((rd ((rd_T45 l0_4 x15_1).f3) x23_2) : Int) < ((x3_2.length : Int) : Int) := of_decide_eq_true (by first | (with_reducible assumption) | assumption); replace p37 := eq_true p37; replace q37 := eq_true q37; obtain ⟨Ao43, co43, eo43⟩ := Kd.R_slice HO216.out; subst eo43; obtain ⟨_, _, hraw41, _, _, hcc41, _⟩ := Kd.H_raw HH39.out (of_decide_eq_true (by first | (with_reducible assumption) | assumption)) (by have h_ : ((rd ((rd_T45 l0_4 x15_1).f3) x23_2) : Int) < ((x3_2.length : Int) : Int) := of_decide_eq_true (by first | (with_reducible assumption) | assumption); first | exact h_ | (have e_ := (HN39.out); omega) | simpa using h_); obtain ⟨_, hfr41⟩ := Kd.H_at HH39.out (of_decide_eq_true (by first | (with_reducible assumption) | assumption)) (by have h_ : ((rd ((rd_T45 l0_4 x15_1).f3) x23_2) : Int) < ((x3_2.length : Int) : Int) := of_decide_eq_true (by first | (with_reducible assumption) | assumption); first | exact h_ | (have e_ := (HN39.out); omega) | simpa using h_); have hx41_0 := hcc41 0 _ rfl; have hf41_0 := hfr41 0; (try simp only [Nat.add_zero] at hx41_0 hf41_0); (try rw [show ((Kd.slice 3 (Kd.int .i64))).sz = 1 from rfl, Nat.mul_one] at hx41_0); (try rw [show ((Kd.slice 3 (Kd.int .i64))).sz = 1 from rfl, Nat.mul_one] at hf41_0); have HP41 := Kd.S_seg0 HH39.out (of_decide_eq_true (by first | (with_reducible assumption) | assumption)) (by have h_ : ((rd ((rd_T45 l0_4 x15_1).f3) x23_2) : Int) < ((x3_2.length : Int) : Int) := of_decide_eq_true (by first | (with_reducible assumption) | assumption); first | exact h_ | (have e_ := (HN39.out); omega) | simpa using h_) (seg := [.slice Ao43 y214.length co43]) (j := 0) (show 1 ≤ 1 from by decide) (x' := y214) (Kd.M_row HO216.out) (fun _ hk => hk); (try simp only [show ((Kd.slice 3 (Kd.int .i64))).sz = 1 from rfl, Nat.mul_one, Nat.add_zero] at HP41); clear hcc41 hfr41) | ((with_reducible refine gate_store (t := 26) (p := 65) rfl ?_); (try (rw [Z43 w40]; generalize hq_ : World.drewN w40 _ = w40; have n0_ := Aside0.mk (Kd.S_at hq_ HO_3.out); have n1_ := Aside0.mk (blk_at hq_ BK196.out); have n2_ := Aside0.mk (blk_at hq_ BK201.out); have n3_ := Aside0.mk (below_at hq_ HB.out); clear hq_ HO_3 BK196 BK201 HB; have HO_3 := n0_; have BK196 := n1_; have BK201 := n2_; have HB := n3_; clear n0_ n1_ n2_ n3_; (try (obtain ⟨Ao43, co43, eo43⟩ := Kd.R_slice HO216.out)); (try (subst eo43)); (try (obtain ⟨_, _, hraw41, _, _, hcc41, _⟩ := Kd.H_raw HH39.out (of_decide_eq_true (by first | (with_reducible assumption) | assumption)) (by have h_ : ((rd ((rd_T45 l0_4 x15_1).f3) x23_2) : Int) < ((x3_2.length : Int) : Int) := of_decide_eq_true (by first | (with_reducible assumption) | assumption); first | exact h_ | (have e_ := (HN39.out); omega) | simpa using h_))); (try (obtain ⟨_, hfr41⟩ := Kd.H_at HH39.out (of_decide_eq_true (by first | (with_reducible assumption) | assumption)) (by have h_ : ((rd ((rd_T45 l0_4 x15_1).f3) x23_2) : Int) < ((x3_2.length : Int) : Int) := of_decide_eq_true (by first | (with_reducible assumption) | assumption); first | exact h_ | (have e_ := (HN39.out); omega) | simpa using h_))); (try (have hx41_0 := hcc41 0 _ rfl)); (try (have hf41_0 := hfr41 0)); (try (try simp only [Nat.add_zero] at hx41_0 hf41_0)); (try (try rw [show ((Kd.slice 3 (Kd.int .i64))).sz = 1 from rfl, Nat.mul_one] at hx41_0)); (try (try rw [show ((Kd.slice 3 (Kd.int .i64))).sz = 1 from rfl, Nat.mul_one] at hf41_0)); (try (have HP41 := Kd.S_seg0 HH39.out (of_decide_eq_true (by first | (with_reducible assumption) | assumption)) (by have h_ : ((rd ((rd_T45 l0_4 x15_1).f3) x23_2) : Int) < ((x3_2.length : Int) : Int) := of_decide_eq_true (by first | (with_reducible assumption) | assumption); first | exact h_ | (have e_ := (HN39.out); omega) | simpa using h_) (seg := [.slice Ao43 y214.length co43]) (j := 0) (show 1 ≤ 1 from by decide) (x' := y214) (Kd.M_row HO216.out) (fun _ hk => hk))); (try (try simp only [show ((Kd.slice 3 (Kd.int .i64))).sz = 1 from rfl, Nat.mul_one, Nat.add_zero] at HP41)); (try (clear hcc41 hfr41)))); refine store_event (t := 26) (p := 65) (v := ?vo_w42) (w1 := (w40.setCell ⟨go39, ((rd ((rd_T45 l0_4 x15_1).f3) x23_2) : Int).toNat, none⟩ (.slice Ao43 y214.length co43))) ?hg ?ho ?hn ?hr ?_; (case ho => rfl); (case hg => rfl); (case hn => rfl); (case hr => first | (go_simp; done) | (go_simp; rfl)); intro w42 hw; have hg : w40.grownBy w42 (some go39) := (by rw [hw]; exact HP41.2); have hp_ : Kd.S (Kd.slice 3 (Kd.int .i64)) 26 w42 w.heap.size (fun _ => True) (.slice (some ⟨go39, 0, none⟩) x3_2.length co38) y217 := (by rw [hw, Ny217.out]; exact HP41.1); clear HP41; have n0_ := Aside0.mk (Z89 (g := gb196) (o := .cells #[.string a0_0, .int .i64 a0_1, .int .i64 a0_2, .int .i64 a0_3, .slice (some ad200) l0_4.length c0_4] 24 (0, 0)) (by (with_reducible repeat (first | refine Z0 ?_ _ | refine Z3 ?_ | refine Z1 ?_ _)); exact BK196.out) hg (Kd.R_ne hraw41 BK196.out (by decide))); have n1_ := Aside0.mk (Z89 (g := gb201) (o := .cells #[.slice A200_0 ((rd_T45 l0_4 x15_1).f0).length c200_0, .int .i64 ((rd_T45 l0_4 x15_1).f1), .int .i64 ((rd_T45 l0_4 x15_1).f2), .slice (some ad202) ((rd_T45 l0_4 x15_1).f3).length c200_3] 45 (0, 0)) (by (with_reducible repeat (first | refine Z0 ?_ _ | refine Z3 ?_ | refine Z1 ?_ _)); exact BK201.out) hg (Kd.R_ne hraw41 BK201.out (by decide))); have n2_ := Aside0.mk ((by rw [hw]; exact Z8 HB.out GB39.out : Below w.heap.size w w42)); have n3_ := Aside0.mk (hp_); clear BK196; clear BK201; clear HB; clear HO216; clear HH39; have BK196 := n0_; have BK201 := n1_; have HB := n2_; have HO_3 := n3_; clear n0_ n1_ n2_ n3_; clear hg hw hp_ hraw41)))
                                     go_roundg k2
                                     case measure => have := HK1.out; have := HK2.out; omega
                                     case rel => exact ⟨(y217), (wrap64 (x23_2 + 1)), (by first | rfl | (simp; done) | (simp [*]; done)), H', ⟨by have := HK1.out; have := HK2.out; omega⟩, ⟨by (with_reducible repeat (first | apply Kd.S_alloc | apply Kd.S_drewN | apply Kd.S_drew)); exact HO_3.out⟩, ⟨by (with_reducible repeat (first | refine Z0 ?_ _ | refine Z3 ?_ | refine Z1 ?_ _)); exact BK196.out⟩, ⟨by (with_reducible repeat (first | refine Z0 ?_ _ | refine Z3 ?_ | refine Z1 ?_ _)); exact BK201.out⟩, ⟨by repeat (first | (with_reducible first | exact HB.out | apply Z7 | apply Z4 | apply Z6 | refine Z8 ?_ GE196.out | refine Z8 ?_ GE201.out) | exact HB.out)⟩⟩
                                   · rw [if_neg c36] at H
                                     exact absurd H (by simp)
                               · rw [if_neg c33] at H
                                 exact absurd H (by simp)
                             · rw [if_neg c32] at H
                               exact absurd H (by simp)
                         · rw [if_neg c21] at H
                           exact absurd H (by simp)
                       · rw [if_neg c20] at H
                         exact absurd H (by simp)
                     · replace c19 := Bool.eq_false_iff.mpr c19
                       subst c19
                       have H1 : (ir_Preds.l1 k2 x3_2 x15_1 l0_4 (l0_4.length : Int) x15_1 ((rd_T45 l0_4 x15_1).f3) (((rd_T45 l0_4 x15_1).f3).length : Int) (wrap64 (x23_2 + 1))) = some r := by rw [if_neg (show ¬ (false = true) by decide)] at H; exact H
                       clear H
                       have H := H1
                       clear H1
                       have H' := Aside0.mk H
                       clear H
                       have p202 : 0 ≤ (x23_2 : Int) := of_decide_eq_true (by first | (with_reducible assumption) | assumption)
                       have q202 : x23_2 < (((rd_T45 l0_4 x15_1).f3).length : Int) := of_decide_eq_true (by first | (with_reducible assumption) | assumption)
                       obtain ⟨ad202, e202, hx202_0⟩ := Kd.at_int HR200_3.out x23_2 p202 q202
                       cases e202
                       replace hx202_0 := (HB.out.cell (World.block_lt_of_cell? w _ hx202_0)).trans hx202_0
                       replace p202 := eq_true p202
                       replace q202 := eq_true q202
                       obtain ⟨Ao44, co44, eo44⟩ := Kd.S_slice HO_3.out
                       subst eo44
                       go_wp2_with (first | (go_at_call 36; (with_reducible refine (ir_within.calls (rd ((rd_T45 l0_4 x15_1).f3) x23_2) 0 (wrap64 ((x3_2.length : Int) - 1)) false _ A18.out).mono ?_); rintro e w' ⟨rfl, ⟨nd, rfl⟩⟩; (try first | exact ⟨rfl, _, World.drewN_drewN _ _ _⟩ | exact ⟨rfl, _, Eq.trans (World.drewN_drewN _ _ _) (congrArg (World.drewN _) (Nat.add_assoc _ _ _))⟩)))
                       repeat (go_quiet (first | (go_at_call 36; (with_reducible refine (ir_within.calls (rd ((rd_T45 l0_4 x15_1).f3) x23_2) 0 (wrap64 ((x3_2.length : Int) - 1)) false _ A18.out).mono ?_); rintro e w' ⟨rfl, ⟨nd, rfl⟩⟩; (try first | exact ⟨rfl, _, World.drewN_drewN _ _ _⟩ | exact ⟨rfl, _, Eq.trans (World.drewN_drewN _ _ _) (congrArg (World.drewN _) (Nat.add_assoc _ _ _))⟩))); try go_wp2_with (first | (go_at_call 36; (with_reducible refine (ir_within.calls (rd ((rd_T45 l0_4 x15_1).f3) x23_2) 0 (wrap64 ((x3_2.length : Int) - 1)) false _ A18.out).mono ?_); rintro e w' ⟨rfl, ⟨nd, rfl⟩⟩; (try first | exact ⟨rfl, _, World.drewN_drewN _ _ _⟩ | exact ⟨rfl, _, Eq.trans (World.drewN_drewN _ _ _) (congrArg (World.drewN _) (Nat.add_assoc _ _ _))⟩))))
                       go_roundg k2
                       case measure => have := HK1.out; have := HK2.out; omega
                       case rel => exact ⟨(x3_2), (wrap64 (x23_2 + 1)), (by first | rfl | (simp; done) | (simp [*]; done)), H', ⟨by have := HK1.out; have := HK2.out; omega⟩, ⟨by (with_reducible repeat (first | apply Kd.S_alloc | apply Kd.S_drewN | apply Kd.S_drew)); exact HO_3.out⟩, ⟨by (with_reducible repeat (first | refine Z0 ?_ _ | refine Z3 ?_ | refine Z1 ?_ _)); exact BK196.out⟩, ⟨by (with_reducible repeat (first | refine Z0 ?_ _ | refine Z3 ?_ | refine Z1 ?_ _)); exact BK201.out⟩, ⟨by repeat (first | (with_reducible first | exact HB.out | apply Z7 | apply Z4 | apply Z6 | refine Z8 ?_ GE196.out | refine Z8 ?_ GE201.out) | exact HB.out)⟩⟩
                   · rw [if_neg c17] at H
                     exact absurd H (by simp)
                 · rw [if_neg c16] at H
                   exact absurd H (by simp)
               · rw [if_neg c15] at H
                 have c15b0 : decide (x23_2 < (((rd_T45 l0_4 x15_1).f3).length : Int)) = false := decide_eq_false c15
                 clear c15
                 have H' := Aside0.mk H
                 clear H
                 go_wp2
                 repeat (go_quiet (fail); try go_wp2)
                 go_roundg k2
                 case measure => have := HK1.out; have := HK2.out; omega
                 case rel => exact ⟨(x3_2), (wrap64 (x15_1 + 1)), (by first | rfl | (simp; done) | (simp [*]; done)), H', ⟨by have := HK1.out; have := HK2.out; omega⟩, ⟨by (with_reducible repeat (first | apply Kd.S_alloc | apply Kd.S_drewN | apply Kd.S_drew)); exact HO_3.out⟩, ⟨by (with_reducible repeat (first | refine Z0 ?_ _ | refine Z3 ?_ | refine Z1 ?_ _)); exact BK196.out⟩, ⟨by repeat (first | (with_reducible first | exact HB.out | apply Z7 | apply Z4 | apply Z6 | refine Z8 ?_ GE196.out | refine Z8 ?_ GE201.out) | exact HB.out)⟩⟩
           · rw [if_neg c11] at H
             exact absurd H (by simp)
         · rw [if_neg c10] at H
           exact absurd H (by simp)
       · rw [if_neg c9] at H
         have c9b0 : decide (x15_1 < (l0_4.length : Int)) = false := decide_eq_false c9
         clear c9
         obtain rfl := Option.some.inj H
         go_wp2
         repeat (go_quiet (fail); try go_wp2)
         go_ret
         exact ⟨_, by first | rfl | (simp [Z16, Z15] <;> rfl) | (simp [*, Z16, Z15] <;> rfl), by (with_reducible repeat (first | apply Kd.S_alloc | apply Kd.S_drewN | apply Kd.S_drew)); exact HO_3.out, by repeat (first | (with_reducible first | exact HB.out | apply Z7 | apply Z4 | apply Z6 | refine Z8 ?_ GE196.out) | exact HB.out)⟩
   · rw [if_neg c3] at H
     exact absurd H (by simp)
 · rw [if_neg c2] at H
   exact absurd H (by simp)
end Go.Proofs.Ytbklmnieakefnaa.Q
