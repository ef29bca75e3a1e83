/- A part of the proof, made small by a program: Qx2, Qx3, Qx4, Qx6, Qx9. -/
import Derived.Test.YtbklmnieakefnaaVw1
namespace Go.Proofs.Ytbklmnieakefnaa.Q
open Go.RowKit Go.Proofs.YtbklmnieakefnaaW.PrintWords Go.Proofs.YtbklmnieakefnaaW.PrintLast Go.Proofs.YtbklmnieakefnaaW.PrintMore
attribute [local go_sem] Z56 Z54 Z61 Z60 Z49 Z48 Z55 Z53
set_option linter.unusedVariables false
set_option linter.unusedSimpArgs false
def crucibleref14_SameInts.l0 : Nat → List Int → List Int → Int → Option (Bool)
 | 0, _, _, _ => none
 | k + 1, x0, x1, x5 => if x5 < (x0.length : Int) then (if 0 ≤ x5 then (if x5 < (x1.length : Int) then (if (rd x0 x5) = (rd x1 x5) then (crucibleref14_SameInts.l0 k x0 x1 (wrap64 (x5 + 1))) else (some false)) else (none)) else (none)) else (some true)
def crucibleref14_SameInts.f (k : Nat) (l0 : List Int) (l1 : List Int) : Option (Bool) := if (l0.length : Int) = (l1.length : Int) then (crucibleref14_SameInts.l0 k l0 l1 0) else (some false)
theorem crucibleref14_SameInts.mono_l : ∀ k, (∀ y0 y1 y2, LeO (crucibleref14_SameInts.l0 k y0 y1 y2) (crucibleref14_SameInts.l0 (k + 1) y0 y1 y2))
 | 0 => fun _ _ _ r h => by simp [crucibleref14_SameInts.l0] at h
 | k + 1 => by
  have ih0 := crucibleref14_SameInts.mono_l k
  · intro y0 y1 y2
    unfold crucibleref14_SameInts.l0
    repeat' first
    | (with_reducible exact ih0 _ _ _)
    | (with_reducible exact LeO.refl _)
    | (with_reducible exact LeO.none _)
    | (with_reducible refine LeO.ite ?_ ?_)
    | (with_reducible refine LeO.bind ?_ (fun _ => ?_))
    | exact ih0 _ _ _
    | exact LeO.none _
    | refine LeO.ite ?_ ?_
    | refine LeO.bind ?_ (fun _ => ?_)
theorem crucibleref14_SameInts.mono : ∀ a0 a1 k, LeO (crucibleref14_SameInts.f k a0 a1) (crucibleref14_SameInts.f (k + 1) a0 a1) := by
 intro a0 a1 k
 have ih0 := crucibleref14_SameInts.mono_l k
 unfold crucibleref14_SameInts.f
 repeat' first
  | (with_reducible exact ih0 _ _ _)
  | (with_reducible exact LeO.refl _)
  | (with_reducible exact LeO.none _)
  | (with_reducible refine LeO.ite ?_ ?_)
  | (with_reducible refine LeO.bind ?_ (fun _ => ?_))
  | exact ih0 _ _ _
  | exact LeO.none _
  | refine LeO.ite ?_ ?_
  | refine LeO.bind ?_ (fun _ => ?_)
set_option maxHeartbeats 8000000 in
set_option maxRecDepth 100000 in
theorem crucibleref14_SameInts.calls (k : Nat) (A0 : Option Addr) (c0 : Nat) (l0 : List Int) (A1 : Option Addr) (c1 : Nat) (l1 : List Int) (r : Bool) (w : World) (hr0 : Kd.C (Kd.int .i64) w A0 l0.length l0) (hc0 : l0.length ≤ c0) (hr1 : Kd.C (Kd.int .i64) w A1 l1.length l1) (hc1 : l1.length ≤ c1) (h : crucibleref14_SameInts.f k l0 l1 = some r) :
 Calls Try.prog 13 #[.slice A0 l0.length c0, .slice A1 l1.length c1] w fun e w' => e = .returned (.bool r) ∧ Drawn0 w w' := by
 have HR0 := Aside0.mk hr0
 have HC0 := Aside0.mk hc0
 clear hr0 hc0
 have HR1 := Aside0.mk hr1
 have HC1 := Aside0.mk hc1
 clear hr1 hc1
 have H : (if (l0.length : Int) = (l1.length : Int) then (crucibleref14_SameInts.l0 k l0 l1 0) else (some false)) = some r := h
 clear h
 by_cases c3 : (l0.length : Int) = (l1.length : Int)
 · rw [if_pos c3] at H
   have c3b0 : ((l0.length : Int) == (l1.length : Int)) = true := beq_iff_eq.mpr c3
   have c3b1 : ((l0.length : Int) != (l1.length : Int)) = false := bne_eq_false_iff_eq.mpr c3
   have c3b2 : (l0.length == l1.length) = true := by first | simpa using c3 | (simp at c3 ⊢; omega)
   clear c3
   have H' := Aside0.mk H
   clear H
   go_enter Try.func13, Try.ntmps13
   go_wp2
   repeat (go_quiet (fail); try go_wp2)
   go_loopg [5] k (fun kq v5 w' => ∃ (x5_1 : Int), v5 = .int .i64 x5_1 ∧ Aside0 (crucibleref14_SameInts.l0 kq l0 l1 x5_1 = some r) ∧ Aside0 (kq ≤ k) ∧ Drawn0 w w')
   case atStart => exact ⟨(0), (by first | rfl | (simp; done) | (simp [*]; done)), H', ⟨Nat.le_refl _⟩, by repeat (first | exact Drawn0.refl _ | apply Drawn0.step)⟩
   case round =>
    clear H'
    try clear c1
    try clear c3
    try clear c3b0
    try clear c3b1
    try clear c3b2
    obtain ⟨x5_1, rfl, HA, HK1, ⟨m1, rfl⟩⟩ := hrel
    cases gk with
    | zero => exact absurd HA.out (by simp [crucibleref14_SameInts.l0])
    | succ k1 =>
     have H := HA.out
     clear HA
     simp only [crucibleref14_SameInts.l0] at H
     by_cases c4 : x5_1 < (l0.length : Int)
     · rw [if_pos c4] at H
       have c4b0 : decide (x5_1 < (l0.length : Int)) = true := decide_eq_true c4
       clear c4
       by_cases c5 : 0 ≤ x5_1
       · rw [if_pos c5] at H
         have c5b0 : decide (0 ≤ x5_1) = true := decide_eq_true c5
         clear c5
         by_cases c6 : x5_1 < (l1.length : Int)
         · rw [if_pos c6] at H
           have c6b0 : decide (x5_1 < (l1.length : Int)) = true := decide_eq_true c6
           clear c6
           by_cases c7 : (rd l0 x5_1) = (rd l1 x5_1)
           · rw [if_pos c7] at H
             have c7b0 : ((rd l0 x5_1) == (rd l1 x5_1)) = true := beq_iff_eq.mpr c7
             have c7b1 : ((rd l0 x5_1) != (rd l1 x5_1)) = false := bne_eq_false_iff_eq.mpr c7
             clear c7
             have H' := Aside0.mk H
             clear H
             have p113 : 0 ≤ (x5_1 : Int) := of_decide_eq_true (by first | (with_reducible assumption) | assumption)
             have q113 : x5_1 < (l0.length : Int) := of_decide_eq_true (by first | (with_reducible assumption) | assumption)
             obtain ⟨ad113, e113, hx113_0⟩ := Kd.at_int HR0.out x5_1 p113 q113
             cases e113
             replace p113 := eq_true p113
             replace q113 := eq_true q113
             have p114 : 0 ≤ (x5_1 : Int) := of_decide_eq_true (by first | (with_reducible assumption) | assumption)
             have q114 : x5_1 < (l1.length : Int) := of_decide_eq_true (by first | (with_reducible assumption) | assumption)
             obtain ⟨ad114, e114, hx114_0⟩ := Kd.at_int HR1.out x5_1 p114 q114
             cases e114
             replace p114 := eq_true p114
             replace q114 := eq_true q114
             go_wp2
             repeat (go_quiet (fail); try go_wp2)
             go_roundg k1
             case measure => have := HK1.out; omega
             case rel => exact ⟨(wrap64 (x5_1 + 1)), (by first | rfl | (simp; done) | (simp [*]; done)), H', ⟨by have := HK1.out; omega⟩, by repeat (first | exact Drawn0.refl _ | apply Drawn0.step)⟩
           · rw [if_neg c7] at H
             have c7b0 : ((rd l0 x5_1) == (rd l1 x5_1)) = false := beq_eq_false_iff_ne.mpr c7
             have c7b1 : ((rd l0 x5_1) != (rd l1 x5_1)) = true := bne_iff_ne.mpr c7
             obtain rfl := Option.some.inj H
             have p113 : 0 ≤ (x5_1 : Int) := of_decide_eq_true (by first | (with_reducible assumption) | assumption)
             have q113 : x5_1 < (l0.length : Int) := of_decide_eq_true (by first | (with_reducible assumption) | assumption)
             obtain ⟨ad113, e113, hx113_0⟩ := Kd.at_int HR0.out x5_1 p113 q113
             cases e113
             replace p113 := eq_true p113
             replace q113 := eq_true q113
             have p114 : 0 ≤ (x5_1 : Int) := of_decide_eq_true (by first | (with_reducible assumption) | assumption)
             have q114 : x5_1 < (l1.length : Int) := of_decide_eq_true (by first | (with_reducible assumption) | assumption)
             obtain ⟨ad114, e114, hx114_0⟩ := Kd.at_int HR1.out x5_1 p114 q114
             cases e114
             replace p114 := eq_true p114
             replace q114 := eq_true q114
             go_wp2
             repeat (go_quiet (fail); try go_wp2)
             go_ret
             exact ⟨by first | rfl | (simp; done) | (simp [*]; done), by repeat (first | exact Drawn0.refl _ | apply Drawn0.step)⟩
         · rw [if_neg c6] at H
           exact absurd H (by simp)
       · rw [if_neg c5] at H
         exact absurd H (by simp)
     · rw [if_neg c4] at H
       have c4b0 : decide (x5_1 < (l0.length : Int)) = false := decide_eq_false c4
       clear c4
       obtain rfl := Option.some.inj H
       go_wp2
       repeat (go_quiet (fail); try go_wp2)
       go_ret
       exact ⟨by first | rfl | (simp; done) | (simp [*]; done), by repeat (first | exact Drawn0.refl _ | apply Drawn0.step)⟩
 · rw [if_neg c3] at H
   have c3b0 : ((l0.length : Int) == (l1.length : Int)) = false := beq_eq_false_iff_ne.mpr c3
   have c3b1 : ((l0.length : Int) != (l1.length : Int)) = true := bne_iff_ne.mpr c3
   have c3b2 : (l0.length == l1.length) = false := by first | simpa using c3 | (simp at c3 ⊢; omega)
   obtain rfl := Option.some.inj H
   go_enter Try.func13, Try.ntmps13
   go_wp2
   repeat (go_quiet (fail); try go_wp2)
   go_ret
   exact ⟨by first | rfl | (simp; done) | (simp [*]; done), by repeat (first | exact Drawn0.refl _ | apply Drawn0.step)⟩
end Go.Proofs.Ytbklmnieakefnaa.Q
namespace Go.Proofs.Ytbklmnieakefnaa.Q
open Go.RowKit Go.Proofs.YtbklmnieakefnaaW.PrintWords Go.Proofs.YtbklmnieakefnaaW.PrintLast Go.Proofs.YtbklmnieakefnaaW.PrintMore
attribute [local go_sem] Z56 Z54 Z61 Z60 Z49 Z48 Z55 Z53
set_option linter.unusedVariables false
set_option linter.unusedSimpArgs false
def crucibleref14_has.l0 : Nat → List Int → Int → Int → Option (Bool)
 | 0, _, _, _ => none
 | k + 1, x0, x1, x5 => if x5 < (x0.length : Int) then (if 0 ≤ x5 then (if (rd x0 x5) = x1 then (some true) else (crucibleref14_has.l0 k x0 x1 (wrap64 (x5 + 1)))) else (none)) else (some false)
def crucibleref14_has.f (k : Nat) (l0 : List Int) (a1 : Int) : Option (Bool) := crucibleref14_has.l0 k l0 a1 0
theorem crucibleref14_has.mono_l : ∀ k, (∀ y0 y1 y2, LeO (crucibleref14_has.l0 k y0 y1 y2) (crucibleref14_has.l0 (k + 1) y0 y1 y2))
 | 0 => fun _ _ _ r h => by simp [crucibleref14_has.l0] at h
 | k + 1 => by
  have ih0 := crucibleref14_has.mono_l k
  · intro y0 y1 y2
    unfold crucibleref14_has.l0
    repeat' first
    | (with_reducible exact ih0 _ _ _)
    | (with_reducible exact LeO.refl _)
    | (with_reducible exact LeO.none _)
    | (with_reducible refine LeO.ite ?_ ?_)
    | (with_reducible refine LeO.bind ?_ (fun _ => ?_))
    | exact ih0 _ _ _
    | exact LeO.none _
    | refine LeO.ite ?_ ?_
    | refine LeO.bind ?_ (fun _ => ?_)
theorem crucibleref14_has.mono : ∀ a0 a1 k, LeO (crucibleref14_has.f k a0 a1) (crucibleref14_has.f (k + 1) a0 a1) := by
 intro a0 a1 k
 have ih0 := crucibleref14_has.mono_l k
 unfold crucibleref14_has.f
 repeat' first
  | (with_reducible exact ih0 _ _ _)
  | (with_reducible exact LeO.refl _)
  | (with_reducible exact LeO.none _)
  | (with_reducible refine LeO.ite ?_ ?_)
  | (with_reducible refine LeO.bind ?_ (fun _ => ?_))
  | exact ih0 _ _ _
  | exact LeO.none _
  | refine LeO.ite ?_ ?_
  | refine LeO.bind ?_ (fun _ => ?_)
set_option maxHeartbeats 8000000 in
set_option maxRecDepth 100000 in
theorem crucibleref14_has.calls (k : Nat) (A0 : Option Addr) (c0 : Nat) (l0 : List Int) (a1 : Int) (r : Bool) (w : World) (hr0 : Kd.C (Kd.int .i64) w A0 l0.length l0) (hc0 : l0.length ≤ c0) (h : crucibleref14_has.f k l0 a1 = some r) :
 Calls Try.prog 38 #[.slice A0 l0.length c0, .int .i64 a1] w fun e w' => e = .returned (.bool r) ∧ Drawn0 w w' := by
 have HR0 := Aside0.mk hr0
 have HC0 := Aside0.mk hc0
 clear hr0 hc0
 have H : (crucibleref14_has.l0 k l0 a1 0) = some r := h
 clear h
 have H' := Aside0.mk H
 clear H
 go_enter Try.func38, Try.ntmps38
 go_wp2
 go_loopg [5] k (fun kq v5 w' => ∃ (x5_1 : Int), v5 = .int .i64 x5_1 ∧ Aside0 (crucibleref14_has.l0 kq l0 a1 x5_1 = some r) ∧ Aside0 (kq ≤ k) ∧ Drawn0 w w')
 case atStart => exact ⟨(0), (by first | rfl | (simp; done) | (simp [*]; done)), H', ⟨Nat.le_refl _⟩, by repeat (first | exact Drawn0.refl _ | apply Drawn0.step)⟩
 case round =>
  clear H'
  obtain ⟨x5_1, rfl, HA, HK1, ⟨m1, rfl⟩⟩ := hrel
  cases gk with
  | zero => exact absurd HA.out (by simp [crucibleref14_has.l0])
  | succ k1 =>
   have H := HA.out
   clear HA
   simp only [crucibleref14_has.l0] at H
   by_cases c3 : x5_1 < (l0.length : Int)
   · rw [if_pos c3] at H
     have c3b0 : decide (x5_1 < (l0.length : Int)) = true := decide_eq_true c3
     clear c3
     by_cases c4 : 0 ≤ x5_1
     · rw [if_pos c4] at H
       have c4b0 : decide (0 ≤ x5_1) = true := decide_eq_true c4
       clear c4
       by_cases c5 : (rd l0 x5_1) = a1
       · rw [if_pos c5] at H
         have c5b0 : ((rd l0 x5_1) == a1) = true := beq_iff_eq.mpr c5
         have c5b1 : ((rd l0 x5_1) != a1) = false := bne_eq_false_iff_eq.mpr c5
         clear c5
         obtain rfl := Option.some.inj H
         have p115 : 0 ≤ (x5_1 : Int) := of_decide_eq_true (by first | (with_reducible assumption) | assumption)
         have q115 : x5_1 < (l0.length : Int) := of_decide_eq_true (by first | (with_reducible assumption) | assumption)
         obtain ⟨ad115, e115, hx115_0⟩ := Kd.at_int HR0.out x5_1 p115 q115
         cases e115
         replace p115 := eq_true p115
         replace q115 := eq_true q115
         go_wp2
         go_ret
         exact ⟨by first | rfl | (simp; done) | (simp [*]; done), by repeat (first | exact Drawn0.refl _ | apply Drawn0.step)⟩
       · rw [if_neg c5] at H
         have c5b0 : ((rd l0 x5_1) == a1) = false := beq_eq_false_iff_ne.mpr c5
         have c5b1 : ((rd l0 x5_1) != a1) = true := bne_iff_ne.mpr c5
         have H' := Aside0.mk H
         clear H
         have p115 : 0 ≤ (x5_1 : Int) := of_decide_eq_true (by first | (with_reducible assumption) | assumption)
         have q115 : x5_1 < (l0.length : Int) := of_decide_eq_true (by first | (with_reducible assumption) | assumption)
         obtain ⟨ad115, e115, hx115_0⟩ := Kd.at_int HR0.out x5_1 p115 q115
         cases e115
         replace p115 := eq_true p115
         replace q115 := eq_true q115
         go_wp2
         go_roundg k1
         case measure => have := HK1.out; omega
         case rel => exact ⟨(wrap64 (x5_1 + 1)), (by first | rfl | (simp; done) | (simp [*]; done)), H', ⟨by have := HK1.out; omega⟩, by repeat (first | exact Drawn0.refl _ | apply Drawn0.step)⟩
     · rw [if_neg c4] at H
       exact absurd H (by simp)
   · rw [if_neg c3] at H
     have c3b0 : decide (x5_1 < (l0.length : Int)) = false := decide_eq_false c3
     clear c3
     obtain rfl := Option.some.inj H
     go_wp2
     go_ret
     exact ⟨by first | rfl | (simp; done) | (simp [*]; done), by repeat (first | exact Drawn0.refl _ | apply Drawn0.step)⟩
end Go.Proofs.Ytbklmnieakefnaa.Q
namespace Go.Proofs.Ytbklmnieakefnaa.Q
open Go.RowKit Go.Proofs.YtbklmnieakefnaaW.PrintWords Go.Proofs.YtbklmnieakefnaaW.PrintLast Go.Proofs.YtbklmnieakefnaaW.PrintMore
attribute [local go_sem] Z56 Z54 Z61 Z60 Z49 Z48 Z55 Z53
set_option linter.unusedVariables false
set_option linter.unusedSimpArgs false
mutual
def crucibleref14_Preds.l0 : Nat → List (List Int) → Int → ByteArray → Int → Int → Int → List (S45) → Option ((List (List Int)))
 | 0, _, _, _, _, _, _, _ => none
 | k + 1, x3, x4, x117000, x117001, x117002, x117003, x117004 => if x4 < (x117004.length : Int) then (crucibleref14_Preds.l1 k x3 x4 0 x117000 x117001 x117002 x117003 x117004) else (some x3)
def crucibleref14_Preds.l1 : Nat → List (List Int) → Int → Int → ByteArray → Int → Int → Int → List (S45) → Option ((List (List Int)))
 | 0, _, _, _, _, _, _, _, _ => none
 | k + 1, x3, x4, x5, x117000, x117001, x117002, x117003, x117004 => if 0 ≤ x4 then (if x4 < (x117004.length : Int) then (if x5 < (((rd_T45 x117004 x4).f3).length : Int) then (if 0 ≤ x5 then (if (rd ((rd_T45 x117004 x4).f3) x5) ≥ 0 then (if (rd ((rd_T45 x117004 x4).f3) x5) < (x117004.length : Int) then (if 0 ≤ (rd ((rd_T45 x117004 x4).f3) x5) then (if (rd ((rd_T45 x117004 x4).f3) x5) < (x3.length : Int) then ((crucibleref14_has.f k (rd_L1 x3 (rd ((rd_T45 x117004 x4).f3) x5)) x4).bind fun t124 => (if t124 = true then (crucibleref14_Preds.l1 k x3 x4 (wrap64 (x5 + 1)) x117000 x117001 x117002 x117003 x117004) else (if (rd_L1 x3 (rd ((rd_T45 x117004 x4).f3) x5)).length < 17592186044416 then (crucibleref14_Preds.l1 k (x3.set ((rd ((rd_T45 x117004 x4).f3) x5) : Int).toNat ((rd_L1 x3 (rd ((rd_T45 x117004 x4).f3) x5)) ++ [x4])) x4 (wrap64 (x5 + 1)) x117000 x117001 x117002 x117003 x117004) else (none)))) else (none)) else (none)) else (crucibleref14_Preds.l1 k x3 x4 (wrap64 (x5 + 1)) x117000 x117001 x117002 x117003 x117004)) else (crucibleref14_Preds.l1 k x3 x4 (wrap64 (x5 + 1)) x117000 x117001 x117002 x117003 x117004)) else (none)) else (crucibleref14_Preds.l0 k x3 (wrap64 (x4 + 1)) x117000 x117001 x117002 x117003 x117004)) else (none)) else (none)
end
def crucibleref14_Preds.f (k : Nat) (a0_0 : ByteArray) (a0_1 : Int) (a0_2 : Int) (a0_3 : Int) (l0_4 : List (S45)) : Option ((List (List Int))) := if 0 ≤ (l0_4.length : Int) then (if ((l0_4.length : Int) : Int).toNat ≤ 11728124029610 then (crucibleref14_Preds.l0 k (List.replicate ((l0_4.length : Int) : Int).toNat []) 0 a0_0 a0_1 a0_2 a0_3 l0_4) else (none)) else (none)
theorem crucibleref14_Preds.mono_l : ∀ k, (∀ y0 y1 y2 y3 y4 y5 y6, LeO (crucibleref14_Preds.l0 k y0 y1 y2 y3 y4 y5 y6) (crucibleref14_Preds.l0 (k + 1) y0 y1 y2 y3 y4 y5 y6)) ∧ (∀ y0 y1 y2 y3 y4 y5 y6 y7, LeO (crucibleref14_Preds.l1 k y0 y1 y2 y3 y4 y5 y6 y7) (crucibleref14_Preds.l1 (k + 1) y0 y1 y2 y3 y4 y5 y6 y7))
 | 0 => ⟨fun _ _ _ _ _ _ _ r h => by simp [crucibleref14_Preds.l0] at h, fun _ _ _ _ _ _ _ _ r h => by simp [crucibleref14_Preds.l1] at h⟩
 | k + 1 => by
  obtain ⟨ih0, ih1⟩ := crucibleref14_Preds.mono_l k
  refine ⟨?_, ?_⟩
  · intro y0 y1 y2 y3 y4 y5 y6
    unfold crucibleref14_Preds.l0
    repeat' first
    | (with_reducible exact ih0 _ _ _ _ _ _ _)
    | (with_reducible exact ih1 _ _ _ _ _ _ _ _)
    | (with_reducible exact crucibleref14_has.mono _ _ _)
    | (with_reducible exact LeO.refl _)
    | (with_reducible exact LeO.none _)
    | (with_reducible refine LeO.ite ?_ ?_)
    | (with_reducible refine LeO.bind ?_ (fun _ => ?_))
    | exact ih0 _ _ _ _ _ _ _
    | exact ih1 _ _ _ _ _ _ _ _
    | exact crucibleref14_has.mono _ _ _
    | exact LeO.none _
    | refine LeO.ite ?_ ?_
    | refine LeO.bind ?_ (fun _ => ?_)
  · intro y0 y1 y2 y3 y4 y5 y6 y7
    unfold crucibleref14_Preds.l1
    repeat' first
    | (with_reducible exact ih0 _ _ _ _ _ _ _)
    | (with_reducible exact ih1 _ _ _ _ _ _ _ _)
    | (with_reducible exact crucibleref14_has.mono _ _ _)
    | (with_reducible exact LeO.refl _)
    | (with_reducible exact LeO.none _)
    | (with_reducible refine LeO.ite ?_ ?_)
    | (with_reducible refine LeO.bind ?_ (fun _ => ?_))
    | exact ih0 _ _ _ _ _ _ _
    | exact ih1 _ _ _ _ _ _ _ _
    | exact crucibleref14_has.mono _ _ _
    | exact LeO.none _
    | refine LeO.ite ?_ ?_
    | refine LeO.bind ?_ (fun _ => ?_)
theorem crucibleref14_Preds.mono : ∀ a0 a1 a2 a3 a4 k, LeO (crucibleref14_Preds.f k a0 a1 a2 a3 a4) (crucibleref14_Preds.f (k + 1) a0 a1 a2 a3 a4) := by
 intro a0 a1 a2 a3 a4 k
 obtain ⟨ih0, ih1⟩ := crucibleref14_Preds.mono_l k
 unfold crucibleref14_Preds.f
 repeat' first
  | (with_reducible exact ih0 _ _ _ _ _ _ _)
  | (with_reducible exact ih1 _ _ _ _ _ _ _ _)
  | (with_reducible exact crucibleref14_has.mono _ _ _)
  | (with_reducible exact LeO.refl _)
  | (with_reducible exact LeO.none _)
  | (with_reducible refine LeO.ite ?_ ?_)
  | (with_reducible refine LeO.bind ?_ (fun _ => ?_))
  | exact ih0 _ _ _ _ _ _ _
  | exact ih1 _ _ _ _ _ _ _ _
  | exact crucibleref14_has.mono _ _ _
  | exact LeO.none _
  | refine LeO.ite ?_ ?_
  | refine LeO.bind ?_ (fun _ => ?_)
set_option maxHeartbeats 8000000 in
set_option maxRecDepth 100000 in
theorem crucibleref14_Preds.calls (k : Nat) (a0_0 : ByteArray) (a0_1 : Int) (a0_2 : Int) (a0_3 : Int) (A0_4 : Option Addr) (c0_4 : Nat) (l0_4 : List (S45)) (r : List (List Int)) (w : World) (hr0_4 : Kd.C k45 w A0_4 l0_4.length l0_4) (hc0_4 : l0_4.length ≤ c0_4) (h : crucibleref14_Preds.f k a0_0 a0_1 a0_2 a0_3 l0_4 = some r) :
 Calls Try.prog 33 #[.agg #[.string a0_0, .int .i64 a0_1, .int .i64 a0_2, .int .i64 a0_3, .slice A0_4 l0_4.length c0_4]] w fun e w' => ∃ v0_ : Value, e = .returned (v0_) ∧ Kd.S (Kd.slice 3 (Kd.int .i64)) 26 w' w.heap.size (fun _ => True) v0_ r ∧ Below w.heap.size w w' := by
 have hu24 := Try.underlying24
 have HR0_4 := Aside0.mk hr0_4
 have HC0_4 := Aside0.mk hc0_4
 clear hr0_4 hc0_4
 have HB := Aside0.mk (Below.refl w.heap.size w)
 have H : (if 0 ≤ (l0_4.length : Int) then (if ((l0_4.length : Int) : Int).toNat ≤ 11728124029610 then (crucibleref14_Preds.l0 k (List.replicate ((l0_4.length : Int) : Int).toNat []) 0 a0_0 a0_1 a0_2 a0_3 l0_4) else (none)) else (none)) = some r := h
 clear h
 by_cases c2 : 0 ≤ (l0_4.length : Int)
 · rw [if_pos c2] at H
   have c2b0 := eq_true c2
   have c2b1 : decide (0 ≤ (l0_4.length : Int)) = true := decide_eq_true c2
   clear c2
   by_cases c3 : ((l0_4.length : Int) : Int).toNat ≤ 11728124029610
   · rw [if_pos c3] at H
     have c3b0 := eq_true c3
     have c3b1 : decide (((l0_4.length : Int) : Int).toNat ≤ 11728124029610) = true := decide_eq_true c3
     clear c3
     obtain ⟨y117, hy117⟩ : ∃ y_ : List (List Int), y_ = (List.replicate ((l0_4.length : Int) : Int).toNat []) := ⟨_, rfl⟩
     replace H : (crucibleref14_Preds.l0 k y117 0 a0_0 a0_1 a0_2 a0_3 l0_4) = some r := by first | (rw [hy117]; with_reducible exact H) | (have H2_ := (Option.bind_some _ _).symm.trans H; rw [hy117]; with_reducible exact H2_) | (have H2_ := (Option.bind_some _ _).symm.trans H; with_reducible exact H2_) | with_reducible exact H | (rw [hy117]; exact H) | exact H
     have Ny117 := Aside0.mk hy117
     clear hy117
     have H' := Aside0.mk H
     clear H
     go_enter Try.func33, Try.ntmps33
     go_wp2_with (first | ((with_reducible refine Z52 (N := 1) rfl ?_); (try (refine Z66 (by rfl) ?_; dsimp only)); refine Z51 ?hg (N := 1) ?hd (cs := #[.string a0_0, .int .i64 a0_1, .int .i64 a0_2, .int .i64 a0_3, .slice A0_4 l0_4.length c0_4]) (t := 24) ?hr ?_; (case hd => rfl); (case hg => rfl); (case hr => first | (go_simp; done) | (go_simp; rfl)); intro gb116 hg w4 hbox hb; have n0_ := Aside0.mk (Z25 (by repeat (first | (with_reducible first | exact HB.out | apply Z7 | apply Z4 | apply Z6) | exact HB.out)) hb); have n1_ := Aside0.mk (hbox); have n2_ := Aside0.mk ((by rw [hg]; exact (Z27 (by repeat (first | (with_reducible first | exact HB.out | apply Z7 | apply Z4 | apply Z6) | exact HB.out))) : w.heap.size ≤ gb116)); have n3_ := Aside0.mk ((by rw [hg]; exact (Z27 (by repeat (first | (with_reducible first | exact HB.out | apply Z7 | apply Z4 | apply Z6) | exact HB.out))) : w.heap.size ≤ gb116)); clear HB; have HB := n0_; have BK116 := n1_; have GW116 := n2_; have GE116 := n3_; clear n0_ n1_ n2_ n3_; clear hb hbox hg; have hcz5_0 : w4.cell? ⟨gb116, 0, none⟩ = some (.string a0_0) := (Z5 BK116.out 0).trans rfl; have hcz5_1 : w4.cell? ⟨gb116, 1, none⟩ = some (.int .i64 a0_1) := (Z5 BK116.out 1).trans rfl; have hcz5_2 : w4.cell? ⟨gb116, 2, none⟩ = some (.int .i64 a0_2) := (Z5 BK116.out 2).trans rfl; have hcz5_3 : w4.cell? ⟨gb116, 3, none⟩ = some (.int .i64 a0_3) := (Z5 BK116.out 3).trans rfl; have hcz5_4 : w4.cell? ⟨gb116, 4, none⟩ = some (.slice A0_4 l0_4.length c0_4) := (Z5 BK116.out 4).trans rfl; have hfz5_0 := Z2 BK116.out 0; have hfz5_1 := Z2 BK116.out 1; have hfz5_2 := Z2 BK116.out 2; have hfz5_3 := Z2 BK116.out 3; have hfz5_4 := Z2 BK116.out 4) | ((with_reducible refine Z52 (N := 10) rfl ?_); (try (refine Z66 (by rfl) ?_; dsimp only)); refine Kd.S_make (Kd.slice 3 (Kd.int .i64)) _ 26 rfl (N := 10) rfl 36 _ _ rfl (l0_4.length : Int) rfl rfl Try.underlying36 (.slice none 0 0) 24 info26 rfl (by decide) (by omega) [] (ok := fun _ => True) (okp := fun _ => True) ⟨_, rfl, Kd.R_nil _ _ _ _ _⟩ (fun _ hk => hk) trivial (of_decide_eq_true (by first | (with_reducible assumption) | assumption)) (Nat.le_trans (Nat.mul_le_mul_right _ (of_decide_eq_true (by first | (with_reducible assumption) | assumption) : (l0_4.length : Int).toNat ≤ 11728124029610)) (by omega)) (Below.refl _ _) (Nat.le_refl _) ?_; intro v118 w6 ho7 hb hg_ hnew_; clear hg_ hnew_; (first | rw [← Ny117.out] at ho7 | (simp only [Int.reduceToNat] at ho7; rw [← Ny117.out] at ho7)); have n0_ := Aside0.mk (Kd.S_lower ho7 (Z27 (by repeat (first | (with_reducible first | exact HB.out | apply Z7 | apply Z4 | apply Z6 | refine Z8 ?_ GE116.out) | exact HB.out)))); have n1_ := Aside0.mk (Z40 (g := gb116) (o := .cells #[.string a0_0, .int .i64 a0_1, .int .i64 a0_2, .int .i64 a0_3, .slice A0_4 l0_4.length c0_4] 24 (0, 0)) (by (with_reducible repeat (first | refine Z0 ?_ _ | refine Z3 ?_ | refine Z1 ?_ _)); exact BK116.out) hb); have n2_ := Aside0.mk (Z25 (by repeat (first | (with_reducible first | exact HB.out | apply Z7 | apply Z4 | apply Z6 | refine Z8 ?_ GE116.out) | exact HB.out)) hb); clear BK116; clear HB; have HO119 := n0_; have BK116 := n1_; have HB := n2_; clear n0_ n1_ n2_; clear hb ho7))
     go_loopg [4] k (fun kq v4 w' => ∃ (x3_1 : List (List Int)) (x4_1 : Int), v4 = .int .i64 x4_1 ∧ Aside0 (crucibleref14_Preds.l0 kq x3_1 x4_1 a0_0 a0_1 a0_2 a0_3 l0_4 = some r) ∧ Aside0 (kq ≤ k) ∧ Aside0 (Kd.S (Kd.slice 3 (Kd.int .i64)) 26 w' w.heap.size (fun _ => True) v118 x3_1) ∧ Aside0 (w'.heap[gb116]? = some (.cells #[.string a0_0, .int .i64 a0_1, .int .i64 a0_2, .int .i64 a0_3, (.slice A0_4 l0_4.length c0_4)] 24 (0, 0))) ∧ Aside0 (Below w.heap.size w w'))
     case atStart => exact ⟨(y117), (0), (by first | rfl | (simp; done) | (simp [*]; done)), H', ⟨Nat.le_refl _⟩, ⟨by (with_reducible repeat (first | apply Kd.S_alloc | apply Kd.S_drewN | apply Kd.S_drew)); exact HO119.out⟩, ⟨by (with_reducible repeat (first | refine Z0 ?_ _ | refine Z3 ?_ | refine Z1 ?_ _)); exact BK116.out⟩, ⟨by repeat (first | (with_reducible first | exact HB.out | apply Z7 | apply Z4 | apply Z6 | refine Z8 ?_ GE116.out) | exact HB.out)⟩⟩
     case round =>
      clear H'
      try clear c2
      try clear c2b0
      try clear c2b1
      try clear c3
      try clear c3b0
      try clear c3b1
      try clear hcz5_0
      try clear hcz5_1
      try clear hcz5_2
      try clear hcz5_3
      try clear hcz5_4
      try clear hfz5_0
      try clear hfz5_1
      try clear hfz5_2
      try clear hfz5_3
      try clear hfz5_4
      obtain ⟨x3_1, x4_1, rfl, HA, HK1, HO_3, BK116, HB⟩ := hrel
      cases gk with
      | zero => exact absurd HA.out (by simp [crucibleref14_Preds.l0])
      | succ k1 =>
       have H := HA.out
       clear HA
       simp only [crucibleref14_Preds.l0] at H
       by_cases c8 : x4_1 < (l0_4.length : Int)
       · rw [if_pos c8] at H
         have c8b0 : decide (x4_1 < (l0_4.length : Int)) = true := decide_eq_true c8
         clear c8
         have H' := Aside0.mk H
         clear H
         have hcz9_0 : wr.cell? ⟨gb116, 0, none⟩ = some (.string a0_0) := (Z5 BK116.out 0).trans rfl
         have hcz9_1 : wr.cell? ⟨gb116, 1, none⟩ = some (.int .i64 a0_1) := (Z5 BK116.out 1).trans rfl
         have hcz9_2 : wr.cell? ⟨gb116, 2, none⟩ = some (.int .i64 a0_2) := (Z5 BK116.out 2).trans rfl
         have hcz9_3 : wr.cell? ⟨gb116, 3, none⟩ = some (.int .i64 a0_3) := (Z5 BK116.out 3).trans rfl
         have hcz9_4 : wr.cell? ⟨gb116, 4, none⟩ = some (.slice A0_4 l0_4.length c0_4) := (Z5 BK116.out 4).trans rfl
         have hfz9_0 := Z2 BK116.out 0
         have hfz9_1 := Z2 BK116.out 1
         have hfz9_2 := Z2 BK116.out 2
         have hfz9_3 := Z2 BK116.out 3
         have hfz9_4 := Z2 BK116.out 4
         go_wp2
         go_loopg [5] k1 (fun kq v5 w' => ∃ (x3_2 : List (List Int)) (x5_2 : Int), v5 = .int .i64 x5_2 ∧ Aside0 (crucibleref14_Preds.l1 kq x3_2 x4_1 x5_2 a0_0 a0_1 a0_2 a0_3 l0_4 = some r) ∧ Aside0 (kq ≤ k1) ∧ Aside0 (Kd.S (Kd.slice 3 (Kd.int .i64)) 26 w' w.heap.size (fun _ => True) v118 x3_2) ∧ Aside0 (w'.heap[gb116]? = some (.cells #[.string a0_0, .int .i64 a0_1, .int .i64 a0_2, .int .i64 a0_3, (.slice A0_4 l0_4.length c0_4)] 24 (0, 0))) ∧ Aside0 (Below w.heap.size w w'))
         case atStart => exact ⟨(x3_1), (0), (by first | rfl | (simp; done) | (simp [*]; done)), H', ⟨Nat.le_refl _⟩, ⟨by (with_reducible repeat (first | apply Kd.S_alloc | apply Kd.S_drewN | apply Kd.S_drew)); exact HO_3.out⟩, ⟨by (with_reducible repeat (first | refine Z0 ?_ _ | refine Z3 ?_ | refine Z1 ?_ _)); exact BK116.out⟩, ⟨by repeat (first | (with_reducible first | exact HB.out | apply Z7 | apply Z4 | apply Z6 | refine Z8 ?_ GE116.out) | exact HB.out)⟩⟩
         case round =>
          clear H'
          try clear c2
          try clear c2b0
          try clear c2b1
          try clear c3
          try clear c3b0
          try clear c3b1
          try clear c8
          try clear c8b0
          try clear hcz5_0
          try clear hcz5_1
          try clear hcz5_2
          try clear hcz5_3
          try clear hcz5_4
          try clear hcz9_0
          try clear hcz9_1
          try clear hcz9_2
          try clear hcz9_3
          try clear hcz9_4
          try clear hfz5_0
          try clear hfz5_1
          try clear hfz5_2
          try clear hfz5_3
          try clear hfz5_4
          try clear hfz9_0
          try clear hfz9_1
          try clear hfz9_2
          try clear hfz9_3
          try clear hfz9_4
          obtain ⟨x3_2, x5_2, rfl, HA, HK2, HO_3, BK116, HB⟩ := hrel
          cases gk with
          | zero => exact absurd HA.out (by simp [crucibleref14_Preds.l1])
          | succ k2 =>
           have H := HA.out
           clear HA
           simp only [crucibleref14_Preds.l1] at H
           by_cases c10 : 0 ≤ x4_1
           · rw [if_pos c10] at H
             have c10b0 : decide (0 ≤ x4_1) = true := decide_eq_true c10
             clear c10
             by_cases c11 : x4_1 < (l0_4.length : Int)
             · rw [if_pos c11] at H
               have c11b0 : decide (x4_1 < (l0_4.length : Int)) = true := decide_eq_true c11
               clear c11
               by_cases c12 : x5_2 < (((rd_T45 l0_4 x4_1).f3).length : Int)
               · rw [if_pos c12] at H
                 have c12b0 : decide (x5_2 < (((rd_T45 l0_4 x4_1).f3).length : Int)) = true := decide_eq_true c12
                 clear c12
                 by_cases c13 : 0 ≤ x5_2
                 · rw [if_pos c13] at H
                   have c13b0 : decide (0 ≤ x5_2) = true := decide_eq_true c13
                   clear c13
                   by_cases c14 : (rd ((rd_T45 l0_4 x4_1).f3) x5_2) ≥ 0
                   · rw [if_pos c14] at H
                     have c14b0 : decide (0 ≤ (rd ((rd_T45 l0_4 x4_1).f3) x5_2)) = true := decide_eq_true c14
                     clear c14
                     by_cases c15 : (rd ((rd_T45 l0_4 x4_1).f3) x5_2) < (l0_4.length : Int)
                     · rw [if_pos c15] at H
                       have c15b0 : decide ((rd ((rd_T45 l0_4 x4_1).f3) x5_2) < (l0_4.length : Int)) = true := decide_eq_true c15
                       clear c15
                       by_cases c16 : 0 ≤ (rd ((rd_T45 l0_4 x4_1).f3) x5_2)
                       · rw [if_pos c16] at H
                         have c16b0 : decide (0 ≤ (rd ((rd_T45 l0_4 x4_1).f3) x5_2)) = true := decide_eq_true c16
                         clear c16
                         by_cases c17 : (rd ((rd_T45 l0_4 x4_1).f3) x5_2) < (x3_2.length : Int)
                         · rw [if_pos c17] at H
                           have c17b0 : decide ((rd ((rd_T45 l0_4 x4_1).f3) x5_2) < (x3_2.length : Int)) = true := decide_eq_true c17
                           clear c17
                           replace H := Option.bind_eq_some_iff.mp H
                           obtain ⟨t124, A180, H⟩ := H
                           replace H : (if t124 = true then (crucibleref14_Preds.l1 k2 x3_2 x4_1 (wrap64 (x5_2 + 1)) a0_0 a0_1 a0_2 a0_3 l0_4) else (if (rd_L1 x3_2 (rd ((rd_T45 l0_4 x4_1).f3) x5_2)).length < 17592186044416 then (crucibleref14_Preds.l1 k2 (x3_2.set ((rd ((rd_T45 l0_4 x4_1).f3) x5_2) : Int).toNat ((rd_L1 x3_2 (rd ((rd_T45 l0_4 x4_1).f3) x5_2)) ++ [x4_1])) x4_1 (wrap64 (x5_2 + 1)) a0_0 a0_1 a0_2 a0_3 l0_4) else (none))) = some r := H
                           have A18 := Aside0.mk A180
                           clear A180
                           by_cases c19 : t124 = true
                           · subst c19
                             have H1 : (crucibleref14_Preds.l1 k2 x3_2 x4_1 (wrap64 (x5_2 + 1)) a0_0 a0_1 a0_2 a0_3 l0_4) = some r := by rw [if_pos rfl] at H; exact H
                             clear H
                             have H := H1
                             clear H1
                             have H' := Aside0.mk H
                             clear H
                             have hcz20_0 : wr.cell? ⟨gb116, 0, none⟩ = some (.string a0_0) := (Z5 BK116.out 0).trans rfl
                             have hcz20_1 : wr.cell? ⟨gb116, 1, none⟩ = some (.int .i64 a0_1) := (Z5 BK116.out 1).trans rfl
                             have hcz20_2 : wr.cell? ⟨gb116, 2, none⟩ = some (.int .i64 a0_2) := (Z5 BK116.out 2).trans rfl
                             have hcz20_3 : wr.cell? ⟨gb116, 3, none⟩ = some (.int .i64 a0_3) := (Z5 BK116.out 3).trans rfl
                             have hcz20_4 : wr.cell? ⟨gb116, 4, none⟩ = some (.slice A0_4 l0_4.length c0_4) := (Z5 BK116.out 4).trans rfl
                             have hfz20_0 := Z2 BK116.out 0
                             have hfz20_1 := Z2 BK116.out 1
                             have hfz20_2 := Z2 BK116.out 2
                             have hfz20_3 := Z2 BK116.out 3
                             have hfz20_4 := Z2 BK116.out 4
                             have p120 : 0 ≤ (x4_1 : Int) := of_decide_eq_true (by first | (with_reducible assumption) | assumption)
                             have q120 : x4_1 < (l0_4.length : Int) := of_decide_eq_true (by first | (with_reducible assumption) | assumption)
                             obtain ⟨ad120, A120_0, c120_0, A120_3, c120_3, e120, hx120_0, hx120_1, hx120_2, hx120_3, hl120_0, hi120_0, hl120_3, hi120_3⟩ := at_T45 HR0_4.out x4_1 p120 q120
                             cases e120
                             replace hx120_0 := (HB.out.cell (World.block_lt_of_cell? w _ hx120_0)).trans hx120_0
                             replace hx120_1 := (HB.out.cell (World.block_lt_of_cell? w _ hx120_1)).trans hx120_1
                             replace hx120_2 := (HB.out.cell (World.block_lt_of_cell? w _ hx120_2)).trans hx120_2
                             replace hx120_3 := (HB.out.cell (World.block_lt_of_cell? w _ hx120_3)).trans hx120_3
                             have HR120_0 := Aside0.mk hi120_0
                             have HC120_0 := Aside0.mk hl120_0
                             clear hi120_0 hl120_0
                             have HR120_3 := Aside0.mk hi120_3
                             have HC120_3 := Aside0.mk hl120_3
                             clear hi120_3 hl120_3
                             replace p120 := eq_true p120
                             replace q120 := eq_true q120
                             have p121 : 0 ≤ (x4_1 : Int) := of_decide_eq_true (by first | (with_reducible assumption) | assumption)
                             have q121 : x4_1 < (l0_4.length : Int) := of_decide_eq_true (by first | (with_reducible assumption) | assumption)
                             obtain ⟨ad121, A121_0, c121_0, A121_3, c121_3, e121, hx121_0, hx121_1, hx121_2, hx121_3, hl121_0, hi121_0, hl121_3, hi121_3⟩ := at_T45 HR0_4.out x4_1 p121 q121
                             obtain rfl : ad120 = ad121 := (by injection e121)
                             replace hx121_0 := (HB.out.cell (World.block_lt_of_cell? w _ hx121_0)).trans hx121_0
                             replace hx121_1 := (HB.out.cell (World.block_lt_of_cell? w _ hx121_1)).trans hx121_1
                             replace hx121_2 := (HB.out.cell (World.block_lt_of_cell? w _ hx121_2)).trans hx121_2
                             replace hx121_3 := (HB.out.cell (World.block_lt_of_cell? w _ hx121_3)).trans hx121_3
                             have HR121_0 := Aside0.mk hi121_0
                             have HC121_0 := Aside0.mk hl121_0
                             clear hi121_0 hl121_0
                             have HR121_3 := Aside0.mk hi121_3
                             have HC121_3 := Aside0.mk hl121_3
                             clear hi121_3 hl121_3
                             replace p121 := eq_true p121
                             replace q121 := eq_true q121
                             have ea_ := Option.some.inj (hx120_0.symm.trans hx121_0)
                             injection ea_ with ea_ en_ ec_
                             subst ea_
                             subst ec_
                             clear en_
                             have ea_ := Option.some.inj (hx120_3.symm.trans hx121_3)
                             injection ea_ with ea_ en_ ec_
                             subst ea_
                             subst ec_
                             clear en_
                             have p122 : 0 ≤ (x5_2 : Int) := of_decide_eq_true (by first | (with_reducible assumption) | assumption)
                             have q122 : x5_2 < (((rd_T45 l0_4 x4_1).f3).length : Int) := of_decide_eq_true (by first | (with_reducible assumption) | assumption)
                             obtain ⟨ad122, e122, hx122_0⟩ := Kd.at_int HR121_3.out x5_2 p122 q122
                             cases e122
                             replace hx122_0 := (HB.out.cell (World.block_lt_of_cell? w _ hx122_0)).trans hx122_0
                             replace p122 := eq_true p122
                             replace q122 := eq_true q122
                             obtain ⟨Ao21, co21, eo21⟩ := Kd.S_slice HO_3.out
                             subst eo21
                             have p123 : 0 ≤ ((rd ((rd_T45 l0_4 x4_1).f3) x5_2) : Int) := of_decide_eq_true (by first | (with_reducible assumption) | assumption)
                             have q123 : (rd ((rd_T45 l0_4 x4_1).f3) x5_2) < (x3_2.length : Int) := of_decide_eq_true (by first | (with_reducible assumption) | assumption)
                             obtain ⟨ad123, A123_0, c123_0, e123, hx123_0, hl123_0, hi123_0⟩ := at_L1 (Kd.S_reads' HO_3.out).2.2 (rd ((rd_T45 l0_4 x4_1).f3) x5_2) p123 q123
                             cases e123
                             obtain ⟨ce123, hce123, hMe123, hcc123⟩ := Kd.S_get HO_3.out [] (rd ((rd_T45 l0_4 x4_1).f3) x5_2) p123 (by first | exact q123 | exact of_decide_eq_true (by first | (with_reducible assumption) | assumption) | (have e_ := (Kd.S_reads' HO_3.out).1; omega))
                             obtain ⟨ve123_0, rfl, ge123_0⟩ := hMe123
                             have hv123_0 := hcc123 0 _ rfl
                             rw [Nat.add_zero, show ((Kd.slice 3 (Kd.int .i64))).sz = 1 from rfl, Nat.mul_one] at hv123_0
                             replace hv123_0 := Option.some.inj (hv123_0.symm.trans hx123_0)
                             rw [hv123_0] at ge123_0
                             have HL123_0 := Aside0.mk (show Kd.R (Kd.int .i64) 3 _ _ _ _ (rd_L1 x3_2 (rd ((rd_T45 l0_4 x4_1).f3) x5_2)) from ge123_0)
                             clear hv123_0 ge123_0
                             have HX123_0 := Aside0.mk hx123_0
                             clear hcc123 hce123
                             have HR123_0 := Aside0.mk hi123_0
                             have HC123_0 := Aside0.mk hl123_0
                             clear hi123_0 hl123_0
                             replace p123 := eq_true p123
                             replace q123 := eq_true q123
                             go_wp2_with (first | (go_at_call 38; (with_reducible refine (crucibleref14_has.calls k2 _ _ (rd_L1 x3_2 (rd ((rd_T45 l0_4 x4_1).f3) x5_2)) x4_1 true _ ?side1 ?side2 A18.out).mono ?_); (case side1 => repeat (first | exact (by repeat (first | (with_reducible exact HR123_0.out) | (with_reducible refine Kd.C_alloc ?_ _) | (with_reducible refine Kd.C_drewN ?_ _) | (with_reducible refine Kd.C_drew ?_) | exact HR123_0.out)) | (with_reducible refine Kd.C_alloc ?_ _) | (with_reducible refine Kd.C_drewN ?_ _) | (with_reducible refine Kd.C_drew ?_))); (case side2 => exact HC123_0.out); rintro e w' ⟨rfl, ⟨nd, rfl⟩⟩))
                             go_roundg k2
                             case measure => have := HK1.out; have := HK2.out; omega
                             case rel => exact ⟨(x3_2), (wrap64 (x5_2 + 1)), (by first | rfl | (simp; done) | (simp [*]; done)), H', ⟨by have := HK1.out; have := HK2.out; omega⟩, ⟨by (with_reducible repeat (first | apply Kd.S_alloc | apply Kd.S_drewN | apply Kd.S_drew)); exact HO_3.out⟩, ⟨by (with_reducible repeat (first | refine Z0 ?_ _ | refine Z3 ?_ | refine Z1 ?_ _)); exact BK116.out⟩, ⟨by repeat (first | (with_reducible first | exact HB.out | apply Z7 | apply Z4 | apply Z6 | refine Z8 ?_ GE116.out) | exact HB.out)⟩⟩
                           · replace c19 := Bool.eq_false_iff.mpr c19
                             subst c19
                             have H1 : (if (rd_L1 x3_2 (rd ((rd_T45 l0_4 x4_1).f3) x5_2)).length < 17592186044416 then (crucibleref14_Preds.l1 k2 (x3_2.set ((rd ((rd_T45 l0_4 x4_1).f3) x5_2) : Int).toNat ((rd_L1 x3_2 (rd ((rd_T45 l0_4 x4_1).f3) x5_2)) ++ [x4_1])) x4_1 (wrap64 (x5_2 + 1)) a0_0 a0_1 a0_2 a0_3 l0_4) else (none)) = some r := by rw [if_neg (show ¬ (false = true) by decide)] at H; exact H
                             clear H
                             have H := H1
                             clear H1
                             by_cases c22 : (rd_L1 x3_2 (rd ((rd_T45 l0_4 x4_1).f3) x5_2)).length < 17592186044416
                             · rw [if_pos c22] at H
                               have LMc22 := Aside0.mk c22
                               clear c22
                               obtain ⟨y126, hy126⟩ : ∃ y_ : List Int, y_ = ((rd_L1 x3_2 (rd ((rd_T45 l0_4 x4_1).f3) x5_2)) ++ [x4_1]) := ⟨_, rfl⟩
                               replace H : (crucibleref14_Preds.l1 k2 (x3_2.set ((rd ((rd_T45 l0_4 x4_1).f3) x5_2) : Int).toNat y126) x4_1 (wrap64 (x5_2 + 1)) a0_0 a0_1 a0_2 a0_3 l0_4) = some r := by first | (rw [hy126]; with_reducible exact H) | (have H2_ := (Option.bind_some _ _).symm.trans H; rw [hy126]; with_reducible exact H2_) | (have H2_ := (Option.bind_some _ _).symm.trans H; with_reducible exact H2_) | with_reducible exact H | (rw [hy126]; exact H) | exact H
                               have Ny126 := Aside0.mk hy126
                               clear hy126
                               obtain ⟨y129, hy129⟩ : ∃ y_ : List (List Int), y_ = (x3_2.set ((rd ((rd_T45 l0_4 x4_1).f3) x5_2) : Int).toNat y126) := ⟨_, rfl⟩
                               replace H : (crucibleref14_Preds.l1 k2 y129 x4_1 (wrap64 (x5_2 + 1)) a0_0 a0_1 a0_2 a0_3 l0_4) = some r := by first | (rw [hy129]; with_reducible exact H) | (have H2_ := (Option.bind_some _ _).symm.trans H; rw [hy129]; with_reducible exact H2_) | (have H2_ := (Option.bind_some _ _).symm.trans H; with_reducible exact H2_) | with_reducible exact H | (rw [hy129]; exact H) | exact H
                               have Ny129 := Aside0.mk hy129
                               clear hy129
                               have H' := Aside0.mk H
                               clear H
                               have hcz24_0 : wr.cell? ⟨gb116, 0, none⟩ = some (.string a0_0) := (Z5 BK116.out 0).trans rfl
                               have hcz24_1 : wr.cell? ⟨gb116, 1, none⟩ = some (.int .i64 a0_1) := (Z5 BK116.out 1).trans rfl
                               have hcz24_2 : wr.cell? ⟨gb116, 2, none⟩ = some (.int .i64 a0_2) := (Z5 BK116.out 2).trans rfl
                               have hcz24_3 : wr.cell? ⟨gb116, 3, none⟩ = some (.int .i64 a0_3) := (Z5 BK116.out 3).trans rfl
                               have hcz24_4 : wr.cell? ⟨gb116, 4, none⟩ = some (.slice A0_4 l0_4.length c0_4) := (Z5 BK116.out 4).trans rfl
                               have hfz24_0 := Z2 BK116.out 0
                               have hfz24_1 := Z2 BK116.out 1
                               have hfz24_2 := Z2 BK116.out 2
                               have hfz24_3 := Z2 BK116.out 3
                               have hfz24_4 := Z2 BK116.out 4
                               have p120 : 0 ≤ (x4_1 : Int) := of_decide_eq_true (by first | (with_reducible assumption) | assumption)
                               have q120 : x4_1 < (l0_4.length : Int) := of_decide_eq_true (by first | (with_reducible assumption) | assumption)
                               obtain ⟨ad120, A120_0, c120_0, A120_3, c120_3, e120, hx120_0, hx120_1, hx120_2, hx120_3, hl120_0, hi120_0, hl120_3, hi120_3⟩ := at_T45 HR0_4.out x4_1 p120 q120
                               cases e120
                               replace hx120_0 := (HB.out.cell (World.block_lt_of_cell? w _ hx120_0)).trans hx120_0
                               replace hx120_1 := (HB.out.cell (World.block_lt_of_cell? w _ hx120_1)).trans hx120_1
                               replace hx120_2 := (HB.out.cell (World.block_lt_of_cell? w _ hx120_2)).trans hx120_2
                               replace hx120_3 := (HB.out.cell (World.block_lt_of_cell? w _ hx120_3)).trans hx120_3
                               have HR120_0 := Aside0.mk hi120_0
                               have HC120_0 := Aside0.mk hl120_0
                               clear hi120_0 hl120_0
                               have HR120_3 := Aside0.mk hi120_3
                               have HC120_3 := Aside0.mk hl120_3
                               clear hi120_3 hl120_3
                               replace p120 := eq_true p120
                               replace q120 := eq_true q120
                               have p121 : 0 ≤ (x4_1 : Int) := of_decide_eq_true (by first | (with_reducible assumption) | assumption)
                               have q121 : x4_1 < (l0_4.length : Int) := of_decide_eq_true (by first | (with_reducible assumption) | assumption)
                               obtain ⟨ad121, A121_0, c121_0, A121_3, c121_3, e121, hx121_0, hx121_1, hx121_2, hx121_3, hl121_0, hi121_0, hl121_3, hi121_3⟩ := at_T45 HR0_4.out x4_1 p121 q121
                               obtain rfl : ad120 = ad121 := (by injection e121)
                               replace hx121_0 := (HB.out.cell (World.block_lt_of_cell? w _ hx121_0)).trans hx121_0
                               replace hx121_1 := (HB.out.cell (World.block_lt_of_cell? w _ hx121_1)).trans hx121_1
                               replace hx121_2 := (HB.out.cell (World.block_lt_of_cell? w _ hx121_2)).trans hx121_2
                               replace hx121_3 := (HB.out.cell (World.block_lt_of_cell? w _ hx121_3)).trans hx121_3
                               have HR121_0 := Aside0.mk hi121_0
                               have HC121_0 := Aside0.mk hl121_0
                               clear hi121_0 hl121_0
                               have HR121_3 := Aside0.mk hi121_3
                               have HC121_3 := Aside0.mk hl121_3
                               clear hi121_3 hl121_3
                               replace p121 := eq_true p121
                               replace q121 := eq_true q121
                               have ea_ := Option.some.inj (hx120_0.symm.trans hx121_0)
                               injection ea_ with ea_ en_ ec_
                               subst ea_
                               subst ec_
                               clear en_
                               have ea_ := Option.some.inj (hx120_3.symm.trans hx121_3)
                               injection ea_ with ea_ en_ ec_
                               subst ea_
                               subst ec_
                               clear en_
                               have p122 : 0 ≤ (x5_2 : Int) := of_decide_eq_true (by first | (with_reducible assumption) | assumption)
                               have q122 : x5_2 < (((rd_T45 l0_4 x4_1).f3).length : Int) := of_decide_eq_true (by first | (with_reducible assumption) | assumption)
                               obtain ⟨ad122, e122, hx122_0⟩ := Kd.at_int HR121_3.out x5_2 p122 q122
                               cases e122
                               replace hx122_0 := (HB.out.cell (World.block_lt_of_cell? w _ hx122_0)).trans hx122_0
                               replace p122 := eq_true p122
                               replace q122 := eq_true q122
                               obtain ⟨Ao25, co25, eo25⟩ := Kd.S_slice HO_3.out
                               subst eo25
                               have p123 : 0 ≤ ((rd ((rd_T45 l0_4 x4_1).f3) x5_2) : Int) := of_decide_eq_true (by first | (with_reducible assumption) | assumption)
                               have q123 : (rd ((rd_T45 l0_4 x4_1).f3) x5_2) < (x3_2.length : Int) := of_decide_eq_true (by first | (with_reducible assumption) | assumption)
                               obtain ⟨ad123, A123_0, c123_0, e123, hx123_0, hl123_0, hi123_0⟩ := at_L1 (Kd.S_reads' HO_3.out).2.2 (rd ((rd_T45 l0_4 x4_1).f3) x5_2) p123 q123
                               cases e123
                               obtain ⟨ce123, hce123, hMe123, hcc123⟩ := Kd.S_get HO_3.out [] (rd ((rd_T45 l0_4 x4_1).f3) x5_2) p123 (by first | exact q123 | exact of_decide_eq_true (by first | (with_reducible assumption) | assumption) | (have e_ := (Kd.S_reads' HO_3.out).1; omega))
                               obtain ⟨ve123_0, rfl, ge123_0⟩ := hMe123
                               have hv123_0 := hcc123 0 _ rfl
                               rw [Nat.add_zero, show ((Kd.slice 3 (Kd.int .i64))).sz = 1 from rfl, Nat.mul_one] at hv123_0
                               replace hv123_0 := Option.some.inj (hv123_0.symm.trans hx123_0)
                               rw [hv123_0] at ge123_0
                               have HL123_0 := Aside0.mk (show Kd.R (Kd.int .i64) 3 _ _ _ _ (rd_L1 x3_2 (rd ((rd_T45 l0_4 x4_1).f3) x5_2)) from ge123_0)
                               clear hv123_0 ge123_0
                               have HX123_0 := Aside0.mk hx123_0
                               clear hcc123 hce123
                               have HR123_0 := Aside0.mk hi123_0
                               have HC123_0 := Aside0.mk hl123_0
                               clear hi123_0 hl123_0
                               replace p123 := eq_true p123
                               replace q123 := eq_true q123
                               go_wp2_with (first | (go_at_call 38; (with_reducible refine (crucibleref14_has.calls k2 _ _ (rd_L1 x3_2 (rd ((rd_T45 l0_4 x4_1).f3) x5_2)) x4_1 false _ ?side1 ?side2 A18.out).mono ?_); (case side1 => repeat (first | exact (by repeat (first | (with_reducible exact HR123_0.out) | (with_reducible refine Kd.C_alloc ?_ _) | (with_reducible refine Kd.C_drewN ?_ _) | (with_reducible refine Kd.C_drew ?_) | exact HR123_0.out)) | (with_reducible refine Kd.C_alloc ?_ _) | (with_reducible refine Kd.C_drewN ?_ _) | (with_reducible refine Kd.C_drew ?_))); (case side2 => exact HC123_0.out); rintro e w' ⟨rfl, ⟨nd, rfl⟩⟩; (try (rw [Z43 wr]; generalize hq_ : World.drewN wr _ = wr; have n0_ : Aside0 (Kd.R (Kd.int .i64) 3 wr w.heap.size (fun k_ => some k_ ≠ (.slice (some ad123) x3_2.length co25 : Value).ownBlock) (.slice A123_0 (rd_L1 x3_2 (rd ((rd_T45 l0_4 x4_1).f3) x5_2)).length c123_0) (rd_L1 x3_2 (rd ((rd_T45 l0_4 x4_1).f3) x5_2))) := ⟨by rw [← hq_]; exact (by (with_reducible repeat (first | apply Kd.R_alloc | apply Kd.R_drewN | apply Kd.R_drew)); exact Kd.R_mono HL123_0.out (fun _ hk => hk.2))⟩; have n1_ : Aside0 (Kd.S (Kd.slice 3 (Kd.int .i64)) 26 wr w.heap.size (fun _ => True) (.slice (some ad123) x3_2.length co25) x3_2) := ⟨by rw [← hq_]; exact (by (with_reducible repeat (first | apply Kd.S_alloc | apply Kd.S_drewN | apply Kd.S_drew)); exact HO_3.out)⟩; have n2_ : Aside0 (wr.heap[gb116]? = some (.cells #[.string a0_0, .int .i64 a0_1, .int .i64 a0_2, .int .i64 a0_3, .slice (some ad120) l0_4.length c0_4] 24 (0, 0))) := ⟨by rw [← hq_]; exact (by (with_reducible repeat (first | refine Z0 ?_ _ | refine Z3 ?_ | refine Z1 ?_ _)); exact BK116.out)⟩; have n3_ : Aside0 (Below w.heap.size w wr) := ⟨by rw [← hq_]; exact (by repeat (first | (with_reducible first | exact HB.out | apply Z7 | apply Z4 | apply Z6 | refine Z8 ?_ GE116.out) | exact HB.out))⟩; have n4_ : Aside0 (Kd.C (Kd.int .i64) wr A123_0 (rd_L1 x3_2 (rd ((rd_T45 l0_4 x4_1).f3) x5_2)).length (rd_L1 x3_2 (rd ((rd_T45 l0_4 x4_1).f3) x5_2))) := ⟨by rw [← hq_]; exact (by repeat (first | (with_reducible exact HR123_0.out) | (with_reducible refine Kd.C_alloc ?_ _) | (with_reducible refine Kd.C_drewN ?_ _) | (with_reducible refine Kd.C_drew ?_) | exact HR123_0.out))⟩; (try (replace hx123_0 := Eq.trans (congrArg (fun w_ : World => w_.cell? _) hq_.symm) hx123_0)); clear HL123_0 HO_3 BK116 HB HR123_0 hq_; have HL123_0 := n0_; have HO_3 := n1_; have BK116 := n2_; have HB := n3_; have HR123_0 := n4_; clear n0_ n1_ n2_ n3_ n4_)); have p125 : 0 ≤ ((rd ((rd_T45 l0_4 x4_1).f3) x5_2) : Int) := of_decide_eq_true (by first | (with_reducible assumption) | assumption); have q125 : (rd ((rd_T45 l0_4 x4_1).f3) x5_2) < (x3_2.length : Int) := of_decide_eq_true (by first | (with_reducible assumption) | assumption); obtain ⟨ad125, A125_0, c125_0, e125, hx125_0, hl125_0, hi125_0⟩ := at_L1 (Kd.S_reads' HO_3.out).2.2 (rd ((rd_T45 l0_4 x4_1).f3) x5_2) p125 q125; obtain rfl : ad123 = ad125 := (by injection e125); obtain ⟨ce125, hce125, hMe125, hcc125⟩ := Kd.S_get HO_3.out [] (rd ((rd_T45 l0_4 x4_1).f3) x5_2) p125 (by first | exact q125 | exact of_decide_eq_true (by first | (with_reducible assumption) | assumption) | (have e_ := (Kd.S_reads' HO_3.out).1; omega)); obtain ⟨ve125_0, rfl, ge125_0⟩ := hMe125; have hv125_0 := hcc125 0 _ rfl; rw [Nat.add_zero, show ((Kd.slice 3 (Kd.int .i64))).sz = 1 from rfl, Nat.mul_one] at hv125_0; replace hv125_0 := Option.some.inj (hv125_0.symm.trans hx125_0); rw [hv125_0] at ge125_0; have HL125_0 := Aside0.mk (show Kd.R (Kd.int .i64) 3 _ _ _ _ (rd_L1 x3_2 (rd ((rd_T45 l0_4 x4_1).f3) x5_2)) from ge125_0); clear hv125_0 ge125_0; have HX125_0 := Aside0.mk hx125_0; clear hcc125 hce125; have HR125_0 := Aside0.mk hi125_0; have HC125_0 := Aside0.mk hl125_0; clear hi125_0 hl125_0; replace p125 := eq_true p125; replace q125 := eq_true q125; have ea_ := Option.some.inj (hx123_0.symm.trans hx125_0); injection ea_ with ea_ en_ ec_; subst ea_; subst ec_; clear en_; obtain ⟨go26, co26, eo26, gb26, gl26, cl26, HG26⟩ := Kd.S_form HO_3.out (by have h_ : ((rd ((rd_T45 l0_4 x4_1).f3) x5_2) : Int) < ((x3_2.length : Int) : Int) := of_decide_eq_true (by first | (with_reducible assumption) | assumption); have h2_ : 0 ≤ ((rd ((rd_T45 l0_4 x4_1).f3) x5_2) : Int) := (of_decide_eq_true (by first | (with_reducible assumption) | assumption)); omega); (first | cases eo26 | (injection eo26 with ea_ en_ ec_; (first | subst ea_ | (injection ea_ with ea_; subst ea_)); subst ec_; clear en_)); have GB26 := Aside0.mk gb26; have GG26 := Aside0.mk HG26; clear gb26 gl26 HG26; (first | simp only [add_plain] at hx123_0 | skip); (first | simp only [add_plain] at hx125_0 | skip); obtain ⟨oki26, ce26, hcl26, hM26, hcc26, _, _, hH26⟩ := Kd.S_elem HO_3.out [] ((rd ((rd_T45 l0_4 x4_1).f3) x5_2) : Int) (of_decide_eq_true (by first | (with_reducible assumption) | assumption)) (by have h_ : ((rd ((rd_T45 l0_4 x4_1).f3) x5_2) : Int) < ((x3_2.length : Int) : Int) := of_decide_eq_true (by first | (with_reducible assumption) | assumption); first | exact h_ | (have e_ := (Kd.S_reads' HO_3.out).1; omega) | simpa using h_); obtain ⟨ve26_0, rfl, ge26_0⟩ := hM26; have hv26 := hcc26 0 _ rfl; have hX26 := HX125_0.out; (try simp only [add_plain] at hX26); (try simp only [Nat.add_zero] at hv26); (try rw [show ((Kd.slice 3 (Kd.int .i64))).sz = 1 from rfl, Nat.mul_one] at hv26); replace hv26 := Option.some.inj (hv26.symm.trans hX26); subst hv26; clear hX26 hcc26 hcl26; have UU26 := Aside0.mk (show Kd.R (Kd.int .i64) 3 _ w.heap.size oki26 (.slice A123_0 (rd_L1 x3_2 (rd ((rd_T45 l0_4 x4_1).f3) x5_2)).length c123_0) (rd_L1 x3_2 (rd ((rd_T45 l0_4 x4_1).f3) x5_2)) from ge26_0); have HH26 := Aside0.mk hH26; have HN26 := Aside0.mk (Kd.S_reads' HO_3.out).1; clear hH26 ge26_0) | ((with_reducible refine Z69 (b := .append) (xs := #[.tmp 61, .tmp 63]) rfl ?_); (try (refine Z66 (by rfl) ?_; dsimp only)); at_builtin; refine Kd.R_append (Kd.int .i64) (w0 := w) w.heap.size rfl (.tmp 61) (.tmp 63) 26 3 (.int .i64 0) 8 rfl Try.underlying26 info3 rfl (by decide) (by omega) (.slice A123_0 (rd_L1 x3_2 (rd ((rd_T45 l0_4 x4_1).f3) x5_2)).length c123_0) (rd_L1 x3_2 (rd ((rd_T45 l0_4 x4_1).f3) x5_2)) x4_1 [.int .i64 x4_1] (fun k_ => oki26 k_ ∨ ((fun _ => True)) k_ ∧ wr.heap.size ≤ k_) (fun _ => False) rfl rfl ?aP (fun _ hk => hk.elim) ?aF ?aO ?aB ?aS ?aL ?_; (case aP => exact rfl); (case aB => exact (by repeat (first | (with_reducible first | exact HB.out | apply Z7 | apply Z4 | apply Z6 | refine Z8 ?_ GE116.out) | exact HB.out))); (case aF => exact (fun k_ hk => .inr ⟨trivial, hk⟩)); (case aO => exact (by (with_reducible repeat (first | apply Kd.R_alloc | apply Kd.R_drewN | apply Kd.R_drew)); exact Kd.R_mono UU26.out (fun _ hk => .inl hk))); (case aS => exact (Z27 (by repeat (first | (with_reducible first | exact HB.out | apply Z7 | apply Z4 | apply Z6 | refine Z8 ?_ GE116.out) | exact HB.out)))); (case aL => have := LMc22.out; omega); intro v127 w27 ho hb hg hat; rw [← Ny126.out] at ho; have n0_ := Aside0.mk (Z89 (g := gb116) (o := .cells #[.string a0_0, .int .i64 a0_1, .int .i64 a0_2, .int .i64 a0_3, .slice (some ad120) l0_4.length c0_4] 24 (0, 0)) (by (with_reducible repeat (first | refine Z0 ?_ _ | refine Z3 ?_ | refine Z1 ?_ _)); exact BK116.out) hg (Kd.R_ne HL125_0.out BK116.out (by decide))); have n1_ := Aside0.mk (hb); have n2_ := Aside0.mk (Kd.H_grown (Kd.H_widen (by repeat (first | exact HH26.out | refine Kd.H_alloc ?_ _ | refine Kd.H_drewN ?_ _ | refine Kd.H_drew ?_))) hg (fun k_ e_ => .inl (UU26.out.1 k_ e_))); have n3_ := Aside0.mk (ho); clear BK116; clear HB; clear HH26; clear HO_3; clear UU26; clear HL123_0; clear HL125_0; have BK116 := n0_; have HB := n1_; have HH26 := n2_; have HO128 := n3_; clear n0_ n1_ n2_ n3_; clear ho hb hg hat; have p23 : 0 ≤ ((rd ((rd_T45 l0_4 x4_1).f3) x5_2) : Int) := of_decide_eq_true (by first | (with_reducible assumption) | assumption); have q23 : ((rd ((rd_T45 l0_4 x4_1).f3) x5_2) : Int) < ((x3_2.length : Int) : Int) := of_decide_eq_true (by first | (with_reducible assumption) | assumption); replace p23 := eq_true p23; replace q23 := eq_true q23; obtain ⟨Ao30, co30, eo30⟩ := Kd.R_slice HO128.out; subst eo30; obtain ⟨_, _, hraw28, _, _, hcc28, _⟩ := Kd.H_raw HH26.out (of_decide_eq_true (by first | (with_reducible assumption) | assumption)) (by have h_ : ((rd ((rd_T45 l0_4 x4_1).f3) x5_2) : Int) < ((x3_2.length : Int) : Int) := of_decide_eq_true (by first | (with_reducible assumption) | assumption); first | exact h_ | (have e_ := (HN26.out); omega) | simpa using h_); obtain ⟨_, hfr28⟩ := Kd.H_at HH26.out (of_decide_eq_true (by first | (with_reducible assumption) | assumption)) (by have h_ : ((rd ((rd_T45 l0_4 x4_1).f3) x5_2) : Int) < ((x3_2.length : Int) : Int) := of_decide_eq_true (by first | (with_reducible assumption) | assumption); first | exact h_ | (have e_ := (HN26.out); omega) | simpa using h_); have hx28_0 := hcc28 0 _ rfl; have hf28_0 := hfr28 0; (try simp only [Nat.add_zero] at hx28_0 hf28_0); (try rw [show ((Kd.slice 3 (Kd.int .i64))).sz = 1 from rfl, Nat.mul_one] at hx28_0); (try rw [show ((Kd.slice 3 (Kd.int .i64))).sz = 1 from rfl, Nat.mul_one] at hf28_0); have HP28 := Kd.S_seg0 HH26.out (of_decide_eq_true (by first | (with_reducible assumption) | assumption)) (by have h_ : ((rd ((rd_T45 l0_4 x4_1).f3) x5_2) : Int) < ((x3_2.length : Int) : Int) := of_decide_eq_true (by first | (with_reducible assumption) | assumption); first | exact h_ | (have e_ := (HN26.out); omega) | simpa using h_) (seg := [.slice Ao30 y126.length co30]) (j := 0) (show 1 ≤ 1 from by decide) (x' := y126) (Kd.M_row HO128.out) (fun _ hk => hk); (try simp only [show ((Kd.slice 3 (Kd.int .i64))).sz = 1 from rfl, Nat.mul_one, Nat.add_zero] at HP28); clear hcc28 hfr28) | ((with_reducible refine gate_store (t := 26) (p := 65) rfl ?_); refine store_event (t := 26) (p := 65) (v := ?vo_w29) (w1 := (w27.setCell ⟨go26, ((rd ((rd_T45 l0_4 x4_1).f3) x5_2) : Int).toNat, none⟩ (.slice Ao30 y126.length co30))) ?hg ?ho ?hn ?hr ?_; (case ho => rfl); (case hg => rfl); (case hn => rfl); (case hr => first | (go_simp; done) | (go_simp; rfl)); intro w29 hw; have hg : w27.grownBy w29 (some go26) := (by rw [hw]; exact HP28.2); have hp_ : Kd.S (Kd.slice 3 (Kd.int .i64)) 26 w29 w.heap.size (fun _ => True) (.slice (some ⟨go26, 0, none⟩) x3_2.length co25) y129 := (by rw [hw, Ny129.out]; exact HP28.1); clear HP28; have n0_ := Aside0.mk (Z89 (g := gb116) (o := .cells #[.string a0_0, .int .i64 a0_1, .int .i64 a0_2, .int .i64 a0_3, .slice (some ad120) l0_4.length c0_4] 24 (0, 0)) (by (with_reducible repeat (first | refine Z0 ?_ _ | refine Z3 ?_ | refine Z1 ?_ _)); exact BK116.out) hg (Kd.R_ne hraw28 BK116.out (by decide))); have n1_ := Aside0.mk ((by rw [hw]; exact Z8 HB.out GB26.out : Below w.heap.size w w29)); have n2_ := Aside0.mk (hp_); clear BK116; clear HB; clear HO128; clear HH26; have BK116 := n0_; have HB := n1_; have HO_3 := n2_; clear n0_ n1_ n2_; clear hg hw hp_ hraw28))
                               go_roundg k2
                               case measure => have := HK1.out; have := HK2.out; omega
                               case rel => exact ⟨(y129), (wrap64 (x5_2 + 1)), (by first | rfl | (simp; done) | (simp [*]; done)), H', ⟨by have := HK1.out; have := HK2.out; omega⟩, ⟨by (with_reducible repeat (first | apply Kd.S_alloc | apply Kd.S_drewN | apply Kd.S_drew)); exact HO_3.out⟩, ⟨by (with_reducible repeat (first | refine Z0 ?_ _ | refine Z3 ?_ | refine Z1 ?_ _)); exact BK116.out⟩, ⟨by repeat (first | (with_reducible first | exact HB.out | apply Z7 | apply Z4 | apply Z6 | refine Z8 ?_ GE116.out) | exact HB.out)⟩⟩
                             · rw [if_neg c22] at H
                               exact absurd H (by simp)
                         · rw [if_neg c17] at H
                           exact absurd H (by simp)
                       · rw [if_neg c16] at H
                         exact absurd H (by simp)
                     · rw [if_neg c15] at H
                       have c15b0 : decide ((rd ((rd_T45 l0_4 x4_1).f3) x5_2) < (l0_4.length : Int)) = false := decide_eq_false c15
                       clear c15
                       have H' := Aside0.mk H
                       clear H
                       have hcz31_0 : wr.cell? ⟨gb116, 0, none⟩ = some (.string a0_0) := (Z5 BK116.out 0).trans rfl
                       have hcz31_1 : wr.cell? ⟨gb116, 1, none⟩ = some (.int .i64 a0_1) := (Z5 BK116.out 1).trans rfl
                       have hcz31_2 : wr.cell? ⟨gb116, 2, none⟩ = some (.int .i64 a0_2) := (Z5 BK116.out 2).trans rfl
                       have hcz31_3 : wr.cell? ⟨gb116, 3, none⟩ = some (.int .i64 a0_3) := (Z5 BK116.out 3).trans rfl
                       have hcz31_4 : wr.cell? ⟨gb116, 4, none⟩ = some (.slice A0_4 l0_4.length c0_4) := (Z5 BK116.out 4).trans rfl
                       have hfz31_0 := Z2 BK116.out 0
                       have hfz31_1 := Z2 BK116.out 1
                       have hfz31_2 := Z2 BK116.out 2
                       have hfz31_3 := Z2 BK116.out 3
                       have hfz31_4 := Z2 BK116.out 4
                       have p120 : 0 ≤ (x4_1 : Int) := of_decide_eq_true (by first | (with_reducible assumption) | assumption)
                       have q120 : x4_1 < (l0_4.length : Int) := of_decide_eq_true (by first | (with_reducible assumption) | assumption)
                       obtain ⟨ad120, A120_0, c120_0, A120_3, c120_3, e120, hx120_0, hx120_1, hx120_2, hx120_3, hl120_0, hi120_0, hl120_3, hi120_3⟩ := at_T45 HR0_4.out x4_1 p120 q120
                       cases e120
                       replace hx120_0 := (HB.out.cell (World.block_lt_of_cell? w _ hx120_0)).trans hx120_0
                       replace hx120_1 := (HB.out.cell (World.block_lt_of_cell? w _ hx120_1)).trans hx120_1
                       replace hx120_2 := (HB.out.cell (World.block_lt_of_cell? w _ hx120_2)).trans hx120_2
                       replace hx120_3 := (HB.out.cell (World.block_lt_of_cell? w _ hx120_3)).trans hx120_3
                       have HR120_0 := Aside0.mk hi120_0
                       have HC120_0 := Aside0.mk hl120_0
                       clear hi120_0 hl120_0
                       have HR120_3 := Aside0.mk hi120_3
                       have HC120_3 := Aside0.mk hl120_3
                       clear hi120_3 hl120_3
                       replace p120 := eq_true p120
                       replace q120 := eq_true q120
                       have p121 : 0 ≤ (x4_1 : Int) := of_decide_eq_true (by first | (with_reducible assumption) | assumption)
                       have q121 : x4_1 < (l0_4.length : Int) := of_decide_eq_true (by first | (with_reducible assumption) | assumption)
                       obtain ⟨ad121, A121_0, c121_0, A121_3, c121_3, e121, hx121_0, hx121_1, hx121_2, hx121_3, hl121_0, hi121_0, hl121_3, hi121_3⟩ := at_T45 HR0_4.out x4_1 p121 q121
                       obtain rfl : ad120 = ad121 := (by injection e121)
                       replace hx121_0 := (HB.out.cell (World.block_lt_of_cell? w _ hx121_0)).trans hx121_0
                       replace hx121_1 := (HB.out.cell (World.block_lt_of_cell? w _ hx121_1)).trans hx121_1
                       replace hx121_2 := (HB.out.cell (World.block_lt_of_cell? w _ hx121_2)).trans hx121_2
                       replace hx121_3 := (HB.out.cell (World.block_lt_of_cell? w _ hx121_3)).trans hx121_3
                       have HR121_0 := Aside0.mk hi121_0
                       have HC121_0 := Aside0.mk hl121_0
                       clear hi121_0 hl121_0
                       have HR121_3 := Aside0.mk hi121_3
                       have HC121_3 := Aside0.mk hl121_3
                       clear hi121_3 hl121_3
                       replace p121 := eq_true p121
                       replace q121 := eq_true q121
                       have ea_ := Option.some.inj (hx120_0.symm.trans hx121_0)
                       injection ea_ with ea_ en_ ec_
                       subst ea_
                       subst ec_
                       clear en_
                       have ea_ := Option.some.inj (hx120_3.symm.trans hx121_3)
                       injection ea_ with ea_ en_ ec_
                       subst ea_
                       subst ec_
                       clear en_
                       have p122 : 0 ≤ (x5_2 : Int) := of_decide_eq_true (by first | (with_reducible assumption) | assumption)
                       have q122 : x5_2 < (((rd_T45 l0_4 x4_1).f3).length : Int) := of_decide_eq_true (by first | (with_reducible assumption) | assumption)
                       obtain ⟨ad122, e122, hx122_0⟩ := Kd.at_int HR121_3.out x5_2 p122 q122
                       cases e122
                       replace hx122_0 := (HB.out.cell (World.block_lt_of_cell? w _ hx122_0)).trans hx122_0
                       replace p122 := eq_true p122
                       replace q122 := eq_true q122
                       go_wp2
                       go_roundg k2
                       case measure => have := HK1.out; have := HK2.out; omega
                       case rel => exact ⟨(x3_2), (wrap64 (x5_2 + 1)), (by first | rfl | (simp; done) | (simp [*]; done)), H', ⟨by have := HK1.out; have := HK2.out; omega⟩, ⟨by (with_reducible repeat (first | apply Kd.S_alloc | apply Kd.S_drewN | apply Kd.S_drew)); exact HO_3.out⟩, ⟨by (with_reducible repeat (first | refine Z0 ?_ _ | refine Z3 ?_ | refine Z1 ?_ _)); exact BK116.out⟩, ⟨by repeat (first | (with_reducible first | exact HB.out | apply Z7 | apply Z4 | apply Z6 | refine Z8 ?_ GE116.out) | exact HB.out)⟩⟩
                   · rw [if_neg c14] at H
                     have c14b0 : decide (0 ≤ (rd ((rd_T45 l0_4 x4_1).f3) x5_2)) = false := decide_eq_false c14
                     clear c14
                     have H' := Aside0.mk H
                     clear H
                     have hcz32_0 : wr.cell? ⟨gb116, 0, none⟩ = some (.string a0_0) := (Z5 BK116.out 0).trans rfl
                     have hcz32_1 : wr.cell? ⟨gb116, 1, none⟩ = some (.int .i64 a0_1) := (Z5 BK116.out 1).trans rfl
                     have hcz32_2 : wr.cell? ⟨gb116, 2, none⟩ = some (.int .i64 a0_2) := (Z5 BK116.out 2).trans rfl
                     have hcz32_3 : wr.cell? ⟨gb116, 3, none⟩ = some (.int .i64 a0_3) := (Z5 BK116.out 3).trans rfl
                     have hcz32_4 : wr.cell? ⟨gb116, 4, none⟩ = some (.slice A0_4 l0_4.length c0_4) := (Z5 BK116.out 4).trans rfl
                     have hfz32_0 := Z2 BK116.out 0
                     have hfz32_1 := Z2 BK116.out 1
                     have hfz32_2 := Z2 BK116.out 2
                     have hfz32_3 := Z2 BK116.out 3
                     have hfz32_4 := Z2 BK116.out 4
                     have p120 : 0 ≤ (x4_1 : Int) := of_decide_eq_true (by first | (with_reducible assumption) | assumption)
                     have q120 : x4_1 < (l0_4.length : Int) := of_decide_eq_true (by first | (with_reducible assumption) | assumption)
                     obtain ⟨ad120, A120_0, c120_0, A120_3, c120_3, e120, hx120_0, hx120_1, hx120_2, hx120_3, hl120_0, hi120_0, hl120_3, hi120_3⟩ := at_T45 HR0_4.out x4_1 p120 q120
                     cases e120
                     replace hx120_0 := (HB.out.cell (World.block_lt_of_cell? w _ hx120_0)).trans hx120_0
                     replace hx120_1 := (HB.out.cell (World.block_lt_of_cell? w _ hx120_1)).trans hx120_1
                     replace hx120_2 := (HB.out.cell (World.block_lt_of_cell? w _ hx120_2)).trans hx120_2
                     replace hx120_3 := (HB.out.cell (World.block_lt_of_cell? w _ hx120_3)).trans hx120_3
                     have HR120_0 := Aside0.mk hi120_0
                     have HC120_0 := Aside0.mk hl120_0
                     clear hi120_0 hl120_0
                     have HR120_3 := Aside0.mk hi120_3
                     have HC120_3 := Aside0.mk hl120_3
                     clear hi120_3 hl120_3
                     replace p120 := eq_true p120
                     replace q120 := eq_true q120
                     have p121 : 0 ≤ (x4_1 : Int) := of_decide_eq_true (by first | (with_reducible assumption) | assumption)
                     have q121 : x4_1 < (l0_4.length : Int) := of_decide_eq_true (by first | (with_reducible assumption) | assumption)
                     obtain ⟨ad121, A121_0, c121_0, A121_3, c121_3, e121, hx121_0, hx121_1, hx121_2, hx121_3, hl121_0, hi121_0, hl121_3, hi121_3⟩ := at_T45 HR0_4.out x4_1 p121 q121
                     obtain rfl : ad120 = ad121 := (by injection e121)
                     replace hx121_0 := (HB.out.cell (World.block_lt_of_cell? w _ hx121_0)).trans hx121_0
                     replace hx121_1 := (HB.out.cell (World.block_lt_of_cell? w _ hx121_1)).trans hx121_1
                     replace hx121_2 := (HB.out.cell (World.block_lt_of_cell? w _ hx121_2)).trans hx121_2
                     replace hx121_3 := (HB.out.cell (World.block_lt_of_cell? w _ hx121_3)).trans hx121_3
                     have HR121_0 := Aside0.mk hi121_0
                     have HC121_0 := Aside0.mk hl121_0
                     clear hi121_0 hl121_0
                     have HR121_3 := Aside0.mk hi121_3
                     have HC121_3 := Aside0.mk hl121_3
                     clear hi121_3 hl121_3
                     replace p121 := eq_true p121
                     replace q121 := eq_true q121
                     have ea_ := Option.some.inj (hx120_0.symm.trans hx121_0)
                     injection ea_ with ea_ en_ ec_
                     subst ea_
                     subst ec_
                     clear en_
                     have ea_ := Option.some.inj (hx120_3.symm.trans hx121_3)
                     injection ea_ with ea_ en_ ec_
                     subst ea_
                     subst ec_
                     clear en_
                     have p122 : 0 ≤ (x5_2 : Int) := of_decide_eq_true (by first | (with_reducible assumption) | assumption)
                     have q122 : x5_2 < (((rd_T45 l0_4 x4_1).f3).length : Int) := of_decide_eq_true (by first | (with_reducible assumption) | assumption)
                     obtain ⟨ad122, e122, hx122_0⟩ := Kd.at_int HR121_3.out x5_2 p122 q122
                     cases e122
                     replace hx122_0 := (HB.out.cell (World.block_lt_of_cell? w _ hx122_0)).trans hx122_0
                     replace p122 := eq_true p122
                     replace q122 := eq_true q122
                     go_wp2
                     go_roundg k2
                     case measure => have := HK1.out; have := HK2.out; omega
                     case rel => exact ⟨(x3_2), (wrap64 (x5_2 + 1)), (by first | rfl | (simp; done) | (simp [*]; done)), H', ⟨by have := HK1.out; have := HK2.out; omega⟩, ⟨by (with_reducible repeat (first | apply Kd.S_alloc | apply Kd.S_drewN | apply Kd.S_drew)); exact HO_3.out⟩, ⟨by (with_reducible repeat (first | refine Z0 ?_ _ | refine Z3 ?_ | refine Z1 ?_ _)); exact BK116.out⟩, ⟨by repeat (first | (with_reducible first | exact HB.out | apply Z7 | apply Z4 | apply Z6 | refine Z8 ?_ GE116.out) | exact HB.out)⟩⟩
                 · rw [if_neg c13] at H
                   exact absurd H (by simp)
               · rw [if_neg c12] at H
                 have c12b0 : decide (x5_2 < (((rd_T45 l0_4 x4_1).f3).length : Int)) = false := decide_eq_false c12
                 clear c12
                 have H' := Aside0.mk H
                 clear H
                 have hcz33_0 : wr.cell? ⟨gb116, 0, none⟩ = some (.string a0_0) := (Z5 BK116.out 0).trans rfl
                 have hcz33_1 : wr.cell? ⟨gb116, 1, none⟩ = some (.int .i64 a0_1) := (Z5 BK116.out 1).trans rfl
                 have hcz33_2 : wr.cell? ⟨gb116, 2, none⟩ = some (.int .i64 a0_2) := (Z5 BK116.out 2).trans rfl
                 have hcz33_3 : wr.cell? ⟨gb116, 3, none⟩ = some (.int .i64 a0_3) := (Z5 BK116.out 3).trans rfl
                 have hcz33_4 : wr.cell? ⟨gb116, 4, none⟩ = some (.slice A0_4 l0_4.length c0_4) := (Z5 BK116.out 4).trans rfl
                 have hfz33_0 := Z2 BK116.out 0
                 have hfz33_1 := Z2 BK116.out 1
                 have hfz33_2 := Z2 BK116.out 2
                 have hfz33_3 := Z2 BK116.out 3
                 have hfz33_4 := Z2 BK116.out 4
                 have p120 : 0 ≤ (x4_1 : Int) := of_decide_eq_true (by first | (with_reducible assumption) | assumption)
                 have q120 : x4_1 < (l0_4.length : Int) := of_decide_eq_true (by first | (with_reducible assumption) | assumption)
                 obtain ⟨ad120, A120_0, c120_0, A120_3, c120_3, e120, hx120_0, hx120_1, hx120_2, hx120_3, hl120_0, hi120_0, hl120_3, hi120_3⟩ := at_T45 HR0_4.out x4_1 p120 q120
                 cases e120
                 replace hx120_0 := (HB.out.cell (World.block_lt_of_cell? w _ hx120_0)).trans hx120_0
                 replace hx120_1 := (HB.out.cell (World.block_lt_of_cell? w _ hx120_1)).trans hx120_1
                 replace hx120_2 := (HB.out.cell (World.block_lt_of_cell? w _ hx120_2)).trans hx120_2
                 replace hx120_3 := (HB.out.cell (World.block_lt_of_cell? w _ hx120_3)).trans hx120_3
                 have HR120_0 := Aside0.mk hi120_0
                 have HC120_0 := Aside0.mk hl120_0
                 clear hi120_0 hl120_0
                 have HR120_3 := Aside0.mk hi120_3
                 have HC120_3 := Aside0.mk hl120_3
                 clear hi120_3 hl120_3
                 replace p120 := eq_true p120
                 replace q120 := eq_true q120
                 go_wp2
                 go_roundg k2
                 case measure => have := HK1.out; have := HK2.out; omega
                 case rel => exact ⟨(x3_2), (wrap64 (x4_1 + 1)), (by first | rfl | (simp; done) | (simp [*]; done)), H', ⟨by have := HK1.out; have := HK2.out; omega⟩, ⟨by (with_reducible repeat (first | apply Kd.S_alloc | apply Kd.S_drewN | apply Kd.S_drew)); exact HO_3.out⟩, ⟨by (with_reducible repeat (first | refine Z0 ?_ _ | refine Z3 ?_ | refine Z1 ?_ _)); exact BK116.out⟩, ⟨by repeat (first | (with_reducible first | exact HB.out | apply Z7 | apply Z4 | apply Z6 | refine Z8 ?_ GE116.out) | exact HB.out)⟩⟩
             · rw [if_neg c11] at H
               exact absurd H (by simp)
           · rw [if_neg c10] at H
             exact absurd H (by simp)
       · rw [if_neg c8] at H
         have c8b0 : decide (x4_1 < (l0_4.length : Int)) = false := decide_eq_false c8
         clear c8
         obtain rfl := Option.some.inj H
         have hcz34_0 : wr.cell? ⟨gb116, 0, none⟩ = some (.string a0_0) := (Z5 BK116.out 0).trans rfl
         have hcz34_1 : wr.cell? ⟨gb116, 1, none⟩ = some (.int .i64 a0_1) := (Z5 BK116.out 1).trans rfl
         have hcz34_2 : wr.cell? ⟨gb116, 2, none⟩ = some (.int .i64 a0_2) := (Z5 BK116.out 2).trans rfl
         have hcz34_3 : wr.cell? ⟨gb116, 3, none⟩ = some (.int .i64 a0_3) := (Z5 BK116.out 3).trans rfl
         have hcz34_4 : wr.cell? ⟨gb116, 4, none⟩ = some (.slice A0_4 l0_4.length c0_4) := (Z5 BK116.out 4).trans rfl
         have hfz34_0 := Z2 BK116.out 0
         have hfz34_1 := Z2 BK116.out 1
         have hfz34_2 := Z2 BK116.out 2
         have hfz34_3 := Z2 BK116.out 3
         have hfz34_4 := Z2 BK116.out 4
         go_wp2
         go_ret
         exact ⟨_, by first | rfl | (simp [Z16, Z15] <;> rfl) | (simp [*, Z16, Z15] <;> rfl), by (with_reducible repeat (first | apply Kd.S_alloc | apply Kd.S_drewN | apply Kd.S_drew)); exact HO_3.out, by repeat (first | (with_reducible first | exact HB.out | apply Z7 | apply Z4 | apply Z6 | refine Z8 ?_ GE116.out) | exact HB.out)⟩
   · rw [if_neg c3] at H
     exact absurd H (by simp)
 · rw [if_neg c2] at H
   exact absurd H (by simp)
end Go.Proofs.Ytbklmnieakefnaa.Q
namespace Go.Proofs.Ytbklmnieakefnaa.Q
open Go.RowKit Go.Proofs.YtbklmnieakefnaaW.PrintWords Go.Proofs.YtbklmnieakefnaaW.PrintLast Go.Proofs.YtbklmnieakefnaaW.PrintMore
attribute [local go_sem] Z56 Z54 Z61 Z60 Z49 Z48 Z55 Z53
set_option linter.unusedVariables false
set_option linter.unusedSimpArgs false
def crucibleref14_register.f (a0_0 : ByteArray) (a0_1 : Int) (a0_2 : Int) (a0_3 : Int) (l0_4 : List (S45)) (a1 : Int) : Option (Bool) := if a1 ≥ 0 then (some (decide (a1 < a0_2))) else (some false)
set_option maxHeartbeats 8000000 in
set_option maxRecDepth 100000 in
theorem crucibleref14_register.calls (a0_0 : ByteArray) (a0_1 : Int) (a0_2 : Int) (a0_3 : Int) (A0_4 : Option Addr) (c0_4 : Nat) (l0_4 : List (S45)) (a1 : Int) (r : Bool) (w : World) (hr0_4 : Kd.C k45 w A0_4 l0_4.length l0_4) (hc0_4 : l0_4.length ≤ c0_4) (h : crucibleref14_register.f a0_0 a0_1 a0_2 a0_3 l0_4 a1 = some r) :
 Calls Try.prog 40 #[.agg #[.string a0_0, .int .i64 a0_1, .int .i64 a0_2, .int .i64 a0_3, .slice A0_4 l0_4.length c0_4], .int .i64 a1] w fun e w' => e = .returned (.bool r) ∧ Below w.heap.size w w' := by
 have hu24 := Try.underlying24
 have HR0_4 := Aside0.mk hr0_4
 have HC0_4 := Aside0.mk hc0_4
 clear hr0_4 hc0_4
 have HB := Aside0.mk (Below.refl w.heap.size w)
 have H : (if a1 ≥ 0 then (some (decide (a1 < a0_2))) else (some false)) = some r := h
 clear h
 by_cases c3 : a1 ≥ 0
 · rw [if_pos c3] at H
   have c3b0 : decide (0 ≤ a1) = true := decide_eq_true c3
   clear c3
   obtain rfl := Option.some.inj H
   go_enter Try.func40, Try.ntmps40
   go_wp2_with (first | ((with_reducible refine Z52 (N := 2) rfl ?_); refine Z51 ?hg (N := 2) ?hd (cs := #[.string a0_0, .int .i64 a0_1, .int .i64 a0_2, .int .i64 a0_3, .slice A0_4 l0_4.length c0_4]) (t := 24) ?hr ?_; (case hd => rfl); (case hg => rfl); (case hr => first | (go_simp; done) | (go_simp; rfl)); intro gb130 hg w4 hbox hb; have n0_ := Aside0.mk (Z25 (by repeat (first | (with_reducible first | exact HB.out | apply Z7 | apply Z4 | apply Z6) | exact HB.out)) hb); have n1_ := Aside0.mk (hbox); have n2_ := Aside0.mk ((by rw [hg]; exact (Z27 (by repeat (first | (with_reducible first | exact HB.out | apply Z7 | apply Z4 | apply Z6) | exact HB.out))) : w.heap.size ≤ gb130)); have n3_ := Aside0.mk ((by rw [hg]; exact (Z27 (by repeat (first | (with_reducible first | exact HB.out | apply Z7 | apply Z4 | apply Z6) | exact HB.out))) : w.heap.size ≤ gb130)); clear HB; have HB := n0_; have BK130 := n1_; have GW130 := n2_; have GE130 := n3_; clear n0_ n1_ n2_ n3_; clear hb hbox hg; have hcz5_0 : w4.cell? ⟨gb130, 0, none⟩ = some (.string a0_0) := (Z5 BK130.out 0).trans rfl; have hcz5_1 : w4.cell? ⟨gb130, 1, none⟩ = some (.int .i64 a0_1) := (Z5 BK130.out 1).trans rfl; have hcz5_2 : w4.cell? ⟨gb130, 2, none⟩ = some (.int .i64 a0_2) := (Z5 BK130.out 2).trans rfl; have hcz5_3 : w4.cell? ⟨gb130, 3, none⟩ = some (.int .i64 a0_3) := (Z5 BK130.out 3).trans rfl; have hcz5_4 : w4.cell? ⟨gb130, 4, none⟩ = some (.slice A0_4 l0_4.length c0_4) := (Z5 BK130.out 4).trans rfl; have hfz5_0 := Z2 BK130.out 0; have hfz5_1 := Z2 BK130.out 1; have hfz5_2 := Z2 BK130.out 2; have hfz5_3 := Z2 BK130.out 3; have hfz5_4 := Z2 BK130.out 4))
   go_ret
   exact ⟨by first | rfl | (simp [Z16, Z15] <;> rfl) | (simp [*, Z16, Z15] <;> rfl), by repeat (first | (with_reducible first | exact HB.out | apply Z7 | apply Z4 | apply Z6 | refine Z8 ?_ GE130.out) | exact HB.out)⟩
 · rw [if_neg c3] at H
   have c3b0 : decide (0 ≤ a1) = false := decide_eq_false c3
   clear c3
   obtain rfl := Option.some.inj H
   go_enter Try.func40, Try.ntmps40
   go_wp2_with (first | ((with_reducible refine Z52 (N := 2) rfl ?_); refine Z51 ?hg (N := 2) ?hd (cs := #[.string a0_0, .int .i64 a0_1, .int .i64 a0_2, .int .i64 a0_3, .slice A0_4 l0_4.length c0_4]) (t := 24) ?hr ?_; (case hd => rfl); (case hg => rfl); (case hr => first | (go_simp; done) | (go_simp; rfl)); intro gb130 hg w6 hbox hb; have n0_ := Aside0.mk (Z25 (by repeat (first | (with_reducible first | exact HB.out | apply Z7 | apply Z4 | apply Z6) | exact HB.out)) hb); have n1_ := Aside0.mk (hbox); have n2_ := Aside0.mk ((by rw [hg]; exact (Z27 (by repeat (first | (with_reducible first | exact HB.out | apply Z7 | apply Z4 | apply Z6) | exact HB.out))) : w.heap.size ≤ gb130)); have n3_ := Aside0.mk ((by rw [hg]; exact (Z27 (by repeat (first | (with_reducible first | exact HB.out | apply Z7 | apply Z4 | apply Z6) | exact HB.out))) : w.heap.size ≤ gb130)); clear HB; have HB := n0_; have BK130 := n1_; have GW130 := n2_; have GE130 := n3_; clear n0_ n1_ n2_ n3_; clear hb hbox hg))
   go_ret
   exact ⟨by first | rfl | (simp [Z16, Z15] <;> rfl) | (simp [*, Z16, Z15] <;> rfl), by repeat (first | (with_reducible first | exact HB.out | apply Z7 | apply Z4 | apply Z6 | refine Z8 ?_ GE130.out) | exact HB.out)⟩
end Go.Proofs.Ytbklmnieakefnaa.Q
namespace Go.Proofs.Ytbklmnieakefnaa.Q
open Go.RowKit Go.Proofs.YtbklmnieakefnaaW.PrintWords Go.Proofs.YtbklmnieakefnaaW.PrintLast Go.Proofs.YtbklmnieakefnaaW.PrintMore
attribute [local go_sem] Z56 Z54 Z61 Z60 Z49 Z48 Z55 Z53
set_option linter.unusedVariables false
set_option linter.unusedSimpArgs false
mutual
def crucibleref14_ends.j0 : Nat → Int → ByteArray → Int → Int → Int → List (S45) → List (S59) → Int → Int → List Int → Option (Bool)
 | 0, _, _, _, _, _, _, _, _, _, _ => none
 | k + 1, x5, x150000, x150001, x150002, x150003, x150004, x151000, x151001, x151002, x151003 => if (x151003.length : Int) = x5 then (crucibleref14_ends.l0 k x5 0 x150000 x150001 x150002 x150003 x150004 x151000 x151001 x151002 x151003) else (some false)
def crucibleref14_ends.l0 : Nat → Int → Int → ByteArray → Int → Int → Int → List (S45) → List (S59) → Int → Int → List Int → Option (Bool)
 | 0, _, _, _, _, _, _, _, _, _, _, _ => none
 | k + 1, x5, x6, x150000, x150001, x150002, x150003, x150004, x151000, x151001, x151002, x151003 => if x6 < x5 then (if 0 ≤ x6 then (if x6 < (x151003.length : Int) then (if (rd x151003 x6) < 0 then (some false) else (if (rd x151003 x6) ≥ (x150004.length : Int) then (some false) else (crucibleref14_ends.l0 k x5 (wrap64 (x6 + 1)) x150000 x150001 x150002 x150003 x150004 x151000 x151001 x151002 x151003))) else (none)) else (none)) else (some true)
end
def crucibleref14_ends.f (k : Nat) (a0_0 : ByteArray) (a0_1 : Int) (a0_2 : Int) (a0_3 : Int) (l0_4 : List (S45)) (l1_0 : List (S59)) (a1_1 : Int) (a1_2 : Int) (l1_3 : List Int) : Option (Bool) := if a1_1 = 1 then (if a1_2 = 0 then (crucibleref14_ends.j0 k 1 a0_0 a0_1 a0_2 a0_3 l0_4 l1_0 a1_1 a1_2 l1_3) else (some false)) else (if a1_1 = 2 then ((crucibleref14_register.f a0_0 a0_1 a0_2 a0_3 l0_4 a1_2).bind fun t151 => (if t151 = true then (crucibleref14_ends.j0 k 2 a0_0 a0_1 a0_2 a0_3 l0_4 l1_0 a1_1 a1_2 l1_3) else (some false))) else (if a1_1 = 3 then (if a1_2 = (-1) then (crucibleref14_ends.j0 k 0 a0_0 a0_1 a0_2 a0_3 l0_4 l1_0 a1_1 a1_2 l1_3) else ((crucibleref14_register.f a0_0 a0_1 a0_2 a0_3 l0_4 a1_2).bind fun t152 => (if t152 = true then (crucibleref14_ends.j0 k 0 a0_0 a0_1 a0_2 a0_3 l0_4 l1_0 a1_1 a1_2 l1_3) else (some false)))) else (some false)))
theorem crucibleref14_ends.mono_l : ∀ k, (∀ y0 y1 y2 y3 y4 y5 y6 y7 y8 y9, LeO (crucibleref14_ends.j0 k y0 y1 y2 y3 y4 y5 y6 y7 y8 y9) (crucibleref14_ends.j0 (k + 1) y0 y1 y2 y3 y4 y5 y6 y7 y8 y9)) ∧ (∀ y0 y1 y2 y3 y4 y5 y6 y7 y8 y9 y10, LeO (crucibleref14_ends.l0 k y0 y1 y2 y3 y4 y5 y6 y7 y8 y9 y10) (crucibleref14_ends.l0 (k + 1) y0 y1 y2 y3 y4 y5 y6 y7 y8 y9 y10))
 | 0 => ⟨fun _ _ _ _ _ _ _ _ _ _ r h => by simp [crucibleref14_ends.j0] at h, fun _ _ _ _ _ _ _ _ _ _ _ r h => by simp [crucibleref14_ends.l0] at h⟩
 | k + 1 => by
  obtain ⟨ih0, ih1⟩ := crucibleref14_ends.mono_l k
  refine ⟨?_, ?_⟩
  · intro y0 y1 y2 y3 y4 y5 y6 y7 y8 y9
    unfold crucibleref14_ends.j0
    repeat' first
    | (with_reducible exact ih0 _ _ _ _ _ _ _ _ _ _)
    | (with_reducible exact ih1 _ _ _ _ _ _ _ _ _ _ _)
    | (with_reducible exact LeO.refl _)
    | (with_reducible exact LeO.none _)
    | (with_reducible refine LeO.ite ?_ ?_)
    | (with_reducible refine LeO.bind ?_ (fun _ => ?_))
    | exact ih0 _ _ _ _ _ _ _ _ _ _
    | exact ih1 _ _ _ _ _ _ _ _ _ _ _
    | exact LeO.none _
    | refine LeO.ite ?_ ?_
    | refine LeO.bind ?_ (fun _ => ?_)
  · intro y0 y1 y2 y3 y4 y5 y6 y7 y8 y9 y10
    unfold crucibleref14_ends.l0
    repeat' first
    | (with_reducible exact ih0 _ _ _ _ _ _ _ _ _ _)
    | (with_reducible exact ih1 _ _ _ _ _ _ _ _ _ _ _)
    | (with_reducible exact LeO.refl _)
    | (with_reducible exact LeO.none _)
    | (with_reducible refine LeO.ite ?_ ?_)
    | (with_reducible refine LeO.bind ?_ (fun _ => ?_))
    | exact ih0 _ _ _ _ _ _ _ _ _ _
    | exact ih1 _ _ _ _ _ _ _ _ _ _ _
    | exact LeO.none _
    | refine LeO.ite ?_ ?_
    | refine LeO.bind ?_ (fun _ => ?_)
theorem crucibleref14_ends.mono : ∀ a0 a1 a2 a3 a4 a5 a6 a7 a8 k, LeO (crucibleref14_ends.f k a0 a1 a2 a3 a4 a5 a6 a7 a8) (crucibleref14_ends.f (k + 1) a0 a1 a2 a3 a4 a5 a6 a7 a8) := by
 intro a0 a1 a2 a3 a4 a5 a6 a7 a8 k
 obtain ⟨ih0, ih1⟩ := crucibleref14_ends.mono_l k
 unfold crucibleref14_ends.f
 repeat' first
  | (with_reducible exact ih0 _ _ _ _ _ _ _ _ _ _)
  | (with_reducible exact ih1 _ _ _ _ _ _ _ _ _ _ _)
  | (with_reducible exact LeO.refl _)
  | (with_reducible exact LeO.none _)
  | (with_reducible refine LeO.ite ?_ ?_)
  | (with_reducible refine LeO.bind ?_ (fun _ => ?_))
  | exact ih0 _ _ _ _ _ _ _ _ _ _
  | exact ih1 _ _ _ _ _ _ _ _ _ _ _
  | exact LeO.none _
  | refine LeO.ite ?_ ?_
  | refine LeO.bind ?_ (fun _ => ?_)
set_option maxHeartbeats 8000000 in
set_option maxRecDepth 100000 in
theorem crucibleref14_ends.calls (k : Nat) (a0_0 : ByteArray) (a0_1 : Int) (a0_2 : Int) (a0_3 : Int) (A0_4 : Option Addr) (c0_4 : Nat) (l0_4 : List (S45)) (A1_0 : Option Addr) (c1_0 : Nat) (l1_0 : List (S59)) (a1_1 : Int) (a1_2 : Int) (A1_3 : Option Addr) (c1_3 : Nat) (l1_3 : List Int) (r : Bool) (w : World) (hr0_4 : Kd.C k45 w A0_4 l0_4.length l0_4) (hc0_4 : l0_4.length ≤ c0_4) (hr1_0 : Kd.C k59 w A1_0 l1_0.length l1_0) (hc1_0 : l1_0.length ≤ c1_0) (hr1_3 : Kd.C (Kd.int .i64) w A1_3 l1_3.length l1_3) (hc1_3 : l1_3.length ≤ c1_3) (h : crucibleref14_ends.f k a0_0 a0_1 a0_2 a0_3 l0_4 l1_0 a1_1 a1_2 l1_3 = some r) :
 Calls Try.prog 35 #[.agg #[.string a0_0, .int .i64 a0_1, .int .i64 a0_2, .int .i64 a0_3, .slice A0_4 l0_4.length c0_4], .agg #[.slice A1_0 l1_0.length c1_0, .int .i64 a1_1, .int .i64 a1_2, .slice A1_3 l1_3.length c1_3]] w fun e w' => e = .returned (.bool r) ∧ Below w.heap.size w w' := by
 have hu24 := Try.underlying24
 have hu45 := Try.underlying45
 have HR0_4 := Aside0.mk hr0_4
 have HC0_4 := Aside0.mk hc0_4
 clear hr0_4 hc0_4
 have HR1_0 := Aside0.mk hr1_0
 have HC1_0 := Aside0.mk hc1_0
 clear hr1_0 hc1_0
 have HR1_3 := Aside0.mk hr1_3
 have HC1_3 := Aside0.mk hc1_3
 clear hr1_3 hc1_3
 have HB := Aside0.mk (Below.refl w.heap.size w)
 have H : (if a1_1 = 1 then (if a1_2 = 0 then (crucibleref14_ends.j0 k 1 a0_0 a0_1 a0_2 a0_3 l0_4 l1_0 a1_1 a1_2 l1_3) else (some false)) else (if a1_1 = 2 then ((crucibleref14_register.f a0_0 a0_1 a0_2 a0_3 l0_4 a1_2).bind fun t151 => (if t151 = true then (crucibleref14_ends.j0 k 2 a0_0 a0_1 a0_2 a0_3 l0_4 l1_0 a1_1 a1_2 l1_3) else (some false))) else (if a1_1 = 3 then (if a1_2 = (-1) then (crucibleref14_ends.j0 k 0 a0_0 a0_1 a0_2 a0_3 l0_4 l1_0 a1_1 a1_2 l1_3) else ((crucibleref14_register.f a0_0 a0_1 a0_2 a0_3 l0_4 a1_2).bind fun t152 => (if t152 = true then (crucibleref14_ends.j0 k 0 a0_0 a0_1 a0_2 a0_3 l0_4 l1_0 a1_1 a1_2 l1_3) else (some false)))) else (some false)))) = some r := h
 clear h
 have HC3 := Aside0.mk H
 clear H
 go_enter Try.func35, Try.ntmps35
 go_upto_block 0 with (first | ((with_reducible refine Z52 (N := 2) rfl ?_); (try (refine Z66 (by rfl) ?_; dsimp only)); refine Z51 ?hg (N := 2) ?hd (cs := #[.string a0_0, .int .i64 a0_1, .int .i64 a0_2, .int .i64 a0_3, .slice A0_4 l0_4.length c0_4]) (t := 24) ?hr ?_; (case hd => rfl); (case hg => rfl); (case hr => first | (go_simp; done) | (go_simp; rfl)); intro gb149 hg w4 hbox hb; have n0_ := Aside0.mk (Z25 (by repeat (first | (with_reducible first | exact HB.out | apply Z7 | apply Z4 | apply Z6) | exact HB.out)) hb); have n1_ := Aside0.mk (hbox); have n2_ := Aside0.mk ((by rw [hg]; exact (Z27 (by repeat (first | (with_reducible first | exact HB.out | apply Z7 | apply Z4 | apply Z6) | exact HB.out))) : w.heap.size ≤ gb149)); have n3_ := Aside0.mk ((by rw [hg]; exact (Z27 (by repeat (first | (with_reducible first | exact HB.out | apply Z7 | apply Z4 | apply Z6) | exact HB.out))) : w.heap.size ≤ gb149)); clear HB; have HB := n0_; have BK149 := n1_; have GW149 := n2_; have GE149 := n3_; clear n0_ n1_ n2_ n3_; clear hb hbox hg) | ((with_reducible refine Z52 (N := 3) rfl ?_); (try (refine Z66 (by rfl) ?_; dsimp only)); refine Z51 ?hg (N := 3) ?hd (cs := #[.slice A1_0 l1_0.length c1_0, .int .i64 a1_1, .int .i64 a1_2, .slice A1_3 l1_3.length c1_3]) (t := 45) ?hr ?_; (case hd => rfl); (case hg => rfl); (case hr => first | (go_simp; done) | (go_simp; rfl)); intro gb150 hg w5 hbox hb; have n0_ := Aside0.mk (Z40 (g := gb149) (o := .cells #[.string a0_0, .int .i64 a0_1, .int .i64 a0_2, .int .i64 a0_3, .slice A0_4 l0_4.length c0_4] 24 (0, 0)) (by (with_reducible repeat (first | refine Z0 ?_ _ | refine Z3 ?_ | refine Z1 ?_ _)); exact BK149.out) hb); have n1_ := Aside0.mk (Z25 (by repeat (first | (with_reducible first | exact HB.out | apply Z7 | apply Z4 | apply Z6 | refine Z8 ?_ GE149.out) | exact HB.out)) hb); have n2_ := Aside0.mk (hbox); have n3_ := Aside0.mk ((by rw [hg]; exact (Z27 (by repeat (first | (with_reducible first | exact HB.out | apply Z7 | apply Z4 | apply Z6 | refine Z8 ?_ GE149.out) | exact HB.out))) : w.heap.size ≤ gb150)); have n4_ := Aside0.mk ((by rw [hg]; exact (Z27 (by repeat (first | (with_reducible first | exact HB.out | apply Z7 | apply Z4 | apply Z6 | refine Z8 ?_ GE149.out) | exact HB.out))) : w.heap.size ≤ gb150)); have n5_ := Aside0.mk ((by rw [hg]; exact Nat.ne_of_lt (blk_lt (g := gb149) (o := .cells #[.string a0_0, .int .i64 a0_1, .int .i64 a0_2, .int .i64 a0_3, .slice A0_4 l0_4.length c0_4] 24 (0, 0)) (by (with_reducible repeat (first | refine Z0 ?_ _ | refine Z3 ?_ | refine Z1 ?_ _)); exact BK149.out)) : gb149 ≠ gb150)); have n6_ := Aside0.mk ((by rw [hg]; exact Nat.ne_of_gt (blk_lt (g := gb149) (o := .cells #[.string a0_0, .int .i64 a0_1, .int .i64 a0_2, .int .i64 a0_3, .slice A0_4 l0_4.length c0_4] 24 (0, 0)) (by (with_reducible repeat (first | refine Z0 ?_ _ | refine Z3 ?_ | refine Z1 ?_ _)); exact BK149.out)) : gb150 ≠ gb149)); clear BK149; clear HB; have BK149 := n0_; have HB := n1_; have BK150 := n2_; have GW150 := n3_; have GE150 := n4_; have NB149_150 := n5_; have NB150_149 := n6_; clear n0_ n1_ n2_ n3_ n4_ n5_ n6_; clear hb hbox hg; have hnb6 := NB150_149.out; have hnc6 := NB149_150.out; have hcz7_0 : w5.cell? ⟨gb150, 0, none⟩ = some (.slice A1_0 l1_0.length c1_0) := (Z5 BK150.out 0).trans rfl; have hcz7_1 : w5.cell? ⟨gb150, 1, none⟩ = some (.int .i64 a1_1) := (Z5 BK150.out 1).trans rfl; have hcz7_2 : w5.cell? ⟨gb150, 2, none⟩ = some (.int .i64 a1_2) := (Z5 BK150.out 2).trans rfl; have hcz7_3 : w5.cell? ⟨gb150, 3, none⟩ = some (.slice A1_3 l1_3.length c1_3) := (Z5 BK150.out 3).trans rfl; have hfz7_0 := Z2 BK150.out 0; have hfz7_1 := Z2 BK150.out 1; have hfz7_2 := Z2 BK150.out 2; have hfz7_3 := Z2 BK150.out 3))
 repeat (go_quiet (first | ((with_reducible refine Z52 (N := 2) rfl ?_); (try (refine Z66 (by rfl) ?_; dsimp only)); refine Z51 ?hg (N := 2) ?hd (cs := #[.string a0_0, .int .i64 a0_1, .int .i64 a0_2, .int .i64 a0_3, .slice A0_4 l0_4.length c0_4]) (t := 24) ?hr ?_; (case hd => rfl); (case hg => rfl); (case hr => first | (go_simp; done) | (go_simp; rfl)); intro gb149 hg w4 hbox hb; have n0_ := Aside0.mk (Z25 (by repeat (first | (with_reducible first | exact HB.out | apply Z7 | apply Z4 | apply Z6) | exact HB.out)) hb); have n1_ := Aside0.mk (hbox); have n2_ := Aside0.mk ((by rw [hg]; exact (Z27 (by repeat (first | (with_reducible first | exact HB.out | apply Z7 | apply Z4 | apply Z6) | exact HB.out))) : w.heap.size ≤ gb149)); have n3_ := Aside0.mk ((by rw [hg]; exact (Z27 (by repeat (first | (with_reducible first | exact HB.out | apply Z7 | apply Z4 | apply Z6) | exact HB.out))) : w.heap.size ≤ gb149)); clear HB; have HB := n0_; have BK149 := n1_; have GW149 := n2_; have GE149 := n3_; clear n0_ n1_ n2_ n3_; clear hb hbox hg) | ((with_reducible refine Z52 (N := 3) rfl ?_); (try (refine Z66 (by rfl) ?_; dsimp only)); refine Z51 ?hg (N := 3) ?hd (cs := #[.slice A1_0 l1_0.length c1_0, .int .i64 a1_1, .int .i64 a1_2, .slice A1_3 l1_3.length c1_3]) (t := 45) ?hr ?_; (case hd => rfl); (case hg => rfl); (case hr => first | (go_simp; done) | (go_simp; rfl)); intro gb150 hg w5 hbox hb; have n0_ := Aside0.mk (Z40 (g := gb149) (o := .cells #[.string a0_0, .int .i64 a0_1, .int .i64 a0_2, .int .i64 a0_3, .slice A0_4 l0_4.length c0_4] 24 (0, 0)) (by (with_reducible repeat (first | refine Z0 ?_ _ | refine Z3 ?_ | refine Z1 ?_ _)); exact BK149.out) hb); have n1_ := Aside0.mk (Z25 (by repeat (first | (with_reducible first | exact HB.out | apply Z7 | apply Z4 | apply Z6 | refine Z8 ?_ GE149.out) | exact HB.out)) hb); have n2_ := Aside0.mk (hbox); have n3_ := Aside0.mk ((by rw [hg]; exact (Z27 (by repeat (first | (with_reducible first | exact HB.out | apply Z7 | apply Z4 | apply Z6 | refine Z8 ?_ GE149.out) | exact HB.out))) : w.heap.size ≤ gb150)); have n4_ := Aside0.mk ((by rw [hg]; exact (Z27 (by repeat (first | (with_reducible first | exact HB.out | apply Z7 | apply Z4 | apply Z6 | refine Z8 ?_ GE149.out) | exact HB.out))) : w.heap.size ≤ gb150)); have n5_ := Aside0.mk ((by rw [hg]; exact Nat.ne_of_lt (blk_lt (g := gb149) (o := .cells #[.string a0_0, .int .i64 a0_1, .int .i64 a0_2, .int .i64 a0_3, .slice A0_4 l0_4.length c0_4] 24 (0, 0)) (by (with_reducible repeat (first | refine Z0 ?_ _ | refine Z3 ?_ | refine Z1 ?_ _)); exact BK149.out)) : gb149 ≠ gb150)); have n6_ := Aside0.mk ((by rw [hg]; exact Nat.ne_of_gt (blk_lt (g := gb149) (o := .cells #[.string a0_0, .int .i64 a0_1, .int .i64 a0_2, .int .i64 a0_3, .slice A0_4 l0_4.length c0_4] 24 (0, 0)) (by (with_reducible repeat (first | refine Z0 ?_ _ | refine Z3 ?_ | refine Z1 ?_ _)); exact BK149.out)) : gb150 ≠ gb149)); clear BK149; clear HB; have BK149 := n0_; have HB := n1_; have BK150 := n2_; have GW150 := n3_; have GE150 := n4_; have NB149_150 := n5_; have NB150_149 := n6_; clear n0_ n1_ n2_ n3_ n4_ n5_ n6_; clear hb hbox hg; have hnb6 := NB150_149.out; have hnc6 := NB149_150.out; have hcz7_0 : w5.cell? ⟨gb150, 0, none⟩ = some (.slice A1_0 l1_0.length c1_0) := (Z5 BK150.out 0).trans rfl; have hcz7_1 : w5.cell? ⟨gb150, 1, none⟩ = some (.int .i64 a1_1) := (Z5 BK150.out 1).trans rfl; have hcz7_2 : w5.cell? ⟨gb150, 2, none⟩ = some (.int .i64 a1_2) := (Z5 BK150.out 2).trans rfl; have hcz7_3 : w5.cell? ⟨gb150, 3, none⟩ = some (.slice A1_3 l1_3.length c1_3) := (Z5 BK150.out 3).trans rfl; have hfz7_0 := Z2 BK150.out 0; have hfz7_1 := Z2 BK150.out 1; have hfz7_2 := Z2 BK150.out 2; have hfz7_3 := Z2 BK150.out 3)); go_upto_block 0 with (first | ((with_reducible refine Z52 (N := 2) rfl ?_); (try (refine Z66 (by rfl) ?_; dsimp only)); refine Z51 ?hg (N := 2) ?hd (cs := #[.string a0_0, .int .i64 a0_1, .int .i64 a0_2, .int .i64 a0_3, .slice A0_4 l0_4.length c0_4]) (t := 24) ?hr ?_; (case hd => rfl); (case hg => rfl); (case hr => first | (go_simp; done) | (go_simp; rfl)); intro gb149 hg w4 hbox hb; have n0_ := Aside0.mk (Z25 (by repeat (first | (with_reducible first | exact HB.out | apply Z7 | apply Z4 | apply Z6) | exact HB.out)) hb); have n1_ := Aside0.mk (hbox); have n2_ := Aside0.mk ((by rw [hg]; exact (Z27 (by repeat (first | (with_reducible first | exact HB.out | apply Z7 | apply Z4 | apply Z6) | exact HB.out))) : w.heap.size ≤ gb149)); have n3_ := Aside0.mk ((by rw [hg]; exact (Z27 (by repeat (first | (with_reducible first | exact HB.out | apply Z7 | apply Z4 | apply Z6) | exact HB.out))) : w.heap.size ≤ gb149)); clear HB; have HB := n0_; have BK149 := n1_; have GW149 := n2_; have GE149 := n3_; clear n0_ n1_ n2_ n3_; clear hb hbox hg) | ((with_reducible refine Z52 (N := 3) rfl ?_); (try (refine Z66 (by rfl) ?_; dsimp only)); refine Z51 ?hg (N := 3) ?hd (cs := #[.slice A1_0 l1_0.length c1_0, .int .i64 a1_1, .int .i64 a1_2, .slice A1_3 l1_3.length c1_3]) (t := 45) ?hr ?_; (case hd => rfl); (case hg => rfl); (case hr => first | (go_simp; done) | (go_simp; rfl)); intro gb150 hg w5 hbox hb; have n0_ := Aside0.mk (Z40 (g := gb149) (o := .cells #[.string a0_0, .int .i64 a0_1, .int .i64 a0_2, .int .i64 a0_3, .slice A0_4 l0_4.length c0_4] 24 (0, 0)) (by (with_reducible repeat (first | refine Z0 ?_ _ | refine Z3 ?_ | refine Z1 ?_ _)); exact BK149.out) hb); have n1_ := Aside0.mk (Z25 (by repeat (first | (with_reducible first | exact HB.out | apply Z7 | apply Z4 | apply Z6 | refine Z8 ?_ GE149.out) | exact HB.out)) hb); have n2_ := Aside0.mk (hbox); have n3_ := Aside0.mk ((by rw [hg]; exact (Z27 (by repeat (first | (with_reducible first | exact HB.out | apply Z7 | apply Z4 | apply Z6 | refine Z8 ?_ GE149.out) | exact HB.out))) : w.heap.size ≤ gb150)); have n4_ := Aside0.mk ((by rw [hg]; exact (Z27 (by repeat (first | (with_reducible first | exact HB.out | apply Z7 | apply Z4 | apply Z6 | refine Z8 ?_ GE149.out) | exact HB.out))) : w.heap.size ≤ gb150)); have n5_ := Aside0.mk ((by rw [hg]; exact Nat.ne_of_lt (blk_lt (g := gb149) (o := .cells #[.string a0_0, .int .i64 a0_1, .int .i64 a0_2, .int .i64 a0_3, .slice A0_4 l0_4.length c0_4] 24 (0, 0)) (by (with_reducible repeat (first | refine Z0 ?_ _ | refine Z3 ?_ | refine Z1 ?_ _)); exact BK149.out)) : gb149 ≠ gb150)); have n6_ := Aside0.mk ((by rw [hg]; exact Nat.ne_of_gt (blk_lt (g := gb149) (o := .cells #[.string a0_0, .int .i64 a0_1, .int .i64 a0_2, .int .i64 a0_3, .slice A0_4 l0_4.length c0_4] 24 (0, 0)) (by (with_reducible repeat (first | refine Z0 ?_ _ | refine Z3 ?_ | refine Z1 ?_ _)); exact BK149.out)) : gb150 ≠ gb149)); clear BK149; clear HB; have BK149 := n0_; have HB := n1_; have BK150 := n2_; have GW150 := n3_; have GE150 := n4_; have NB149_150 := n5_; have NB150_149 := n6_; clear n0_ n1_ n2_ n3_ n4_ n5_ n6_; clear hb hbox hg; have hnb6 := NB150_149.out; have hnc6 := NB149_150.out; have hcz7_0 : w5.cell? ⟨gb150, 0, none⟩ = some (.slice A1_0 l1_0.length c1_0) := (Z5 BK150.out 0).trans rfl; have hcz7_1 : w5.cell? ⟨gb150, 1, none⟩ = some (.int .i64 a1_1) := (Z5 BK150.out 1).trans rfl; have hcz7_2 : w5.cell? ⟨gb150, 2, none⟩ = some (.int .i64 a1_2) := (Z5 BK150.out 2).trans rfl; have hcz7_3 : w5.cell? ⟨gb150, 3, none⟩ = some (.slice A1_3 l1_3.length c1_3) := (Z5 BK150.out 3).trans rfl; have hfz7_0 := Z2 BK150.out 0; have hfz7_1 := Z2 BK150.out 1; have hfz7_2 := Z2 BK150.out 2; have hfz7_3 := Z2 BK150.out 3)))
 (try simp only [Act.put, List.setIfInBounds_toArray, List.set_cons_zero, List.set_cons_succ])
 go_cut [5] (fun v5 wc => ∃ (kq : Nat) (x5_2 : Int), v5 = .int .i64 x5_2 ∧ Aside0 (crucibleref14_ends.j0 kq x5_2 a0_0 a0_1 a0_2 a0_3 l0_4 l1_0 a1_1 a1_2 l1_3 = some r) ∧ Aside0 (kq ≤ k) ∧ Aside0 (wc.heap[gb149]? = some (.cells #[.string a0_0, .int .i64 a0_1, .int .i64 a0_2, .int .i64 a0_3, (.slice A0_4 l0_4.length c0_4)] 24 (0, 0))) ∧ Aside0 (wc.heap[gb150]? = some (.cells #[(.slice A1_0 l1_0.length c1_0), .int .i64 a1_1, .int .i64 a1_2, (.slice A1_3 l1_3.length c1_3)] 45 (0, 0))) ∧ Aside0 (Below w.heap.size w wc))
 case first =>
  have H := HC3.out
  clear HC3
  by_cases c8 : a1_1 = 1
  · rw [if_pos c8] at H
    have c8b0 : (a1_1 == 1) = true := beq_iff_eq.mpr c8
    have c8b1 : (a1_1 != 1) = false := bne_eq_false_iff_eq.mpr c8
    clear c8
    (first | rw [c8b0] | (simp only [i64_w, i32_w]; rw [c8b0]) | skip)
    by_cases c9 : a1_2 = 0
    · rw [if_pos c9] at H
      have c9b0 : (a1_2 == 0) = true := beq_iff_eq.mpr c9
      have c9b1 : (a1_2 != 0) = false := bne_eq_false_iff_eq.mpr c9
      clear c9
      have H' := Aside0.mk H
      clear H
      have hnb10 := NB150_149.out
      have hnc10 := NB149_150.out
      have hcz11_0 : w5.cell? ⟨gb150, 0, none⟩ = some (.slice A1_0 l1_0.length c1_0) := (Z5 BK150.out 0).trans rfl
      have hcz11_1 : w5.cell? ⟨gb150, 1, none⟩ = some (.int .i64 a1_1) := (Z5 BK150.out 1).trans rfl
      have hcz11_2 : w5.cell? ⟨gb150, 2, none⟩ = some (.int .i64 a1_2) := (Z5 BK150.out 2).trans rfl
      have hcz11_3 : w5.cell? ⟨gb150, 3, none⟩ = some (.slice A1_3 l1_3.length c1_3) := (Z5 BK150.out 3).trans rfl
      have hfz11_0 := Z2 BK150.out 0
      have hfz11_1 := Z2 BK150.out 1
      have hfz11_2 := Z2 BK150.out 2
      have hfz11_3 := Z2 BK150.out 3
      go_wp2
      repeat (go_quiet (fail); try go_wp2)
      go_meet
      case rel => exact ⟨_, (1), (by first | rfl | (simp; done) | (simp [*]; done)), H', ⟨by first | omega | exact Nat.le_refl _⟩, ⟨by (with_reducible repeat (first | refine Z0 ?_ _ | refine Z3 ?_ | refine Z1 ?_ _)); exact BK149.out⟩, ⟨by (with_reducible repeat (first | refine Z0 ?_ _ | refine Z3 ?_ | refine Z1 ?_ _)); exact BK150.out⟩, ⟨by repeat (first | (with_reducible first | exact HB.out | apply Z7 | apply Z4 | apply Z6 | refine Z8 ?_ GE149.out | refine Z8 ?_ GE150.out) | exact HB.out)⟩⟩
    · rw [if_neg c9] at H
      have c9b0 : (a1_2 == 0) = false := beq_eq_false_iff_ne.mpr c9
      have c9b1 : (a1_2 != 0) = true := bne_iff_ne.mpr c9
      obtain rfl := Option.some.inj H
      have hnb12 := NB150_149.out
      have hnc12 := NB149_150.out
      have hcz13_0 : w5.cell? ⟨gb150, 0, none⟩ = some (.slice A1_0 l1_0.length c1_0) := (Z5 BK150.out 0).trans rfl
      have hcz13_1 : w5.cell? ⟨gb150, 1, none⟩ = some (.int .i64 a1_1) := (Z5 BK150.out 1).trans rfl
      have hcz13_2 : w5.cell? ⟨gb150, 2, none⟩ = some (.int .i64 a1_2) := (Z5 BK150.out 2).trans rfl
      have hcz13_3 : w5.cell? ⟨gb150, 3, none⟩ = some (.slice A1_3 l1_3.length c1_3) := (Z5 BK150.out 3).trans rfl
      have hfz13_0 := Z2 BK150.out 0
      have hfz13_1 := Z2 BK150.out 1
      have hfz13_2 := Z2 BK150.out 2
      have hfz13_3 := Z2 BK150.out 3
      go_wp2
      repeat (go_quiet (fail); try go_wp2)
      go_ret
      exact ⟨by first | rfl | (simp [Z16, Z15] <;> rfl) | (simp [*, Z16, Z15] <;> rfl), by repeat (first | (with_reducible first | exact HB.out | apply Z7 | apply Z4 | apply Z6 | refine Z8 ?_ GE149.out | refine Z8 ?_ GE150.out) | exact HB.out)⟩
  · rw [if_neg c8] at H
    have c8b0 : (a1_1 == 1) = false := beq_eq_false_iff_ne.mpr c8
    have c8b1 : (a1_1 != 1) = true := bne_iff_ne.mpr c8
    (first | rw [c8b0] | (simp only [i64_w, i32_w]; rw [c8b0]) | skip)
    by_cases c14 : a1_1 = 2
    · rw [if_pos c14] at H
      have c14b0 : (a1_1 == 2) = true := beq_iff_eq.mpr c14
      have c14b1 : (a1_1 != 2) = false := bne_eq_false_iff_eq.mpr c14
      clear c14
      replace H := Option.bind_eq_some_iff.mp H
      obtain ⟨t151, A150, H⟩ := H
      replace H : (if t151 = true then (crucibleref14_ends.j0 k 2 a0_0 a0_1 a0_2 a0_3 l0_4 l1_0 a1_1 a1_2 l1_3) else (some false)) = some r := H
      have A15 := Aside0.mk A150
      clear A150
      by_cases c16 : t151 = true
      · subst c16
        have H1 : (crucibleref14_ends.j0 k 2 a0_0 a0_1 a0_2 a0_3 l0_4 l1_0 a1_1 a1_2 l1_3) = some r := by rw [if_pos rfl] at H; exact H
        clear H
        have H := H1
        clear H1
        have H' := Aside0.mk H
        clear H
        have hnb17 := NB149_150.out
        have hnc17 := NB150_149.out
        have hcz18_0 : w5.cell? ⟨gb149, 0, none⟩ = some (.string a0_0) := (Z5 BK149.out 0).trans rfl
        have hcz18_1 : w5.cell? ⟨gb149, 1, none⟩ = some (.int .i64 a0_1) := (Z5 BK149.out 1).trans rfl
        have hcz18_2 : w5.cell? ⟨gb149, 2, none⟩ = some (.int .i64 a0_2) := (Z5 BK149.out 2).trans rfl
        have hcz18_3 : w5.cell? ⟨gb149, 3, none⟩ = some (.int .i64 a0_3) := (Z5 BK149.out 3).trans rfl
        have hcz18_4 : w5.cell? ⟨gb149, 4, none⟩ = some (.slice A0_4 l0_4.length c0_4) := (Z5 BK149.out 4).trans rfl
        have hfz18_0 := Z2 BK149.out 0
        have hfz18_1 := Z2 BK149.out 1
        have hfz18_2 := Z2 BK149.out 2
        have hfz18_3 := Z2 BK149.out 3
        have hfz18_4 := Z2 BK149.out 4
        have hcz19_0 : w5.cell? ⟨gb150, 0, none⟩ = some (.slice A1_0 l1_0.length c1_0) := (Z5 BK150.out 0).trans rfl
        have hcz19_1 : w5.cell? ⟨gb150, 1, none⟩ = some (.int .i64 a1_1) := (Z5 BK150.out 1).trans rfl
        have hcz19_2 : w5.cell? ⟨gb150, 2, none⟩ = some (.int .i64 a1_2) := (Z5 BK150.out 2).trans rfl
        have hcz19_3 : w5.cell? ⟨gb150, 3, none⟩ = some (.slice A1_3 l1_3.length c1_3) := (Z5 BK150.out 3).trans rfl
        have hfz19_0 := Z2 BK150.out 0
        have hfz19_1 := Z2 BK150.out 1
        have hfz19_2 := Z2 BK150.out 2
        have hfz19_3 := Z2 BK150.out 3
        go_wp2_with (first | (go_at_call 40; (with_reducible refine (crucibleref14_register.calls a0_0 a0_1 a0_2 a0_3 _ _ l0_4 a1_2 true _ ?side1 ?side2 A15.out).mono ?_); (case side1 => repeat (first | exact (Kd.C_below HR0_4.out HB.out) | (with_reducible refine Kd.C_alloc ?_ _) | (with_reducible refine Kd.C_drewN ?_ _) | (with_reducible refine Kd.C_drew ?_))); (case side2 => exact HC0_4.out); rintro e w20 ⟨rfl, hb⟩; have n0_ := Aside0.mk (Z40 (g := gb149) (o := .cells #[.string a0_0, .int .i64 a0_1, .int .i64 a0_2, .int .i64 a0_3, .slice A0_4 l0_4.length c0_4] 24 (0, 0)) (by (with_reducible repeat (first | refine Z0 ?_ _ | refine Z3 ?_ | refine Z1 ?_ _)); exact BK149.out) hb); have n1_ := Aside0.mk (Z40 (g := gb150) (o := .cells #[.slice A1_0 l1_0.length c1_0, .int .i64 a1_1, .int .i64 a1_2, .slice A1_3 l1_3.length c1_3] 45 (0, 0)) (by (with_reducible repeat (first | refine Z0 ?_ _ | refine Z3 ?_ | refine Z1 ?_ _)); exact BK150.out) hb); have n2_ := Aside0.mk (Z25 (by repeat (first | (with_reducible first | exact HB.out | apply Z7 | apply Z4 | apply Z6 | refine Z8 ?_ GE149.out | refine Z8 ?_ GE150.out) | exact HB.out)) hb); clear BK149; clear BK150; clear HB; have BK149 := n0_; have BK150 := n1_; have HB := n2_; clear n0_ n1_ n2_; (try clear hb); (try clear hb2); (try clear hk); (try clear hi)))
        repeat (go_quiet (first | (go_at_call 40; (with_reducible refine (crucibleref14_register.calls a0_0 a0_1 a0_2 a0_3 _ _ l0_4 a1_2 true _ ?side1 ?side2 A15.out).mono ?_); (case side1 => repeat (first | exact (Kd.C_below HR0_4.out HB.out) | (with_reducible refine Kd.C_alloc ?_ _) | (with_reducible refine Kd.C_drewN ?_ _) | (with_reducible refine Kd.C_drew ?_))); (case side2 => exact HC0_4.out); rintro e w20 ⟨rfl, hb⟩; have n0_ := Aside0.mk (Z40 (g := gb149) (o := .cells #[.string a0_0, .int .i64 a0_1, .int .i64 a0_2, .int .i64 a0_3, .slice A0_4 l0_4.length c0_4] 24 (0, 0)) (by (with_reducible repeat (first | refine Z0 ?_ _ | refine Z3 ?_ | refine Z1 ?_ _)); exact BK149.out) hb); have n1_ := Aside0.mk (Z40 (g := gb150) (o := .cells #[.slice A1_0 l1_0.length c1_0, .int .i64 a1_1, .int .i64 a1_2, .slice A1_3 l1_3.length c1_3] 45 (0, 0)) (by (with_reducible repeat (first | refine Z0 ?_ _ | refine Z3 ?_ | refine Z1 ?_ _)); exact BK150.out) hb); have n2_ := Aside0.mk (Z25 (by repeat (first | (with_reducible first | exact HB.out | apply Z7 | apply Z4 | apply Z6 | refine Z8 ?_ GE149.out | refine Z8 ?_ GE150.out) | exact HB.out)) hb); clear BK149; clear BK150; clear HB; have BK149 := n0_; have BK150 := n1_; have HB := n2_; clear n0_ n1_ n2_; (try clear hb); (try clear hb2); (try clear hk); (try clear hi))); try go_wp2_with (first | (go_at_call 40; (with_reducible refine (crucibleref14_register.calls a0_0 a0_1 a0_2 a0_3 _ _ l0_4 a1_2 true _ ?side1 ?side2 A15.out).mono ?_); (case side1 => repeat (first | exact (Kd.C_below HR0_4.out HB.out) | (with_reducible refine Kd.C_alloc ?_ _) | (with_reducible refine Kd.C_drewN ?_ _) | (with_reducible refine Kd.C_drew ?_))); (case side2 => exact HC0_4.out); rintro e w20 ⟨rfl, hb⟩; have n0_ := Aside0.mk (Z40 (g := gb149) (o := .cells #[.string a0_0, .int .i64 a0_1, .int .i64 a0_2, .int .i64 a0_3, .slice A0_4 l0_4.length c0_4] 24 (0, 0)) (by (with_reducible repeat (first | refine Z0 ?_ _ | refine Z3 ?_ | refine Z1 ?_ _)); exact BK149.out) hb); have n1_ := Aside0.mk (Z40 (g := gb150) (o := .cells #[.slice A1_0 l1_0.length c1_0, .int .i64 a1_1, .int .i64 a1_2, .slice A1_3 l1_3.length c1_3] 45 (0, 0)) (by (with_reducible repeat (first | refine Z0 ?_ _ | refine Z3 ?_ | refine Z1 ?_ _)); exact BK150.out) hb); have n2_ := Aside0.mk (Z25 (by repeat (first | (with_reducible first | exact HB.out | apply Z7 | apply Z4 | apply Z6 | refine Z8 ?_ GE149.out | refine Z8 ?_ GE150.out) | exact HB.out)) hb); clear BK149; clear BK150; clear HB; have BK149 := n0_; have BK150 := n1_; have HB := n2_; clear n0_ n1_ n2_; (try clear hb); (try clear hb2); (try clear hk); (try clear hi))))
        go_meet
        case rel => exact ⟨_, (2), (by first | rfl | (simp; done) | (simp [*]; done)), H', ⟨by first | omega | exact Nat.le_refl _⟩, ⟨by (with_reducible repeat (first | refine Z0 ?_ _ | refine Z3 ?_ | refine Z1 ?_ _)); exact BK149.out⟩, ⟨by (with_reducible repeat (first | refine Z0 ?_ _ | refine Z3 ?_ | refine Z1 ?_ _)); exact BK150.out⟩, ⟨by repeat (first | (with_reducible first | exact HB.out | apply Z7 | apply Z4 | apply Z6 | refine Z8 ?_ GE149.out | refine Z8 ?_ GE150.out) | exact HB.out)⟩⟩
      · replace c16 := Bool.eq_false_iff.mpr c16
        subst c16
        have H1 : (some false) = some r := by rw [if_neg (show ¬ (false = true) by decide)] at H; exact H
        clear H
        have H := H1
        clear H1
        obtain rfl := Option.some.inj H
        have hnb21 := NB149_150.out
        have hnc21 := NB150_149.out
        have hcz22_0 : w5.cell? ⟨gb149, 0, none⟩ = some (.string a0_0) := (Z5 BK149.out 0).trans rfl
        have hcz22_1 : w5.cell? ⟨gb149, 1, none⟩ = some (.int .i64 a0_1) := (Z5 BK149.out 1).trans rfl
        have hcz22_2 : w5.cell? ⟨gb149, 2, none⟩ = some (.int .i64 a0_2) := (Z5 BK149.out 2).trans rfl
        have hcz22_3 : w5.cell? ⟨gb149, 3, none⟩ = some (.int .i64 a0_3) := (Z5 BK149.out 3).trans rfl
        have hcz22_4 : w5.cell? ⟨gb149, 4, none⟩ = some (.slice A0_4 l0_4.length c0_4) := (Z5 BK149.out 4).trans rfl
        have hfz22_0 := Z2 BK149.out 0
        have hfz22_1 := Z2 BK149.out 1
        have hfz22_2 := Z2 BK149.out 2
        have hfz22_3 := Z2 BK149.out 3
        have hfz22_4 := Z2 BK149.out 4
        have hcz23_0 : w5.cell? ⟨gb150, 0, none⟩ = some (.slice A1_0 l1_0.length c1_0) := (Z5 BK150.out 0).trans rfl
        have hcz23_1 : w5.cell? ⟨gb150, 1, none⟩ = some (.int .i64 a1_1) := (Z5 BK150.out 1).trans rfl
        have hcz23_2 : w5.cell? ⟨gb150, 2, none⟩ = some (.int .i64 a1_2) := (Z5 BK150.out 2).trans rfl
        have hcz23_3 : w5.cell? ⟨gb150, 3, none⟩ = some (.slice A1_3 l1_3.length c1_3) := (Z5 BK150.out 3).trans rfl
        have hfz23_0 := Z2 BK150.out 0
        have hfz23_1 := Z2 BK150.out 1
        have hfz23_2 := Z2 BK150.out 2
        have hfz23_3 := Z2 BK150.out 3
        go_wp2_with (first | (go_at_call 40; (with_reducible refine (crucibleref14_register.calls a0_0 a0_1 a0_2 a0_3 _ _ l0_4 a1_2 false _ ?side1 ?side2 A15.out).mono ?_); (case side1 => repeat (first | exact (Kd.C_below HR0_4.out HB.out) | (with_reducible refine Kd.C_alloc ?_ _) | (with_reducible refine Kd.C_drewN ?_ _) | (with_reducible refine Kd.C_drew ?_))); (case side2 => exact HC0_4.out); rintro e w24 ⟨rfl, hb⟩; have n0_ := Aside0.mk (Z40 (g := gb149) (o := .cells #[.string a0_0, .int .i64 a0_1, .int .i64 a0_2, .int .i64 a0_3, .slice A0_4 l0_4.length c0_4] 24 (0, 0)) (by (with_reducible repeat (first | refine Z0 ?_ _ | refine Z3 ?_ | refine Z1 ?_ _)); exact BK149.out) hb); have n1_ := Aside0.mk (Z40 (g := gb150) (o := .cells #[.slice A1_0 l1_0.length c1_0, .int .i64 a1_1, .int .i64 a1_2, .slice A1_3 l1_3.length c1_3] 45 (0, 0)) (by (with_reducible repeat (first | refine Z0 ?_ _ | refine Z3 ?_ | refine Z1 ?_ _)); exact BK150.out) hb); have n2_ := Aside0.mk (Z25 (by repeat (first | (with_reducible first | exact HB.out | apply Z7 | apply Z4 | apply Z6 | refine Z8 ?_ GE149.out | refine Z8 ?_ GE150.out) | exact HB.out)) hb); clear BK149; clear BK150; clear HB; have BK149 := n0_; have BK150 := n1_; have HB := n2_; clear n0_ n1_ n2_; (try clear hb); (try clear hb2); (try clear hk); (try clear hi)))
        repeat (go_quiet (first | (go_at_call 40; (with_reducible refine (crucibleref14_register.calls a0_0 a0_1 a0_2 a0_3 _ _ l0_4 a1_2 false _ ?side1 ?side2 A15.out).mono ?_); (case side1 => repeat (first | exact (Kd.C_below HR0_4.out HB.out) | (with_reducible refine Kd.C_alloc ?_ _) | (with_reducible refine Kd.C_drewN ?_ _) | (with_reducible refine Kd.C_drew ?_))); (case side2 => exact HC0_4.out); rintro e w24 ⟨rfl, hb⟩; have n0_ := Aside0.mk (Z40 (g := gb149) (o := .cells #[.string a0_0, .int .i64 a0_1, .int .i64 a0_2, .int .i64 a0_3, .slice A0_4 l0_4.length c0_4] 24 (0, 0)) (by (with_reducible repeat (first | refine Z0 ?_ _ | refine Z3 ?_ | refine Z1 ?_ _)); exact BK149.out) hb); have n1_ := Aside0.mk (Z40 (g := gb150) (o := .cells #[.slice A1_0 l1_0.length c1_0, .int .i64 a1_1, .int .i64 a1_2, .slice A1_3 l1_3.length c1_3] 45 (0, 0)) (by (with_reducible repeat (first | refine Z0 ?_ _ | refine Z3 ?_ | refine Z1 ?_ _)); exact BK150.out) hb); have n2_ := Aside0.mk (Z25 (by repeat (first | (with_reducible first | exact HB.out | apply Z7 | apply Z4 | apply Z6 | refine Z8 ?_ GE149.out | refine Z8 ?_ GE150.out) | exact HB.out)) hb); clear BK149; clear BK150; clear HB; have BK149 := n0_; have BK150 := n1_; have HB := n2_; clear n0_ n1_ n2_; (try clear hb); (try clear hb2); (try clear hk); (try clear hi))); try go_wp2_with (first | (go_at_call 40; (with_reducible refine (crucibleref14_register.calls a0_0 a0_1 a0_2 a0_3 _ _ l0_4 a1_2 false _ ?side1 ?side2 A15.out).mono ?_); (case side1 => repeat (first | exact (Kd.C_below HR0_4.out HB.out) | (with_reducible refine Kd.C_alloc ?_ _) | (with_reducible refine Kd.C_drewN ?_ _) | (with_reducible refine Kd.C_drew ?_))); (case side2 => exact HC0_4.out); rintro e w24 ⟨rfl, hb⟩; have n0_ := Aside0.mk (Z40 (g := gb149) (o := .cells #[.string a0_0, .int .i64 a0_1, .int .i64 a0_2, .int .i64 a0_3, .slice A0_4 l0_4.length c0_4] 24 (0, 0)) (by (with_reducible repeat (first | refine Z0 ?_ _ | refine Z3 ?_ | refine Z1 ?_ _)); exact BK149.out) hb); have n1_ := Aside0.mk (Z40 (g := gb150) (o := .cells #[.slice A1_0 l1_0.length c1_0, .int .i64 a1_1, .int .i64 a1_2, .slice A1_3 l1_3.length c1_3] 45 (0, 0)) (by (with_reducible repeat (first | refine Z0 ?_ _ | refine Z3 ?_ | refine Z1 ?_ _)); exact BK150.out) hb); have n2_ := Aside0.mk (Z25 (by repeat (first | (with_reducible first | exact HB.out | apply Z7 | apply Z4 | apply Z6 | refine Z8 ?_ GE149.out | refine Z8 ?_ GE150.out) | exact HB.out)) hb); clear BK149; clear BK150; clear HB; have BK149 := n0_; have BK150 := n1_; have HB := n2_; clear n0_ n1_ n2_; (try clear hb); (try clear hb2); (try clear hk); (try clear hi))))
        go_ret
        exact ⟨by first | rfl | (simp [Z16, Z15] <;> rfl) | (simp [*, Z16, Z15] <;> rfl), by repeat (first | (with_reducible first | exact HB.out | apply Z7 | apply Z4 | apply Z6 | refine Z8 ?_ GE149.out | refine Z8 ?_ GE150.out) | exact HB.out)⟩
    · rw [if_neg c14] at H
      have c14b0 : (a1_1 == 2) = false := beq_eq_false_iff_ne.mpr c14
      have c14b1 : (a1_1 != 2) = true := bne_iff_ne.mpr c14
      by_cases c25 : a1_1 = 3
      · rw [if_pos c25] at H
        have c25b0 : (a1_1 == 3) = true := beq_iff_eq.mpr c25
        have c25b1 : (a1_1 != 3) = false := bne_eq_false_iff_eq.mpr c25
        clear c25
        by_cases c26 : a1_2 = (-1)
        · rw [if_pos c26] at H
          have c26b0 : (a1_2 == (-1)) = true := beq_iff_eq.mpr c26
          have c26b1 : (a1_2 != (-1)) = false := bne_eq_false_iff_eq.mpr c26
          clear c26
          have H' := Aside0.mk H
          clear H
          have hnb27 := NB150_149.out
          have hnc27 := NB149_150.out
          have hcz28_0 : w5.cell? ⟨gb150, 0, none⟩ = some (.slice A1_0 l1_0.length c1_0) := (Z5 BK150.out 0).trans rfl
          have hcz28_1 : w5.cell? ⟨gb150, 1, none⟩ = some (.int .i64 a1_1) := (Z5 BK150.out 1).trans rfl
          have hcz28_2 : w5.cell? ⟨gb150, 2, none⟩ = some (.int .i64 a1_2) := (Z5 BK150.out 2).trans rfl
          have hcz28_3 : w5.cell? ⟨gb150, 3, none⟩ = some (.slice A1_3 l1_3.length c1_3) := (Z5 BK150.out 3).trans rfl
          have hfz28_0 := Z2 BK150.out 0
          have hfz28_1 := Z2 BK150.out 1
          have hfz28_2 := Z2 BK150.out 2
          have hfz28_3 := Z2 BK150.out 3
          go_wp2
          repeat (go_quiet (fail); try go_wp2)
          go_meet
          case rel => exact ⟨_, (0), (by first | rfl | (simp; done) | (simp [*]; done)), H', ⟨by first | omega | exact Nat.le_refl _⟩, ⟨by (with_reducible repeat (first | refine Z0 ?_ _ | refine Z3 ?_ | refine Z1 ?_ _)); exact BK149.out⟩, ⟨by (with_reducible repeat (first | refine Z0 ?_ _ | refine Z3 ?_ | refine Z1 ?_ _)); exact BK150.out⟩, ⟨by repeat (first | (with_reducible first | exact HB.out | apply Z7 | apply Z4 | apply Z6 | refine Z8 ?_ GE149.out | refine Z8 ?_ GE150.out) | exact HB.out)⟩⟩
        · rw [if_neg c26] at H
          have c26b0 : (a1_2 == (-1)) = false := beq_eq_false_iff_ne.mpr c26
          have c26b1 : (a1_2 != (-1)) = true := bne_iff_ne.mpr c26
          replace H := Option.bind_eq_some_iff.mp H
          obtain ⟨t152, A290, H⟩ := H
          replace H : (if t152 = true then (crucibleref14_ends.j0 k 0 a0_0 a0_1 a0_2 a0_3 l0_4 l1_0 a1_1 a1_2 l1_3) else (some false)) = some r := H
          have A29 := Aside0.mk A290
          clear A290
          by_cases c30 : t152 = true
          · subst c30
            have H1 : (crucibleref14_ends.j0 k 0 a0_0 a0_1 a0_2 a0_3 l0_4 l1_0 a1_1 a1_2 l1_3) = some r := by rw [if_pos rfl] at H; exact H
            clear H
            have H := H1
            clear H1
            have H' := Aside0.mk H
            clear H
            have hnb31 := NB150_149.out
            have hnc31 := NB149_150.out
            have hcz32_0 : w5.cell? ⟨gb150, 0, none⟩ = some (.slice A1_0 l1_0.length c1_0) := (Z5 BK150.out 0).trans rfl
            have hcz32_1 : w5.cell? ⟨gb150, 1, none⟩ = some (.int .i64 a1_1) := (Z5 BK150.out 1).trans rfl
            have hcz32_2 : w5.cell? ⟨gb150, 2, none⟩ = some (.int .i64 a1_2) := (Z5 BK150.out 2).trans rfl
            have hcz32_3 : w5.cell? ⟨gb150, 3, none⟩ = some (.slice A1_3 l1_3.length c1_3) := (Z5 BK150.out 3).trans rfl
            have hfz32_0 := Z2 BK150.out 0
            have hfz32_1 := Z2 BK150.out 1
            have hfz32_2 := Z2 BK150.out 2
            have hfz32_3 := Z2 BK150.out 3
            have hcz33_0 : w5.cell? ⟨gb149, 0, none⟩ = some (.string a0_0) := (Z5 BK149.out 0).trans rfl
            have hcz33_1 : w5.cell? ⟨gb149, 1, none⟩ = some (.int .i64 a0_1) := (Z5 BK149.out 1).trans rfl
            have hcz33_2 : w5.cell? ⟨gb149, 2, none⟩ = some (.int .i64 a0_2) := (Z5 BK149.out 2).trans rfl
            have hcz33_3 : w5.cell? ⟨gb149, 3, none⟩ = some (.int .i64 a0_3) := (Z5 BK149.out 3).trans rfl
            have hcz33_4 : w5.cell? ⟨gb149, 4, none⟩ = some (.slice A0_4 l0_4.length c0_4) := (Z5 BK149.out 4).trans rfl
            have hfz33_0 := Z2 BK149.out 0
            have hfz33_1 := Z2 BK149.out 1
            have hfz33_2 := Z2 BK149.out 2
            have hfz33_3 := Z2 BK149.out 3
            have hfz33_4 := Z2 BK149.out 4
            go_wp2_with (first | (go_at_call 40; (with_reducible refine (crucibleref14_register.calls a0_0 a0_1 a0_2 a0_3 _ _ l0_4 a1_2 true _ ?side1 ?side2 A29.out).mono ?_); (case side1 => repeat (first | exact (Kd.C_below HR0_4.out HB.out) | (with_reducible refine Kd.C_alloc ?_ _) | (with_reducible refine Kd.C_drewN ?_ _) | (with_reducible refine Kd.C_drew ?_))); (case side2 => exact HC0_4.out); rintro e w34 ⟨rfl, hb⟩; have n0_ := Aside0.mk (Z40 (g := gb149) (o := .cells #[.string a0_0, .int .i64 a0_1, .int .i64 a0_2, .int .i64 a0_3, .slice A0_4 l0_4.length c0_4] 24 (0, 0)) (by (with_reducible repeat (first | refine Z0 ?_ _ | refine Z3 ?_ | refine Z1 ?_ _)); exact BK149.out) hb); have n1_ := Aside0.mk (Z40 (g := gb150) (o := .cells #[.slice A1_0 l1_0.length c1_0, .int .i64 a1_1, .int .i64 a1_2, .slice A1_3 l1_3.length c1_3] 45 (0, 0)) (by (with_reducible repeat (first | refine Z0 ?_ _ | refine Z3 ?_ | refine Z1 ?_ _)); exact BK150.out) hb); have n2_ := Aside0.mk (Z25 (by repeat (first | (with_reducible first | exact HB.out | apply Z7 | apply Z4 | apply Z6 | refine Z8 ?_ GE149.out | refine Z8 ?_ GE150.out) | exact HB.out)) hb); clear BK149; clear BK150; clear HB; have BK149 := n0_; have BK150 := n1_; have HB := n2_; clear n0_ n1_ n2_; (try clear hb); (try clear hb2); (try clear hk); (try clear hi)))
            repeat (go_quiet (first | (go_at_call 40; (with_reducible refine (crucibleref14_register.calls a0_0 a0_1 a0_2 a0_3 _ _ l0_4 a1_2 true _ ?side1 ?side2 A29.out).mono ?_); (case side1 => repeat (first | exact (Kd.C_below HR0_4.out HB.out) | (with_reducible refine Kd.C_alloc ?_ _) | (with_reducible refine Kd.C_drewN ?_ _) | (with_reducible refine Kd.C_drew ?_))); (case side2 => exact HC0_4.out); rintro e w34 ⟨rfl, hb⟩; have n0_ := Aside0.mk (Z40 (g := gb149) (o := .cells #[.string a0_0, .int .i64 a0_1, .int .i64 a0_2, .int .i64 a0_3, .slice A0_4 l0_4.length c0_4] 24 (0, 0)) (by (with_reducible repeat (first | refine Z0 ?_ _ | refine Z3 ?_ | refine Z1 ?_ _)); exact BK149.out) hb); have n1_ := Aside0.mk (Z40 (g := gb150) (o := .cells #[.slice A1_0 l1_0.length c1_0, .int .i64 a1_1, .int .i64 a1_2, .slice A1_3 l1_3.length c1_3] 45 (0, 0)) (by (with_reducible repeat (first | refine Z0 ?_ _ | refine Z3 ?_ | refine Z1 ?_ _)); exact BK150.out) hb); have n2_ := Aside0.mk (Z25 (by repeat (first | (with_reducible first | exact HB.out | apply Z7 | apply Z4 | apply Z6 | refine Z8 ?_ GE149.out | refine Z8 ?_ GE150.out) | exact HB.out)) hb); clear BK149; clear BK150; clear HB; have BK149 := n0_; have BK150 := n1_; have HB := n2_; clear n0_ n1_ n2_; (try clear hb); (try clear hb2); (try clear hk); (try clear hi))); try go_wp2_with (first | (go_at_call 40; (with_reducible refine (crucibleref14_register.calls a0_0 a0_1 a0_2 a0_3 _ _ l0_4 a1_2 true _ ?side1 ?side2 A29.out).mono ?_); (case side1 => repeat (first | exact (Kd.C_below HR0_4.out HB.out) | (with_reducible refine Kd.C_alloc ?_ _) | (with_reducible refine Kd.C_drewN ?_ _) | (with_reducible refine Kd.C_drew ?_))); (case side2 => exact HC0_4.out); rintro e w34 ⟨rfl, hb⟩; have n0_ := Aside0.mk (Z40 (g := gb149) (o := .cells #[.string a0_0, .int .i64 a0_1, .int .i64 a0_2, .int .i64 a0_3, .slice A0_4 l0_4.length c0_4] 24 (0, 0)) (by (with_reducible repeat (first | refine Z0 ?_ _ | refine Z3 ?_ | refine Z1 ?_ _)); exact BK149.out) hb); have n1_ := Aside0.mk (Z40 (g := gb150) (o := .cells #[.slice A1_0 l1_0.length c1_0, .int .i64 a1_1, .int .i64 a1_2, .slice A1_3 l1_3.length c1_3] 45 (0, 0)) (by (with_reducible repeat (first | refine Z0 ?_ _ | refine Z3 ?_ | refine Z1 ?_ _)); exact BK150.out) hb); have n2_ := Aside0.mk (Z25 (by repeat (first | (with_reducible first | exact HB.out | apply Z7 | apply Z4 | apply Z6 | refine Z8 ?_ GE149.out | refine Z8 ?_ GE150.out) | exact HB.out)) hb); clear BK149; clear BK150; clear HB; have BK149 := n0_; have BK150 := n1_; have HB := n2_; clear n0_ n1_ n2_; (try clear hb); (try clear hb2); (try clear hk); (try clear hi))))
            go_meet
            case rel => exact ⟨_, (0), (by first | rfl | (simp; done) | (simp [*]; done)), H', ⟨by first | omega | exact Nat.le_refl _⟩, ⟨by (with_reducible repeat (first | refine Z0 ?_ _ | refine Z3 ?_ | refine Z1 ?_ _)); exact BK149.out⟩, ⟨by (with_reducible repeat (first | refine Z0 ?_ _ | refine Z3 ?_ | refine Z1 ?_ _)); exact BK150.out⟩, ⟨by repeat (first | (with_reducible first | exact HB.out | apply Z7 | apply Z4 | apply Z6 | refine Z8 ?_ GE149.out | refine Z8 ?_ GE150.out) | exact HB.out)⟩⟩
          · replace c30 := Bool.eq_false_iff.mpr c30
            subst c30
            have H1 : (some false) = some r := by rw [if_neg (show ¬ (false = true) by decide)] at H; exact H
            clear H
            have H := H1
            clear H1
            obtain rfl := Option.some.inj H
            have hnb35 := NB150_149.out
            have hnc35 := NB149_150.out
            have hcz36_0 : w5.cell? ⟨gb150, 0, none⟩ = some (.slice A1_0 l1_0.length c1_0) := (Z5 BK150.out 0).trans rfl
            have hcz36_1 : w5.cell? ⟨gb150, 1, none⟩ = some (.int .i64 a1_1) := (Z5 BK150.out 1).trans rfl
            have hcz36_2 : w5.cell? ⟨gb150, 2, none⟩ = some (.int .i64 a1_2) := (Z5 BK150.out 2).trans rfl
            have hcz36_3 : w5.cell? ⟨gb150, 3, none⟩ = some (.slice A1_3 l1_3.length c1_3) := (Z5 BK150.out 3).trans rfl
            have hfz36_0 := Z2 BK150.out 0
            have hfz36_1 := Z2 BK150.out 1
            have hfz36_2 := Z2 BK150.out 2
            have hfz36_3 := Z2 BK150.out 3
            have hcz37_0 : w5.cell? ⟨gb149, 0, none⟩ = some (.string a0_0) := (Z5 BK149.out 0).trans rfl
            have hcz37_1 : w5.cell? ⟨gb149, 1, none⟩ = some (.int .i64 a0_1) := (Z5 BK149.out 1).trans rfl
            have hcz37_2 : w5.cell? ⟨gb149, 2, none⟩ = some (.int .i64 a0_2) := (Z5 BK149.out 2).trans rfl
            have hcz37_3 : w5.cell? ⟨gb149, 3, none⟩ = some (.int .i64 a0_3) := (Z5 BK149.out 3).trans rfl
            have hcz37_4 : w5.cell? ⟨gb149, 4, none⟩ = some (.slice A0_4 l0_4.length c0_4) := (Z5 BK149.out 4).trans rfl
            have hfz37_0 := Z2 BK149.out 0
            have hfz37_1 := Z2 BK149.out 1
            have hfz37_2 := Z2 BK149.out 2
            have hfz37_3 := Z2 BK149.out 3
            have hfz37_4 := Z2 BK149.out 4
            go_wp2_with (first | (go_at_call 40; (with_reducible refine (crucibleref14_register.calls a0_0 a0_1 a0_2 a0_3 _ _ l0_4 a1_2 false _ ?side1 ?side2 A29.out).mono ?_); (case side1 => repeat (first | exact (Kd.C_below HR0_4.out HB.out) | (with_reducible refine Kd.C_alloc ?_ _) | (with_reducible refine Kd.C_drewN ?_ _) | (with_reducible refine Kd.C_drew ?_))); (case side2 => exact HC0_4.out); rintro e w38 ⟨rfl, hb⟩; have n0_ := Aside0.mk (Z40 (g := gb149) (o := .cells #[.string a0_0, .int .i64 a0_1, .int .i64 a0_2, .int .i64 a0_3, .slice A0_4 l0_4.length c0_4] 24 (0, 0)) (by (with_reducible repeat (first | refine Z0 ?_ _ | refine Z3 ?_ | refine Z1 ?_ _)); exact BK149.out) hb); have n1_ := Aside0.mk (Z40 (g := gb150) (o := .cells #[.slice A1_0 l1_0.length c1_0, .int .i64 a1_1, .int .i64 a1_2, .slice A1_3 l1_3.length c1_3] 45 (0, 0)) (by (with_reducible repeat (first | refine Z0 ?_ _ | refine Z3 ?_ | refine Z1 ?_ _)); exact BK150.out) hb); have n2_ := Aside0.mk (Z25 (by repeat (first | (with_reducible first | exact HB.out | apply Z7 | apply Z4 | apply Z6 | refine Z8 ?_ GE149.out | refine Z8 ?_ GE150.out) | exact HB.out)) hb); clear BK149; clear BK150; clear HB; have BK149 := n0_; have BK150 := n1_; have HB := n2_; clear n0_ n1_ n2_; (try clear hb); (try clear hb2); (try clear hk); (try clear hi)))
            repeat (go_quiet (first | (go_at_call 40; (with_reducible refine (crucibleref14_register.calls a0_0 a0_1 a0_2 a0_3 _ _ l0_4 a1_2 false _ ?side1 ?side2 A29.out).mono ?_); (case side1 => repeat (first | exact (Kd.C_below HR0_4.out HB.out) | (with_reducible refine Kd.C_alloc ?_ _) | (with_reducible refine Kd.C_drewN ?_ _) | (with_reducible refine Kd.C_drew ?_))); (case side2 => exact HC0_4.out); rintro e w38 ⟨rfl, hb⟩; have n0_ := Aside0.mk (Z40 (g := gb149) (o := .cells #[.string a0_0, .int .i64 a0_1, .int .i64 a0_2, .int .i64 a0_3, .slice A0_4 l0_4.length c0_4] 24 (0, 0)) (by (with_reducible repeat (first | refine Z0 ?_ _ | refine Z3 ?_ | refine Z1 ?_ _)); exact BK149.out) hb); have n1_ := Aside0.mk (Z40 (g := gb150) (o := .cells #[.slice A1_0 l1_0.length c1_0, .int .i64 a1_1, .int .i64 a1_2, .slice A1_3 l1_3.length c1_3] 45 (0, 0)) (by (with_reducible repeat (first | refine Z0 ?_ _ | refine Z3 ?_ | refine Z1 ?_ _)); exact BK150.out) hb); have n2_ := Aside0.mk (Z25 (by repeat (first | (with_reducible first | exact HB.out | apply Z7 | apply Z4 | apply Z6 | refine Z8 ?_ GE149.out | refine Z8 ?_ GE150.out) | exact HB.out)) hb); clear BK149; clear BK150; clear HB; have BK149 := n0_; have BK150 := n1_; have HB := n2_; clear n0_ n1_ n2_; (try clear hb); (try clear hb2); (try clear hk); (try clear hi))); try go_wp2_with (first | (go_at_call 40; (with_reducible refine (crucibleref14_register.calls a0_0 a0_1 a0_2 a0_3 _ _ l0_4 a1_2 false _ ?side1 ?side2 A29.out).mono ?_); (case side1 => repeat (first | exact (Kd.C_below HR0_4.out HB.out) | (with_reducible refine Kd.C_alloc ?_ _) | (with_reducible refine Kd.C_drewN ?_ _) | (with_reducible refine Kd.C_drew ?_))); (case side2 => exact HC0_4.out); rintro e w38 ⟨rfl, hb⟩; have n0_ := Aside0.mk (Z40 (g := gb149) (o := .cells #[.string a0_0, .int .i64 a0_1, .int .i64 a0_2, .int .i64 a0_3, .slice A0_4 l0_4.length c0_4] 24 (0, 0)) (by (with_reducible repeat (first | refine Z0 ?_ _ | refine Z3 ?_ | refine Z1 ?_ _)); exact BK149.out) hb); have n1_ := Aside0.mk (Z40 (g := gb150) (o := .cells #[.slice A1_0 l1_0.length c1_0, .int .i64 a1_1, .int .i64 a1_2, .slice A1_3 l1_3.length c1_3] 45 (0, 0)) (by (with_reducible repeat (first | refine Z0 ?_ _ | refine Z3 ?_ | refine Z1 ?_ _)); exact BK150.out) hb); have n2_ := Aside0.mk (Z25 (by repeat (first | (with_reducible first | exact HB.out | apply Z7 | apply Z4 | apply Z6 | refine Z8 ?_ GE149.out | refine Z8 ?_ GE150.out) | exact HB.out)) hb); clear BK149; clear BK150; clear HB; have BK149 := n0_; have BK150 := n1_; have HB := n2_; clear n0_ n1_ n2_; (try clear hb); (try clear hb2); (try clear hk); (try clear hi))))
            go_ret
            exact ⟨by first | rfl | (simp [Z16, Z15] <;> rfl) | (simp [*, Z16, Z15] <;> rfl), by repeat (first | (with_reducible first | exact HB.out | apply Z7 | apply Z4 | apply Z6 | refine Z8 ?_ GE149.out | refine Z8 ?_ GE150.out) | exact HB.out)⟩
      · rw [if_neg c25] at H
        have c25b0 : (a1_1 == 3) = false := beq_eq_false_iff_ne.mpr c25
        have c25b1 : (a1_1 != 3) = true := bne_iff_ne.mpr c25
        obtain rfl := Option.some.inj H
        go_wp2
        repeat (go_quiet (fail); try go_wp2)
        go_ret
        exact ⟨by first | rfl | (simp [Z16, Z15] <;> rfl) | (simp [*, Z16, Z15] <;> rfl), by repeat (first | (with_reducible first | exact HB.out | apply Z7 | apply Z4 | apply Z6 | refine Z8 ?_ GE149.out | refine Z8 ?_ GE150.out) | exact HB.out)⟩
 case rest =>
  clear HC3
  try clear hcz7_0
  try clear hcz7_1
  try clear hcz7_2
  try clear hcz7_3
  try clear hfz7_0
  try clear hfz7_1
  try clear hfz7_2
  try clear hfz7_3
  obtain ⟨kq, x5_2, rfl, HA, HJ2, BK149, BK150, HB⟩ := hcut
  cases kq with
  | zero => exact absurd HA.out (by simp [crucibleref14_ends.j0])
  | succ kj2 =>
   have H := HA.out
   clear HA
   simp only [crucibleref14_ends.j0] at H
   by_cases c39 : (l1_3.length : Int) = x5_2
   · rw [if_pos c39] at H
     have c39b0 : ((l1_3.length : Int) == x5_2) = true := beq_iff_eq.mpr c39
     have c39b1 : ((l1_3.length : Int) != x5_2) = false := bne_eq_false_iff_eq.mpr c39
     clear c39
     have H' := Aside0.mk H
     clear H
     have hnb40 := NB150_149.out
     have hnc40 := NB149_150.out
     have hcz41_0 : wc.cell? ⟨gb150, 0, none⟩ = some (.slice A1_0 l1_0.length c1_0) := (Z5 BK150.out 0).trans rfl
     have hcz41_1 : wc.cell? ⟨gb150, 1, none⟩ = some (.int .i64 a1_1) := (Z5 BK150.out 1).trans rfl
     have hcz41_2 : wc.cell? ⟨gb150, 2, none⟩ = some (.int .i64 a1_2) := (Z5 BK150.out 2).trans rfl
     have hcz41_3 : wc.cell? ⟨gb150, 3, none⟩ = some (.slice A1_3 l1_3.length c1_3) := (Z5 BK150.out 3).trans rfl
     have hfz41_0 := Z2 BK150.out 0
     have hfz41_1 := Z2 BK150.out 1
     have hfz41_2 := Z2 BK150.out 2
     have hfz41_3 := Z2 BK150.out 3
     go_wp2
     repeat (go_quiet (fail); try go_wp2)
     go_loopg [6] kj2 (fun kq v6 w' => ∃ (x6_2 : Int), v6 = .int .i64 x6_2 ∧ Aside0 (crucibleref14_ends.l0 kq x5_2 x6_2 a0_0 a0_1 a0_2 a0_3 l0_4 l1_0 a1_1 a1_2 l1_3 = some r) ∧ Aside0 (kq ≤ kj2) ∧ Aside0 (w'.heap[gb149]? = some (.cells #[.string a0_0, .int .i64 a0_1, .int .i64 a0_2, .int .i64 a0_3, (.slice A0_4 l0_4.length c0_4)] 24 (0, 0))) ∧ Aside0 (w'.heap[gb150]? = some (.cells #[(.slice A1_0 l1_0.length c1_0), .int .i64 a1_1, .int .i64 a1_2, (.slice A1_3 l1_3.length c1_3)] 45 (0, 0))) ∧ Aside0 (Below w.heap.size w w'))
     case atStart => exact ⟨(0), (by first | rfl | (simp; done) | (simp [*]; done)), H', ⟨Nat.le_refl _⟩, ⟨by (with_reducible repeat (first | refine Z0 ?_ _ | refine Z3 ?_ | refine Z1 ?_ _)); exact BK149.out⟩, ⟨by (with_reducible repeat (first | refine Z0 ?_ _ | refine Z3 ?_ | refine Z1 ?_ _)); exact BK150.out⟩, ⟨by repeat (first | (with_reducible first | exact HB.out | apply Z7 | apply Z4 | apply Z6 | refine Z8 ?_ GE149.out | refine Z8 ?_ GE150.out) | exact HB.out)⟩⟩
     case round =>
      clear H'
      try clear c39
      try clear c39b0
      try clear c39b1
      try clear hcz41_0
      try clear hcz41_1
      try clear hcz41_2
      try clear hcz41_3
      try clear hcz7_0
      try clear hcz7_1
      try clear hcz7_2
      try clear hcz7_3
      try clear hfz41_0
      try clear hfz41_1
      try clear hfz41_2
      try clear hfz41_3
      try clear hfz7_0
      try clear hfz7_1
      try clear hfz7_2
      try clear hfz7_3
      obtain ⟨x6_2, rfl, HA, HK2, BK149, BK150, HB⟩ := hrel
      cases gk with
      | zero => exact absurd HA.out (by simp [crucibleref14_ends.l0])
      | succ k2 =>
       have H := HA.out
       clear HA
       simp only [crucibleref14_ends.l0] at H
       by_cases c42 : x6_2 < x5_2
       · rw [if_pos c42] at H
         have c42b0 : decide (x6_2 < x5_2) = true := decide_eq_true c42
         clear c42
         by_cases c43 : 0 ≤ x6_2
         · rw [if_pos c43] at H
           have c43b0 : decide (0 ≤ x6_2) = true := decide_eq_true c43
           clear c43
           by_cases c44 : x6_2 < (l1_3.length : Int)
           · rw [if_pos c44] at H
             have c44b0 : decide (x6_2 < (l1_3.length : Int)) = true := decide_eq_true c44
             clear c44
             by_cases c45 : (rd l1_3 x6_2) < 0
             · rw [if_pos c45] at H
               have c45b0 : decide ((rd l1_3 x6_2) < 0) = true := decide_eq_true c45
               clear c45
               obtain rfl := Option.some.inj H
               have hnb46 := NB150_149.out
               have hnc46 := NB149_150.out
               have hcz47_0 : wr.cell? ⟨gb150, 0, none⟩ = some (.slice A1_0 l1_0.length c1_0) := (Z5 BK150.out 0).trans rfl
               have hcz47_1 : wr.cell? ⟨gb150, 1, none⟩ = some (.int .i64 a1_1) := (Z5 BK150.out 1).trans rfl
               have hcz47_2 : wr.cell? ⟨gb150, 2, none⟩ = some (.int .i64 a1_2) := (Z5 BK150.out 2).trans rfl
               have hcz47_3 : wr.cell? ⟨gb150, 3, none⟩ = some (.slice A1_3 l1_3.length c1_3) := (Z5 BK150.out 3).trans rfl
               have hfz47_0 := Z2 BK150.out 0
               have hfz47_1 := Z2 BK150.out 1
               have hfz47_2 := Z2 BK150.out 2
               have hfz47_3 := Z2 BK150.out 3
               have p153 : 0 ≤ (x6_2 : Int) := of_decide_eq_true (by first | (with_reducible assumption) | assumption)
               have q153 : x6_2 < (l1_3.length : Int) := of_decide_eq_true (by first | (with_reducible assumption) | assumption)
               obtain ⟨ad153, e153, hx153_0⟩ := Kd.at_int HR1_3.out x6_2 p153 q153
               cases e153
               replace hx153_0 := (HB.out.cell (World.block_lt_of_cell? w _ hx153_0)).trans hx153_0
               replace p153 := eq_true p153
               replace q153 := eq_true q153
               go_wp2
               repeat (go_quiet (fail); try go_wp2)
               go_ret
               exact ⟨by first | rfl | (simp [Z16, Z15] <;> rfl) | (simp [*, Z16, Z15] <;> rfl), by repeat (first | (with_reducible first | exact HB.out | apply Z7 | apply Z4 | apply Z6 | refine Z8 ?_ GE149.out | refine Z8 ?_ GE150.out) | exact HB.out)⟩
             · rw [if_neg c45] at H
               have c45b0 : decide ((rd l1_3 x6_2) < 0) = false := decide_eq_false c45
               clear c45
               by_cases c48 : (rd l1_3 x6_2) ≥ (l0_4.length : Int)
               · rw [if_pos c48] at H
                 have c48b0 : decide ((l0_4.length : Int) ≤ (rd l1_3 x6_2)) = true := decide_eq_true c48
                 clear c48
                 obtain rfl := Option.some.inj H
                 have hnb49 := NB150_149.out
                 have hnc49 := NB149_150.out
                 have hcz50_0 : wr.cell? ⟨gb150, 0, none⟩ = some (.slice A1_0 l1_0.length c1_0) := (Z5 BK150.out 0).trans rfl
                 have hcz50_1 : wr.cell? ⟨gb150, 1, none⟩ = some (.int .i64 a1_1) := (Z5 BK150.out 1).trans rfl
                 have hcz50_2 : wr.cell? ⟨gb150, 2, none⟩ = some (.int .i64 a1_2) := (Z5 BK150.out 2).trans rfl
                 have hcz50_3 : wr.cell? ⟨gb150, 3, none⟩ = some (.slice A1_3 l1_3.length c1_3) := (Z5 BK150.out 3).trans rfl
                 have hfz50_0 := Z2 BK150.out 0
                 have hfz50_1 := Z2 BK150.out 1
                 have hfz50_2 := Z2 BK150.out 2
                 have hfz50_3 := Z2 BK150.out 3
                 have p153 : 0 ≤ (x6_2 : Int) := of_decide_eq_true (by first | (with_reducible assumption) | assumption)
                 have q153 : x6_2 < (l1_3.length : Int) := of_decide_eq_true (by first | (with_reducible assumption) | assumption)
                 obtain ⟨ad153, e153, hx153_0⟩ := Kd.at_int HR1_3.out x6_2 p153 q153
                 cases e153
                 replace hx153_0 := (HB.out.cell (World.block_lt_of_cell? w _ hx153_0)).trans hx153_0
                 replace p153 := eq_true p153
                 replace q153 := eq_true q153
                 have p154 : 0 ≤ (x6_2 : Int) := of_decide_eq_true (by first | (with_reducible assumption) | assumption)
                 have q154 : x6_2 < (l1_3.length : Int) := of_decide_eq_true (by first | (with_reducible assumption) | assumption)
                 obtain ⟨ad154, e154, hx154_0⟩ := Kd.at_int HR1_3.out x6_2 p154 q154
                 obtain rfl : ad153 = ad154 := (by injection e154)
                 replace hx154_0 := (HB.out.cell (World.block_lt_of_cell? w _ hx154_0)).trans hx154_0
                 replace p154 := eq_true p154
                 replace q154 := eq_true q154
                 have hcz51_0 : wr.cell? ⟨gb149, 0, none⟩ = some (.string a0_0) := (Z5 BK149.out 0).trans rfl
                 have hcz51_1 : wr.cell? ⟨gb149, 1, none⟩ = some (.int .i64 a0_1) := (Z5 BK149.out 1).trans rfl
                 have hcz51_2 : wr.cell? ⟨gb149, 2, none⟩ = some (.int .i64 a0_2) := (Z5 BK149.out 2).trans rfl
                 have hcz51_3 : wr.cell? ⟨gb149, 3, none⟩ = some (.int .i64 a0_3) := (Z5 BK149.out 3).trans rfl
                 have hcz51_4 : wr.cell? ⟨gb149, 4, none⟩ = some (.slice A0_4 l0_4.length c0_4) := (Z5 BK149.out 4).trans rfl
                 have hfz51_0 := Z2 BK149.out 0
                 have hfz51_1 := Z2 BK149.out 1
                 have hfz51_2 := Z2 BK149.out 2
                 have hfz51_3 := Z2 BK149.out 3
                 have hfz51_4 := Z2 BK149.out 4
                 go_wp2
                 repeat (go_quiet (fail); try go_wp2)
                 go_ret
                 exact ⟨by first | rfl | (simp [Z16, Z15] <;> rfl) | (simp [*, Z16, Z15] <;> rfl), by repeat (first | (with_reducible first | exact HB.out | apply Z7 | apply Z4 | apply Z6 | refine Z8 ?_ GE149.out | refine Z8 ?_ GE150.out) | exact HB.out)⟩
               · rw [if_neg c48] at H
                 have c48b0 : decide ((l0_4.length : Int) ≤ (rd l1_3 x6_2)) = false := decide_eq_false c48
                 clear c48
                 have H' := Aside0.mk H
                 clear H
                 have hnb52 := NB150_149.out
                 have hnc52 := NB149_150.out
                 have hcz53_0 : wr.cell? ⟨gb150, 0, none⟩ = some (.slice A1_0 l1_0.length c1_0) := (Z5 BK150.out 0).trans rfl
                 have hcz53_1 : wr.cell? ⟨gb150, 1, none⟩ = some (.int .i64 a1_1) := (Z5 BK150.out 1).trans rfl
                 have hcz53_2 : wr.cell? ⟨gb150, 2, none⟩ = some (.int .i64 a1_2) := (Z5 BK150.out 2).trans rfl
                 have hcz53_3 : wr.cell? ⟨gb150, 3, none⟩ = some (.slice A1_3 l1_3.length c1_3) := (Z5 BK150.out 3).trans rfl
                 have hfz53_0 := Z2 BK150.out 0
                 have hfz53_1 := Z2 BK150.out 1
                 have hfz53_2 := Z2 BK150.out 2
                 have hfz53_3 := Z2 BK150.out 3
                 have p153 : 0 ≤ (x6_2 : Int) := of_decide_eq_true (by first | (with_reducible assumption) | assumption)
                 have q153 : x6_2 < (l1_3.length : Int) := of_decide_eq_true (by first | (with_reducible assumption) | assumption)
                 obtain ⟨ad153, e153, hx153_0⟩ := Kd.at_int HR1_3.out x6_2 p153 q153
                 cases e153
                 replace hx153_0 := (HB.out.cell (World.block_lt_of_cell? w _ hx153_0)).trans hx153_0
                 replace p153 := eq_true p153
                 replace q153 := eq_true q153
                 have p154 : 0 ≤ (x6_2 : Int) := of_decide_eq_true (by first | (with_reducible assumption) | assumption)
                 have q154 : x6_2 < (l1_3.length : Int) := of_decide_eq_true (by first | (with_reducible assumption) | assumption)
                 obtain ⟨ad154, e154, hx154_0⟩ := Kd.at_int HR1_3.out x6_2 p154 q154
                 obtain rfl : ad153 = ad154 := (by injection e154)
                 replace hx154_0 := (HB.out.cell (World.block_lt_of_cell? w _ hx154_0)).trans hx154_0
                 replace p154 := eq_true p154
                 replace q154 := eq_true q154
                 have hcz54_0 : wr.cell? ⟨gb149, 0, none⟩ = some (.string a0_0) := (Z5 BK149.out 0).trans rfl
                 have hcz54_1 : wr.cell? ⟨gb149, 1, none⟩ = some (.int .i64 a0_1) := (Z5 BK149.out 1).trans rfl
                 have hcz54_2 : wr.cell? ⟨gb149, 2, none⟩ = some (.int .i64 a0_2) := (Z5 BK149.out 2).trans rfl
                 have hcz54_3 : wr.cell? ⟨gb149, 3, none⟩ = some (.int .i64 a0_3) := (Z5 BK149.out 3).trans rfl
                 have hcz54_4 : wr.cell? ⟨gb149, 4, none⟩ = some (.slice A0_4 l0_4.length c0_4) := (Z5 BK149.out 4).trans rfl
                 have hfz54_0 := Z2 BK149.out 0
                 have hfz54_1 := Z2 BK149.out 1
                 have hfz54_2 := Z2 BK149.out 2
                 have hfz54_3 := Z2 BK149.out 3
                 have hfz54_4 := Z2 BK149.out 4
                 go_wp2
                 repeat (go_quiet (fail); try go_wp2)
                 go_roundg k2
                 case measure => have := HJ2.out; have := HK2.out; omega
                 case rel => exact ⟨(wrap64 (x6_2 + 1)), (by first | rfl | (simp; done) | (simp [*]; done)), H', ⟨by have := HJ2.out; have := HK2.out; omega⟩, ⟨by (with_reducible repeat (first | refine Z0 ?_ _ | refine Z3 ?_ | refine Z1 ?_ _)); exact BK149.out⟩, ⟨by (with_reducible repeat (first | refine Z0 ?_ _ | refine Z3 ?_ | refine Z1 ?_ _)); exact BK150.out⟩, ⟨by repeat (first | (with_reducible first | exact HB.out | apply Z7 | apply Z4 | apply Z6 | refine Z8 ?_ GE149.out | refine Z8 ?_ GE150.out) | exact HB.out)⟩⟩
           · rw [if_neg c44] at H
             exact absurd H (by simp)
         · rw [if_neg c43] at H
           exact absurd H (by simp)
       · rw [if_neg c42] at H
         have c42b0 : decide (x6_2 < x5_2) = false := decide_eq_false c42
         clear c42
         obtain rfl := Option.some.inj H
         go_wp2
         repeat (go_quiet (fail); try go_wp2)
         go_ret
         exact ⟨by first | rfl | (simp [Z16, Z15] <;> rfl) | (simp [*, Z16, Z15] <;> rfl), by repeat (first | (with_reducible first | exact HB.out | apply Z7 | apply Z4 | apply Z6 | refine Z8 ?_ GE149.out | refine Z8 ?_ GE150.out) | exact HB.out)⟩
   · rw [if_neg c39] at H
     have c39b0 : ((l1_3.length : Int) == x5_2) = false := beq_eq_false_iff_ne.mpr c39
     have c39b1 : ((l1_3.length : Int) != x5_2) = true := bne_iff_ne.mpr c39
     obtain rfl := Option.some.inj H
     have hnb55 := NB150_149.out
     have hnc55 := NB149_150.out
     have hcz56_0 : wc.cell? ⟨gb150, 0, none⟩ = some (.slice A1_0 l1_0.length c1_0) := (Z5 BK150.out 0).trans rfl
     have hcz56_1 : wc.cell? ⟨gb150, 1, none⟩ = some (.int .i64 a1_1) := (Z5 BK150.out 1).trans rfl
     have hcz56_2 : wc.cell? ⟨gb150, 2, none⟩ = some (.int .i64 a1_2) := (Z5 BK150.out 2).trans rfl
     have hcz56_3 : wc.cell? ⟨gb150, 3, none⟩ = some (.slice A1_3 l1_3.length c1_3) := (Z5 BK150.out 3).trans rfl
     have hfz56_0 := Z2 BK150.out 0
     have hfz56_1 := Z2 BK150.out 1
     have hfz56_2 := Z2 BK150.out 2
     have hfz56_3 := Z2 BK150.out 3
     go_wp2
     repeat (go_quiet (fail); try go_wp2)
     go_ret
     exact ⟨by first | rfl | (simp [Z16, Z15] <;> rfl) | (simp [*, Z16, Z15] <;> rfl), by repeat (first | (with_reducible first | exact HB.out | apply Z7 | apply Z4 | apply Z6 | refine Z8 ?_ GE149.out | refine Z8 ?_ GE150.out) | exact HB.out)⟩
end Go.Proofs.Ytbklmnieakefnaa.Q
