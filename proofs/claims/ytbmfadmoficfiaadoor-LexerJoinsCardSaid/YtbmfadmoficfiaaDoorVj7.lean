/- A part of the proof, made small by a program: Qx8, Qx9, Qx10, Qx11, Qx12. -/
import Derived.Test.YtbmfadmoficfiaaDoorVj2
import Derived.Test.YtbmfadmoficfiaaDoorVj4
import Derived.Test.YtbmfadmoficfiaaDoorVj5
namespace Go.Proofs.YtbmfadmoficfiaaDoor.Q
open Go.RowKit Go.Proofs.YtbmfadmoficfiaaDoorW.PrintWords Go.Proofs.YtbmfadmoficfiaaDoorW.PrintLast Go.Proofs.YtbmfadmoficfiaaDoorW.PrintMore
attribute [local go_sem] Z56 Z54 Z61 Z60 Z49 Z48 Z55 Z53
set_option linter.unusedVariables false
set_option linter.unusedSimpArgs false
mutual
def Z30.j0 : Nat → ByteArray → Bool → Option (Bool)
 | 0, _, _ => none
 | k + 1, x0, x11 => if x11 = true then (some false) else (Z30.l0 k x0 (x0.size : Int) 0)
def Z30.l0 : Nat → ByteArray → Int → Int → Option (Bool)
 | 0, _, _, _ => none
 | k + 1, x0, x13, x14 => if x14 < x13 then (if 0 ≤ x14 then (if x14 < (x0.size : Int) then ((Z37.f (bt x0 x14)).bind fun t115 => (if t115 = true then (Z30.l0 k x0 x13 (wrap64 (x14 + 1))) else (some false))) else (none)) else (none)) else (some true)
end
def Z30.f (k : Nat) (a0 : ByteArray) : Option (Bool) := if a0.toList = ([] : List UInt8) then (Z30.j0 k a0 true) else (if 0 < (a0.size : Int) then ((Z13.f k (bt a0 0)).bind fun t114 => (Z30.j0 k a0 (decide (t114 < 10)))) else (none))
theorem Z30.mono_l : ∀ k, (∀ y0 y1, LeO (Z30.j0 k y0 y1) (Z30.j0 (k + 1) y0 y1)) ∧ (∀ y0 y1 y2, LeO (Z30.l0 k y0 y1 y2) (Z30.l0 (k + 1) y0 y1 y2))
 | 0 => ⟨fun _ _ r h => by simp [Z30.j0] at h, fun _ _ _ r h => by simp [Z30.l0] at h⟩
 | k + 1 => by
  obtain ⟨ih0, ih1⟩ := Z30.mono_l k
  refine ⟨?_, ?_⟩
  · intro y0 y1
    unfold Z30.j0
    repeat' first
    | (with_reducible exact ih0 _ _)
    | (with_reducible exact ih1 _ _ _)
    | (with_reducible exact Z13.mono _ _)
    | (with_reducible exact LeO.refl _)
    | (with_reducible exact LeO.none _)
    | (with_reducible refine LeO.ite ?_ ?_)
    | (with_reducible refine LeO.bind ?_ (fun _ => ?_))
    | exact ih0 _ _
    | exact ih1 _ _ _
    | exact Z13.mono _ _
    | exact LeO.none _
    | refine LeO.ite ?_ ?_
    | refine LeO.bind ?_ (fun _ => ?_)
  · intro y0 y1 y2
    unfold Z30.l0
    repeat' first
    | (with_reducible exact ih0 _ _)
    | (with_reducible exact ih1 _ _ _)
    | (with_reducible exact Z13.mono _ _)
    | (with_reducible exact LeO.refl _)
    | (with_reducible exact LeO.none _)
    | (with_reducible refine LeO.ite ?_ ?_)
    | (with_reducible refine LeO.bind ?_ (fun _ => ?_))
    | exact ih0 _ _
    | exact ih1 _ _ _
    | exact Z13.mono _ _
    | exact LeO.none _
    | refine LeO.ite ?_ ?_
    | refine LeO.bind ?_ (fun _ => ?_)
theorem Z30.mono : ∀ a0 k, LeO (Z30.f k a0) (Z30.f (k + 1) a0) := by
 intro a0 k
 obtain ⟨ih0, ih1⟩ := Z30.mono_l k
 unfold Z30.f
 repeat' first
  | (with_reducible exact ih0 _ _)
  | (with_reducible exact ih1 _ _ _)
  | (with_reducible exact Z13.mono _ _)
  | (with_reducible exact LeO.refl _)
  | (with_reducible exact LeO.none _)
  | (with_reducible refine LeO.ite ?_ ?_)
  | (with_reducible refine LeO.bind ?_ (fun _ => ?_))
  | exact ih0 _ _
  | exact ih1 _ _ _
  | exact Z13.mono _ _
  | exact LeO.none _
  | refine LeO.ite ?_ ?_
  | refine LeO.bind ?_ (fun _ => ?_)
set_option maxHeartbeats 8000000 in
set_option maxRecDepth 100000 in
theorem Z30.calls (k : Nat) (a0 : ByteArray) (r : Bool) (w : World) (h : Z30.f k a0 = some r) :
 Calls Tryd.prog 17 #[.string a0] w fun e w' => e = .returned (.bool r) ∧ Drawn0 w w' := by
 have H : (if a0.toList = ([] : List UInt8) then (Z30.j0 k a0 true) else (if 0 < (a0.size : Int) then ((Z13.f k (bt a0 0)).bind fun t114 => (Z30.j0 k a0 (decide (t114 < 10)))) else (none))) = some r := h
 clear h
 have HC2 := Aside0.mk H
 clear H
 go_enter Tryd.func17, Tryd.ntmps17
 go_upto_region 1 with (fail)
 go_cut [11] (fun v11 wc => ∃ (kq : Nat) (x11_1 : Bool), v11 = .bool x11_1 ∧ Aside0 (Z30.j0 kq a0 x11_1 = some r) ∧ Aside0 (kq ≤ k) ∧ Drawn0 w wc)
 case first =>
  have H := HC2.out
  clear HC2
  by_cases c3 : a0.toList = ([] : List UInt8)
  · rw [if_pos c3] at H
    have c3b0 : (a0.toList == ([] : List UInt8)) = true := beq_iff_eq.mpr c3
    have c3b1 : (a0.toList != ([] : List UInt8)) = false := bne_eq_false_iff_eq.mpr c3
    clear c3
    (first | rw [c3b0] | (simp only [i64_w, i32_w]; rw [c3b0]) | skip)
    have H' := Aside0.mk H
    clear H
    go_wp2
    go_meet
    case rel => exact ⟨_, (true), (by first | rfl | (simp; done) | (simp [*]; done)), H', ⟨by first | omega | exact Nat.le_refl _⟩, by repeat (first | exact Drawn0.refl _ | apply Drawn0.step)⟩
  · rw [if_neg c3] at H
    have c3b0 : (a0.toList == ([] : List UInt8)) = false := beq_eq_false_iff_ne.mpr c3
    have c3b1 : (a0.toList != ([] : List UInt8)) = true := bne_iff_ne.mpr c3
    (first | rw [c3b0] | (simp only [i64_w, i32_w]; rw [c3b0]) | skip)
    by_cases c4 : 0 < (a0.size : Int)
    · rw [if_pos c4] at H
      have c4b0 : decide (0 < (a0.size : Int)) = true := decide_eq_true c4
      have c4b1 : decide (0 < a0.size) = true := decide_eq_true (by omega)
      clear c4
      replace H := Option.bind_eq_some_iff.mp H
      obtain ⟨t114, A60, H⟩ := H
      replace H : (Z30.j0 k a0 (decide (t114 < 10))) = some r := H
      have A6 := Aside0.mk A60
      clear A60
      have H' := Aside0.mk H
      clear H
      have p5 : 0 ≤ (0 : Int) := (by omega)
      have q5 : 0 < a0.size := (by have : (0 : Int) < (a0.size : Int) := of_decide_eq_true (by first | (with_reducible assumption) | assumption); omega)
      have hx5 : ∀ h : 0 < a0.size, ((a0[0]'h).toNat : Int) = bt a0 0 := bt_at a0 0
      clear p5
      have qi5 : (0 < (a0.size : Int)) = True := eq_true (of_decide_eq_true (by first | (with_reducible assumption) | assumption))
      replace q5 := eq_true q5
      go_wp2_with (first | (go_at_call 22; (with_reducible refine (Z13.calls k (bt a0 0) t114 _ A6.out).mono ?_); rintro e w' ⟨rfl, ⟨nd, rfl⟩⟩))
      go_meet
      case rel => exact ⟨_, (decide (t114 < 10)), (by first | rfl | (simp; done) | (simp [*]; done)), H', ⟨by first | omega | exact Nat.le_refl _⟩, by repeat (first | exact Drawn0.refl _ | apply Drawn0.step)⟩
    · rw [if_neg c4] at H
      exact absurd H (by simp)
 case rest =>
  clear HC2
  obtain ⟨kq, x11_1, rfl, HA, HJ1, ⟨mc1, rfl⟩⟩ := hcut
  cases kq with
  | zero => exact absurd HA.out (by simp [Z30.j0])
  | succ kj1 =>
   have H := HA.out
   clear HA
   simp only [Z30.j0] at H
   by_cases c7 : x11_1 = true
   · subst c7
     have H1 : (some false) = some r := by rw [if_pos rfl] at H; exact H
     clear H
     have H := H1
     clear H1
     obtain rfl := Option.some.inj H
     go_wp2
     go_ret
     exact ⟨by first | rfl | (simp; done) | (simp [*]; done), by repeat (first | exact Drawn0.refl _ | apply Drawn0.step)⟩
   · replace c7 := Bool.eq_false_iff.mpr c7
     subst c7
     have H1 : (Z30.l0 kj1 a0 (a0.size : Int) 0) = some r := by rw [if_neg (show ¬ (false = true) by decide)] at H; exact H
     clear H
     have H := H1
     clear H1
     have H' := Aside0.mk H
     clear H
     go_wp2
     go_loopg [14] kj1 (fun kq v14 w' => ∃ (x14_2 : Int), v14 = .int .i64 x14_2 ∧ Aside0 (Z30.l0 kq a0 (a0.size : Int) x14_2 = some r) ∧ Aside0 (kq ≤ kj1) ∧ Drawn0 w w')
     case atStart => exact ⟨(0), (by first | rfl | (simp; done) | (simp [*]; done)), H', ⟨Nat.le_refl _⟩, by repeat (first | exact Drawn0.refl _ | apply Drawn0.step)⟩
     case round =>
      clear H'
      try clear c7
      obtain ⟨x14_2, rfl, HA, HK2, ⟨m2, rfl⟩⟩ := hrel
      cases gk with
      | zero => exact absurd HA.out (by simp [Z30.l0])
      | succ k2 =>
       have H := HA.out
       clear HA
       simp only [Z30.l0] at H
       by_cases c8 : x14_2 < (a0.size : Int)
       · rw [if_pos c8] at H
         have c8b0 : decide (x14_2 < (a0.size : Int)) = true := decide_eq_true c8
         clear c8
         by_cases c9 : 0 ≤ x14_2
         · rw [if_pos c9] at H
           have c9b0 : decide (0 ≤ x14_2) = true := decide_eq_true c9
           clear c9
           by_cases c10 : x14_2 < (a0.size : Int)
           · rw [if_pos c10] at H
             have c10b0 : decide (x14_2 < (a0.size : Int)) = true := decide_eq_true c10
             clear c10
             replace H := Option.bind_eq_some_iff.mp H
             obtain ⟨t115, A120, H⟩ := H
             replace H : (if t115 = true then (Z30.l0 k2 a0 (a0.size : Int) (wrap64 (x14_2 + 1))) else (some false)) = some r := H
             have A12 := Aside0.mk A120
             clear A120
             by_cases c13 : t115 = true
             · subst c13
               have H1 : (Z30.l0 k2 a0 (a0.size : Int) (wrap64 (x14_2 + 1))) = some r := by rw [if_pos rfl] at H; exact H
               clear H
               have H := H1
               clear H1
               have H' := Aside0.mk H
               clear H
               have p11 : 0 ≤ (x14_2 : Int) := of_decide_eq_true (by first | (with_reducible assumption) | assumption)
               have q11 : x14_2 < (a0.size : Int) := of_decide_eq_true (by first | (with_reducible assumption) | assumption)
               have hx11 := bt_at a0 x14_2
               replace p11 := eq_true p11
               replace q11 := eq_true q11
               go_wp2_with (first | ((with_reducible refine Z14 (f := 24) rfl ?_); refine goesL_ (some 20) rfl rfl Tryd.func24 (by kernel_rfl) rfl #[.int .u8 (bt a0 x14_2)] rfl (by (try simp only [List.map_toArray, List.map_cons, List.map_nil]); first | done | rfl | (simp only [List.length_drop, List.length_take]; rfl)) ?_; (with_reducible refine (Z37.calls (bt a0 x14_2) true _ A12.out).mono ?_); rintro e w' ⟨rfl, ⟨nd, rfl⟩⟩; refine ⟨_, rfl, ?_⟩))
               go_roundg k2
               case measure => have := HJ1.out; have := HK2.out; omega
               case rel => exact ⟨(wrap64 (x14_2 + 1)), (by first | rfl | (simp; done) | (simp [*]; done)), H', ⟨by have := HJ1.out; have := HK2.out; omega⟩, by repeat (first | exact Drawn0.refl _ | apply Drawn0.step)⟩
             · replace c13 := Bool.eq_false_iff.mpr c13
               subst c13
               have H1 : (some false) = some r := by rw [if_neg (show ¬ (false = true) by decide)] at H; exact H
               clear H
               have H := H1
               clear H1
               obtain rfl := Option.some.inj H
               have p11 : 0 ≤ (x14_2 : Int) := of_decide_eq_true (by first | (with_reducible assumption) | assumption)
               have q11 : x14_2 < (a0.size : Int) := of_decide_eq_true (by first | (with_reducible assumption) | assumption)
               have hx11 := bt_at a0 x14_2
               replace p11 := eq_true p11
               replace q11 := eq_true q11
               go_wp2_with (first | ((with_reducible refine Z14 (f := 24) rfl ?_); refine goesL_ (some 20) rfl rfl Tryd.func24 (by kernel_rfl) rfl #[.int .u8 (bt a0 x14_2)] rfl (by (try simp only [List.map_toArray, List.map_cons, List.map_nil]); first | done | rfl | (simp only [List.length_drop, List.length_take]; rfl)) ?_; (with_reducible refine (Z37.calls (bt a0 x14_2) false _ A12.out).mono ?_); rintro e w' ⟨rfl, ⟨nd, rfl⟩⟩; refine ⟨_, rfl, ?_⟩))
               go_ret
               exact ⟨by first | rfl | (simp; done) | (simp [*]; done), by repeat (first | exact Drawn0.refl _ | apply Drawn0.step)⟩
           · rw [if_neg c10] at H
             exact absurd H (by simp)
         · rw [if_neg c9] at H
           exact absurd H (by simp)
       · rw [if_neg c8] at H
         have c8b0 : decide (x14_2 < (a0.size : Int)) = false := decide_eq_false c8
         clear c8
         obtain rfl := Option.some.inj H
         go_wp2
         go_ret
         exact ⟨by first | rfl | (simp; done) | (simp [*]; done), by repeat (first | exact Drawn0.refl _ | apply Drawn0.step)⟩
end Go.Proofs.YtbmfadmoficfiaaDoor.Q
namespace Go.Proofs.YtbmfadmoficfiaaDoor.Q
open Go.RowKit Go.Proofs.YtbmfadmoficfiaaDoorW.PrintWords Go.Proofs.YtbmfadmoficfiaaDoorW.PrintLast Go.Proofs.YtbmfadmoficfiaaDoorW.PrintMore
attribute [local go_sem] Z56 Z54 Z61 Z60 Z49 Z48 Z55 Z53
set_option linter.unusedVariables false
set_option linter.unusedSimpArgs false
def Z42.f (k : Nat) (a0 : ByteArray) : Option (Bool) := (Z30.f k a0).bind fun t116 => (if t116 = true then (if 1 + a0.size ≤ 9223372036854775807 then (if ((⟨#[32]⟩ : ByteArray) ++ a0).size + 1 ≤ 9223372036854775807 then ((strings_Contains.f (⟨#[32, 98, 114, 101, 97, 107, 32, 99, 104, 97, 114, 32, 99, 111, 110, 116, 105, 110, 117, 101, 32, 100, 111, 32, 101, 108, 115, 101, 32, 102, 111, 114, 32, 103, 101, 116, 98, 121, 116, 101, 32, 105, 102, 32, 105, 110, 116, 32, 112, 117, 116, 98, 121, 116, 101, 32, 114, 101, 116, 117, 114, 110, 32, 115, 105, 122, 101, 111, 102, 32, 115, 116, 114, 117, 99, 116, 32, 117, 105, 110, 116, 32, 118, 111, 105, 100, 32, 119, 104, 105, 108, 101, 32]⟩ : ByteArray) (((⟨#[32]⟩ : ByteArray) ++ a0) ++ (⟨#[32]⟩ : ByteArray))).bind fun t117 => (some t117)) else (none)) else (none)) else (some false))
theorem Z42.mono : ∀ a0 k, LeO (Z42.f k a0) (Z42.f (k + 1) a0) := by
 intro a0 k
 unfold Z42.f
 repeat' first
  | (with_reducible exact Z30.mono _ _)
  | (with_reducible exact LeO.refl _)
  | (with_reducible exact LeO.none _)
  | (with_reducible refine LeO.ite ?_ ?_)
  | (with_reducible refine LeO.bind ?_ (fun _ => ?_))
  | exact Z30.mono _ _
  | exact LeO.none _
  | refine LeO.ite ?_ ?_
  | refine LeO.bind ?_ (fun _ => ?_)
set_option maxHeartbeats 8000000 in
set_option maxRecDepth 100000 in
theorem Z42.calls (k : Nat) (a0 : ByteArray) (r : Bool) (w : World) (hG : PremW w) (h : Z42.f k a0 = some r) :
 Calls Tryd.prog 15 #[.string a0] w fun e w' => e = .returned (.bool r) ∧ Below w.heap.size w w' := by
 have HG := Aside0.mk hG
 clear hG
 have HB := Aside0.mk (Below.refl w.heap.size w)
 have H : ((Z30.f k a0).bind fun t116 => (if t116 = true then (if 1 + a0.size ≤ 9223372036854775807 then (if ((⟨#[32]⟩ : ByteArray) ++ a0).size + 1 ≤ 9223372036854775807 then ((strings_Contains.f (⟨#[32, 98, 114, 101, 97, 107, 32, 99, 104, 97, 114, 32, 99, 111, 110, 116, 105, 110, 117, 101, 32, 100, 111, 32, 101, 108, 115, 101, 32, 102, 111, 114, 32, 103, 101, 116, 98, 121, 116, 101, 32, 105, 102, 32, 105, 110, 116, 32, 112, 117, 116, 98, 121, 116, 101, 32, 114, 101, 116, 117, 114, 110, 32, 115, 105, 122, 101, 111, 102, 32, 115, 116, 114, 117, 99, 116, 32, 117, 105, 110, 116, 32, 118, 111, 105, 100, 32, 119, 104, 105, 108, 101, 32]⟩ : ByteArray) (((⟨#[32]⟩ : ByteArray) ++ a0) ++ (⟨#[32]⟩ : ByteArray))).bind fun t117 => (some t117)) else (none)) else (none)) else (some false))) = some r := h
 clear h
 replace H := Option.bind_eq_some_iff.mp H
 obtain ⟨t116, A20, H⟩ := H
 replace H : (if t116 = true then (if 1 + a0.size ≤ 9223372036854775807 then (if ((⟨#[32]⟩ : ByteArray) ++ a0).size + 1 ≤ 9223372036854775807 then ((strings_Contains.f (⟨#[32, 98, 114, 101, 97, 107, 32, 99, 104, 97, 114, 32, 99, 111, 110, 116, 105, 110, 117, 101, 32, 100, 111, 32, 101, 108, 115, 101, 32, 102, 111, 114, 32, 103, 101, 116, 98, 121, 116, 101, 32, 105, 102, 32, 105, 110, 116, 32, 112, 117, 116, 98, 121, 116, 101, 32, 114, 101, 116, 117, 114, 110, 32, 115, 105, 122, 101, 111, 102, 32, 115, 116, 114, 117, 99, 116, 32, 117, 105, 110, 116, 32, 118, 111, 105, 100, 32, 119, 104, 105, 108, 101, 32]⟩ : ByteArray) (((⟨#[32]⟩ : ByteArray) ++ a0) ++ (⟨#[32]⟩ : ByteArray))).bind fun t117 => (some t117)) else (none)) else (none)) else (some false)) = some r := H
 have A2 := Aside0.mk A20
 clear A20
 by_cases c3 : t116 = true
 · subst c3
   have H1 : (if 1 + a0.size ≤ 9223372036854775807 then (if ((⟨#[32]⟩ : ByteArray) ++ a0).size + 1 ≤ 9223372036854775807 then ((strings_Contains.f (⟨#[32, 98, 114, 101, 97, 107, 32, 99, 104, 97, 114, 32, 99, 111, 110, 116, 105, 110, 117, 101, 32, 100, 111, 32, 101, 108, 115, 101, 32, 102, 111, 114, 32, 103, 101, 116, 98, 121, 116, 101, 32, 105, 102, 32, 105, 110, 116, 32, 112, 117, 116, 98, 121, 116, 101, 32, 114, 101, 116, 117, 114, 110, 32, 115, 105, 122, 101, 111, 102, 32, 115, 116, 114, 117, 99, 116, 32, 117, 105, 110, 116, 32, 118, 111, 105, 100, 32, 119, 104, 105, 108, 101, 32]⟩ : ByteArray) (((⟨#[32]⟩ : ByteArray) ++ a0) ++ (⟨#[32]⟩ : ByteArray))).bind fun t117 => (some t117)) else (none)) else (none)) = some r := by rw [if_pos rfl] at H; exact H
   clear H
   have H := H1
   clear H1
   by_cases c4 : 1 + a0.size ≤ 9223372036854775807
   · rw [if_pos c4] at H
     have c4b0 := eq_true c4
     have c4b1 : decide (1 + a0.size ≤ 9223372036854775807) = true := decide_eq_true c4
     try have c4b2 : (9223372036854775807 < 1 + a0.size) = False := eq_false (Nat.not_lt.2 c4)
     by_cases c5 : ((⟨#[32]⟩ : ByteArray) ++ a0).size + 1 ≤ 9223372036854775807
     · rw [if_pos c5] at H
       have c5b0 := eq_true c5
       have c5b1 : decide (((⟨#[32]⟩ : ByteArray) ++ a0).size + 1 ≤ 9223372036854775807) = true := decide_eq_true c5
       try have c5b2 : (9223372036854775807 < ((⟨#[32]⟩ : ByteArray) ++ a0).size + 1) = False := eq_false (Nat.not_lt.2 c5)
       have c5b3 : (9223372036854775807 < 1 + a0.size + 1) = False := eq_false (by have h_ : (⟨#[32]⟩ : ByteArray).size = 1 := rfl; rw [ByteArray.size_append, h_] at c5; omega)
       replace H := Option.bind_eq_some_iff.mp H
       obtain ⟨t117, A60, H⟩ := H
       replace H : (some t117) = some r := H
       have A6 := Aside0.mk A60
       clear A60
       obtain rfl := Option.some.inj H
       go_enter Tryd.func15, Tryd.ntmps15
       go_wp2_with (first | ((with_reducible refine Z14 (f := 17) rfl ?_); refine goesL_ (some 4) rfl rfl Tryd.func17 (by kernel_rfl) rfl #[.string a0] rfl (by (try simp only [List.map_toArray, List.map_cons, List.map_nil]); first | done | rfl | (simp only [List.length_drop, List.length_take]; rfl)) ?_; (with_reducible refine (Z30.calls k a0 true _ A2.out).mono ?_); rintro e w' ⟨rfl, ⟨nd, rfl⟩⟩; refine ⟨_, rfl, ?_⟩) | (go_at_call 30; (with_reducible refine (strings_Contains.calls (⟨#[32, 98, 114, 101, 97, 107, 32, 99, 104, 97, 114, 32, 99, 111, 110, 116, 105, 110, 117, 101, 32, 100, 111, 32, 101, 108, 115, 101, 32, 102, 111, 114, 32, 103, 101, 116, 98, 121, 116, 101, 32, 105, 102, 32, 105, 110, 116, 32, 112, 117, 116, 98, 121, 116, 101, 32, 114, 101, 116, 117, 114, 110, 32, 115, 105, 122, 101, 111, 102, 32, 115, 116, 114, 117, 99, 116, 32, 117, 105, 110, 116, 32, 118, 111, 105, 100, 32, 119, 104, 105, 108, 101, 32]⟩ : ByteArray) (((⟨#[32]⟩ : ByteArray) ++ a0) ++ (⟨#[32]⟩ : ByteArray)) t117 _ ?side1 A6.out).mono ?_); (case side1 => refine PremW.below HG.out ?_; repeat (first | (with_reducible first | exact HB.out | apply Z7 | apply Z4 | apply Z6) | exact HB.out)); rintro e w7 ⟨rfl, hb⟩; have n0_ := Aside0.mk (Z25 (by repeat (first | (with_reducible first | exact HB.out | apply Z7 | apply Z4 | apply Z6) | exact HB.out)) hb); clear HB; have HB := n0_; clear n0_; (try clear hb); (try clear hb2); (try clear hk); (try clear hi)))
       go_ret
       exact ⟨by first | rfl | (simp [Z16, Z15] <;> rfl) | (simp [*, Z16, Z15] <;> rfl), by repeat (first | (with_reducible first | exact HB.out | apply Z7 | apply Z4 | apply Z6) | exact HB.out)⟩
     · rw [if_neg c5] at H
       exact absurd H (by simp)
   · rw [if_neg c4] at H
     exact absurd H (by simp)
 · replace c3 := Bool.eq_false_iff.mpr c3
   subst c3
   have H1 : (some false) = some r := by rw [if_neg (show ¬ (false = true) by decide)] at H; exact H
   clear H
   have H := H1
   clear H1
   obtain rfl := Option.some.inj H
   go_enter Tryd.func15, Tryd.ntmps15
   go_wp2_with (first | ((with_reducible refine Z14 (f := 17) rfl ?_); refine goesL_ (some 4) rfl rfl Tryd.func17 (by kernel_rfl) rfl #[.string a0] rfl (by (try simp only [List.map_toArray, List.map_cons, List.map_nil]); first | done | rfl | (simp only [List.length_drop, List.length_take]; rfl)) ?_; (with_reducible refine (Z30.calls k a0 false _ A2.out).mono ?_); rintro e w' ⟨rfl, ⟨nd, rfl⟩⟩; refine ⟨_, rfl, ?_⟩))
   go_ret
   exact ⟨by first | rfl | (simp [Z16, Z15] <;> rfl) | (simp [*, Z16, Z15] <;> rfl), by repeat (first | (with_reducible first | exact HB.out | apply Z7 | apply Z4 | apply Z6) | exact HB.out)⟩
end Go.Proofs.YtbmfadmoficfiaaDoor.Q
namespace Go.Proofs.YtbmfadmoficfiaaDoor.Q
open Go.RowKit Go.Proofs.YtbmfadmoficfiaaDoorW.PrintWords Go.Proofs.YtbmfadmoficfiaaDoorW.PrintLast Go.Proofs.YtbmfadmoficfiaaDoorW.PrintMore
attribute [local go_sem] Z56 Z54 Z61 Z60 Z49 Z48 Z55 Z53
set_option linter.unusedVariables false
set_option linter.unusedSimpArgs false
def Z36.l0 : Nat → ByteArray → Int → Int → ByteArray → Int → Bool → Int → Int → Option (Int × ByteArray × Int × Bool × Int × Int)
 | 0, _, _, _, _, _, _, _, _ => none
 | k + 1, x0, x1, x120000, x120001, x120002, x120003, x120004, x120005 => if x120005 < (x0.size : Int) then (if 0 ≤ x120005 then ((Z37.f (bt x0 x120005)).bind fun t120 => (if t120 = true then (Z36.l0 k x0 x1 x120000 x120001 x120002 x120003 x120004 (wrap64 (x120005 + 1))) else (if 0 ≤ x1 then (if x1 ≤ x120005 then (if x120005 ≤ (x0.size : Int) then ((Z42.f k (x0.extract (x1 : Int).toNat (x120005 : Int).toNat)).bind fun t121 => (if t121 = true then (some (3, x0.extract (x1 : Int).toNat (x120005 : Int).toNat, x120002, x120003, x120004, x120005)) else (some (x120000, x0.extract (x1 : Int).toNat (x120005 : Int).toNat, x120002, x120003, x120004, x120005)))) else (none)) else (none)) else (none)))) else (none)) else (if 0 ≤ x1 then (if x1 ≤ x120005 then (if x120005 ≤ (x0.size : Int) then ((Z42.f k (x0.extract (x1 : Int).toNat (x120005 : Int).toNat)).bind fun t122 => (if t122 = true then (some (3, x0.extract (x1 : Int).toNat (x120005 : Int).toNat, x120002, x120003, x120004, x120005)) else (some (x120000, x0.extract (x1 : Int).toNat (x120005 : Int).toNat, x120002, x120003, x120004, x120005)))) else (none)) else (none)) else (none))
def Z36.f (k : Nat) (a0 : ByteArray) (a1 : Int) : Option (Int × ByteArray × Int × Bool × Int × Int) := Z36.l0 k a0 a1 2 (⟨#[]⟩ : ByteArray) 0 false a1 a1
theorem Z36.mono_l : ∀ k, (∀ y0 y1 y2 y3 y4 y5 y6 y7, LeO (Z36.l0 k y0 y1 y2 y3 y4 y5 y6 y7) (Z36.l0 (k + 1) y0 y1 y2 y3 y4 y5 y6 y7))
 | 0 => fun _ _ _ _ _ _ _ _ r h => by simp [Z36.l0] at h
 | k + 1 => by
  have ih0 := Z36.mono_l k
  · intro y0 y1 y2 y3 y4 y5 y6 y7
    unfold Z36.l0
    repeat' first
    | (with_reducible exact ih0 _ _ _ _ _ _ _ _)
    | (with_reducible exact Z42.mono _ _)
    | (with_reducible exact LeO.refl _)
    | (with_reducible exact LeO.none _)
    | (with_reducible refine LeO.ite ?_ ?_)
    | (with_reducible refine LeO.bind ?_ (fun _ => ?_))
    | exact ih0 _ _ _ _ _ _ _ _
    | exact Z42.mono _ _
    | exact LeO.none _
    | refine LeO.ite ?_ ?_
    | refine LeO.bind ?_ (fun _ => ?_)
theorem Z36.mono : ∀ a0 a1 k, LeO (Z36.f k a0 a1) (Z36.f (k + 1) a0 a1) := by
 intro a0 a1 k
 have ih0 := Z36.mono_l k
 unfold Z36.f
 repeat' first
  | (with_reducible exact ih0 _ _ _ _ _ _ _ _)
  | (with_reducible exact Z42.mono _ _)
  | (with_reducible exact LeO.refl _)
  | (with_reducible exact LeO.none _)
  | (with_reducible refine LeO.ite ?_ ?_)
  | (with_reducible refine LeO.bind ?_ (fun _ => ?_))
  | exact ih0 _ _ _ _ _ _ _ _
  | exact Z42.mono _ _
  | exact LeO.none _
  | refine LeO.ite ?_ ?_
  | refine LeO.bind ?_ (fun _ => ?_)
set_option maxHeartbeats 8000000 in
set_option maxRecDepth 100000 in
theorem Z36.calls (k : Nat) (a0 : ByteArray) (a1 : Int) (r1 : Int) (r2 : ByteArray) (r3 : Int) (r4 : Bool) (r5 : Int) (r6 : Int) (w : World) (hG : PremW w) (h : Z36.f k a0 a1 = some (r1, r2, r3, r4, r5, r6)) :
 Calls Tryd.prog 25 #[.string a0, .int .i64 a1] w fun e w' => e = .returned (.agg #[.int .i64 r1, .string r2, .int .u32 r3, .bool r4, .int .i64 r5, .int .i64 r6]) ∧ Below w.heap.size w w' := by
 have hu24 := Tryd.underlying24
 have HG := Aside0.mk hG
 clear hG
 have HB := Aside0.mk (Below.refl w.heap.size w)
 have H : (Z36.l0 k a0 a1 2 (⟨#[]⟩ : ByteArray) 0 false a1 a1) = some (r1, r2, r3, r4, r5, r6) := h
 clear h
 have H' := Aside0.mk H
 clear H
 go_enter Tryd.func25, Tryd.ntmps25
 go_wp2_with (first | ((with_reducible refine Z52 (N := 4) rfl ?_); refine Z51 ?hg (N := 4) ?hd (cs := #[.int .i64 0, .string (⟨#[]⟩ : ByteArray), .int .u32 0, .bool false, .int .i64 0, .int .i64 0]) (t := 24) ?hr ?_; (case hd => rfl); (case hg => rfl); (case hr => first | (go_simp; done) | (go_simp; rfl)); intro gb118 hg w3 hbox hb; have n0_ := Aside0.mk (Z25 (by repeat (first | (with_reducible first | exact HB.out | apply Z7 | apply Z4 | apply Z6) | exact HB.out)) hb); have n1_ := Aside0.mk (hbox); have n2_ := Aside0.mk ((by rw [hg]; exact (Z27 (by repeat (first | (with_reducible first | exact HB.out | apply Z7 | apply Z4 | apply Z6) | exact HB.out))) : w.heap.size ≤ gb118)); have n3_ := Aside0.mk ((by rw [hg]; exact (Z27 (by repeat (first | (with_reducible first | exact HB.out | apply Z7 | apply Z4 | apply Z6) | exact HB.out))) : w.heap.size ≤ gb118)); clear HB; have HB := n0_; have BK118 := n1_; have GW118 := n2_; have GE118 := n3_; clear n0_ n1_ n2_ n3_; clear hb hbox hg) | ((with_reducible refine Z52 (N := 5) rfl ?_); refine Z51 ?hg (N := 5) ?hd (cs := #[.int .i64 0, .string (⟨#[]⟩ : ByteArray), .int .u32 0, .bool false, .int .i64 0, .int .i64 0]) (t := 24) ?hr ?_; (case hd => rfl); (case hg => rfl); (case hr => first | (go_simp; done) | (go_simp; rfl)); intro gb119 hg w4 hbox hb; have n0_ := Aside0.mk (Z40 (g := gb118) (o := .cells #[.int .i64 0, .string (⟨#[]⟩ : ByteArray), .int .u32 0, .bool false, .int .i64 0, .int .i64 0] 24 (0, 0)) (by (with_reducible repeat (first | refine Z0 ?_ _ | refine Z3 ?_ | refine Z1 ?_ _)); exact BK118.out) hb); have n1_ := Aside0.mk (Z25 (by repeat (first | (with_reducible first | exact HB.out | apply Z7 | apply Z4 | apply Z6 | refine Z8 ?_ GE118.out) | exact HB.out)) hb); have n2_ := Aside0.mk (hbox); have n3_ := Aside0.mk ((by rw [hg]; exact (Z27 (by repeat (first | (with_reducible first | exact HB.out | apply Z7 | apply Z4 | apply Z6 | refine Z8 ?_ GE118.out) | exact HB.out))) : w.heap.size ≤ gb119)); have n4_ := Aside0.mk ((by rw [hg]; exact (Z27 (by repeat (first | (with_reducible first | exact HB.out | apply Z7 | apply Z4 | apply Z6 | refine Z8 ?_ GE118.out) | exact HB.out))) : w.heap.size ≤ gb119)); have n5_ := Aside0.mk ((by rw [hg]; exact Nat.ne_of_lt (blk_lt (g := gb118) (o := .cells #[.int .i64 0, .string (⟨#[]⟩ : ByteArray), .int .u32 0, .bool false, .int .i64 0, .int .i64 0] 24 (0, 0)) (by (with_reducible repeat (first | refine Z0 ?_ _ | refine Z3 ?_ | refine Z1 ?_ _)); exact BK118.out)) : gb118 ≠ gb119)); have n6_ := Aside0.mk ((by rw [hg]; exact Nat.ne_of_gt (blk_lt (g := gb118) (o := .cells #[.int .i64 0, .string (⟨#[]⟩ : ByteArray), .int .u32 0, .bool false, .int .i64 0, .int .i64 0] 24 (0, 0)) (by (with_reducible repeat (first | refine Z0 ?_ _ | refine Z3 ?_ | refine Z1 ?_ _)); exact BK118.out)) : gb119 ≠ gb118)); clear BK118; clear HB; have BK118 := n0_; have HB := n1_; have BK119 := n2_; have GW119 := n3_; have GE119 := n4_; have NB118_119 := n5_; have NB119_118 := n6_; clear n0_ n1_ n2_ n3_ n4_ n5_ n6_; clear hb hbox hg; have hnb5 := NB119_118.out; have hnc5 := NB118_119.out; have hcz6_0 : w4.cell? ⟨gb119, 0, none⟩ = some (.int .i64 0) := (Z5 BK119.out 0).trans rfl; have hcz6_1 : w4.cell? ⟨gb119, 1, none⟩ = some (.string (⟨#[]⟩ : ByteArray)) := (Z5 BK119.out 1).trans rfl; have hcz6_2 : w4.cell? ⟨gb119, 2, none⟩ = some (.int .u32 0) := (Z5 BK119.out 2).trans rfl; have hcz6_3 : w4.cell? ⟨gb119, 3, none⟩ = some (.bool false) := (Z5 BK119.out 3).trans rfl; have hcz6_4 : w4.cell? ⟨gb119, 4, none⟩ = some (.int .i64 0) := (Z5 BK119.out 4).trans rfl; have hcz6_5 : w4.cell? ⟨gb119, 5, none⟩ = some (.int .i64 0) := (Z5 BK119.out 5).trans rfl; have hfz6_0 := Z2 BK119.out 0; have hfz6_1 := Z2 BK119.out 1; have hfz6_2 := Z2 BK119.out 2; have hfz6_3 := Z2 BK119.out 3; have hfz6_4 := Z2 BK119.out 4; have hfz6_5 := Z2 BK119.out 5))
 go_loopg [] k (fun kq w' => ∃ (x120005_1 : Int), Aside0 (Z36.l0 kq a0 a1 2 (⟨#[]⟩ : ByteArray) 0 false a1 x120005_1 = some (r1, r2, r3, r4, r5, r6)) ∧ Aside0 (kq ≤ k) ∧ Aside0 (w'.heap[gb118]? = some (.cells #[.int .i64 0, .string (⟨#[]⟩ : ByteArray), .int .u32 0, .bool false, .int .i64 0, .int .i64 0] 24 (0, 0))) ∧ Aside0 (w'.heap[gb119]? = some (.cells #[.int .i64 2, .string (⟨#[]⟩ : ByteArray), .int .u32 0, .bool false, .int .i64 a1, .int .i64 x120005_1] 24 (0, 0))) ∧ Aside0 (Below w.heap.size w w'))
 case atStart => exact ⟨(a1), H', ⟨Nat.le_refl _⟩, ⟨by (with_reducible repeat (first | refine Z0 ?_ _ | refine Z3 ?_ | refine Z1 ?_ _)); refine Z22 ?_ NB118_119.out _; (with_reducible repeat (first | refine Z0 ?_ _ | refine Z3 ?_ | refine Z1 ?_ _)); refine Z22 ?_ NB118_119.out _; (with_reducible repeat (first | refine Z0 ?_ _ | refine Z3 ?_ | refine Z1 ?_ _)); refine Z22 ?_ NB118_119.out _; (with_reducible repeat (first | refine Z0 ?_ _ | refine Z3 ?_ | refine Z1 ?_ _)); refine Z22 ?_ NB118_119.out _; (with_reducible repeat (first | refine Z0 ?_ _ | refine Z3 ?_ | refine Z1 ?_ _)); refine Z22 ?_ NB118_119.out _; (with_reducible repeat (first | refine Z0 ?_ _ | refine Z3 ?_ | refine Z1 ?_ _)); refine Z22 ?_ NB118_119.out _; (with_reducible repeat (first | refine Z0 ?_ _ | refine Z3 ?_ | refine Z1 ?_ _)); exact BK118.out⟩, ⟨by (with_reducible repeat (first | refine Z0 ?_ _ | refine Z3 ?_ | refine Z1 ?_ _)); refine Z9 (cs := #[.int .i64 2, .string (⟨#[]⟩ : ByteArray), .int .u32 0, .bool false, .int .i64 a1, .int .i64 0]) ?_ 5 _ rfl; (with_reducible repeat (first | refine Z0 ?_ _ | refine Z3 ?_ | refine Z1 ?_ _)); refine Z9 (cs := #[.int .i64 2, .string (⟨#[]⟩ : ByteArray), .int .u32 0, .bool false, .int .i64 0, .int .i64 0]) ?_ 4 _ rfl; (with_reducible repeat (first | refine Z0 ?_ _ | refine Z3 ?_ | refine Z1 ?_ _)); refine Z9 (cs := #[.int .i64 2, .string (⟨#[]⟩ : ByteArray), .int .u32 0, .bool false, .int .i64 0, .int .i64 0]) ?_ 3 _ rfl; (with_reducible repeat (first | refine Z0 ?_ _ | refine Z3 ?_ | refine Z1 ?_ _)); refine Z9 (cs := #[.int .i64 2, .string (⟨#[]⟩ : ByteArray), .int .u32 0, .bool false, .int .i64 0, .int .i64 0]) ?_ 2 _ rfl; (with_reducible repeat (first | refine Z0 ?_ _ | refine Z3 ?_ | refine Z1 ?_ _)); refine Z9 (cs := #[.int .i64 2, .string (⟨#[]⟩ : ByteArray), .int .u32 0, .bool false, .int .i64 0, .int .i64 0]) ?_ 1 _ rfl; (with_reducible repeat (first | refine Z0 ?_ _ | refine Z3 ?_ | refine Z1 ?_ _)); refine Z9 (cs := #[.int .i64 0, .string (⟨#[]⟩ : ByteArray), .int .u32 0, .bool false, .int .i64 0, .int .i64 0]) ?_ 0 _ rfl; (with_reducible repeat (first | refine Z0 ?_ _ | refine Z3 ?_ | refine Z1 ?_ _)); exact BK119.out⟩, ⟨by repeat (first | (with_reducible first | exact HB.out | apply Z7 | apply Z4 | apply Z6 | refine Z8 ?_ GE118.out | refine Z8 ?_ GE119.out) | exact HB.out)⟩⟩
 case round =>
  clear H'
  try clear hcz6_0
  try clear hcz6_1
  try clear hcz6_2
  try clear hcz6_3
  try clear hcz6_4
  try clear hcz6_5
  try clear hfz6_0
  try clear hfz6_1
  try clear hfz6_2
  try clear hfz6_3
  try clear hfz6_4
  try clear hfz6_5
  obtain ⟨x120005_1, HA, HK1, BK118, BK119, HB⟩ := hrel
  cases gk with
  | zero => exact absurd HA.out (by simp [Z36.l0])
  | succ k1 =>
   have H := HA.out
   clear HA
   simp only [Z36.l0] at H
   by_cases c7 : x120005_1 < (a0.size : Int)
   · rw [if_pos c7] at H
     have c7b0 : decide (x120005_1 < (a0.size : Int)) = true := decide_eq_true c7
     clear c7
     by_cases c8 : 0 ≤ x120005_1
     · rw [if_pos c8] at H
       have c8b0 : decide (0 ≤ x120005_1) = true := decide_eq_true c8
       clear c8
       replace H := Option.bind_eq_some_iff.mp H
       obtain ⟨t120, A100, H⟩ := H
       replace H : (if t120 = true then (Z36.l0 k1 a0 a1 2 (⟨#[]⟩ : ByteArray) 0 false a1 (wrap64 (x120005_1 + 1))) else (if 0 ≤ a1 then (if a1 ≤ x120005_1 then (if x120005_1 ≤ (a0.size : Int) then ((Z42.f k1 (a0.extract (a1 : Int).toNat (x120005_1 : Int).toNat)).bind fun t121 => (if t121 = true then (some (3, a0.extract (a1 : Int).toNat (x120005_1 : Int).toNat, 0, false, a1, x120005_1)) else (some (2, a0.extract (a1 : Int).toNat (x120005_1 : Int).toNat, 0, false, a1, x120005_1)))) else (none)) else (none)) else (none))) = some (r1, r2, r3, r4, r5, r6) := H
       have A10 := Aside0.mk A100
       clear A100
       by_cases c11 : t120 = true
       · subst c11
         have H1 : (Z36.l0 k1 a0 a1 2 (⟨#[]⟩ : ByteArray) 0 false a1 (wrap64 (x120005_1 + 1))) = some (r1, r2, r3, r4, r5, r6) := by rw [if_pos rfl] at H; exact H
         clear H
         have H := H1
         clear H1
         have H' := Aside0.mk H
         clear H
         have hnb12 := NB119_118.out
         have hnc12 := NB118_119.out
         have hcz13_0 : wr.cell? ⟨gb119, 0, none⟩ = some (.int .i64 2) := (Z5 BK119.out 0).trans rfl
         have hcz13_1 : wr.cell? ⟨gb119, 1, none⟩ = some (.string (⟨#[]⟩ : ByteArray)) := (Z5 BK119.out 1).trans rfl
         have hcz13_2 : wr.cell? ⟨gb119, 2, none⟩ = some (.int .u32 0) := (Z5 BK119.out 2).trans rfl
         have hcz13_3 : wr.cell? ⟨gb119, 3, none⟩ = some (.bool false) := (Z5 BK119.out 3).trans rfl
         have hcz13_4 : wr.cell? ⟨gb119, 4, none⟩ = some (.int .i64 a1) := (Z5 BK119.out 4).trans rfl
         have hcz13_5 : wr.cell? ⟨gb119, 5, none⟩ = some (.int .i64 x120005_1) := (Z5 BK119.out 5).trans rfl
         have hfz13_0 := Z2 BK119.out 0
         have hfz13_1 := Z2 BK119.out 1
         have hfz13_2 := Z2 BK119.out 2
         have hfz13_3 := Z2 BK119.out 3
         have hfz13_4 := Z2 BK119.out 4
         have hfz13_5 := Z2 BK119.out 5
         have p9 : 0 ≤ (x120005_1 : Int) := of_decide_eq_true (by first | (with_reducible assumption) | assumption)
         have q9 : x120005_1 < (a0.size : Int) := of_decide_eq_true (by first | (with_reducible assumption) | assumption)
         have hx9 := bt_at a0 x120005_1
         replace p9 := eq_true p9
         replace q9 := eq_true q9
         go_wp2_with (first | (go_at_call 24; (with_reducible refine (Z37.calls (bt a0 x120005_1) true _ A10.out).mono ?_); rintro e w' ⟨rfl, ⟨nd, rfl⟩⟩; (try (rw [Z43 wr]; generalize hq_ : World.drewN wr _ = wr; have n0_ : Aside0 (wr.heap[gb118]? = some (.cells #[.int .i64 0, .string (⟨#[]⟩ : ByteArray), .int .u32 0, .bool false, .int .i64 0, .int .i64 0] 24 (0, 0))) := ⟨by rw [← hq_]; exact (by (with_reducible repeat (first | refine Z0 ?_ _ | refine Z3 ?_ | refine Z1 ?_ _)); exact BK118.out)⟩; have n1_ : Aside0 (wr.heap[gb119]? = some (.cells #[.int .i64 2, .string (⟨#[]⟩ : ByteArray), .int .u32 0, .bool false, .int .i64 a1, .int .i64 x120005_1] 24 (0, 0))) := ⟨by rw [← hq_]; exact (by (with_reducible repeat (first | refine Z0 ?_ _ | refine Z3 ?_ | refine Z1 ?_ _)); exact BK119.out)⟩; have n2_ : Aside0 (Below w.heap.size w wr) := ⟨by rw [← hq_]; exact (by repeat (first | (with_reducible first | exact HB.out | apply Z7 | apply Z4 | apply Z6 | refine Z8 ?_ GE118.out | refine Z8 ?_ GE119.out) | exact HB.out))⟩; clear BK118 BK119 HB hq_; have BK118 := n0_; have BK119 := n1_; have HB := n2_; clear n0_ n1_ n2_; have hcy13_0 : wr.cell? ⟨gb119, 0, none⟩ = some (.int .i64 2) := (Z5 BK119.out 0).trans rfl; have hcy13_1 : wr.cell? ⟨gb119, 1, none⟩ = some (.string (⟨#[]⟩ : ByteArray)) := (Z5 BK119.out 1).trans rfl; have hcy13_2 : wr.cell? ⟨gb119, 2, none⟩ = some (.int .u32 0) := (Z5 BK119.out 2).trans rfl; have hcy13_3 : wr.cell? ⟨gb119, 3, none⟩ = some (.bool false) := (Z5 BK119.out 3).trans rfl; have hcy13_4 : wr.cell? ⟨gb119, 4, none⟩ = some (.int .i64 a1) := (Z5 BK119.out 4).trans rfl; have hcy13_5 : wr.cell? ⟨gb119, 5, none⟩ = some (.int .i64 x120005_1) := (Z5 BK119.out 5).trans rfl; have hfy13_0 := Z2 BK119.out 0; have hfy13_1 := Z2 BK119.out 1; have hfy13_2 := Z2 BK119.out 2; have hfy13_3 := Z2 BK119.out 3; have hfy13_4 := Z2 BK119.out 4; have hfy13_5 := Z2 BK119.out 5))))
         go_roundg k1
         case measure => have := HK1.out; omega
         case rel => exact ⟨(wrap64 (x120005_1 + 1)), H', ⟨by have := HK1.out; omega⟩, ⟨by (with_reducible repeat (first | refine Z0 ?_ _ | refine Z3 ?_ | refine Z1 ?_ _)); refine Z22 ?_ NB118_119.out _; (with_reducible repeat (first | refine Z0 ?_ _ | refine Z3 ?_ | refine Z1 ?_ _)); exact BK118.out⟩, ⟨by (with_reducible repeat (first | refine Z0 ?_ _ | refine Z3 ?_ | refine Z1 ?_ _)); refine Z9 (cs := #[.int .i64 2, .string (⟨#[]⟩ : ByteArray), .int .u32 0, .bool false, .int .i64 a1, .int .i64 x120005_1]) ?_ 5 _ rfl; (with_reducible repeat (first | refine Z0 ?_ _ | refine Z3 ?_ | refine Z1 ?_ _)); exact BK119.out⟩, ⟨by repeat (first | (with_reducible first | exact HB.out | apply Z7 | apply Z4 | apply Z6 | refine Z8 ?_ GE118.out | refine Z8 ?_ GE119.out) | exact HB.out)⟩⟩
       · replace c11 := Bool.eq_false_iff.mpr c11
         subst c11
         have H1 : (if 0 ≤ a1 then (if a1 ≤ x120005_1 then (if x120005_1 ≤ (a0.size : Int) then ((Z42.f k1 (a0.extract (a1 : Int).toNat (x120005_1 : Int).toNat)).bind fun t121 => (if t121 = true then (some (3, a0.extract (a1 : Int).toNat (x120005_1 : Int).toNat, 0, false, a1, x120005_1)) else (some (2, a0.extract (a1 : Int).toNat (x120005_1 : Int).toNat, 0, false, a1, x120005_1)))) else (none)) else (none)) else (none)) = some (r1, r2, r3, r4, r5, r6) := by rw [if_neg (show ¬ (false = true) by decide)] at H; exact H
         clear H
         have H := H1
         clear H1
         by_cases c14 : 0 ≤ a1
         · rw [if_pos c14] at H
           have c14b0 := eq_true c14
           have c14b1 : decide (0 ≤ a1) = true := decide_eq_true c14
           clear c14
           by_cases c15 : a1 ≤ x120005_1
           · rw [if_pos c15] at H
             have c15b0 := eq_true c15
             have c15b1 : decide (a1 ≤ x120005_1) = true := decide_eq_true c15
             clear c15
             by_cases c16 : x120005_1 ≤ (a0.size : Int)
             · rw [if_pos c16] at H
               have c16b0 := eq_true c16
               have c16b1 : decide (x120005_1 ≤ (a0.size : Int)) = true := decide_eq_true c16
               clear c16
               replace H := Option.bind_eq_some_iff.mp H
               obtain ⟨t121, A170, H⟩ := H
               replace H : (if t121 = true then (some (3, a0.extract (a1 : Int).toNat (x120005_1 : Int).toNat, 0, false, a1, x120005_1)) else (some (2, a0.extract (a1 : Int).toNat (x120005_1 : Int).toNat, 0, false, a1, x120005_1))) = some (r1, r2, r3, r4, r5, r6) := H
               have A17 := Aside0.mk A170
               clear A170
               by_cases c18 : t121 = true
               · subst c18
                 have H1 : (some (3, a0.extract (a1 : Int).toNat (x120005_1 : Int).toNat, 0, false, a1, x120005_1)) = some (r1, r2, r3, r4, r5, r6) := by rw [if_pos rfl] at H; exact H
                 clear H
                 have H := H1
                 clear H1
                 simp only [Option.some.injEq, Prod.mk.injEq] at H
                 obtain ⟨rfl, rfl, rfl, rfl, rfl, rfl⟩ := H
                 have hnb19 := NB119_118.out
                 have hnc19 := NB118_119.out
                 have hcz20_0 : wr.cell? ⟨gb119, 0, none⟩ = some (.int .i64 2) := (Z5 BK119.out 0).trans rfl
                 have hcz20_1 : wr.cell? ⟨gb119, 1, none⟩ = some (.string (⟨#[]⟩ : ByteArray)) := (Z5 BK119.out 1).trans rfl
                 have hcz20_2 : wr.cell? ⟨gb119, 2, none⟩ = some (.int .u32 0) := (Z5 BK119.out 2).trans rfl
                 have hcz20_3 : wr.cell? ⟨gb119, 3, none⟩ = some (.bool false) := (Z5 BK119.out 3).trans rfl
                 have hcz20_4 : wr.cell? ⟨gb119, 4, none⟩ = some (.int .i64 a1) := (Z5 BK119.out 4).trans rfl
                 have hcz20_5 : wr.cell? ⟨gb119, 5, none⟩ = some (.int .i64 x120005_1) := (Z5 BK119.out 5).trans rfl
                 have hfz20_0 := Z2 BK119.out 0
                 have hfz20_1 := Z2 BK119.out 1
                 have hfz20_2 := Z2 BK119.out 2
                 have hfz20_3 := Z2 BK119.out 3
                 have hfz20_4 := Z2 BK119.out 4
                 have hfz20_5 := Z2 BK119.out 5
                 have p9 : 0 ≤ (x120005_1 : Int) := of_decide_eq_true (by first | (with_reducible assumption) | assumption)
                 have q9 : x120005_1 < (a0.size : Int) := of_decide_eq_true (by first | (with_reducible assumption) | assumption)
                 have hx9 := bt_at a0 x120005_1
                 replace p9 := eq_true p9
                 replace q9 := eq_true q9
                 go_wp2_with (first | (go_at_call 24; (with_reducible refine (Z37.calls (bt a0 x120005_1) false _ A10.out).mono ?_); rintro e w' ⟨rfl, ⟨nd, rfl⟩⟩; (try (rw [Z43 wr]; generalize hq_ : World.drewN wr _ = wr; have n0_ : Aside0 (wr.heap[gb118]? = some (.cells #[.int .i64 0, .string (⟨#[]⟩ : ByteArray), .int .u32 0, .bool false, .int .i64 0, .int .i64 0] 24 (0, 0))) := ⟨by rw [← hq_]; exact (by (with_reducible repeat (first | refine Z0 ?_ _ | refine Z3 ?_ | refine Z1 ?_ _)); exact BK118.out)⟩; have n1_ : Aside0 (wr.heap[gb119]? = some (.cells #[.int .i64 2, .string (⟨#[]⟩ : ByteArray), .int .u32 0, .bool false, .int .i64 a1, .int .i64 x120005_1] 24 (0, 0))) := ⟨by rw [← hq_]; exact (by (with_reducible repeat (first | refine Z0 ?_ _ | refine Z3 ?_ | refine Z1 ?_ _)); exact BK119.out)⟩; have n2_ : Aside0 (Below w.heap.size w wr) := ⟨by rw [← hq_]; exact (by repeat (first | (with_reducible first | exact HB.out | apply Z7 | apply Z4 | apply Z6 | refine Z8 ?_ GE118.out | refine Z8 ?_ GE119.out) | exact HB.out))⟩; clear BK118 BK119 HB hq_; have BK118 := n0_; have BK119 := n1_; have HB := n2_; clear n0_ n1_ n2_; have hcy20_0 : wr.cell? ⟨gb119, 0, none⟩ = some (.int .i64 2) := (Z5 BK119.out 0).trans rfl; have hcy20_1 : wr.cell? ⟨gb119, 1, none⟩ = some (.string (⟨#[]⟩ : ByteArray)) := (Z5 BK119.out 1).trans rfl; have hcy20_2 : wr.cell? ⟨gb119, 2, none⟩ = some (.int .u32 0) := (Z5 BK119.out 2).trans rfl; have hcy20_3 : wr.cell? ⟨gb119, 3, none⟩ = some (.bool false) := (Z5 BK119.out 3).trans rfl; have hcy20_4 : wr.cell? ⟨gb119, 4, none⟩ = some (.int .i64 a1) := (Z5 BK119.out 4).trans rfl; have hcy20_5 : wr.cell? ⟨gb119, 5, none⟩ = some (.int .i64 x120005_1) := (Z5 BK119.out 5).trans rfl; have hfy20_0 := Z2 BK119.out 0; have hfy20_1 := Z2 BK119.out 1; have hfy20_2 := Z2 BK119.out 2; have hfy20_3 := Z2 BK119.out 3; have hfy20_4 := Z2 BK119.out 4; have hfy20_5 := Z2 BK119.out 5))) | ((with_reducible refine Z14 (f := 15) rfl ?_); refine goesL_ (some 33) rfl rfl Tryd.func15 (by kernel_rfl) rfl #[.string (a0.extract (a1 : Int).toNat (x120005_1 : Int).toNat)] rfl (by (try simp only [List.map_toArray, List.map_cons, List.map_nil]); first | done | rfl | (simp only [List.length_drop, List.length_take]; rfl)) ?_; (with_reducible refine (Z42.calls k1 (a0.extract (a1 : Int).toNat (x120005_1 : Int).toNat) true _ ?side1 A17.out).mono ?_); (case side1 => refine PremW.below HG.out ?_; repeat (first | (with_reducible first | exact HB.out | apply Z7 | apply Z4 | apply Z6 | refine Z8 ?_ GE118.out | refine Z8 ?_ GE119.out) | exact HB.out)); rintro e w21 ⟨rfl, hb⟩; refine ⟨_, rfl, ?_⟩; have n0_ := Aside0.mk (Z40 (g := gb118) (o := .cells #[.int .i64 0, .string (⟨#[]⟩ : ByteArray), .int .u32 0, .bool false, .int .i64 0, .int .i64 0] 24 (0, 0)) (by (with_reducible repeat (first | refine Z0 ?_ _ | refine Z3 ?_ | refine Z1 ?_ _)); refine Z22 ?_ NB118_119.out _; (with_reducible repeat (first | refine Z0 ?_ _ | refine Z3 ?_ | refine Z1 ?_ _)); exact BK118.out) hb); have n1_ := Aside0.mk (Z40 (g := gb119) (o := .cells #[.int .i64 2, .string (a0.extract (a1 : Int).toNat (x120005_1 : Int).toNat), .int .u32 0, .bool false, .int .i64 a1, .int .i64 x120005_1] 24 (0, 0)) (by (with_reducible repeat (first | refine Z0 ?_ _ | refine Z3 ?_ | refine Z1 ?_ _)); refine Z9 (cs := #[.int .i64 2, .string (⟨#[]⟩ : ByteArray), .int .u32 0, .bool false, .int .i64 a1, .int .i64 x120005_1]) ?_ 1 _ rfl; (with_reducible repeat (first | refine Z0 ?_ _ | refine Z3 ?_ | refine Z1 ?_ _)); exact BK119.out) hb); have n2_ := Aside0.mk (Z25 (by repeat (first | (with_reducible first | exact HB.out | apply Z7 | apply Z4 | apply Z6 | refine Z8 ?_ GE118.out | refine Z8 ?_ GE119.out) | exact HB.out)) hb); clear BK118; clear BK119; clear HB; have BK118 := n0_; have BK119 := n1_; have HB := n2_; clear n0_ n1_ n2_; (try clear hb); (try clear hb2); (try clear hk); (try clear hi); have hcz22_0 : w21.cell? ⟨gb119, 0, none⟩ = some (.int .i64 2) := (Z5 BK119.out 0).trans rfl; have hcz22_1 : w21.cell? ⟨gb119, 1, none⟩ = some (.string (a0.extract (a1 : Int).toNat (x120005_1 : Int).toNat)) := (Z5 BK119.out 1).trans rfl; have hcz22_2 : w21.cell? ⟨gb119, 2, none⟩ = some (.int .u32 0) := (Z5 BK119.out 2).trans rfl; have hcz22_3 : w21.cell? ⟨gb119, 3, none⟩ = some (.bool false) := (Z5 BK119.out 3).trans rfl; have hcz22_4 : w21.cell? ⟨gb119, 4, none⟩ = some (.int .i64 a1) := (Z5 BK119.out 4).trans rfl; have hcz22_5 : w21.cell? ⟨gb119, 5, none⟩ = some (.int .i64 x120005_1) := (Z5 BK119.out 5).trans rfl; have hfz22_0 := Z2 BK119.out 0; have hfz22_1 := Z2 BK119.out 1; have hfz22_2 := Z2 BK119.out 2; have hfz22_3 := Z2 BK119.out 3; have hfz22_4 := Z2 BK119.out 4; have hfz22_5 := Z2 BK119.out 5; have hcz23_0 : w21.cell? ⟨gb118, 0, none⟩ = some (.int .i64 0) := (Z5 BK118.out 0).trans rfl; have hcz23_1 : w21.cell? ⟨gb118, 1, none⟩ = some (.string (⟨#[]⟩ : ByteArray)) := (Z5 BK118.out 1).trans rfl; have hcz23_2 : w21.cell? ⟨gb118, 2, none⟩ = some (.int .u32 0) := (Z5 BK118.out 2).trans rfl; have hcz23_3 : w21.cell? ⟨gb118, 3, none⟩ = some (.bool false) := (Z5 BK118.out 3).trans rfl; have hcz23_4 : w21.cell? ⟨gb118, 4, none⟩ = some (.int .i64 0) := (Z5 BK118.out 4).trans rfl; have hcz23_5 : w21.cell? ⟨gb118, 5, none⟩ = some (.int .i64 0) := (Z5 BK118.out 5).trans rfl; have hfz23_0 := Z2 BK118.out 0; have hfz23_1 := Z2 BK118.out 1; have hfz23_2 := Z2 BK118.out 2; have hfz23_3 := Z2 BK118.out 3; have hfz23_4 := Z2 BK118.out 4; have hfz23_5 := Z2 BK118.out 5))
                 refine bodyPost_ret (results_cell_row rfl _ _ gb118 24 #[.int .i64 3, .string (a0.extract (a1 : Int).toNat (x120005_1 : Int).toNat), .int .u32 0, .bool false, .int .i64 a1, .int .i64 x120005_1] (0, 0) _ rfl (by (with_reducible repeat (first | refine Z0 ?_ _ | refine Z3 ?_ | refine Z1 ?_ _)); refine Z9 (cs := #[.int .i64 3, .string (a0.extract (a1 : Int).toNat (x120005_1 : Int).toNat), .int .u32 0, .bool false, .int .i64 a1, .int .i64 0]) ?_ 5 _ rfl; (with_reducible repeat (first | refine Z0 ?_ _ | refine Z3 ?_ | refine Z1 ?_ _)); refine Z9 (cs := #[.int .i64 3, .string (a0.extract (a1 : Int).toNat (x120005_1 : Int).toNat), .int .u32 0, .bool false, .int .i64 0, .int .i64 0]) ?_ 4 _ rfl; (with_reducible repeat (first | refine Z0 ?_ _ | refine Z3 ?_ | refine Z1 ?_ _)); refine Z9 (cs := #[.int .i64 3, .string (a0.extract (a1 : Int).toNat (x120005_1 : Int).toNat), .int .u32 0, .bool false, .int .i64 0, .int .i64 0]) ?_ 3 _ rfl; (with_reducible repeat (first | refine Z0 ?_ _ | refine Z3 ?_ | refine Z1 ?_ _)); refine Z9 (cs := #[.int .i64 3, .string (a0.extract (a1 : Int).toNat (x120005_1 : Int).toNat), .int .u32 0, .bool false, .int .i64 0, .int .i64 0]) ?_ 2 _ rfl; (with_reducible repeat (first | refine Z0 ?_ _ | refine Z3 ?_ | refine Z1 ?_ _)); refine Z9 (cs := #[.int .i64 3, .string (⟨#[]⟩ : ByteArray), .int .u32 0, .bool false, .int .i64 0, .int .i64 0]) ?_ 1 _ rfl; (with_reducible repeat (first | refine Z0 ?_ _ | refine Z3 ?_ | refine Z1 ?_ _)); refine Z9 (cs := #[.int .i64 0, .string (⟨#[]⟩ : ByteArray), .int .u32 0, .bool false, .int .i64 0, .int .i64 0]) ?_ 0 _ rfl; (with_reducible repeat (first | refine Z0 ?_ _ | refine Z3 ?_ | refine Z1 ?_ _)); refine Z22 ?_ NB118_119.out _; (with_reducible repeat (first | refine Z0 ?_ _ | refine Z3 ?_ | refine Z1 ?_ _)); exact BK118.out) Tryd.underlying24 rfl (by kernel_rfl)) rfl ?_
                 exact ⟨by first | rfl | (simp [Z16, Z15] <;> rfl) | (simp [*, Z16, Z15] <;> rfl), by repeat (first | (with_reducible first | exact HB.out | apply Z7 | apply Z4 | apply Z6 | refine Z8 ?_ GE118.out | refine Z8 ?_ GE119.out) | exact HB.out)⟩
               · replace c18 := Bool.eq_false_iff.mpr c18
                 subst c18
                 have H1 : (some (2, a0.extract (a1 : Int).toNat (x120005_1 : Int).toNat, 0, false, a1, x120005_1)) = some (r1, r2, r3, r4, r5, r6) := by rw [if_neg (show ¬ (false = true) by decide)] at H; exact H
                 clear H
                 have H := H1
                 clear H1
                 simp only [Option.some.injEq, Prod.mk.injEq] at H
                 obtain ⟨rfl, rfl, rfl, rfl, rfl, rfl⟩ := H
                 have hnb24 := NB119_118.out
                 have hnc24 := NB118_119.out
                 have hcz25_0 : wr.cell? ⟨gb119, 0, none⟩ = some (.int .i64 2) := (Z5 BK119.out 0).trans rfl
                 have hcz25_1 : wr.cell? ⟨gb119, 1, none⟩ = some (.string (⟨#[]⟩ : ByteArray)) := (Z5 BK119.out 1).trans rfl
                 have hcz25_2 : wr.cell? ⟨gb119, 2, none⟩ = some (.int .u32 0) := (Z5 BK119.out 2).trans rfl
                 have hcz25_3 : wr.cell? ⟨gb119, 3, none⟩ = some (.bool false) := (Z5 BK119.out 3).trans rfl
                 have hcz25_4 : wr.cell? ⟨gb119, 4, none⟩ = some (.int .i64 a1) := (Z5 BK119.out 4).trans rfl
                 have hcz25_5 : wr.cell? ⟨gb119, 5, none⟩ = some (.int .i64 x120005_1) := (Z5 BK119.out 5).trans rfl
                 have hfz25_0 := Z2 BK119.out 0
                 have hfz25_1 := Z2 BK119.out 1
                 have hfz25_2 := Z2 BK119.out 2
                 have hfz25_3 := Z2 BK119.out 3
                 have hfz25_4 := Z2 BK119.out 4
                 have hfz25_5 := Z2 BK119.out 5
                 have p9 : 0 ≤ (x120005_1 : Int) := of_decide_eq_true (by first | (with_reducible assumption) | assumption)
                 have q9 : x120005_1 < (a0.size : Int) := of_decide_eq_true (by first | (with_reducible assumption) | assumption)
                 have hx9 := bt_at a0 x120005_1
                 replace p9 := eq_true p9
                 replace q9 := eq_true q9
                 go_wp2_with (first | (go_at_call 24; (with_reducible refine (Z37.calls (bt a0 x120005_1) false _ A10.out).mono ?_); rintro e w' ⟨rfl, ⟨nd, rfl⟩⟩; (try (rw [Z43 wr]; generalize hq_ : World.drewN wr _ = wr; have n0_ : Aside0 (wr.heap[gb118]? = some (.cells #[.int .i64 0, .string (⟨#[]⟩ : ByteArray), .int .u32 0, .bool false, .int .i64 0, .int .i64 0] 24 (0, 0))) := ⟨by rw [← hq_]; exact (by (with_reducible repeat (first | refine Z0 ?_ _ | refine Z3 ?_ | refine Z1 ?_ _)); exact BK118.out)⟩; have n1_ : Aside0 (wr.heap[gb119]? = some (.cells #[.int .i64 2, .string (⟨#[]⟩ : ByteArray), .int .u32 0, .bool false, .int .i64 a1, .int .i64 x120005_1] 24 (0, 0))) := ⟨by rw [← hq_]; exact (by (with_reducible repeat (first | refine Z0 ?_ _ | refine Z3 ?_ | refine Z1 ?_ _)); exact BK119.out)⟩; have n2_ : Aside0 (Below w.heap.size w wr) := ⟨by rw [← hq_]; exact (by repeat (first | (with_reducible first | exact HB.out | apply Z7 | apply Z4 | apply Z6 | refine Z8 ?_ GE118.out | refine Z8 ?_ GE119.out) | exact HB.out))⟩; clear BK118 BK119 HB hq_; have BK118 := n0_; have BK119 := n1_; have HB := n2_; clear n0_ n1_ n2_; have hcy25_0 : wr.cell? ⟨gb119, 0, none⟩ = some (.int .i64 2) := (Z5 BK119.out 0).trans rfl; have hcy25_1 : wr.cell? ⟨gb119, 1, none⟩ = some (.string (⟨#[]⟩ : ByteArray)) := (Z5 BK119.out 1).trans rfl; have hcy25_2 : wr.cell? ⟨gb119, 2, none⟩ = some (.int .u32 0) := (Z5 BK119.out 2).trans rfl; have hcy25_3 : wr.cell? ⟨gb119, 3, none⟩ = some (.bool false) := (Z5 BK119.out 3).trans rfl; have hcy25_4 : wr.cell? ⟨gb119, 4, none⟩ = some (.int .i64 a1) := (Z5 BK119.out 4).trans rfl; have hcy25_5 : wr.cell? ⟨gb119, 5, none⟩ = some (.int .i64 x120005_1) := (Z5 BK119.out 5).trans rfl; have hfy25_0 := Z2 BK119.out 0; have hfy25_1 := Z2 BK119.out 1; have hfy25_2 := Z2 BK119.out 2; have hfy25_3 := Z2 BK119.out 3; have hfy25_4 := Z2 BK119.out 4; have hfy25_5 := Z2 BK119.out 5))) | ((with_reducible refine Z14 (f := 15) rfl ?_); refine goesL_ (some 33) rfl rfl Tryd.func15 (by kernel_rfl) rfl #[.string (a0.extract (a1 : Int).toNat (x120005_1 : Int).toNat)] rfl (by (try simp only [List.map_toArray, List.map_cons, List.map_nil]); first | done | rfl | (simp only [List.length_drop, List.length_take]; rfl)) ?_; (with_reducible refine (Z42.calls k1 (a0.extract (a1 : Int).toNat (x120005_1 : Int).toNat) false _ ?side1 A17.out).mono ?_); (case side1 => refine PremW.below HG.out ?_; repeat (first | (with_reducible first | exact HB.out | apply Z7 | apply Z4 | apply Z6 | refine Z8 ?_ GE118.out | refine Z8 ?_ GE119.out) | exact HB.out)); rintro e w26 ⟨rfl, hb⟩; refine ⟨_, rfl, ?_⟩; have n0_ := Aside0.mk (Z40 (g := gb118) (o := .cells #[.int .i64 0, .string (⟨#[]⟩ : ByteArray), .int .u32 0, .bool false, .int .i64 0, .int .i64 0] 24 (0, 0)) (by (with_reducible repeat (first | refine Z0 ?_ _ | refine Z3 ?_ | refine Z1 ?_ _)); refine Z22 ?_ NB118_119.out _; (with_reducible repeat (first | refine Z0 ?_ _ | refine Z3 ?_ | refine Z1 ?_ _)); exact BK118.out) hb); have n1_ := Aside0.mk (Z40 (g := gb119) (o := .cells #[.int .i64 2, .string (a0.extract (a1 : Int).toNat (x120005_1 : Int).toNat), .int .u32 0, .bool false, .int .i64 a1, .int .i64 x120005_1] 24 (0, 0)) (by (with_reducible repeat (first | refine Z0 ?_ _ | refine Z3 ?_ | refine Z1 ?_ _)); refine Z9 (cs := #[.int .i64 2, .string (⟨#[]⟩ : ByteArray), .int .u32 0, .bool false, .int .i64 a1, .int .i64 x120005_1]) ?_ 1 _ rfl; (with_reducible repeat (first | refine Z0 ?_ _ | refine Z3 ?_ | refine Z1 ?_ _)); exact BK119.out) hb); have n2_ := Aside0.mk (Z25 (by repeat (first | (with_reducible first | exact HB.out | apply Z7 | apply Z4 | apply Z6 | refine Z8 ?_ GE118.out | refine Z8 ?_ GE119.out) | exact HB.out)) hb); clear BK118; clear BK119; clear HB; have BK118 := n0_; have BK119 := n1_; have HB := n2_; clear n0_ n1_ n2_; (try clear hb); (try clear hb2); (try clear hk); (try clear hi); have hcz27_0 : w26.cell? ⟨gb119, 0, none⟩ = some (.int .i64 2) := (Z5 BK119.out 0).trans rfl; have hcz27_1 : w26.cell? ⟨gb119, 1, none⟩ = some (.string (a0.extract (a1 : Int).toNat (x120005_1 : Int).toNat)) := (Z5 BK119.out 1).trans rfl; have hcz27_2 : w26.cell? ⟨gb119, 2, none⟩ = some (.int .u32 0) := (Z5 BK119.out 2).trans rfl; have hcz27_3 : w26.cell? ⟨gb119, 3, none⟩ = some (.bool false) := (Z5 BK119.out 3).trans rfl; have hcz27_4 : w26.cell? ⟨gb119, 4, none⟩ = some (.int .i64 a1) := (Z5 BK119.out 4).trans rfl; have hcz27_5 : w26.cell? ⟨gb119, 5, none⟩ = some (.int .i64 x120005_1) := (Z5 BK119.out 5).trans rfl; have hfz27_0 := Z2 BK119.out 0; have hfz27_1 := Z2 BK119.out 1; have hfz27_2 := Z2 BK119.out 2; have hfz27_3 := Z2 BK119.out 3; have hfz27_4 := Z2 BK119.out 4; have hfz27_5 := Z2 BK119.out 5; have hcz28_0 : w26.cell? ⟨gb118, 0, none⟩ = some (.int .i64 0) := (Z5 BK118.out 0).trans rfl; have hcz28_1 : w26.cell? ⟨gb118, 1, none⟩ = some (.string (⟨#[]⟩ : ByteArray)) := (Z5 BK118.out 1).trans rfl; have hcz28_2 : w26.cell? ⟨gb118, 2, none⟩ = some (.int .u32 0) := (Z5 BK118.out 2).trans rfl; have hcz28_3 : w26.cell? ⟨gb118, 3, none⟩ = some (.bool false) := (Z5 BK118.out 3).trans rfl; have hcz28_4 : w26.cell? ⟨gb118, 4, none⟩ = some (.int .i64 0) := (Z5 BK118.out 4).trans rfl; have hcz28_5 : w26.cell? ⟨gb118, 5, none⟩ = some (.int .i64 0) := (Z5 BK118.out 5).trans rfl; have hfz28_0 := Z2 BK118.out 0; have hfz28_1 := Z2 BK118.out 1; have hfz28_2 := Z2 BK118.out 2; have hfz28_3 := Z2 BK118.out 3; have hfz28_4 := Z2 BK118.out 4; have hfz28_5 := Z2 BK118.out 5))
                 refine bodyPost_ret (results_cell_row rfl _ _ gb118 24 #[.int .i64 2, .string (a0.extract (a1 : Int).toNat (x120005_1 : Int).toNat), .int .u32 0, .bool false, .int .i64 a1, .int .i64 x120005_1] (0, 0) _ rfl (by (with_reducible repeat (first | refine Z0 ?_ _ | refine Z3 ?_ | refine Z1 ?_ _)); refine Z9 (cs := #[.int .i64 2, .string (a0.extract (a1 : Int).toNat (x120005_1 : Int).toNat), .int .u32 0, .bool false, .int .i64 a1, .int .i64 0]) ?_ 5 _ rfl; (with_reducible repeat (first | refine Z0 ?_ _ | refine Z3 ?_ | refine Z1 ?_ _)); refine Z9 (cs := #[.int .i64 2, .string (a0.extract (a1 : Int).toNat (x120005_1 : Int).toNat), .int .u32 0, .bool false, .int .i64 0, .int .i64 0]) ?_ 4 _ rfl; (with_reducible repeat (first | refine Z0 ?_ _ | refine Z3 ?_ | refine Z1 ?_ _)); refine Z9 (cs := #[.int .i64 2, .string (a0.extract (a1 : Int).toNat (x120005_1 : Int).toNat), .int .u32 0, .bool false, .int .i64 0, .int .i64 0]) ?_ 3 _ rfl; (with_reducible repeat (first | refine Z0 ?_ _ | refine Z3 ?_ | refine Z1 ?_ _)); refine Z9 (cs := #[.int .i64 2, .string (a0.extract (a1 : Int).toNat (x120005_1 : Int).toNat), .int .u32 0, .bool false, .int .i64 0, .int .i64 0]) ?_ 2 _ rfl; (with_reducible repeat (first | refine Z0 ?_ _ | refine Z3 ?_ | refine Z1 ?_ _)); refine Z9 (cs := #[.int .i64 2, .string (⟨#[]⟩ : ByteArray), .int .u32 0, .bool false, .int .i64 0, .int .i64 0]) ?_ 1 _ rfl; (with_reducible repeat (first | refine Z0 ?_ _ | refine Z3 ?_ | refine Z1 ?_ _)); refine Z9 (cs := #[.int .i64 0, .string (⟨#[]⟩ : ByteArray), .int .u32 0, .bool false, .int .i64 0, .int .i64 0]) ?_ 0 _ rfl; (with_reducible repeat (first | refine Z0 ?_ _ | refine Z3 ?_ | refine Z1 ?_ _)); exact BK118.out) Tryd.underlying24 rfl (by kernel_rfl)) rfl ?_
                 exact ⟨by first | rfl | (simp [Z16, Z15] <;> rfl) | (simp [*, Z16, Z15] <;> rfl), by repeat (first | (with_reducible first | exact HB.out | apply Z7 | apply Z4 | apply Z6 | refine Z8 ?_ GE118.out | refine Z8 ?_ GE119.out) | exact HB.out)⟩
             · rw [if_neg c16] at H
               exact absurd H (by simp)
           · rw [if_neg c15] at H
             exact absurd H (by simp)
         · rw [if_neg c14] at H
           exact absurd H (by simp)
     · rw [if_neg c8] at H
       exact absurd H (by simp)
   · rw [if_neg c7] at H
     have c7b0 : decide (x120005_1 < (a0.size : Int)) = false := decide_eq_false c7
     clear c7
     by_cases c29 : 0 ≤ a1
     · rw [if_pos c29] at H
       have c29b0 := eq_true c29
       have c29b1 : decide (0 ≤ a1) = true := decide_eq_true c29
       clear c29
       by_cases c30 : a1 ≤ x120005_1
       · rw [if_pos c30] at H
         have c30b0 := eq_true c30
         have c30b1 : decide (a1 ≤ x120005_1) = true := decide_eq_true c30
         clear c30
         by_cases c31 : x120005_1 ≤ (a0.size : Int)
         · rw [if_pos c31] at H
           have c31b0 := eq_true c31
           have c31b1 : decide (x120005_1 ≤ (a0.size : Int)) = true := decide_eq_true c31
           clear c31
           replace H := Option.bind_eq_some_iff.mp H
           obtain ⟨t122, A320, H⟩ := H
           replace H : (if t122 = true then (some (3, a0.extract (a1 : Int).toNat (x120005_1 : Int).toNat, 0, false, a1, x120005_1)) else (some (2, a0.extract (a1 : Int).toNat (x120005_1 : Int).toNat, 0, false, a1, x120005_1))) = some (r1, r2, r3, r4, r5, r6) := H
           have A32 := Aside0.mk A320
           clear A320
           by_cases c33 : t122 = true
           · subst c33
             have H1 : (some (3, a0.extract (a1 : Int).toNat (x120005_1 : Int).toNat, 0, false, a1, x120005_1)) = some (r1, r2, r3, r4, r5, r6) := by rw [if_pos rfl] at H; exact H
             clear H
             have H := H1
             clear H1
             simp only [Option.some.injEq, Prod.mk.injEq] at H
             obtain ⟨rfl, rfl, rfl, rfl, rfl, rfl⟩ := H
             have hnb34 := NB119_118.out
             have hnc34 := NB118_119.out
             have hcz35_0 : wr.cell? ⟨gb119, 0, none⟩ = some (.int .i64 2) := (Z5 BK119.out 0).trans rfl
             have hcz35_1 : wr.cell? ⟨gb119, 1, none⟩ = some (.string (⟨#[]⟩ : ByteArray)) := (Z5 BK119.out 1).trans rfl
             have hcz35_2 : wr.cell? ⟨gb119, 2, none⟩ = some (.int .u32 0) := (Z5 BK119.out 2).trans rfl
             have hcz35_3 : wr.cell? ⟨gb119, 3, none⟩ = some (.bool false) := (Z5 BK119.out 3).trans rfl
             have hcz35_4 : wr.cell? ⟨gb119, 4, none⟩ = some (.int .i64 a1) := (Z5 BK119.out 4).trans rfl
             have hcz35_5 : wr.cell? ⟨gb119, 5, none⟩ = some (.int .i64 x120005_1) := (Z5 BK119.out 5).trans rfl
             have hfz35_0 := Z2 BK119.out 0
             have hfz35_1 := Z2 BK119.out 1
             have hfz35_2 := Z2 BK119.out 2
             have hfz35_3 := Z2 BK119.out 3
             have hfz35_4 := Z2 BK119.out 4
             have hfz35_5 := Z2 BK119.out 5
             go_wp2_with (first | ((with_reducible refine Z14 (f := 15) rfl ?_); refine goesL_ (some 33) rfl rfl Tryd.func15 (by kernel_rfl) rfl #[.string (a0.extract (a1 : Int).toNat (x120005_1 : Int).toNat)] rfl (by (try simp only [List.map_toArray, List.map_cons, List.map_nil]); first | done | rfl | (simp only [List.length_drop, List.length_take]; rfl)) ?_; (with_reducible refine (Z42.calls k1 (a0.extract (a1 : Int).toNat (x120005_1 : Int).toNat) true _ ?side1 A32.out).mono ?_); (case side1 => refine PremW.below HG.out ?_; repeat (first | (with_reducible first | exact HB.out | apply Z7 | apply Z4 | apply Z6 | refine Z8 ?_ GE118.out | refine Z8 ?_ GE119.out) | exact HB.out)); rintro e w36 ⟨rfl, hb⟩; refine ⟨_, rfl, ?_⟩; have n0_ := Aside0.mk (Z40 (g := gb118) (o := .cells #[.int .i64 0, .string (⟨#[]⟩ : ByteArray), .int .u32 0, .bool false, .int .i64 0, .int .i64 0] 24 (0, 0)) (by (with_reducible repeat (first | refine Z0 ?_ _ | refine Z3 ?_ | refine Z1 ?_ _)); refine Z22 ?_ NB118_119.out _; (with_reducible repeat (first | refine Z0 ?_ _ | refine Z3 ?_ | refine Z1 ?_ _)); exact BK118.out) hb); have n1_ := Aside0.mk (Z40 (g := gb119) (o := .cells #[.int .i64 2, .string (a0.extract (a1 : Int).toNat (x120005_1 : Int).toNat), .int .u32 0, .bool false, .int .i64 a1, .int .i64 x120005_1] 24 (0, 0)) (by (with_reducible repeat (first | refine Z0 ?_ _ | refine Z3 ?_ | refine Z1 ?_ _)); refine Z9 (cs := #[.int .i64 2, .string (⟨#[]⟩ : ByteArray), .int .u32 0, .bool false, .int .i64 a1, .int .i64 x120005_1]) ?_ 1 _ rfl; (with_reducible repeat (first | refine Z0 ?_ _ | refine Z3 ?_ | refine Z1 ?_ _)); exact BK119.out) hb); have n2_ := Aside0.mk (Z25 (by repeat (first | (with_reducible first | exact HB.out | apply Z7 | apply Z4 | apply Z6 | refine Z8 ?_ GE118.out | refine Z8 ?_ GE119.out) | exact HB.out)) hb); clear BK118; clear BK119; clear HB; have BK118 := n0_; have BK119 := n1_; have HB := n2_; clear n0_ n1_ n2_; (try clear hb); (try clear hb2); (try clear hk); (try clear hi); have hcz37_0 : w36.cell? ⟨gb119, 0, none⟩ = some (.int .i64 2) := (Z5 BK119.out 0).trans rfl; have hcz37_1 : w36.cell? ⟨gb119, 1, none⟩ = some (.string (a0.extract (a1 : Int).toNat (x120005_1 : Int).toNat)) := (Z5 BK119.out 1).trans rfl; have hcz37_2 : w36.cell? ⟨gb119, 2, none⟩ = some (.int .u32 0) := (Z5 BK119.out 2).trans rfl; have hcz37_3 : w36.cell? ⟨gb119, 3, none⟩ = some (.bool false) := (Z5 BK119.out 3).trans rfl; have hcz37_4 : w36.cell? ⟨gb119, 4, none⟩ = some (.int .i64 a1) := (Z5 BK119.out 4).trans rfl; have hcz37_5 : w36.cell? ⟨gb119, 5, none⟩ = some (.int .i64 x120005_1) := (Z5 BK119.out 5).trans rfl; have hfz37_0 := Z2 BK119.out 0; have hfz37_1 := Z2 BK119.out 1; have hfz37_2 := Z2 BK119.out 2; have hfz37_3 := Z2 BK119.out 3; have hfz37_4 := Z2 BK119.out 4; have hfz37_5 := Z2 BK119.out 5; have hcz38_0 : w36.cell? ⟨gb118, 0, none⟩ = some (.int .i64 0) := (Z5 BK118.out 0).trans rfl; have hcz38_1 : w36.cell? ⟨gb118, 1, none⟩ = some (.string (⟨#[]⟩ : ByteArray)) := (Z5 BK118.out 1).trans rfl; have hcz38_2 : w36.cell? ⟨gb118, 2, none⟩ = some (.int .u32 0) := (Z5 BK118.out 2).trans rfl; have hcz38_3 : w36.cell? ⟨gb118, 3, none⟩ = some (.bool false) := (Z5 BK118.out 3).trans rfl; have hcz38_4 : w36.cell? ⟨gb118, 4, none⟩ = some (.int .i64 0) := (Z5 BK118.out 4).trans rfl; have hcz38_5 : w36.cell? ⟨gb118, 5, none⟩ = some (.int .i64 0) := (Z5 BK118.out 5).trans rfl; have hfz38_0 := Z2 BK118.out 0; have hfz38_1 := Z2 BK118.out 1; have hfz38_2 := Z2 BK118.out 2; have hfz38_3 := Z2 BK118.out 3; have hfz38_4 := Z2 BK118.out 4; have hfz38_5 := Z2 BK118.out 5))
             refine bodyPost_ret (results_cell_row rfl _ _ gb118 24 #[.int .i64 3, .string (a0.extract (a1 : Int).toNat (x120005_1 : Int).toNat), .int .u32 0, .bool false, .int .i64 a1, .int .i64 x120005_1] (0, 0) _ rfl (by (with_reducible repeat (first | refine Z0 ?_ _ | refine Z3 ?_ | refine Z1 ?_ _)); refine Z9 (cs := #[.int .i64 3, .string (a0.extract (a1 : Int).toNat (x120005_1 : Int).toNat), .int .u32 0, .bool false, .int .i64 a1, .int .i64 0]) ?_ 5 _ rfl; (with_reducible repeat (first | refine Z0 ?_ _ | refine Z3 ?_ | refine Z1 ?_ _)); refine Z9 (cs := #[.int .i64 3, .string (a0.extract (a1 : Int).toNat (x120005_1 : Int).toNat), .int .u32 0, .bool false, .int .i64 0, .int .i64 0]) ?_ 4 _ rfl; (with_reducible repeat (first | refine Z0 ?_ _ | refine Z3 ?_ | refine Z1 ?_ _)); refine Z9 (cs := #[.int .i64 3, .string (a0.extract (a1 : Int).toNat (x120005_1 : Int).toNat), .int .u32 0, .bool false, .int .i64 0, .int .i64 0]) ?_ 3 _ rfl; (with_reducible repeat (first | refine Z0 ?_ _ | refine Z3 ?_ | refine Z1 ?_ _)); refine Z9 (cs := #[.int .i64 3, .string (a0.extract (a1 : Int).toNat (x120005_1 : Int).toNat), .int .u32 0, .bool false, .int .i64 0, .int .i64 0]) ?_ 2 _ rfl; (with_reducible repeat (first | refine Z0 ?_ _ | refine Z3 ?_ | refine Z1 ?_ _)); refine Z9 (cs := #[.int .i64 3, .string (⟨#[]⟩ : ByteArray), .int .u32 0, .bool false, .int .i64 0, .int .i64 0]) ?_ 1 _ rfl; (with_reducible repeat (first | refine Z0 ?_ _ | refine Z3 ?_ | refine Z1 ?_ _)); refine Z9 (cs := #[.int .i64 0, .string (⟨#[]⟩ : ByteArray), .int .u32 0, .bool false, .int .i64 0, .int .i64 0]) ?_ 0 _ rfl; (with_reducible repeat (first | refine Z0 ?_ _ | refine Z3 ?_ | refine Z1 ?_ _)); refine Z22 ?_ NB118_119.out _; (with_reducible repeat (first | refine Z0 ?_ _ | refine Z3 ?_ | refine Z1 ?_ _)); exact BK118.out) Tryd.underlying24 rfl (by kernel_rfl)) rfl ?_
             exact ⟨by first | rfl | (simp [Z16, Z15] <;> rfl) | (simp [*, Z16, Z15] <;> rfl), by repeat (first | (with_reducible first | exact HB.out | apply Z7 | apply Z4 | apply Z6 | refine Z8 ?_ GE118.out | refine Z8 ?_ GE119.out) | exact HB.out)⟩
           · replace c33 := Bool.eq_false_iff.mpr c33
             subst c33
             have H1 : (some (2, a0.extract (a1 : Int).toNat (x120005_1 : Int).toNat, 0, false, a1, x120005_1)) = some (r1, r2, r3, r4, r5, r6) := by rw [if_neg (show ¬ (false = true) by decide)] at H; exact H
             clear H
             have H := H1
             clear H1
             simp only [Option.some.injEq, Prod.mk.injEq] at H
             obtain ⟨rfl, rfl, rfl, rfl, rfl, rfl⟩ := H
             have hnb39 := NB119_118.out
             have hnc39 := NB118_119.out
             have hcz40_0 : wr.cell? ⟨gb119, 0, none⟩ = some (.int .i64 2) := (Z5 BK119.out 0).trans rfl
             have hcz40_1 : wr.cell? ⟨gb119, 1, none⟩ = some (.string (⟨#[]⟩ : ByteArray)) := (Z5 BK119.out 1).trans rfl
             have hcz40_2 : wr.cell? ⟨gb119, 2, none⟩ = some (.int .u32 0) := (Z5 BK119.out 2).trans rfl
             have hcz40_3 : wr.cell? ⟨gb119, 3, none⟩ = some (.bool false) := (Z5 BK119.out 3).trans rfl
             have hcz40_4 : wr.cell? ⟨gb119, 4, none⟩ = some (.int .i64 a1) := (Z5 BK119.out 4).trans rfl
             have hcz40_5 : wr.cell? ⟨gb119, 5, none⟩ = some (.int .i64 x120005_1) := (Z5 BK119.out 5).trans rfl
             have hfz40_0 := Z2 BK119.out 0
             have hfz40_1 := Z2 BK119.out 1
             have hfz40_2 := Z2 BK119.out 2
             have hfz40_3 := Z2 BK119.out 3
             have hfz40_4 := Z2 BK119.out 4
             have hfz40_5 := Z2 BK119.out 5
             go_wp2_with (first | ((with_reducible refine Z14 (f := 15) rfl ?_); refine goesL_ (some 33) rfl rfl Tryd.func15 (by kernel_rfl) rfl #[.string (a0.extract (a1 : Int).toNat (x120005_1 : Int).toNat)] rfl (by (try simp only [List.map_toArray, List.map_cons, List.map_nil]); first | done | rfl | (simp only [List.length_drop, List.length_take]; rfl)) ?_; (with_reducible refine (Z42.calls k1 (a0.extract (a1 : Int).toNat (x120005_1 : Int).toNat) false _ ?side1 A32.out).mono ?_); (case side1 => refine PremW.below HG.out ?_; repeat (first | (with_reducible first | exact HB.out | apply Z7 | apply Z4 | apply Z6 | refine Z8 ?_ GE118.out | refine Z8 ?_ GE119.out) | exact HB.out)); rintro e w41 ⟨rfl, hb⟩; refine ⟨_, rfl, ?_⟩; have n0_ := Aside0.mk (Z40 (g := gb118) (o := .cells #[.int .i64 0, .string (⟨#[]⟩ : ByteArray), .int .u32 0, .bool false, .int .i64 0, .int .i64 0] 24 (0, 0)) (by (with_reducible repeat (first | refine Z0 ?_ _ | refine Z3 ?_ | refine Z1 ?_ _)); refine Z22 ?_ NB118_119.out _; (with_reducible repeat (first | refine Z0 ?_ _ | refine Z3 ?_ | refine Z1 ?_ _)); exact BK118.out) hb); have n1_ := Aside0.mk (Z40 (g := gb119) (o := .cells #[.int .i64 2, .string (a0.extract (a1 : Int).toNat (x120005_1 : Int).toNat), .int .u32 0, .bool false, .int .i64 a1, .int .i64 x120005_1] 24 (0, 0)) (by (with_reducible repeat (first | refine Z0 ?_ _ | refine Z3 ?_ | refine Z1 ?_ _)); refine Z9 (cs := #[.int .i64 2, .string (⟨#[]⟩ : ByteArray), .int .u32 0, .bool false, .int .i64 a1, .int .i64 x120005_1]) ?_ 1 _ rfl; (with_reducible repeat (first | refine Z0 ?_ _ | refine Z3 ?_ | refine Z1 ?_ _)); exact BK119.out) hb); have n2_ := Aside0.mk (Z25 (by repeat (first | (with_reducible first | exact HB.out | apply Z7 | apply Z4 | apply Z6 | refine Z8 ?_ GE118.out | refine Z8 ?_ GE119.out) | exact HB.out)) hb); clear BK118; clear BK119; clear HB; have BK118 := n0_; have BK119 := n1_; have HB := n2_; clear n0_ n1_ n2_; (try clear hb); (try clear hb2); (try clear hk); (try clear hi); have hcz42_0 : w41.cell? ⟨gb119, 0, none⟩ = some (.int .i64 2) := (Z5 BK119.out 0).trans rfl; have hcz42_1 : w41.cell? ⟨gb119, 1, none⟩ = some (.string (a0.extract (a1 : Int).toNat (x120005_1 : Int).toNat)) := (Z5 BK119.out 1).trans rfl; have hcz42_2 : w41.cell? ⟨gb119, 2, none⟩ = some (.int .u32 0) := (Z5 BK119.out 2).trans rfl; have hcz42_3 : w41.cell? ⟨gb119, 3, none⟩ = some (.bool false) := (Z5 BK119.out 3).trans rfl; have hcz42_4 : w41.cell? ⟨gb119, 4, none⟩ = some (.int .i64 a1) := (Z5 BK119.out 4).trans rfl; have hcz42_5 : w41.cell? ⟨gb119, 5, none⟩ = some (.int .i64 x120005_1) := (Z5 BK119.out 5).trans rfl; have hfz42_0 := Z2 BK119.out 0; have hfz42_1 := Z2 BK119.out 1; have hfz42_2 := Z2 BK119.out 2; have hfz42_3 := Z2 BK119.out 3; have hfz42_4 := Z2 BK119.out 4; have hfz42_5 := Z2 BK119.out 5; have hcz43_0 : w41.cell? ⟨gb118, 0, none⟩ = some (.int .i64 0) := (Z5 BK118.out 0).trans rfl; have hcz43_1 : w41.cell? ⟨gb118, 1, none⟩ = some (.string (⟨#[]⟩ : ByteArray)) := (Z5 BK118.out 1).trans rfl; have hcz43_2 : w41.cell? ⟨gb118, 2, none⟩ = some (.int .u32 0) := (Z5 BK118.out 2).trans rfl; have hcz43_3 : w41.cell? ⟨gb118, 3, none⟩ = some (.bool false) := (Z5 BK118.out 3).trans rfl; have hcz43_4 : w41.cell? ⟨gb118, 4, none⟩ = some (.int .i64 0) := (Z5 BK118.out 4).trans rfl; have hcz43_5 : w41.cell? ⟨gb118, 5, none⟩ = some (.int .i64 0) := (Z5 BK118.out 5).trans rfl; have hfz43_0 := Z2 BK118.out 0; have hfz43_1 := Z2 BK118.out 1; have hfz43_2 := Z2 BK118.out 2; have hfz43_3 := Z2 BK118.out 3; have hfz43_4 := Z2 BK118.out 4; have hfz43_5 := Z2 BK118.out 5))
             refine bodyPost_ret (results_cell_row rfl _ _ gb118 24 #[.int .i64 2, .string (a0.extract (a1 : Int).toNat (x120005_1 : Int).toNat), .int .u32 0, .bool false, .int .i64 a1, .int .i64 x120005_1] (0, 0) _ rfl (by (with_reducible repeat (first | refine Z0 ?_ _ | refine Z3 ?_ | refine Z1 ?_ _)); refine Z9 (cs := #[.int .i64 2, .string (a0.extract (a1 : Int).toNat (x120005_1 : Int).toNat), .int .u32 0, .bool false, .int .i64 a1, .int .i64 0]) ?_ 5 _ rfl; (with_reducible repeat (first | refine Z0 ?_ _ | refine Z3 ?_ | refine Z1 ?_ _)); refine Z9 (cs := #[.int .i64 2, .string (a0.extract (a1 : Int).toNat (x120005_1 : Int).toNat), .int .u32 0, .bool false, .int .i64 0, .int .i64 0]) ?_ 4 _ rfl; (with_reducible repeat (first | refine Z0 ?_ _ | refine Z3 ?_ | refine Z1 ?_ _)); refine Z9 (cs := #[.int .i64 2, .string (a0.extract (a1 : Int).toNat (x120005_1 : Int).toNat), .int .u32 0, .bool false, .int .i64 0, .int .i64 0]) ?_ 3 _ rfl; (with_reducible repeat (first | refine Z0 ?_ _ | refine Z3 ?_ | refine Z1 ?_ _)); refine Z9 (cs := #[.int .i64 2, .string (a0.extract (a1 : Int).toNat (x120005_1 : Int).toNat), .int .u32 0, .bool false, .int .i64 0, .int .i64 0]) ?_ 2 _ rfl; (with_reducible repeat (first | refine Z0 ?_ _ | refine Z3 ?_ | refine Z1 ?_ _)); refine Z9 (cs := #[.int .i64 2, .string (⟨#[]⟩ : ByteArray), .int .u32 0, .bool false, .int .i64 0, .int .i64 0]) ?_ 1 _ rfl; (with_reducible repeat (first | refine Z0 ?_ _ | refine Z3 ?_ | refine Z1 ?_ _)); refine Z9 (cs := #[.int .i64 0, .string (⟨#[]⟩ : ByteArray), .int .u32 0, .bool false, .int .i64 0, .int .i64 0]) ?_ 0 _ rfl; (with_reducible repeat (first | refine Z0 ?_ _ | refine Z3 ?_ | refine Z1 ?_ _)); exact BK118.out) Tryd.underlying24 rfl (by kernel_rfl)) rfl ?_
             exact ⟨by first | rfl | (simp [Z16, Z15] <;> rfl) | (simp [*, Z16, Z15] <;> rfl), by repeat (first | (with_reducible first | exact HB.out | apply Z7 | apply Z4 | apply Z6 | refine Z8 ?_ GE118.out | refine Z8 ?_ GE119.out) | exact HB.out)⟩
         · rw [if_neg c31] at H
           exact absurd H (by simp)
       · rw [if_neg c30] at H
         exact absurd H (by simp)
     · rw [if_neg c29] at H
       exact absurd H (by simp)
end Go.Proofs.YtbmfadmoficfiaaDoor.Q
namespace Go.Proofs.YtbmfadmoficfiaaDoor.Q
open Go.RowKit Go.Proofs.YtbmfadmoficfiaaDoorW.PrintWords Go.Proofs.YtbmfadmoficfiaaDoorW.PrintLast Go.Proofs.YtbmfadmoficfiaaDoorW.PrintMore
attribute [local go_sem] Z56 Z54 Z61 Z60 Z49 Z48 Z55 Z53
set_option linter.unusedVariables false
set_option linter.unusedSimpArgs false
mutual
def Z24.j0 : Nat → ByteArray → Int → Bool → Option (Int × Int × Bool)
 | 0, _, _, _ => none
 | k + 1, x0, x1, x32 => if x32 = true then (some (0, x1, false)) else (if 0 ≤ x1 then (if x1 < (x0.size : Int) then (if (bt x0 x1) = 92 then (if (wrap64 (x1 + 1)) ≥ (x0.size : Int) then (some (0, x1, false)) else (if 0 ≤ (wrap64 (x1 + 1)) then (if (wrap64 (x1 + 1)) < (x0.size : Int) then ((strings_IndexByte.f (⟨#[110, 116, 114, 48, 92, 39, 34]⟩ : ByteArray) (bt x0 (wrap64 (x1 + 1)))).bind fun t123 => (if t123 ≥ 0 then (if 0 ≤ t123 then (if t123 < 7 then (some (bt (⟨#[10, 9, 13, 0, 92, 39, 34]⟩ : ByteArray) t123, wrap64 (x1 + 2), true)) else (none)) else (none)) else (if (bt x0 (wrap64 (x1 + 1))) = 120 then (if (wrap64 (x1 + 3)) ≥ (x0.size : Int) then (Z24.j1 k x0 x1 true) else (if 0 ≤ (wrap64 (x1 + 2)) then (if (wrap64 (x1 + 2)) < (x0.size : Int) then ((Z13.f k (bt x0 (wrap64 (x1 + 2)))).bind fun t124 => (if t124 > 15 then (Z24.j1 k x0 x1 true) else (if 0 ≤ (wrap64 (x1 + 3)) then (if (wrap64 (x1 + 3)) < (x0.size : Int) then ((Z13.f k (bt x0 (wrap64 (x1 + 3)))).bind fun t125 => (Z24.j1 k x0 x1 (decide (t125 > 15)))) else (none)) else (none)))) else (none)) else (none))) else (Z24.j1 k x0 x1 true)))) else (none)) else (none))) else (some (bt x0 x1, wrap64 (x1 + 1), true))) else (none)) else (none))
def Z24.j1 : Nat → ByteArray → Int → Bool → Option (Int × Int × Bool)
 | 0, _, _, _ => none
 | k + 1, x0, x1, x87 => if x87 = true then (some (0, x1, false)) else (if 0 ≤ (wrap64 (x1 + 2)) then (if (wrap64 (x1 + 2)) < (x0.size : Int) then ((Z13.f k (bt x0 (wrap64 (x1 + 2)))).bind fun t126 => (if 0 ≤ (wrap64 (x1 + 3)) then (if (wrap64 (x1 + 3)) < (x0.size : Int) then ((Z13.f k (bt x0 (wrap64 (x1 + 3)))).bind fun t127 => (some ((Go.bits .or .i64 (wrap64 (t126 * 16)) t127) % 256, wrap64 (x1 + 4), true))) else (none)) else (none))) else (none)) else (none))
end
def Z24.f (k : Nat) (a0 : ByteArray) (a1 : Int) (a2 : Int) : Option (Int × Int × Bool) := if a1 ≥ (a0.size : Int) then (Z24.j0 k a0 a1 true) else (if 0 ≤ a1 then (if a1 < (a0.size : Int) then (if (bt a0 a1) < 32 then (Z24.j0 k a0 a1 true) else (if (bt a0 a1) > 126 then (Z24.j0 k a0 a1 true) else (Z24.j0 k a0 a1 ((bt a0 a1) == a2)))) else (none)) else (none))
theorem Z24.mono_l : ∀ k, (∀ y0 y1 y2, LeO (Z24.j0 k y0 y1 y2) (Z24.j0 (k + 1) y0 y1 y2)) ∧ (∀ y0 y1 y2, LeO (Z24.j1 k y0 y1 y2) (Z24.j1 (k + 1) y0 y1 y2))
 | 0 => ⟨fun _ _ _ r h => by simp [Z24.j0] at h, fun _ _ _ r h => by simp [Z24.j1] at h⟩
 | k + 1 => by
  obtain ⟨ih0, ih1⟩ := Z24.mono_l k
  refine ⟨?_, ?_⟩
  · intro y0 y1 y2
    unfold Z24.j0
    repeat' first
    | (with_reducible exact ih0 _ _ _)
    | (with_reducible exact ih1 _ _ _)
    | (with_reducible exact Z13.mono _ _)
    | (with_reducible exact LeO.refl _)
    | (with_reducible exact LeO.none _)
    | (with_reducible refine LeO.ite ?_ ?_)
    | (with_reducible refine LeO.bind ?_ (fun _ => ?_))
    | exact ih0 _ _ _
    | exact ih1 _ _ _
    | exact Z13.mono _ _
    | exact LeO.none _
    | refine LeO.ite ?_ ?_
    | refine LeO.bind ?_ (fun _ => ?_)
  · intro y0 y1 y2
    unfold Z24.j1
    repeat' first
    | (with_reducible exact ih0 _ _ _)
    | (with_reducible exact ih1 _ _ _)
    | (with_reducible exact Z13.mono _ _)
    | (with_reducible exact LeO.refl _)
    | (with_reducible exact LeO.none _)
    | (with_reducible refine LeO.ite ?_ ?_)
    | (with_reducible refine LeO.bind ?_ (fun _ => ?_))
    | exact ih0 _ _ _
    | exact ih1 _ _ _
    | exact Z13.mono _ _
    | exact LeO.none _
    | refine LeO.ite ?_ ?_
    | refine LeO.bind ?_ (fun _ => ?_)
theorem Z24.mono : ∀ a0 a1 a2 k, LeO (Z24.f k a0 a1 a2) (Z24.f (k + 1) a0 a1 a2) := by
 intro a0 a1 a2 k
 obtain ⟨ih0, ih1⟩ := Z24.mono_l k
 unfold Z24.f
 repeat' first
  | (with_reducible exact ih0 _ _ _)
  | (with_reducible exact ih1 _ _ _)
  | (with_reducible exact Z13.mono _ _)
  | (with_reducible exact LeO.refl _)
  | (with_reducible exact LeO.none _)
  | (with_reducible refine LeO.ite ?_ ?_)
  | (with_reducible refine LeO.bind ?_ (fun _ => ?_))
  | exact ih0 _ _ _
  | exact ih1 _ _ _
  | exact Z13.mono _ _
  | exact LeO.none _
  | refine LeO.ite ?_ ?_
  | refine LeO.bind ?_ (fun _ => ?_)
set_option maxHeartbeats 8000000 in
set_option maxRecDepth 100000 in
theorem Z24.calls (k : Nat) (a0 : ByteArray) (a1 : Int) (a2 : Int) (r1 : Int) (r2 : Int) (r3 : Bool) (w : World) (h : Z24.f k a0 a1 a2 = some (r1, r2, r3)) :
 Calls Tryd.prog 36 #[.string a0, .int .i64 a1, .int .u8 a2] w fun e w' => e = .returned (.tuple #[.int .u8 r1, .int .i64 r2, .bool r3]) ∧ Drawn0 w w' := by
 have H : (if a1 ≥ (a0.size : Int) then (Z24.j0 k a0 a1 true) else (if 0 ≤ a1 then (if a1 < (a0.size : Int) then (if (bt a0 a1) < 32 then (Z24.j0 k a0 a1 true) else (if (bt a0 a1) > 126 then (Z24.j0 k a0 a1 true) else (Z24.j0 k a0 a1 ((bt a0 a1) == a2)))) else (none)) else (none))) = some (r1, r2, r3) := h
 clear h
 have HC4 := Aside0.mk H
 clear H
 go_enter Tryd.func36, Tryd.ntmps36
 go_upto_region 1 with (fail)
 repeat (go_quiet (fail); go_upto_region 1 with (fail))
 go_cut [32] (fun v32 wc => ∃ (kq : Nat) (x32_3 : Bool), v32 = .bool x32_3 ∧ Aside0 (Z24.j0 kq a0 a1 x32_3 = some (r1, r2, r3)) ∧ Aside0 (kq ≤ k) ∧ Drawn0 w wc)
 case first =>
  have H := HC4.out
  clear HC4
  by_cases c5 : a1 ≥ (a0.size : Int)
  · rw [if_pos c5] at H
    have c5b0 : decide ((a0.size : Int) ≤ a1) = true := decide_eq_true c5
    clear c5
    (first | rw [c5b0] | (simp only [i64_w, i32_w]; rw [c5b0]) | skip)
    have H' := Aside0.mk H
    clear H
    go_wp2
    repeat (go_quiet (fail); try go_wp2)
    go_meet
    case rel => exact ⟨_, (true), (by first | rfl | (simp; done) | (simp [*]; done)), H', ⟨by first | omega | exact Nat.le_refl _⟩, by repeat (first | exact Drawn0.refl _ | apply Drawn0.step)⟩
  · rw [if_neg c5] at H
    have c5b0 : decide ((a0.size : Int) ≤ a1) = false := decide_eq_false c5
    clear c5
    (first | rw [c5b0] | (simp only [i64_w, i32_w]; rw [c5b0]) | skip)
    by_cases c6 : 0 ≤ a1
    · rw [if_pos c6] at H
      have c6b0 : decide (0 ≤ a1) = true := decide_eq_true c6
      clear c6
      by_cases c7 : a1 < (a0.size : Int)
      · rw [if_pos c7] at H
        have c7b0 : decide (a1 < (a0.size : Int)) = true := decide_eq_true c7
        clear c7
        by_cases c9 : (bt a0 a1) < 32
        · rw [if_pos c9] at H
          have c9b0 : decide ((bt a0 a1) < 32) = true := decide_eq_true c9
          clear c9
          have H' := Aside0.mk H
          clear H
          have p8 : 0 ≤ (a1 : Int) := of_decide_eq_true (by first | (with_reducible assumption) | assumption)
          have q8 : a1 < (a0.size : Int) := of_decide_eq_true (by first | (with_reducible assumption) | assumption)
          have hx8 := bt_at a0 a1
          replace p8 := eq_true p8
          replace q8 := eq_true q8
          go_wp2
          repeat (go_quiet (fail); try go_wp2)
          go_meet
          case rel => exact ⟨_, (true), (by first | rfl | (simp; done) | (simp [*]; done)), H', ⟨by first | omega | exact Nat.le_refl _⟩, by repeat (first | exact Drawn0.refl _ | apply Drawn0.step)⟩
        · rw [if_neg c9] at H
          have c9b0 : decide ((bt a0 a1) < 32) = false := decide_eq_false c9
          clear c9
          by_cases c11 : (bt a0 a1) > 126
          · rw [if_pos c11] at H
            have c11b0 : decide (126 < (bt a0 a1)) = true := decide_eq_true c11
            clear c11
            have H' := Aside0.mk H
            clear H
            have p8 : 0 ≤ (a1 : Int) := of_decide_eq_true (by first | (with_reducible assumption) | assumption)
            have q8 : a1 < (a0.size : Int) := of_decide_eq_true (by first | (with_reducible assumption) | assumption)
            have hx8 := bt_at a0 a1
            replace p8 := eq_true p8
            replace q8 := eq_true q8
            have p10 : 0 ≤ (a1 : Int) := of_decide_eq_true (by first | (with_reducible assumption) | assumption)
            have q10 : a1 < (a0.size : Int) := of_decide_eq_true (by first | (with_reducible assumption) | assumption)
            have hx10 := bt_at a0 a1
            replace p10 := eq_true p10
            replace q10 := eq_true q10
            go_wp2
            repeat (go_quiet (fail); try go_wp2)
            go_meet
            case rel => exact ⟨_, (true), (by first | rfl | (simp; done) | (simp [*]; done)), H', ⟨by first | omega | exact Nat.le_refl _⟩, by repeat (first | exact Drawn0.refl _ | apply Drawn0.step)⟩
          · rw [if_neg c11] at H
            have c11b0 : decide (126 < (bt a0 a1)) = false := decide_eq_false c11
            clear c11
            have H' := Aside0.mk H
            clear H
            have p8 : 0 ≤ (a1 : Int) := of_decide_eq_true (by first | (with_reducible assumption) | assumption)
            have q8 : a1 < (a0.size : Int) := of_decide_eq_true (by first | (with_reducible assumption) | assumption)
            have hx8 := bt_at a0 a1
            replace p8 := eq_true p8
            replace q8 := eq_true q8
            have p10 : 0 ≤ (a1 : Int) := of_decide_eq_true (by first | (with_reducible assumption) | assumption)
            have q10 : a1 < (a0.size : Int) := of_decide_eq_true (by first | (with_reducible assumption) | assumption)
            have hx10 := bt_at a0 a1
            replace p10 := eq_true p10
            replace q10 := eq_true q10
            have p12 : 0 ≤ (a1 : Int) := of_decide_eq_true (by first | (with_reducible assumption) | assumption)
            have q12 : a1 < (a0.size : Int) := of_decide_eq_true (by first | (with_reducible assumption) | assumption)
            have hx12 := bt_at a0 a1
            replace p12 := eq_true p12
            replace q12 := eq_true q12
            go_wp2
            repeat (go_quiet (fail); try go_wp2)
            go_meet
            case rel => exact ⟨_, (((bt a0 a1) == a2)), (by first | rfl | (simp; done) | (simp [*]; done)), H', ⟨by first | omega | exact Nat.le_refl _⟩, by repeat (first | exact Drawn0.refl _ | apply Drawn0.step)⟩
      · rw [if_neg c7] at H
        exact absurd H (by simp)
    · rw [if_neg c6] at H
      exact absurd H (by simp)
 case rest =>
  clear HC4
  obtain ⟨kq, x32_3, rfl, HA, HJ3, ⟨mc3, rfl⟩⟩ := hcut
  cases kq with
  | zero => exact absurd HA.out (by simp [Z24.j0])
  | succ kj3 =>
   have H := HA.out
   clear HA
   simp only [Z24.j0] at H
   by_cases c13 : x32_3 = true
   · subst c13
     have H1 : (some (0, a1, false)) = some (r1, r2, r3) := by rw [if_pos rfl] at H; exact H
     clear H
     have H := H1
     clear H1
     simp only [Option.some.injEq, Prod.mk.injEq] at H
     obtain ⟨rfl, rfl, rfl⟩ := H
     go_wp2
     repeat (go_quiet (fail); try go_wp2)
     go_ret3
     exact ⟨by first | rfl | (simp; done) | (simp [*]; done), by repeat (first | exact Drawn0.refl _ | apply Drawn0.step)⟩
   · replace c13 := Bool.eq_false_iff.mpr c13
     subst c13
     have H1 : (if 0 ≤ a1 then (if a1 < (a0.size : Int) then (if (bt a0 a1) = 92 then (if (wrap64 (a1 + 1)) ≥ (a0.size : Int) then (some (0, a1, false)) else (if 0 ≤ (wrap64 (a1 + 1)) then (if (wrap64 (a1 + 1)) < (a0.size : Int) then ((strings_IndexByte.f (⟨#[110, 116, 114, 48, 92, 39, 34]⟩ : ByteArray) (bt a0 (wrap64 (a1 + 1)))).bind fun t123 => (if t123 ≥ 0 then (if 0 ≤ t123 then (if t123 < 7 then (some (bt (⟨#[10, 9, 13, 0, 92, 39, 34]⟩ : ByteArray) t123, wrap64 (a1 + 2), true)) else (none)) else (none)) else (if (bt a0 (wrap64 (a1 + 1))) = 120 then (if (wrap64 (a1 + 3)) ≥ (a0.size : Int) then (Z24.j1 kj3 a0 a1 true) else (if 0 ≤ (wrap64 (a1 + 2)) then (if (wrap64 (a1 + 2)) < (a0.size : Int) then ((Z13.f kj3 (bt a0 (wrap64 (a1 + 2)))).bind fun t124 => (if t124 > 15 then (Z24.j1 kj3 a0 a1 true) else (if 0 ≤ (wrap64 (a1 + 3)) then (if (wrap64 (a1 + 3)) < (a0.size : Int) then ((Z13.f kj3 (bt a0 (wrap64 (a1 + 3)))).bind fun t125 => (Z24.j1 kj3 a0 a1 (decide (t125 > 15)))) else (none)) else (none)))) else (none)) else (none))) else (Z24.j1 kj3 a0 a1 true)))) else (none)) else (none))) else (some (bt a0 a1, wrap64 (a1 + 1), true))) else (none)) else (none)) = some (r1, r2, r3) := by rw [if_neg (show ¬ (false = true) by decide)] at H; exact H
     clear H
     have H := H1
     clear H1
     by_cases c14 : 0 ≤ a1
     · rw [if_pos c14] at H
       have c14b0 : decide (0 ≤ a1) = true := decide_eq_true c14
       clear c14
       by_cases c15 : a1 < (a0.size : Int)
       · rw [if_pos c15] at H
         have c15b0 : decide (a1 < (a0.size : Int)) = true := decide_eq_true c15
         clear c15
         by_cases c17 : (bt a0 a1) = 92
         · rw [if_pos c17] at H
           have c17b0 : ((bt a0 a1) == 92) = true := beq_iff_eq.mpr c17
           have c17b1 : ((bt a0 a1) != 92) = false := bne_eq_false_iff_eq.mpr c17
           clear c17
           by_cases c18 : (wrap64 (a1 + 1)) ≥ (a0.size : Int)
           · rw [if_pos c18] at H
             have c18b0 : decide ((a0.size : Int) ≤ (wrap64 (a1 + 1))) = true := decide_eq_true c18
             clear c18
             simp only [Option.some.injEq, Prod.mk.injEq] at H
             obtain ⟨rfl, rfl, rfl⟩ := H
             have p16 : 0 ≤ (a1 : Int) := of_decide_eq_true (by first | (with_reducible assumption) | assumption)
             have q16 : a1 < (a0.size : Int) := of_decide_eq_true (by first | (with_reducible assumption) | assumption)
             have hx16 := bt_at a0 a1
             replace p16 := eq_true p16
             replace q16 := eq_true q16
             go_wp2
             repeat (go_quiet (fail); try go_wp2)
             go_ret3
             exact ⟨by first | rfl | (simp; done) | (simp [*]; done), by repeat (first | exact Drawn0.refl _ | apply Drawn0.step)⟩
           · rw [if_neg c18] at H
             have c18b0 : decide ((a0.size : Int) ≤ (wrap64 (a1 + 1))) = false := decide_eq_false c18
             clear c18
             obtain ⟨ji19, hji19⟩ : ∃ j_ : Int, (wrap64 (a1 + 1)) = j_ := ⟨_, rfl⟩
             replace H : (if 0 ≤ (ji19) then (if (ji19) < (a0.size : Int) then ((strings_IndexByte.f (⟨#[110, 116, 114, 48, 92, 39, 34]⟩ : ByteArray) (bt a0 (ji19))).bind fun t123 => (if t123 ≥ 0 then (if 0 ≤ t123 then (if t123 < 7 then (some (bt (⟨#[10, 9, 13, 0, 92, 39, 34]⟩ : ByteArray) t123, wrap64 (a1 + 2), true)) else (none)) else (none)) else (if (bt a0 (ji19)) = 120 then (if (wrap64 (a1 + 3)) ≥ (a0.size : Int) then (Z24.j1 kj3 a0 a1 true) else (if 0 ≤ (wrap64 (a1 + 2)) then (if (wrap64 (a1 + 2)) < (a0.size : Int) then ((Z13.f kj3 (bt a0 (wrap64 (a1 + 2)))).bind fun t124 => (if t124 > 15 then (Z24.j1 kj3 a0 a1 true) else (if 0 ≤ (wrap64 (a1 + 3)) then (if (wrap64 (a1 + 3)) < (a0.size : Int) then ((Z13.f kj3 (bt a0 (wrap64 (a1 + 3)))).bind fun t125 => (Z24.j1 kj3 a0 a1 (decide (t125 > 15)))) else (none)) else (none)))) else (none)) else (none))) else (Z24.j1 kj3 a0 a1 true)))) else (none)) else (none)) = some (r1, r2, r3) := by first | (rw [hji19] at H; exact H) | (simp only [hji19] at H ⊢; exact H)
             (try rw [hji19] at c18b0)
             have hji19w : (IntKind.i64.wrap (a1 + 1)) = ji19 := (i64_w _).trans hji19
             by_cases c20 : 0 ≤ (ji19)
             · rw [if_pos c20] at H
               have c20b0 : decide (0 ≤ (ji19)) = true := decide_eq_true c20
               clear c20
               by_cases c21 : (ji19) < (a0.size : Int)
               · rw [if_pos c21] at H
                 have c21b0 : decide ((ji19) < (a0.size : Int)) = true := decide_eq_true c21
                 clear c21
                 replace H := Option.bind_eq_some_iff.mp H
                 obtain ⟨t123, A230, H⟩ := H
                 replace H : (if t123 ≥ 0 then (if 0 ≤ t123 then (if t123 < 7 then (some (bt (⟨#[10, 9, 13, 0, 92, 39, 34]⟩ : ByteArray) t123, wrap64 (a1 + 2), true)) else (none)) else (none)) else (if (bt a0 (ji19)) = 120 then (if (wrap64 (a1 + 3)) ≥ (a0.size : Int) then (Z24.j1 kj3 a0 a1 true) else (if 0 ≤ (wrap64 (a1 + 2)) then (if (wrap64 (a1 + 2)) < (a0.size : Int) then ((Z13.f kj3 (bt a0 (wrap64 (a1 + 2)))).bind fun t124 => (if t124 > 15 then (Z24.j1 kj3 a0 a1 true) else (if 0 ≤ (wrap64 (a1 + 3)) then (if (wrap64 (a1 + 3)) < (a0.size : Int) then ((Z13.f kj3 (bt a0 (wrap64 (a1 + 3)))).bind fun t125 => (Z24.j1 kj3 a0 a1 (decide (t125 > 15)))) else (none)) else (none)))) else (none)) else (none))) else (Z24.j1 kj3 a0 a1 true))) = some (r1, r2, r3) := H
                 have A23 := Aside0.mk A230
                 clear A230
                 by_cases c24 : t123 ≥ 0
                 · rw [if_pos c24] at H
                   have c24b0 : decide (0 ≤ t123) = true := decide_eq_true c24
                   clear c24
                   by_cases c25 : 0 ≤ t123
                   · rw [if_pos c25] at H
                     have c25b0 : decide (0 ≤ t123) = true := decide_eq_true c25
                     clear c25
                     by_cases c26 : t123 < 7
                     · rw [if_pos c26] at H
                       have c26b0 : decide (t123 < 7) = true := decide_eq_true c26
                       clear c26
                       simp only [Option.some.injEq, Prod.mk.injEq] at H
                       obtain ⟨rfl, rfl, rfl⟩ := H
                       have p16 : 0 ≤ (a1 : Int) := of_decide_eq_true (by first | (with_reducible assumption) | assumption)
                       have q16 : a1 < (a0.size : Int) := of_decide_eq_true (by first | (with_reducible assumption) | assumption)
                       have hx16 := bt_at a0 a1
                       replace p16 := eq_true p16
                       replace q16 := eq_true q16
                       have p22 : 0 ≤ ((ji19) : Int) := of_decide_eq_true (by first | (with_reducible assumption) | assumption)
                       have q22 : (ji19) < (a0.size : Int) := of_decide_eq_true (by first | (with_reducible assumption) | assumption)
                       have hx22 := bt_at a0 (ji19)
                       replace p22 := eq_true p22
                       replace q22 := eq_true q22
                       go_wp2_with (first | (go_at_call 33; (with_reducible refine (strings_IndexByte.calls (⟨#[110, 116, 114, 48, 92, 39, 34]⟩ : ByteArray) (bt a0 (ji19)) t123 _ A23.out).mono ?_); rintro e w' ⟨rfl, ⟨nd, rfl⟩⟩; (try first | exact ⟨rfl, _, World.drewN_drewN _ _ _⟩ | exact ⟨rfl, _, Eq.trans (World.drewN_drewN _ _ _) (congrArg (World.drewN _) (Nat.add_assoc _ _ _))⟩); have p27 : 0 ≤ (t123 : Int) := of_decide_eq_true (by first | (with_reducible assumption) | assumption); have q27 : t123 < (7 : Int) := of_decide_eq_true (by first | (with_reducible assumption) | assumption); have hx27 := bt_at (⟨#[10, 9, 13, 0, 92, 39, 34]⟩ : ByteArray) t123; replace p27 := eq_true p27; replace q27 := eq_true q27))
                       repeat (go_quiet (first | (go_at_call 33; (with_reducible refine (strings_IndexByte.calls (⟨#[110, 116, 114, 48, 92, 39, 34]⟩ : ByteArray) (bt a0 (ji19)) t123 _ A23.out).mono ?_); rintro e w' ⟨rfl, ⟨nd, rfl⟩⟩; (try first | exact ⟨rfl, _, World.drewN_drewN _ _ _⟩ | exact ⟨rfl, _, Eq.trans (World.drewN_drewN _ _ _) (congrArg (World.drewN _) (Nat.add_assoc _ _ _))⟩); have p27 : 0 ≤ (t123 : Int) := of_decide_eq_true (by first | (with_reducible assumption) | assumption); have q27 : t123 < (7 : Int) := of_decide_eq_true (by first | (with_reducible assumption) | assumption); have hx27 := bt_at (⟨#[10, 9, 13, 0, 92, 39, 34]⟩ : ByteArray) t123; replace p27 := eq_true p27; replace q27 := eq_true q27)); try go_wp2_with (first | (go_at_call 33; (with_reducible refine (strings_IndexByte.calls (⟨#[110, 116, 114, 48, 92, 39, 34]⟩ : ByteArray) (bt a0 (ji19)) t123 _ A23.out).mono ?_); rintro e w' ⟨rfl, ⟨nd, rfl⟩⟩; (try first | exact ⟨rfl, _, World.drewN_drewN _ _ _⟩ | exact ⟨rfl, _, Eq.trans (World.drewN_drewN _ _ _) (congrArg (World.drewN _) (Nat.add_assoc _ _ _))⟩); have p27 : 0 ≤ (t123 : Int) := of_decide_eq_true (by first | (with_reducible assumption) | assumption); have q27 : t123 < (7 : Int) := of_decide_eq_true (by first | (with_reducible assumption) | assumption); have hx27 := bt_at (⟨#[10, 9, 13, 0, 92, 39, 34]⟩ : ByteArray) t123; replace p27 := eq_true p27; replace q27 := eq_true q27)))
                       go_ret3
                       exact ⟨by first | rfl | (simp; done) | (simp only [← hji19] <;> (first | rfl | simp)) | (simp [*]; done), by repeat (first | exact Drawn0.refl _ | apply Drawn0.step)⟩
                     · rw [if_neg c26] at H
                       exact absurd H (by simp)
                   · rw [if_neg c25] at H
                     exact absurd H (by simp)
                 · rw [if_neg c24] at H
                   have c24b0 : decide (0 ≤ t123) = false := decide_eq_false c24
                   clear c24
                   have HC28 := Aside0.mk H
                   clear H
                   have p16 : 0 ≤ (a1 : Int) := of_decide_eq_true (by first | (with_reducible assumption) | assumption)
                   have q16 : a1 < (a0.size : Int) := of_decide_eq_true (by first | (with_reducible assumption) | assumption)
                   have hx16 := bt_at a0 a1
                   replace p16 := eq_true p16
                   replace q16 := eq_true q16
                   have p22 : 0 ≤ ((ji19) : Int) := of_decide_eq_true (by first | (with_reducible assumption) | assumption)
                   have q22 : (ji19) < (a0.size : Int) := of_decide_eq_true (by first | (with_reducible assumption) | assumption)
                   have hx22 := bt_at a0 (ji19)
                   replace p22 := eq_true p22
                   replace q22 := eq_true q22
                   go_upto_region 10 with (first | (go_at_call 33; (with_reducible refine (strings_IndexByte.calls (⟨#[110, 116, 114, 48, 92, 39, 34]⟩ : ByteArray) (bt a0 (ji19)) t123 _ A23.out).mono ?_); rintro e w' ⟨rfl, ⟨nd, rfl⟩⟩; (try first | exact ⟨rfl, _, World.drewN_drewN _ _ _⟩ | exact ⟨rfl, _, Eq.trans (World.drewN_drewN _ _ _) (congrArg (World.drewN _) (Nat.add_assoc _ _ _))⟩)))
                   repeat (go_quiet (first | (go_at_call 33; (with_reducible refine (strings_IndexByte.calls (⟨#[110, 116, 114, 48, 92, 39, 34]⟩ : ByteArray) (bt a0 (ji19)) t123 _ A23.out).mono ?_); rintro e w' ⟨rfl, ⟨nd, rfl⟩⟩; (try first | exact ⟨rfl, _, World.drewN_drewN _ _ _⟩ | exact ⟨rfl, _, Eq.trans (World.drewN_drewN _ _ _) (congrArg (World.drewN _) (Nat.add_assoc _ _ _))⟩))); go_upto_region 10 with (first | (go_at_call 33; (with_reducible refine (strings_IndexByte.calls (⟨#[110, 116, 114, 48, 92, 39, 34]⟩ : ByteArray) (bt a0 (ji19)) t123 _ A23.out).mono ?_); rintro e w' ⟨rfl, ⟨nd, rfl⟩⟩; (try first | exact ⟨rfl, _, World.drewN_drewN _ _ _⟩ | exact ⟨rfl, _, Eq.trans (World.drewN_drewN _ _ _) (congrArg (World.drewN _) (Nat.add_assoc _ _ _))⟩))))
                   (try simp only [Act.put, List.setIfInBounds_toArray, List.set_cons_zero, List.set_cons_succ])
                   go_cut [87] (fun v87 wc => ∃ (kq : Nat) (x87_27 : Bool), v87 = .bool x87_27 ∧ Aside0 (Z24.j1 kq a0 a1 x87_27 = some (r1, r2, r3)) ∧ Aside0 (kq ≤ kj3) ∧ Drawn0 w wc)
                   case first =>
                    have H := HC28.out
                    clear HC28
                    by_cases c30 : (bt a0 (ji19)) = 120
                    · rw [if_pos c30] at H
                      have c30b0 : ((bt a0 (ji19)) == 120) = true := beq_iff_eq.mpr c30
                      have c30b1 : ((bt a0 (ji19)) != 120) = false := bne_eq_false_iff_eq.mpr c30
                      clear c30
                      (first | rw [c30b0] | (simp only [i64_w, i32_w]; rw [c30b0]) | skip)
                      by_cases c31 : (wrap64 (a1 + 3)) ≥ (a0.size : Int)
                      · rw [if_pos c31] at H
                        have c31b0 : decide ((a0.size : Int) ≤ (wrap64 (a1 + 3))) = true := decide_eq_true c31
                        clear c31
                        have H' := Aside0.mk H
                        clear H
                        have p29 : 0 ≤ ((ji19) : Int) := of_decide_eq_true (by first | (with_reducible assumption) | assumption)
                        have q29 : (ji19) < (a0.size : Int) := of_decide_eq_true (by first | (with_reducible assumption) | assumption)
                        have hx29 := bt_at a0 (ji19)
                        replace p29 := eq_true p29
                        replace q29 := eq_true q29
                        go_wp2
                        repeat (go_quiet (fail); try go_wp2)
                        go_meet
                        case rel => exact ⟨_, (true), (by first | rfl | (simp; done) | (simp [*]; done)), H', ⟨by have := HJ3.out; first | omega | exact Nat.le_refl _⟩, by repeat (first | exact Drawn0.refl _ | apply Drawn0.step)⟩
                      · rw [if_neg c31] at H
                        have c31b0 : decide ((a0.size : Int) ≤ (wrap64 (a1 + 3))) = false := decide_eq_false c31
                        clear c31
                        obtain ⟨ji32, hji32⟩ : ∃ j_ : Int, (wrap64 (a1 + 2)) = j_ := ⟨_, rfl⟩
                        replace H : (if 0 ≤ (ji32) then (if (ji32) < (a0.size : Int) then ((Z13.f kj3 (bt a0 (ji32))).bind fun t124 => (if t124 > 15 then (Z24.j1 kj3 a0 a1 true) else (if 0 ≤ (wrap64 (a1 + 3)) then (if (wrap64 (a1 + 3)) < (a0.size : Int) then ((Z13.f kj3 (bt a0 (wrap64 (a1 + 3)))).bind fun t125 => (Z24.j1 kj3 a0 a1 (decide (t125 > 15)))) else (none)) else (none)))) else (none)) else (none)) = some (r1, r2, r3) := by first | (rw [hji32] at H; exact H) | (simp only [hji32] at H ⊢; exact H)
                        have hji32w : (IntKind.i64.wrap (a1 + 2)) = ji32 := (i64_w _).trans hji32
                        by_cases c33 : 0 ≤ (ji32)
                        · rw [if_pos c33] at H
                          have c33b0 : decide (0 ≤ (ji32)) = true := decide_eq_true c33
                          clear c33
                          by_cases c34 : (ji32) < (a0.size : Int)
                          · rw [if_pos c34] at H
                            have c34b0 : decide ((ji32) < (a0.size : Int)) = true := decide_eq_true c34
                            clear c34
                            replace H := Option.bind_eq_some_iff.mp H
                            obtain ⟨t124, A360, H⟩ := H
                            replace H : (if t124 > 15 then (Z24.j1 kj3 a0 a1 true) else (if 0 ≤ (wrap64 (a1 + 3)) then (if (wrap64 (a1 + 3)) < (a0.size : Int) then ((Z13.f kj3 (bt a0 (wrap64 (a1 + 3)))).bind fun t125 => (Z24.j1 kj3 a0 a1 (decide (t125 > 15)))) else (none)) else (none))) = some (r1, r2, r3) := H
                            have A36 := Aside0.mk A360
                            clear A360
                            by_cases c37 : t124 > 15
                            · rw [if_pos c37] at H
                              have c37b0 : decide (15 < t124) = true := decide_eq_true c37
                              clear c37
                              have H' := Aside0.mk H
                              clear H
                              have p29 : 0 ≤ ((ji19) : Int) := of_decide_eq_true (by first | (with_reducible assumption) | assumption)
                              have q29 : (ji19) < (a0.size : Int) := of_decide_eq_true (by first | (with_reducible assumption) | assumption)
                              have hx29 := bt_at a0 (ji19)
                              replace p29 := eq_true p29
                              replace q29 := eq_true q29
                              have p35 : 0 ≤ ((ji32) : Int) := of_decide_eq_true (by first | (with_reducible assumption) | assumption)
                              have q35 : (ji32) < (a0.size : Int) := of_decide_eq_true (by first | (with_reducible assumption) | assumption)
                              have hx35 := bt_at a0 (ji32)
                              replace p35 := eq_true p35
                              replace q35 := eq_true q35
                              go_wp2_with (first | (go_at_call 22; (with_reducible refine (Z13.calls kj3 (bt a0 (ji32)) t124 _ A36.out).mono ?_); rintro e w' ⟨rfl, ⟨nd, rfl⟩⟩; (try first | exact ⟨rfl, _, World.drewN_drewN _ _ _⟩ | exact ⟨rfl, _, Eq.trans (World.drewN_drewN _ _ _) (congrArg (World.drewN _) (Nat.add_assoc _ _ _))⟩)))
                              repeat (go_quiet (first | (go_at_call 22; (with_reducible refine (Z13.calls kj3 (bt a0 (ji32)) t124 _ A36.out).mono ?_); rintro e w' ⟨rfl, ⟨nd, rfl⟩⟩; (try first | exact ⟨rfl, _, World.drewN_drewN _ _ _⟩ | exact ⟨rfl, _, Eq.trans (World.drewN_drewN _ _ _) (congrArg (World.drewN _) (Nat.add_assoc _ _ _))⟩))); try go_wp2_with (first | (go_at_call 22; (with_reducible refine (Z13.calls kj3 (bt a0 (ji32)) t124 _ A36.out).mono ?_); rintro e w' ⟨rfl, ⟨nd, rfl⟩⟩; (try first | exact ⟨rfl, _, World.drewN_drewN _ _ _⟩ | exact ⟨rfl, _, Eq.trans (World.drewN_drewN _ _ _) (congrArg (World.drewN _) (Nat.add_assoc _ _ _))⟩))))
                              go_meet
                              case rel => exact ⟨_, (true), (by first | rfl | (simp; done) | (simp [*]; done)), H', ⟨by have := HJ3.out; first | omega | exact Nat.le_refl _⟩, by repeat (first | exact Drawn0.refl _ | apply Drawn0.step)⟩
                            · rw [if_neg c37] at H
                              have c37b0 : decide (15 < t124) = false := decide_eq_false c37
                              clear c37
                              obtain ⟨ji38, hji38⟩ : ∃ j_ : Int, (wrap64 (a1 + 3)) = j_ := ⟨_, rfl⟩
                              replace H : (if 0 ≤ (ji38) then (if (ji38) < (a0.size : Int) then ((Z13.f kj3 (bt a0 (ji38))).bind fun t125 => (Z24.j1 kj3 a0 a1 (decide (t125 > 15)))) else (none)) else (none)) = some (r1, r2, r3) := by first | (rw [hji38] at H; exact H) | (simp only [hji38] at H ⊢; exact H)
                              (try rw [hji38] at c31b0)
                              (try rw [hji38] at A36)
                              have hji38w : (IntKind.i64.wrap (a1 + 3)) = ji38 := (i64_w _).trans hji38
                              by_cases c39 : 0 ≤ (ji38)
                              · rw [if_pos c39] at H
                                have c39b0 : decide (0 ≤ (ji38)) = true := decide_eq_true c39
                                clear c39
                                by_cases c40 : (ji38) < (a0.size : Int)
                                · rw [if_pos c40] at H
                                  have c40b0 : decide ((ji38) < (a0.size : Int)) = true := decide_eq_true c40
                                  clear c40
                                  replace H := Option.bind_eq_some_iff.mp H
                                  obtain ⟨t125, A420, H⟩ := H
                                  replace H : (Z24.j1 kj3 a0 a1 (decide (t125 > 15))) = some (r1, r2, r3) := H
                                  have A42 := Aside0.mk A420
                                  clear A420
                                  have H' := Aside0.mk H
                                  clear H
                                  have p29 : 0 ≤ ((ji19) : Int) := of_decide_eq_true (by first | (with_reducible assumption) | assumption)
                                  have q29 : (ji19) < (a0.size : Int) := of_decide_eq_true (by first | (with_reducible assumption) | assumption)
                                  have hx29 := bt_at a0 (ji19)
                                  replace p29 := eq_true p29
                                  replace q29 := eq_true q29
                                  have p35 : 0 ≤ ((ji32) : Int) := of_decide_eq_true (by first | (with_reducible assumption) | assumption)
                                  have q35 : (ji32) < (a0.size : Int) := of_decide_eq_true (by first | (with_reducible assumption) | assumption)
                                  have hx35 := bt_at a0 (ji32)
                                  replace p35 := eq_true p35
                                  replace q35 := eq_true q35
                                  go_wp2_with (first | (go_at_call 22; (with_reducible refine (Z13.calls kj3 (bt a0 (ji32)) t124 _ A36.out).mono ?_); rintro e w' ⟨rfl, ⟨nd, rfl⟩⟩; (try first | exact ⟨rfl, _, World.drewN_drewN _ _ _⟩ | exact ⟨rfl, _, Eq.trans (World.drewN_drewN _ _ _) (congrArg (World.drewN _) (Nat.add_assoc _ _ _))⟩); have p41 : 0 ≤ ((ji38) : Int) := of_decide_eq_true (by first | (with_reducible assumption) | assumption); have q41 : (ji38) < (a0.size : Int) := of_decide_eq_true (by first | (with_reducible assumption) | assumption); have hx41 := bt_at a0 (ji38); replace p41 := eq_true p41; replace q41 := eq_true q41) | (go_at_call 22; (with_reducible refine (Z13.calls kj3 (bt a0 (ji38)) t125 _ A42.out).mono ?_); rintro e w' ⟨rfl, ⟨nd, rfl⟩⟩; (try first | exact ⟨rfl, _, World.drewN_drewN _ _ _⟩ | exact ⟨rfl, _, Eq.trans (World.drewN_drewN _ _ _) (congrArg (World.drewN _) (Nat.add_assoc _ _ _))⟩)))
                                  repeat (go_quiet (first | (go_at_call 22; (with_reducible refine (Z13.calls kj3 (bt a0 (ji32)) t124 _ A36.out).mono ?_); rintro e w' ⟨rfl, ⟨nd, rfl⟩⟩; (try first | exact ⟨rfl, _, World.drewN_drewN _ _ _⟩ | exact ⟨rfl, _, Eq.trans (World.drewN_drewN _ _ _) (congrArg (World.drewN _) (Nat.add_assoc _ _ _))⟩); have p41 : 0 ≤ ((ji38) : Int) := of_decide_eq_true (by first | (with_reducible assumption) | assumption); have q41 : (ji38) < (a0.size : Int) := of_decide_eq_true (by first | (with_reducible assumption) | assumption); have hx41 := bt_at a0 (ji38); replace p41 := eq_true p41; replace q41 := eq_true q41) | (go_at_call 22; (with_reducible refine (Z13.calls kj3 (bt a0 (ji38)) t125 _ A42.out).mono ?_); rintro e w' ⟨rfl, ⟨nd, rfl⟩⟩; (try first | exact ⟨rfl, _, World.drewN_drewN _ _ _⟩ | exact ⟨rfl, _, Eq.trans (World.drewN_drewN _ _ _) (congrArg (World.drewN _) (Nat.add_assoc _ _ _))⟩))); try go_wp2_with (first | (go_at_call 22; (with_reducible refine (Z13.calls kj3 (bt a0 (ji32)) t124 _ A36.out).mono ?_); rintro e w' ⟨rfl, ⟨nd, rfl⟩⟩; (try first | exact ⟨rfl, _, World.drewN_drewN _ _ _⟩ | exact ⟨rfl, _, Eq.trans (World.drewN_drewN _ _ _) (congrArg (World.drewN _) (Nat.add_assoc _ _ _))⟩); have p41 : 0 ≤ ((ji38) : Int) := of_decide_eq_true (by first | (with_reducible assumption) | assumption); have q41 : (ji38) < (a0.size : Int) := of_decide_eq_true (by first | (with_reducible assumption) | assumption); have hx41 := bt_at a0 (ji38); replace p41 := eq_true p41; replace q41 := eq_true q41) | (go_at_call 22; (with_reducible refine (Z13.calls kj3 (bt a0 (ji38)) t125 _ A42.out).mono ?_); rintro e w' ⟨rfl, ⟨nd, rfl⟩⟩; (try first | exact ⟨rfl, _, World.drewN_drewN _ _ _⟩ | exact ⟨rfl, _, Eq.trans (World.drewN_drewN _ _ _) (congrArg (World.drewN _) (Nat.add_assoc _ _ _))⟩))))
                                  go_meet
                                  case rel => exact ⟨_, (decide (t125 > 15)), (by first | rfl | (simp; done) | (simp [*]; done)), H', ⟨by have := HJ3.out; first | omega | exact Nat.le_refl _⟩, by repeat (first | exact Drawn0.refl _ | apply Drawn0.step)⟩
                                · rw [if_neg c40] at H
                                  exact absurd H (by simp)
                              · rw [if_neg c39] at H
                                exact absurd H (by simp)
                          · rw [if_neg c34] at H
                            exact absurd H (by simp)
                        · rw [if_neg c33] at H
                          exact absurd H (by simp)
                    · rw [if_neg c30] at H
                      have c30b0 : ((bt a0 (ji19)) == 120) = false := beq_eq_false_iff_ne.mpr c30
                      have c30b1 : ((bt a0 (ji19)) != 120) = true := bne_iff_ne.mpr c30
                      (first | rw [c30b0] | (simp only [i64_w, i32_w]; rw [c30b0]) | skip)
                      have H' := Aside0.mk H
                      clear H
                      have p29 : 0 ≤ ((ji19) : Int) := of_decide_eq_true (by first | (with_reducible assumption) | assumption)
                      have q29 : (ji19) < (a0.size : Int) := of_decide_eq_true (by first | (with_reducible assumption) | assumption)
                      have hx29 := bt_at a0 (ji19)
                      replace p29 := eq_true p29
                      replace q29 := eq_true q29
                      go_wp2
                      repeat (go_quiet (fail); try go_wp2)
                      go_meet
                      case rel => exact ⟨_, (true), (by first | rfl | (simp; done) | (simp [*]; done)), H', ⟨by have := HJ3.out; first | omega | exact Nat.le_refl _⟩, by repeat (first | exact Drawn0.refl _ | apply Drawn0.step)⟩
                   case rest =>
                    clear HC28
                    try clear c13
                    try clear c14
                    try clear c14b0
                    try clear c15
                    try clear c15b0
                    try clear p16
                    try clear q16
                    try clear hx16
                    try clear c17
                    try clear c17b0
                    try clear c17b1
                    try clear c18
                    try clear c18b0
                    try clear c20
                    try clear c20b0
                    try clear c21
                    try clear c21b0
                    try clear p22
                    try clear q22
                    try clear hx22
                    try clear c24
                    try clear c24b0
                    try clear p16
                    try clear p22
                    try clear q16
                    try clear q22
                    obtain ⟨kq, x87_27, rfl, HA, HJ27, ⟨mc27, rfl⟩⟩ := hcut
                    cases kq with
                    | zero => exact absurd HA.out (by simp [Z24.j1])
                    | succ kj27 =>
                     have H := HA.out
                     clear HA
                     simp only [Z24.j1] at H
                     by_cases c43 : x87_27 = true
                     · subst c43
                       have H1 : (some (0, a1, false)) = some (r1, r2, r3) := by rw [if_pos rfl] at H; exact H
                       clear H
                       have H := H1
                       clear H1
                       simp only [Option.some.injEq, Prod.mk.injEq] at H
                       obtain ⟨rfl, rfl, rfl⟩ := H
                       go_wp2
                       repeat (go_quiet (fail); try go_wp2)
                       go_ret3
                       exact ⟨by first | rfl | (simp; done) | (simp only [← hji19] <;> (first | rfl | simp)) | (simp [*]; done), by repeat (first | exact Drawn0.refl _ | apply Drawn0.step)⟩
                     · replace c43 := Bool.eq_false_iff.mpr c43
                       subst c43
                       have H1 : (if 0 ≤ (wrap64 (a1 + 2)) then (if (wrap64 (a1 + 2)) < (a0.size : Int) then ((Z13.f kj27 (bt a0 (wrap64 (a1 + 2)))).bind fun t126 => (if 0 ≤ (wrap64 (a1 + 3)) then (if (wrap64 (a1 + 3)) < (a0.size : Int) then ((Z13.f kj27 (bt a0 (wrap64 (a1 + 3)))).bind fun t127 => (some ((Go.bits .or .i64 (wrap64 (t126 * 16)) t127) % 256, wrap64 (a1 + 4), true))) else (none)) else (none))) else (none)) else (none)) = some (r1, r2, r3) := by rw [if_neg (show ¬ (false = true) by decide)] at H; exact H
                       clear H
                       have H := H1
                       clear H1
                       obtain ⟨ji44, hji44⟩ : ∃ j_ : Int, (wrap64 (a1 + 2)) = j_ := ⟨_, rfl⟩
                       replace H : (if 0 ≤ (ji44) then (if (ji44) < (a0.size : Int) then ((Z13.f kj27 (bt a0 (ji44))).bind fun t126 => (if 0 ≤ (wrap64 (a1 + 3)) then (if (wrap64 (a1 + 3)) < (a0.size : Int) then ((Z13.f kj27 (bt a0 (wrap64 (a1 + 3)))).bind fun t127 => (some ((Go.bits .or .i64 (wrap64 (t126 * 16)) t127) % 256, wrap64 (a1 + 4), true))) else (none)) else (none))) else (none)) else (none)) = some (r1, r2, r3) := by first | (rw [hji44] at H; exact H) | (simp only [hji44] at H ⊢; exact H)
                       have hji44w : (IntKind.i64.wrap (a1 + 2)) = ji44 := (i64_w _).trans hji44
                       by_cases c45 : 0 ≤ (ji44)
                       · rw [if_pos c45] at H
                         have c45b0 : decide (0 ≤ (ji44)) = true := decide_eq_true c45
                         clear c45
                         by_cases c46 : (ji44) < (a0.size : Int)
                         · rw [if_pos c46] at H
                           have c46b0 : decide ((ji44) < (a0.size : Int)) = true := decide_eq_true c46
                           clear c46
                           replace H := Option.bind_eq_some_iff.mp H
                           obtain ⟨t126, A480, H⟩ := H
                           replace H : (if 0 ≤ (wrap64 (a1 + 3)) then (if (wrap64 (a1 + 3)) < (a0.size : Int) then ((Z13.f kj27 (bt a0 (wrap64 (a1 + 3)))).bind fun t127 => (some ((Go.bits .or .i64 (wrap64 (t126 * 16)) t127) % 256, wrap64 (a1 + 4), true))) else (none)) else (none)) = some (r1, r2, r3) := H
                           have A48 := Aside0.mk A480
                           clear A480
                           obtain ⟨ji49, hji49⟩ : ∃ j_ : Int, (wrap64 (a1 + 3)) = j_ := ⟨_, rfl⟩
                           replace H : (if 0 ≤ (ji49) then (if (ji49) < (a0.size : Int) then ((Z13.f kj27 (bt a0 (ji49))).bind fun t127 => (some ((Go.bits .or .i64 (wrap64 (t126 * 16)) t127) % 256, wrap64 (a1 + 4), true))) else (none)) else (none)) = some (r1, r2, r3) := by first | (rw [hji49] at H; exact H) | (simp only [hji49] at H ⊢; exact H)
                           (try rw [hji49] at A48)
                           have hji49w : (IntKind.i64.wrap (a1 + 3)) = ji49 := (i64_w _).trans hji49
                           by_cases c50 : 0 ≤ (ji49)
                           · rw [if_pos c50] at H
                             have c50b0 : decide (0 ≤ (ji49)) = true := decide_eq_true c50
                             clear c50
                             by_cases c51 : (ji49) < (a0.size : Int)
                             · rw [if_pos c51] at H
                               have c51b0 : decide ((ji49) < (a0.size : Int)) = true := decide_eq_true c51
                               clear c51
                               replace H := Option.bind_eq_some_iff.mp H
                               obtain ⟨t127, A530, H⟩ := H
                               replace H : (some ((Go.bits .or .i64 (wrap64 (t126 * 16)) t127) % 256, wrap64 (a1 + 4), true)) = some (r1, r2, r3) := H
                               have A53 := Aside0.mk A530
                               clear A530
                               simp only [Option.some.injEq, Prod.mk.injEq] at H
                               obtain ⟨rfl, rfl, rfl⟩ := H
                               have p47 : 0 ≤ ((ji44) : Int) := of_decide_eq_true (by first | (with_reducible assumption) | assumption)
                               have q47 : (ji44) < (a0.size : Int) := of_decide_eq_true (by first | (with_reducible assumption) | assumption)
                               have hx47 := bt_at a0 (ji44)
                               replace p47 := eq_true p47
                               replace q47 := eq_true q47
                               go_wp2_with (first | (go_at_call 22; (with_reducible refine (Z13.calls kj27 (bt a0 (ji44)) t126 _ A48.out).mono ?_); rintro e w' ⟨rfl, ⟨nd, rfl⟩⟩; (try first | exact ⟨rfl, _, World.drewN_drewN _ _ _⟩ | exact ⟨rfl, _, Eq.trans (World.drewN_drewN _ _ _) (congrArg (World.drewN _) (Nat.add_assoc _ _ _))⟩); have p52 : 0 ≤ ((ji49) : Int) := of_decide_eq_true (by first | (with_reducible assumption) | assumption); have q52 : (ji49) < (a0.size : Int) := of_decide_eq_true (by first | (with_reducible assumption) | assumption); have hx52 := bt_at a0 (ji49); replace p52 := eq_true p52; replace q52 := eq_true q52) | (go_at_call 22; (with_reducible refine (Z13.calls kj27 (bt a0 (ji49)) t127 _ A53.out).mono ?_); rintro e w' ⟨rfl, ⟨nd, rfl⟩⟩; (try first | exact ⟨rfl, _, World.drewN_drewN _ _ _⟩ | exact ⟨rfl, _, Eq.trans (World.drewN_drewN _ _ _) (congrArg (World.drewN _) (Nat.add_assoc _ _ _))⟩)))
                               repeat (go_quiet (first | (go_at_call 22; (with_reducible refine (Z13.calls kj27 (bt a0 (ji44)) t126 _ A48.out).mono ?_); rintro e w' ⟨rfl, ⟨nd, rfl⟩⟩; (try first | exact ⟨rfl, _, World.drewN_drewN _ _ _⟩ | exact ⟨rfl, _, Eq.trans (World.drewN_drewN _ _ _) (congrArg (World.drewN _) (Nat.add_assoc _ _ _))⟩); have p52 : 0 ≤ ((ji49) : Int) := of_decide_eq_true (by first | (with_reducible assumption) | assumption); have q52 : (ji49) < (a0.size : Int) := of_decide_eq_true (by first | (with_reducible assumption) | assumption); have hx52 := bt_at a0 (ji49); replace p52 := eq_true p52; replace q52 := eq_true q52) | (go_at_call 22; (with_reducible refine (Z13.calls kj27 (bt a0 (ji49)) t127 _ A53.out).mono ?_); rintro e w' ⟨rfl, ⟨nd, rfl⟩⟩; (try first | exact ⟨rfl, _, World.drewN_drewN _ _ _⟩ | exact ⟨rfl, _, Eq.trans (World.drewN_drewN _ _ _) (congrArg (World.drewN _) (Nat.add_assoc _ _ _))⟩))); try go_wp2_with (first | (go_at_call 22; (with_reducible refine (Z13.calls kj27 (bt a0 (ji44)) t126 _ A48.out).mono ?_); rintro e w' ⟨rfl, ⟨nd, rfl⟩⟩; (try first | exact ⟨rfl, _, World.drewN_drewN _ _ _⟩ | exact ⟨rfl, _, Eq.trans (World.drewN_drewN _ _ _) (congrArg (World.drewN _) (Nat.add_assoc _ _ _))⟩); have p52 : 0 ≤ ((ji49) : Int) := of_decide_eq_true (by first | (with_reducible assumption) | assumption); have q52 : (ji49) < (a0.size : Int) := of_decide_eq_true (by first | (with_reducible assumption) | assumption); have hx52 := bt_at a0 (ji49); replace p52 := eq_true p52; replace q52 := eq_true q52) | (go_at_call 22; (with_reducible refine (Z13.calls kj27 (bt a0 (ji49)) t127 _ A53.out).mono ?_); rintro e w' ⟨rfl, ⟨nd, rfl⟩⟩; (try first | exact ⟨rfl, _, World.drewN_drewN _ _ _⟩ | exact ⟨rfl, _, Eq.trans (World.drewN_drewN _ _ _) (congrArg (World.drewN _) (Nat.add_assoc _ _ _))⟩))))
                               go_ret3
                               exact ⟨by first | rfl | (simp; done) | (simp only [← hji19, ← hji44, ← hji49]; simp; simp only [i64_w, IntKind.wrap_u8, and_self]) | (simp [*]; done), by repeat (first | exact Drawn0.refl _ | apply Drawn0.step)⟩
                             · rw [if_neg c51] at H
                               exact absurd H (by simp)
                           · rw [if_neg c50] at H
                             exact absurd H (by simp)
                         · rw [if_neg c46] at H
                           exact absurd H (by simp)
                       · rw [if_neg c45] at H
                         exact absurd H (by simp)
               · rw [if_neg c21] at H
                 exact absurd H (by simp)
             · rw [if_neg c20] at H
               exact absurd H (by simp)
         · rw [if_neg c17] at H
           have c17b0 : ((bt a0 a1) == 92) = false := beq_eq_false_iff_ne.mpr c17
           have c17b1 : ((bt a0 a1) != 92) = true := bne_iff_ne.mpr c17
           simp only [Option.some.injEq, Prod.mk.injEq] at H
           obtain ⟨rfl, rfl, rfl⟩ := H
           have p16 : 0 ≤ (a1 : Int) := of_decide_eq_true (by first | (with_reducible assumption) | assumption)
           have q16 : a1 < (a0.size : Int) := of_decide_eq_true (by first | (with_reducible assumption) | assumption)
           have hx16 := bt_at a0 a1
           replace p16 := eq_true p16
           replace q16 := eq_true q16
           have p54 : 0 ≤ (a1 : Int) := of_decide_eq_true (by first | (with_reducible assumption) | assumption)
           have q54 : a1 < (a0.size : Int) := of_decide_eq_true (by first | (with_reducible assumption) | assumption)
           have hx54 := bt_at a0 a1
           replace p54 := eq_true p54
           replace q54 := eq_true q54
           go_wp2
           repeat (go_quiet (fail); try go_wp2)
           go_ret3
           exact ⟨by first | rfl | (simp; done) | (simp [*]; done), by repeat (first | exact Drawn0.refl _ | apply Drawn0.step)⟩
       · rw [if_neg c15] at H
         exact absurd H (by simp)
     · rw [if_neg c14] at H
       exact absurd H (by simp)
end Go.Proofs.YtbmfadmoficfiaaDoor.Q
namespace Go.Proofs.YtbmfadmoficfiaaDoor.Q
open Go.RowKit Go.Proofs.YtbmfadmoficfiaaDoorW.PrintWords Go.Proofs.YtbmfadmoficfiaaDoorW.PrintLast Go.Proofs.YtbmfadmoficfiaaDoorW.PrintMore
attribute [local go_sem] Z56 Z54 Z61 Z60 Z49 Z48 Z55 Z53
set_option linter.unusedVariables false
set_option linter.unusedSimpArgs false
mutual
def Z17.l0 : Nat → ByteArray → Int → List Int → Int → Int → ByteArray → Int → Bool → Int → Int → Option (Int × ByteArray × Int × Bool × Int × Int × Bool)
 | 0, _, _, _, _, _, _, _, _, _, _ => none
 | k + 1, x0, x7, x8, x9, x130000, x130001, x130002, x130003, x130004, x130005 => if x9 < (x0.size : Int) then (if 0 ≤ x9 then (Z17.j1 k x0 x7 x8 x9 ((bt x0 x9) != x7) x130000 x130001 x130002 x130003 x130004 x130005) else (none)) else (Z17.j1 k x0 x7 x8 x9 false x130000 x130001 x130002 x130003 x130004 x130005)
def Z17.j1 : Nat → ByteArray → Int → List Int → Int → Bool → Int → ByteArray → Int → Bool → Int → Int → Option (Int × ByteArray × Int × Bool × Int × Int × Bool)
 | 0, _, _, _, _, _, _, _, _, _, _, _ => none
 | k + 1, x0, x7, x8, x9, x30, x130000, x130001, x130002, x130003, x130004, x130005 => if x30 = true then ((Z24.f k x0 x9 x7).bind fun bt130 => (if bt130.2.2 = true then (if x8.length < 140737488355328 then (Z17.l0 k x0 x7 (x8 ++ [bt130.1]) bt130.2.1 x130000 x130001 x130002 x130003 x130004 x130005) else (none)) else (some (x130000, x130001, x130002, x130003, x130004, x130005, false)))) else (if x9 ≥ (x0.size : Int) then (Z17.j2 k x7 x8 x9 true x130000 x130001 x130002 x130003 x130004 x130005) else (if x7 = 39 then (Z17.j2 k x7 x8 x9 ((x8.length : Int) != 1) x130000 x130001 x130002 x130003 x130004 x130005) else (Z17.j2 k x7 x8 x9 false x130000 x130001 x130002 x130003 x130004 x130005)))
def Z17.j2 : Nat → Int → List Int → Int → Bool → Int → ByteArray → Int → Bool → Int → Int → Option (Int × ByteArray × Int × Bool × Int × Int × Bool)
 | 0, _, _, _, _, _, _, _, _, _, _ => none
 | k + 1, x7, x8, x9, x59, x130000, x130001, x130002, x130003, x130004, x130005 => if x59 = true then (some (x130000, x130001, x130002, x130003, x130004, x130005, false)) else (if x7 = 39 then (if 0 < (x8.length : Int) then (some (6, x130001, (rd x8 0) % 4294967296, x130003, x130004, wrap64 (x9 + 1), true)) else (none)) else (some (x130000, strOfNums x8, x130002, x130003, x130004, wrap64 (x9 + 1), true)))
end
def Z17.f (k : Nat) (a0 : ByteArray) (a1 : Int) : Option (Int × ByteArray × Int × Bool × Int × Int × Bool) := if 0 ≤ a1 then (if a1 < (a0.size : Int) then (Z17.l0 k a0 (bt a0 a1) ([] : List Int) (wrap64 (a1 + 1)) 7 (⟨#[]⟩ : ByteArray) 0 false a1 0) else (none)) else (none)
theorem Z17.mono_l : ∀ k, (∀ y0 y1 y2 y3 y4 y5 y6 y7 y8 y9, LeO (Z17.l0 k y0 y1 y2 y3 y4 y5 y6 y7 y8 y9) (Z17.l0 (k + 1) y0 y1 y2 y3 y4 y5 y6 y7 y8 y9)) ∧ (∀ y0 y1 y2 y3 y4 y5 y6 y7 y8 y9 y10, LeO (Z17.j1 k y0 y1 y2 y3 y4 y5 y6 y7 y8 y9 y10) (Z17.j1 (k + 1) y0 y1 y2 y3 y4 y5 y6 y7 y8 y9 y10)) ∧ (∀ y0 y1 y2 y3 y4 y5 y6 y7 y8 y9, LeO (Z17.j2 k y0 y1 y2 y3 y4 y5 y6 y7 y8 y9) (Z17.j2 (k + 1) y0 y1 y2 y3 y4 y5 y6 y7 y8 y9))
 | 0 => ⟨fun _ _ _ _ _ _ _ _ _ _ r h => by simp [Z17.l0] at h, fun _ _ _ _ _ _ _ _ _ _ _ r h => by simp [Z17.j1] at h, fun _ _ _ _ _ _ _ _ _ _ r h => by simp [Z17.j2] at h⟩
 | k + 1 => by
  obtain ⟨ih0, ih1, ih2⟩ := Z17.mono_l k
  refine ⟨?_, ?_, ?_⟩
  · intro y0 y1 y2 y3 y4 y5 y6 y7 y8 y9
    unfold Z17.l0
    repeat' first
    | (with_reducible exact ih0 _ _ _ _ _ _ _ _ _ _)
    | (with_reducible exact ih1 _ _ _ _ _ _ _ _ _ _ _)
    | (with_reducible exact ih2 _ _ _ _ _ _ _ _ _ _)
    | (with_reducible exact Z24.mono _ _ _ _)
    | (with_reducible exact LeO.refl _)
    | (with_reducible exact LeO.none _)
    | (with_reducible refine LeO.ite ?_ ?_)
    | (with_reducible refine LeO.bind ?_ (fun _ => ?_))
    | exact ih0 _ _ _ _ _ _ _ _ _ _
    | exact ih1 _ _ _ _ _ _ _ _ _ _ _
    | exact ih2 _ _ _ _ _ _ _ _ _ _
    | exact Z24.mono _ _ _ _
    | exact LeO.none _
    | refine LeO.ite ?_ ?_
    | refine LeO.bind ?_ (fun _ => ?_)
  · intro y0 y1 y2 y3 y4 y5 y6 y7 y8 y9 y10
    unfold Z17.j1
    repeat' first
    | (with_reducible exact ih0 _ _ _ _ _ _ _ _ _ _)
    | (with_reducible exact ih1 _ _ _ _ _ _ _ _ _ _ _)
    | (with_reducible exact ih2 _ _ _ _ _ _ _ _ _ _)
    | (with_reducible exact Z24.mono _ _ _ _)
    | (with_reducible exact LeO.refl _)
    | (with_reducible exact LeO.none _)
    | (with_reducible refine LeO.ite ?_ ?_)
    | (with_reducible refine LeO.bind ?_ (fun _ => ?_))
    | exact ih0 _ _ _ _ _ _ _ _ _ _
    | exact ih1 _ _ _ _ _ _ _ _ _ _ _
    | exact ih2 _ _ _ _ _ _ _ _ _ _
    | exact Z24.mono _ _ _ _
    | exact LeO.none _
    | refine LeO.ite ?_ ?_
    | refine LeO.bind ?_ (fun _ => ?_)
  · intro y0 y1 y2 y3 y4 y5 y6 y7 y8 y9
    unfold Z17.j2
    repeat' first
    | (with_reducible exact ih0 _ _ _ _ _ _ _ _ _ _)
    | (with_reducible exact ih1 _ _ _ _ _ _ _ _ _ _ _)
    | (with_reducible exact ih2 _ _ _ _ _ _ _ _ _ _)
    | (with_reducible exact Z24.mono _ _ _ _)
    | (with_reducible exact LeO.refl _)
    | (with_reducible exact LeO.none _)
    | (with_reducible refine LeO.ite ?_ ?_)
    | (with_reducible refine LeO.bind ?_ (fun _ => ?_))
    | exact ih0 _ _ _ _ _ _ _ _ _ _
    | exact ih1 _ _ _ _ _ _ _ _ _ _ _
    | exact ih2 _ _ _ _ _ _ _ _ _ _
    | exact Z24.mono _ _ _ _
    | exact LeO.none _
    | refine LeO.ite ?_ ?_
    | refine LeO.bind ?_ (fun _ => ?_)
theorem Z17.mono : ∀ a0 a1 k, LeO (Z17.f k a0 a1) (Z17.f (k + 1) a0 a1) := by
 intro a0 a1 k
 obtain ⟨ih0, ih1, ih2⟩ := Z17.mono_l k
 unfold Z17.f
 repeat' first
  | (with_reducible exact ih0 _ _ _ _ _ _ _ _ _ _)
  | (with_reducible exact ih1 _ _ _ _ _ _ _ _ _ _ _)
  | (with_reducible exact ih2 _ _ _ _ _ _ _ _ _ _)
  | (with_reducible exact Z24.mono _ _ _ _)
  | (with_reducible exact LeO.refl _)
  | (with_reducible exact LeO.none _)
  | (with_reducible refine LeO.ite ?_ ?_)
  | (with_reducible refine LeO.bind ?_ (fun _ => ?_))
  | exact ih0 _ _ _ _ _ _ _ _ _ _
  | exact ih1 _ _ _ _ _ _ _ _ _ _ _
  | exact ih2 _ _ _ _ _ _ _ _ _ _
  | exact Z24.mono _ _ _ _
  | exact LeO.none _
  | refine LeO.ite ?_ ?_
  | refine LeO.bind ?_ (fun _ => ?_)
def Z17.T15 : Bool × List (List Nat × List Nat) := (true, [([], []), ([0], [0]), ([1], [1]), ([2], [2]), ([], []), ([4], [4]), ([0, 1, 2, 3, 4, 5], []), ([6, 3, 5, 0, 1, 2, 3, 4, 5], [3, 6])])
def Z17.B15 : List Nat := [0, 1, 3, 7, 0, 16, 63, 127]
theorem Z17.tab15 : rtab .any (opsOf Tryd.f26 15) = Z17.T15 := by kernel_rfl
theorem Z17.bits15 : waitsOk Z17.T15.2 Z17.B15 = true := by kernel_rfl
set_option maxHeartbeats 8000000 in
set_option maxRecDepth 100000 in
theorem Z17.calls (k : Nat) (a0 : ByteArray) (a1 : Int) (r1 : Int) (r2 : ByteArray) (r3 : Int) (r4 : Bool) (r5 : Int) (r6 : Int) (r7 : Bool) (w : World) (h : Z17.f k a0 a1 = some (r1, r2, r3, r4, r5, r6, r7)) :
 Calls Tryd.prog 26 #[.string a0, .int .i64 a1] w fun e w' => e = .returned (.tuple #[.agg #[.int .i64 r1, .string r2, .int .u32 r3, .bool r4, .int .i64 r5, .int .i64 r6], .bool r7]) ∧ Below w.heap.size w w' := by
 have hu24 := Tryd.underlying24
 have HB := Aside0.mk (Below.refl w.heap.size w)
 have H : (if 0 ≤ a1 then (if a1 < (a0.size : Int) then (Z17.l0 k a0 (bt a0 a1) ([] : List Int) (wrap64 (a1 + 1)) 7 (⟨#[]⟩ : ByteArray) 0 false a1 0) else (none)) else (none)) = some (r1, r2, r3, r4, r5, r6, r7) := h
 clear h
 by_cases c3 : 0 ≤ a1
 · rw [if_pos c3] at H
   have c3b0 : decide (0 ≤ a1) = true := decide_eq_true c3
   clear c3
   by_cases c4 : a1 < (a0.size : Int)
   · rw [if_pos c4] at H
     have c4b0 : decide (a1 < (a0.size : Int)) = true := decide_eq_true c4
     clear c4
     have H' := Aside0.mk H
     clear H
     go_enter Tryd.func26, Tryd.ntmps26
     go_wp2_with (first | ((with_reducible refine Z52 (N := 4) rfl ?_); (try (refine Z66 (by rfl) ?_; dsimp only)); refine Z51 ?hg (N := 4) ?hd (cs := #[.int .i64 0, .string (⟨#[]⟩ : ByteArray), .int .u32 0, .bool false, .int .i64 0, .int .i64 0]) (t := 24) ?hr ?_; (case hd => rfl); (case hg => rfl); (case hr => first | (go_simp; done) | (go_simp; rfl)); intro gb128 hg w6 hbox hb; have n0_ := Aside0.mk (Z25 (by repeat (first | (with_reducible first | exact HB.out | apply Z7 | apply Z4 | apply Z6) | exact HB.out)) hb); have n1_ := Aside0.mk (hbox); have n2_ := Aside0.mk ((by rw [hg]; exact (Z27 (by repeat (first | (with_reducible first | exact HB.out | apply Z7 | apply Z4 | apply Z6) | exact HB.out))) : w.heap.size ≤ gb128)); have n3_ := Aside0.mk ((by rw [hg]; exact (Z27 (by repeat (first | (with_reducible first | exact HB.out | apply Z7 | apply Z4 | apply Z6) | exact HB.out))) : w.heap.size ≤ gb128)); clear HB; have HB := n0_; have BK128 := n1_; have GW128 := n2_; have GE128 := n3_; clear n0_ n1_ n2_ n3_; clear hb hbox hg) | ((with_reducible refine Z52 (N := 6) rfl ?_); (try (refine Z66 (by rfl) ?_; dsimp only)); refine Z51 ?hg (N := 6) ?hd (cs := #[.int .i64 0, .string (⟨#[]⟩ : ByteArray), .int .u32 0, .bool false, .int .i64 0, .int .i64 0]) (t := 24) ?hr ?_; (case hd => rfl); (case hg => rfl); (case hr => first | (go_simp; done) | (go_simp; rfl)); intro gb129 hg w7 hbox hb; have n0_ := Aside0.mk (Z40 (g := gb128) (o := .cells #[.int .i64 0, .string (⟨#[]⟩ : ByteArray), .int .u32 0, .bool false, .int .i64 0, .int .i64 0] 24 (0, 0)) (by (with_reducible repeat (first | refine Z0 ?_ _ | refine Z3 ?_ | refine Z1 ?_ _)); exact BK128.out) hb); have n1_ := Aside0.mk (Z25 (by repeat (first | (with_reducible first | exact HB.out | apply Z7 | apply Z4 | apply Z6 | refine Z8 ?_ GE128.out) | exact HB.out)) hb); have n2_ := Aside0.mk (hbox); have n3_ := Aside0.mk ((by rw [hg]; exact (Z27 (by repeat (first | (with_reducible first | exact HB.out | apply Z7 | apply Z4 | apply Z6 | refine Z8 ?_ GE128.out) | exact HB.out))) : w.heap.size ≤ gb129)); have n4_ := Aside0.mk ((by rw [hg]; exact (Z27 (by repeat (first | (with_reducible first | exact HB.out | apply Z7 | apply Z4 | apply Z6 | refine Z8 ?_ GE128.out) | exact HB.out))) : w.heap.size ≤ gb129)); have n5_ := Aside0.mk ((by rw [hg]; exact Nat.ne_of_lt (blk_lt (g := gb128) (o := .cells #[.int .i64 0, .string (⟨#[]⟩ : ByteArray), .int .u32 0, .bool false, .int .i64 0, .int .i64 0] 24 (0, 0)) (by (with_reducible repeat (first | refine Z0 ?_ _ | refine Z3 ?_ | refine Z1 ?_ _)); exact BK128.out)) : gb128 ≠ gb129)); have n6_ := Aside0.mk ((by rw [hg]; exact Nat.ne_of_gt (blk_lt (g := gb128) (o := .cells #[.int .i64 0, .string (⟨#[]⟩ : ByteArray), .int .u32 0, .bool false, .int .i64 0, .int .i64 0] 24 (0, 0)) (by (with_reducible repeat (first | refine Z0 ?_ _ | refine Z3 ?_ | refine Z1 ?_ _)); exact BK128.out)) : gb129 ≠ gb128)); clear BK128; clear HB; have BK128 := n0_; have HB := n1_; have BK129 := n2_; have GW129 := n3_; have GE129 := n4_; have NB128_129 := n5_; have NB129_128 := n6_; clear n0_ n1_ n2_ n3_ n4_ n5_ n6_; clear hb hbox hg; have hnb8 := NB129_128.out; have hnc8 := NB128_129.out; have hcz9_0 : w7.cell? ⟨gb129, 0, none⟩ = some (.int .i64 0) := (Z5 BK129.out 0).trans rfl; have hcz9_1 : w7.cell? ⟨gb129, 1, none⟩ = some (.string (⟨#[]⟩ : ByteArray)) := (Z5 BK129.out 1).trans rfl; have hcz9_2 : w7.cell? ⟨gb129, 2, none⟩ = some (.int .u32 0) := (Z5 BK129.out 2).trans rfl; have hcz9_3 : w7.cell? ⟨gb129, 3, none⟩ = some (.bool false) := (Z5 BK129.out 3).trans rfl; have hcz9_4 : w7.cell? ⟨gb129, 4, none⟩ = some (.int .i64 0) := (Z5 BK129.out 4).trans rfl; have hcz9_5 : w7.cell? ⟨gb129, 5, none⟩ = some (.int .i64 0) := (Z5 BK129.out 5).trans rfl; have hfz9_0 := Z2 BK129.out 0; have hfz9_1 := Z2 BK129.out 1; have hfz9_2 := Z2 BK129.out 2; have hfz9_3 := Z2 BK129.out 3; have hfz9_4 := Z2 BK129.out 4; have hfz9_5 := Z2 BK129.out 5; have p5 : 0 ≤ (a1 : Int) := of_decide_eq_true (by first | (with_reducible assumption) | assumption); have q5 : a1 < (a0.size : Int) := of_decide_eq_true (by first | (with_reducible assumption) | assumption); have hx5 := bt_at a0 a1; replace p5 := eq_true p5; replace q5 := eq_true q5))
     go_loopg [8, 9] k (fun kq v8 v9 w' => ∃ (x8_1 : List Int) (x9_1 : Int) (x129000_1 : Int) (x129001_1 : ByteArray) (x129002_1 : Int) (x129003_1 : Bool) (x129004_1 : Int) (x129005_1 : Int), v9 = .int .i64 x9_1 ∧ Aside0 (Z17.l0 kq a0 (bt a0 a1) x8_1 x9_1 7 (⟨#[]⟩ : ByteArray) 0 false a1 0 = some (r1, r2, r3, r4, r5, r6, r7)) ∧ Aside0 (kq ≤ k) ∧ Aside0 (Kd.R (Kd.int .u8) 5 w' w.heap.size (fun _ => True) v8 x8_1) ∧ Aside0 (w'.heap[gb128]? = some (.cells #[.int .i64 x129000_1, .string x129001_1, .int .u32 x129002_1, .bool x129003_1, .int .i64 x129004_1, .int .i64 x129005_1] 24 (0, 0))) ∧ Aside0 (w'.heap[gb129]? = some (.cells #[.int .i64 7, .string (⟨#[]⟩ : ByteArray), .int .u32 0, .bool false, .int .i64 a1, .int .i64 0] 24 (0, 0))) ∧ Aside0 (Below w.heap.size w w'))
     case atStart => exact ⟨(([] : List Int)), (wrap64 (a1 + 1)), (0), ((⟨#[]⟩ : ByteArray)), (0), (false), (0), (0), (by first | rfl | (simp; done) | (simp [*]; done)), H', ⟨Nat.le_refl _⟩, ⟨by first | exact Kd.R_nil _ _ _ _ _ | exact Kd.N_nil _ _ _ _ _ | exact Kd.V_nil _ _ _ _ _ | exact Kd.Q_nil _ _ _ _ _ | exact Kd.S_nil _ _ _ _ _⟩, ⟨by (with_reducible repeat (first | refine Z0 ?_ _ | refine Z3 ?_ | refine Z1 ?_ _)); refine Z22 ?_ NB128_129.out _; (with_reducible repeat (first | refine Z0 ?_ _ | refine Z3 ?_ | refine Z1 ?_ _)); refine Z22 ?_ NB128_129.out _; (with_reducible repeat (first | refine Z0 ?_ _ | refine Z3 ?_ | refine Z1 ?_ _)); refine Z22 ?_ NB128_129.out _; (with_reducible repeat (first | refine Z0 ?_ _ | refine Z3 ?_ | refine Z1 ?_ _)); refine Z22 ?_ NB128_129.out _; (with_reducible repeat (first | refine Z0 ?_ _ | refine Z3 ?_ | refine Z1 ?_ _)); refine Z22 ?_ NB128_129.out _; (with_reducible repeat (first | refine Z0 ?_ _ | refine Z3 ?_ | refine Z1 ?_ _)); refine Z22 ?_ NB128_129.out _; (with_reducible repeat (first | refine Z0 ?_ _ | refine Z3 ?_ | refine Z1 ?_ _)); exact BK128.out⟩, ⟨by (with_reducible repeat (first | refine Z0 ?_ _ | refine Z3 ?_ | refine Z1 ?_ _)); refine Z9 (cs := #[.int .i64 7, .string (⟨#[]⟩ : ByteArray), .int .u32 0, .bool false, .int .i64 a1, .int .i64 0]) ?_ 5 _ rfl; (with_reducible repeat (first | refine Z0 ?_ _ | refine Z3 ?_ | refine Z1 ?_ _)); refine Z9 (cs := #[.int .i64 7, .string (⟨#[]⟩ : ByteArray), .int .u32 0, .bool false, .int .i64 0, .int .i64 0]) ?_ 4 _ rfl; (with_reducible repeat (first | refine Z0 ?_ _ | refine Z3 ?_ | refine Z1 ?_ _)); refine Z9 (cs := #[.int .i64 7, .string (⟨#[]⟩ : ByteArray), .int .u32 0, .bool false, .int .i64 0, .int .i64 0]) ?_ 3 _ rfl; (with_reducible repeat (first | refine Z0 ?_ _ | refine Z3 ?_ | refine Z1 ?_ _)); refine Z9 (cs := #[.int .i64 7, .string (⟨#[]⟩ : ByteArray), .int .u32 0, .bool false, .int .i64 0, .int .i64 0]) ?_ 2 _ rfl; (with_reducible repeat (first | refine Z0 ?_ _ | refine Z3 ?_ | refine Z1 ?_ _)); refine Z9 (cs := #[.int .i64 7, .string (⟨#[]⟩ : ByteArray), .int .u32 0, .bool false, .int .i64 0, .int .i64 0]) ?_ 1 _ rfl; (with_reducible repeat (first | refine Z0 ?_ _ | refine Z3 ?_ | refine Z1 ?_ _)); refine Z9 (cs := #[.int .i64 0, .string (⟨#[]⟩ : ByteArray), .int .u32 0, .bool false, .int .i64 0, .int .i64 0]) ?_ 0 _ rfl; (with_reducible repeat (first | refine Z0 ?_ _ | refine Z3 ?_ | refine Z1 ?_ _)); exact BK129.out⟩, ⟨by repeat (first | (with_reducible first | exact HB.out | apply Z7 | apply Z4 | apply Z6 | refine Z8 ?_ GE128.out | refine Z8 ?_ GE129.out) | exact HB.out)⟩⟩
     case round =>
      clear H'
      try clear c3
      try clear c3b0
      try clear c4
      try clear c4b0
      try clear p5
      try clear q5
      try clear hx5
      try clear hcz9_0
      try clear hcz9_1
      try clear hcz9_2
      try clear hcz9_3
      try clear hcz9_4
      try clear hcz9_5
      try clear hfz9_0
      try clear hfz9_1
      try clear hfz9_2
      try clear hfz9_3
      try clear hfz9_4
      try clear hfz9_5
      try clear p5
      try clear q5
      obtain ⟨x8_1, x9_1, x129000_1, x129001_1, x129002_1, x129003_1, x129004_1, x129005_1, rfl, HA, HK1, HO_8, BK128, BK129, HB⟩ := hrel
      cases gk with
      | zero => exact absurd HA.out (by simp [Z17.l0])
      | succ k1 =>
       have H := HA.out
       clear HA
       simp only [Z17.l0] at H
       have HC10 := Aside0.mk H
       clear H
       go_upto_region 5 with (fail)
       go_cut [30] (fun v30 wc => ∃ (kq : Nat) (x30_9 : Bool), v30 = .bool x30_9 ∧ Aside0 (Z17.j1 kq a0 (bt a0 a1) x8_1 x9_1 x30_9 7 (⟨#[]⟩ : ByteArray) 0 false a1 0 = some (r1, r2, r3, r4, r5, r6, r7)) ∧ Aside0 (kq ≤ k1) ∧ Aside0 (Kd.R (Kd.int .u8) 5 wc w.heap.size (fun _ => True) u8 x8_1) ∧ Aside0 (wc.heap[gb128]? = some (.cells #[.int .i64 x129000_1, .string x129001_1, .int .u32 x129002_1, .bool x129003_1, .int .i64 x129004_1, .int .i64 x129005_1] 24 (0, 0))) ∧ Aside0 (wc.heap[gb129]? = some (.cells #[.int .i64 7, .string (⟨#[]⟩ : ByteArray), .int .u32 0, .bool false, .int .i64 a1, .int .i64 0] 24 (0, 0))) ∧ Aside0 (Below w.heap.size w wc))
       case first =>
        have H := HC10.out
        clear HC10
        by_cases c11 : x9_1 < (a0.size : Int)
        · rw [if_pos c11] at H
          have c11b0 : decide (x9_1 < (a0.size : Int)) = true := decide_eq_true c11
          clear c11
          (first | rw [c11b0] | (simp only [i64_w, i32_w]; rw [c11b0]) | skip)
          by_cases c12 : 0 ≤ x9_1
          · rw [if_pos c12] at H
            have c12b0 : decide (0 ≤ x9_1) = true := decide_eq_true c12
            clear c12
            have H' := Aside0.mk H
            clear H
            have p13 : 0 ≤ (x9_1 : Int) := of_decide_eq_true (by first | (with_reducible assumption) | assumption)
            have q13 : x9_1 < (a0.size : Int) := of_decide_eq_true (by first | (with_reducible assumption) | assumption)
            have hx13 := bt_at a0 x9_1
            replace p13 := eq_true p13
            replace q13 := eq_true q13
            go_wp2
            go_meet
            case rel => exact ⟨_, (((bt a0 x9_1) != (bt a0 a1))), (by first | rfl | (simp; done) | (simp [*]; done)), H', ⟨by have := HK1.out; first | omega | exact Nat.le_refl _⟩, ⟨by (with_reducible repeat (first | apply Kd.R_alloc | apply Kd.R_drewN | apply Kd.R_drew)); exact HO_8.out⟩, ⟨by (with_reducible repeat (first | refine Z0 ?_ _ | refine Z3 ?_ | refine Z1 ?_ _)); exact BK128.out⟩, ⟨by (with_reducible repeat (first | refine Z0 ?_ _ | refine Z3 ?_ | refine Z1 ?_ _)); exact BK129.out⟩, ⟨by repeat (first | (with_reducible first | exact HB.out | apply Z7 | apply Z4 | apply Z6 | refine Z8 ?_ GE128.out | refine Z8 ?_ GE129.out) | exact HB.out)⟩⟩
          · rw [if_neg c12] at H
            exact absurd H (by simp)
        · rw [if_neg c11] at H
          have c11b0 : decide (x9_1 < (a0.size : Int)) = false := decide_eq_false c11
          clear c11
          (first | rw [c11b0] | (simp only [i64_w, i32_w]; rw [c11b0]) | skip)
          have H' := Aside0.mk H
          clear H
          go_wp2
          go_meet
          case rel => exact ⟨_, (false), (by first | rfl | (simp; done) | (simp [*]; done)), H', ⟨by have := HK1.out; first | omega | exact Nat.le_refl _⟩, ⟨by (with_reducible repeat (first | apply Kd.R_alloc | apply Kd.R_drewN | apply Kd.R_drew)); exact HO_8.out⟩, ⟨by (with_reducible repeat (first | refine Z0 ?_ _ | refine Z3 ?_ | refine Z1 ?_ _)); exact BK128.out⟩, ⟨by (with_reducible repeat (first | refine Z0 ?_ _ | refine Z3 ?_ | refine Z1 ?_ _)); exact BK129.out⟩, ⟨by repeat (first | (with_reducible first | exact HB.out | apply Z7 | apply Z4 | apply Z6 | refine Z8 ?_ GE128.out | refine Z8 ?_ GE129.out) | exact HB.out)⟩⟩
       case rest =>
        clear HC10
        try clear c3
        try clear c3b0
        try clear c4
        try clear c4b0
        try clear p5
        try clear q5
        try clear hx5
        try clear hcz9_0
        try clear hcz9_1
        try clear hcz9_2
        try clear hcz9_3
        try clear hcz9_4
        try clear hcz9_5
        try clear hfz9_0
        try clear hfz9_1
        try clear hfz9_2
        try clear hfz9_3
        try clear hfz9_4
        try clear hfz9_5
        try clear p5
        try clear q5
        obtain ⟨kq, x30_9, rfl, HA, HJ9, HO_8, BK128, BK129, HB⟩ := hcut
        cases kq with
        | zero => exact absurd HA.out (by simp [Z17.j1])
        | succ kj9 =>
         have H := HA.out
         clear HA
         simp only [Z17.j1] at H
         by_cases c14 : x30_9 = true
         · subst c14
           have H1 : ((Z24.f kj9 a0 x9_1 (bt a0 a1)).bind fun bt130 => (if bt130.2.2 = true then (if x8_1.length < 140737488355328 then (Z17.l0 kj9 a0 (bt a0 a1) (x8_1 ++ [bt130.1]) bt130.2.1 7 (⟨#[]⟩ : ByteArray) 0 false a1 0) else (none)) else (some (7, (⟨#[]⟩ : ByteArray), 0, false, a1, 0, false)))) = some (r1, r2, r3, r4, r5, r6, r7) := by rw [if_pos rfl] at H; exact H
           clear H
           have H := H1
           clear H1
           replace H := Option.bind_eq_some_iff.mp H
           obtain ⟨⟨t130, t131, t132⟩, A150, H⟩ := H
           replace H : (if t132 = true then (if x8_1.length < 140737488355328 then (Z17.l0 kj9 a0 (bt a0 a1) (x8_1 ++ [t130]) t131 7 (⟨#[]⟩ : ByteArray) 0 false a1 0) else (none)) else (some (7, (⟨#[]⟩ : ByteArray), 0, false, a1, 0, false))) = some (r1, r2, r3, r4, r5, r6, r7) := H
           have A15 := Aside0.mk A150
           clear A150
           by_cases c16 : t132 = true
           · subst c16
             have H1 : (if x8_1.length < 140737488355328 then (Z17.l0 kj9 a0 (bt a0 a1) (x8_1 ++ [t130]) t131 7 (⟨#[]⟩ : ByteArray) 0 false a1 0) else (none)) = some (r1, r2, r3, r4, r5, r6, r7) := by rw [if_pos rfl] at H; exact H
             clear H
             have H := H1
             clear H1
             by_cases c17 : x8_1.length < 140737488355328
             · rw [if_pos c17] at H
               have LMc17 := Aside0.mk c17
               clear c17
               obtain ⟨y133, hy133⟩ : ∃ y_ : List Int, y_ = (x8_1 ++ [t130]) := ⟨_, rfl⟩
               replace H : (Z17.l0 kj9 a0 (bt a0 a1) y133 t131 7 (⟨#[]⟩ : ByteArray) 0 false a1 0) = some (r1, r2, r3, r4, r5, r6, r7) := by first | (rw [hy133]; with_reducible exact H) | (have H2_ := (Option.bind_some _ _).symm.trans H; rw [hy133]; with_reducible exact H2_) | (have H2_ := (Option.bind_some _ _).symm.trans H; with_reducible exact H2_) | with_reducible exact H | (rw [hy133]; exact H) | exact H
               have Ny133 := Aside0.mk hy133
               clear hy133
               have H' := Aside0.mk H
               clear H
               go_wp2_with (first | ((with_reducible refine Z14 (f := 36) rfl ?_); refine goesL_ (some 35) rfl rfl Tryd.func36 (by kernel_rfl) rfl #[.string a0, .int .i64 x9_1, .int .u8 (bt a0 a1)] rfl (by (try simp only [List.map_toArray, List.map_cons, List.map_nil]); first | done | rfl | (simp only [List.length_drop, List.length_take]; rfl)) ?_; (with_reducible refine (Z24.calls kj9 a0 x9_1 (bt a0 a1) t130 t131 true _ A15.out).mono ?_); rintro e w' ⟨rfl, ⟨nd, rfl⟩⟩; refine ⟨_, rfl, ?_⟩) | ((with_reducible refine Z69 (b := .append) (xs := #[.tmp 42, .tmp 44]) rfl ?_); (try (refine Z66 (by rfl) ?_; dsimp only)); at_builtin; refine Kd.R_append (Kd.int .u8) (w0 := w) w.heap.size rfl (.tmp 42) (.tmp 44) 35 5 (.int .u8 0) 1 rfl Tryd.underlying35 info5 rfl (by decide) (by omega) u8 x8_1 t130 [.int .u8 t130] (fun _ => True) (fun _ => False) rfl rfl ?aP (fun _ hk => hk.elim) ?aF ?aO ?aB ?aS ?aL ?_; (case aP => exact rfl); (case aB => exact (by repeat (first | (with_reducible first | exact HB.out | apply Z7 | apply Z4 | apply Z6 | refine Z8 ?_ GE128.out | refine Z8 ?_ GE129.out) | exact HB.out))); (case aF => exact (fun _ _ => trivial)); (case aO => exact (by (with_reducible repeat (first | apply Kd.R_alloc | apply Kd.R_drewN | apply Kd.R_drew)); exact HO_8.out)); (case aS => exact (Z27 (by repeat (first | (with_reducible first | exact HB.out | apply Z7 | apply Z4 | apply Z6 | refine Z8 ?_ GE128.out | refine Z8 ?_ GE129.out) | exact HB.out)))); (case aL => have := LMc17.out; omega); intro v134 w18 ho hb hg hat; rw [← Ny133.out] at ho; have n0_ := Aside0.mk (Z89 (g := gb128) (o := .cells #[.int .i64 x129000_1, .string x129001_1, .int .u32 x129002_1, .bool x129003_1, .int .i64 x129004_1, .int .i64 x129005_1] 24 (0, 0)) (by (with_reducible repeat (first | refine Z0 ?_ _ | refine Z3 ?_ | refine Z1 ?_ _)); exact BK128.out) hg (Kd.R_ne HO_8.out BK128.out (by decide))); have n1_ := Aside0.mk (Z89 (g := gb129) (o := .cells #[.int .i64 7, .string (⟨#[]⟩ : ByteArray), .int .u32 0, .bool false, .int .i64 a1, .int .i64 0] 24 (0, 0)) (by (with_reducible repeat (first | refine Z0 ?_ _ | refine Z3 ?_ | refine Z1 ?_ _)); exact BK129.out) hg (Kd.R_ne HO_8.out BK129.out (by decide))); have n2_ := Aside0.mk (hb); have n3_ := Aside0.mk (ho); clear BK128; clear BK129; clear HB; clear HO_8; have BK128 := n0_; have BK129 := n1_; have HB := n2_; have HO135 := n3_; clear n0_ n1_ n2_ n3_; clear ho hb hg hat))
               go_roundg kj9
               case measure => have := HK1.out; have := HJ9.out; omega
               case rel => exact ⟨(y133), (t131), (x129000_1), (x129001_1), (x129002_1), (x129003_1), (x129004_1), (x129005_1), (by first | rfl | (simp; done) | (simp [*]; done)), H', ⟨by have := HK1.out; have := HJ9.out; omega⟩, ⟨by (with_reducible repeat (first | apply Kd.R_alloc | apply Kd.R_drewN | apply Kd.R_drew)); exact HO135.out⟩, ⟨by (with_reducible repeat (first | refine Z0 ?_ _ | refine Z3 ?_ | refine Z1 ?_ _)); exact BK128.out⟩, ⟨by (with_reducible repeat (first | refine Z0 ?_ _ | refine Z3 ?_ | refine Z1 ?_ _)); exact BK129.out⟩, ⟨by repeat (first | (with_reducible first | exact HB.out | apply Z7 | apply Z4 | apply Z6 | refine Z8 ?_ GE128.out | refine Z8 ?_ GE129.out) | exact HB.out)⟩⟩
             · rw [if_neg c17] at H
               exact absurd H (by simp)
           · replace c16 := Bool.eq_false_iff.mpr c16
             subst c16
             have H1 : (some (7, (⟨#[]⟩ : ByteArray), 0, false, a1, 0, false)) = some (r1, r2, r3, r4, r5, r6, r7) := by rw [if_neg (show ¬ (false = true) by decide)] at H; exact H
             clear H
             have H := H1
             clear H1
             simp only [Option.some.injEq, Prod.mk.injEq] at H
             obtain ⟨rfl, rfl, rfl, rfl, rfl, rfl, rfl⟩ := H
             go_wp2_with (first | ((with_reducible refine Z14 (f := 36) rfl ?_); refine goesL_ (some 35) rfl rfl Tryd.func36 (by kernel_rfl) rfl #[.string a0, .int .i64 x9_1, .int .u8 (bt a0 a1)] rfl (by (try simp only [List.map_toArray, List.map_cons, List.map_nil]); first | done | rfl | (simp only [List.length_drop, List.length_take]; rfl)) ?_; (with_reducible refine (Z24.calls kj9 a0 x9_1 (bt a0 a1) t130 t131 false _ A15.out).mono ?_); rintro e w' ⟨rfl, ⟨nd, rfl⟩⟩; refine ⟨_, rfl, ?_⟩; (try (rw [Z43 wc]; generalize hq_ : World.drewN wc _ = wc; have n0_ : Aside0 (Kd.R (Kd.int .u8) 5 wc w.heap.size (fun _ => True) u8 x8_1) := ⟨by rw [← hq_]; exact (by (with_reducible repeat (first | apply Kd.R_alloc | apply Kd.R_drewN | apply Kd.R_drew)); exact HO_8.out)⟩; have n1_ : Aside0 (wc.heap[gb128]? = some (.cells #[.int .i64 x129000_1, .string x129001_1, .int .u32 x129002_1, .bool x129003_1, .int .i64 x129004_1, .int .i64 x129005_1] 24 (0, 0))) := ⟨by rw [← hq_]; exact (by (with_reducible repeat (first | refine Z0 ?_ _ | refine Z3 ?_ | refine Z1 ?_ _)); exact BK128.out)⟩; have n2_ : Aside0 (wc.heap[gb129]? = some (.cells #[.int .i64 7, .string (⟨#[]⟩ : ByteArray), .int .u32 0, .bool false, .int .i64 a1, .int .i64 0] 24 (0, 0))) := ⟨by rw [← hq_]; exact (by (with_reducible repeat (first | refine Z0 ?_ _ | refine Z3 ?_ | refine Z1 ?_ _)); exact BK129.out)⟩; have n3_ : Aside0 (Below w.heap.size w wc) := ⟨by rw [← hq_]; exact (by repeat (first | (with_reducible first | exact HB.out | apply Z7 | apply Z4 | apply Z6 | refine Z8 ?_ GE128.out | refine Z8 ?_ GE129.out) | exact HB.out))⟩; clear HO_8 BK128 BK129 HB hq_; have HO_8 := n0_; have BK128 := n1_; have BK129 := n2_; have HB := n3_; clear n0_ n1_ n2_ n3_)); have hnb19 := NB129_128.out; have hnc19 := NB128_129.out; have hcz20_0 : wc.cell? ⟨gb129, 0, none⟩ = some (.int .i64 7) := (Z5 BK129.out 0).trans rfl; have hcz20_1 : wc.cell? ⟨gb129, 1, none⟩ = some (.string (⟨#[]⟩ : ByteArray)) := (Z5 BK129.out 1).trans rfl; have hcz20_2 : wc.cell? ⟨gb129, 2, none⟩ = some (.int .u32 0) := (Z5 BK129.out 2).trans rfl; have hcz20_3 : wc.cell? ⟨gb129, 3, none⟩ = some (.bool false) := (Z5 BK129.out 3).trans rfl; have hcz20_4 : wc.cell? ⟨gb129, 4, none⟩ = some (.int .i64 a1) := (Z5 BK129.out 4).trans rfl; have hcz20_5 : wc.cell? ⟨gb129, 5, none⟩ = some (.int .i64 0) := (Z5 BK129.out 5).trans rfl; have hfz20_0 := Z2 BK129.out 0; have hfz20_1 := Z2 BK129.out 1; have hfz20_2 := Z2 BK129.out 2; have hfz20_3 := Z2 BK129.out 3; have hfz20_4 := Z2 BK129.out 4; have hfz20_5 := Z2 BK129.out 5; have hcz21_0 : wc.cell? ⟨gb128, 0, none⟩ = some (.int .i64 x129000_1) := (Z5 BK128.out 0).trans rfl; have hcz21_1 : wc.cell? ⟨gb128, 1, none⟩ = some (.string x129001_1) := (Z5 BK128.out 1).trans rfl; have hcz21_2 : wc.cell? ⟨gb128, 2, none⟩ = some (.int .u32 x129002_1) := (Z5 BK128.out 2).trans rfl; have hcz21_3 : wc.cell? ⟨gb128, 3, none⟩ = some (.bool x129003_1) := (Z5 BK128.out 3).trans rfl; have hcz21_4 : wc.cell? ⟨gb128, 4, none⟩ = some (.int .i64 x129004_1) := (Z5 BK128.out 4).trans rfl; have hcz21_5 : wc.cell? ⟨gb128, 5, none⟩ = some (.int .i64 x129005_1) := (Z5 BK128.out 5).trans rfl; have hfz21_0 := Z2 BK128.out 0; have hfz21_1 := Z2 BK128.out 1; have hfz21_2 := Z2 BK128.out 2; have hfz21_3 := Z2 BK128.out 3; have hfz21_4 := Z2 BK128.out 4; have hfz21_5 := Z2 BK128.out 5))
             refine bodyPost_ret (Z46 rfl _ _ gb128 24 #[.int .i64 7, .string (⟨#[]⟩ : ByteArray), .int .u32 0, .bool false, .int .i64 a1, .int .i64 0] (0, 0) _ rfl (by (with_reducible repeat (first | refine Z0 ?_ _ | refine Z3 ?_ | refine Z1 ?_ _)); refine Z9 (cs := #[.int .i64 7, .string (⟨#[]⟩ : ByteArray), .int .u32 0, .bool false, .int .i64 a1, .int .i64 x129005_1]) ?_ 5 _ rfl; (with_reducible repeat (first | refine Z0 ?_ _ | refine Z3 ?_ | refine Z1 ?_ _)); refine Z9 (cs := #[.int .i64 7, .string (⟨#[]⟩ : ByteArray), .int .u32 0, .bool false, .int .i64 x129004_1, .int .i64 x129005_1]) ?_ 4 _ rfl; (with_reducible repeat (first | refine Z0 ?_ _ | refine Z3 ?_ | refine Z1 ?_ _)); refine Z9 (cs := #[.int .i64 7, .string (⟨#[]⟩ : ByteArray), .int .u32 0, .bool x129003_1, .int .i64 x129004_1, .int .i64 x129005_1]) ?_ 3 _ rfl; (with_reducible repeat (first | refine Z0 ?_ _ | refine Z3 ?_ | refine Z1 ?_ _)); refine Z9 (cs := #[.int .i64 7, .string (⟨#[]⟩ : ByteArray), .int .u32 x129002_1, .bool x129003_1, .int .i64 x129004_1, .int .i64 x129005_1]) ?_ 2 _ rfl; (with_reducible repeat (first | refine Z0 ?_ _ | refine Z3 ?_ | refine Z1 ?_ _)); refine Z9 (cs := #[.int .i64 7, .string x129001_1, .int .u32 x129002_1, .bool x129003_1, .int .i64 x129004_1, .int .i64 x129005_1]) ?_ 1 _ rfl; (with_reducible repeat (first | refine Z0 ?_ _ | refine Z3 ?_ | refine Z1 ?_ _)); refine Z9 (cs := #[.int .i64 x129000_1, .string x129001_1, .int .u32 x129002_1, .bool x129003_1, .int .i64 x129004_1, .int .i64 x129005_1]) ?_ 0 _ rfl; (with_reducible repeat (first | refine Z0 ?_ _ | refine Z3 ?_ | refine Z1 ?_ _)); exact BK128.out) Tryd.underlying24 rfl (by kernel_rfl)) rfl ?_
             exact ⟨by first | rfl | (simp [Z16, Z15] <;> rfl) | (simp [*, Z16, Z15] <;> rfl), by repeat (first | (with_reducible first | exact HB.out | apply Z7 | apply Z4 | apply Z6 | refine Z8 ?_ GE128.out | refine Z8 ?_ GE129.out) | exact HB.out)⟩
         · replace c14 := Bool.eq_false_iff.mpr c14
           subst c14
           have H1 : (if x9_1 ≥ (a0.size : Int) then (Z17.j2 kj9 (bt a0 a1) x8_1 x9_1 true 7 (⟨#[]⟩ : ByteArray) 0 false a1 0) else (if (bt a0 a1) = 39 then (Z17.j2 kj9 (bt a0 a1) x8_1 x9_1 ((x8_1.length : Int) != 1) 7 (⟨#[]⟩ : ByteArray) 0 false a1 0) else (Z17.j2 kj9 (bt a0 a1) x8_1 x9_1 false 7 (⟨#[]⟩ : ByteArray) 0 false a1 0))) = some (r1, r2, r3, r4, r5, r6, r7) := by rw [if_neg (show ¬ (false = true) by decide)] at H; exact H
           clear H
           have H := H1
           clear H1
           have HC22 := Aside0.mk H
           clear H
           go_upto_region 11 with (fail)
           go_cut [59] (fun v59 wc => ∃ (kq : Nat) (x59_21 : Bool), v59 = .bool x59_21 ∧ Aside0 (Z17.j2 kq (bt a0 a1) x8_1 x9_1 x59_21 7 (⟨#[]⟩ : ByteArray) 0 false a1 0 = some (r1, r2, r3, r4, r5, r6, r7)) ∧ Aside0 (kq ≤ kj9) ∧ Aside0 (Kd.R (Kd.int .u8) 5 wc w.heap.size (fun _ => True) u8 x8_1) ∧ Aside0 (wc.heap[gb128]? = some (.cells #[.int .i64 x129000_1, .string x129001_1, .int .u32 x129002_1, .bool x129003_1, .int .i64 x129004_1, .int .i64 x129005_1] 24 (0, 0))) ∧ Aside0 (wc.heap[gb129]? = some (.cells #[.int .i64 7, .string (⟨#[]⟩ : ByteArray), .int .u32 0, .bool false, .int .i64 a1, .int .i64 0] 24 (0, 0))) ∧ Aside0 (Below w.heap.size w wc))
           case first =>
            have H := HC22.out
            clear HC22
            by_cases c23 : x9_1 ≥ (a0.size : Int)
            · rw [if_pos c23] at H
              have c23b0 : decide ((a0.size : Int) ≤ x9_1) = true := decide_eq_true c23
              clear c23
              (first | rw [c23b0] | (simp only [i64_w, i32_w]; rw [c23b0]) | skip)
              have H' := Aside0.mk H
              clear H
              go_wp2
              go_meet
              case rel => exact ⟨_, (true), (by first | rfl | (simp; done) | (simp [*]; done)), H', ⟨by have := HK1.out; have := HJ9.out; first | omega | exact Nat.le_refl _⟩, ⟨by (with_reducible repeat (first | apply Kd.R_alloc | apply Kd.R_drewN | apply Kd.R_drew)); exact HO_8.out⟩, ⟨by (with_reducible repeat (first | refine Z0 ?_ _ | refine Z3 ?_ | refine Z1 ?_ _)); exact BK128.out⟩, ⟨by (with_reducible repeat (first | refine Z0 ?_ _ | refine Z3 ?_ | refine Z1 ?_ _)); exact BK129.out⟩, ⟨by repeat (first | (with_reducible first | exact HB.out | apply Z7 | apply Z4 | apply Z6 | refine Z8 ?_ GE128.out | refine Z8 ?_ GE129.out) | exact HB.out)⟩⟩
            · rw [if_neg c23] at H
              have c23b0 : decide ((a0.size : Int) ≤ x9_1) = false := decide_eq_false c23
              clear c23
              (first | rw [c23b0] | (simp only [i64_w, i32_w]; rw [c23b0]) | skip)
              by_cases c24 : (bt a0 a1) = 39
              · rw [if_pos c24] at H
                have c24b0 : ((bt a0 a1) == 39) = true := beq_iff_eq.mpr c24
                have c24b1 : ((bt a0 a1) != 39) = false := bne_eq_false_iff_eq.mpr c24
                clear c24
                have H' := Aside0.mk H
                clear H
                obtain ⟨Ao25, co25, eo25⟩ := Kd.R_slice HO_8.out
                subst eo25
                go_wp2
                go_meet
                case rel => exact ⟨_, (((x8_1.length : Int) != 1)), (by first | rfl | (simp; done) | (simp [*]; done)), H', ⟨by have := HK1.out; have := HJ9.out; first | omega | exact Nat.le_refl _⟩, ⟨by (with_reducible repeat (first | apply Kd.R_alloc | apply Kd.R_drewN | apply Kd.R_drew)); exact HO_8.out⟩, ⟨by (with_reducible repeat (first | refine Z0 ?_ _ | refine Z3 ?_ | refine Z1 ?_ _)); exact BK128.out⟩, ⟨by (with_reducible repeat (first | refine Z0 ?_ _ | refine Z3 ?_ | refine Z1 ?_ _)); exact BK129.out⟩, ⟨by repeat (first | (with_reducible first | exact HB.out | apply Z7 | apply Z4 | apply Z6 | refine Z8 ?_ GE128.out | refine Z8 ?_ GE129.out) | exact HB.out)⟩⟩
              · rw [if_neg c24] at H
                have c24b0 : ((bt a0 a1) == 39) = false := beq_eq_false_iff_ne.mpr c24
                have c24b1 : ((bt a0 a1) != 39) = true := bne_iff_ne.mpr c24
                have H' := Aside0.mk H
                clear H
                go_wp2
                go_meet
                case rel => exact ⟨_, (false), (by first | rfl | (simp; done) | (simp [*]; done)), H', ⟨by have := HK1.out; have := HJ9.out; first | omega | exact Nat.le_refl _⟩, ⟨by (with_reducible repeat (first | apply Kd.R_alloc | apply Kd.R_drewN | apply Kd.R_drew)); exact HO_8.out⟩, ⟨by (with_reducible repeat (first | refine Z0 ?_ _ | refine Z3 ?_ | refine Z1 ?_ _)); exact BK128.out⟩, ⟨by (with_reducible repeat (first | refine Z0 ?_ _ | refine Z3 ?_ | refine Z1 ?_ _)); exact BK129.out⟩, ⟨by repeat (first | (with_reducible first | exact HB.out | apply Z7 | apply Z4 | apply Z6 | refine Z8 ?_ GE128.out | refine Z8 ?_ GE129.out) | exact HB.out)⟩⟩
           case rest =>
            clear HC22
            try clear c3
            try clear c3b0
            try clear c4
            try clear c4b0
            try clear p5
            try clear q5
            try clear hx5
            try clear c14
            try clear hcz9_0
            try clear hcz9_1
            try clear hcz9_2
            try clear hcz9_3
            try clear hcz9_4
            try clear hcz9_5
            try clear hfz9_0
            try clear hfz9_1
            try clear hfz9_2
            try clear hfz9_3
            try clear hfz9_4
            try clear hfz9_5
            try clear p5
            try clear q5
            obtain ⟨kq, x59_21, rfl, HA, HJ21, HO_8, BK128, BK129, HB⟩ := hcut
            cases kq with
            | zero => exact absurd HA.out (by simp [Z17.j2])
            | succ kj21 =>
             have H := HA.out
             clear HA
             simp only [Z17.j2] at H
             by_cases c26 : x59_21 = true
             · subst c26
               have H1 : (some (7, (⟨#[]⟩ : ByteArray), 0, false, a1, 0, false)) = some (r1, r2, r3, r4, r5, r6, r7) := by rw [if_pos rfl] at H; exact H
               clear H
               have H := H1
               clear H1
               simp only [Option.some.injEq, Prod.mk.injEq] at H
               obtain ⟨rfl, rfl, rfl, rfl, rfl, rfl, rfl⟩ := H
               have hnb27 := NB129_128.out
               have hnc27 := NB128_129.out
               have hcz28_0 : wc.cell? ⟨gb129, 0, none⟩ = some (.int .i64 7) := (Z5 BK129.out 0).trans rfl
               have hcz28_1 : wc.cell? ⟨gb129, 1, none⟩ = some (.string (⟨#[]⟩ : ByteArray)) := (Z5 BK129.out 1).trans rfl
               have hcz28_2 : wc.cell? ⟨gb129, 2, none⟩ = some (.int .u32 0) := (Z5 BK129.out 2).trans rfl
               have hcz28_3 : wc.cell? ⟨gb129, 3, none⟩ = some (.bool false) := (Z5 BK129.out 3).trans rfl
               have hcz28_4 : wc.cell? ⟨gb129, 4, none⟩ = some (.int .i64 a1) := (Z5 BK129.out 4).trans rfl
               have hcz28_5 : wc.cell? ⟨gb129, 5, none⟩ = some (.int .i64 0) := (Z5 BK129.out 5).trans rfl
               have hfz28_0 := Z2 BK129.out 0
               have hfz28_1 := Z2 BK129.out 1
               have hfz28_2 := Z2 BK129.out 2
               have hfz28_3 := Z2 BK129.out 3
               have hfz28_4 := Z2 BK129.out 4
               have hfz28_5 := Z2 BK129.out 5
               have hcz29_0 : wc.cell? ⟨gb128, 0, none⟩ = some (.int .i64 x129000_1) := (Z5 BK128.out 0).trans rfl
               have hcz29_1 : wc.cell? ⟨gb128, 1, none⟩ = some (.string x129001_1) := (Z5 BK128.out 1).trans rfl
               have hcz29_2 : wc.cell? ⟨gb128, 2, none⟩ = some (.int .u32 x129002_1) := (Z5 BK128.out 2).trans rfl
               have hcz29_3 : wc.cell? ⟨gb128, 3, none⟩ = some (.bool x129003_1) := (Z5 BK128.out 3).trans rfl
               have hcz29_4 : wc.cell? ⟨gb128, 4, none⟩ = some (.int .i64 x129004_1) := (Z5 BK128.out 4).trans rfl
               have hcz29_5 : wc.cell? ⟨gb128, 5, none⟩ = some (.int .i64 x129005_1) := (Z5 BK128.out 5).trans rfl
               have hfz29_0 := Z2 BK128.out 0
               have hfz29_1 := Z2 BK128.out 1
               have hfz29_2 := Z2 BK128.out 2
               have hfz29_3 := Z2 BK128.out 3
               have hfz29_4 := Z2 BK128.out 4
               have hfz29_5 := Z2 BK128.out 5
               go_wp2
               refine bodyPost_ret (Z46 rfl _ _ gb128 24 #[.int .i64 7, .string (⟨#[]⟩ : ByteArray), .int .u32 0, .bool false, .int .i64 a1, .int .i64 0] (0, 0) _ rfl (by (with_reducible repeat (first | refine Z0 ?_ _ | refine Z3 ?_ | refine Z1 ?_ _)); refine Z9 (cs := #[.int .i64 7, .string (⟨#[]⟩ : ByteArray), .int .u32 0, .bool false, .int .i64 a1, .int .i64 x129005_1]) ?_ 5 _ rfl; (with_reducible repeat (first | refine Z0 ?_ _ | refine Z3 ?_ | refine Z1 ?_ _)); refine Z9 (cs := #[.int .i64 7, .string (⟨#[]⟩ : ByteArray), .int .u32 0, .bool false, .int .i64 x129004_1, .int .i64 x129005_1]) ?_ 4 _ rfl; (with_reducible repeat (first | refine Z0 ?_ _ | refine Z3 ?_ | refine Z1 ?_ _)); refine Z9 (cs := #[.int .i64 7, .string (⟨#[]⟩ : ByteArray), .int .u32 0, .bool x129003_1, .int .i64 x129004_1, .int .i64 x129005_1]) ?_ 3 _ rfl; (with_reducible repeat (first | refine Z0 ?_ _ | refine Z3 ?_ | refine Z1 ?_ _)); refine Z9 (cs := #[.int .i64 7, .string (⟨#[]⟩ : ByteArray), .int .u32 x129002_1, .bool x129003_1, .int .i64 x129004_1, .int .i64 x129005_1]) ?_ 2 _ rfl; (with_reducible repeat (first | refine Z0 ?_ _ | refine Z3 ?_ | refine Z1 ?_ _)); refine Z9 (cs := #[.int .i64 7, .string x129001_1, .int .u32 x129002_1, .bool x129003_1, .int .i64 x129004_1, .int .i64 x129005_1]) ?_ 1 _ rfl; (with_reducible repeat (first | refine Z0 ?_ _ | refine Z3 ?_ | refine Z1 ?_ _)); refine Z9 (cs := #[.int .i64 x129000_1, .string x129001_1, .int .u32 x129002_1, .bool x129003_1, .int .i64 x129004_1, .int .i64 x129005_1]) ?_ 0 _ rfl; (with_reducible repeat (first | refine Z0 ?_ _ | refine Z3 ?_ | refine Z1 ?_ _)); exact BK128.out) Tryd.underlying24 rfl (by kernel_rfl)) rfl ?_
               exact ⟨by first | rfl | (simp [Z16, Z15] <;> rfl) | (simp [*, Z16, Z15] <;> rfl), by repeat (first | (with_reducible first | exact HB.out | apply Z7 | apply Z4 | apply Z6 | refine Z8 ?_ GE128.out | refine Z8 ?_ GE129.out) | exact HB.out)⟩
             · replace c26 := Bool.eq_false_iff.mpr c26
               subst c26
               have H1 : (if (bt a0 a1) = 39 then (if 0 < (x8_1.length : Int) then (some (6, (⟨#[]⟩ : ByteArray), (rd x8_1 0) % 4294967296, false, a1, wrap64 (x9_1 + 1), true)) else (none)) else (some (7, strOfNums x8_1, 0, false, a1, wrap64 (x9_1 + 1), true))) = some (r1, r2, r3, r4, r5, r6, r7) := by rw [if_neg (show ¬ (false = true) by decide)] at H; exact H
               clear H
               have H := H1
               clear H1
               by_cases c30 : (bt a0 a1) = 39
               · rw [if_pos c30] at H
                 have c30b0 : ((bt a0 a1) == 39) = true := beq_iff_eq.mpr c30
                 have c30b1 : ((bt a0 a1) != 39) = false := bne_eq_false_iff_eq.mpr c30
                 clear c30
                 by_cases c31 : 0 < (x8_1.length : Int)
                 · rw [if_pos c31] at H
                   have c31b0 : decide (0 < (x8_1.length : Int)) = true := decide_eq_true c31
                   have c31b1 : decide (0 < x8_1.length) = true := decide_eq_true (by omega)
                   clear c31
                   simp only [Option.some.injEq, Prod.mk.injEq] at H
                   obtain ⟨rfl, rfl, rfl, rfl, rfl, rfl, rfl⟩ := H
                   have hnb32 := NB129_128.out
                   have hnc32 := NB128_129.out
                   have hcz33_0 : wc.cell? ⟨gb129, 0, none⟩ = some (.int .i64 7) := (Z5 BK129.out 0).trans rfl
                   have hcz33_1 : wc.cell? ⟨gb129, 1, none⟩ = some (.string (⟨#[]⟩ : ByteArray)) := (Z5 BK129.out 1).trans rfl
                   have hcz33_2 : wc.cell? ⟨gb129, 2, none⟩ = some (.int .u32 0) := (Z5 BK129.out 2).trans rfl
                   have hcz33_3 : wc.cell? ⟨gb129, 3, none⟩ = some (.bool false) := (Z5 BK129.out 3).trans rfl
                   have hcz33_4 : wc.cell? ⟨gb129, 4, none⟩ = some (.int .i64 a1) := (Z5 BK129.out 4).trans rfl
                   have hcz33_5 : wc.cell? ⟨gb129, 5, none⟩ = some (.int .i64 0) := (Z5 BK129.out 5).trans rfl
                   have hfz33_0 := Z2 BK129.out 0
                   have hfz33_1 := Z2 BK129.out 1
                   have hfz33_2 := Z2 BK129.out 2
                   have hfz33_3 := Z2 BK129.out 3
                   have hfz33_4 := Z2 BK129.out 4
                   have hfz33_5 := Z2 BK129.out 5
                   try go_wp2
                   have n0_ : Aside0 (Kd.R (Kd.int .u8) 5 (wc.setCell ⟨gb129, 5, none⟩ (.int .i64 (wrap64 (x9_1 + 1)))) w.heap.size (fun _ => True) u8 x8_1) := ⟨by (with_reducible repeat (first | apply Kd.R_alloc | apply Kd.R_drewN | apply Kd.R_drew)); exact Kd.R_mono (Kd.R_far (p := ⟨gb129, 5, none⟩) (Kd.R_types HO_8.out BK129.out (by decide)) (fun _ hk => hk.2) (.int .i64 (wrap64 (x9_1 + 1)))) (fun _ hk => trivial)⟩
                   have n1_ : Aside0 ((wc.setCell ⟨gb129, 5, none⟩ (.int .i64 (wrap64 (x9_1 + 1)))).heap[gb128]? = some (.cells #[.int .i64 x129000_1, .string x129001_1, .int .u32 x129002_1, .bool x129003_1, .int .i64 x129004_1, .int .i64 x129005_1] 24 (0, 0))) := ⟨by (with_reducible repeat (first | refine Z0 ?_ _ | refine Z3 ?_ | refine Z1 ?_ _)); refine Z22 ?_ NB128_129.out _; (with_reducible repeat (first | refine Z0 ?_ _ | refine Z3 ?_ | refine Z1 ?_ _)); exact BK128.out⟩
                   have n2_ : Aside0 ((wc.setCell ⟨gb129, 5, none⟩ (.int .i64 (wrap64 (x9_1 + 1)))).heap[gb129]? = some (.cells #[.int .i64 7, .string (⟨#[]⟩ : ByteArray), .int .u32 0, .bool false, .int .i64 a1, .int .i64 (wrap64 (x9_1 + 1))] 24 (0, 0))) := ⟨by (with_reducible repeat (first | refine Z0 ?_ _ | refine Z3 ?_ | refine Z1 ?_ _)); refine Z9 (cs := #[.int .i64 7, .string (⟨#[]⟩ : ByteArray), .int .u32 0, .bool false, .int .i64 a1, .int .i64 0]) ?_ 5 _ rfl; (with_reducible repeat (first | refine Z0 ?_ _ | refine Z3 ?_ | refine Z1 ?_ _)); exact BK129.out⟩
                   have n3_ : Aside0 (Below w.heap.size w (wc.setCell ⟨gb129, 5, none⟩ (.int .i64 (wrap64 (x9_1 + 1))))) := ⟨by repeat (first | (with_reducible first | exact HB.out | apply Z7 | apply Z4 | apply Z6 | refine Z8 ?_ GE128.out | refine Z8 ?_ GE129.out) | exact HB.out)⟩
                   (try clear HO_8)
                   (try clear BK128)
                   (try clear BK129)
                   (try clear HB)
                   generalize (wc.setCell ⟨gb129, 5, none⟩ (.int .i64 (wrap64 (x9_1 + 1)))) = w34 at n0_ n1_ n2_ n3_ ⊢
                   have HO_8 := n0_
                   have BK128 := n1_
                   have BK129 := n2_
                   have HB := n3_
                   clear n0_ n1_ n2_ n3_
                   have n0_ := Aside0.mk (Kd.R_drew HO_8.out)
                   have n1_ := Aside0.mk (Z3 BK128.out)
                   have n2_ := Aside0.mk (Z3 BK129.out)
                   have n3_ := Aside0.mk (Z6 HB.out)
                   clear HO_8
                   clear BK128
                   clear BK129
                   clear HB
                   have HO_8 := n0_
                   have BK128 := n1_
                   have BK129 := n2_
                   have HB := n3_
                   clear n0_ n1_ n2_ n3_
                   obtain ⟨Ao36, co36, eo36⟩ := Kd.R_slice HO_8.out
                   (first | subst eo36 | (injection eo36 with f1_ f2_ f3_; have f4_ := f1_.symm; have f5_ := f3_.symm; clear f1_ f2_ f3_; subst f4_; subst f5_))
                   have p136 : 0 ≤ (0 : Int) := (by omega)
                   have q136 : 0 < (x8_1.length : Int) := of_decide_eq_true (by first | (with_reducible assumption) | assumption)
                   obtain ⟨ad136, e136, hx136_0⟩ := Kd.at_int (Kd.R_reads' HO_8.out).2.2 0 p136 q136
                   cases e136
                   have qi136 : (0 < x8_1.length) = True := eq_true (by omega)
                   (try rw [show ((0 : Int)).toNat = 0 from rfl] at hx136_0)
                   (try rw [Addr.add_zero'] at hx136_0)
                   replace p136 := eq_true p136
                   replace q136 := eq_true q136
                   refine start_ (n := 8) (S := fun w' => w'.cell? ad136 = some (.int .u8 (rd x8_1 0))) (ds := []) #[false, false, false, false, false, false, false, false] (by kernel_rfl) rfl rfl (hx136_0) (fun hHeld => ?_); refine Z74 Z17.tab15 Z17.bits15 (fun HT_ HW_ => ?_)
                   generalize w34.drew = w35 at HO_8 BK128 BK129 HB hx136_0 hHeld ⊢
                   refine pure_ (i := 0) (N := some 66) (v := ?_) (a' := ?_) #[true, false, false, false, false, false, false, false] rfl rfl (any_of HT_.out (by kernel_rfl)) (fun _ _ _ h => h) (Or.inl ⟨by rfl, ?_⟩) ?_ ?_
                   rotate_left
                   · intro w'
                     go_simp
                     with_reducible rfl
                   rotate_left
                   · simp only [Act.put, List.setIfInBounds_toArray, List.set_cons_zero, List.set_cons_succ, i64_w, i32_w]
                     rfl
                   refine pure_ (i := 1) (N := some 67) (v := ?_) (a' := ?_) #[true, true, false, false, false, false, false, false] rfl rfl (any_of HT_.out (by kernel_rfl)) (fun _ _ _ h => h) (Or.inl ⟨by rfl, ?_⟩) ?_ ?_
                   rotate_left
                   · intro w'
                     go_simp
                     with_reducible rfl
                   rotate_left
                   · simp only [Act.put, List.setIfInBounds_toArray, List.set_cons_zero, List.set_cons_succ, i64_w, i32_w]
                     rfl
                   refine pure_ (i := 4) (N := some 70) (v := ?_) (a' := ?_) #[true, true, false, false, true, false, false, false] rfl rfl (any_of HT_.out (by kernel_rfl)) (fun _ _ _ h => h) (Or.inl ⟨by rfl, ?_⟩) ?_ ?_
                   rotate_left
                   · intro w'
                     go_simp
                     with_reducible rfl
                   rotate_left
                   · simp only [Act.put, List.setIfInBounds_toArray, List.set_cons_zero, List.set_cons_succ, i64_w, i32_w]
                     rfl
                   refine take_ (i := 2) (N := some 68) (v := ?_) (a' := ?_) #[true, true, true, false, true, false, false, false] rfl rfl (Z67 HT_.out HW_.out (by kernel_rfl)) (fun _ _ _ h => h) (Or.inl ⟨by rfl, ?_⟩) hHeld ?_ ?_
                   rotate_left
                   · intro w' s0
                     go_simp
                     with_reducible rfl
                   rotate_left
                   · simp only [Act.put, List.setIfInBounds_toArray, List.set_cons_zero, List.set_cons_succ, i64_w, i32_w]
                     rfl
                   refine pure_ (i := 3) (N := some 69) (v := ?_) (a' := ?_) #[true, true, true, true, true, false, false, false] rfl rfl (any_of HT_.out (by kernel_rfl)) (fun _ _ _ h => h) (Or.inl ⟨by rfl, ?_⟩) ?_ ?_
                   rotate_left
                   · intro w'
                     go_simp
                     with_reducible rfl
                   rotate_left
                   · simp only [Act.put, List.setIfInBounds_toArray, List.set_cons_zero, List.set_cons_succ, i64_w, i32_w]
                     rfl
                   refine one_ (i := 5) (N := none) #[true, true, true, true, true, true, false, false] rfl rfl (one_of HT_.out (by kernel_rfl)) (by decide) (fun K hK => ?_)
                   have hs37 : w35.cell? ⟨gb129, 0, none⟩ = some (.int .i64 7) := (Z5 BK129.out 0).trans rfl
                   have hfs37 := Z2 BK129.out 0
                   have hns37_0 := NB128_129.out
                   have hms37_0 := NB129_128.out
                   refine skip_ (w1 := ?_) (by rfl) rfl ?_ ?_
                   rotate_left
                   · go_simp
                     rfl
                   refine hK.out _ _ (((Z11 (p := ⟨gb129, _, none⟩) (by first | exact Kd.own_blk (Kd.R_ne HO_8.out BK129.out (by decide)) | (rw [Z63]; exact Kd.own_blk (Kd.R_ne HO_8.out BK129.out (by decide))) | (show (Addr.add _ _).block ≠ _; rw [Z63]; exact Kd.own_blk (Kd.R_ne HO_8.out BK129.out (by decide))) | (dsimp only; exact Kd.own_blk (Kd.R_ne HO_8.out BK129.out (by decide)))) _).trans (hHeld))) (fun hHeld => ?_)
                   clear hK K
                   refine pure_ (i := 6) (N := some 71) (v := ?_) (a' := ?_) #[true, true, true, true, true, true, true, false] rfl rfl (any_of HT_.out (by kernel_rfl)) (fun _ _ _ h => h) (Or.inl ⟨by rfl, ?_⟩) ?_ ?_
                   rotate_left
                   · intro w'
                     go_simp
                     with_reducible rfl
                   rotate_left
                   · simp only [Act.put, List.setIfInBounds_toArray, List.set_cons_zero, List.set_cons_succ, i64_w, i32_w]
                     rfl
                   refine one_ (i := 7) (N := none) #[true, true, true, true, true, true, true, true] rfl rfl (one_of HT_.out (by kernel_rfl)) (by decide) (fun K hK => ?_)
                   have hs38 : w35.cell? ⟨gb129, 2, none⟩ = some (.int .u32 0) := (Z5 BK129.out 2).trans rfl
                   have hfs38 := Z2 BK129.out 2
                   have hns38_0 := NB128_129.out
                   have hms38_0 := NB129_128.out
                   refine skip_ (w1 := ?_) (by rfl) rfl ?_ ?_
                   rotate_left
                   · go_simp
                     rfl
                   refine hK.out _ _ (((Z11 (p := ⟨gb129, _, none⟩) (by first | exact Kd.own_blk (Kd.R_ne HO_8.out BK129.out (by decide)) | (rw [Z63]; exact Kd.own_blk (Kd.R_ne HO_8.out BK129.out (by decide))) | (show (Addr.add _ _).block ≠ _; rw [Z63]; exact Kd.own_blk (Kd.R_ne HO_8.out BK129.out (by decide))) | (dsimp only; exact Kd.own_blk (Kd.R_ne HO_8.out BK129.out (by decide)))) _).trans (hHeld))) (fun hHeld => ?_)
                   clear hK K
                   refine done_ (Z83 HT_.out (by kernel_rfl)) ?_
                   have hcz39_0 : w35.cell? ⟨gb129, 0, none⟩ = some (.int .i64 7) := (Z5 BK129.out 0).trans rfl
                   have hcz39_1 : w35.cell? ⟨gb129, 1, none⟩ = some (.string (⟨#[]⟩ : ByteArray)) := (Z5 BK129.out 1).trans rfl
                   have hcz39_2 : w35.cell? ⟨gb129, 2, none⟩ = some (.int .u32 0) := (Z5 BK129.out 2).trans rfl
                   have hcz39_3 : w35.cell? ⟨gb129, 3, none⟩ = some (.bool false) := (Z5 BK129.out 3).trans rfl
                   have hcz39_4 : w35.cell? ⟨gb129, 4, none⟩ = some (.int .i64 a1) := (Z5 BK129.out 4).trans rfl
                   have hcz39_5 : w35.cell? ⟨gb129, 5, none⟩ = some (.int .i64 (wrap64 (x9_1 + 1))) := (Z5 BK129.out 5).trans rfl
                   have hfz39_0 := Z2 BK129.out 0
                   have hfz39_1 := Z2 BK129.out 1
                   have hfz39_2 := Z2 BK129.out 2
                   have hfz39_3 := Z2 BK129.out 3
                   have hfz39_4 := Z2 BK129.out 4
                   have hfz39_5 := Z2 BK129.out 5
                   have hcz40_0 : w35.cell? ⟨gb128, 0, none⟩ = some (.int .i64 x129000_1) := (Z5 BK128.out 0).trans rfl
                   have hcz40_1 : w35.cell? ⟨gb128, 1, none⟩ = some (.string x129001_1) := (Z5 BK128.out 1).trans rfl
                   have hcz40_2 : w35.cell? ⟨gb128, 2, none⟩ = some (.int .u32 x129002_1) := (Z5 BK128.out 2).trans rfl
                   have hcz40_3 : w35.cell? ⟨gb128, 3, none⟩ = some (.bool x129003_1) := (Z5 BK128.out 3).trans rfl
                   have hcz40_4 : w35.cell? ⟨gb128, 4, none⟩ = some (.int .i64 x129004_1) := (Z5 BK128.out 4).trans rfl
                   have hcz40_5 : w35.cell? ⟨gb128, 5, none⟩ = some (.int .i64 x129005_1) := (Z5 BK128.out 5).trans rfl
                   have hfz40_0 := Z2 BK128.out 0
                   have hfz40_1 := Z2 BK128.out 1
                   have hfz40_2 := Z2 BK128.out 2
                   have hfz40_3 := Z2 BK128.out 3
                   have hfz40_4 := Z2 BK128.out 4
                   have hfz40_5 := Z2 BK128.out 5
                   try go_wp2
                   refine bodyPost_ret (Z46 rfl _ _ gb128 24 #[.int .i64 6, .string (⟨#[]⟩ : ByteArray), .int .u32 ((rd x8_1 0) % 4294967296), .bool false, .int .i64 a1, .int .i64 (wrap64 (x9_1 + 1))] (0, 0) _ rfl (by (with_reducible repeat (first | refine Z0 ?_ _ | refine Z3 ?_ | refine Z1 ?_ _)); refine Z9 (cs := #[.int .i64 6, .string (⟨#[]⟩ : ByteArray), .int .u32 ((rd x8_1 0) % 4294967296), .bool false, .int .i64 a1, .int .i64 x129005_1]) ?_ 5 _ rfl; (with_reducible repeat (first | refine Z0 ?_ _ | refine Z3 ?_ | refine Z1 ?_ _)); refine Z9 (cs := #[.int .i64 6, .string (⟨#[]⟩ : ByteArray), .int .u32 ((rd x8_1 0) % 4294967296), .bool false, .int .i64 x129004_1, .int .i64 x129005_1]) ?_ 4 _ rfl; (with_reducible repeat (first | refine Z0 ?_ _ | refine Z3 ?_ | refine Z1 ?_ _)); refine Z9 (cs := #[.int .i64 6, .string (⟨#[]⟩ : ByteArray), .int .u32 ((rd x8_1 0) % 4294967296), .bool x129003_1, .int .i64 x129004_1, .int .i64 x129005_1]) ?_ 3 _ rfl; (with_reducible repeat (first | refine Z0 ?_ _ | refine Z3 ?_ | refine Z1 ?_ _)); refine Z9 (cs := #[.int .i64 6, .string (⟨#[]⟩ : ByteArray), .int .u32 x129002_1, .bool x129003_1, .int .i64 x129004_1, .int .i64 x129005_1]) ?_ 2 _ rfl; (with_reducible repeat (first | refine Z0 ?_ _ | refine Z3 ?_ | refine Z1 ?_ _)); refine Z9 (cs := #[.int .i64 6, .string x129001_1, .int .u32 x129002_1, .bool x129003_1, .int .i64 x129004_1, .int .i64 x129005_1]) ?_ 1 _ rfl; (with_reducible repeat (first | refine Z0 ?_ _ | refine Z3 ?_ | refine Z1 ?_ _)); refine Z9 (cs := #[.int .i64 x129000_1, .string x129001_1, .int .u32 x129002_1, .bool x129003_1, .int .i64 x129004_1, .int .i64 x129005_1]) ?_ 0 _ rfl; (with_reducible repeat (first | refine Z0 ?_ _ | refine Z3 ?_ | refine Z1 ?_ _)); refine Z22 ?_ NB128_129.out _; (with_reducible repeat (first | refine Z0 ?_ _ | refine Z3 ?_ | refine Z1 ?_ _)); refine Z22 ?_ NB128_129.out _; (with_reducible repeat (first | refine Z0 ?_ _ | refine Z3 ?_ | refine Z1 ?_ _)); exact BK128.out) Tryd.underlying24 rfl (by kernel_rfl)) rfl ?_
                   exact ⟨by first | rfl | (simp [Z16, Z15] <;> rfl) | (simp [*, Z16, Z15] <;> rfl), by repeat (first | (with_reducible first | exact HB.out | apply Z7 | apply Z4 | apply Z6 | refine Z8 ?_ GE128.out | refine Z8 ?_ GE129.out) | exact HB.out)⟩
                 · rw [if_neg c31] at H
                   exact absurd H (by simp)
               · rw [if_neg c30] at H
                 have c30b0 : ((bt a0 a1) == 39) = false := beq_eq_false_iff_ne.mpr c30
                 have c30b1 : ((bt a0 a1) != 39) = true := bne_iff_ne.mpr c30
                 simp only [Option.some.injEq, Prod.mk.injEq] at H
                 obtain ⟨rfl, rfl, rfl, rfl, rfl, rfl, rfl⟩ := H
                 have hnb41 := NB129_128.out
                 have hnc41 := NB128_129.out
                 have hcz42_0 : wc.cell? ⟨gb129, 0, none⟩ = some (.int .i64 7) := (Z5 BK129.out 0).trans rfl
                 have hcz42_1 : wc.cell? ⟨gb129, 1, none⟩ = some (.string (⟨#[]⟩ : ByteArray)) := (Z5 BK129.out 1).trans rfl
                 have hcz42_2 : wc.cell? ⟨gb129, 2, none⟩ = some (.int .u32 0) := (Z5 BK129.out 2).trans rfl
                 have hcz42_3 : wc.cell? ⟨gb129, 3, none⟩ = some (.bool false) := (Z5 BK129.out 3).trans rfl
                 have hcz42_4 : wc.cell? ⟨gb129, 4, none⟩ = some (.int .i64 a1) := (Z5 BK129.out 4).trans rfl
                 have hcz42_5 : wc.cell? ⟨gb129, 5, none⟩ = some (.int .i64 0) := (Z5 BK129.out 5).trans rfl
                 have hfz42_0 := Z2 BK129.out 0
                 have hfz42_1 := Z2 BK129.out 1
                 have hfz42_2 := Z2 BK129.out 2
                 have hfz42_3 := Z2 BK129.out 3
                 have hfz42_4 := Z2 BK129.out 4
                 have hfz42_5 := Z2 BK129.out 5
                 have hcv43 := own_string (P := Tryd.prog) Tryd.underlying35 Tryd.underlying5 Tryd.underlying9 (Kd.own_of_R (Kd.R_set HO_8.out BK129.out (by decide) 5 (.int .i64 (wrap64 (x9_1 + 1)))))
                 have hcz44_0 : wc.cell? ⟨gb128, 0, none⟩ = some (.int .i64 x129000_1) := (Z5 BK128.out 0).trans rfl
                 have hcz44_1 : wc.cell? ⟨gb128, 1, none⟩ = some (.string x129001_1) := (Z5 BK128.out 1).trans rfl
                 have hcz44_2 : wc.cell? ⟨gb128, 2, none⟩ = some (.int .u32 x129002_1) := (Z5 BK128.out 2).trans rfl
                 have hcz44_3 : wc.cell? ⟨gb128, 3, none⟩ = some (.bool x129003_1) := (Z5 BK128.out 3).trans rfl
                 have hcz44_4 : wc.cell? ⟨gb128, 4, none⟩ = some (.int .i64 x129004_1) := (Z5 BK128.out 4).trans rfl
                 have hcz44_5 : wc.cell? ⟨gb128, 5, none⟩ = some (.int .i64 x129005_1) := (Z5 BK128.out 5).trans rfl
                 have hfz44_0 := Z2 BK128.out 0
                 have hfz44_1 := Z2 BK128.out 1
                 have hfz44_2 := Z2 BK128.out 2
                 have hfz44_3 := Z2 BK128.out 3
                 have hfz44_4 := Z2 BK128.out 4
                 have hfz44_5 := Z2 BK128.out 5
                 go_wp2
                 refine bodyPost_ret (Z46 rfl _ _ gb128 24 #[.int .i64 7, .string (strOfNums x8_1), .int .u32 0, .bool false, .int .i64 a1, .int .i64 (wrap64 (x9_1 + 1))] (0, 0) _ rfl (by (with_reducible repeat (first | refine Z0 ?_ _ | refine Z3 ?_ | refine Z1 ?_ _)); refine Z9 (cs := #[.int .i64 7, .string (strOfNums x8_1), .int .u32 0, .bool false, .int .i64 a1, .int .i64 x129005_1]) ?_ 5 _ rfl; (with_reducible repeat (first | refine Z0 ?_ _ | refine Z3 ?_ | refine Z1 ?_ _)); refine Z9 (cs := #[.int .i64 7, .string (strOfNums x8_1), .int .u32 0, .bool false, .int .i64 x129004_1, .int .i64 x129005_1]) ?_ 4 _ rfl; (with_reducible repeat (first | refine Z0 ?_ _ | refine Z3 ?_ | refine Z1 ?_ _)); refine Z9 (cs := #[.int .i64 7, .string (strOfNums x8_1), .int .u32 0, .bool x129003_1, .int .i64 x129004_1, .int .i64 x129005_1]) ?_ 3 _ rfl; (with_reducible repeat (first | refine Z0 ?_ _ | refine Z3 ?_ | refine Z1 ?_ _)); refine Z9 (cs := #[.int .i64 7, .string (strOfNums x8_1), .int .u32 x129002_1, .bool x129003_1, .int .i64 x129004_1, .int .i64 x129005_1]) ?_ 2 _ rfl; (with_reducible repeat (first | refine Z0 ?_ _ | refine Z3 ?_ | refine Z1 ?_ _)); refine Z9 (cs := #[.int .i64 7, .string x129001_1, .int .u32 x129002_1, .bool x129003_1, .int .i64 x129004_1, .int .i64 x129005_1]) ?_ 1 _ rfl; (with_reducible repeat (first | refine Z0 ?_ _ | refine Z3 ?_ | refine Z1 ?_ _)); refine Z9 (cs := #[.int .i64 x129000_1, .string x129001_1, .int .u32 x129002_1, .bool x129003_1, .int .i64 x129004_1, .int .i64 x129005_1]) ?_ 0 _ rfl; (with_reducible repeat (first | refine Z0 ?_ _ | refine Z3 ?_ | refine Z1 ?_ _)); refine Z22 ?_ NB128_129.out _; (with_reducible repeat (first | refine Z0 ?_ _ | refine Z3 ?_ | refine Z1 ?_ _)); refine Z22 ?_ NB128_129.out _; (with_reducible repeat (first | refine Z0 ?_ _ | refine Z3 ?_ | refine Z1 ?_ _)); exact BK128.out) Tryd.underlying24 rfl (by kernel_rfl)) rfl ?_
                 exact ⟨by first | rfl | (simp [Z16, Z15] <;> rfl) | (simp [*, Z16, Z15] <;> rfl), by repeat (first | (with_reducible first | exact HB.out | apply Z7 | apply Z4 | apply Z6 | refine Z8 ?_ GE128.out | refine Z8 ?_ GE129.out) | exact HB.out)⟩
   · rw [if_neg c4] at H
     exact absurd H (by simp)
 · rw [if_neg c3] at H
   exact absurd H (by simp)
end Go.Proofs.YtbmfadmoficfiaaDoor.Q
