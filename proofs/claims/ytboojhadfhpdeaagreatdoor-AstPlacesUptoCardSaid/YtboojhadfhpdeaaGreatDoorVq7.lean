/- A part of the proof, made small by a program: Qx7, Qx8, Qx9, Qx12, R2, R3, R4, R5. -/
import Derived.Test.YtboojhadfhpdeaaGreatDoorVq2
import Derived.Test.YtboojhadfhpdeaaGreatDoorVq4
set_option linter.unusedVariables false
set_option linter.unusedSimpArgs false
set_option maxHeartbeats 8000000
set_option maxRecDepth 100000
namespace Go.Proofs.YtboojhadfhpdeaaGreatDoor.Q
open Go.RowKit Go.Proofs.YtboojhadfhpdeaaGreatDoorW.PrintWords Go.Proofs.YtboojhadfhpdeaaGreatDoorW.PrintLast Go.Proofs.YtboojhadfhpdeaaGreatDoorW.PrintMore
attribute [local go_sem] fM fO gI gJ fD fE fP fQ
mutual
def dn.j0 : Nat → Int → Bool → Option (Int)
 | 0,_,_ => none
 | k + 1,x0,x3 => if x3 = true then (some ((x0 - 48) % 256)) else (if x0 ≥ 97 then (dn.j1 k x0 (decide (x0 ≤ 102))) else (dn.j1 k x0 false))
def dn.j1 : Nat → Int → Bool → Option (Int)
 | 0,_,_ => none
 | k + 1,x0,x13 => if x13 = true then (some (((x0 - 97) % 256) + 10)) else (if x0 ≥ 65 then (if x0 ≤ 70 then (some (((x0 - 65) % 256) + 10)) else (some 99)) else (some 99))
end
def dn.f (k : Nat) (a0 : Int) : Option (Int):=if a0 ≥ 48 then (dn.j0 k a0 (decide (a0 ≤ 57))) else (dn.j0 k a0 false)
theorem dn.gB : ∀ k,(∀ y0 y1,dM (dn.j0 k y0 y1) (dn.j0 (k + 1) y0 y1)) ∧ (∀ y0 y1,dM (dn.j1 k y0 y1) (dn.j1 (k + 1) y0 y1))
 | 0 => ⟨fun _ _ r h => by simp [dn.j0] at h,fun _ _ r h => by simp [dn.j1] at h⟩
 | k + 1 => by
  obtain ⟨kT,ih1⟩:=dn.gB k;refine ⟨?_,?_⟩
  · intro y0 y1;unfold dn.j0
    repeat' first
    | (with_reducible exact kT _ _)
    | (with_reducible exact ih1 _ _)
    | (with_reducible exact dM.refl _)
    | (with_reducible exact dM.none _)
    | (with_reducible refine dM.ite ?_ ?_)
    | (with_reducible refine dM.bind ?_ (fun _ => ?_))
    | exact kT _ _
    | exact ih1 _ _
    | exact dM.none _
    | refine dM.ite ?_ ?_
    | refine dM.bind ?_ (fun _ => ?_)
  · intro y0 y1;unfold dn.j1
    repeat' first
    | (with_reducible exact kT _ _)
    | (with_reducible exact ih1 _ _)
    | (with_reducible exact dM.refl _)
    | (with_reducible exact dM.none _)
    | (with_reducible refine dM.ite ?_ ?_)
    | (with_reducible refine dM.bind ?_ (fun _ => ?_))
    | exact kT _ _
    | exact ih1 _ _
    | exact dM.none _
    | refine dM.ite ?_ ?_
    | refine dM.bind ?_ (fun _ => ?_)
theorem dn.mono : ∀ a0 k,dM (dn.f k a0) (dn.f (k + 1) a0):=by
 intro a0 k;obtain ⟨kT,ih1⟩:=dn.gB k;unfold dn.f
 repeat' first
  | (with_reducible exact kT _ _)
  | (with_reducible exact ih1 _ _)
  | (with_reducible exact dM.refl _)
  | (with_reducible exact dM.none _)
  | (with_reducible refine dM.ite ?_ ?_)
  | (with_reducible refine dM.bind ?_ (fun _ => ?_))
  | exact kT _ _
  | exact ih1 _ _
  | exact dM.none _
  | refine dM.ite ?_ ?_
  | refine dM.bind ?_ (fun _ => ?_)
theorem dn.calls (k : Nat) (a0 : Int) (r : Int) (w : World) (h : dn.f k a0 = some r) :
 Calls Tryz.prog 110 #[.int .u8 a0] w fun e w' => e = .returned (.int .i64 r) ∧ bH w w' := by
 have H : (if a0 ≥ 48 then (dn.j0 k a0 (decide (a0 ≤ 57))) else (dn.j0 k a0 false)) = some r:=h;clear h;have HC2:=Am H;clear H;go_enter Tryz.func110,Tryz.ntmps110
 go_upto_region 1 with (fail)
 go_cut [3] (fun v3 wc => ∃ (kq : Nat) (fA : Bool),v3 = .bool fA ∧ ah (dn.j0 kq a0 fA = some r) ∧ ah (kq ≤ k) ∧ bH w wc)
 case first =>
  have H:=HC2.out;clear HC2;by_cases c3 : a0 ≥ 48
  · rw [if_pos c3] at H;have ni : decide (48 ≤ a0) = true:=decide_eq_true c3;clear c3;(first|rw [ni]|(simp only [bW,dA];rw [ni])|skip);have H' := Am H;clear H;go_wp2
    go_meet
    case rel => exact ⟨_,(decide (a0 ≤ 57)),YF,H',⟨by first|omega|exact Nat.le_refl _⟩,by repeat (first|exact bH.refl _|apply bH.step)⟩
  · rw [if_neg c3] at H;have ni : decide (48 ≤ a0) = false:=decide_eq_false c3;clear c3;(first|rw [ni]|(simp only [bW,dA];rw [ni])|skip);have H' := Am H;clear H;go_wp2
    go_meet
    case rel => exact ⟨_,(false),YF,H',⟨by first|omega|exact Nat.le_refl _⟩,by repeat (first|exact bH.refl _|apply bH.step)⟩
 case rest =>
  clear HC2;obtain ⟨kq,fA,rfl,HA,HJ1,⟨mc1,rfl⟩⟩:=hcut;cases kq with
  | zero => exact absurd HA.out (by simp [dn.j0])
  | succ kj1 =>
   have H:=HA.out;clear HA;simp only [dn.j0] at H;by_cases c4 : fA = true
   · subst c4;have H1 : (some ((a0 - 48) % 256)) = some r:=by rw [if_pos rfl] at H;exact H
     clear H;have H:=H1;clear H1;obtain rfl:=Option.some.inj H;go_wp2
     go_ret
     exact ⟨by first|rfl|(simp;done)|(simp [*];done),by repeat (first|exact bH.refl _|apply bH.step)⟩
   · replace c4:=Bool.eq_false_iff.mpr c4;subst c4;have H1 : (if a0 ≥ 97 then (dn.j1 kj1 a0 (decide (a0 ≤ 102))) else (dn.j1 kj1 a0 false)) = some r:=by rw [if_neg (show ¬ (false = true) by decide)] at H;exact H
     clear H;have H:=H1;clear H1;have Jv:=Am H;clear H;go_upto_region 3 with (fail)
     go_cut [13] (fun v13 wc => ∃ (kq : Nat) (O4 : Bool),v13 = .bool O4 ∧ ah (dn.j1 kq a0 O4 = some r) ∧ ah (kq ≤ kj1) ∧ bH w wc)
     case first =>
      have H:=Jv.out;clear Jv;by_cases c6 : a0 ≥ 97
      · rw [if_pos c6] at H;have qm : decide (97 ≤ a0) = true:=decide_eq_true c6;clear c6;(first|rw [qm]|(simp only [bW,dA];rw [qm])|skip);have H' := Am H;clear H;go_wp2
        go_meet
        case rel => exact ⟨_,(decide (a0 ≤ 102)),YF,H',⟨by have:=HJ1.out;first|omega|exact Nat.le_refl _⟩,by repeat (first|exact bH.refl _|apply bH.step)⟩
      · rw [if_neg c6] at H;have qm : decide (97 ≤ a0) = false:=decide_eq_false c6;clear c6;(first|rw [qm]|(simp only [bW,dA];rw [qm])|skip);have H' := Am H;clear H;go_wp2
        go_meet
        case rel => exact ⟨_,(false),YF,H',⟨by have:=HJ1.out;first|omega|exact Nat.le_refl _⟩,by repeat (first|exact bH.refl _|apply bH.step)⟩
     case rest =>
      clear Jv;try clear c4
      obtain ⟨kq,O4,rfl,HA,HJ4,⟨mc4,rfl⟩⟩:=hcut;cases kq with
      | zero => exact absurd HA.out (by simp [dn.j1])
      | succ kj4 =>
       have H:=HA.out;clear HA;simp only [dn.j1] at H;by_cases c7 : O4 = true
       · subst c7;have H1 : (some (((a0 - 97) % 256) + 10)) = some r:=by rw [if_pos rfl] at H;exact H
         clear H;have H:=H1;clear H1;obtain rfl:=Option.some.inj H;go_wp2
         go_ret
         exact ⟨by first|rfl|(simp;done)|(simp [*];done),by repeat (first|exact bH.refl _|apply bH.step)⟩
       · replace c7:=Bool.eq_false_iff.mpr c7;subst c7;have H1 : (if a0 ≥ 65 then (if a0 ≤ 70 then (some (((a0 - 65) % 256) + 10)) else (some 99)) else (some 99)) = some r:=by rw [if_neg (show ¬ (false = true) by decide)] at H;exact H
         clear H;have H:=H1;clear H1;by_cases c8 : a0 ≥ 65
         · rw [if_pos c8] at H;have wo : decide (65 ≤ a0) = true:=decide_eq_true c8;clear c8;by_cases c9 : a0 ≤ 70
           · rw [if_pos c9] at H;have BJ:=decide_eq_true c9;clear c9;obtain rfl:=Option.some.inj H;go_wp2
             go_ret
             exact ⟨by first|rfl|(simp;done)|(simp [*];done),by repeat (first|exact bH.refl _|apply bH.step)⟩
           · rw [if_neg c9] at H;have BJ:=decide_eq_false c9;clear c9;obtain rfl:=Option.some.inj H;go_wp2
             go_ret
             exact ⟨by first|rfl|(simp;done)|(simp [*];done),by repeat (first|exact bH.refl _|apply bH.step)⟩
         · rw [if_neg c8] at H;have wo : decide (65 ≤ a0) = false:=decide_eq_false c8;clear c8;obtain rfl:=Option.some.inj H;go_wp2
           go_ret
           exact ⟨by first|rfl|(simp;done)|(simp [*];done),by repeat (first|exact bH.refl _|apply bH.step)⟩
attribute [local go_sem] fM fO gI gJ fD fE fP fQ
def mZ.f (a0 : Int) : Option (Bool):=if a0 ≥ 48 then (if a0 ≤ 57 then (some true) else (if a0 ≥ 97 then (if a0 ≤ 122 then (some true) else (if a0 ≥ 65 then (if a0 ≤ 90 then (some true) else (some (a0 == 95))) else (some (a0 == 95)))) else (if a0 ≥ 65 then (if a0 ≤ 90 then (some true) else (some (a0 == 95))) else (some (a0 == 95))))) else (if a0 ≥ 97 then (if a0 ≤ 122 then (some true) else (if a0 ≥ 65 then (if a0 ≤ 90 then (some true) else (some (a0 == 95))) else (some (a0 == 95)))) else (if a0 ≥ 65 then (if a0 ≤ 90 then (some true) else (some (a0 == 95))) else (some (a0 == 95))))
theorem mZ.calls (a0 : Int) (r : Bool) (w : World) (h : mZ.f a0 = some r) :
 Calls Tryz.prog 111 #[.int .u8 a0] w fun e w' => e = .returned (.bool r) ∧ bH w w' := by
 have H : (if a0 ≥ 48 then (if a0 ≤ 57 then (some true) else (if a0 ≥ 97 then (if a0 ≤ 122 then (some true) else (if a0 ≥ 65 then (if a0 ≤ 90 then (some true) else (some (a0 == 95))) else (some (a0 == 95)))) else (if a0 ≥ 65 then (if a0 ≤ 90 then (some true) else (some (a0 == 95))) else (some (a0 == 95))))) else (if a0 ≥ 97 then (if a0 ≤ 122 then (some true) else (if a0 ≥ 65 then (if a0 ≤ 90 then (some true) else (some (a0 == 95))) else (some (a0 == 95)))) else (if a0 ≥ 65 then (if a0 ≤ 90 then (some true) else (some (a0 == 95))) else (some (a0 == 95))))) = some r:=h;clear h;by_cases c2 : a0 ≥ 48
 · rw [if_pos c2] at H;have uQ : decide (48 ≤ a0) = true:=decide_eq_true c2;clear c2;by_cases c3 : a0 ≤ 57
   · rw [if_pos c3] at H;have ni:=decide_eq_true c3;clear c3;obtain rfl:=Option.some.inj H;go_enter Tryz.func111,Tryz.ntmps111
     go_wp2
     go_ret
     exact ⟨by first|rfl|(simp;done)|(simp [*];done),by repeat (first|exact bH.refl _|apply bH.step)⟩
   · rw [if_neg c3] at H;have ni:=decide_eq_false c3;clear c3;by_cases c4 : a0 ≥ 97
     · rw [if_pos c4] at H;have tC : decide (97 ≤ a0) = true:=decide_eq_true c4;clear c4;by_cases c5 : a0 ≤ 122
       · rw [if_pos c5] at H;have sK:=decide_eq_true c5;clear c5;obtain rfl:=Option.some.inj H;go_enter Tryz.func111,Tryz.ntmps111
         go_wp2
         go_ret
         exact ⟨by first|rfl|(simp;done)|(simp [*];done),by repeat (first|exact bH.refl _|apply bH.step)⟩
       · rw [if_neg c5] at H;have sK:=decide_eq_false c5;clear c5;by_cases c6 : a0 ≥ 65
         · rw [if_pos c6] at H;have qm : decide (65 ≤ a0) = true:=decide_eq_true c6;clear c6;by_cases c7 : a0 ≤ 90
           · rw [if_pos c7] at H;have xJ:=decide_eq_true c7;clear c7;obtain rfl:=Option.some.inj H;go_enter Tryz.func111,Tryz.ntmps111
             go_wp2
             go_ret
             exact ⟨by first|rfl|(simp;done)|(simp [*];done),by repeat (first|exact bH.refl _|apply bH.step)⟩
           · rw [if_neg c7] at H;have xJ:=decide_eq_false c7;clear c7;obtain rfl:=Option.some.inj H;go_enter Tryz.func111,Tryz.ntmps111
             go_wp2
             go_ret
             exact ⟨by first|rfl|(simp;done)|(simp [*];done),by repeat (first|exact bH.refl _|apply bH.step)⟩
         · rw [if_neg c6] at H;have qm : decide (65 ≤ a0) = false:=decide_eq_false c6;clear c6;obtain rfl:=Option.some.inj H;go_enter Tryz.func111,Tryz.ntmps111
           go_wp2
           go_ret
           exact ⟨by first|rfl|(simp;done)|(simp [*];done),by repeat (first|exact bH.refl _|apply bH.step)⟩
     · rw [if_neg c4] at H;have tC : decide (97 ≤ a0) = false:=decide_eq_false c4;clear c4;by_cases c8 : a0 ≥ 65
       · rw [if_pos c8] at H;have wo : decide (65 ≤ a0) = true:=decide_eq_true c8;clear c8;by_cases c9 : a0 ≤ 90
         · rw [if_pos c9] at H;have BJ:=decide_eq_true c9;clear c9;obtain rfl:=Option.some.inj H;go_enter Tryz.func111,Tryz.ntmps111
           go_wp2
           go_ret
           exact ⟨by first|rfl|(simp;done)|(simp [*];done),by repeat (first|exact bH.refl _|apply bH.step)⟩
         · rw [if_neg c9] at H;have BJ:=decide_eq_false c9;clear c9;obtain rfl:=Option.some.inj H;go_enter Tryz.func111,Tryz.ntmps111
           go_wp2
           go_ret
           exact ⟨by first|rfl|(simp;done)|(simp [*];done),by repeat (first|exact bH.refl _|apply bH.step)⟩
       · rw [if_neg c8] at H;have wo : decide (65 ≤ a0) = false:=decide_eq_false c8;clear c8;obtain rfl:=Option.some.inj H;go_enter Tryz.func111,Tryz.ntmps111
         go_wp2
         go_ret
         exact ⟨by first|rfl|(simp;done)|(simp [*];done),by repeat (first|exact bH.refl _|apply bH.step)⟩
 · rw [if_neg c2] at H;have uQ : decide (48 ≤ a0) = false:=decide_eq_false c2;clear c2;by_cases c10 : a0 ≥ 97
   · rw [if_pos c10] at H;have Bo : decide (97 ≤ a0) = true:=decide_eq_true c10;clear c10;by_cases c11 : a0 ≤ 122
     · rw [if_pos c11] at H;have vT:=decide_eq_true c11;clear c11;obtain rfl:=Option.some.inj H;go_enter Tryz.func111,Tryz.ntmps111
       go_wp2
       go_ret
       exact ⟨by first|rfl|(simp;done)|(simp [*];done),by repeat (first|exact bH.refl _|apply bH.step)⟩
     · rw [if_neg c11] at H;have vT:=decide_eq_false c11;clear c11;by_cases c12 : a0 ≥ 65
       · rw [if_pos c12] at H;have JW : decide (65 ≤ a0) = true:=decide_eq_true c12;clear c12;by_cases c13 : a0 ≤ 90
         · rw [if_pos c13] at H;have O5:=decide_eq_true c13;clear c13;obtain rfl:=Option.some.inj H;go_enter Tryz.func111,Tryz.ntmps111
           go_wp2
           go_ret
           exact ⟨by first|rfl|(simp;done)|(simp [*];done),by repeat (first|exact bH.refl _|apply bH.step)⟩
         · rw [if_neg c13] at H;have O5:=decide_eq_false c13;clear c13;obtain rfl:=Option.some.inj H;go_enter Tryz.func111,Tryz.ntmps111
           go_wp2
           go_ret
           exact ⟨by first|rfl|(simp;done)|(simp [*];done),by repeat (first|exact bH.refl _|apply bH.step)⟩
       · rw [if_neg c12] at H;have JW : decide (65 ≤ a0) = false:=decide_eq_false c12;clear c12;obtain rfl:=Option.some.inj H;go_enter Tryz.func111,Tryz.ntmps111
         go_wp2
         go_ret
         exact ⟨by first|rfl|(simp;done)|(simp [*];done),by repeat (first|exact bH.refl _|apply bH.step)⟩
   · rw [if_neg c10] at H;have Bo : decide (97 ≤ a0) = false:=decide_eq_false c10;clear c10;by_cases c14 : a0 ≥ 65
     · rw [if_pos c14] at H;have c14b0 : decide (65 ≤ a0) = true:=decide_eq_true c14;clear c14;by_cases c15 : a0 ≤ 90
       · rw [if_pos c15] at H;have DR:=decide_eq_true c15;clear c15;obtain rfl:=Option.some.inj H;go_enter Tryz.func111,Tryz.ntmps111
         go_wp2
         go_ret
         exact ⟨by first|rfl|(simp;done)|(simp [*];done),by repeat (first|exact bH.refl _|apply bH.step)⟩
       · rw [if_neg c15] at H;have DR:=decide_eq_false c15;clear c15;obtain rfl:=Option.some.inj H;go_enter Tryz.func111,Tryz.ntmps111
         go_wp2
         go_ret
         exact ⟨by first|rfl|(simp;done)|(simp [*];done),by repeat (first|exact bH.refl _|apply bH.step)⟩
     · rw [if_neg c14] at H;have c14b0 : decide (65 ≤ a0) = false:=decide_eq_false c14;clear c14;obtain rfl:=Option.some.inj H;go_enter Tryz.func111,Tryz.ntmps111
       go_wp2
       go_ret
       exact ⟨by first|rfl|(simp;done)|(simp [*];done),by repeat (first|exact bH.refl _|apply bH.step)⟩
attribute [local go_sem] fM fO gI gJ fD fE fP fQ
mutual
def bY.j0 : Nat → ByteArray → Bool → Option (Bool)
 | 0,_,_ => none
 | k + 1,x0,x11 => if x11 = true then (some false) else (bY.l0 k x0 (x0.size : Int) 0)
def bY.l0 : Nat → ByteArray → Int → Int → Option (Bool)
 | 0,_,_,_ => none
 | k + 1,x0,x13,x14 => if x14 < x13 then (if 0 ≤ x14 then (if x14 < (x0.size : Int) then ((mZ.f (bt x0 x14)).bind fun t109 => (if t109 = true then (bY.l0 k x0 x13 (wrap64 (x14 + 1))) else (some false))) else (none)) else (none)) else (some true)
end
def bY.f (k : Nat) (a0 : ByteArray) : Option (Bool):=if a0.toList = ([] : List UInt8) then (bY.j0 k a0 true) else (if 0 < (a0.size : Int) then ((dn.f k (bt a0 0)).bind fun sQ => (bY.j0 k a0 (decide (sQ < 10)))) else (none))
theorem bY.gB : ∀ k,(∀ y0 y1,dM (bY.j0 k y0 y1) (bY.j0 (k + 1) y0 y1)) ∧ (∀ y0 y1 y2,dM (bY.l0 k y0 y1 y2) (bY.l0 (k + 1) y0 y1 y2))
 | 0 => ⟨fun _ _ r h => by simp [bY.j0] at h,fun _ _ _ r h => by simp [bY.l0] at h⟩
 | k + 1 => by
  obtain ⟨kT,ih1⟩:=bY.gB k;refine ⟨?_,?_⟩
  · intro y0 y1;unfold bY.j0
    repeat' first
    | (with_reducible exact kT _ _)
    | (with_reducible exact ih1 _ _ _)
    | (with_reducible exact dn.mono _ _)
    | (with_reducible exact dM.refl _)
    | (with_reducible exact dM.none _)
    | (with_reducible refine dM.ite ?_ ?_)
    | (with_reducible refine dM.bind ?_ (fun _ => ?_))
    | exact kT _ _
    | exact ih1 _ _ _
    | exact dn.mono _ _
    | exact dM.none _
    | refine dM.ite ?_ ?_
    | refine dM.bind ?_ (fun _ => ?_)
  · intro y0 y1 y2;unfold bY.l0
    repeat' first
    | (with_reducible exact kT _ _)
    | (with_reducible exact ih1 _ _ _)
    | (with_reducible exact dn.mono _ _)
    | (with_reducible exact dM.refl _)
    | (with_reducible exact dM.none _)
    | (with_reducible refine dM.ite ?_ ?_)
    | (with_reducible refine dM.bind ?_ (fun _ => ?_))
    | exact kT _ _
    | exact ih1 _ _ _
    | exact dn.mono _ _
    | exact dM.none _
    | refine dM.ite ?_ ?_
    | refine dM.bind ?_ (fun _ => ?_)
theorem bY.mono : ∀ a0 k,dM (bY.f k a0) (bY.f (k + 1) a0):=by
 intro a0 k;obtain ⟨kT,ih1⟩:=bY.gB k;unfold bY.f
 repeat' first
  | (with_reducible exact kT _ _)
  | (with_reducible exact ih1 _ _ _)
  | (with_reducible exact dn.mono _ _)
  | (with_reducible exact dM.refl _)
  | (with_reducible exact dM.none _)
  | (with_reducible refine dM.ite ?_ ?_)
  | (with_reducible refine dM.bind ?_ (fun _ => ?_))
  | exact kT _ _
  | exact ih1 _ _ _
  | exact dn.mono _ _
  | exact dM.none _
  | refine dM.ite ?_ ?_
  | refine dM.bind ?_ (fun _ => ?_)
theorem bY.calls (k : Nat) (a0 : ByteArray) (r : Bool) (w : World) (h : bY.f k a0 = some r) :
 Calls Tryz.prog 91 #[.string a0] w fun e w' => e = .returned (.bool r) ∧ bH w w' := by
 have H : (if a0.toList = ([] : List UInt8) then (bY.j0 k a0 true) else (if 0 < (a0.size : Int) then ((dn.f k (bt a0 0)).bind fun sQ => (bY.j0 k a0 (decide (sQ < 10)))) else (none))) = some r:=h;clear h;have HC2:=Am H;clear H;go_enter Tryz.func91,Tryz.ntmps91
 go_upto_region 1 with (fail)
 go_cut [11] (fun v11 wc => ∃ (kq : Nat) (O6 : Bool),v11 = .bool O6 ∧ ah (bY.j0 kq a0 O6 = some r) ∧ ah (kq ≤ k) ∧ bH w wc)
 case first =>
  have H:=HC2.out;clear HC2;by_cases c3 : a0.toList = ([] : List UInt8)
  · rw [if_pos c3] at H;have ni : (a0.toList == ([] : List UInt8)) = true:=beq_iff_eq.mpr c3;have wJ : (a0.toList != ([] : List UInt8)) = false:=bne_eq_false_iff_eq.mpr c3;clear c3;(first|rw [ni]|(simp only [bW,dA];rw [ni])|skip);have H' := Am H;clear H;go_wp2
    go_meet
    case rel => exact ⟨_,(true),YF,H',⟨by first|omega|exact Nat.le_refl _⟩,by repeat (first|exact bH.refl _|apply bH.step)⟩
  · rw [if_neg c3] at H;have ni : (a0.toList == ([] : List UInt8)) = false:=beq_eq_false_iff_ne.mpr c3;have wJ : (a0.toList != ([] : List UInt8)) = true:=bne_iff_ne.mpr c3;(first|rw [ni]|(simp only [bW,dA];rw [ni])|skip);by_cases c4 : 0 < (a0.size : Int)
    · rw [if_pos c4] at H;have tC:=decide_eq_true c4;have QZ : decide (0 < a0.size) = true:=decide_eq_true (by omega);clear c4;replace H:=Option.bind_eq_some_iff.mp H;obtain ⟨sQ,A60,H⟩:=H;replace H : (bY.j0 k a0 (decide (sQ < 10))) = some r:=H;have A6:=Am A60;clear A60;have H' := Am H;clear H;have p5 : 0 ≤ (0 : Int):=(by omega)
      have q5 : 0 < a0.size:=(by have : (0 : Int) < (a0.size : Int):=YA;omega)
      have hx5 : ∀ h : 0 < a0.size,((a0[0]'h).toNat : Int) = bt a0 0:=kY a0 0;clear p5;have qi5 : (0 < (a0.size : Int)) = True:=eq_true YA;replace q5:=eq_true q5;go_wp2_with (first|(go_at_call 110;(with_reducible refine (dn.calls k (bt a0 0) sQ _ A6.out).mono ?_);rintro e w' ⟨rfl,⟨nd,rfl⟩⟩))
      go_meet
      case rel => exact ⟨_,(decide (sQ < 10)),YF,H',⟨by first|omega|exact Nat.le_refl _⟩,by repeat (first|exact bH.refl _|apply bH.step)⟩
    · rw [if_neg c4] at H;exact absurd H (by simp)
 case rest =>
  clear HC2;obtain ⟨kq,O6,rfl,HA,HJ1,⟨mc1,rfl⟩⟩:=hcut;cases kq with
  | zero => exact absurd HA.out (by simp [bY.j0])
  | succ kj1 =>
   have H:=HA.out;clear HA;simp only [bY.j0] at H;by_cases c7 : O6 = true
   · subst c7;have H1 : (some false) = some r:=by rw [if_pos rfl] at H;exact H
     clear H;have H:=H1;clear H1;obtain rfl:=Option.some.inj H;go_wp2
     go_ret
     exact ⟨by first|rfl|(simp;done)|(simp [*];done),by repeat (first|exact bH.refl _|apply bH.step)⟩
   · replace c7:=Bool.eq_false_iff.mpr c7;subst c7;have H1 : (bY.l0 kj1 a0 (a0.size : Int) 0) = some r:=by rw [if_neg (show ¬ (false = true) by decide)] at H;exact H
     clear H;have H:=H1;clear H1;have H' := Am H;clear H;go_wp2
     go_loopg [14] kj1 (fun kq v14 w' => ∃ (o8 : Int),v14 = .int .i64 o8 ∧ ah (bY.l0 kq a0 (a0.size : Int) o8 = some r) ∧ ah (kq ≤ kj1) ∧ bH w w')
     case atStart => exact ⟨(0),YF,H',⟨Nat.le_refl _⟩,by repeat (first|exact bH.refl _|apply bH.step)⟩
     case round =>
      clear H';try clear c7
      obtain ⟨o8,rfl,HA,AQ,⟨m2,rfl⟩⟩:=hrel;cases gk with
      | zero => exact absurd HA.out (by simp [bY.l0])
      | succ k2 =>
       have H:=HA.out;clear HA;simp only [bY.l0] at H;by_cases c8 : o8 < (a0.size : Int)
       · rw [if_pos c8] at H;have wo:=decide_eq_true c8;clear c8;by_cases c9 : 0 ≤ o8
         · rw [if_pos c9] at H;have BJ:=decide_eq_true c9;clear c9;by_cases c10 : o8 < (a0.size : Int)
           · rw [if_pos c10] at H;have Bo:=decide_eq_true c10;clear c10;replace H:=Option.bind_eq_some_iff.mp H;obtain ⟨t109,JJ,H⟩:=H;replace H : (if t109 = true then (bY.l0 k2 a0 (a0.size : Int) (wrap64 (o8 + 1))) else (some false)) = some r:=H;have A12:=Am JJ;clear JJ;by_cases c13 : t109 = true
             · subst c13;have H1 : (bY.l0 k2 a0 (a0.size : Int) (wrap64 (o8 + 1))) = some r:=by rw [if_pos rfl] at H;exact H
               clear H;have H:=H1;clear H1;have H' := Am H;clear H;have p11 : 0 ≤ (o8 : Int):=YA;have q11 : o8 < (a0.size : Int):=YA;have hx11:=kY a0 o8;replace p11:=eq_true p11;replace q11:=eq_true q11;go_wp2_with (first|((with_reducible refine dh (f:=111) rfl ?_);refine gy (some 20) rfl rfl Tryz.func111 (by kernel_rfl) rfl #[.int .u8 (bt a0 o8)] rfl (by (try simp only [List.map_toArray,List.map_cons,List.map_nil]);first|done|rfl|(simp only [List.length_drop,List.length_take];rfl)) ?_;(with_reducible refine (mZ.calls (bt a0 o8) true _ A12.out).mono ?_);rintro e w' ⟨rfl,⟨nd,rfl⟩⟩;refine ⟨_,rfl,?_⟩))
               go_roundg k2
               case measure => have:=HJ1.out;have:=AQ.out;omega
               case rel => exact ⟨(wrap64 (o8 + 1)),YF,H',⟨by have:=HJ1.out;have:=AQ.out;omega⟩,by repeat (first|exact bH.refl _|apply bH.step)⟩
             · replace c13:=Bool.eq_false_iff.mpr c13;subst c13;have H1 : (some false) = some r:=by rw [if_neg (show ¬ (false = true) by decide)] at H;exact H
               clear H;have H:=H1;clear H1;obtain rfl:=Option.some.inj H;have p11 : 0 ≤ (o8 : Int):=YA;have q11 : o8 < (a0.size : Int):=YA;have hx11:=kY a0 o8;replace p11:=eq_true p11;replace q11:=eq_true q11;go_wp2_with (first|((with_reducible refine dh (f:=111) rfl ?_);refine gy (some 20) rfl rfl Tryz.func111 (by kernel_rfl) rfl #[.int .u8 (bt a0 o8)] rfl (by (try simp only [List.map_toArray,List.map_cons,List.map_nil]);first|done|rfl|(simp only [List.length_drop,List.length_take];rfl)) ?_;(with_reducible refine (mZ.calls (bt a0 o8) false _ A12.out).mono ?_);rintro e w' ⟨rfl,⟨nd,rfl⟩⟩;refine ⟨_,rfl,?_⟩))
               go_ret
               exact ⟨by first|rfl|(simp;done)|(simp [*];done),by repeat (first|exact bH.refl _|apply bH.step)⟩
           · rw [if_neg c10] at H;exact absurd H (by simp)
         · rw [if_neg c9] at H;exact absurd H (by simp)
       · rw [if_neg c8] at H;have wo:=decide_eq_false c8;clear c8;obtain rfl:=Option.some.inj H;go_wp2
         go_ret
         exact ⟨by first|rfl|(simp;done)|(simp [*];done),by repeat (first|exact bH.refl _|apply bH.step)⟩
attribute [local go_sem] fM fO gI gJ fD fE fP fQ
def gW.f (k : Nat) (a0 : ByteArray) : Option (Bool):=(bY.f k a0).bind fun AV => (if AV = true then (if 1 + a0.size ≤ 9223372036854775807 then (if ((⟨#[32]⟩ : ByteArray) ++ a0).size + 1 ≤ 9223372036854775807 then ((strings_Contains.f (⟨#[32,98,114,101,97,107,32,99,104,97,114,32,99,111,110,116,105,110,117,101,32,100,111,32,101,108,115,101,32,102,111,114,32,103,101,116,98,121,116,101,32,105,102,32,105,110,116,32,112,117,116,98,121,116,101,32,114,101,116,117,114,110,32,115,105,122,101,111,102,32,115,116,114,117,99,116,32,117,105,110,116,32,118,111,105,100,32,119,104,105,108,101,32]⟩ : ByteArray) (((⟨#[32]⟩ : ByteArray) ++ a0) ++ (⟨#[32]⟩ : ByteArray))).bind fun qc => (some qc)) else (none)) else (none)) else (some false))
theorem gW.mono : ∀ a0 k,dM (gW.f k a0) (gW.f (k + 1) a0):=by
 intro a0 k;unfold gW.f
 repeat' first
  | (with_reducible exact bY.mono _ _)
  | (with_reducible exact dM.refl _)
  | (with_reducible exact dM.none _)
  | (with_reducible refine dM.ite ?_ ?_)
  | (with_reducible refine dM.bind ?_ (fun _ => ?_))
  | exact bY.mono _ _
  | exact dM.none _
  | refine dM.ite ?_ ?_
  | refine dM.bind ?_ (fun _ => ?_)
theorem gW.calls (k : Nat) (a0 : ByteArray) (r : Bool) (w : World) (hG : dG w) (h : gW.f k a0 = some r) :
 Calls Tryz.prog 92 #[.string a0] w fun e w' => e = .returned (.bool r) ∧ Below w.heap.size w w' := by
 have HG:=Am hG;clear hG;have HB:=Am (Below.refl w.heap.size w);have H : ((bY.f k a0).bind fun AV => (if AV = true then (if 1 + a0.size ≤ 9223372036854775807 then (if ((⟨#[32]⟩ : ByteArray) ++ a0).size + 1 ≤ 9223372036854775807 then ((strings_Contains.f (⟨#[32,98,114,101,97,107,32,99,104,97,114,32,99,111,110,116,105,110,117,101,32,100,111,32,101,108,115,101,32,102,111,114,32,103,101,116,98,121,116,101,32,105,102,32,105,110,116,32,112,117,116,98,121,116,101,32,114,101,116,117,114,110,32,115,105,122,101,111,102,32,115,116,114,117,99,116,32,117,105,110,116,32,118,111,105,100,32,119,104,105,108,101,32]⟩ : ByteArray) (((⟨#[32]⟩ : ByteArray) ++ a0) ++ (⟨#[32]⟩ : ByteArray))).bind fun qc => (some qc)) else (none)) else (none)) else (some false))) = some r:=h;clear h;replace H:=Option.bind_eq_some_iff.mp H;obtain ⟨AV,xY,H⟩:=H;replace H : (if AV = true then (if 1 + a0.size ≤ 9223372036854775807 then (if ((⟨#[32]⟩ : ByteArray) ++ a0).size + 1 ≤ 9223372036854775807 then ((strings_Contains.f (⟨#[32,98,114,101,97,107,32,99,104,97,114,32,99,111,110,116,105,110,117,101,32,100,111,32,101,108,115,101,32,102,111,114,32,103,101,116,98,121,116,101,32,105,102,32,105,110,116,32,112,117,116,98,121,116,101,32,114,101,116,117,114,110,32,115,105,122,101,111,102,32,115,116,114,117,99,116,32,117,105,110,116,32,118,111,105,100,32,119,104,105,108,101,32]⟩ : ByteArray) (((⟨#[32]⟩ : ByteArray) ++ a0) ++ (⟨#[32]⟩ : ByteArray))).bind fun qc => (some qc)) else (none)) else (none)) else (some false)) = some r:=H;have A2:=Am xY;clear xY;by_cases c3 : AV = true
 · subst c3;have H1 : (if 1 + a0.size ≤ 9223372036854775807 then (if ((⟨#[32]⟩ : ByteArray) ++ a0).size + 1 ≤ 9223372036854775807 then ((strings_Contains.f (⟨#[32,98,114,101,97,107,32,99,104,97,114,32,99,111,110,116,105,110,117,101,32,100,111,32,101,108,115,101,32,102,111,114,32,103,101,116,98,121,116,101,32,105,102,32,105,110,116,32,112,117,116,98,121,116,101,32,114,101,116,117,114,110,32,115,105,122,101,111,102,32,115,116,114,117,99,116,32,117,105,110,116,32,118,111,105,100,32,119,104,105,108,101,32]⟩ : ByteArray) (((⟨#[32]⟩ : ByteArray) ++ a0) ++ (⟨#[32]⟩ : ByteArray))).bind fun qc => (some qc)) else (none)) else (none)) = some r:=by rw [if_pos rfl] at H;exact H
   clear H;have H:=H1;clear H1;by_cases c4 : 1 + a0.size ≤ 9223372036854775807
   · rw [if_pos c4] at H;have tC:=eq_true c4;have QZ:=decide_eq_true c4;try have c4b2 : (9223372036854775807 < 1 + a0.size) = False:=eq_false (Nat.not_lt.2 c4)
     by_cases c5 : ((⟨#[32]⟩ : ByteArray) ++ a0).size + 1 ≤ 9223372036854775807
     · rw [if_pos c5] at H;have sK:=eq_true c5;have MW:=decide_eq_true c5;try have c5b2 : (9223372036854775807 < ((⟨#[32]⟩ : ByteArray) ++ a0).size + 1) = False:=eq_false (Nat.not_lt.2 c5)
       have c5_z : (9223372036854775807 < 1 + a0.size + 1) = False:=eq_false (by have h_ : (⟨#[32]⟩ : ByteArray).size = 1:=rfl;rw [ByteArray.size_append,h_] at c5;omega);replace H:=Option.bind_eq_some_iff.mp H;obtain ⟨qc,A60,H⟩:=H;replace H : (some qc) = some r:=H;have A6:=Am A60;clear A60;obtain rfl:=Option.some.inj H;go_enter Tryz.func92,Tryz.ntmps92
       go_wp2_with (first|((with_reducible refine dh (f:=91) rfl ?_);refine gy (some 4) rfl rfl Tryz.func91 (by kernel_rfl) rfl #[.string a0] rfl (by (try simp only [List.map_toArray,List.map_cons,List.map_nil]);first|done|rfl|(simp only [List.length_drop,List.length_take];rfl)) ?_;(with_reducible refine (bY.calls k a0 true _ A2.out).mono ?_);rintro e w' ⟨rfl,⟨nd,rfl⟩⟩;refine ⟨_,rfl,?_⟩)|(go_at_call 93;(with_reducible refine (strings_Contains.calls (⟨#[32,98,114,101,97,107,32,99,104,97,114,32,99,111,110,116,105,110,117,101,32,100,111,32,101,108,115,101,32,102,111,114,32,103,101,116,98,121,116,101,32,105,102,32,105,110,116,32,112,117,116,98,121,116,101,32,114,101,116,117,114,110,32,115,105,122,101,111,102,32,115,116,114,117,99,116,32,117,105,110,116,32,118,111,105,100,32,119,104,105,108,101,32]⟩ : ByteArray) (((⟨#[32]⟩ : ByteArray) ++ a0) ++ (⟨#[32]⟩ : ByteArray)) qc _ ?dF A6.out).mono ?_);(case dF => refine dG.below HG.out ?_;repeat (first|(with_reducible first|exact HB.out|apply au|apply aj|apply aA)|exact HB.out));rintro e w7 ⟨rfl,hb⟩;replace HB:=Am (aN (by repeat (first|(with_reducible first|exact HB.out|apply au|apply aj|apply aA)|exact HB.out)) hb);(try clear hb)))
       go_ret
       exact ⟨by first|rfl|(simp [aT,aU] <;> rfl)|(simp [*,aT,aU] <;> rfl),by repeat (first|(with_reducible first|exact HB.out|apply au|apply aj|apply aA)|exact HB.out)⟩
     · rw [if_neg c5] at H;exact absurd H (by simp)
   · rw [if_neg c4] at H;exact absurd H (by simp)
 · replace c3:=Bool.eq_false_iff.mpr c3;subst c3;have H1 : (some false) = some r:=by rw [if_neg (show ¬ (false = true) by decide)] at H;exact H
   clear H;have H:=H1;clear H1;obtain rfl:=Option.some.inj H;go_enter Tryz.func92,Tryz.ntmps92
   go_wp2_with (first|((with_reducible refine dh (f:=91) rfl ?_);refine gy (some 4) rfl rfl Tryz.func91 (by kernel_rfl) rfl #[.string a0] rfl (by (try simp only [List.map_toArray,List.map_cons,List.map_nil]);first|done|rfl|(simp only [List.length_drop,List.length_take];rfl)) ?_;(with_reducible refine (bY.calls k a0 false _ A2.out).mono ?_);rintro e w' ⟨rfl,⟨nd,rfl⟩⟩;refine ⟨_,rfl,?_⟩))
   go_ret
   exact ⟨by first|rfl|(simp [aT,aU] <;> rfl)|(simp [*,aT,aU] <;> rfl),by repeat (first|(with_reducible first|exact HB.out|apply au|apply aj|apply aA)|exact HB.out)⟩
attribute [local go_sem] fM fO gI gJ fD fE fP fQ
def ig.f (a0 : Int) : Option (Bool):=if a0 ≥ 97 then (if a0 ≤ 122 then (some true) else (if a0 ≥ 65 then (if a0 ≤ 90 then (some true) else (some (a0 == 95))) else (some (a0 == 95)))) else (if a0 ≥ 65 then (if a0 ≤ 90 then (some true) else (some (a0 == 95))) else (some (a0 == 95)))
theorem ig.calls (a0 : Int) (r : Bool) (w : World) (h : ig.f a0 = some r) :
 Calls Tryz.prog 81 #[.int .u8 a0] w fun e w' => e = .returned (.bool r) ∧ bH w w' := by
 have H : (if a0 ≥ 97 then (if a0 ≤ 122 then (some true) else (if a0 ≥ 65 then (if a0 ≤ 90 then (some true) else (some (a0 == 95))) else (some (a0 == 95)))) else (if a0 ≥ 65 then (if a0 ≤ 90 then (some true) else (some (a0 == 95))) else (some (a0 == 95)))) = some r:=h;clear h;by_cases c2 : a0 ≥ 97
 · rw [if_pos c2] at H;have uQ : decide (97 ≤ a0) = true:=decide_eq_true c2;clear c2;by_cases c3 : a0 ≤ 122
   · rw [if_pos c3] at H;have ni:=decide_eq_true c3;clear c3;obtain rfl:=Option.some.inj H;go_enter Tryz.func81,Tryz.ntmps81
     go_wp2
     go_ret
     exact ⟨by first|rfl|(simp;done)|(simp [*];done),by repeat (first|exact bH.refl _|apply bH.step)⟩
   · rw [if_neg c3] at H;have ni:=decide_eq_false c3;clear c3;by_cases c4 : a0 ≥ 65
     · rw [if_pos c4] at H;have tC : decide (65 ≤ a0) = true:=decide_eq_true c4;clear c4;by_cases c5 : a0 ≤ 90
       · rw [if_pos c5] at H;have sK:=decide_eq_true c5;clear c5;obtain rfl:=Option.some.inj H;go_enter Tryz.func81,Tryz.ntmps81
         go_wp2
         go_ret
         exact ⟨by first|rfl|(simp;done)|(simp [*];done),by repeat (first|exact bH.refl _|apply bH.step)⟩
       · rw [if_neg c5] at H;have sK:=decide_eq_false c5;clear c5;obtain rfl:=Option.some.inj H;go_enter Tryz.func81,Tryz.ntmps81
         go_wp2
         go_ret
         exact ⟨by first|rfl|(simp;done)|(simp [*];done),by repeat (first|exact bH.refl _|apply bH.step)⟩
     · rw [if_neg c4] at H;have tC : decide (65 ≤ a0) = false:=decide_eq_false c4;clear c4;obtain rfl:=Option.some.inj H;go_enter Tryz.func81,Tryz.ntmps81
       go_wp2
       go_ret
       exact ⟨by first|rfl|(simp;done)|(simp [*];done),by repeat (first|exact bH.refl _|apply bH.step)⟩
 · rw [if_neg c2] at H;have uQ : decide (97 ≤ a0) = false:=decide_eq_false c2;clear c2;by_cases c6 : a0 ≥ 65
   · rw [if_pos c6] at H;have qm : decide (65 ≤ a0) = true:=decide_eq_true c6;clear c6;by_cases c7 : a0 ≤ 90
     · rw [if_pos c7] at H;have xJ:=decide_eq_true c7;clear c7;obtain rfl:=Option.some.inj H;go_enter Tryz.func81,Tryz.ntmps81
       go_wp2
       go_ret
       exact ⟨by first|rfl|(simp;done)|(simp [*];done),by repeat (first|exact bH.refl _|apply bH.step)⟩
     · rw [if_neg c7] at H;have xJ:=decide_eq_false c7;clear c7;obtain rfl:=Option.some.inj H;go_enter Tryz.func81,Tryz.ntmps81
       go_wp2
       go_ret
       exact ⟨by first|rfl|(simp;done)|(simp [*];done),by repeat (first|exact bH.refl _|apply bH.step)⟩
   · rw [if_neg c6] at H;have qm : decide (65 ≤ a0) = false:=decide_eq_false c6;clear c6;obtain rfl:=Option.some.inj H;go_enter Tryz.func81,Tryz.ntmps81
     go_wp2
     go_ret
     exact ⟨by first|rfl|(simp;done)|(simp [*];done),by repeat (first|exact bH.refl _|apply bH.step)⟩
attribute [local go_sem] fM fO gI gJ fD fE fP fQ
def iw.f (a0 : Int) : Option (Bool):=if a0 ≥ 48 then (some (decide (a0 ≤ 57))) else (some false)
theorem iw.calls (a0 : Int) (r : Bool) (w : World) (h : iw.f a0 = some r) :
 Calls Tryz.prog 82 #[.int .u8 a0] w fun e w' => e = .returned (.bool r) ∧ bH w w' := by
 have H : (if a0 ≥ 48 then (some (decide (a0 ≤ 57))) else (some false)) = some r:=h;clear h;by_cases c2 : a0 ≥ 48
 · rw [if_pos c2] at H;have uQ : decide (48 ≤ a0) = true:=decide_eq_true c2;clear c2;obtain rfl:=Option.some.inj H;go_enter Tryz.func82,Tryz.ntmps82
   go_wp2
   go_ret
   exact ⟨by first|rfl|(simp;done)|(simp [*];done),by repeat (first|exact bH.refl _|apply bH.step)⟩
 · rw [if_neg c2] at H;have uQ : decide (48 ≤ a0) = false:=decide_eq_false c2;clear c2;obtain rfl:=Option.some.inj H;go_enter Tryz.func82,Tryz.ntmps82
   go_wp2
   go_ret
   exact ⟨by first|rfl|(simp;done)|(simp [*];done),by repeat (first|exact bH.refl _|apply bH.step)⟩
attribute [local go_sem] fM fO gI gJ fD fE fP fQ
def bg.l0 : Nat → ByteArray → Int → Option (Bool)
 | 0,_,_ => none
 | k + 1,x0,x3 => if x3 < (x0.size : Int) then (if 0 ≤ x3 then ((ig.f (bt x0 x3)).bind fun t107 => (if t107 = true then (bg.l0 k x0 (wrap64 (x3 + 1))) else (if x3 = 0 then (some false) else ((iw.f (bt x0 x3)).bind fun sQ => (if sQ = true then (bg.l0 k x0 (wrap64 (x3 + 1))) else (some false)))))) else (none)) else (some (x0.toList != ([] : List UInt8)))
def bg.f (k : Nat) (a0 : ByteArray) : Option (Bool):=bg.l0 k a0 0
theorem bg.gB : ∀ k,(∀ y0 y1,dM (bg.l0 k y0 y1) (bg.l0 (k + 1) y0 y1))
 | 0 => fun _ _ r h => by simp [bg.l0] at h
 | k + 1 => by
  have kT:=bg.gB k
  · intro y0 y1;unfold bg.l0
    repeat' first
    | (with_reducible exact kT _ _)
    | (with_reducible exact dM.refl _)
    | (with_reducible exact dM.none _)
    | (with_reducible refine dM.ite ?_ ?_)
    | (with_reducible refine dM.bind ?_ (fun _ => ?_))
    | exact kT _ _
    | exact dM.none _
    | refine dM.ite ?_ ?_
    | refine dM.bind ?_ (fun _ => ?_)
theorem bg.mono : ∀ a0 k,dM (bg.f k a0) (bg.f (k + 1) a0):=by
 intro a0 k;have kT:=bg.gB k;unfold bg.f
 repeat' first
  | (with_reducible exact kT _ _)
  | (with_reducible exact dM.refl _)
  | (with_reducible exact dM.none _)
  | (with_reducible refine dM.ite ?_ ?_)
  | (with_reducible refine dM.bind ?_ (fun _ => ?_))
  | exact kT _ _
  | exact dM.none _
  | refine dM.ite ?_ ?_
  | refine dM.bind ?_ (fun _ => ?_)
theorem bg.calls (k : Nat) (a0 : ByteArray) (r : Bool) (w : World) (h : bg.f k a0 = some r) :
 Calls Tryz.prog 47 #[.string a0] w fun e w' => e = .returned (.bool r) ∧ bH w w' := by
 have H : (bg.l0 k a0 0) = some r:=h;clear h;have H' := Am H;clear H;go_enter Tryz.func47,Tryz.ntmps47
 go_wp2
 go_loopg [3] k (fun kq v3 w' => ∃ (fA : Int),v3 = .int .i64 fA ∧ ah (bg.l0 kq a0 fA = some r) ∧ ah (kq ≤ k) ∧ bH w w')
 case atStart => exact ⟨(0),YF,H',⟨Nat.le_refl _⟩,by repeat (first|exact bH.refl _|apply bH.step)⟩
 case round =>
  clear H';obtain ⟨fA,rfl,HA,jm,⟨m1,rfl⟩⟩:=hrel;cases gk with
  | zero => exact absurd HA.out (by simp [bg.l0])
  | succ k1 =>
   have H:=HA.out;clear HA;simp only [bg.l0] at H;by_cases c2 : fA < (a0.size : Int)
   · rw [if_pos c2] at H;have uQ:=decide_eq_true c2;clear c2;by_cases c3 : 0 ≤ fA
     · rw [if_pos c3] at H;have ni:=decide_eq_true c3;clear c3;replace H:=Option.bind_eq_some_iff.mp H;obtain ⟨t107,O7,H⟩:=H;replace H : (if t107 = true then (bg.l0 k1 a0 (wrap64 (fA + 1))) else (if fA = 0 then (some false) else ((iw.f (bt a0 fA)).bind fun sQ => (if sQ = true then (bg.l0 k1 a0 (wrap64 (fA + 1))) else (some false))))) = some r:=H;have A5:=Am O7;clear O7;by_cases c6 : t107 = true
       · subst c6;have H1 : (bg.l0 k1 a0 (wrap64 (fA + 1))) = some r:=by rw [if_pos rfl] at H;exact H
         clear H;have H:=H1;clear H1;have H' := Am H;clear H;have p4 : 0 ≤ (fA : Int):=YA;have q4 : fA < (a0.size : Int):=YA;have hx4:=kY a0 fA;replace p4:=eq_true p4;replace q4:=eq_true q4;go_wp2_with (first|((with_reducible refine dh (f:=81) rfl ?_);refine gy (some 13) rfl rfl Tryz.func81 (by kernel_rfl) rfl #[.int .u8 (bt a0 fA)] rfl (by (try simp only [List.map_toArray,List.map_cons,List.map_nil]);first|done|rfl|(simp only [List.length_drop,List.length_take];rfl)) ?_;(with_reducible refine (ig.calls (bt a0 fA) true _ A5.out).mono ?_);rintro e w' ⟨rfl,⟨nd,rfl⟩⟩;refine ⟨_,rfl,?_⟩))
         go_roundg k1
         case measure => have:=jm.out;omega
         case rel => exact ⟨(wrap64 (fA + 1)),YF,H',⟨by have:=jm.out;omega⟩,by repeat (first|exact bH.refl _|apply bH.step)⟩
       · replace c6:=Bool.eq_false_iff.mpr c6;subst c6;have H1 : (if fA = 0 then (some false) else ((iw.f (bt a0 fA)).bind fun sQ => (if sQ = true then (bg.l0 k1 a0 (wrap64 (fA + 1))) else (some false)))) = some r:=by rw [if_neg (show ¬ (false = true) by decide)] at H;exact H
         clear H;have H:=H1;clear H1;by_cases c7 : fA = 0
         · rw [if_pos c7] at H;have xJ : (fA == 0) = true:=beq_iff_eq.mpr c7;have JU : (fA != 0) = false:=bne_eq_false_iff_eq.mpr c7;clear c7;obtain rfl:=Option.some.inj H;have p4 : 0 ≤ (fA : Int):=YA;have q4 : fA < (a0.size : Int):=YA;have hx4:=kY a0 fA;replace p4:=eq_true p4;replace q4:=eq_true q4;go_wp2_with (first|((with_reducible refine dh (f:=81) rfl ?_);refine gy (some 13) rfl rfl Tryz.func81 (by kernel_rfl) rfl #[.int .u8 (bt a0 fA)] rfl (by (try simp only [List.map_toArray,List.map_cons,List.map_nil]);first|done|rfl|(simp only [List.length_drop,List.length_take];rfl)) ?_;(with_reducible refine (ig.calls (bt a0 fA) false _ A5.out).mono ?_);rintro e w' ⟨rfl,⟨nd,rfl⟩⟩;refine ⟨_,rfl,?_⟩))
           go_ret
           exact ⟨by first|rfl|(simp;done)|(simp [*];done),by repeat (first|exact bH.refl _|apply bH.step)⟩
         · rw [if_neg c7] at H;have xJ : (fA == 0) = false:=beq_eq_false_iff_ne.mpr c7;have JU : (fA != 0) = true:=bne_iff_ne.mpr c7;replace H:=Option.bind_eq_some_iff.mp H;obtain ⟨sQ,A90,H⟩:=H;replace H : (if sQ = true then (bg.l0 k1 a0 (wrap64 (fA + 1))) else (some false)) = some r:=H;have A9:=Am A90;clear A90;by_cases c10 : sQ = true
           · subst c10;have H1 : (bg.l0 k1 a0 (wrap64 (fA + 1))) = some r:=by rw [if_pos rfl] at H;exact H
             clear H;have H:=H1;clear H1;have H' := Am H;clear H;have p4 : 0 ≤ (fA : Int):=YA;have q4 : fA < (a0.size : Int):=YA;have hx4:=kY a0 fA;replace p4:=eq_true p4;replace q4:=eq_true q4;go_wp2_with (first|((with_reducible refine dh (f:=81) rfl ?_);refine gy (some 13) rfl rfl Tryz.func81 (by kernel_rfl) rfl #[.int .u8 (bt a0 fA)] rfl (by (try simp only [List.map_toArray,List.map_cons,List.map_nil]);first|done|rfl|(simp only [List.length_drop,List.length_take];rfl)) ?_;(with_reducible refine (ig.calls (bt a0 fA) false _ A5.out).mono ?_);rintro e w' ⟨rfl,⟨nd,rfl⟩⟩;refine ⟨_,rfl,?_⟩;have p8 : 0 ≤ (fA : Int):=YA;have q8 : fA < (a0.size : Int):=YA;have hx8:=kY a0 fA;replace p8:=eq_true p8;replace q8:=eq_true q8)|(go_at_call 82;(with_reducible refine (iw.calls (bt a0 fA) true _ A9.out).mono ?_);rintro e w' ⟨rfl,⟨nd,rfl⟩⟩))
             go_roundg k1
             case measure => have:=jm.out;omega
             case rel => exact ⟨(wrap64 (fA + 1)),YF,H',⟨by have:=jm.out;omega⟩,by repeat (first|exact bH.refl _|apply bH.step)⟩
           · replace c10:=Bool.eq_false_iff.mpr c10;subst c10;have H1 : (some false) = some r:=by rw [if_neg (show ¬ (false = true) by decide)] at H;exact H
             clear H;have H:=H1;clear H1;obtain rfl:=Option.some.inj H;have p4 : 0 ≤ (fA : Int):=YA;have q4 : fA < (a0.size : Int):=YA;have hx4:=kY a0 fA;replace p4:=eq_true p4;replace q4:=eq_true q4;go_wp2_with (first|((with_reducible refine dh (f:=81) rfl ?_);refine gy (some 13) rfl rfl Tryz.func81 (by kernel_rfl) rfl #[.int .u8 (bt a0 fA)] rfl (by (try simp only [List.map_toArray,List.map_cons,List.map_nil]);first|done|rfl|(simp only [List.length_drop,List.length_take];rfl)) ?_;(with_reducible refine (ig.calls (bt a0 fA) false _ A5.out).mono ?_);rintro e w' ⟨rfl,⟨nd,rfl⟩⟩;refine ⟨_,rfl,?_⟩;have p8 : 0 ≤ (fA : Int):=YA;have q8 : fA < (a0.size : Int):=YA;have hx8:=kY a0 fA;replace p8:=eq_true p8;replace q8:=eq_true q8)|(go_at_call 82;(with_reducible refine (iw.calls (bt a0 fA) false _ A9.out).mono ?_);rintro e w' ⟨rfl,⟨nd,rfl⟩⟩))
             go_ret
             exact ⟨by first|rfl|(simp;done)|(simp [*];done),by repeat (first|exact bH.refl _|apply bH.step)⟩
     · rw [if_neg c3] at H;exact absurd H (by simp)
   · rw [if_neg c2] at H;have uQ:=decide_eq_false c2;clear c2;obtain rfl:=Option.some.inj H;go_wp2
     go_ret
     exact ⟨by first|rfl|(cases h_ : a0.toList <;> rfl),by repeat (first|exact bH.refl _|apply bH.step)⟩
attribute [local go_sem] fM fO gI gJ fD fE fP fQ
def bC.l0 : Nat → ByteArray → Int → Option (Bool)
 | 0,_,_ => none
 | k + 1,x0,x3 => if (wrap64 ((wrap64 (x3 + (x0.size : Int))) + 2)) ≤ 93 then (if 0 ≤ x3 then (if x3 < 93 then (if (bt (⟨#[32,98,114,101,97,107,32,99,104,97,114,32,99,111,110,116,105,110,117,101,32,100,111,32,101,108,115,101,32,102,111,114,32,103,101,116,98,121,116,101,32,105,102,32,105,110,116,32,112,117,116,98,121,116,101,32,114,101,116,117,114,110,32,115,105,122,101,111,102,32,115,116,114,117,99,116,32,117,105,110,116,32,118,111,105,100,32,119,104,105,108,101,32]⟩ : ByteArray) x3) = 32 then (if 0 ≤ (wrap64 (x3 + 1)) then (if (wrap64 (x3 + 1)) ≤ (wrap64 ((wrap64 (x3 + 1)) + (x0.size : Int))) then (if (wrap64 ((wrap64 (x3 + 1)) + (x0.size : Int))) ≤ 93 then (if ((⟨#[32,98,114,101,97,107,32,99,104,97,114,32,99,111,110,116,105,110,117,101,32,100,111,32,101,108,115,101,32,102,111,114,32,103,101,116,98,121,116,101,32,105,102,32,105,110,116,32,112,117,116,98,121,116,101,32,114,101,116,117,114,110,32,115,105,122,101,111,102,32,115,116,114,117,99,116,32,117,105,110,116,32,118,111,105,100,32,119,104,105,108,101,32]⟩ : ByteArray).extract ((wrap64 (x3 + 1)) : Int).toNat ((wrap64 ((wrap64 (x3 + 1)) + (x0.size : Int))) : Int).toNat).toList = x0.toList then (if 0 ≤ (wrap64 ((wrap64 (x3 + 1)) + (x0.size : Int))) then (if (wrap64 ((wrap64 (x3 + 1)) + (x0.size : Int))) < 93 then (if (bt (⟨#[32,98,114,101,97,107,32,99,104,97,114,32,99,111,110,116,105,110,117,101,32,100,111,32,101,108,115,101,32,102,111,114,32,103,101,116,98,121,116,101,32,105,102,32,105,110,116,32,112,117,116,98,121,116,101,32,114,101,116,117,114,110,32,115,105,122,101,111,102,32,115,116,114,117,99,116,32,117,105,110,116,32,118,111,105,100,32,119,104,105,108,101,32]⟩ : ByteArray) (wrap64 ((wrap64 (x3 + 1)) + (x0.size : Int)))) = 32 then (some true) else (bC.l0 k x0 (wrap64 (x3 + 1)))) else (none)) else (none)) else (bC.l0 k x0 (wrap64 (x3 + 1)))) else (none)) else (none)) else (none)) else (bC.l0 k x0 (wrap64 (x3 + 1)))) else (none)) else (none)) else (some false)
def bC.f (k : Nat) (a0 : ByteArray) : Option (Bool):=(bg.f k a0).bind fun t109 => (if t109 = true then (bC.l0 k a0 0) else (some false))
theorem bC.gB : ∀ k,(∀ y0 y1,dM (bC.l0 k y0 y1) (bC.l0 (k + 1) y0 y1))
 | 0 => fun _ _ r h => by simp [bC.l0] at h
 | k + 1 => by
  have kT:=bC.gB k
  · intro y0 y1;unfold bC.l0
    repeat' first
    | (with_reducible exact kT _ _)
    | (with_reducible exact bg.mono _ _)
    | (with_reducible exact dM.refl _)
    | (with_reducible exact dM.none _)
    | (with_reducible refine dM.ite ?_ ?_)
    | (with_reducible refine dM.bind ?_ (fun _ => ?_))
    | exact kT _ _
    | exact bg.mono _ _
    | exact dM.none _
    | refine dM.ite ?_ ?_
    | refine dM.bind ?_ (fun _ => ?_)
theorem bC.mono : ∀ a0 k,dM (bC.f k a0) (bC.f (k + 1) a0):=by
 intro a0 k;have kT:=bC.gB k;unfold bC.f
 repeat' first
  | (with_reducible exact kT _ _)
  | (with_reducible exact bg.mono _ _)
  | (with_reducible exact dM.refl _)
  | (with_reducible exact dM.none _)
  | (with_reducible refine dM.ite ?_ ?_)
  | (with_reducible refine dM.bind ?_ (fun _ => ?_))
  | exact kT _ _
  | exact bg.mono _ _
  | exact dM.none _
  | refine dM.ite ?_ ?_
  | refine dM.bind ?_ (fun _ => ?_)
theorem bC.calls (k : Nat) (a0 : ByteArray) (r : Bool) (w : World) (h : bC.f k a0 = some r) :
 Calls Tryz.prog 48 #[.string a0] w fun e w' => e = .returned (.bool r) ∧ bH w w' := by
 have H : ((bg.f k a0).bind fun t109 => (if t109 = true then (bC.l0 k a0 0) else (some false))) = some r:=h;clear h;replace H:=Option.bind_eq_some_iff.mp H;obtain ⟨t109,xY,H⟩:=H;replace H : (if t109 = true then (bC.l0 k a0 0) else (some false)) = some r:=H;have A2:=Am xY;clear xY;by_cases c3 : t109 = true
 · subst c3;have H1 : (bC.l0 k a0 0) = some r:=by rw [if_pos rfl] at H;exact H
   clear H;have H:=H1;clear H1;have H' := Am H;clear H;go_enter Tryz.func48,Tryz.ntmps48
   go_wp2_with (first|((with_reducible refine dh (f:=47) rfl ?_);refine gy (some 5) rfl rfl Tryz.func47 (by kernel_rfl) rfl #[.string a0] rfl (by (try simp only [List.map_toArray,List.map_cons,List.map_nil]);first|done|rfl|(simp only [List.length_drop,List.length_take];rfl)) ?_;(with_reducible refine (bg.calls k a0 true _ A2.out).mono ?_);rintro e w' ⟨rfl,⟨nd,rfl⟩⟩;refine ⟨_,rfl,?_⟩))
   go_loopg [3] k (fun kq v3 w' => ∃ (fA : Int),v3 = .int .i64 fA ∧ ah (bC.l0 kq a0 fA = some r) ∧ ah (kq ≤ k) ∧ bH w w')
   case atStart => exact ⟨(0),YF,H',⟨Nat.le_refl _⟩,by repeat (first|exact bH.refl _|apply bH.step)⟩
   case round =>
    clear H';try clear c3
    obtain ⟨fA,rfl,HA,jm,⟨m1,rfl⟩⟩:=hrel;cases gk with
    | zero => exact absurd HA.out (by simp [bC.l0])
    | succ k1 =>
     have H:=HA.out;clear HA;simp only [bC.l0] at H;by_cases c4 : (wrap64 ((wrap64 (fA + (a0.size : Int))) + 2)) ≤ 93
     · rw [if_pos c4] at H;have tC:=decide_eq_true c4;clear c4;by_cases c5 : 0 ≤ fA
       · rw [if_pos c5] at H;have sK:=decide_eq_true c5;clear c5;by_cases c6 : fA < 93
         · rw [if_pos c6] at H;have qm:=decide_eq_true c6;clear c6;by_cases c8 : (bt (⟨#[32,98,114,101,97,107,32,99,104,97,114,32,99,111,110,116,105,110,117,101,32,100,111,32,101,108,115,101,32,102,111,114,32,103,101,116,98,121,116,101,32,105,102,32,105,110,116,32,112,117,116,98,121,116,101,32,114,101,116,117,114,110,32,115,105,122,101,111,102,32,115,116,114,117,99,116,32,117,105,110,116,32,118,111,105,100,32,119,104,105,108,101,32]⟩ : ByteArray) fA) = 32
           · rw [if_pos c8] at H;have wo : ((bt (⟨#[32,98,114,101,97,107,32,99,104,97,114,32,99,111,110,116,105,110,117,101,32,100,111,32,101,108,115,101,32,102,111,114,32,103,101,116,98,121,116,101,32,105,102,32,105,110,116,32,112,117,116,98,121,116,101,32,114,101,116,117,114,110,32,115,105,122,101,111,102,32,115,116,114,117,99,116,32,117,105,110,116,32,118,111,105,100,32,119,104,105,108,101,32]⟩ : ByteArray) fA) == 32) = true:=beq_iff_eq.mpr c8;have QY : ((bt (⟨#[32,98,114,101,97,107,32,99,104,97,114,32,99,111,110,116,105,110,117,101,32,100,111,32,101,108,115,101,32,102,111,114,32,103,101,116,98,121,116,101,32,105,102,32,105,110,116,32,112,117,116,98,121,116,101,32,114,101,116,117,114,110,32,115,105,122,101,111,102,32,115,116,114,117,99,116,32,117,105,110,116,32,118,111,105,100,32,119,104,105,108,101,32]⟩ : ByteArray) fA) != 32) = false:=bne_eq_false_iff_eq.mpr c8;clear c8;obtain ⟨yc,Q5⟩ : ∃ j_ : Int,(wrap64 (fA + 1)) = j_:=⟨_,rfl⟩
             replace H : (if 0 ≤ (yc) then (if (yc) ≤ (wrap64 ((yc) + (a0.size : Int))) then (if (wrap64 ((yc) + (a0.size : Int))) ≤ 93 then (if ((⟨#[32,98,114,101,97,107,32,99,104,97,114,32,99,111,110,116,105,110,117,101,32,100,111,32,101,108,115,101,32,102,111,114,32,103,101,116,98,121,116,101,32,105,102,32,105,110,116,32,112,117,116,98,121,116,101,32,114,101,116,117,114,110,32,115,105,122,101,111,102,32,115,116,114,117,99,116,32,117,105,110,116,32,118,111,105,100,32,119,104,105,108,101,32]⟩ : ByteArray).extract ((yc) : Int).toNat ((wrap64 ((yc) + (a0.size : Int))) : Int).toNat).toList = a0.toList then (if 0 ≤ (wrap64 ((yc) + (a0.size : Int))) then (if (wrap64 ((yc) + (a0.size : Int))) < 93 then (if (bt (⟨#[32,98,114,101,97,107,32,99,104,97,114,32,99,111,110,116,105,110,117,101,32,100,111,32,101,108,115,101,32,102,111,114,32,103,101,116,98,121,116,101,32,105,102,32,105,110,116,32,112,117,116,98,121,116,101,32,114,101,116,117,114,110,32,115,105,122,101,111,102,32,115,116,114,117,99,116,32,117,105,110,116,32,118,111,105,100,32,119,104,105,108,101,32]⟩ : ByteArray) (wrap64 ((yc) + (a0.size : Int)))) = 32 then (some true) else (bC.l0 k1 a0 yc)) else (none)) else (none)) else (bC.l0 k1 a0 yc)) else (none)) else (none)) else (none)) = some r:=by first|(rw [Q5] at H;exact H)|(simp only [Q5] at H ⊢;exact H)
             have hji9w : (IntKind.i64.wrap (fA + 1)) = yc:=(bW _).trans Q5;by_cases c10 : 0 ≤ (yc)
             · rw [if_pos c10] at H;have Bo:=eq_true c10;have c10b1:=decide_eq_true c10;clear c10;by_cases c11 : (yc) ≤ (wrap64 ((yc) + (a0.size : Int)))
               · rw [if_pos c11] at H;have vT:=eq_true c11;have JX:=decide_eq_true c11;by_cases c12 : (wrap64 ((yc) + (a0.size : Int))) ≤ 93
                 · rw [if_pos c12] at H;have JW:=eq_true c12;have c12b1:=decide_eq_true c12;by_cases c13 : ((⟨#[32,98,114,101,97,107,32,99,104,97,114,32,99,111,110,116,105,110,117,101,32,100,111,32,101,108,115,101,32,102,111,114,32,103,101,116,98,121,116,101,32,105,102,32,105,110,116,32,112,117,116,98,121,116,101,32,114,101,116,117,114,110,32,115,105,122,101,111,102,32,115,116,114,117,99,116,32,117,105,110,116,32,118,111,105,100,32,119,104,105,108,101,32]⟩ : ByteArray).extract ((yc) : Int).toNat ((wrap64 ((yc) + (a0.size : Int))) : Int).toNat).toList = a0.toList
                   · rw [if_pos c13] at H;have O5 : (((⟨#[32,98,114,101,97,107,32,99,104,97,114,32,99,111,110,116,105,110,117,101,32,100,111,32,101,108,115,101,32,102,111,114,32,103,101,116,98,121,116,101,32,105,102,32,105,110,116,32,112,117,116,98,121,116,101,32,114,101,116,117,114,110,32,115,105,122,101,111,102,32,115,116,114,117,99,116,32,117,105,110,116,32,118,111,105,100,32,119,104,105,108,101,32]⟩ : ByteArray).extract ((yc) : Int).toNat ((wrap64 ((yc) + (a0.size : Int))) : Int).toNat).toList == a0.toList) = true:=beq_iff_eq.mpr c13;have c13b1 : (((⟨#[32,98,114,101,97,107,32,99,104,97,114,32,99,111,110,116,105,110,117,101,32,100,111,32,101,108,115,101,32,102,111,114,32,103,101,116,98,121,116,101,32,105,102,32,105,110,116,32,112,117,116,98,121,116,101,32,114,101,116,117,114,110,32,115,105,122,101,111,102,32,115,116,114,117,99,116,32,117,105,110,116,32,118,111,105,100,32,119,104,105,108,101,32]⟩ : ByteArray).extract ((yc) : Int).toNat ((wrap64 ((yc) + (a0.size : Int))) : Int).toNat).toList != a0.toList) = false:=bne_eq_false_iff_eq.mpr c13;clear c13;obtain ⟨wK,vU⟩ : ∃ j_ : Int,(wrap64 ((yc) + (a0.size : Int))) = j_:=⟨_,rfl⟩
                     replace H : (if 0 ≤ (wK) then (if (wK) < 93 then (if (bt (⟨#[32,98,114,101,97,107,32,99,104,97,114,32,99,111,110,116,105,110,117,101,32,100,111,32,101,108,115,101,32,102,111,114,32,103,101,116,98,121,116,101,32,105,102,32,105,110,116,32,112,117,116,98,121,116,101,32,114,101,116,117,114,110,32,115,105,122,101,111,102,32,115,116,114,117,99,116,32,117,105,110,116,32,118,111,105,100,32,119,104,105,108,101,32]⟩ : ByteArray) (wK)) = 32 then (some true) else (bC.l0 k1 a0 yc)) else (none)) else (none)) = some r:=by first|(rw [vU] at H;exact H)|(simp only [vU] at H ⊢;exact H)
                     (try rw [vU] at vT);(try rw [vU] at JX);(try rw [vU] at c11);(try rw [vU] at JW);(try rw [vU] at c12b1);(try rw [vU] at c12);(try rw [vU] at O5);(try rw [vU] at c13b1);have hji14w : (IntKind.i64.wrap ((yc) + (a0.size : Int))) = wK:=(bW _).trans vU;by_cases c15 : 0 ≤ (wK)
                     · rw [if_pos c15] at H;have DR:=decide_eq_true c15;clear c15;by_cases c16 : (wK) < 93
                       · rw [if_pos c16] at H;have Bq:=decide_eq_true c16;clear c16;by_cases c18 : (bt (⟨#[32,98,114,101,97,107,32,99,104,97,114,32,99,111,110,116,105,110,117,101,32,100,111,32,101,108,115,101,32,102,111,114,32,103,101,116,98,121,116,101,32,105,102,32,105,110,116,32,112,117,116,98,121,116,101,32,114,101,116,117,114,110,32,115,105,122,101,111,102,32,115,116,114,117,99,116,32,117,105,110,116,32,118,111,105,100,32,119,104,105,108,101,32]⟩ : ByteArray) (wK)) = 32
                         · rw [if_pos c18] at H;have JY : ((bt (⟨#[32,98,114,101,97,107,32,99,104,97,114,32,99,111,110,116,105,110,117,101,32,100,111,32,101,108,115,101,32,102,111,114,32,103,101,116,98,121,116,101,32,105,102,32,105,110,116,32,112,117,116,98,121,116,101,32,114,101,116,117,114,110,32,115,105,122,101,111,102,32,115,116,114,117,99,116,32,117,105,110,116,32,118,111,105,100,32,119,104,105,108,101,32]⟩ : ByteArray) (wK)) == 32) = true:=beq_iff_eq.mpr c18;have c18b1 : ((bt (⟨#[32,98,114,101,97,107,32,99,104,97,114,32,99,111,110,116,105,110,117,101,32,100,111,32,101,108,115,101,32,102,111,114,32,103,101,116,98,121,116,101,32,105,102,32,105,110,116,32,112,117,116,98,121,116,101,32,114,101,116,117,114,110,32,115,105,122,101,111,102,32,115,116,114,117,99,116,32,117,105,110,116,32,118,111,105,100,32,119,104,105,108,101,32]⟩ : ByteArray) (wK)) != 32) = false:=bne_eq_false_iff_eq.mpr c18;clear c18;obtain rfl:=Option.some.inj H;have p7 : 0 ≤ (fA : Int):=YA;have q7 : fA < (93 : Int):=YA;have hx7:=kY (⟨#[32,98,114,101,97,107,32,99,104,97,114,32,99,111,110,116,105,110,117,101,32,100,111,32,101,108,115,101,32,102,111,114,32,103,101,116,98,121,116,101,32,105,102,32,105,110,116,32,112,117,116,98,121,116,101,32,114,101,116,117,114,110,32,115,105,122,101,111,102,32,115,116,114,117,99,116,32,117,105,110,116,32,118,111,105,100,32,119,104,105,108,101,32]⟩ : ByteArray) fA;replace p7:=eq_true p7;replace q7:=eq_true q7;have p17 : 0 ≤ ((wK) : Int):=YA;have q17 : (wK) < (93 : Int):=YA;have hx17:=kY (⟨#[32,98,114,101,97,107,32,99,104,97,114,32,99,111,110,116,105,110,117,101,32,100,111,32,101,108,115,101,32,102,111,114,32,103,101,116,98,121,116,101,32,105,102,32,105,110,116,32,112,117,116,98,121,116,101,32,114,101,116,117,114,110,32,115,105,122,101,111,102,32,115,116,114,117,99,116,32,117,105,110,116,32,118,111,105,100,32,119,104,105,108,101,32]⟩ : ByteArray) (wK);replace p17:=eq_true p17;replace q17:=eq_true q17;go_wp2
                           go_ret
                           exact ⟨by first|rfl|(simp;done)|(simp only [← Q5,← vU] <;> (first|rfl|simp))|(simp [*];done),by repeat (first|exact bH.refl _|apply bH.step)⟩
                         · rw [if_neg c18] at H;have JY : ((bt (⟨#[32,98,114,101,97,107,32,99,104,97,114,32,99,111,110,116,105,110,117,101,32,100,111,32,101,108,115,101,32,102,111,114,32,103,101,116,98,121,116,101,32,105,102,32,105,110,116,32,112,117,116,98,121,116,101,32,114,101,116,117,114,110,32,115,105,122,101,111,102,32,115,116,114,117,99,116,32,117,105,110,116,32,118,111,105,100,32,119,104,105,108,101,32]⟩ : ByteArray) (wK)) == 32) = false:=beq_eq_false_iff_ne.mpr c18;have c18b1 : ((bt (⟨#[32,98,114,101,97,107,32,99,104,97,114,32,99,111,110,116,105,110,117,101,32,100,111,32,101,108,115,101,32,102,111,114,32,103,101,116,98,121,116,101,32,105,102,32,105,110,116,32,112,117,116,98,121,116,101,32,114,101,116,117,114,110,32,115,105,122,101,111,102,32,115,116,114,117,99,116,32,117,105,110,116,32,118,111,105,100,32,119,104,105,108,101,32]⟩ : ByteArray) (wK)) != 32) = true:=bne_iff_ne.mpr c18;have H' := Am H;clear H;have p7 : 0 ≤ (fA : Int):=YA;have q7 : fA < (93 : Int):=YA;have hx7:=kY (⟨#[32,98,114,101,97,107,32,99,104,97,114,32,99,111,110,116,105,110,117,101,32,100,111,32,101,108,115,101,32,102,111,114,32,103,101,116,98,121,116,101,32,105,102,32,105,110,116,32,112,117,116,98,121,116,101,32,114,101,116,117,114,110,32,115,105,122,101,111,102,32,115,116,114,117,99,116,32,117,105,110,116,32,118,111,105,100,32,119,104,105,108,101,32]⟩ : ByteArray) fA;replace p7:=eq_true p7;replace q7:=eq_true q7;have p17 : 0 ≤ ((wK) : Int):=YA;have q17 : (wK) < (93 : Int):=YA;have hx17:=kY (⟨#[32,98,114,101,97,107,32,99,104,97,114,32,99,111,110,116,105,110,117,101,32,100,111,32,101,108,115,101,32,102,111,114,32,103,101,116,98,121,116,101,32,105,102,32,105,110,116,32,112,117,116,98,121,116,101,32,114,101,116,117,114,110,32,115,105,122,101,111,102,32,115,116,114,117,99,116,32,117,105,110,116,32,118,111,105,100,32,119,104,105,108,101,32]⟩ : ByteArray) (wK);replace p17:=eq_true p17;replace q17:=eq_true q17;go_wp2
                           go_roundg k1
                           case measure => have:=jm.out;omega
                           case rel => exact ⟨(yc),(by first|rfl|(simp;done)|(simp only [← Q5] <;> (first|rfl|simp))|(simp [*];done)),H',⟨by have:=jm.out;omega⟩,by repeat (first|exact bH.refl _|apply bH.step)⟩
                       · rw [if_neg c16] at H;exact absurd H (by simp)
                     · rw [if_neg c15] at H;exact absurd H (by simp)
                   · rw [if_neg c13] at H;have O5 : (((⟨#[32,98,114,101,97,107,32,99,104,97,114,32,99,111,110,116,105,110,117,101,32,100,111,32,101,108,115,101,32,102,111,114,32,103,101,116,98,121,116,101,32,105,102,32,105,110,116,32,112,117,116,98,121,116,101,32,114,101,116,117,114,110,32,115,105,122,101,111,102,32,115,116,114,117,99,116,32,117,105,110,116,32,118,111,105,100,32,119,104,105,108,101,32]⟩ : ByteArray).extract ((yc) : Int).toNat ((wrap64 ((yc) + (a0.size : Int))) : Int).toNat).toList == a0.toList) = false:=beq_eq_false_iff_ne.mpr c13;have c13b1 : (((⟨#[32,98,114,101,97,107,32,99,104,97,114,32,99,111,110,116,105,110,117,101,32,100,111,32,101,108,115,101,32,102,111,114,32,103,101,116,98,121,116,101,32,105,102,32,105,110,116,32,112,117,116,98,121,116,101,32,114,101,116,117,114,110,32,115,105,122,101,111,102,32,115,116,114,117,99,116,32,117,105,110,116,32,118,111,105,100,32,119,104,105,108,101,32]⟩ : ByteArray).extract ((yc) : Int).toNat ((wrap64 ((yc) + (a0.size : Int))) : Int).toNat).toList != a0.toList) = true:=bne_iff_ne.mpr c13;have H' := Am H;clear H;have p7 : 0 ≤ (fA : Int):=YA;have q7 : fA < (93 : Int):=YA;have hx7:=kY (⟨#[32,98,114,101,97,107,32,99,104,97,114,32,99,111,110,116,105,110,117,101,32,100,111,32,101,108,115,101,32,102,111,114,32,103,101,116,98,121,116,101,32,105,102,32,105,110,116,32,112,117,116,98,121,116,101,32,114,101,116,117,114,110,32,115,105,122,101,111,102,32,115,116,114,117,99,116,32,117,105,110,116,32,118,111,105,100,32,119,104,105,108,101,32]⟩ : ByteArray) fA;replace p7:=eq_true p7;replace q7:=eq_true q7;go_wp2
                     go_roundg k1
                     case measure => have:=jm.out;omega
                     case rel => exact ⟨(yc),(by first|rfl|(simp;done)|(simp only [← Q5] <;> (first|rfl|simp))|(simp [*];done)),H',⟨by have:=jm.out;omega⟩,by repeat (first|exact bH.refl _|apply bH.step)⟩
                 · rw [if_neg c12] at H;exact absurd H (by simp)
               · rw [if_neg c11] at H;exact absurd H (by simp)
             · rw [if_neg c10] at H;exact absurd H (by simp)
           · rw [if_neg c8] at H;have wo : ((bt (⟨#[32,98,114,101,97,107,32,99,104,97,114,32,99,111,110,116,105,110,117,101,32,100,111,32,101,108,115,101,32,102,111,114,32,103,101,116,98,121,116,101,32,105,102,32,105,110,116,32,112,117,116,98,121,116,101,32,114,101,116,117,114,110,32,115,105,122,101,111,102,32,115,116,114,117,99,116,32,117,105,110,116,32,118,111,105,100,32,119,104,105,108,101,32]⟩ : ByteArray) fA) == 32) = false:=beq_eq_false_iff_ne.mpr c8;have QY : ((bt (⟨#[32,98,114,101,97,107,32,99,104,97,114,32,99,111,110,116,105,110,117,101,32,100,111,32,101,108,115,101,32,102,111,114,32,103,101,116,98,121,116,101,32,105,102,32,105,110,116,32,112,117,116,98,121,116,101,32,114,101,116,117,114,110,32,115,105,122,101,111,102,32,115,116,114,117,99,116,32,117,105,110,116,32,118,111,105,100,32,119,104,105,108,101,32]⟩ : ByteArray) fA) != 32) = true:=bne_iff_ne.mpr c8;have H' := Am H;clear H;have p7 : 0 ≤ (fA : Int):=YA;have q7 : fA < (93 : Int):=YA;have hx7:=kY (⟨#[32,98,114,101,97,107,32,99,104,97,114,32,99,111,110,116,105,110,117,101,32,100,111,32,101,108,115,101,32,102,111,114,32,103,101,116,98,121,116,101,32,105,102,32,105,110,116,32,112,117,116,98,121,116,101,32,114,101,116,117,114,110,32,115,105,122,101,111,102,32,115,116,114,117,99,116,32,117,105,110,116,32,118,111,105,100,32,119,104,105,108,101,32]⟩ : ByteArray) fA;replace p7:=eq_true p7;replace q7:=eq_true q7;go_wp2
             go_roundg k1
             case measure => have:=jm.out;omega
             case rel => exact ⟨(wrap64 (fA + 1)),YF,H',⟨by have:=jm.out;omega⟩,by repeat (first|exact bH.refl _|apply bH.step)⟩
         · rw [if_neg c6] at H;exact absurd H (by simp)
       · rw [if_neg c5] at H;exact absurd H (by simp)
     · rw [if_neg c4] at H;have tC:=decide_eq_false c4;clear c4;obtain rfl:=Option.some.inj H;go_wp2
       go_ret
       exact ⟨by first|rfl|(simp;done)|(simp [*];done),by repeat (first|exact bH.refl _|apply bH.step)⟩
 · replace c3:=Bool.eq_false_iff.mpr c3;subst c3;have H1 : (some false) = some r:=by rw [if_neg (show ¬ (false = true) by decide)] at H;exact H
   clear H;have H:=H1;clear H1;obtain rfl:=Option.some.inj H;go_enter Tryz.func48,Tryz.ntmps48
   go_wp2_with (first|((with_reducible refine dh (f:=47) rfl ?_);refine gy (some 5) rfl rfl Tryz.func47 (by kernel_rfl) rfl #[.string a0] rfl (by (try simp only [List.map_toArray,List.map_cons,List.map_nil]);first|done|rfl|(simp only [List.length_drop,List.length_take];rfl)) ?_;(with_reducible refine (bg.calls k a0 false _ A2.out).mono ?_);rintro e w' ⟨rfl,⟨nd,rfl⟩⟩;refine ⟨_,rfl,?_⟩))
   go_ret
   exact ⟨by first|rfl|(simp;done)|(simp [*];done),by repeat (first|exact bH.refl _|apply bH.step)⟩
end Go.Proofs.YtboojhadfhpdeaaGreatDoor.Q
