/- A part of the proof, made small by a program: R2, R3, R4, R5. -/
import Derived.Test.YtboojhadfhpdeaaGreatDoorVp4
set_option linter.unusedVariables false
set_option linter.unusedSimpArgs false
set_option maxHeartbeats 8000000
set_option maxRecDepth 100000
namespace Go.Proofs.YtboojhadfhpdeaaGreatDoor.Q
open Go.RowKit Go.Proofs.YtboojhadfhpdeaaGreatDoorW.PrintWords Go.Proofs.YtboojhadfhpdeaaGreatDoorW.PrintLast Go.Proofs.YtboojhadfhpdeaaGreatDoorW.PrintMore
def Z35.f (a0 : Int) : Option (Bool):=if a0 ≥ 97 then (if a0 ≤ 122 then (some true) else (if a0 ≥ 65 then (if a0 ≤ 90 then (some true) else (some (a0 == 95))) else (some (a0 == 95)))) else (if a0 ≥ 65 then (if a0 ≤ 90 then (some true) else (some (a0 == 95))) else (some (a0 == 95)))
theorem Z35.calls (a0 : Int) (r : Bool) (w : World) (h : Z35.f a0 = some r) :
 Calls Tryz.prog 81 #[.int .u8 a0] w fun e w' => e = .returned (.bool r) ∧ au w w' := by
 have H : (if a0 ≥ 97 then (if a0 ≤ 122 then (some true) else (if a0 ≥ 65 then (if a0 ≤ 90 then (some true) else (some (a0 == 95))) else (some (a0 == 95)))) else (if a0 ≥ 65 then (if a0 ≤ 90 then (some true) else (some (a0 == 95))) else (some (a0 == 95)))) = some r:=h;clear h;by_cases c2 : a0 ≥ 97
 · rw [if_pos c2] at H;have lD : decide (97 ≤ a0) = true:=decide_eq_true c2;clear c2;by_cases c3 : a0 ≤ 122
   · rw [if_pos c3] at H;have kH:=decide_eq_true c3;clear c3;obtain rfl:=Option.some.inj H;go_enter Tryz.func81,Tryz.ntmps81
     go_wp2
     go_ret
     exact ⟨by first|rfl|(simp;done)|(simp [*];done),by repeat (first|exact au.refl _|apply au.step)⟩
   · rw [if_neg c3] at H;have kH:=decide_eq_false c3;clear c3;by_cases c4 : a0 ≥ 65
     · rw [if_pos c4] at H;have lS : decide (65 ≤ a0) = true:=decide_eq_true c4;clear c4;by_cases c5 : a0 ≤ 90
       · rw [if_pos c5] at H;have lq:=decide_eq_true c5;clear c5;obtain rfl:=Option.some.inj H;go_enter Tryz.func81,Tryz.ntmps81
         go_wp2
         go_ret
         exact ⟨by first|rfl|(simp;done)|(simp [*];done),by repeat (first|exact au.refl _|apply au.step)⟩
       · rw [if_neg c5] at H;have lq:=decide_eq_false c5;clear c5;obtain rfl:=Option.some.inj H;go_enter Tryz.func81,Tryz.ntmps81
         go_wp2
         go_ret
         exact ⟨by first|rfl|(simp;done)|(simp [*];done),by repeat (first|exact au.refl _|apply au.step)⟩
     · rw [if_neg c4] at H;have lS : decide (65 ≤ a0) = false:=decide_eq_false c4;clear c4;obtain rfl:=Option.some.inj H;go_enter Tryz.func81,Tryz.ntmps81
       go_wp2
       go_ret
       exact ⟨by first|rfl|(simp;done)|(simp [*];done),by repeat (first|exact au.refl _|apply au.step)⟩
 · rw [if_neg c2] at H;have lD : decide (97 ≤ a0) = false:=decide_eq_false c2;clear c2;by_cases c6 : a0 ≥ 65
   · rw [if_pos c6] at H;have oG : decide (65 ≤ a0) = true:=decide_eq_true c6;clear c6;by_cases c7 : a0 ≤ 90
     · rw [if_pos c7] at H;have yC:=decide_eq_true c7;clear c7;obtain rfl:=Option.some.inj H;go_enter Tryz.func81,Tryz.ntmps81
       go_wp2
       go_ret
       exact ⟨by first|rfl|(simp;done)|(simp [*];done),by repeat (first|exact au.refl _|apply au.step)⟩
     · rw [if_neg c7] at H;have yC:=decide_eq_false c7;clear c7;obtain rfl:=Option.some.inj H;go_enter Tryz.func81,Tryz.ntmps81
       go_wp2
       go_ret
       exact ⟨by first|rfl|(simp;done)|(simp [*];done),by repeat (first|exact au.refl _|apply au.step)⟩
   · rw [if_neg c6] at H;have oG : decide (65 ≤ a0) = false:=decide_eq_false c6;clear c6;obtain rfl:=Option.some.inj H;go_enter Tryz.func81,Tryz.ntmps81
     go_wp2
     go_ret
     exact ⟨by first|rfl|(simp;done)|(simp [*];done),by repeat (first|exact au.refl _|apply au.step)⟩
def Z33.f (a0 : Int) : Option (Bool):=if a0 ≥ 48 then (some (decide (a0 ≤ 57))) else (some false)
theorem Z33.calls (a0 : Int) (r : Bool) (w : World) (h : Z33.f a0 = some r) :
 Calls Tryz.prog 82 #[.int .u8 a0] w fun e w' => e = .returned (.bool r) ∧ au w w' := by
 have H : (if a0 ≥ 48 then (some (decide (a0 ≤ 57))) else (some false)) = some r:=h;clear h;by_cases c2 : a0 ≥ 48
 · rw [if_pos c2] at H;have lD : decide (48 ≤ a0) = true:=decide_eq_true c2;clear c2;obtain rfl:=Option.some.inj H;go_enter Tryz.func82,Tryz.ntmps82
   go_wp2
   go_ret
   exact ⟨by first|rfl|(simp;done)|(simp [*];done),by repeat (first|exact au.refl _|apply au.step)⟩
 · rw [if_neg c2] at H;have lD : decide (48 ≤ a0) = false:=decide_eq_false c2;clear c2;obtain rfl:=Option.some.inj H;go_enter Tryz.func82,Tryz.ntmps82
   go_wp2
   go_ret
   exact ⟨by first|rfl|(simp;done)|(simp [*];done),by repeat (first|exact au.refl _|apply au.step)⟩
def vJ.l0 : Nat → ByteArray → Int → Option (Bool)
 | 0,_,_ => none
 | k + 1,x0,x3 => if x3 < (x0.size : Int) then (if 0 ≤ x3 then ((Z35.f (bt x0 x3)).bind fun t107 => (if t107 = true then (vJ.l0 k x0 (wrap64 (x3 + 1))) else (if x3 = 0 then (some false) else ((Z33.f (bt x0 x3)).bind fun nN => (if nN = true then (vJ.l0 k x0 (wrap64 (x3 + 1))) else (some false)))))) else (none)) else (some (x0.toList != ([] : List UInt8)))
def vJ.f (k : Nat) (a0 : ByteArray) : Option (Bool):=vJ.l0 k a0 0
theorem vJ.calls (k : Nat) (a0 : ByteArray) (r : Bool) (w : World) (h : vJ.f k a0 = some r) :
 Calls Tryz.prog 47 #[.string a0] w fun e w' => e = .returned (.bool r) ∧ au w w' := by
 have H : (vJ.l0 k a0 0) = some r:=h;clear h;have H' := Ad.mk H;clear H;go_enter Tryz.func47,Tryz.ntmps47
 go_wp2
 go_loopg [3] k (fun kq v3 w' => ∃ (bC : Int),v3 = .int .i64 bC ∧ Ad (vJ.l0 kq a0 bC = some r) ∧ Ad (kq ≤ k) ∧ au w w')
 case atStart => exact ⟨(0),YF,H',⟨Nat.le_refl _⟩,by repeat (first|exact au.refl _|apply au.step)⟩
 case round =>
  clear H';obtain ⟨bC,rfl,HA,dN,⟨m1,rfl⟩⟩:=hrel;cases gk with
  | zero => exact absurd HA.out (by simp [vJ.l0])
  | succ k1 =>
   have H:=HA.out;clear HA;simp only [vJ.l0] at H;by_cases c2 : bC < (a0.size : Int)
   · rw [if_pos c2] at H;have lD:=decide_eq_true c2;clear c2;by_cases c3 : 0 ≤ bC
     · rw [if_pos c3] at H;have kH:=decide_eq_true c3;clear c3;replace H:=Option.bind_eq_some_iff.mp H;obtain ⟨t107,A50,H⟩:=H;replace H : (if t107 = true then (vJ.l0 k1 a0 (wrap64 (bC + 1))) else (if bC = 0 then (some false) else ((Z33.f (bt a0 bC)).bind fun nN => (if nN = true then (vJ.l0 k1 a0 (wrap64 (bC + 1))) else (some false))))) = some r:=H;have A5:=Am A50;clear A50;by_cases c6 : t107 = true
       · subst c6;have H1 : (vJ.l0 k1 a0 (wrap64 (bC + 1))) = some r:=by rw [if_pos rfl] at H;exact H
         clear H;have H:=H1;clear H1;have H' := Ad.mk H;clear H;have p4 : 0 ≤ (bC : Int):=YA;have q4 : bC < (a0.size : Int):=YA;have hx4:=iF a0 bC;replace p4:=eq_true p4;replace q4:=eq_true q4;go_wp2_with (first|((with_reducible refine sU (f:=81) rfl ?_);refine fV (some 13) rfl rfl Tryz.func81 (by kernel_rfl) rfl #[.int .u8 (bt a0 bC)] rfl (by (try simp only [List.map_toArray,List.map_cons,List.map_nil]);first|done|rfl|(simp only [List.length_drop,List.length_take];rfl)) ?_;(with_reducible refine (Z35.calls (bt a0 bC) true _ A5.out).mono ?_);rintro e w' ⟨rfl,⟨nd,rfl⟩⟩;refine ⟨_,rfl,?_⟩))
         go_roundg k1
         case measure => have:=dN.out;omega
         case rel => exact ⟨(wrap64 (bC + 1)),YF,H',⟨by have:=dN.out;omega⟩,by repeat (first|exact au.refl _|apply au.step)⟩
       · replace c6:=Bool.eq_false_iff.mpr c6;subst c6;have H1 : (if bC = 0 then (some false) else ((Z33.f (bt a0 bC)).bind fun nN => (if nN = true then (vJ.l0 k1 a0 (wrap64 (bC + 1))) else (some false)))) = some r:=by rw [if_neg (show ¬ (false = true) by decide)] at H;exact H
         clear H;have H:=H1;clear H1;by_cases c7 : bC = 0
         · rw [if_pos c7] at H;have yC : (bC == 0) = true:=beq_iff_eq.mpr c7;clear c7;obtain rfl:=Option.some.inj H;have p4 : 0 ≤ (bC : Int):=YA;have q4 : bC < (a0.size : Int):=YA;have hx4:=iF a0 bC;replace p4:=eq_true p4;replace q4:=eq_true q4;go_wp2_with (first|((with_reducible refine sU (f:=81) rfl ?_);refine fV (some 13) rfl rfl Tryz.func81 (by kernel_rfl) rfl #[.int .u8 (bt a0 bC)] rfl (by (try simp only [List.map_toArray,List.map_cons,List.map_nil]);first|done|rfl|(simp only [List.length_drop,List.length_take];rfl)) ?_;(with_reducible refine (Z35.calls (bt a0 bC) false _ A5.out).mono ?_);rintro e w' ⟨rfl,⟨nd,rfl⟩⟩;refine ⟨_,rfl,?_⟩))
           go_ret
           exact ⟨by first|rfl|(simp;done)|(simp [*];done),by repeat (first|exact au.refl _|apply au.step)⟩
         · rw [if_neg c7] at H;have yC : (bC == 0) = false:=beq_eq_false_iff_ne.mpr c7;replace H:=Option.bind_eq_some_iff.mp H;obtain ⟨nN,A90,H⟩:=H;replace H : (if nN = true then (vJ.l0 k1 a0 (wrap64 (bC + 1))) else (some false)) = some r:=H;have A9:=Am A90;clear A90;by_cases c10 : nN = true
           · subst c10;have H1 : (vJ.l0 k1 a0 (wrap64 (bC + 1))) = some r:=by rw [if_pos rfl] at H;exact H
             clear H;have H:=H1;clear H1;have H' := Ad.mk H;clear H;have p4 : 0 ≤ (bC : Int):=YA;have q4 : bC < (a0.size : Int):=YA;have hx4:=iF a0 bC;replace p4:=eq_true p4;replace q4:=eq_true q4;go_wp2_with (first|((with_reducible refine sU (f:=81) rfl ?_);refine fV (some 13) rfl rfl Tryz.func81 (by kernel_rfl) rfl #[.int .u8 (bt a0 bC)] rfl (by (try simp only [List.map_toArray,List.map_cons,List.map_nil]);first|done|rfl|(simp only [List.length_drop,List.length_take];rfl)) ?_;(with_reducible refine (Z35.calls (bt a0 bC) false _ A5.out).mono ?_);rintro e w' ⟨rfl,⟨nd,rfl⟩⟩;refine ⟨_,rfl,?_⟩)|(go_at_call 82;(with_reducible refine (Z33.calls (bt a0 bC) true _ A9.out).mono ?_);rintro e w' ⟨rfl,⟨nd,rfl⟩⟩))
             go_roundg k1
             case measure => have:=dN.out;omega
             case rel => exact ⟨(wrap64 (bC + 1)),YF,H',⟨by have:=dN.out;omega⟩,by repeat (first|exact au.refl _|apply au.step)⟩
           · replace c10:=Bool.eq_false_iff.mpr c10;subst c10;have H1 : (some false) = some r:=by rw [if_neg (show ¬ (false = true) by decide)] at H;exact H
             clear H;have H:=H1;clear H1;obtain rfl:=Option.some.inj H;have p4 : 0 ≤ (bC : Int):=YA;have q4 : bC < (a0.size : Int):=YA;have hx4:=iF a0 bC;replace p4:=eq_true p4;replace q4:=eq_true q4;go_wp2_with (first|((with_reducible refine sU (f:=81) rfl ?_);refine fV (some 13) rfl rfl Tryz.func81 (by kernel_rfl) rfl #[.int .u8 (bt a0 bC)] rfl (by (try simp only [List.map_toArray,List.map_cons,List.map_nil]);first|done|rfl|(simp only [List.length_drop,List.length_take];rfl)) ?_;(with_reducible refine (Z35.calls (bt a0 bC) false _ A5.out).mono ?_);rintro e w' ⟨rfl,⟨nd,rfl⟩⟩;refine ⟨_,rfl,?_⟩)|(go_at_call 82;(with_reducible refine (Z33.calls (bt a0 bC) false _ A9.out).mono ?_);rintro e w' ⟨rfl,⟨nd,rfl⟩⟩))
             go_ret
             exact ⟨by first|rfl|(simp;done)|(simp [*];done),by repeat (first|exact au.refl _|apply au.step)⟩
     · rw [if_neg c3] at H;exact absurd H (by simp)
   · rw [if_neg c2] at H;have lD:=decide_eq_false c2;clear c2;obtain rfl:=Option.some.inj H;go_wp2
     go_ret
     exact ⟨by first|rfl|(cases h_ : a0.toList <;> rfl),by repeat (first|exact au.refl _|apply au.step)⟩
def zl.l0 : Nat → ByteArray → Int → Option (Bool)
 | 0,_,_ => none
 | k + 1,x0,x3 => if (wrap64 ((wrap64 (x3 + (x0.size : Int))) + 2)) ≤ 93 then (if 0 ≤ x3 then (if x3 < 93 then (if (bt (⟨#[32,98,114,101,97,107,32,99,104,97,114,32,99,111,110,116,105,110,117,101,32,100,111,32,101,108,115,101,32,102,111,114,32,103,101,116,98,121,116,101,32,105,102,32,105,110,116,32,112,117,116,98,121,116,101,32,114,101,116,117,114,110,32,115,105,122,101,111,102,32,115,116,114,117,99,116,32,117,105,110,116,32,118,111,105,100,32,119,104,105,108,101,32]⟩ : ByteArray) x3) = 32 then (if 0 ≤ (wrap64 (x3 + 1)) then (if (wrap64 (x3 + 1)) ≤ (wrap64 ((wrap64 (x3 + 1)) + (x0.size : Int))) then (if (wrap64 ((wrap64 (x3 + 1)) + (x0.size : Int))) ≤ 93 then (if ((⟨#[32,98,114,101,97,107,32,99,104,97,114,32,99,111,110,116,105,110,117,101,32,100,111,32,101,108,115,101,32,102,111,114,32,103,101,116,98,121,116,101,32,105,102,32,105,110,116,32,112,117,116,98,121,116,101,32,114,101,116,117,114,110,32,115,105,122,101,111,102,32,115,116,114,117,99,116,32,117,105,110,116,32,118,111,105,100,32,119,104,105,108,101,32]⟩ : ByteArray).extract ((wrap64 (x3 + 1)) : Int).toNat ((wrap64 ((wrap64 (x3 + 1)) + (x0.size : Int))) : Int).toNat).toList = x0.toList then (if 0 ≤ (wrap64 ((wrap64 (x3 + 1)) + (x0.size : Int))) then (if (wrap64 ((wrap64 (x3 + 1)) + (x0.size : Int))) < 93 then (if (bt (⟨#[32,98,114,101,97,107,32,99,104,97,114,32,99,111,110,116,105,110,117,101,32,100,111,32,101,108,115,101,32,102,111,114,32,103,101,116,98,121,116,101,32,105,102,32,105,110,116,32,112,117,116,98,121,116,101,32,114,101,116,117,114,110,32,115,105,122,101,111,102,32,115,116,114,117,99,116,32,117,105,110,116,32,118,111,105,100,32,119,104,105,108,101,32]⟩ : ByteArray) (wrap64 ((wrap64 (x3 + 1)) + (x0.size : Int)))) = 32 then (some true) else (zl.l0 k x0 (wrap64 (x3 + 1)))) else (none)) else (none)) else (zl.l0 k x0 (wrap64 (x3 + 1)))) else (none)) else (none)) else (none)) else (zl.l0 k x0 (wrap64 (x3 + 1)))) else (none)) else (none)) else (some false)
def zl.f (k : Nat) (a0 : ByteArray) : Option (Bool):=(vJ.f k a0).bind fun t109 => (if t109 = true then (zl.l0 k a0 0) else (some false))
theorem zl.calls (k : Nat) (a0 : ByteArray) (r : Bool) (w : World) (h : zl.f k a0 = some r) :
 Calls Tryz.prog 48 #[.string a0] w fun e w' => e = .returned (.bool r) ∧ au w w' := by
 have H : ((vJ.f k a0).bind fun t109 => (if t109 = true then (zl.l0 k a0 0) else (some false))) = some r:=h;clear h;replace H:=Option.bind_eq_some_iff.mp H;obtain ⟨t109,BP,H⟩:=H;replace H : (if t109 = true then (zl.l0 k a0 0) else (some false)) = some r:=H;have A2:=Am BP;clear BP;by_cases c3 : t109 = true
 · subst c3;have H1 : (zl.l0 k a0 0) = some r:=by rw [if_pos rfl] at H;exact H
   clear H;have H:=H1;clear H1;have H' := Ad.mk H;clear H;go_enter Tryz.func48,Tryz.ntmps48
   go_wp2_with (first|((with_reducible refine sU (f:=47) rfl ?_);refine fV (some 5) rfl rfl Tryz.func47 (by kernel_rfl) rfl #[.string a0] rfl (by (try simp only [List.map_toArray,List.map_cons,List.map_nil]);first|done|rfl|(simp only [List.length_drop,List.length_take];rfl)) ?_;(with_reducible refine (vJ.calls k a0 true _ A2.out).mono ?_);rintro e w' ⟨rfl,⟨nd,rfl⟩⟩;refine ⟨_,rfl,?_⟩))
   go_loopg [3] k (fun kq v3 w' => ∃ (bC : Int),v3 = .int .i64 bC ∧ Ad (zl.l0 kq a0 bC = some r) ∧ Ad (kq ≤ k) ∧ au w w')
   case atStart => exact ⟨(0),YF,H',⟨Nat.le_refl _⟩,by repeat (first|exact au.refl _|apply au.step)⟩
   case round =>
    clear H';try clear c3
    obtain ⟨bC,rfl,HA,dN,⟨m1,rfl⟩⟩:=hrel;cases gk with
    | zero => exact absurd HA.out (by simp [zl.l0])
    | succ k1 =>
     have H:=HA.out;clear HA;simp only [zl.l0] at H;by_cases c4 : (wrap64 ((wrap64 (bC + (a0.size : Int))) + 2)) ≤ 93
     · rw [if_pos c4] at H;have lS:=decide_eq_true c4;clear c4;by_cases c5 : 0 ≤ bC
       · rw [if_pos c5] at H;have lq:=decide_eq_true c5;clear c5;by_cases c6 : bC < 93
         · rw [if_pos c6] at H;have oG:=decide_eq_true c6;clear c6;by_cases c8 : (bt (⟨#[32,98,114,101,97,107,32,99,104,97,114,32,99,111,110,116,105,110,117,101,32,100,111,32,101,108,115,101,32,102,111,114,32,103,101,116,98,121,116,101,32,105,102,32,105,110,116,32,112,117,116,98,121,116,101,32,114,101,116,117,114,110,32,115,105,122,101,111,102,32,115,116,114,117,99,116,32,117,105,110,116,32,118,111,105,100,32,119,104,105,108,101,32]⟩ : ByteArray) bC) = 32
           · rw [if_pos c8] at H;have o8 : ((bt (⟨#[32,98,114,101,97,107,32,99,104,97,114,32,99,111,110,116,105,110,117,101,32,100,111,32,101,108,115,101,32,102,111,114,32,103,101,116,98,121,116,101,32,105,102,32,105,110,116,32,112,117,116,98,121,116,101,32,114,101,116,117,114,110,32,115,105,122,101,111,102,32,115,116,114,117,99,116,32,117,105,110,116,32,118,111,105,100,32,119,104,105,108,101,32]⟩ : ByteArray) bC) == 32) = true:=beq_iff_eq.mpr c8;clear c8;obtain ⟨yJ,L9⟩ : ∃ j_ : Int,(wrap64 (bC + 1)) = j_:=⟨_,rfl⟩
             replace H : (if 0 ≤ (yJ) then (if (yJ) ≤ (wrap64 ((yJ) + (a0.size : Int))) then (if (wrap64 ((yJ) + (a0.size : Int))) ≤ 93 then (if ((⟨#[32,98,114,101,97,107,32,99,104,97,114,32,99,111,110,116,105,110,117,101,32,100,111,32,101,108,115,101,32,102,111,114,32,103,101,116,98,121,116,101,32,105,102,32,105,110,116,32,112,117,116,98,121,116,101,32,114,101,116,117,114,110,32,115,105,122,101,111,102,32,115,116,114,117,99,116,32,117,105,110,116,32,118,111,105,100,32,119,104,105,108,101,32]⟩ : ByteArray).extract ((yJ) : Int).toNat ((wrap64 ((yJ) + (a0.size : Int))) : Int).toNat).toList = a0.toList then (if 0 ≤ (wrap64 ((yJ) + (a0.size : Int))) then (if (wrap64 ((yJ) + (a0.size : Int))) < 93 then (if (bt (⟨#[32,98,114,101,97,107,32,99,104,97,114,32,99,111,110,116,105,110,117,101,32,100,111,32,101,108,115,101,32,102,111,114,32,103,101,116,98,121,116,101,32,105,102,32,105,110,116,32,112,117,116,98,121,116,101,32,114,101,116,117,114,110,32,115,105,122,101,111,102,32,115,116,114,117,99,116,32,117,105,110,116,32,118,111,105,100,32,119,104,105,108,101,32]⟩ : ByteArray) (wrap64 ((yJ) + (a0.size : Int)))) = 32 then (some true) else (zl.l0 k1 a0 yJ)) else (none)) else (none)) else (zl.l0 k1 a0 yJ)) else (none)) else (none)) else (none)) = some r:=by first|(rw [L9] at H;exact H)|(simp only [L9] at H ⊢;exact H)
             have hji9w : (IntKind.i64.wrap (bC + 1)) = yJ:=(bY _).trans L9;by_cases c10 : 0 ≤ (yJ)
             · rw [if_pos c10] at H;have wK:=eq_true c10;clear c10;by_cases c11 : (yJ) ≤ (wrap64 ((yJ) + (a0.size : Int)))
               · rw [if_pos c11] at H;by_cases c12 : (wrap64 ((yJ) + (a0.size : Int))) ≤ 93
                 · rw [if_pos c12] at H;by_cases c13 : ((⟨#[32,98,114,101,97,107,32,99,104,97,114,32,99,111,110,116,105,110,117,101,32,100,111,32,101,108,115,101,32,102,111,114,32,103,101,116,98,121,116,101,32,105,102,32,105,110,116,32,112,117,116,98,121,116,101,32,114,101,116,117,114,110,32,115,105,122,101,111,102,32,115,116,114,117,99,116,32,117,105,110,116,32,118,111,105,100,32,119,104,105,108,101,32]⟩ : ByteArray).extract ((yJ) : Int).toNat ((wrap64 ((yJ) + (a0.size : Int))) : Int).toNat).toList = a0.toList
                   · rw [if_pos c13] at H;have wL : (((⟨#[32,98,114,101,97,107,32,99,104,97,114,32,99,111,110,116,105,110,117,101,32,100,111,32,101,108,115,101,32,102,111,114,32,103,101,116,98,121,116,101,32,105,102,32,105,110,116,32,112,117,116,98,121,116,101,32,114,101,116,117,114,110,32,115,105,122,101,111,102,32,115,116,114,117,99,116,32,117,105,110,116,32,118,111,105,100,32,119,104,105,108,101,32]⟩ : ByteArray).extract ((yJ) : Int).toNat ((wrap64 ((yJ) + (a0.size : Int))) : Int).toNat).toList == a0.toList) = true:=beq_iff_eq.mpr c13;clear c13;obtain ⟨vK,Ae⟩ : ∃ j_ : Int,(wrap64 ((yJ) + (a0.size : Int))) = j_:=⟨_,rfl⟩
                     replace H : (if 0 ≤ (vK) then (if (vK) < 93 then (if (bt (⟨#[32,98,114,101,97,107,32,99,104,97,114,32,99,111,110,116,105,110,117,101,32,100,111,32,101,108,115,101,32,102,111,114,32,103,101,116,98,121,116,101,32,105,102,32,105,110,116,32,112,117,116,98,121,116,101,32,114,101,116,117,114,110,32,115,105,122,101,111,102,32,115,116,114,117,99,116,32,117,105,110,116,32,118,111,105,100,32,119,104,105,108,101,32]⟩ : ByteArray) (vK)) = 32 then (some true) else (zl.l0 k1 a0 yJ)) else (none)) else (none)) = some r:=by first|(rw [Ae] at H;exact H)|(simp only [Ae] at H ⊢;exact H)
                     (try rw [Ae] at c11);(try rw [Ae] at c12);(try rw [Ae] at wL);have hji14w : (IntKind.i64.wrap ((yJ) + (a0.size : Int))) = vK:=(bY _).trans Ae;by_cases c15 : 0 ≤ (vK)
                     · rw [if_pos c15] at H;have BR:=decide_eq_true c15;clear c15;by_cases c16 : (vK) < 93
                       · rw [if_pos c16] at H;have pY:=decide_eq_true c16;clear c16;by_cases c18 : (bt (⟨#[32,98,114,101,97,107,32,99,104,97,114,32,99,111,110,116,105,110,117,101,32,100,111,32,101,108,115,101,32,102,111,114,32,103,101,116,98,121,116,101,32,105,102,32,105,110,116,32,112,117,116,98,121,116,101,32,114,101,116,117,114,110,32,115,105,122,101,111,102,32,115,116,114,117,99,116,32,117,105,110,116,32,118,111,105,100,32,119,104,105,108,101,32]⟩ : ByteArray) (vK)) = 32
                         · rw [if_pos c18] at H;have zk : ((bt (⟨#[32,98,114,101,97,107,32,99,104,97,114,32,99,111,110,116,105,110,117,101,32,100,111,32,101,108,115,101,32,102,111,114,32,103,101,116,98,121,116,101,32,105,102,32,105,110,116,32,112,117,116,98,121,116,101,32,114,101,116,117,114,110,32,115,105,122,101,111,102,32,115,116,114,117,99,116,32,117,105,110,116,32,118,111,105,100,32,119,104,105,108,101,32]⟩ : ByteArray) (vK)) == 32) = true:=beq_iff_eq.mpr c18;clear c18;obtain rfl:=Option.some.inj H;have p7 : 0 ≤ (bC : Int):=YA;have q7 : bC < (93 : Int):=YA;have hx7:=iF (⟨#[32,98,114,101,97,107,32,99,104,97,114,32,99,111,110,116,105,110,117,101,32,100,111,32,101,108,115,101,32,102,111,114,32,103,101,116,98,121,116,101,32,105,102,32,105,110,116,32,112,117,116,98,121,116,101,32,114,101,116,117,114,110,32,115,105,122,101,111,102,32,115,116,114,117,99,116,32,117,105,110,116,32,118,111,105,100,32,119,104,105,108,101,32]⟩ : ByteArray) bC;replace p7:=eq_true p7;replace q7:=eq_true q7;have p17 : 0 ≤ ((vK) : Int):=YA;have q17 : (vK) < (93 : Int):=YA;have hx17:=iF (⟨#[32,98,114,101,97,107,32,99,104,97,114,32,99,111,110,116,105,110,117,101,32,100,111,32,101,108,115,101,32,102,111,114,32,103,101,116,98,121,116,101,32,105,102,32,105,110,116,32,112,117,116,98,121,116,101,32,114,101,116,117,114,110,32,115,105,122,101,111,102,32,115,116,114,117,99,116,32,117,105,110,116,32,118,111,105,100,32,119,104,105,108,101,32]⟩ : ByteArray) (vK);replace p17:=eq_true p17;replace q17:=eq_true q17;go_wp2
                           go_ret
                           exact ⟨by first|rfl|(simp;done)|(simp only [← L9,← Ae] <;> (first|rfl|simp))|(simp [*];done),by repeat (first|exact au.refl _|apply au.step)⟩
                         · rw [if_neg c18] at H;have zk : ((bt (⟨#[32,98,114,101,97,107,32,99,104,97,114,32,99,111,110,116,105,110,117,101,32,100,111,32,101,108,115,101,32,102,111,114,32,103,101,116,98,121,116,101,32,105,102,32,105,110,116,32,112,117,116,98,121,116,101,32,114,101,116,117,114,110,32,115,105,122,101,111,102,32,115,116,114,117,99,116,32,117,105,110,116,32,118,111,105,100,32,119,104,105,108,101,32]⟩ : ByteArray) (vK)) == 32) = false:=beq_eq_false_iff_ne.mpr c18;have H' := Ad.mk H;clear H;have p7 : 0 ≤ (bC : Int):=YA;have q7 : bC < (93 : Int):=YA;have hx7:=iF (⟨#[32,98,114,101,97,107,32,99,104,97,114,32,99,111,110,116,105,110,117,101,32,100,111,32,101,108,115,101,32,102,111,114,32,103,101,116,98,121,116,101,32,105,102,32,105,110,116,32,112,117,116,98,121,116,101,32,114,101,116,117,114,110,32,115,105,122,101,111,102,32,115,116,114,117,99,116,32,117,105,110,116,32,118,111,105,100,32,119,104,105,108,101,32]⟩ : ByteArray) bC;replace p7:=eq_true p7;replace q7:=eq_true q7;have p17 : 0 ≤ ((vK) : Int):=YA;have q17 : (vK) < (93 : Int):=YA;have hx17:=iF (⟨#[32,98,114,101,97,107,32,99,104,97,114,32,99,111,110,116,105,110,117,101,32,100,111,32,101,108,115,101,32,102,111,114,32,103,101,116,98,121,116,101,32,105,102,32,105,110,116,32,112,117,116,98,121,116,101,32,114,101,116,117,114,110,32,115,105,122,101,111,102,32,115,116,114,117,99,116,32,117,105,110,116,32,118,111,105,100,32,119,104,105,108,101,32]⟩ : ByteArray) (vK);replace p17:=eq_true p17;replace q17:=eq_true q17;go_wp2
                           go_roundg k1
                           case measure => have:=dN.out;omega
                           case rel => exact ⟨(yJ),(by first|rfl|(simp;done)|(simp only [← L9] <;> (first|rfl|simp))|(simp [*];done)),H',⟨by have:=dN.out;omega⟩,by repeat (first|exact au.refl _|apply au.step)⟩
                       · rw [if_neg c16] at H;exact absurd H (by simp)
                     · rw [if_neg c15] at H;exact absurd H (by simp)
                   · rw [if_neg c13] at H;have wL : (((⟨#[32,98,114,101,97,107,32,99,104,97,114,32,99,111,110,116,105,110,117,101,32,100,111,32,101,108,115,101,32,102,111,114,32,103,101,116,98,121,116,101,32,105,102,32,105,110,116,32,112,117,116,98,121,116,101,32,114,101,116,117,114,110,32,115,105,122,101,111,102,32,115,116,114,117,99,116,32,117,105,110,116,32,118,111,105,100,32,119,104,105,108,101,32]⟩ : ByteArray).extract ((yJ) : Int).toNat ((wrap64 ((yJ) + (a0.size : Int))) : Int).toNat).toList == a0.toList) = false:=beq_eq_false_iff_ne.mpr c13;have H' := Ad.mk H;clear H;have p7 : 0 ≤ (bC : Int):=YA;have q7 : bC < (93 : Int):=YA;have hx7:=iF (⟨#[32,98,114,101,97,107,32,99,104,97,114,32,99,111,110,116,105,110,117,101,32,100,111,32,101,108,115,101,32,102,111,114,32,103,101,116,98,121,116,101,32,105,102,32,105,110,116,32,112,117,116,98,121,116,101,32,114,101,116,117,114,110,32,115,105,122,101,111,102,32,115,116,114,117,99,116,32,117,105,110,116,32,118,111,105,100,32,119,104,105,108,101,32]⟩ : ByteArray) bC;replace p7:=eq_true p7;replace q7:=eq_true q7;go_wp2
                     go_roundg k1
                     case measure => have:=dN.out;omega
                     case rel => exact ⟨(yJ),(by first|rfl|(simp;done)|(simp only [← L9] <;> (first|rfl|simp))|(simp [*];done)),H',⟨by have:=dN.out;omega⟩,by repeat (first|exact au.refl _|apply au.step)⟩
                 · rw [if_neg c12] at H;exact absurd H (by simp)
               · rw [if_neg c11] at H;exact absurd H (by simp)
             · rw [if_neg c10] at H;exact absurd H (by simp)
           · rw [if_neg c8] at H;have o8 : ((bt (⟨#[32,98,114,101,97,107,32,99,104,97,114,32,99,111,110,116,105,110,117,101,32,100,111,32,101,108,115,101,32,102,111,114,32,103,101,116,98,121,116,101,32,105,102,32,105,110,116,32,112,117,116,98,121,116,101,32,114,101,116,117,114,110,32,115,105,122,101,111,102,32,115,116,114,117,99,116,32,117,105,110,116,32,118,111,105,100,32,119,104,105,108,101,32]⟩ : ByteArray) bC) == 32) = false:=beq_eq_false_iff_ne.mpr c8;have H' := Ad.mk H;clear H;have p7 : 0 ≤ (bC : Int):=YA;have q7 : bC < (93 : Int):=YA;have hx7:=iF (⟨#[32,98,114,101,97,107,32,99,104,97,114,32,99,111,110,116,105,110,117,101,32,100,111,32,101,108,115,101,32,102,111,114,32,103,101,116,98,121,116,101,32,105,102,32,105,110,116,32,112,117,116,98,121,116,101,32,114,101,116,117,114,110,32,115,105,122,101,111,102,32,115,116,114,117,99,116,32,117,105,110,116,32,118,111,105,100,32,119,104,105,108,101,32]⟩ : ByteArray) bC;replace p7:=eq_true p7;replace q7:=eq_true q7;go_wp2
             go_roundg k1
             case measure => have:=dN.out;omega
             case rel => exact ⟨(wrap64 (bC + 1)),YF,H',⟨by have:=dN.out;omega⟩,by repeat (first|exact au.refl _|apply au.step)⟩
         · rw [if_neg c6] at H;exact absurd H (by simp)
       · rw [if_neg c5] at H;exact absurd H (by simp)
     · rw [if_neg c4] at H;have lS:=decide_eq_false c4;clear c4;obtain rfl:=Option.some.inj H;go_wp2
       go_ret
       exact ⟨by first|rfl|(simp;done)|(simp [*];done),by repeat (first|exact au.refl _|apply au.step)⟩
 · replace c3:=Bool.eq_false_iff.mpr c3;subst c3;have H1 : (some false) = some r:=by rw [if_neg (show ¬ (false = true) by decide)] at H;exact H
   clear H;have H:=H1;clear H1;obtain rfl:=Option.some.inj H;go_enter Tryz.func48,Tryz.ntmps48
   go_wp2_with (first|((with_reducible refine sU (f:=47) rfl ?_);refine fV (some 5) rfl rfl Tryz.func47 (by kernel_rfl) rfl #[.string a0] rfl (by (try simp only [List.map_toArray,List.map_cons,List.map_nil]);first|done|rfl|(simp only [List.length_drop,List.length_take];rfl)) ?_;(with_reducible refine (vJ.calls k a0 false _ A2.out).mono ?_);rintro e w' ⟨rfl,⟨nd,rfl⟩⟩;refine ⟨_,rfl,?_⟩))
   go_ret
   exact ⟨by first|rfl|(simp;done)|(simp [*];done),by repeat (first|exact au.refl _|apply au.step)⟩
end Go.Proofs.YtboojhadfhpdeaaGreatDoor.Q
