/- A part of the proof, made small by a program: R6, R18. -/
import Derived.Test.YtboojhadfhpdeaaGreatDoorVp4
import Derived.Test.YtboojhadfhpdeaaGreatDoorVp9
set_option linter.unusedVariables false
set_option linter.unusedSimpArgs false
set_option maxHeartbeats 8000000
set_option maxRecDepth 100000
namespace Go.Proofs.YtboojhadfhpdeaaGreatDoor.Q
open Go.RowKit Go.Proofs.YtboojhadfhpdeaaGreatDoorW.PrintWords Go.Proofs.YtboojhadfhpdeaaGreatDoorW.PrintLast Go.Proofs.YtboojhadfhpdeaaGreatDoorW.PrintMore
def gu.f (k : Nat) (a0 : ByteArray) : Option (Bool):=(vJ.f k a0).bind fun o9 => (if o9 = true then ((zl.f k a0).bind fun qw => (some (!qw))) else (some false))
theorem gu.calls (k : Nat) (a0 : ByteArray) (r : Bool) (w : World) (h : gu.f k a0 = some r) :
 Calls Tryz.prog 34 #[.string a0] w fun e w' => e = .returned (.bool r) ∧ au w w' := by
 have H : ((vJ.f k a0).bind fun o9 => (if o9 = true then ((zl.f k a0).bind fun qw => (some (!qw))) else (some false))) = some r:=h;clear h;replace H:=Option.bind_eq_some_iff.mp H;obtain ⟨o9,BP,H⟩:=H;replace H : (if o9 = true then ((zl.f k a0).bind fun qw => (some (!qw))) else (some false)) = some r:=H;have A2:=Am BP;clear BP;by_cases c3 : o9 = true
 · subst c3;have H1 : ((zl.f k a0).bind fun qw => (some (!qw))) = some r:=by rw [if_pos rfl] at H;exact H
   clear H;have H:=H1;clear H1;replace H:=Option.bind_eq_some_iff.mp H;obtain ⟨qw,A40,H⟩:=H;replace H : (some (!qw)) = some r:=H;have A4:=Am A40;clear A40;obtain rfl:=Option.some.inj H;go_enter Tryz.func34,Tryz.ntmps34
   go_wp2_with (first|((with_reducible refine sU (f:=47) rfl ?_);refine fV (some 4) rfl rfl Tryz.func47 (by kernel_rfl) rfl #[.string a0] rfl (by (try simp only [List.map_toArray,List.map_cons,List.map_nil]);first|done|rfl|(simp only [List.length_drop,List.length_take];rfl)) ?_;(with_reducible refine (vJ.calls k a0 true _ A2.out).mono ?_);rintro e w' ⟨rfl,⟨nd,rfl⟩⟩;refine ⟨_,rfl,?_⟩)|(go_at_call 48;(with_reducible refine (zl.calls k a0 qw _ A4.out).mono ?_);rintro e w' ⟨rfl,⟨nd,rfl⟩⟩))
   go_ret
   exact ⟨by first|rfl|(simp;done)|(simp [*];done),by repeat (first|exact au.refl _|apply au.step)⟩
 · replace c3:=Bool.eq_false_iff.mpr c3;subst c3;have H1 : (some false) = some r:=by rw [if_neg (show ¬ (false = true) by decide)] at H;exact H
   clear H;have H:=H1;clear H1;obtain rfl:=Option.some.inj H;go_enter Tryz.func34,Tryz.ntmps34
   go_wp2_with (first|((with_reducible refine sU (f:=47) rfl ?_);refine fV (some 4) rfl rfl Tryz.func47 (by kernel_rfl) rfl #[.string a0] rfl (by (try simp only [List.map_toArray,List.map_cons,List.map_nil]);first|done|rfl|(simp only [List.length_drop,List.length_take];rfl)) ?_;(with_reducible refine (vJ.calls k a0 false _ A2.out).mono ?_);rintro e w' ⟨rfl,⟨nd,rfl⟩⟩;refine ⟨_,rfl,?_⟩))
   go_ret
   exact ⟨by first|rfl|(simp;done)|(simp [*];done),by repeat (first|exact au.refl _|apply au.step)⟩
mutual
def aK.l0 : Nat → ByteArray → ByteArray → Int → Option (Bool)
 | 0,_,_,_ => none
 | k + 1,x0,x1,x5 => if x5 < (x1.size : Int) then (if 0 ≤ x5 then (if (bt x1 x5) = 32 then (some false) else (aK.l0 k x0 x1 (wrap64 (x5 + 1)))) else (none)) else (aK.l1 k x0 x1 0)
def aK.l1 : Nat → ByteArray → ByteArray → Int → Option (Bool)
 | 0,_,_,_ => none
 | k + 1,x0,x1,x6 => if (wrap64 ((wrap64 (x6 + (x1.size : Int))) + 2)) ≤ (x0.size : Int) then (if 0 ≤ x6 then (if x6 < (x0.size : Int) then (if (bt x0 x6) = 32 then (if 0 ≤ (wrap64 (x6 + 1)) then (if (wrap64 (x6 + 1)) ≤ (wrap64 ((wrap64 (x6 + 1)) + (x1.size : Int))) then (if (wrap64 ((wrap64 (x6 + 1)) + (x1.size : Int))) ≤ (x0.size : Int) then (if (x0.extract ((wrap64 (x6 + 1)) : Int).toNat ((wrap64 ((wrap64 (x6 + 1)) + (x1.size : Int))) : Int).toNat).toList = x1.toList then (if 0 ≤ (wrap64 ((wrap64 (x6 + 1)) + (x1.size : Int))) then (if (wrap64 ((wrap64 (x6 + 1)) + (x1.size : Int))) < (x0.size : Int) then (if (bt x0 (wrap64 ((wrap64 (x6 + 1)) + (x1.size : Int)))) = 32 then (some true) else (aK.l1 k x0 x1 (wrap64 (x6 + 1)))) else (none)) else (none)) else (aK.l1 k x0 x1 (wrap64 (x6 + 1)))) else (none)) else (none)) else (none)) else (aK.l1 k x0 x1 (wrap64 (x6 + 1)))) else (none)) else (none)) else (some false)
end
def aK.f (k : Nat) (a0 : ByteArray) (a1 : ByteArray) : Option (Bool):=if a1.toList = ([] : List UInt8) then (some false) else (aK.l0 k a0 a1 0)
theorem aK.calls (k : Nat) (a0 : ByteArray) (a1 : ByteArray) (r : Bool) (w : World) (h : aK.f k a0 a1 = some r) :
 Calls Tryz.prog 97 #[.string a0,.string a1] w fun e w' => e = .returned (.bool r) ∧ au w w' := by
 have H : (if a1.toList = ([] : List UInt8) then (some false) else (aK.l0 k a0 a1 0)) = some r:=h;clear h;by_cases c3 : a1.toList = ([] : List UInt8)
 · rw [if_pos c3] at H;have kH : (a1.toList == ([] : List UInt8)) = true:=beq_iff_eq.mpr c3;clear c3;obtain rfl:=Option.some.inj H;go_enter Tryz.func97,Tryz.ntmps97
   go_wp2
   go_ret
   exact ⟨by first|rfl|(simp;done)|(simp [*];done),by repeat (first|exact au.refl _|apply au.step)⟩
 · rw [if_neg c3] at H;have kH : (a1.toList == ([] : List UInt8)) = false:=beq_eq_false_iff_ne.mpr c3;have H' := Ad.mk H;clear H;go_enter Tryz.func97,Tryz.ntmps97
   go_wp2
   go_loopg [5] k (fun kq v5 w' => ∃ (jX : Int),v5 = .int .i64 jX ∧ Ad (aK.l0 kq a0 a1 jX = some r) ∧ Ad (kq ≤ k) ∧ au w w')
   case atStart => exact ⟨(0),YF,H',⟨Nat.le_refl _⟩,by repeat (first|exact au.refl _|apply au.step)⟩
   case round =>
    clear H';try clear c3
    try clear kH
    obtain ⟨jX,rfl,HA,dN,⟨m1,rfl⟩⟩:=hrel;cases gk with
    | zero => exact absurd HA.out (by simp [aK.l0])
    | succ k1 =>
     have H:=HA.out;clear HA;simp only [aK.l0] at H;by_cases c4 : jX < (a1.size : Int)
     · rw [if_pos c4] at H;have lS:=decide_eq_true c4;clear c4;by_cases c5 : 0 ≤ jX
       · rw [if_pos c5] at H;have lq:=decide_eq_true c5;clear c5;by_cases c7 : (bt a1 jX) = 32
         · rw [if_pos c7] at H;have yC : ((bt a1 jX) == 32) = true:=beq_iff_eq.mpr c7;clear c7;obtain rfl:=Option.some.inj H;have p6 : 0 ≤ (jX : Int):=YA;have q6 : jX < (a1.size : Int):=YA;have hx6:=iF a1 jX;replace p6:=eq_true p6;replace q6:=eq_true q6;go_wp2
           go_ret
           exact ⟨by first|rfl|(simp;done)|(simp [*];done),by repeat (first|exact au.refl _|apply au.step)⟩
         · rw [if_neg c7] at H;have yC : ((bt a1 jX) == 32) = false:=beq_eq_false_iff_ne.mpr c7;have H' := Ad.mk H;clear H;have p6 : 0 ≤ (jX : Int):=YA;have q6 : jX < (a1.size : Int):=YA;have hx6:=iF a1 jX;replace p6:=eq_true p6;replace q6:=eq_true q6;go_wp2
           go_roundg k1
           case measure => have:=dN.out;omega
           case rel => exact ⟨(wrap64 (jX + 1)),YF,H',⟨by have:=dN.out;omega⟩,by repeat (first|exact au.refl _|apply au.step)⟩
       · rw [if_neg c5] at H;exact absurd H (by simp)
     · rw [if_neg c4] at H;have lS:=decide_eq_false c4;clear c4;have H' := Ad.mk H;clear H;go_wp2
       go_loopg [6] k1 (fun kq v6 w' => ∃ (nY : Int),v6 = .int .i64 nY ∧ Ad (aK.l1 kq a0 a1 nY = some r) ∧ Ad (kq ≤ k1) ∧ au w w')
       case atStart => exact ⟨(0),YF,H',⟨Nat.le_refl _⟩,by repeat (first|exact au.refl _|apply au.step)⟩
       case round =>
        clear H';try clear c3
        try clear kH
        try clear c4
        try clear lS
        obtain ⟨nY,rfl,HA,uz,⟨m2,rfl⟩⟩:=hrel;cases gk with
        | zero => exact absurd HA.out (by simp [aK.l1])
        | succ k2 =>
         have H:=HA.out;clear HA;simp only [aK.l1] at H;by_cases c8 : (wrap64 ((wrap64 (nY + (a1.size : Int))) + 2)) ≤ (a0.size : Int)
         · rw [if_pos c8] at H;have o8:=decide_eq_true c8;clear c8;by_cases c9 : 0 ≤ nY
           · rw [if_pos c9] at H;have E5:=decide_eq_true c9;clear c9;by_cases c10 : nY < (a0.size : Int)
             · rw [if_pos c10] at H;have wK:=decide_eq_true c10;clear c10;by_cases c12 : (bt a0 nY) = 32
               · rw [if_pos c12] at H;have E8 : ((bt a0 nY) == 32) = true:=beq_iff_eq.mpr c12;clear c12;obtain ⟨ny,Cc⟩ : ∃ j_ : Int,(wrap64 (nY + 1)) = j_:=⟨_,rfl⟩
                 replace H : (if 0 ≤ (ny) then (if (ny) ≤ (wrap64 ((ny) + (a1.size : Int))) then (if (wrap64 ((ny) + (a1.size : Int))) ≤ (a0.size : Int) then (if (a0.extract ((ny) : Int).toNat ((wrap64 ((ny) + (a1.size : Int))) : Int).toNat).toList = a1.toList then (if 0 ≤ (wrap64 ((ny) + (a1.size : Int))) then (if (wrap64 ((ny) + (a1.size : Int))) < (a0.size : Int) then (if (bt a0 (wrap64 ((ny) + (a1.size : Int)))) = 32 then (some true) else (aK.l1 k2 a0 a1 ny)) else (none)) else (none)) else (aK.l1 k2 a0 a1 ny)) else (none)) else (none)) else (none)) = some r:=by first|(rw [Cc] at H;exact H)|(simp only [Cc] at H ⊢;exact H)
                 have hji13w : (IntKind.i64.wrap (nY + 1)) = ny:=(bY _).trans Cc;by_cases c14 : 0 ≤ (ny)
                 · rw [if_pos c14] at H;have BQ:=eq_true c14;clear c14;by_cases c15 : (ny) ≤ (wrap64 ((ny) + (a1.size : Int)))
                   · rw [if_pos c15] at H;by_cases c16 : (wrap64 ((ny) + (a1.size : Int))) ≤ (a0.size : Int)
                     · rw [if_pos c16] at H;by_cases c17 : (a0.extract ((ny) : Int).toNat ((wrap64 ((ny) + (a1.size : Int))) : Int).toNat).toList = a1.toList
                       · rw [if_pos c17] at H;have xu : ((a0.extract ((ny) : Int).toNat ((wrap64 ((ny) + (a1.size : Int))) : Int).toNat).toList == a1.toList) = true:=beq_iff_eq.mpr c17;clear c17;obtain ⟨kQ,rZ⟩ : ∃ j_ : Int,(wrap64 ((ny) + (a1.size : Int))) = j_:=⟨_,rfl⟩
                         replace H : (if 0 ≤ (kQ) then (if (kQ) < (a0.size : Int) then (if (bt a0 (kQ)) = 32 then (some true) else (aK.l1 k2 a0 a1 ny)) else (none)) else (none)) = some r:=by first|(rw [rZ] at H;exact H)|(simp only [rZ] at H ⊢;exact H)
                         (try rw [rZ] at c15);(try rw [rZ] at c16);(try rw [rZ] at xu);have hji18w : (IntKind.i64.wrap ((ny) + (a1.size : Int))) = kQ:=(bY _).trans rZ;by_cases c19 : 0 ≤ (kQ)
                         · rw [if_pos c19] at H;have uS:=decide_eq_true c19;clear c19;by_cases c20 : (kQ) < (a0.size : Int)
                           · rw [if_pos c20] at H;have c20b0:=decide_eq_true c20;clear c20;by_cases c22 : (bt a0 (kQ)) = 32
                             · rw [if_pos c22] at H;have c22b0 : ((bt a0 (kQ)) == 32) = true:=beq_iff_eq.mpr c22;clear c22;obtain rfl:=Option.some.inj H;have p11 : 0 ≤ (nY : Int):=YA;have q11 : nY < (a0.size : Int):=YA;have hx11:=iF a0 nY;replace p11:=eq_true p11;replace q11:=eq_true q11;have p21 : 0 ≤ ((kQ) : Int):=YA;have q21 : (kQ) < (a0.size : Int):=YA;have hx21:=iF a0 (kQ);replace p21:=eq_true p21;replace q21:=eq_true q21;go_wp2
                               go_ret
                               exact ⟨by first|rfl|(simp;done)|(simp only [← Cc,← rZ] <;> (first|rfl|simp))|(simp [*];done),by repeat (first|exact au.refl _|apply au.step)⟩
                             · rw [if_neg c22] at H;have c22b0 : ((bt a0 (kQ)) == 32) = false:=beq_eq_false_iff_ne.mpr c22;have H' := Ad.mk H;clear H;have p11 : 0 ≤ (nY : Int):=YA;have q11 : nY < (a0.size : Int):=YA;have hx11:=iF a0 nY;replace p11:=eq_true p11;replace q11:=eq_true q11;have p21 : 0 ≤ ((kQ) : Int):=YA;have q21 : (kQ) < (a0.size : Int):=YA;have hx21:=iF a0 (kQ);replace p21:=eq_true p21;replace q21:=eq_true q21;go_wp2
                               go_roundg k2
                               case measure => have:=dN.out;have:=uz.out;omega
                               case rel => exact ⟨(ny),(by first|rfl|(simp;done)|(simp only [← Cc] <;> (first|rfl|simp))|(simp [*];done)),H',⟨by have:=dN.out;have:=uz.out;omega⟩,by repeat (first|exact au.refl _|apply au.step)⟩
                           · rw [if_neg c20] at H;exact absurd H (by simp)
                         · rw [if_neg c19] at H;exact absurd H (by simp)
                       · rw [if_neg c17] at H;have xu : ((a0.extract ((ny) : Int).toNat ((wrap64 ((ny) + (a1.size : Int))) : Int).toNat).toList == a1.toList) = false:=beq_eq_false_iff_ne.mpr c17;have H' := Ad.mk H;clear H;have p11 : 0 ≤ (nY : Int):=YA;have q11 : nY < (a0.size : Int):=YA;have hx11:=iF a0 nY;replace p11:=eq_true p11;replace q11:=eq_true q11;go_wp2
                         go_roundg k2
                         case measure => have:=dN.out;have:=uz.out;omega
                         case rel => exact ⟨(ny),(by first|rfl|(simp;done)|(simp only [← Cc] <;> (first|rfl|simp))|(simp [*];done)),H',⟨by have:=dN.out;have:=uz.out;omega⟩,by repeat (first|exact au.refl _|apply au.step)⟩
                     · rw [if_neg c16] at H;exact absurd H (by simp)
                   · rw [if_neg c15] at H;exact absurd H (by simp)
                 · rw [if_neg c14] at H;exact absurd H (by simp)
               · rw [if_neg c12] at H;have E8 : ((bt a0 nY) == 32) = false:=beq_eq_false_iff_ne.mpr c12;have H' := Ad.mk H;clear H;have p11 : 0 ≤ (nY : Int):=YA;have q11 : nY < (a0.size : Int):=YA;have hx11:=iF a0 nY;replace p11:=eq_true p11;replace q11:=eq_true q11;go_wp2
                 go_roundg k2
                 case measure => have:=dN.out;have:=uz.out;omega
                 case rel => exact ⟨(wrap64 (nY + 1)),YF,H',⟨by have:=dN.out;have:=uz.out;omega⟩,by repeat (first|exact au.refl _|apply au.step)⟩
             · rw [if_neg c10] at H;exact absurd H (by simp)
           · rw [if_neg c9] at H;exact absurd H (by simp)
         · rw [if_neg c8] at H;have o8:=decide_eq_false c8;clear c8;obtain rfl:=Option.some.inj H;go_wp2
           go_ret
           exact ⟨by first|rfl|(simp;done)|(simp [*];done),by repeat (first|exact au.refl _|apply au.step)⟩
end Go.Proofs.YtboojhadfhpdeaaGreatDoor.Q
