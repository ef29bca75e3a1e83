/- A part of the proof, made small by a program: Qx13, Qx15, Qx18, Qx19, Qx20, Qx21, R6, R18. -/
import Derived.Test.YtboojhadfhpdeaaGreatDoorVq2
import Derived.Test.YtboojhadfhpdeaaGreatDoorVq4
import Derived.Test.YtboojhadfhpdeaaGreatDoorVq7
set_option linter.unusedVariables false
set_option linter.unusedSimpArgs false
set_option maxHeartbeats 8000000
set_option maxRecDepth 100000
namespace Go.Proofs.YtboojhadfhpdeaaGreatDoor.Q
open Go.RowKit Go.Proofs.YtboojhadfhpdeaaGreatDoorW.PrintWords Go.Proofs.YtboojhadfhpdeaaGreatDoorW.PrintLast Go.Proofs.YtboojhadfhpdeaaGreatDoorW.PrintMore
attribute [local go_sem] fM fO gI gJ fD fE fP fQ
def jK.f (k : Nat) (a0 : ByteArray) : Option (Bool):=(bY.f k a0).bind fun Q9 => (if Q9 = true then ((gW.f k a0).bind fun EM => (some (!EM))) else (some false))
theorem jK.mono : ∀ a0 k,dM (jK.f k a0) (jK.f (k + 1) a0):=by
 intro a0 k;unfold jK.f
 repeat' first
  | (with_reducible exact bY.mono _ _)
  | (with_reducible exact gW.mono _ _)
  | (with_reducible exact dM.refl _)
  | (with_reducible exact dM.none _)
  | (with_reducible refine dM.ite ?_ ?_)
  | (with_reducible refine dM.bind ?_ (fun _ => ?_))
  | exact bY.mono _ _
  | exact gW.mono _ _
  | exact dM.none _
  | refine dM.ite ?_ ?_
  | refine dM.bind ?_ (fun _ => ?_)
theorem jK.calls (k : Nat) (a0 : ByteArray) (r : Bool) (w : World) (hG : dG w) (h : jK.f k a0 = some r) :
 Calls Tryz.prog 66 #[.string a0] w fun e w' => e = .returned (.bool r) ∧ Below w.heap.size w w' := by
 have HG:=Am hG;clear hG;have HB:=Am (Below.refl w.heap.size w);have H : ((bY.f k a0).bind fun Q9 => (if Q9 = true then ((gW.f k a0).bind fun EM => (some (!EM))) else (some false))) = some r:=h;clear h;replace H:=Option.bind_eq_some_iff.mp H;obtain ⟨Q9,xY,H⟩:=H;replace H : (if Q9 = true then ((gW.f k a0).bind fun EM => (some (!EM))) else (some false)) = some r:=H;have A2:=Am xY;clear xY;by_cases c3 : Q9 = true
 · subst c3;have H1 : ((gW.f k a0).bind fun EM => (some (!EM))) = some r:=by rw [if_pos rfl] at H;exact H
   clear H;have H:=H1;clear H1;replace H:=Option.bind_eq_some_iff.mp H;obtain ⟨EM,A40,H⟩:=H;replace H : (some (!EM)) = some r:=H;have A4:=Am A40;clear A40;obtain rfl:=Option.some.inj H;go_enter Tryz.func66,Tryz.ntmps66
   go_wp2_with (first|((with_reducible refine dh (f:=91) rfl ?_);refine gy (some 4) rfl rfl Tryz.func91 (by kernel_rfl) rfl #[.string a0] rfl (by (try simp only [List.map_toArray,List.map_cons,List.map_nil]);first|done|rfl|(simp only [List.length_drop,List.length_take];rfl)) ?_;(with_reducible refine (bY.calls k a0 true _ A2.out).mono ?_);rintro e w' ⟨rfl,⟨nd,rfl⟩⟩;refine ⟨_,rfl,?_⟩)|(go_at_call 92;(with_reducible refine (gW.calls k a0 EM _ ?dF A4.out).mono ?_);(case dF => refine dG.below HG.out ?_;repeat (first|(with_reducible first|exact HB.out|apply au|apply aj|apply aA)|exact HB.out));rintro e w5 ⟨rfl,hb⟩;replace HB:=Am (aN (by repeat (first|(with_reducible first|exact HB.out|apply au|apply aj|apply aA)|exact HB.out)) hb);(try clear hb)))
   go_ret
   exact ⟨by first|rfl|(simp [aT,aU] <;> rfl)|(simp [*,aT,aU] <;> rfl),by repeat (first|(with_reducible first|exact HB.out|apply au|apply aj|apply aA)|exact HB.out)⟩
 · replace c3:=Bool.eq_false_iff.mpr c3;subst c3;have H1 : (some false) = some r:=by rw [if_neg (show ¬ (false = true) by decide)] at H;exact H
   clear H;have H:=H1;clear H1;obtain rfl:=Option.some.inj H;go_enter Tryz.func66,Tryz.ntmps66
   go_wp2_with (first|((with_reducible refine dh (f:=91) rfl ?_);refine gy (some 4) rfl rfl Tryz.func91 (by kernel_rfl) rfl #[.string a0] rfl (by (try simp only [List.map_toArray,List.map_cons,List.map_nil]);first|done|rfl|(simp only [List.length_drop,List.length_take];rfl)) ?_;(with_reducible refine (bY.calls k a0 false _ A2.out).mono ?_);rintro e w' ⟨rfl,⟨nd,rfl⟩⟩;refine ⟨_,rfl,?_⟩))
   go_ret
   exact ⟨by first|rfl|(simp [aT,aU] <;> rfl)|(simp [*,aT,aU] <;> rfl),by repeat (first|(with_reducible first|exact HB.out|apply au|apply aj|apply aA)|exact HB.out)⟩
attribute [local go_sem] fM fO gI gJ fD fE fP fQ
def kD.f (a0 : ByteArray) (a1 : ByteArray) : Option (Bool):=if a1.toList = ([] : List UInt8) then (some false) else ((strings_Contains.f a1 (⟨#[32]⟩ : ByteArray)).bind fun Rf => (if Rf = true then (some false) else (if 1 + a0.size ≤ 9223372036854775807 then (if ((⟨#[32]⟩ : ByteArray) ++ a0).size + 1 ≤ 9223372036854775807 then (if 1 + a1.size ≤ 9223372036854775807 then (if ((⟨#[32]⟩ : ByteArray) ++ a1).size + 1 ≤ 9223372036854775807 then ((strings_Contains.f (((⟨#[32]⟩ : ByteArray) ++ a0) ++ (⟨#[32]⟩ : ByteArray)) (((⟨#[32]⟩ : ByteArray) ++ a1) ++ (⟨#[32]⟩ : ByteArray))).bind fun EO => (some EO)) else (none)) else (none)) else (none)) else (none))))
theorem kD.calls (a0 : ByteArray) (a1 : ByteArray) (r : Bool) (w : World) (hG : dG w) (h : kD.f a0 a1 = some r) :
 Calls Tryz.prog 68 #[.string a0,.string a1] w fun e w' => e = .returned (.bool r) ∧ Below w.heap.size w w' := by
 have HG:=Am hG;clear hG;have HB:=Am (Below.refl w.heap.size w);have H : (if a1.toList = ([] : List UInt8) then (some false) else ((strings_Contains.f a1 (⟨#[32]⟩ : ByteArray)).bind fun Rf => (if Rf = true then (some false) else (if 1 + a0.size ≤ 9223372036854775807 then (if ((⟨#[32]⟩ : ByteArray) ++ a0).size + 1 ≤ 9223372036854775807 then (if 1 + a1.size ≤ 9223372036854775807 then (if ((⟨#[32]⟩ : ByteArray) ++ a1).size + 1 ≤ 9223372036854775807 then ((strings_Contains.f (((⟨#[32]⟩ : ByteArray) ++ a0) ++ (⟨#[32]⟩ : ByteArray)) (((⟨#[32]⟩ : ByteArray) ++ a1) ++ (⟨#[32]⟩ : ByteArray))).bind fun EO => (some EO)) else (none)) else (none)) else (none)) else (none))))) = some r:=h;clear h;by_cases c3 : a1.toList = ([] : List UInt8)
 · rw [if_pos c3] at H;have ni : (a1.toList == ([] : List UInt8)) = true:=beq_iff_eq.mpr c3;have wJ : (a1.toList != ([] : List UInt8)) = false:=bne_eq_false_iff_eq.mpr c3;clear c3;obtain rfl:=Option.some.inj H;go_enter Tryz.func68,Tryz.ntmps68
   go_wp2
   go_ret
   exact ⟨by first|rfl|(simp [aT,aU] <;> rfl)|(simp [*,aT,aU] <;> rfl),by repeat (first|(with_reducible first|exact HB.out|apply au|apply aj|apply aA)|exact HB.out)⟩
 · rw [if_neg c3] at H;have ni : (a1.toList == ([] : List UInt8)) = false:=beq_eq_false_iff_ne.mpr c3;have wJ : (a1.toList != ([] : List UInt8)) = true:=bne_iff_ne.mpr c3;replace H:=Option.bind_eq_some_iff.mp H;obtain ⟨Rf,A40,H⟩:=H;replace H : (if Rf = true then (some false) else (if 1 + a0.size ≤ 9223372036854775807 then (if ((⟨#[32]⟩ : ByteArray) ++ a0).size + 1 ≤ 9223372036854775807 then (if 1 + a1.size ≤ 9223372036854775807 then (if ((⟨#[32]⟩ : ByteArray) ++ a1).size + 1 ≤ 9223372036854775807 then ((strings_Contains.f (((⟨#[32]⟩ : ByteArray) ++ a0) ++ (⟨#[32]⟩ : ByteArray)) (((⟨#[32]⟩ : ByteArray) ++ a1) ++ (⟨#[32]⟩ : ByteArray))).bind fun EO => (some EO)) else (none)) else (none)) else (none)) else (none))) = some r:=H;have A4:=Am A40;clear A40;by_cases c5 : Rf = true
   · subst c5;have H1 : (some false) = some r:=by rw [if_pos rfl] at H;exact H
     clear H;have H:=H1;clear H1;obtain rfl:=Option.some.inj H;go_enter Tryz.func68,Tryz.ntmps68
     go_wp2_with (first|(go_at_call 93;(with_reducible refine (strings_Contains.calls a1 (⟨#[32]⟩ : ByteArray) true _ ?dF A4.out).mono ?_);(case dF => refine dG.below HG.out ?_;repeat (first|(with_reducible first|exact HB.out|apply au|apply aj|apply aA)|exact HB.out));rintro e w6 ⟨rfl,hb⟩;replace HB:=Am (aN (by repeat (first|(with_reducible first|exact HB.out|apply au|apply aj|apply aA)|exact HB.out)) hb);(try clear hb)))
     go_ret
     exact ⟨by first|rfl|(simp [aT,aU] <;> rfl)|(simp [*,aT,aU] <;> rfl),by repeat (first|(with_reducible first|exact HB.out|apply au|apply aj|apply aA)|exact HB.out)⟩
   · replace c5:=Bool.eq_false_iff.mpr c5;subst c5;have H1 : (if 1 + a0.size ≤ 9223372036854775807 then (if ((⟨#[32]⟩ : ByteArray) ++ a0).size + 1 ≤ 9223372036854775807 then (if 1 + a1.size ≤ 9223372036854775807 then (if ((⟨#[32]⟩ : ByteArray) ++ a1).size + 1 ≤ 9223372036854775807 then ((strings_Contains.f (((⟨#[32]⟩ : ByteArray) ++ a0) ++ (⟨#[32]⟩ : ByteArray)) (((⟨#[32]⟩ : ByteArray) ++ a1) ++ (⟨#[32]⟩ : ByteArray))).bind fun EO => (some EO)) else (none)) else (none)) else (none)) else (none)) = some r:=by rw [if_neg (show ¬ (false = true) by decide)] at H;exact H
     clear H;have H:=H1;clear H1;by_cases c7 : 1 + a0.size ≤ 9223372036854775807
     · rw [if_pos c7] at H;have xJ:=eq_true c7;have JU:=decide_eq_true c7;try have c7b2 : (9223372036854775807 < 1 + a0.size) = False:=eq_false (Nat.not_lt.2 c7)
       by_cases c8 : ((⟨#[32]⟩ : ByteArray) ++ a0).size + 1 ≤ 9223372036854775807
       · rw [if_pos c8] at H;have wo:=eq_true c8;have QY:=decide_eq_true c8;try have c8b2 : (9223372036854775807 < ((⟨#[32]⟩ : ByteArray) ++ a0).size + 1) = False:=eq_false (Nat.not_lt.2 c8)
         have c8_z : (9223372036854775807 < 1 + a0.size + 1) = False:=eq_false (by have h_ : (⟨#[32]⟩ : ByteArray).size = 1:=rfl;rw [ByteArray.size_append,h_] at c8;omega);by_cases c9 : 1 + a1.size ≤ 9223372036854775807
         · rw [if_pos c9] at H;have BJ:=eq_true c9;have c9b1:=decide_eq_true c9;try have c9b2 : (9223372036854775807 < 1 + a1.size) = False:=eq_false (Nat.not_lt.2 c9)
           by_cases c10 : ((⟨#[32]⟩ : ByteArray) ++ a1).size + 1 ≤ 9223372036854775807
           · rw [if_pos c10] at H;have Bo:=eq_true c10;have c10b1:=decide_eq_true c10;try have c10b2 : (9223372036854775807 < ((⟨#[32]⟩ : ByteArray) ++ a1).size + 1) = False:=eq_false (Nat.not_lt.2 c10)
             have c10_z : (9223372036854775807 < 1 + a1.size + 1) = False:=eq_false (by have h_ : (⟨#[32]⟩ : ByteArray).size = 1:=rfl;rw [ByteArray.size_append,h_] at c10;omega);replace H:=Option.bind_eq_some_iff.mp H;obtain ⟨EO,A110,H⟩:=H;replace H : (some EO) = some r:=H;have A11:=Am A110;clear A110;obtain rfl:=Option.some.inj H;go_enter Tryz.func68,Tryz.ntmps68
             go_wp2_with (first|(go_at_call 93;(with_reducible refine (strings_Contains.calls a1 (⟨#[32]⟩ : ByteArray) false _ ?dF A4.out).mono ?_);(case dF => refine dG.below HG.out ?_;repeat (first|(with_reducible first|exact HB.out|apply au|apply aj|apply aA)|exact HB.out));rintro e w12 ⟨rfl,hb⟩;replace HB:=Am (aN (by repeat (first|(with_reducible first|exact HB.out|apply au|apply aj|apply aA)|exact HB.out)) hb);(try clear hb))|(go_at_call 93;(with_reducible refine (strings_Contains.calls (((⟨#[32]⟩ : ByteArray) ++ a0) ++ (⟨#[32]⟩ : ByteArray)) (((⟨#[32]⟩ : ByteArray) ++ a1) ++ (⟨#[32]⟩ : ByteArray)) EO _ ?dF A11.out).mono ?_);(case dF => refine dG.below HG.out ?_;repeat (first|(with_reducible first|exact HB.out|apply au|apply aj|apply aA)|exact HB.out));rintro e w13 ⟨rfl,hb⟩;replace HB:=Am (aN (by repeat (first|(with_reducible first|exact HB.out|apply au|apply aj|apply aA)|exact HB.out)) hb);(try clear hb)))
             go_ret
             exact ⟨by first|rfl|(simp [aT,aU] <;> rfl)|(simp [*,aT,aU] <;> rfl),by repeat (first|(with_reducible first|exact HB.out|apply au|apply aj|apply aA)|exact HB.out)⟩
           · rw [if_neg c10] at H;exact absurd H (by simp)
         · rw [if_neg c9] at H;exact absurd H (by simp)
       · rw [if_neg c8] at H;exact absurd H (by simp)
     · rw [if_neg c7] at H;exact absurd H (by simp)
attribute [local go_sem] fM fO gI gJ fD fE fP fQ
def stringslite_HasPrefix.f (a0 : ByteArray) (a1 : ByteArray) : Option (Bool):=if (a0.size : Int) ≥ (a1.size : Int) then (if 0 ≤ (a1.size : Int) then (if (a1.size : Int) ≤ (a0.size : Int) then (some ((a0.extract 0 ((a1.size : Int) : Int).toNat).toList == a1.toList)) else (none)) else (none)) else (some false)
theorem stringslite_HasPrefix.calls (a0 : ByteArray) (a1 : ByteArray) (r : Bool) (w : World) (h : stringslite_HasPrefix.f a0 a1 = some r) :
 Calls Tryz.prog 119 #[.string a0,.string a1] w fun e w' => e = .returned (.bool r) ∧ bH w w' := by
 have H : (if (a0.size : Int) ≥ (a1.size : Int) then (if 0 ≤ (a1.size : Int) then (if (a1.size : Int) ≤ (a0.size : Int) then (some ((a0.extract 0 ((a1.size : Int) : Int).toNat).toList == a1.toList)) else (none)) else (none)) else (some false)) = some r:=h;clear h;by_cases c3 : (a0.size : Int) ≥ (a1.size : Int)
 · rw [if_pos c3] at H;have ni : decide ((a1.size : Int) ≤ (a0.size : Int)) = true:=decide_eq_true c3;have wJ : decide (a1.size ≤ a0.size) = true:=decide_eq_true (Int.ofNat_le.mp c3);clear c3;by_cases c4 : 0 ≤ (a1.size : Int)
   · rw [if_pos c4] at H;have tC:=eq_true c4;have QZ:=decide_eq_true c4;clear c4;by_cases c5 : (a1.size : Int) ≤ (a0.size : Int)
     · rw [if_pos c5] at H;have sK:=eq_true c5;have MW:=decide_eq_true c5;clear c5;obtain rfl:=Option.some.inj H;go_enter Tryz.func119,Tryz.ntmps119
       go_wp2
       go_ret
       exact ⟨by first|rfl|(simp;done)|(simp [*];done),by repeat (first|exact bH.refl _|apply bH.step)⟩
     · rw [if_neg c5] at H;exact absurd H (by simp)
   · rw [if_neg c4] at H;exact absurd H (by simp)
 · rw [if_neg c3] at H;have ni : decide ((a1.size : Int) ≤ (a0.size : Int)) = false:=decide_eq_false c3;have wJ : decide (a1.size ≤ a0.size) = false:=decide_eq_false (fun h => c3 (Int.ofNat_le.mpr h));clear c3;obtain rfl:=Option.some.inj H;go_enter Tryz.func119,Tryz.ntmps119
   go_wp2
   go_ret
   exact ⟨by first|rfl|(simp;done)|(simp [*];done),by repeat (first|exact bH.refl _|apply bH.step)⟩
attribute [local go_sem] fM fO gI gJ fD fE fP fQ
def stringslite_CutPrefix.f (a0 : ByteArray) (a1 : ByteArray) : Option (ByteArray × Bool):=(stringslite_HasPrefix.f a0 a1).bind fun t117 => (if t117 = true then (if 0 ≤ (a1.size : Int) then (if (a1.size : Int) ≤ (a0.size : Int) then (some (a0.extract ((a1.size : Int) : Int).toNat a0.size,true)) else (none)) else (none)) else (some (a0,false)))
theorem stringslite_CutPrefix.calls (a0 : ByteArray) (a1 : ByteArray) (r1 : ByteArray) (r2 : Bool) (w : World) (h : stringslite_CutPrefix.f a0 a1 = some (r1,r2)) :
 Calls Tryz.prog 113 #[.string a0,.string a1] w fun e w' => e = .returned (.tuple #[.string r1,.bool r2]) ∧ bH w w' := by
 have H : ((stringslite_HasPrefix.f a0 a1).bind fun t117 => (if t117 = true then (if 0 ≤ (a1.size : Int) then (if (a1.size : Int) ≤ (a0.size : Int) then (some (a0.extract ((a1.size : Int) : Int).toNat a0.size,true)) else (none)) else (none)) else (some (a0,false)))) = some (r1,r2):=h;clear h;replace H:=Option.bind_eq_some_iff.mp H;obtain ⟨t117,A30,H⟩:=H;replace H : (if t117 = true then (if 0 ≤ (a1.size : Int) then (if (a1.size : Int) ≤ (a0.size : Int) then (some (a0.extract ((a1.size : Int) : Int).toNat a0.size,true)) else (none)) else (none)) else (some (a0,false))) = some (r1,r2):=H;have A3:=Am A30;clear A30;by_cases c4 : t117 = true
 · subst c4;have H1 : (if 0 ≤ (a1.size : Int) then (if (a1.size : Int) ≤ (a0.size : Int) then (some (a0.extract ((a1.size : Int) : Int).toNat a0.size,true)) else (none)) else (none)) = some (r1,r2):=by rw [if_pos rfl] at H;exact H
   clear H;have H:=H1;clear H1;by_cases c5 : 0 ≤ (a1.size : Int)
   · rw [if_pos c5] at H;have sK:=eq_true c5;have MW:=decide_eq_true c5;clear c5;by_cases c6 : (a1.size : Int) ≤ (a0.size : Int)
     · rw [if_pos c6] at H;have qm:=eq_true c6;have c6b1:=decide_eq_true c6;clear c6;simp only [Option.some.injEq,Prod.mk.injEq] at H;obtain ⟨rfl,rfl⟩:=H;go_enter Tryz.func113,Tryz.ntmps113
       go_wp2_with (first|((with_reducible refine dh (f:=119) rfl ?_);refine gy (some 8) rfl rfl Tryz.func119 (by kernel_rfl) rfl #[.string a0,.string a1] rfl (by (try simp only [List.map_toArray,List.map_cons,List.map_nil]);first|done|rfl|(simp only [List.length_drop,List.length_take];rfl)) ?_;(with_reducible refine (stringslite_HasPrefix.calls a0 a1 true _ A3.out).mono ?_);rintro e w' ⟨rfl,⟨nd,rfl⟩⟩;refine ⟨_,rfl,?_⟩))
       go_ret2
       exact ⟨by first|rfl|(simp;done)|(simp [*];done),by repeat (first|exact bH.refl _|apply bH.step)⟩
     · rw [if_neg c6] at H;exact absurd H (by simp)
   · rw [if_neg c5] at H;exact absurd H (by simp)
 · replace c4:=Bool.eq_false_iff.mpr c4;subst c4;have H1 : (some (a0,false)) = some (r1,r2):=by rw [if_neg (show ¬ (false = true) by decide)] at H;exact H
   clear H;have H:=H1;clear H1;simp only [Option.some.injEq,Prod.mk.injEq] at H;obtain ⟨rfl,rfl⟩:=H;go_enter Tryz.func113,Tryz.ntmps113
   go_wp2_with (first|((with_reducible refine dh (f:=119) rfl ?_);refine gy (some 8) rfl rfl Tryz.func119 (by kernel_rfl) rfl #[.string a0,.string a1] rfl (by (try simp only [List.map_toArray,List.map_cons,List.map_nil]);first|done|rfl|(simp only [List.length_drop,List.length_take];rfl)) ?_;(with_reducible refine (stringslite_HasPrefix.calls a0 a1 false _ A3.out).mono ?_);rintro e w' ⟨rfl,⟨nd,rfl⟩⟩;refine ⟨_,rfl,?_⟩))
   go_ret2
   exact ⟨by first|rfl|(simp;done)|(simp [*];done),by repeat (first|exact bH.refl _|apply bH.step)⟩
attribute [local go_sem] fM fO gI gJ fD fE fP fQ
def strings_CutPrefix.f (a0 : ByteArray) (a1 : ByteArray) : Option (ByteArray × Bool):=(stringslite_CutPrefix.f a0 a1).bind fun eG => (some (eG.1,eG.2))
theorem strings_CutPrefix.calls (a0 : ByteArray) (a1 : ByteArray) (r1 : ByteArray) (r2 : Bool) (w : World) (h : strings_CutPrefix.f a0 a1 = some (r1,r2)) :
 Calls Tryz.prog 95 #[.string a0,.string a1] w fun e w' => e = .returned (.tuple #[.string r1,.bool r2]) ∧ bH w w' := by
 have H : ((stringslite_CutPrefix.f a0 a1).bind fun eG => (some (eG.1,eG.2))) = some (r1,r2):=h;clear h;replace H:=Option.bind_eq_some_iff.mp H;obtain ⟨⟨jO,t119⟩,A30,H⟩:=H;replace H : (some (jO,t119)) = some (r1,r2):=H;have A3:=Am A30;clear A30;simp only [Option.some.injEq,Prod.mk.injEq] at H;obtain ⟨rfl,rfl⟩:=H;go_enter Tryz.func95,Tryz.ntmps95
 go_wp2_with (first|((with_reducible refine dh (f:=113) rfl ?_);refine gy (some 8) rfl rfl Tryz.func113 (by kernel_rfl) rfl #[.string a0,.string a1] rfl (by (try simp only [List.map_toArray,List.map_cons,List.map_nil]);first|done|rfl|(simp only [List.length_drop,List.length_take];rfl)) ?_;(with_reducible refine (stringslite_CutPrefix.calls a0 a1 jO t119 _ A3.out).mono ?_);rintro e w' ⟨rfl,⟨nd,rfl⟩⟩;refine ⟨_,rfl,?_⟩))
 go_ret2
 exact ⟨by first|rfl|(simp;done)|(simp [*];done),by repeat (first|exact bH.refl _|apply bH.step)⟩
attribute [local go_sem] fM fO gI gJ fD fE fP fQ
def nJ.f (k : Nat) (a0 : ByteArray) : Option (Bool):=(strings_CutPrefix.f a0 (⟨#[115,116,114,117,99,116,32]⟩ : ByteArray)).bind fun J5 => (if J5.2 = true then ((jK.f k J5.1).bind fun jA => (if jA = true then (some true) else ((kD.f (⟨#[105,110,116,32,117,105,110,116,32,99,104,97,114,32,118,111,105,100]⟩ : ByteArray) a0).bind fun zl => (some zl)))) else ((kD.f (⟨#[105,110,116,32,117,105,110,116,32,99,104,97,114,32,118,111,105,100]⟩ : ByteArray) a0).bind fun t124 => (some t124)))
theorem nJ.mono : ∀ a0 k,dM (nJ.f k a0) (nJ.f (k + 1) a0):=by
 intro a0 k;unfold nJ.f
 repeat' first
  | (with_reducible exact jK.mono _ _)
  | (with_reducible exact dM.refl _)
  | (with_reducible exact dM.none _)
  | (with_reducible refine dM.ite ?_ ?_)
  | (with_reducible refine dM.bind ?_ (fun _ => ?_))
  | exact jK.mono _ _
  | exact dM.none _
  | refine dM.ite ?_ ?_
  | refine dM.bind ?_ (fun _ => ?_)
theorem nJ.calls (k : Nat) (a0 : ByteArray) (r : Bool) (w : World) (hG : dG w) (h : nJ.f k a0 = some r) :
 Calls Tryz.prog 72 #[.string a0] w fun e w' => e = .returned (.bool r) ∧ Below w.heap.size w w' := by
 have HG:=Am hG;clear hG;have HB:=Am (Below.refl w.heap.size w);have H : ((strings_CutPrefix.f a0 (⟨#[115,116,114,117,99,116,32]⟩ : ByteArray)).bind fun J5 => (if J5.2 = true then ((jK.f k J5.1).bind fun jA => (if jA = true then (some true) else ((kD.f (⟨#[105,110,116,32,117,105,110,116,32,99,104,97,114,32,118,111,105,100]⟩ : ByteArray) a0).bind fun zl => (some zl)))) else ((kD.f (⟨#[105,110,116,32,117,105,110,116,32,99,104,97,114,32,118,111,105,100]⟩ : ByteArray) a0).bind fun t124 => (some t124)))) = some r:=h;clear h;replace H:=Option.bind_eq_some_iff.mp H;obtain ⟨⟨jG,jY⟩,xY,H⟩:=H;replace H : (if jY = true then ((jK.f k jG).bind fun jA => (if jA = true then (some true) else ((kD.f (⟨#[105,110,116,32,117,105,110,116,32,99,104,97,114,32,118,111,105,100]⟩ : ByteArray) a0).bind fun zl => (some zl)))) else ((kD.f (⟨#[105,110,116,32,117,105,110,116,32,99,104,97,114,32,118,111,105,100]⟩ : ByteArray) a0).bind fun t124 => (some t124))) = some r:=H;have A2:=Am xY;clear xY;by_cases c3 : jY = true
 · subst c3;have H1 : ((jK.f k jG).bind fun jA => (if jA = true then (some true) else ((kD.f (⟨#[105,110,116,32,117,105,110,116,32,99,104,97,114,32,118,111,105,100]⟩ : ByteArray) a0).bind fun zl => (some zl)))) = some r:=by rw [if_pos rfl] at H;exact H
   clear H;have H:=H1;clear H1;replace H:=Option.bind_eq_some_iff.mp H;obtain ⟨jA,A40,H⟩:=H;replace H : (if jA = true then (some true) else ((kD.f (⟨#[105,110,116,32,117,105,110,116,32,99,104,97,114,32,118,111,105,100]⟩ : ByteArray) a0).bind fun zl => (some zl))) = some r:=H;have A4:=Am A40;clear A40;by_cases c5 : jA = true
   · subst c5;have H1 : (some true) = some r:=by rw [if_pos rfl] at H;exact H
     clear H;have H:=H1;clear H1;obtain rfl:=Option.some.inj H;go_enter Tryz.func72,Tryz.ntmps72
     go_wp2_with (first|((with_reducible refine dh (f:=95) rfl ?_);refine gy (some 7) rfl rfl Tryz.func95 (by kernel_rfl) rfl #[.string a0,.string (⟨#[115,116,114,117,99,116,32]⟩ : ByteArray)] rfl (by (try simp only [List.map_toArray,List.map_cons,List.map_nil]);first|done|rfl|(simp only [List.length_drop,List.length_take];rfl)) ?_;(with_reducible refine (strings_CutPrefix.calls a0 (⟨#[115,116,114,117,99,116,32]⟩ : ByteArray) jG true _ A2.out).mono ?_);rintro e w' ⟨rfl,⟨nd,rfl⟩⟩;refine ⟨_,rfl,?_⟩)|(go_at_call 66;(with_reducible refine (jK.calls k jG true _ ?dF A4.out).mono ?_);(case dF => refine dG.below HG.out ?_;repeat (first|(with_reducible first|exact HB.out|apply au|apply aj|apply aA)|exact HB.out));rintro e w6 ⟨rfl,hb⟩;replace HB:=Am (aN (by repeat (first|(with_reducible first|exact HB.out|apply au|apply aj|apply aA)|exact HB.out)) hb);(try clear hb)))
     go_ret
     exact ⟨by first|rfl|(simp [aT,aU] <;> rfl)|(simp [*,aT,aU] <;> rfl),by repeat (first|(with_reducible first|exact HB.out|apply au|apply aj|apply aA)|exact HB.out)⟩
   · replace c5:=Bool.eq_false_iff.mpr c5;subst c5;have H1 : ((kD.f (⟨#[105,110,116,32,117,105,110,116,32,99,104,97,114,32,118,111,105,100]⟩ : ByteArray) a0).bind fun zl => (some zl)) = some r:=by rw [if_neg (show ¬ (false = true) by decide)] at H;exact H
     clear H;have H:=H1;clear H1;replace H:=Option.bind_eq_some_iff.mp H;obtain ⟨zl,JM,H⟩:=H;replace H : (some zl) = some r:=H;have A7:=Am JM;clear JM;obtain rfl:=Option.some.inj H;go_enter Tryz.func72,Tryz.ntmps72
     go_wp2_with (first|((with_reducible refine dh (f:=95) rfl ?_);refine gy (some 7) rfl rfl Tryz.func95 (by kernel_rfl) rfl #[.string a0,.string (⟨#[115,116,114,117,99,116,32]⟩ : ByteArray)] rfl (by (try simp only [List.map_toArray,List.map_cons,List.map_nil]);first|done|rfl|(simp only [List.length_drop,List.length_take];rfl)) ?_;(with_reducible refine (strings_CutPrefix.calls a0 (⟨#[115,116,114,117,99,116,32]⟩ : ByteArray) jG true _ A2.out).mono ?_);rintro e w' ⟨rfl,⟨nd,rfl⟩⟩;refine ⟨_,rfl,?_⟩)|(go_at_call 66;(with_reducible refine (jK.calls k jG false _ ?dF A4.out).mono ?_);(case dF => refine dG.below HG.out ?_;repeat (first|(with_reducible first|exact HB.out|apply au|apply aj|apply aA)|exact HB.out));rintro e w8 ⟨rfl,hb⟩;replace HB:=Am (aN (by repeat (first|(with_reducible first|exact HB.out|apply au|apply aj|apply aA)|exact HB.out)) hb);(try clear hb))|(go_at_call 68;(with_reducible refine (kD.calls (⟨#[105,110,116,32,117,105,110,116,32,99,104,97,114,32,118,111,105,100]⟩ : ByteArray) a0 zl _ ?dF A7.out).mono ?_);(case dF => refine dG.below HG.out ?_;repeat (first|(with_reducible first|exact HB.out|apply au|apply aj|apply aA)|exact HB.out));rintro e w9 ⟨rfl,hb⟩;replace HB:=Am (aN (by repeat (first|(with_reducible first|exact HB.out|apply au|apply aj|apply aA)|exact HB.out)) hb);(try clear hb)))
     go_ret
     exact ⟨by first|rfl|(simp [aT,aU] <;> rfl)|(simp [*,aT,aU] <;> rfl),by repeat (first|(with_reducible first|exact HB.out|apply au|apply aj|apply aA)|exact HB.out)⟩
 · replace c3:=Bool.eq_false_iff.mpr c3;subst c3;have H1 : ((kD.f (⟨#[105,110,116,32,117,105,110,116,32,99,104,97,114,32,118,111,105,100]⟩ : ByteArray) a0).bind fun t124 => (some t124)) = some r:=by rw [if_neg (show ¬ (false = true) by decide)] at H;exact H
   clear H;have H:=H1;clear H1;replace H:=Option.bind_eq_some_iff.mp H;obtain ⟨t124,J6,H⟩:=H;replace H : (some t124) = some r:=H;have A10:=Am J6;clear J6;obtain rfl:=Option.some.inj H;go_enter Tryz.func72,Tryz.ntmps72
   go_wp2_with (first|((with_reducible refine dh (f:=95) rfl ?_);refine gy (some 7) rfl rfl Tryz.func95 (by kernel_rfl) rfl #[.string a0,.string (⟨#[115,116,114,117,99,116,32]⟩ : ByteArray)] rfl (by (try simp only [List.map_toArray,List.map_cons,List.map_nil]);first|done|rfl|(simp only [List.length_drop,List.length_take];rfl)) ?_;(with_reducible refine (strings_CutPrefix.calls a0 (⟨#[115,116,114,117,99,116,32]⟩ : ByteArray) jG false _ A2.out).mono ?_);rintro e w' ⟨rfl,⟨nd,rfl⟩⟩;refine ⟨_,rfl,?_⟩)|(go_at_call 68;(with_reducible refine (kD.calls (⟨#[105,110,116,32,117,105,110,116,32,99,104,97,114,32,118,111,105,100]⟩ : ByteArray) a0 t124 _ ?dF A10.out).mono ?_);(case dF => refine dG.below HG.out ?_;repeat (first|(with_reducible first|exact HB.out|apply au|apply aj|apply aA)|exact HB.out));rintro e LD ⟨rfl,hb⟩;replace HB:=Am (aN (by repeat (first|(with_reducible first|exact HB.out|apply au|apply aj|apply aA)|exact HB.out)) hb);(try clear hb)))
   go_ret
   exact ⟨by first|rfl|(simp [aT,aU] <;> rfl)|(simp [*,aT,aU] <;> rfl),by repeat (first|(with_reducible first|exact HB.out|apply au|apply aj|apply aA)|exact HB.out)⟩
attribute [local go_sem] fM fO gI gJ fD fE fP fQ
def iO.f (k : Nat) (a0 : ByteArray) : Option (Bool):=(bg.f k a0).bind fun AV => (if AV = true then ((bC.f k a0).bind fun qc => (some (!qc))) else (some false))
theorem iO.mono : ∀ a0 k,dM (iO.f k a0) (iO.f (k + 1) a0):=by
 intro a0 k;unfold iO.f
 repeat' first
  | (with_reducible exact bg.mono _ _)
  | (with_reducible exact bC.mono _ _)
  | (with_reducible exact dM.refl _)
  | (with_reducible exact dM.none _)
  | (with_reducible refine dM.ite ?_ ?_)
  | (with_reducible refine dM.bind ?_ (fun _ => ?_))
  | exact bg.mono _ _
  | exact bC.mono _ _
  | exact dM.none _
  | refine dM.ite ?_ ?_
  | refine dM.bind ?_ (fun _ => ?_)
theorem iO.calls (k : Nat) (a0 : ByteArray) (r : Bool) (w : World) (h : iO.f k a0 = some r) :
 Calls Tryz.prog 34 #[.string a0] w fun e w' => e = .returned (.bool r) ∧ bH w w' := by
 have H : ((bg.f k a0).bind fun AV => (if AV = true then ((bC.f k a0).bind fun qc => (some (!qc))) else (some false))) = some r:=h;clear h;replace H:=Option.bind_eq_some_iff.mp H;obtain ⟨AV,xY,H⟩:=H;replace H : (if AV = true then ((bC.f k a0).bind fun qc => (some (!qc))) else (some false)) = some r:=H;have A2:=Am xY;clear xY;by_cases c3 : AV = true
 · subst c3;have H1 : ((bC.f k a0).bind fun qc => (some (!qc))) = some r:=by rw [if_pos rfl] at H;exact H
   clear H;have H:=H1;clear H1;replace H:=Option.bind_eq_some_iff.mp H;obtain ⟨qc,A40,H⟩:=H;replace H : (some (!qc)) = some r:=H;have A4:=Am A40;clear A40;obtain rfl:=Option.some.inj H;go_enter Tryz.func34,Tryz.ntmps34
   go_wp2_with (first|((with_reducible refine dh (f:=47) rfl ?_);refine gy (some 4) rfl rfl Tryz.func47 (by kernel_rfl) rfl #[.string a0] rfl (by (try simp only [List.map_toArray,List.map_cons,List.map_nil]);first|done|rfl|(simp only [List.length_drop,List.length_take];rfl)) ?_;(with_reducible refine (bg.calls k a0 true _ A2.out).mono ?_);rintro e w' ⟨rfl,⟨nd,rfl⟩⟩;refine ⟨_,rfl,?_⟩)|(go_at_call 48;(with_reducible refine (bC.calls k a0 qc _ A4.out).mono ?_);rintro e w' ⟨rfl,⟨nd,rfl⟩⟩))
   go_ret
   exact ⟨by first|rfl|(simp;done)|(simp [*];done),by repeat (first|exact bH.refl _|apply bH.step)⟩
 · replace c3:=Bool.eq_false_iff.mpr c3;subst c3;have H1 : (some false) = some r:=by rw [if_neg (show ¬ (false = true) by decide)] at H;exact H
   clear H;have H:=H1;clear H1;obtain rfl:=Option.some.inj H;go_enter Tryz.func34,Tryz.ntmps34
   go_wp2_with (first|((with_reducible refine dh (f:=47) rfl ?_);refine gy (some 4) rfl rfl Tryz.func47 (by kernel_rfl) rfl #[.string a0] rfl (by (try simp only [List.map_toArray,List.map_cons,List.map_nil]);first|done|rfl|(simp only [List.length_drop,List.length_take];rfl)) ?_;(with_reducible refine (bg.calls k a0 false _ A2.out).mono ?_);rintro e w' ⟨rfl,⟨nd,rfl⟩⟩;refine ⟨_,rfl,?_⟩))
   go_ret
   exact ⟨by first|rfl|(simp;done)|(simp [*];done),by repeat (first|exact bH.refl _|apply bH.step)⟩
attribute [local go_sem] fM fO gI gJ fD fE fP fQ
mutual
def bF.l0 : Nat → ByteArray → ByteArray → Int → Option (Bool)
 | 0,_,_,_ => none
 | k + 1,x0,x1,x5 => if x5 < (x1.size : Int) then (if 0 ≤ x5 then (if (bt x1 x5) = 32 then (some false) else (bF.l0 k x0 x1 (wrap64 (x5 + 1)))) else (none)) else (bF.l1 k x0 x1 0)
def bF.l1 : Nat → ByteArray → ByteArray → Int → Option (Bool)
 | 0,_,_,_ => none
 | k + 1,x0,x1,x6 => if (wrap64 ((wrap64 (x6 + (x1.size : Int))) + 2)) ≤ (x0.size : Int) then (if 0 ≤ x6 then (if x6 < (x0.size : Int) then (if (bt x0 x6) = 32 then (if 0 ≤ (wrap64 (x6 + 1)) then (if (wrap64 (x6 + 1)) ≤ (wrap64 ((wrap64 (x6 + 1)) + (x1.size : Int))) then (if (wrap64 ((wrap64 (x6 + 1)) + (x1.size : Int))) ≤ (x0.size : Int) then (if (x0.extract ((wrap64 (x6 + 1)) : Int).toNat ((wrap64 ((wrap64 (x6 + 1)) + (x1.size : Int))) : Int).toNat).toList = x1.toList then (if 0 ≤ (wrap64 ((wrap64 (x6 + 1)) + (x1.size : Int))) then (if (wrap64 ((wrap64 (x6 + 1)) + (x1.size : Int))) < (x0.size : Int) then (if (bt x0 (wrap64 ((wrap64 (x6 + 1)) + (x1.size : Int)))) = 32 then (some true) else (bF.l1 k x0 x1 (wrap64 (x6 + 1)))) else (none)) else (none)) else (bF.l1 k x0 x1 (wrap64 (x6 + 1)))) else (none)) else (none)) else (none)) else (bF.l1 k x0 x1 (wrap64 (x6 + 1)))) else (none)) else (none)) else (some false)
end
def bF.f (k : Nat) (a0 : ByteArray) (a1 : ByteArray) : Option (Bool):=if a1.toList = ([] : List UInt8) then (some false) else (bF.l0 k a0 a1 0)
theorem bF.gB : ∀ k,(∀ y0 y1 y2,dM (bF.l0 k y0 y1 y2) (bF.l0 (k + 1) y0 y1 y2)) ∧ (∀ y0 y1 y2,dM (bF.l1 k y0 y1 y2) (bF.l1 (k + 1) y0 y1 y2))
 | 0 => ⟨fun _ _ _ r h => by simp [bF.l0] at h,fun _ _ _ r h => by simp [bF.l1] at h⟩
 | k + 1 => by
  obtain ⟨kT,ih1⟩:=bF.gB k;refine ⟨?_,?_⟩
  · intro y0 y1 y2;unfold bF.l0
    repeat' first
    | (with_reducible exact kT _ _ _)
    | (with_reducible exact ih1 _ _ _)
    | (with_reducible exact dM.refl _)
    | (with_reducible exact dM.none _)
    | (with_reducible refine dM.ite ?_ ?_)
    | (with_reducible refine dM.bind ?_ (fun _ => ?_))
    | exact kT _ _ _
    | exact ih1 _ _ _
    | exact dM.none _
    | refine dM.ite ?_ ?_
    | refine dM.bind ?_ (fun _ => ?_)
  · intro y0 y1 y2;unfold bF.l1
    repeat' first
    | (with_reducible exact kT _ _ _)
    | (with_reducible exact ih1 _ _ _)
    | (with_reducible exact dM.refl _)
    | (with_reducible exact dM.none _)
    | (with_reducible refine dM.ite ?_ ?_)
    | (with_reducible refine dM.bind ?_ (fun _ => ?_))
    | exact kT _ _ _
    | exact ih1 _ _ _
    | exact dM.none _
    | refine dM.ite ?_ ?_
    | refine dM.bind ?_ (fun _ => ?_)
theorem bF.mono : ∀ a0 a1 k,dM (bF.f k a0 a1) (bF.f (k + 1) a0 a1):=by
 intro a0 a1 k;obtain ⟨kT,ih1⟩:=bF.gB k;unfold bF.f
 repeat' first
  | (with_reducible exact kT _ _ _)
  | (with_reducible exact ih1 _ _ _)
  | (with_reducible exact dM.refl _)
  | (with_reducible exact dM.none _)
  | (with_reducible refine dM.ite ?_ ?_)
  | (with_reducible refine dM.bind ?_ (fun _ => ?_))
  | exact kT _ _ _
  | exact ih1 _ _ _
  | exact dM.none _
  | refine dM.ite ?_ ?_
  | refine dM.bind ?_ (fun _ => ?_)
theorem bF.calls (k : Nat) (a0 : ByteArray) (a1 : ByteArray) (r : Bool) (w : World) (h : bF.f k a0 a1 = some r) :
 Calls Tryz.prog 97 #[.string a0,.string a1] w fun e w' => e = .returned (.bool r) ∧ bH w w' := by
 have H : (if a1.toList = ([] : List UInt8) then (some false) else (bF.l0 k a0 a1 0)) = some r:=h;clear h;by_cases c3 : a1.toList = ([] : List UInt8)
 · rw [if_pos c3] at H;have ni : (a1.toList == ([] : List UInt8)) = true:=beq_iff_eq.mpr c3;have wJ : (a1.toList != ([] : List UInt8)) = false:=bne_eq_false_iff_eq.mpr c3;clear c3;obtain rfl:=Option.some.inj H;go_enter Tryz.func97,Tryz.ntmps97
   go_wp2
   go_ret
   exact ⟨by first|rfl|(simp;done)|(simp [*];done),by repeat (first|exact bH.refl _|apply bH.step)⟩
 · rw [if_neg c3] at H;have ni : (a1.toList == ([] : List UInt8)) = false:=beq_eq_false_iff_ne.mpr c3;have wJ : (a1.toList != ([] : List UInt8)) = true:=bne_iff_ne.mpr c3;have H' := Am H;clear H;go_enter Tryz.func97,Tryz.ntmps97
   go_wp2
   go_loopg [5] k (fun kq v5 w' => ∃ (kJ : Int),v5 = .int .i64 kJ ∧ ah (bF.l0 kq a0 a1 kJ = some r) ∧ ah (kq ≤ k) ∧ bH w w')
   case atStart => exact ⟨(0),YF,H',⟨Nat.le_refl _⟩,by repeat (first|exact bH.refl _|apply bH.step)⟩
   case round =>
    clear H';try clear c3
    try clear ni
    try clear wJ
    obtain ⟨kJ,rfl,HA,jm,⟨m1,rfl⟩⟩:=hrel;cases gk with
    | zero => exact absurd HA.out (by simp [bF.l0])
    | succ k1 =>
     have H:=HA.out;clear HA;simp only [bF.l0] at H;by_cases c4 : kJ < (a1.size : Int)
     · rw [if_pos c4] at H;have tC:=decide_eq_true c4;clear c4;by_cases c5 : 0 ≤ kJ
       · rw [if_pos c5] at H;have sK:=decide_eq_true c5;clear c5;by_cases c7 : (bt a1 kJ) = 32
         · rw [if_pos c7] at H;have xJ : ((bt a1 kJ) == 32) = true:=beq_iff_eq.mpr c7;have JU : ((bt a1 kJ) != 32) = false:=bne_eq_false_iff_eq.mpr c7;clear c7;obtain rfl:=Option.some.inj H;have p6 : 0 ≤ (kJ : Int):=YA;have q6 : kJ < (a1.size : Int):=YA;have hx6:=kY a1 kJ;replace p6:=eq_true p6;replace q6:=eq_true q6;go_wp2
           go_ret
           exact ⟨by first|rfl|(simp;done)|(simp [*];done),by repeat (first|exact bH.refl _|apply bH.step)⟩
         · rw [if_neg c7] at H;have xJ : ((bt a1 kJ) == 32) = false:=beq_eq_false_iff_ne.mpr c7;have JU : ((bt a1 kJ) != 32) = true:=bne_iff_ne.mpr c7;have H' := Am H;clear H;have p6 : 0 ≤ (kJ : Int):=YA;have q6 : kJ < (a1.size : Int):=YA;have hx6:=kY a1 kJ;replace p6:=eq_true p6;replace q6:=eq_true q6;go_wp2
           go_roundg k1
           case measure => have:=jm.out;omega
           case rel => exact ⟨(wrap64 (kJ + 1)),YF,H',⟨by have:=jm.out;omega⟩,by repeat (first|exact bH.refl _|apply bH.step)⟩
       · rw [if_neg c5] at H;exact absurd H (by simp)
     · rw [if_neg c4] at H;have tC:=decide_eq_false c4;clear c4;have H' := Am H;clear H;go_wp2
       go_loopg [6] k1 (fun kq v6 w' => ∃ (qG : Int),v6 = .int .i64 qG ∧ ah (bF.l1 kq a0 a1 qG = some r) ∧ ah (kq ≤ k1) ∧ bH w w')
       case atStart => exact ⟨(0),YF,H',⟨Nat.le_refl _⟩,by repeat (first|exact bH.refl _|apply bH.step)⟩
       case round =>
        clear H';try clear c3
        try clear ni
        try clear wJ
        try clear c4
        try clear tC
        obtain ⟨qG,rfl,HA,AQ,⟨m2,rfl⟩⟩:=hrel;cases gk with
        | zero => exact absurd HA.out (by simp [bF.l1])
        | succ k2 =>
         have H:=HA.out;clear HA;simp only [bF.l1] at H;by_cases c8 : (wrap64 ((wrap64 (qG + (a1.size : Int))) + 2)) ≤ (a0.size : Int)
         · rw [if_pos c8] at H;have wo:=decide_eq_true c8;clear c8;by_cases c9 : 0 ≤ qG
           · rw [if_pos c9] at H;have BJ:=decide_eq_true c9;clear c9;by_cases c10 : qG < (a0.size : Int)
             · rw [if_pos c10] at H;have Bo:=decide_eq_true c10;clear c10;by_cases c12 : (bt a0 qG) = 32
               · rw [if_pos c12] at H;have JW : ((bt a0 qG) == 32) = true:=beq_iff_eq.mpr c12;have c12b1 : ((bt a0 qG) != 32) = false:=bne_eq_false_iff_eq.mpr c12;clear c12;obtain ⟨oK,FD⟩ : ∃ j_ : Int,(wrap64 (qG + 1)) = j_:=⟨_,rfl⟩
                 replace H : (if 0 ≤ (oK) then (if (oK) ≤ (wrap64 ((oK) + (a1.size : Int))) then (if (wrap64 ((oK) + (a1.size : Int))) ≤ (a0.size : Int) then (if (a0.extract ((oK) : Int).toNat ((wrap64 ((oK) + (a1.size : Int))) : Int).toNat).toList = a1.toList then (if 0 ≤ (wrap64 ((oK) + (a1.size : Int))) then (if (wrap64 ((oK) + (a1.size : Int))) < (a0.size : Int) then (if (bt a0 (wrap64 ((oK) + (a1.size : Int)))) = 32 then (some true) else (bF.l1 k2 a0 a1 oK)) else (none)) else (none)) else (bF.l1 k2 a0 a1 oK)) else (none)) else (none)) else (none)) = some r:=by first|(rw [FD] at H;exact H)|(simp only [FD] at H ⊢;exact H)
                 have hji13w : (IntKind.i64.wrap (qG + 1)) = oK:=(bW _).trans FD;by_cases c14 : 0 ≤ (oK)
                 · rw [if_pos c14] at H;have c14b0:=eq_true c14;have c14b1:=decide_eq_true c14;clear c14;by_cases c15 : (oK) ≤ (wrap64 ((oK) + (a1.size : Int)))
                   · rw [if_pos c15] at H;have DR:=eq_true c15;have O8:=decide_eq_true c15;by_cases c16 : (wrap64 ((oK) + (a1.size : Int))) ≤ (a0.size : Int)
                     · rw [if_pos c16] at H;have Bq:=eq_true c16;have DV:=decide_eq_true c16;by_cases c17 : (a0.extract ((oK) : Int).toNat ((wrap64 ((oK) + (a1.size : Int))) : Int).toNat).toList = a1.toList
                       · rw [if_pos c17] at H;have FH : ((a0.extract ((oK) : Int).toNat ((wrap64 ((oK) + (a1.size : Int))) : Int).toNat).toList == a1.toList) = true:=beq_iff_eq.mpr c17;have FI : ((a0.extract ((oK) : Int).toNat ((wrap64 ((oK) + (a1.size : Int))) : Int).toNat).toList != a1.toList) = false:=bne_eq_false_iff_eq.mpr c17;clear c17;obtain ⟨nG,qH⟩ : ∃ j_ : Int,(wrap64 ((oK) + (a1.size : Int))) = j_:=⟨_,rfl⟩
                         replace H : (if 0 ≤ (nG) then (if (nG) < (a0.size : Int) then (if (bt a0 (nG)) = 32 then (some true) else (bF.l1 k2 a0 a1 oK)) else (none)) else (none)) = some r:=by first|(rw [qH] at H;exact H)|(simp only [qH] at H ⊢;exact H)
                         (try rw [qH] at DR);(try rw [qH] at O8);(try rw [qH] at c15);(try rw [qH] at Bq);(try rw [qH] at DV);(try rw [qH] at c16);(try rw [qH] at FH);(try rw [qH] at FI);have hji18w : (IntKind.i64.wrap ((oK) + (a1.size : Int))) = nG:=(bW _).trans qH;by_cases c19 : 0 ≤ (nG)
                         · rw [if_pos c19] at H;have O9:=decide_eq_true c19;clear c19;by_cases c20 : (nG) < (a0.size : Int)
                           · rw [if_pos c20] at H;have c20b0:=decide_eq_true c20;clear c20;by_cases MX : (bt a0 (nG)) = 32
                             · rw [if_pos MX] at H;have c22b0 : ((bt a0 (nG)) == 32) = true:=beq_iff_eq.mpr MX;have c22b1 : ((bt a0 (nG)) != 32) = false:=bne_eq_false_iff_eq.mpr MX;clear MX;obtain rfl:=Option.some.inj H;have p11 : 0 ≤ (qG : Int):=YA;have q11 : qG < (a0.size : Int):=YA;have hx11:=kY a0 qG;replace p11:=eq_true p11;replace q11:=eq_true q11;have p21 : 0 ≤ ((nG) : Int):=YA;have q21 : (nG) < (a0.size : Int):=YA;have hx21:=kY a0 (nG);replace p21:=eq_true p21;replace q21:=eq_true q21;go_wp2
                               go_ret
                               exact ⟨by first|rfl|(simp;done)|(simp only [← FD,← qH] <;> (first|rfl|simp))|(simp [*];done),by repeat (first|exact bH.refl _|apply bH.step)⟩
                             · rw [if_neg MX] at H;have c22b0 : ((bt a0 (nG)) == 32) = false:=beq_eq_false_iff_ne.mpr MX;have c22b1 : ((bt a0 (nG)) != 32) = true:=bne_iff_ne.mpr MX;have H' := Am H;clear H;have p11 : 0 ≤ (qG : Int):=YA;have q11 : qG < (a0.size : Int):=YA;have hx11:=kY a0 qG;replace p11:=eq_true p11;replace q11:=eq_true q11;have p21 : 0 ≤ ((nG) : Int):=YA;have q21 : (nG) < (a0.size : Int):=YA;have hx21:=kY a0 (nG);replace p21:=eq_true p21;replace q21:=eq_true q21;go_wp2
                               go_roundg k2
                               case measure => have:=jm.out;have:=AQ.out;omega
                               case rel => exact ⟨(oK),(by first|rfl|(simp;done)|(simp only [← FD] <;> (first|rfl|simp))|(simp [*];done)),H',⟨by have:=jm.out;have:=AQ.out;omega⟩,by repeat (first|exact bH.refl _|apply bH.step)⟩
                           · rw [if_neg c20] at H;exact absurd H (by simp)
                         · rw [if_neg c19] at H;exact absurd H (by simp)
                       · rw [if_neg c17] at H;have FH : ((a0.extract ((oK) : Int).toNat ((wrap64 ((oK) + (a1.size : Int))) : Int).toNat).toList == a1.toList) = false:=beq_eq_false_iff_ne.mpr c17;have FI : ((a0.extract ((oK) : Int).toNat ((wrap64 ((oK) + (a1.size : Int))) : Int).toNat).toList != a1.toList) = true:=bne_iff_ne.mpr c17;have H' := Am H;clear H;have p11 : 0 ≤ (qG : Int):=YA;have q11 : qG < (a0.size : Int):=YA;have hx11:=kY a0 qG;replace p11:=eq_true p11;replace q11:=eq_true q11;go_wp2
                         go_roundg k2
                         case measure => have:=jm.out;have:=AQ.out;omega
                         case rel => exact ⟨(oK),(by first|rfl|(simp;done)|(simp only [← FD] <;> (first|rfl|simp))|(simp [*];done)),H',⟨by have:=jm.out;have:=AQ.out;omega⟩,by repeat (first|exact bH.refl _|apply bH.step)⟩
                     · rw [if_neg c16] at H;exact absurd H (by simp)
                   · rw [if_neg c15] at H;exact absurd H (by simp)
                 · rw [if_neg c14] at H;exact absurd H (by simp)
               · rw [if_neg c12] at H;have JW : ((bt a0 qG) == 32) = false:=beq_eq_false_iff_ne.mpr c12;have c12b1 : ((bt a0 qG) != 32) = true:=bne_iff_ne.mpr c12;have H' := Am H;clear H;have p11 : 0 ≤ (qG : Int):=YA;have q11 : qG < (a0.size : Int):=YA;have hx11:=kY a0 qG;replace p11:=eq_true p11;replace q11:=eq_true q11;go_wp2
                 go_roundg k2
                 case measure => have:=jm.out;have:=AQ.out;omega
                 case rel => exact ⟨(wrap64 (qG + 1)),YF,H',⟨by have:=jm.out;have:=AQ.out;omega⟩,by repeat (first|exact bH.refl _|apply bH.step)⟩
             · rw [if_neg c10] at H;exact absurd H (by simp)
           · rw [if_neg c9] at H;exact absurd H (by simp)
         · rw [if_neg c8] at H;have wo:=decide_eq_false c8;clear c8;obtain rfl:=Option.some.inj H;go_wp2
           go_ret
           exact ⟨by first|rfl|(simp;done)|(simp [*];done),by repeat (first|exact bH.refl _|apply bH.step)⟩
end Go.Proofs.YtboojhadfhpdeaaGreatDoor.Q
