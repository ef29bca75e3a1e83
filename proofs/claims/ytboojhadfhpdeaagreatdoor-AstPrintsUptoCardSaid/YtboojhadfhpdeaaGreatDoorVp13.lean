/- A part of the proof, made small by a program: R1, R7. -/
import Derived.Test.YtboojhadfhpdeaaGreatDoorVp4
import Derived.Test.YtboojhadfhpdeaaGreatDoorVp11
set_option linter.unusedVariables false
set_option linter.unusedSimpArgs false
set_option maxHeartbeats 8000000
set_option maxRecDepth 100000
namespace Go.Proofs.YtboojhadfhpdeaaGreatDoor.Q
open Go.RowKit Go.Proofs.YtboojhadfhpdeaaGreatDoorW.PrintWords Go.Proofs.YtboojhadfhpdeaaGreatDoorW.PrintLast Go.Proofs.YtboojhadfhpdeaaGreatDoorW.PrintMore
def fE.f (ay : Int) (aN : ByteArray) (aY : Int) (aZ : Bool) (ah : List (ak)) (bn : Int) (a1 : Bool) (a2 : Bool) (a3 : Bool) : Option (Bool):=if a1 = true then (if a2 = true then (if a3 = true then (some true) else (some (!aZ))) else (if aY = 0 then (if a3 = true then (some true) else (some (!aZ))) else (some false))) else (if aN.toList = ([] : List UInt8) then (if a2 = true then (if a3 = true then (some true) else (some (!aZ))) else (if aY = 0 then (if a3 = true then (some true) else (some (!aZ))) else (some false))) else (some false))
theorem fE.calls (ay : Int) (aN : ByteArray) (aY : Int) (aZ : Bool) (bM : Option Addr) (bG : Nat) (ah : List (ak)) (bn : Int) (a1 : Bool) (a2 : Bool) (a3 : Bool) (r : Bool) (w : World) (gK : Kd.C k25 w bM ah.length ah) (iD : ah.length ≤ bG) (h : fE.f ay aN aY aZ ah bn a1 a2 a3 = some r) :
 Calls Tryz.prog 21 #[.agg #[.int .i64 ay,.string aN,.int .u32 aY,.bool aZ,.slice bM ah.length bG,.int .i64 bn],.bool a1,.bool a2,.bool a3] w fun e w' => e = .returned (.bool r) ∧ Below w.heap.size w w' := by
 have vC:=Tryz.underlying25;clear gK iD;have HB:=Am (Below.refl w.heap.size w);have H : (if a1 = true then (if a2 = true then (if a3 = true then (some true) else (some (!aZ))) else (if aY = 0 then (if a3 = true then (some true) else (some (!aZ))) else (some false))) else (if aN.toList = ([] : List UInt8) then (if a2 = true then (if a3 = true then (some true) else (some (!aZ))) else (if aY = 0 then (if a3 = true then (some true) else (some (!aZ))) else (some false))) else (some false))) = some r:=h;clear h;by_cases c5 : a1 = true
 · subst c5;have H1 : (if a2 = true then (if a3 = true then (some true) else (some (!aZ))) else (if aY = 0 then (if a3 = true then (some true) else (some (!aZ))) else (some false))) = some r:=by rw [if_pos rfl] at H;exact H
   clear H;have H:=H1;clear H1;by_cases c6 : a2 = true
   · subst c6;have H1 : (if a3 = true then (some true) else (some (!aZ))) = some r:=by rw [if_pos rfl] at H;exact H
     clear H;have H:=H1;clear H1;by_cases c7 : a3 = true
     · subst c7;have H1 : (some true) = some r:=by rw [if_pos rfl] at H;exact H
       clear H;have H:=H1;clear H1;obtain rfl:=Option.some.inj H;go_enter Tryz.func21,Tryz.ntmps21
       go_wp2_with (first|((with_reducible refine jM (N:=4) rfl ?_);refine kL ?hg (N:=4) ?hd (cs:=#[.int .i64 ay,.string aN,.int .u32 aY,.bool aZ,.slice bM ah.length bG,.int .i64 bn]) (t:=25) ?hr ?_;(case hd => rfl);(case hg => rfl);(case hr => first|(go_simp;done)|(go_simp;rfl));intro dU hg w8 hbox hb;have aX:=Am (Z25 YH hb);have bf:=Am (hbox);have dh:=Am ((YW hg : w.heap.size ≤ dU));have dQ:=Am ((YW hg : w.heap.size ≤ dU));clear HB;have HB:=aX;have iY:=bf;have qg:=dh;have jC:=dQ;clear aX bf dh dQ;clear hb hbox hg))
       go_ret
       exact ⟨by first|rfl|(simp [dO,dP] <;> rfl)|(simp [*,dO,dP] <;> rfl),by repeat (first|(with_reducible first|exact HB.out|apply Z7|apply Z4|apply Z6|refine Z8 ?_ jC.out)|exact HB.out)⟩
     · replace c7:=Bool.eq_false_iff.mpr c7;subst c7;have H1 : (some (!aZ)) = some r:=by rw [if_neg (show ¬ (false = true) by decide)] at H;exact H
       clear H;have H:=H1;clear H1;obtain rfl:=Option.some.inj H;go_enter Tryz.func21,Tryz.ntmps21
       go_wp2_with (first|((with_reducible refine jM (N:=4) rfl ?_);refine kL ?hg (N:=4) ?hd (cs:=#[.int .i64 ay,.string aN,.int .u32 aY,.bool aZ,.slice bM ah.length bG,.int .i64 bn]) (t:=25) ?hr ?_;(case hd => rfl);(case hg => rfl);(case hr => first|(go_simp;done)|(go_simp;rfl));intro dU hg w9 hbox hb;have aX:=Am (Z25 YH hb);have bf:=Am (hbox);have dh:=Am ((YW hg : w.heap.size ≤ dU));have dQ:=Am ((YW hg : w.heap.size ≤ dU));clear HB;have HB:=aX;have iY:=bf;have qg:=dh;have jC:=dQ;clear aX bf dh dQ;clear hb hbox hg;have hcz10_3 : w9.cell? ⟨dU,3,none⟩ = some (.bool aZ):=(Z5 iY.out 3).trans rfl))
       go_ret
       exact ⟨by first|rfl|(simp [dO,dP] <;> rfl)|(simp [*,dO,dP] <;> rfl),by repeat (first|(with_reducible first|exact HB.out|apply Z7|apply Z4|apply Z6|refine Z8 ?_ jC.out)|exact HB.out)⟩
   · replace c6:=Bool.eq_false_iff.mpr c6;subst c6;have H1 : (if aY = 0 then (if a3 = true then (some true) else (some (!aZ))) else (some false)) = some r:=by rw [if_neg (show ¬ (false = true) by decide)] at H;exact H
     clear H;have H:=H1;clear H1;by_cases c11 : aY = 0
     · rw [if_pos c11] at H;have kM : (aY == 0) = true:=beq_iff_eq.mpr c11;clear c11;by_cases c12 : a3 = true
       · subst c12;have H1 : (some true) = some r:=by rw [if_pos rfl] at H;exact H
         clear H;have H:=H1;clear H1;obtain rfl:=Option.some.inj H;go_enter Tryz.func21,Tryz.ntmps21
         go_wp2_with (first|((with_reducible refine jM (N:=4) rfl ?_);refine kL ?hg (N:=4) ?hd (cs:=#[.int .i64 ay,.string aN,.int .u32 aY,.bool aZ,.slice bM ah.length bG,.int .i64 bn]) (t:=25) ?hr ?_;(case hd => rfl);(case hg => rfl);(case hr => first|(go_simp;done)|(go_simp;rfl));intro dU hg Ns hbox hb;have aX:=Am (Z25 YH hb);have bf:=Am (hbox);have dh:=Am ((YW hg : w.heap.size ≤ dU));have dQ:=Am ((YW hg : w.heap.size ≤ dU));clear HB;have HB:=aX;have iY:=bf;have qg:=dh;have jC:=dQ;clear aX bf dh dQ;clear hb hbox hg;have hcz14_2 : Ns.cell? ⟨dU,2,none⟩ = some (.int .u32 aY):=(Z5 iY.out 2).trans rfl))
         go_ret
         exact ⟨by first|rfl|(simp [dO,dP] <;> rfl)|(simp [*,dO,dP] <;> rfl),by repeat (first|(with_reducible first|exact HB.out|apply Z7|apply Z4|apply Z6|refine Z8 ?_ jC.out)|exact HB.out)⟩
       · replace c12:=Bool.eq_false_iff.mpr c12;subst c12;have H1 : (some (!aZ)) = some r:=by rw [if_neg (show ¬ (false = true) by decide)] at H;exact H
         clear H;have H:=H1;clear H1;obtain rfl:=Option.some.inj H;go_enter Tryz.func21,Tryz.ntmps21
         go_wp2_with (first|((with_reducible refine jM (N:=4) rfl ?_);refine kL ?hg (N:=4) ?hd (cs:=#[.int .i64 ay,.string aN,.int .u32 aY,.bool aZ,.slice bM ah.length bG,.int .i64 bn]) (t:=25) ?hr ?_;(case hd => rfl);(case hg => rfl);(case hr => first|(go_simp;done)|(go_simp;rfl));intro dU hg w15 hbox hb;have aX:=Am (Z25 YH hb);have bf:=Am (hbox);have dh:=Am ((YW hg : w.heap.size ≤ dU));have dQ:=Am ((YW hg : w.heap.size ≤ dU));clear HB;have HB:=aX;have iY:=bf;have qg:=dh;have jC:=dQ;clear aX bf dh dQ;clear hb hbox hg;have hcz16_2 : w15.cell? ⟨dU,2,none⟩ = some (.int .u32 aY):=(Z5 iY.out 2).trans rfl;have hcz16_3 : w15.cell? ⟨dU,3,none⟩ = some (.bool aZ):=(Z5 iY.out 3).trans rfl))
         go_ret
         exact ⟨by first|rfl|(simp [dO,dP] <;> rfl)|(simp [*,dO,dP] <;> rfl),by repeat (first|(with_reducible first|exact HB.out|apply Z7|apply Z4|apply Z6|refine Z8 ?_ jC.out)|exact HB.out)⟩
     · rw [if_neg c11] at H;have kM : (aY == 0) = false:=beq_eq_false_iff_ne.mpr c11;obtain rfl:=Option.some.inj H;go_enter Tryz.func21,Tryz.ntmps21
       go_wp2_with (first|((with_reducible refine jM (N:=4) rfl ?_);refine kL ?hg (N:=4) ?hd (cs:=#[.int .i64 ay,.string aN,.int .u32 aY,.bool aZ,.slice bM ah.length bG,.int .i64 bn]) (t:=25) ?hr ?_;(case hd => rfl);(case hg => rfl);(case hr => first|(go_simp;done)|(go_simp;rfl));intro dU hg w17 hbox hb;have aX:=Am (Z25 YH hb);have bf:=Am (hbox);have dh:=Am ((YW hg : w.heap.size ≤ dU));have dQ:=Am ((YW hg : w.heap.size ≤ dU));clear HB;have HB:=aX;have iY:=bf;have qg:=dh;have jC:=dQ;clear aX bf dh dQ;clear hb hbox hg;have hcz18_2 : w17.cell? ⟨dU,2,none⟩ = some (.int .u32 aY):=(Z5 iY.out 2).trans rfl))
       go_ret
       exact ⟨by first|rfl|(simp [dO,dP] <;> rfl)|(simp [*,dO,dP] <;> rfl),by repeat (first|(with_reducible first|exact HB.out|apply Z7|apply Z4|apply Z6|refine Z8 ?_ jC.out)|exact HB.out)⟩
 · replace c5:=Bool.eq_false_iff.mpr c5;subst c5;have H1 : (if aN.toList = ([] : List UInt8) then (if a2 = true then (if a3 = true then (some true) else (some (!aZ))) else (if aY = 0 then (if a3 = true then (some true) else (some (!aZ))) else (some false))) else (some false)) = some r:=by rw [if_neg (show ¬ (false = true) by decide)] at H;exact H
   clear H;have H:=H1;clear H1;by_cases c19 : aN.toList = ([] : List UInt8)
   · rw [if_pos c19] at H;have uS : (aN.toList == ([] : List UInt8)) = true:=beq_iff_eq.mpr c19;clear c19;by_cases c20 : a2 = true
     · subst c20;have H1 : (if a3 = true then (some true) else (some (!aZ))) = some r:=by rw [if_pos rfl] at H;exact H
       clear H;have H:=H1;clear H1;by_cases c21 : a3 = true
       · subst c21;have H1 : (some true) = some r:=by rw [if_pos rfl] at H;exact H
         clear H;have H:=H1;clear H1;obtain rfl:=Option.some.inj H;go_enter Tryz.func21,Tryz.ntmps21
         go_wp2_with (first|((with_reducible refine jM (N:=4) rfl ?_);refine kL ?hg (N:=4) ?hd (cs:=#[.int .i64 ay,.string aN,.int .u32 aY,.bool aZ,.slice bM ah.length bG,.int .i64 bn]) (t:=25) ?hr ?_;(case hd => rfl);(case hg => rfl);(case hr => first|(go_simp;done)|(go_simp;rfl));intro dU hg w22 hbox hb;have aX:=Am (Z25 YH hb);have bf:=Am (hbox);have dh:=Am ((YW hg : w.heap.size ≤ dU));have dQ:=Am ((YW hg : w.heap.size ≤ dU));clear HB;have HB:=aX;have iY:=bf;have qg:=dh;have jC:=dQ;clear aX bf dh dQ;clear hb hbox hg;have hcz23_1 : w22.cell? ⟨dU,1,none⟩ = some (.string aN):=(Z5 iY.out 1).trans rfl))
         go_ret
         exact ⟨by first|rfl|(simp [dO,dP] <;> rfl)|(simp [*,dO,dP] <;> rfl),by repeat (first|(with_reducible first|exact HB.out|apply Z7|apply Z4|apply Z6|refine Z8 ?_ jC.out)|exact HB.out)⟩
       · replace c21:=Bool.eq_false_iff.mpr c21;subst c21;have H1 : (some (!aZ)) = some r:=by rw [if_neg (show ¬ (false = true) by decide)] at H;exact H
         clear H;have H:=H1;clear H1;obtain rfl:=Option.some.inj H;go_enter Tryz.func21,Tryz.ntmps21
         go_wp2_with (first|((with_reducible refine jM (N:=4) rfl ?_);refine kL ?hg (N:=4) ?hd (cs:=#[.int .i64 ay,.string aN,.int .u32 aY,.bool aZ,.slice bM ah.length bG,.int .i64 bn]) (t:=25) ?hr ?_;(case hd => rfl);(case hg => rfl);(case hr => first|(go_simp;done)|(go_simp;rfl));intro dU hg w24 hbox hb;have aX:=Am (Z25 YH hb);have bf:=Am (hbox);have dh:=Am ((YW hg : w.heap.size ≤ dU));have dQ:=Am ((YW hg : w.heap.size ≤ dU));clear HB;have HB:=aX;have iY:=bf;have qg:=dh;have jC:=dQ;clear aX bf dh dQ;clear hb hbox hg;have hcz25_1 : w24.cell? ⟨dU,1,none⟩ = some (.string aN):=(Z5 iY.out 1).trans rfl;have hcz25_3 : w24.cell? ⟨dU,3,none⟩ = some (.bool aZ):=(Z5 iY.out 3).trans rfl))
         go_ret
         exact ⟨by first|rfl|(simp [dO,dP] <;> rfl)|(simp [*,dO,dP] <;> rfl),by repeat (first|(with_reducible first|exact HB.out|apply Z7|apply Z4|apply Z6|refine Z8 ?_ jC.out)|exact HB.out)⟩
     · replace c20:=Bool.eq_false_iff.mpr c20;subst c20;have H1 : (if aY = 0 then (if a3 = true then (some true) else (some (!aZ))) else (some false)) = some r:=by rw [if_neg (show ¬ (false = true) by decide)] at H;exact H
       clear H;have H:=H1;clear H1;by_cases Ce : aY = 0
       · rw [if_pos Ce] at H;have c26b0 : (aY == 0) = true:=beq_iff_eq.mpr Ce;clear Ce;by_cases GY : a3 = true
         · subst GY;have H1 : (some true) = some r:=by rw [if_pos rfl] at H;exact H
           clear H;have H:=H1;clear H1;obtain rfl:=Option.some.inj H;go_enter Tryz.func21,Tryz.ntmps21
           go_wp2_with (first|((with_reducible refine jM (N:=4) rfl ?_);refine kL ?hg (N:=4) ?hd (cs:=#[.int .i64 ay,.string aN,.int .u32 aY,.bool aZ,.slice bM ah.length bG,.int .i64 bn]) (t:=25) ?hr ?_;(case hd => rfl);(case hg => rfl);(case hr => first|(go_simp;done)|(go_simp;rfl));intro dU hg w28 hbox hb;have aX:=Am (Z25 YH hb);have bf:=Am (hbox);have dh:=Am ((YW hg : w.heap.size ≤ dU));have dQ:=Am ((YW hg : w.heap.size ≤ dU));clear HB;have HB:=aX;have iY:=bf;have qg:=dh;have jC:=dQ;clear aX bf dh dQ;clear hb hbox hg;have hcz29_1 : w28.cell? ⟨dU,1,none⟩ = some (.string aN):=(Z5 iY.out 1).trans rfl;have hcz29_2 : w28.cell? ⟨dU,2,none⟩ = some (.int .u32 aY):=(Z5 iY.out 2).trans rfl))
           go_ret
           exact ⟨by first|rfl|(simp [dO,dP] <;> rfl)|(simp [*,dO,dP] <;> rfl),by repeat (first|(with_reducible first|exact HB.out|apply Z7|apply Z4|apply Z6|refine Z8 ?_ jC.out)|exact HB.out)⟩
         · replace GY:=Bool.eq_false_iff.mpr GY;subst GY;have H1 : (some (!aZ)) = some r:=by rw [if_neg (show ¬ (false = true) by decide)] at H;exact H
           clear H;have H:=H1;clear H1;obtain rfl:=Option.some.inj H;go_enter Tryz.func21,Tryz.ntmps21
           go_wp2_with (first|((with_reducible refine jM (N:=4) rfl ?_);refine kL ?hg (N:=4) ?hd (cs:=#[.int .i64 ay,.string aN,.int .u32 aY,.bool aZ,.slice bM ah.length bG,.int .i64 bn]) (t:=25) ?hr ?_;(case hd => rfl);(case hg => rfl);(case hr => first|(go_simp;done)|(go_simp;rfl));intro dU hg w30 hbox hb;have aX:=Am (Z25 YH hb);have bf:=Am (hbox);have dh:=Am ((YW hg : w.heap.size ≤ dU));have dQ:=Am ((YW hg : w.heap.size ≤ dU));clear HB;have HB:=aX;have iY:=bf;have qg:=dh;have jC:=dQ;clear aX bf dh dQ;clear hb hbox hg;have hcz31_1 : w30.cell? ⟨dU,1,none⟩ = some (.string aN):=(Z5 iY.out 1).trans rfl;have hcz31_2 : w30.cell? ⟨dU,2,none⟩ = some (.int .u32 aY):=(Z5 iY.out 2).trans rfl;have hcz31_3 : w30.cell? ⟨dU,3,none⟩ = some (.bool aZ):=(Z5 iY.out 3).trans rfl))
           go_ret
           exact ⟨by first|rfl|(simp [dO,dP] <;> rfl)|(simp [*,dO,dP] <;> rfl),by repeat (first|(with_reducible first|exact HB.out|apply Z7|apply Z4|apply Z6|refine Z8 ?_ jC.out)|exact HB.out)⟩
       · rw [if_neg Ce] at H;have c26b0 : (aY == 0) = false:=beq_eq_false_iff_ne.mpr Ce;obtain rfl:=Option.some.inj H;go_enter Tryz.func21,Tryz.ntmps21
         go_wp2_with (first|((with_reducible refine jM (N:=4) rfl ?_);refine kL ?hg (N:=4) ?hd (cs:=#[.int .i64 ay,.string aN,.int .u32 aY,.bool aZ,.slice bM ah.length bG,.int .i64 bn]) (t:=25) ?hr ?_;(case hd => rfl);(case hg => rfl);(case hr => first|(go_simp;done)|(go_simp;rfl));intro dU hg w32 hbox hb;have aX:=Am (Z25 YH hb);have bf:=Am (hbox);have dh:=Am ((YW hg : w.heap.size ≤ dU));have dQ:=Am ((YW hg : w.heap.size ≤ dU));clear HB;have HB:=aX;have iY:=bf;have qg:=dh;have jC:=dQ;clear aX bf dh dQ;clear hb hbox hg;have hcz33_1 : w32.cell? ⟨dU,1,none⟩ = some (.string aN):=(Z5 iY.out 1).trans rfl;have hcz33_2 : w32.cell? ⟨dU,2,none⟩ = some (.int .u32 aY):=(Z5 iY.out 2).trans rfl))
         go_ret
         exact ⟨by first|rfl|(simp [dO,dP] <;> rfl)|(simp [*,dO,dP] <;> rfl),by repeat (first|(with_reducible first|exact HB.out|apply Z7|apply Z4|apply Z6|refine Z8 ?_ jC.out)|exact HB.out)⟩
   · rw [if_neg c19] at H;have uS : (aN.toList == ([] : List UInt8)) = false:=beq_eq_false_iff_ne.mpr c19;obtain rfl:=Option.some.inj H;go_enter Tryz.func21,Tryz.ntmps21
     go_wp2_with (first|((with_reducible refine jM (N:=4) rfl ?_);refine kL ?hg (N:=4) ?hd (cs:=#[.int .i64 ay,.string aN,.int .u32 aY,.bool aZ,.slice bM ah.length bG,.int .i64 bn]) (t:=25) ?hr ?_;(case hd => rfl);(case hg => rfl);(case hr => first|(go_simp;done)|(go_simp;rfl));intro dU hg w34 hbox hb;have aX:=Am (Z25 YH hb);have bf:=Am (hbox);have dh:=Am ((YW hg : w.heap.size ≤ dU));have dQ:=Am ((YW hg : w.heap.size ≤ dU));clear HB;have HB:=aX;have iY:=bf;have qg:=dh;have jC:=dQ;clear aX bf dh dQ;clear hb hbox hg;have hcz35_1 : w34.cell? ⟨dU,1,none⟩ = some (.string aN):=(Z5 iY.out 1).trans rfl))
     go_ret
     exact ⟨by first|rfl|(simp [dO,dP] <;> rfl)|(simp [*,dO,dP] <;> rfl),by repeat (first|(with_reducible first|exact HB.out|apply Z7|apply Z4|apply Z6|refine Z8 ?_ jC.out)|exact HB.out)⟩
def bF.j0 : Nat → Bool → Int → ByteArray → Int → Bool → List (ak) → Int → Option (Bool)
 | 0,_,_,_,_,_,_,_ => none
 | k + 1,x16,x113000,kW,x113002,x113003,x113004,x113005 => if x16 = true then (some false) else (if (kW.size : Int) > 7 then (if 0 ≤ 7 then (if 7 ≤ (kW.size : Int) then (if (kW.extract 0 7).toList = ([115,116,114,117,99,116,32] : List UInt8) then ((gu.f k (kW.extract 7 kW.size)).bind fun yF => (some yF)) else (if kW.toList = ([105,110,116] : List UInt8) then (some true) else (if kW.toList = ([117,105,110,116] : List UInt8) then (some true) else (if kW.toList = ([99,104,97,114] : List UInt8) then (some true) else (some (kW.toList == ([118,111,105,100] : List UInt8))))))) else (none)) else (none)) else (if kW.toList = ([105,110,116] : List UInt8) then (some true) else (if kW.toList = ([117,105,110,116] : List UInt8) then (some true) else (if kW.toList = ([99,104,97,114] : List UInt8) then (some true) else (some (kW.toList == ([118,111,105,100] : List UInt8)))))))
def bF.f (k : Nat) (ay : Int) (aN : ByteArray) (aY : Int) (aZ : Bool) (ah : List (ak)) (bn : Int) : Option (Bool):=if ay = 16 then ((fE.f ay aN aY aZ ah bn true false false).bind fun sZ => (if sZ = true then (bF.j0 k (decide ((ah.length : Int) > 0)) ay aN aY aZ ah bn) else (bF.j0 k true ay aN aY aZ ah bn))) else (bF.j0 k true ay aN aY aZ ah bn)
theorem bF.calls (k : Nat) (ay : Int) (aN : ByteArray) (aY : Int) (aZ : Bool) (bM : Option Addr) (bG : Nat) (ah : List (ak)) (bn : Int) (r : Bool) (w : World) (gK : Kd.C k25 w bM ah.length ah) (iD : ah.length ≤ bG) (h : bF.f k ay aN aY aZ ah bn = some r) :
 Calls Tryz.prog 35 #[.agg #[.int .i64 ay,.string aN,.int .u32 aY,.bool aZ,.slice bM ah.length bG,.int .i64 bn]] w fun e w' => e = .returned (.bool r) ∧ Below w.heap.size w w' := by
 have vC:=Tryz.underlying25;have iT:=Am gK;have oH:=Am iD;clear gK iD;have HB:=Am (Below.refl w.heap.size w);have H : (if ay = 16 then ((fE.f ay aN aY aZ ah bn true false false).bind fun sZ => (if sZ = true then (bF.j0 k (decide ((ah.length : Int) > 0)) ay aN aY aZ ah bn) else (bF.j0 k true ay aN aY aZ ah bn))) else (bF.j0 k true ay aN aY aZ ah bn)) = some r:=h;clear h;have HC2:=Am H;clear H;go_enter Tryz.func35,Tryz.ntmps35
 go_upto_region 1 with (first|((with_reducible refine jM (N:=1) rfl ?_);(try (refine uQ (by rfl) ?_;dsimp only));refine kL ?hg (N:=1) ?hd (cs:=#[.int .i64 ay,.string aN,.int .u32 aY,.bool aZ,.slice bM ah.length bG,.int .i64 bn]) (t:=25) ?hr ?_;(case hd => rfl);(case hg => rfl);(case hr => first|(go_simp;done)|(go_simp;rfl));intro jR hg w3 hbox hb;have aX:=Am (Z25 YH hb);have bf:=Am (hbox);have dh:=Am ((YW hg : w.heap.size ≤ jR));have dQ:=Am ((YW hg : w.heap.size ≤ jR));clear HB;have HB:=aX;have iZ:=bf;have GW112:=dh;have uT:=dQ;clear aX bf dh dQ;clear hb hbox hg))
 (try simp only [Act.put,Y1,Y2,Y3]);go_cut [16] (fun v16 wc => ∃ (kq : Nat) (Js : Bool),v16 = .bool Js ∧ Ad (bF.j0 kq Js ay aN aY aZ ah bn = some r) ∧ Ad (kq ≤ k) ∧ Ad (wc.heap[jR]? = some (.cells #[.int .i64 ay,.string aN,.int .u32 aY,.bool aZ,(.slice bM ah.length bG),.int .i64 bn] 25 (0,0))) ∧ Ad (Below w.heap.size w wc))
 case first =>
  have H:=HC2.out;clear HC2;by_cases c4 : ay = 16
  · rw [if_pos c4] at H;have lS : (ay == 16) = true:=beq_iff_eq.mpr c4;have c4b1 : (ay != 16) = false:=bne_eq_false_iff_eq.mpr c4;clear c4;(first|rw [lS]|(simp only [bY];rw [lS])|skip);replace H:=Option.bind_eq_some_iff.mp H;obtain ⟨sZ,A50,H⟩:=H;replace H : (if sZ = true then (bF.j0 k (decide ((ah.length : Int) > 0)) ay aN aY aZ ah bn) else (bF.j0 k true ay aN aY aZ ah bn)) = some r:=H;have A5:=Am A50;clear A50;by_cases c6 : sZ = true
    · subst c6;have H1 : (bF.j0 k (decide ((ah.length : Int) > 0)) ay aN aY aZ ah bn) = some r:=by rw [if_pos rfl] at H;exact H
      clear H;have H:=H1;clear H1;have H' := Ad.mk H;clear H;have yG : w3.cell? ⟨jR,0,none⟩ = some (.int .i64 ay):=(Z5 iZ.out 0).trans rfl;have hcz7_1 : w3.cell? ⟨jR,1,none⟩ = some (.string aN):=(Z5 iZ.out 1).trans rfl;have hcz7_2 : w3.cell? ⟨jR,2,none⟩ = some (.int .u32 aY):=(Z5 iZ.out 2).trans rfl;have hcz7_3 : w3.cell? ⟨jR,3,none⟩ = some (.bool aZ):=(Z5 iZ.out 3).trans rfl;have hcz7_4 : w3.cell? ⟨jR,4,none⟩ = some (.slice bM ah.length bG):=(Z5 iZ.out 4).trans rfl;have hcz7_5 : w3.cell? ⟨jR,5,none⟩ = some (.int .i64 bn):=(Z5 iZ.out 5).trans rfl;go_wp2_with (first|(go_at_call 21;(with_reducible refine (fE.calls ay aN aY aZ _ _ ah bn true false false true _ ?dK ?gq A5.out).mono ?_);(case dK => repeat (first|exact (Kd.dV iT.out HB.out)|(with_reducible refine Kd.fA ?_ _)|(with_reducible refine Kd.fB ?_ _)|(with_reducible refine Kd.gB ?_)));(case gq => exact oH.out);rintro e w8 ⟨rfl,hb⟩;have aX:=Am (o7 (YK iZ) hb);have bf:=Am (Z25 YH hb);clear iZ;clear HB;have iZ:=aX;have HB:=bf;clear aX bf;(try clear hb);have hcz9_4 : w8.cell? ⟨jR,4,none⟩ = some (.slice bM ah.length bG):=(Z5 iZ.out 4).trans rfl))
      go_meet
      case rel => exact ⟨_,(decide ((ah.length : Int) > 0)),YF,H',⟨by first|omega|exact Nat.le_refl _⟩,⟨YK iZ⟩,⟨YH⟩⟩
    · replace c6:=Bool.eq_false_iff.mpr c6;subst c6;have H1 : (bF.j0 k true ay aN aY aZ ah bn) = some r:=by rw [if_neg (show ¬ (false = true) by decide)] at H;exact H
      clear H;have H:=H1;clear H1;have H' := Ad.mk H;clear H;have rD : w3.cell? ⟨jR,0,none⟩ = some (.int .i64 ay):=(Z5 iZ.out 0).trans rfl;have hcz10_1 : w3.cell? ⟨jR,1,none⟩ = some (.string aN):=(Z5 iZ.out 1).trans rfl;have hcz10_2 : w3.cell? ⟨jR,2,none⟩ = some (.int .u32 aY):=(Z5 iZ.out 2).trans rfl;have hcz10_3 : w3.cell? ⟨jR,3,none⟩ = some (.bool aZ):=(Z5 iZ.out 3).trans rfl;have Jt : w3.cell? ⟨jR,4,none⟩ = some (.slice bM ah.length bG):=(Z5 iZ.out 4).trans rfl;have hcz10_5 : w3.cell? ⟨jR,5,none⟩ = some (.int .i64 bn):=(Z5 iZ.out 5).trans rfl;go_wp2_with (first|(go_at_call 21;(with_reducible refine (fE.calls ay aN aY aZ _ _ ah bn true false false false _ ?dK ?gq A5.out).mono ?_);(case dK => repeat (first|exact (Kd.dV iT.out HB.out)|(with_reducible refine Kd.fA ?_ _)|(with_reducible refine Kd.fB ?_ _)|(with_reducible refine Kd.gB ?_)));(case gq => exact oH.out);rintro e Nu ⟨rfl,hb⟩;have aX:=Am (o7 (YK iZ) hb);have bf:=Am (Z25 YH hb);clear iZ;clear HB;have iZ:=aX;have HB:=bf;clear aX bf;(try clear hb)))
      go_meet
      case rel => exact ⟨_,(true),YF,H',⟨by first|omega|exact Nat.le_refl _⟩,⟨YK iZ⟩,⟨YH⟩⟩
  · rw [if_neg c4] at H;have lS : (ay == 16) = false:=beq_eq_false_iff_ne.mpr c4;have c4b1 : (ay != 16) = true:=bne_iff_ne.mpr c4;(first|rw [lS]|(simp only [bY];rw [lS])|skip);have H' := Ad.mk H;clear H;have Ju : w3.cell? ⟨jR,0,none⟩ = some (.int .i64 ay):=(Z5 iZ.out 0).trans rfl;go_wp2
    go_meet
    case rel => exact ⟨_,(true),YF,H',⟨by first|omega|exact Nat.le_refl _⟩,⟨YK iZ⟩,⟨YH⟩⟩
 case rest =>
  clear HC2;obtain ⟨kq,Js,rfl,HA,HJ1,iZ,HB⟩:=hcut;cases kq with
  | zero => exact absurd HA.out (by simp [bF.j0])
  | succ kj1 =>
   have H:=HA.out;clear HA;simp only [bF.j0] at H;by_cases c13 : Js = true
   · subst c13;have H1 : (some false) = some r:=by rw [if_pos rfl] at H;exact H
     clear H;have H:=H1;clear H1;obtain rfl:=Option.some.inj H;go_wp2
     go_ret
     exact ⟨by first|rfl|(simp [dO,dP] <;> rfl)|(simp [*,dO,dP] <;> rfl),by repeat (first|(with_reducible first|exact HB.out|apply Z7|apply Z4|apply Z6|refine Z8 ?_ uT.out)|exact HB.out)⟩
   · replace c13:=Bool.eq_false_iff.mpr c13;subst c13;have H1 : (if (aN.size : Int) > 7 then (if 0 ≤ 7 then (if 7 ≤ (aN.size : Int) then (if (aN.extract 0 7).toList = ([115,116,114,117,99,116,32] : List UInt8) then ((gu.f kj1 (aN.extract 7 aN.size)).bind fun yF => (some yF)) else (if aN.toList = ([105,110,116] : List UInt8) then (some true) else (if aN.toList = ([117,105,110,116] : List UInt8) then (some true) else (if aN.toList = ([99,104,97,114] : List UInt8) then (some true) else (some (aN.toList == ([118,111,105,100] : List UInt8))))))) else (none)) else (none)) else (if aN.toList = ([105,110,116] : List UInt8) then (some true) else (if aN.toList = ([117,105,110,116] : List UInt8) then (some true) else (if aN.toList = ([99,104,97,114] : List UInt8) then (some true) else (some (aN.toList == ([118,111,105,100] : List UInt8))))))) = some r:=by rw [if_neg (show ¬ (false = true) by decide)] at H;exact H
     clear H;have H:=H1;clear H1;by_cases c14 : (aN.size : Int) > 7
     · rw [if_pos c14] at H;have BQ : decide (7 < (aN.size : Int)) = true:=decide_eq_true c14;clear c14;by_cases c15 : 0 ≤ 7
       · rw [if_pos c15] at H;clear c15;by_cases c16 : 7 ≤ (aN.size : Int)
         · rw [if_pos c16] at H;have pY:=eq_true c16;clear c16;by_cases c17 : (aN.extract 0 7).toList = ([115,116,114,117,99,116,32] : List UInt8)
           · rw [if_pos c17] at H;have xu : ((aN.extract 0 7).toList == ([115,116,114,117,99,116,32] : List UInt8)) = true:=beq_iff_eq.mpr c17;clear c17;replace H:=Option.bind_eq_some_iff.mp H;obtain ⟨yF,A190,H⟩:=H;replace H : (some yF) = some r:=H;have A19:=Am A190;clear A190;obtain rfl:=Option.some.inj H;have hcz20_1 : wc.cell? ⟨jR,1,none⟩ = some (.string aN):=(Z5 iZ.out 1).trans rfl;go_wp2_with (first|((with_reducible refine sU (f:=34) rfl ?_);refine fV (some 30) rfl rfl Tryz.func34 (by kernel_rfl) rfl #[.string (aN.extract 7 aN.size)] rfl (by (try simp only [List.map_toArray,List.map_cons,List.map_nil]);first|done|rfl|(simp only [List.length_drop,List.length_take];rfl)) ?_;(with_reducible refine (gu.calls kj1 (aN.extract 7 aN.size) yF _ A19.out).mono ?_);rintro e w' ⟨rfl,⟨nd,rfl⟩⟩;refine ⟨_,rfl,?_⟩))
             go_ret
             exact ⟨by first|rfl|(simp [dO,dP] <;> rfl)|(simp [*,dO,dP] <;> rfl),by repeat (first|(with_reducible first|exact HB.out|apply Z7|apply Z4|apply Z6|refine Z8 ?_ uT.out)|exact HB.out)⟩
           · rw [if_neg c17] at H;have xu : ((aN.extract 0 7).toList == ([115,116,114,117,99,116,32] : List UInt8)) = false:=beq_eq_false_iff_ne.mpr c17;by_cases c21 : aN.toList = ([105,110,116] : List UInt8)
             · rw [if_pos c21] at H;have c21b0 : (aN.toList == ([105,110,116] : List UInt8)) = true:=beq_iff_eq.mpr c21;clear c21;obtain rfl:=Option.some.inj H;have hcz22_1 : wc.cell? ⟨jR,1,none⟩ = some (.string aN):=(Z5 iZ.out 1).trans rfl;go_wp2
               go_ret
               exact ⟨by first|rfl|(simp [dO,dP] <;> rfl)|(simp [*,dO,dP] <;> rfl),by repeat (first|(with_reducible first|exact HB.out|apply Z7|apply Z4|apply Z6|refine Z8 ?_ uT.out)|exact HB.out)⟩
             · rw [if_neg c21] at H;have c21b0 : (aN.toList == ([105,110,116] : List UInt8)) = false:=beq_eq_false_iff_ne.mpr c21;by_cases c23 : aN.toList = ([117,105,110,116] : List UInt8)
               · rw [if_pos c23] at H;have c23b0 : (aN.toList == ([117,105,110,116] : List UInt8)) = true:=beq_iff_eq.mpr c23;clear c23;obtain rfl:=Option.some.inj H;have hcz24_1 : wc.cell? ⟨jR,1,none⟩ = some (.string aN):=(Z5 iZ.out 1).trans rfl;go_wp2
                 go_ret
                 exact ⟨by first|rfl|(simp [dO,dP] <;> rfl)|(simp [*,dO,dP] <;> rfl),by repeat (first|(with_reducible first|exact HB.out|apply Z7|apply Z4|apply Z6|refine Z8 ?_ uT.out)|exact HB.out)⟩
               · rw [if_neg c23] at H;have c23b0 : (aN.toList == ([117,105,110,116] : List UInt8)) = false:=beq_eq_false_iff_ne.mpr c23;by_cases c25 : aN.toList = ([99,104,97,114] : List UInt8)
                 · rw [if_pos c25] at H;have Ci : (aN.toList == ([99,104,97,114] : List UInt8)) = true:=beq_iff_eq.mpr c25;clear c25;obtain rfl:=Option.some.inj H;have hcz26_1 : wc.cell? ⟨jR,1,none⟩ = some (.string aN):=(Z5 iZ.out 1).trans rfl;go_wp2
                   go_ret
                   exact ⟨by first|rfl|(simp [dO,dP] <;> rfl)|(simp [*,dO,dP] <;> rfl),by repeat (first|(with_reducible first|exact HB.out|apply Z7|apply Z4|apply Z6|refine Z8 ?_ uT.out)|exact HB.out)⟩
                 · rw [if_neg c25] at H;have Ci : (aN.toList == ([99,104,97,114] : List UInt8)) = false:=beq_eq_false_iff_ne.mpr c25;obtain rfl:=Option.some.inj H;have hcz27_1 : wc.cell? ⟨jR,1,none⟩ = some (.string aN):=(Z5 iZ.out 1).trans rfl;go_wp2
                   go_ret
                   exact ⟨by first|rfl|(simp [dO,dP] <;> rfl)|(simp [*,dO,dP] <;> rfl),by repeat (first|(with_reducible first|exact HB.out|apply Z7|apply Z4|apply Z6|refine Z8 ?_ uT.out)|exact HB.out)⟩
         · rw [if_neg c16] at H;exact absurd H (by simp)
       · rw [if_neg c15] at H;exact absurd H (by simp)
     · rw [if_neg c14] at H;have BQ : decide (7 < (aN.size : Int)) = false:=decide_eq_false c14;clear c14;by_cases c28 : aN.toList = ([105,110,116] : List UInt8)
       · rw [if_pos c28] at H;have c28b0 : (aN.toList == ([105,110,116] : List UInt8)) = true:=beq_iff_eq.mpr c28;clear c28;obtain rfl:=Option.some.inj H;have hcz29_1 : wc.cell? ⟨jR,1,none⟩ = some (.string aN):=(Z5 iZ.out 1).trans rfl;go_wp2
         go_ret
         exact ⟨by first|rfl|(simp [dO,dP] <;> rfl)|(simp [*,dO,dP] <;> rfl),by repeat (first|(with_reducible first|exact HB.out|apply Z7|apply Z4|apply Z6|refine Z8 ?_ uT.out)|exact HB.out)⟩
       · rw [if_neg c28] at H;have c28b0 : (aN.toList == ([105,110,116] : List UInt8)) = false:=beq_eq_false_iff_ne.mpr c28;by_cases c30 : aN.toList = ([117,105,110,116] : List UInt8)
         · rw [if_pos c30] at H;have c30b0 : (aN.toList == ([117,105,110,116] : List UInt8)) = true:=beq_iff_eq.mpr c30;clear c30;obtain rfl:=Option.some.inj H;have hcz31_1 : wc.cell? ⟨jR,1,none⟩ = some (.string aN):=(Z5 iZ.out 1).trans rfl;go_wp2
           go_ret
           exact ⟨by first|rfl|(simp [dO,dP] <;> rfl)|(simp [*,dO,dP] <;> rfl),by repeat (first|(with_reducible first|exact HB.out|apply Z7|apply Z4|apply Z6|refine Z8 ?_ uT.out)|exact HB.out)⟩
         · rw [if_neg c30] at H;have c30b0 : (aN.toList == ([117,105,110,116] : List UInt8)) = false:=beq_eq_false_iff_ne.mpr c30;by_cases c32 : aN.toList = ([99,104,97,114] : List UInt8)
           · rw [if_pos c32] at H;have Ag : (aN.toList == ([99,104,97,114] : List UInt8)) = true:=beq_iff_eq.mpr c32;clear c32;obtain rfl:=Option.some.inj H;have hcz33_1 : wc.cell? ⟨jR,1,none⟩ = some (.string aN):=(Z5 iZ.out 1).trans rfl;go_wp2
             go_ret
             exact ⟨by first|rfl|(simp [dO,dP] <;> rfl)|(simp [*,dO,dP] <;> rfl),by repeat (first|(with_reducible first|exact HB.out|apply Z7|apply Z4|apply Z6|refine Z8 ?_ uT.out)|exact HB.out)⟩
           · rw [if_neg c32] at H;have Ag : (aN.toList == ([99,104,97,114] : List UInt8)) = false:=beq_eq_false_iff_ne.mpr c32;obtain rfl:=Option.some.inj H;have hcz34_1 : wc.cell? ⟨jR,1,none⟩ = some (.string aN):=(Z5 iZ.out 1).trans rfl;go_wp2
             go_ret
             exact ⟨by first|rfl|(simp [dO,dP] <;> rfl)|(simp [*,dO,dP] <;> rfl),by repeat (first|(with_reducible first|exact HB.out|apply Z7|apply Z4|apply Z6|refine Z8 ?_ uT.out)|exact HB.out)⟩
end Go.Proofs.YtboojhadfhpdeaaGreatDoor.Q
