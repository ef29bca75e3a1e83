/- A part of the proof, made small by a program: R19. -/
import Derived.Test.YtboojhadfhpdeaaGreatDoorVp4
set_option linter.unusedVariables false
set_option linter.unusedSimpArgs false
set_option maxHeartbeats 8000000
set_option maxRecDepth 100000
namespace Go.Proofs.YtboojhadfhpdeaaGreatDoor.Q
open Go.RowKit Go.Proofs.YtboojhadfhpdeaaGreatDoorW.PrintWords Go.Proofs.YtboojhadfhpdeaaGreatDoorW.PrintLast Go.Proofs.YtboojhadfhpdeaaGreatDoorW.PrintMore
def jc.f (ay : Int) (aN : ByteArray) (aY : Int) (aZ : Bool) (ah : List (ak)) (bn : Int) : Option (Bool):=if ay = 4 then (some true) else (if ay = 5 then (some true) else (if ay = 6 then (some true) else (some (ay == 7))))
theorem jc.calls (ay : Int) (aN : ByteArray) (aY : Int) (aZ : Bool) (bM : Option Addr) (bG : Nat) (ah : List (ak)) (bn : Int) (r : Bool) (w : World) (gK : Kd.C k25 w bM ah.length ah) (iD : ah.length ≤ bG) (h : jc.f ay aN aY aZ ah bn = some r) :
 Calls Tryz.prog 98 #[.agg #[.int .i64 ay,.string aN,.int .u32 aY,.bool aZ,.slice bM ah.length bG,.int .i64 bn]] w fun e w' => e = .returned (.bool r) ∧ Below w.heap.size w w' := by
 have vC:=Tryz.underlying25;clear gK iD;have HB:=Am (Below.refl w.heap.size w);have H : (if ay = 4 then (some true) else (if ay = 5 then (some true) else (if ay = 6 then (some true) else (some (ay == 7))))) = some r:=h;clear h;by_cases c2 : ay = 4
 · rw [if_pos c2] at H;have lD : (ay == 4) = true:=beq_iff_eq.mpr c2;clear c2;obtain rfl:=Option.some.inj H;go_enter Tryz.func98,Tryz.ntmps98
   go_wp2_with (first|((with_reducible refine jM (N:=1) rfl ?_);refine kL ?hg (N:=1) ?hd (cs:=#[.int .i64 ay,.string aN,.int .u32 aY,.bool aZ,.slice bM ah.length bG,.int .i64 bn]) (t:=25) ?hr ?_;(case hd => rfl);(case hg => rfl);(case hr => first|(go_simp;done)|(go_simp;rfl));intro dU hg w3 hbox hb;have aX:=Am (Z25 YH hb);have bf:=Am (hbox);have dh:=Am ((YW hg : w.heap.size ≤ dU));have dQ:=Am ((YW hg : w.heap.size ≤ dU));clear HB;have HB:=aX;have iY:=bf;have qg:=dh;have jC:=dQ;clear aX bf dh dQ;clear hb hbox hg;have yE : w3.cell? ⟨dU,0,none⟩ = some (.int .i64 ay):=(Z5 iY.out 0).trans rfl))
   go_ret
   exact ⟨by first|rfl|(simp [dO,dP] <;> rfl)|(simp [*,dO,dP] <;> rfl),by repeat (first|(with_reducible first|exact HB.out|apply Z7|apply Z4|apply Z6|refine Z8 ?_ jC.out)|exact HB.out)⟩
 · rw [if_neg c2] at H;have lD : (ay == 4) = false:=beq_eq_false_iff_ne.mpr c2;by_cases c5 : ay = 5
   · rw [if_pos c5] at H;have lq : (ay == 5) = true:=beq_iff_eq.mpr c5;clear c5;obtain rfl:=Option.some.inj H;go_enter Tryz.func98,Tryz.ntmps98
     go_wp2_with (first|((with_reducible refine jM (N:=1) rfl ?_);refine kL ?hg (N:=1) ?hd (cs:=#[.int .i64 ay,.string aN,.int .u32 aY,.bool aZ,.slice bM ah.length bG,.int .i64 bn]) (t:=25) ?hr ?_;(case hd => rfl);(case hg => rfl);(case hr => first|(go_simp;done)|(go_simp;rfl));intro dU hg w6 hbox hb;have aX:=Am (Z25 YH hb);have bf:=Am (hbox);have dh:=Am ((YW hg : w.heap.size ≤ dU));have dQ:=Am ((YW hg : w.heap.size ≤ dU));clear HB;have HB:=aX;have iY:=bf;have qg:=dh;have jC:=dQ;clear aX bf dh dQ;clear hb hbox hg;have yG : w6.cell? ⟨dU,0,none⟩ = some (.int .i64 ay):=(Z5 iY.out 0).trans rfl))
     go_ret
     exact ⟨by first|rfl|(simp [dO,dP] <;> rfl)|(simp [*,dO,dP] <;> rfl),by repeat (first|(with_reducible first|exact HB.out|apply Z7|apply Z4|apply Z6|refine Z8 ?_ jC.out)|exact HB.out)⟩
   · rw [if_neg c5] at H;have lq : (ay == 5) = false:=beq_eq_false_iff_ne.mpr c5;by_cases c8 : ay = 6
     · rw [if_pos c8] at H;have o8 : (ay == 6) = true:=beq_iff_eq.mpr c8;clear c8;obtain rfl:=Option.some.inj H;go_enter Tryz.func98,Tryz.ntmps98
       go_wp2_with (first|((with_reducible refine jM (N:=1) rfl ?_);refine kL ?hg (N:=1) ?hd (cs:=#[.int .i64 ay,.string aN,.int .u32 aY,.bool aZ,.slice bM ah.length bG,.int .i64 bn]) (t:=25) ?hr ?_;(case hd => rfl);(case hg => rfl);(case hr => first|(go_simp;done)|(go_simp;rfl));intro dU hg w9 hbox hb;have aX:=Am (Z25 YH hb);have bf:=Am (hbox);have dh:=Am ((YW hg : w.heap.size ≤ dU));have dQ:=Am ((YW hg : w.heap.size ≤ dU));clear HB;have HB:=aX;have iY:=bf;have qg:=dh;have jC:=dQ;clear aX bf dh dQ;clear hb hbox hg;have rD : w9.cell? ⟨dU,0,none⟩ = some (.int .i64 ay):=(Z5 iY.out 0).trans rfl))
       go_ret
       exact ⟨by first|rfl|(simp [dO,dP] <;> rfl)|(simp [*,dO,dP] <;> rfl),by repeat (first|(with_reducible first|exact HB.out|apply Z7|apply Z4|apply Z6|refine Z8 ?_ jC.out)|exact HB.out)⟩
     · rw [if_neg c8] at H;have o8 : (ay == 6) = false:=beq_eq_false_iff_ne.mpr c8;obtain rfl:=Option.some.inj H;go_enter Tryz.func98,Tryz.ntmps98
       go_wp2_with (first|((with_reducible refine jM (N:=1) rfl ?_);refine kL ?hg (N:=1) ?hd (cs:=#[.int .i64 ay,.string aN,.int .u32 aY,.bool aZ,.slice bM ah.length bG,.int .i64 bn]) (t:=25) ?hr ?_;(case hd => rfl);(case hg => rfl);(case hr => first|(go_simp;done)|(go_simp;rfl));intro dU hg Nu hbox hb;have aX:=Am (Z25 YH hb);have bf:=Am (hbox);have dh:=Am ((YW hg : w.heap.size ≤ dU));have dQ:=Am ((YW hg : w.heap.size ≤ dU));clear HB;have HB:=aX;have iY:=bf;have qg:=dh;have jC:=dQ;clear aX bf dh dQ;clear hb hbox hg;have Ju : Nu.cell? ⟨dU,0,none⟩ = some (.int .i64 ay):=(Z5 iY.out 0).trans rfl))
       go_ret
       exact ⟨by first|rfl|(simp [dO,dP] <;> rfl)|(simp [*,dO,dP] <;> rfl),by repeat (first|(with_reducible first|exact HB.out|apply Z7|apply Z4|apply Z6|refine Z8 ?_ jC.out)|exact HB.out)⟩
end Go.Proofs.YtboojhadfhpdeaaGreatDoor.Q
