/- A part of the proof, made small by a program: Qx35, Qx36. -/
import Derived.Test.YtboojhadfhpdeaaGreatDoorVp2
import Derived.Test.YtboojhadfhpdeaaGreatDoorVp4
import Derived.Test.YtboojhadfhpdeaaGreatDoorVp5
set_option linter.unusedVariables false
set_option linter.unusedSimpArgs false
set_option maxHeartbeats 8000000
set_option maxRecDepth 100000
namespace Go.Proofs.YtboojhadfhpdeaaGreatDoor.Q
open Go.RowKit Go.Proofs.YtboojhadfhpdeaaGreatDoorW.PrintWords Go.Proofs.YtboojhadfhpdeaaGreatDoorW.PrintLast Go.Proofs.YtboojhadfhpdeaaGreatDoorW.PrintMore
def dW.l0 : Nat → ByteArray → List ByteArray → Int → Int → Option (Int)
 | 0,_,_,_,_ => none
 | k + 1,x0,x5,x6,x7 => if x7 < x6 then (if 0 ≤ x7 then (if x7 < (x5.length : Int) then ((iM.f (G6 ByteArray.empty x5 x7) x0).bind fun t169 => (if t169 = true then (some (wrap64 (x7 + 2))) else (dW.l0 k x0 x5 x6 (wrap64 (x7 + 1))))) else (none)) else (none)) else (some 0)
def dW.f (k : Nat) (a0 : ByteArray) : Option (Int):=(some (([(⟨#[124,124]⟩ : ByteArray),(⟨#[38,38]⟩ : ByteArray),(⟨#[124]⟩ : ByteArray),(⟨#[94]⟩ : ByteArray),(⟨#[38]⟩ : ByteArray),(⟨#[61,61,32,33,61]⟩ : ByteArray),(⟨#[60,32,62,32,60,61,32,62,61]⟩ : ByteArray),(⟨#[60,60,32,62,62]⟩ : ByteArray),(⟨#[43,32,45]⟩ : ByteArray),(⟨#[42,32,47,32,37]⟩ : ByteArray)] : List ByteArray) : List ByteArray)).bind fun nX => (dW.l0 k a0 nX (nX.length : Int) 0)
theorem dW.calls (k : Nat) (a0 : ByteArray) (r : Int) (w : World) (hG : aH w) (h : dW.f k a0 = some r) :
 Calls Tryz.prog 114 #[.string a0] w fun e w' => e = .returned (.int .i64 r) ∧ Below w.heap.size w w' := by
 have HG:=Am hG;clear hG;have HB:=Am (Below.refl w.heap.size w);have H : ((some (([(⟨#[124,124]⟩ : ByteArray),(⟨#[38,38]⟩ : ByteArray),(⟨#[124]⟩ : ByteArray),(⟨#[94]⟩ : ByteArray),(⟨#[38]⟩ : ByteArray),(⟨#[61,61,32,33,61]⟩ : ByteArray),(⟨#[60,32,62,32,60,61,32,62,61]⟩ : ByteArray),(⟨#[60,60,32,62,62]⟩ : ByteArray),(⟨#[43,32,45]⟩ : ByteArray),(⟨#[42,32,47,32,37]⟩ : ByteArray)] : List ByteArray) : List ByteArray)).bind fun nX => (dW.l0 k a0 nX (nX.length : Int) 0)) = some r:=h;clear h;obtain ⟨nX,Fp⟩ : ∃ y_ : List ByteArray,y_ = (([(⟨#[124,124]⟩ : ByteArray),(⟨#[38,38]⟩ : ByteArray),(⟨#[124]⟩ : ByteArray),(⟨#[94]⟩ : ByteArray),(⟨#[38]⟩ : ByteArray),(⟨#[61,61,32,33,61]⟩ : ByteArray),(⟨#[60,32,62,32,60,61,32,62,61]⟩ : ByteArray),(⟨#[60,60,32,62,62]⟩ : ByteArray),(⟨#[43,32,45]⟩ : ByteArray),(⟨#[42,32,47,32,37]⟩ : ByteArray)] : List ByteArray)):=⟨_,rfl⟩
 replace H : (dW.l0 k a0 nX (nX.length : Int) 0) = some r:=by first|(rw [Fp];with_reducible exact H)|(have gU:=(Option.bind_some _ _).symm.trans H;rw [Fp];with_reducible exact gU)|(have gU:=(Option.bind_some _ _).symm.trans H;with_reducible exact gU)|with_reducible exact H|(rw [Fp];exact H)|exact H
 have Ny165:=Am Fp;clear Fp;have H' := Ad.mk H;clear H;go_enter Tryz.func114,Tryz.ntmps114
 go_wp2_with (first|((with_reducible refine jM (N:=5) rfl ?_);refine Kd.rW Kd.string _ 9 ?hg (N:=5) ?hd (xs:=([(⟨#[124,124]⟩ : ByteArray),(⟨#[38,38]⟩ : ByteArray),(⟨#[124]⟩ : ByteArray),(⟨#[94]⟩ : ByteArray),(⟨#[38]⟩ : ByteArray),(⟨#[61,61,32,33,61]⟩ : ByteArray),(⟨#[60,32,62,32,60,61,32,62,61]⟩ : ByteArray),(⟨#[60,60,32,62,62]⟩ : ByteArray),(⟨#[43,32,45]⟩ : ByteArray),(⟨#[42,32,47,32,37]⟩ : ByteArray)] : List ByteArray)) (inner:=[.string (⟨#[124,124]⟩ : ByteArray),.string (⟨#[38,38]⟩ : ByteArray),.string (⟨#[124]⟩ : ByteArray),.string (⟨#[94]⟩ : ByteArray),.string (⟨#[38]⟩ : ByteArray),.string (⟨#[61,61,32,33,61]⟩ : ByteArray),.string (⟨#[60,32,62,32,60,61,32,62,61]⟩ : ByteArray),.string (⟨#[60,60,32,62,62]⟩ : ByteArray),.string (⟨#[43,32,45]⟩ : ByteArray),.string (⟨#[42,32,47,32,37]⟩ : ByteArray)]) (ok:=fun _ => True) (sH:=fun _ => True) ?hr ?hp (fun _ hk => hk) trivial (Below.refl _ _) (Nat.le_refl _) (by simp) ?_;(case hd => rfl);(case hg => rfl);(case hr => first|(go_simp;done)|(go_simp;rfl));(case hp => exact (fC.one (show Kd.M Kd.string _ _ _ (⟨#[124,124]⟩ : ByteArray) [.string (⟨#[124,124]⟩ : ByteArray)] from rfl) (fC.one (show Kd.M Kd.string _ _ _ (⟨#[38,38]⟩ : ByteArray) [.string (⟨#[38,38]⟩ : ByteArray)] from rfl) (fC.one (show Kd.M Kd.string _ _ _ (⟨#[124]⟩ : ByteArray) [.string (⟨#[124]⟩ : ByteArray)] from rfl) (fC.one (show Kd.M Kd.string _ _ _ (⟨#[94]⟩ : ByteArray) [.string (⟨#[94]⟩ : ByteArray)] from rfl) (fC.one (show Kd.M Kd.string _ _ _ (⟨#[38]⟩ : ByteArray) [.string (⟨#[38]⟩ : ByteArray)] from rfl) (fC.one (show Kd.M Kd.string _ _ _ (⟨#[61,61,32,33,61]⟩ : ByteArray) [.string (⟨#[61,61,32,33,61]⟩ : ByteArray)] from rfl) (fC.one (show Kd.M Kd.string _ _ _ (⟨#[60,32,62,32,60,61,32,62,61]⟩ : ByteArray) [.string (⟨#[60,32,62,32,60,61,32,62,61]⟩ : ByteArray)] from rfl) (fC.one (show Kd.M Kd.string _ _ _ (⟨#[60,60,32,62,62]⟩ : ByteArray) [.string (⟨#[60,60,32,62,62]⟩ : ByteArray)] from rfl) (fC.one (show Kd.M Kd.string _ _ _ (⟨#[43,32,45]⟩ : ByteArray) [.string (⟨#[43,32,45]⟩ : ByteArray)] from rfl) (fC.one (show Kd.M Kd.string _ _ _ (⟨#[42,32,47,32,37]⟩ : ByteArray) [.string (⟨#[42,32,47,32,37]⟩ : ByteArray)] from rfl) (fC.none _ _))))))))))));intro v166 w2 ho3 hb vI ji;clear vI ji;(first|rw [← Ny165.out] at ho3|(simp only [Int.reduceToNat] at ho3;rw [← Ny165.out] at ho3));have aX:=Am (Kd.jy ho3 (uK YH));have bf:=Am (Z25 YH hb);clear HB;have HO167:=aX;have HB:=bf;clear aX bf;clear hb ho3;obtain ⟨Ao4,co4,eo4⟩:=Kd.kK HO167.out;subst eo4))
 go_loopg [7] k (fun kq v7 w' => ∃ (qx : Int),v7 = .int .i64 qx ∧ Ad (dW.l0 kq a0 nX (nX.length : Int) qx = some r) ∧ Ad (kq ≤ k) ∧ Ad (Kd.R Kd.string 9 w' w.heap.size (fun _ => True) (.slice Ao4 nX.length co4) nX) ∧ Ad (Below w.heap.size w w'))
 case atStart => exact ⟨(0),YF,H',⟨Nat.le_refl _⟩,⟨YR HO167⟩,⟨YH⟩⟩
 case round =>
  clear H';obtain ⟨qx,rfl,HA,dN,DV,HB⟩:=hrel;cases gk with
  | zero => exact absurd HA.out (by simp [dW.l0])
  | succ k1 =>
   have H:=HA.out;clear HA;simp only [dW.l0] at H;by_cases c5 : qx < (nX.length : Int)
   · rw [if_pos c5] at H;have lq:=decide_eq_true c5;clear c5;by_cases c6 : 0 ≤ qx
     · rw [if_pos c6] at H;have oG:=decide_eq_true c6;clear c6;by_cases c7 : qx < (nX.length : Int)
       · rw [if_pos c7] at H;have yC:=decide_eq_true c7;clear c7;replace H:=Option.bind_eq_some_iff.mp H;obtain ⟨t169,A80,H⟩:=H;replace H : (if t169 = true then (some (wrap64 (qx + 2))) else (dW.l0 k1 a0 nX (nX.length : Int) (wrap64 (qx + 1)))) = some r:=H;have A8:=Am A80;clear A80;by_cases c9 : t169 = true
         · subst c9;have H1 : (some (wrap64 (qx + 2))) = some r:=by rw [if_pos rfl] at H;exact H
           clear H;have H:=H1;clear H1;obtain rfl:=Option.some.inj H;have Hz : 0 ≤ (qx : Int):=YA;have HY : qx < (nX.length : Int):=YA;obtain ⟨ad168,e168,hx168_0⟩:=Kd.BJ (Kd.jA DV.out).2.2 qx Hz HY;cases e168;replace Hz:=eq_true Hz;replace HY:=eq_true HY;go_wp2_with (first|((with_reducible refine sU (f:=68) rfl ?_);refine fV (some 14) rfl rfl Tryz.func68 (by kernel_rfl) rfl #[.string (G6 ByteArray.empty nX qx),.string a0] rfl (by (try simp only [List.map_toArray,List.map_cons,List.map_nil]);first|done|rfl|(simp only [List.length_drop,List.length_take];rfl)) ?_;(with_reducible refine (iM.calls (G6 ByteArray.empty nX qx) a0 true _ ?dK A8.out).mono ?_);(case dK => refine aH.below HG.out ?_;exact YH);rintro e w10 ⟨rfl,hb⟩;refine ⟨_,rfl,?_⟩;have aX:=Am (Kd.wB (YR DV) hb);have bf:=Am (Z25 YH hb);clear DV;clear HB;have DV:=aX;have HB:=bf;clear aX bf;(try clear hb);(try clear hk)))
           go_ret
           exact ⟨by first|rfl|(simp [dO,dP] <;> rfl)|(simp [*,dO,dP] <;> rfl),by repeat (first|(with_reducible first|exact HB.out|apply Z7|apply Z4|apply Z6)|exact HB.out)⟩
         · replace c9:=Bool.eq_false_iff.mpr c9;subst c9;have H1 : (dW.l0 k1 a0 nX (nX.length : Int) (wrap64 (qx + 1))) = some r:=by rw [if_neg (show ¬ (false = true) by decide)] at H;exact H
           clear H;have H:=H1;clear H1;have H' := Ad.mk H;clear H;have Hz : 0 ≤ (qx : Int):=YA;have HY : qx < (nX.length : Int):=YA;obtain ⟨ad168,e168,hx168_0⟩:=Kd.BJ (Kd.jA DV.out).2.2 qx Hz HY;cases e168;replace Hz:=eq_true Hz;replace HY:=eq_true HY;go_wp2_with (first|((with_reducible refine sU (f:=68) rfl ?_);refine fV (some 14) rfl rfl Tryz.func68 (by kernel_rfl) rfl #[.string (G6 ByteArray.empty nX qx),.string a0] rfl (by (try simp only [List.map_toArray,List.map_cons,List.map_nil]);first|done|rfl|(simp only [List.length_drop,List.length_take];rfl)) ?_;(with_reducible refine (iM.calls (G6 ByteArray.empty nX qx) a0 false _ ?dK A8.out).mono ?_);(case dK => refine aH.below HG.out ?_;exact YH);rintro e Nu ⟨rfl,hb⟩;refine ⟨_,rfl,?_⟩;have aX:=Am (Kd.wB (YR DV) hb);have bf:=Am (Z25 YH hb);clear DV;clear HB;have DV:=aX;have HB:=bf;clear aX bf;(try clear hb);(try clear hk)))
           go_roundg k1
           case measure => have:=dN.out;omega
           case rel => exact ⟨(wrap64 (qx + 1)),YF,H',⟨by have:=dN.out;omega⟩,⟨YR DV⟩,⟨YH⟩⟩
       · rw [if_neg c7] at H;exact absurd H (by simp)
     · rw [if_neg c6] at H;exact absurd H (by simp)
   · rw [if_neg c5] at H;have lq:=decide_eq_false c5;clear c5;obtain rfl:=Option.some.inj H;go_wp2
     go_ret
     exact ⟨by first|rfl|(simp [dO,dP] <;> rfl)|(simp [*,dO,dP] <;> rfl),by repeat (first|(with_reducible first|exact HB.out|apply Z7|apply Z4|apply Z6)|exact HB.out)⟩
def iJ.j0 : Nat → Int → Bool → Int → ByteArray → Int → Bool → List (ak) → Int → Option (Int)
 | 0,_,_,_,_,_,_,_,_ => none
 | k + 1,x4,x9,x171000,x171001,x171002,x171003,x171004,x171005 => if x9 = true then ((dW.f k x171001).bind fun t171 => (some t171)) else (if x4 = 9 then (some 12) else (if x4 = 14 then (some 12) else (if x4 = 15 then (some 12) else (some 13))))
def iJ.f (k : Nat) (ay : Int) (aN : ByteArray) (aY : Int) (aZ : Bool) (ah : List (ak)) (bn : Int) : Option (Int):=if ay = 13 then (some 0) else (if ay = 12 then (some 1) else (if ay = 10 then (iJ.j0 k ay (ay == 10) ay aN aY aZ ah bn) else (iJ.j0 k ay (ay == 11) ay aN aY aZ ah bn)))
theorem iJ.calls (k : Nat) (ay : Int) (aN : ByteArray) (aY : Int) (aZ : Bool) (bM : Option Addr) (bG : Nat) (ah : List (ak)) (bn : Int) (r : Int) (w : World) (gK : Kd.C k25 w bM ah.length ah) (iD : ah.length ≤ bG) (hG : aH w) (h : iJ.f k ay aN aY aZ ah bn = some r) :
 Calls Tryz.prog 99 #[.agg #[.int .i64 ay,.string aN,.int .u32 aY,.bool aZ,.slice bM ah.length bG,.int .i64 bn]] w fun e w' => e = .returned (.int .i64 r) ∧ Below w.heap.size w w' := by
 have vC:=Tryz.underlying25;clear gK iD;have HG:=Am hG;clear hG;have HB:=Am (Below.refl w.heap.size w);have H : (if ay = 13 then (some 0) else (if ay = 12 then (some 1) else (if ay = 10 then (iJ.j0 k ay (ay == 10) ay aN aY aZ ah bn) else (iJ.j0 k ay (ay == 11) ay aN aY aZ ah bn)))) = some r:=h;clear h;by_cases c2 : ay = 13
 · rw [if_pos c2] at H;have lD : (ay == 13) = true:=beq_iff_eq.mpr c2;clear c2;obtain rfl:=Option.some.inj H;go_enter Tryz.func99,Tryz.ntmps99
   go_wp2_with (first|((with_reducible refine jM (N:=1) rfl ?_);refine kL ?hg (N:=1) ?hd (cs:=#[.int .i64 ay,.string aN,.int .u32 aY,.bool aZ,.slice bM ah.length bG,.int .i64 bn]) (t:=25) ?hr ?_;(case hd => rfl);(case hg => rfl);(case hr => first|(go_simp;done)|(go_simp;rfl));intro qJ hg w3 hbox hb;have aX:=Am (Z25 YH hb);have bf:=Am (hbox);have dh:=Am ((YW hg : w.heap.size ≤ qJ));have dQ:=Am ((YW hg : w.heap.size ≤ qJ));clear HB;have HB:=aX;have rY:=bf;have GW170:=dh;have xq:=dQ;clear aX bf dh dQ;clear hb hbox hg;have yE : w3.cell? ⟨qJ,0,none⟩ = some (.int .i64 ay):=(Z5 rY.out 0).trans rfl))
   go_ret
   exact ⟨by first|rfl|(simp [dO,dP] <;> rfl)|(simp [*,dO,dP] <;> rfl),by repeat (first|(with_reducible first|exact HB.out|apply Z7|apply Z4|apply Z6|refine Z8 ?_ xq.out)|exact HB.out)⟩
 · rw [if_neg c2] at H;have lD : (ay == 13) = false:=beq_eq_false_iff_ne.mpr c2;by_cases c5 : ay = 12
   · rw [if_pos c5] at H;have lq : (ay == 12) = true:=beq_iff_eq.mpr c5;clear c5;obtain rfl:=Option.some.inj H;go_enter Tryz.func99,Tryz.ntmps99
     go_wp2_with (first|((with_reducible refine jM (N:=1) rfl ?_);refine kL ?hg (N:=1) ?hd (cs:=#[.int .i64 ay,.string aN,.int .u32 aY,.bool aZ,.slice bM ah.length bG,.int .i64 bn]) (t:=25) ?hr ?_;(case hd => rfl);(case hg => rfl);(case hr => first|(go_simp;done)|(go_simp;rfl));intro qJ hg w6 hbox hb;have aX:=Am (Z25 YH hb);have bf:=Am (hbox);have dh:=Am ((YW hg : w.heap.size ≤ qJ));have dQ:=Am ((YW hg : w.heap.size ≤ qJ));clear HB;have HB:=aX;have rY:=bf;have GW170:=dh;have xq:=dQ;clear aX bf dh dQ;clear hb hbox hg;have yG : w6.cell? ⟨qJ,0,none⟩ = some (.int .i64 ay):=(Z5 rY.out 0).trans rfl))
     go_ret
     exact ⟨by first|rfl|(simp [dO,dP] <;> rfl)|(simp [*,dO,dP] <;> rfl),by repeat (first|(with_reducible first|exact HB.out|apply Z7|apply Z4|apply Z6|refine Z8 ?_ xq.out)|exact HB.out)⟩
   · rw [if_neg c5] at H;have lq : (ay == 12) = false:=beq_eq_false_iff_ne.mpr c5;have HC8:=Am H;clear H;go_enter Tryz.func99,Tryz.ntmps99
     go_upto_if 9 with (first|((with_reducible refine jM (N:=1) rfl ?_);refine kL ?hg (N:=1) ?hd (cs:=#[.int .i64 ay,.string aN,.int .u32 aY,.bool aZ,.slice bM ah.length bG,.int .i64 bn]) (t:=25) ?hr ?_;(case hd => rfl);(case hg => rfl);(case hr => first|(go_simp;done)|(go_simp;rfl));intro qJ hg w9 hbox hb;have aX:=Am (Z25 YH hb);have bf:=Am (hbox);have dh:=Am ((YW hg : w.heap.size ≤ qJ));have dQ:=Am ((YW hg : w.heap.size ≤ qJ));clear HB;have HB:=aX;have rY:=bf;have GW170:=dh;have xq:=dQ;clear aX bf dh dQ;clear hb hbox hg;have rD : w9.cell? ⟨qJ,0,none⟩ = some (.int .i64 ay):=(Z5 rY.out 0).trans rfl))
     (try simp only [Act.put,Y1,Y2,Y3]);go_cut [9] (fun v9 wc => ∃ (kq : Nat) (DW : Bool),v9 = .bool DW ∧ Ad (iJ.j0 kq ay DW ay aN aY aZ ah bn = some r) ∧ Ad (kq ≤ k) ∧ Ad (wc.heap[qJ]? = some (.cells #[.int .i64 ay,.string aN,.int .u32 aY,.bool aZ,(.slice bM ah.length bG),.int .i64 bn] 25 (0,0))) ∧ Ad (Below w.heap.size w wc))
     case first =>
      have H:=HC8.out;clear HC8;by_cases c11 : ay = 10
      · rw [if_pos c11] at H;have kM : (ay == 10) = true:=beq_iff_eq.mpr c11;clear c11;(first|rw [kM]|(simp only [bY];rw [kM])|skip);have H' := Ad.mk H;clear H;go_wp2
        go_meet
        case rel => exact ⟨_,((ay == 10)),YF,H',⟨by first|omega|exact Nat.le_refl _⟩,⟨YK rY⟩,⟨YH⟩⟩
      · rw [if_neg c11] at H;have kM : (ay == 10) = false:=beq_eq_false_iff_ne.mpr c11;(first|rw [kM]|(simp only [bY];rw [kM])|skip);have H' := Ad.mk H;clear H;go_wp2
        go_meet
        case rel => exact ⟨_,((ay == 11)),YF,H',⟨by first|omega|exact Nat.le_refl _⟩,⟨YK rY⟩,⟨YH⟩⟩
     case rest =>
      clear HC8;try clear c2
      try clear lD
      try clear c5
      try clear lq
      try clear rD
      obtain ⟨kq,DW,rfl,HA,HJ7,rY,HB⟩:=hcut;cases kq with
      | zero => exact absurd HA.out (by simp [iJ.j0])
      | succ kj7 =>
       have H:=HA.out;clear HA;simp only [iJ.j0] at H;by_cases c12 : DW = true
       · subst c12;have H1 : ((dW.f kj7 aN).bind fun t171 => (some t171)) = some r:=by rw [if_pos rfl] at H;exact H
         clear H;have H:=H1;clear H1;replace H:=Option.bind_eq_some_iff.mp H;obtain ⟨t171,A130,H⟩:=H;replace H : (some t171) = some r:=H;have A13:=Am A130;clear A130;obtain rfl:=Option.some.inj H;have hcz14_1 : wc.cell? ⟨qJ,1,none⟩ = some (.string aN):=(Z5 rY.out 1).trans rfl;go_wp2_with (first|((with_reducible refine sU (f:=114) rfl ?_);refine fV (some 14) rfl rfl Tryz.func114 (by kernel_rfl) rfl #[.string aN] rfl (by (try simp only [List.map_toArray,List.map_cons,List.map_nil]);first|done|rfl|(simp only [List.length_drop,List.length_take];rfl)) ?_;(with_reducible refine (dW.calls kj7 aN t171 _ ?dK A13.out).mono ?_);(case dK => refine aH.below HG.out ?_;exact YH);rintro e w15 ⟨rfl,hb⟩;refine ⟨_,rfl,?_⟩;have aX:=Am (o7 (YK rY) hb);have bf:=Am (Z25 YH hb);clear rY;clear HB;have rY:=aX;have HB:=bf;clear aX bf;(try clear hb)))
         go_ret
         exact ⟨by first|rfl|(simp [dO,dP] <;> rfl)|(simp [*,dO,dP] <;> rfl),by repeat (first|(with_reducible first|exact HB.out|apply Z7|apply Z4|apply Z6|refine Z8 ?_ xq.out)|exact HB.out)⟩
       · replace c12:=Bool.eq_false_iff.mpr c12;subst c12;have H1 : (if ay = 9 then (some 12) else (if ay = 14 then (some 12) else (if ay = 15 then (some 12) else (some 13)))) = some r:=by rw [if_neg (show ¬ (false = true) by decide)] at H;exact H
         clear H;have H:=H1;clear H1;by_cases c16 : ay = 9
         · rw [if_pos c16] at H;have pY : (ay == 9) = true:=beq_iff_eq.mpr c16;clear c16;obtain rfl:=Option.some.inj H;go_wp2
           go_ret
           exact ⟨by first|rfl|(simp [dO,dP] <;> rfl)|(simp [*,dO,dP] <;> rfl),by repeat (first|(with_reducible first|exact HB.out|apply Z7|apply Z4|apply Z6|refine Z8 ?_ xq.out)|exact HB.out)⟩
         · rw [if_neg c16] at H;have pY : (ay == 9) = false:=beq_eq_false_iff_ne.mpr c16;by_cases c17 : ay = 14
           · rw [if_pos c17] at H;have xu : (ay == 14) = true:=beq_iff_eq.mpr c17;clear c17;obtain rfl:=Option.some.inj H;go_wp2
             go_ret
             exact ⟨by first|rfl|(simp [dO,dP] <;> rfl)|(simp [*,dO,dP] <;> rfl),by repeat (first|(with_reducible first|exact HB.out|apply Z7|apply Z4|apply Z6|refine Z8 ?_ xq.out)|exact HB.out)⟩
           · rw [if_neg c17] at H;have xu : (ay == 14) = false:=beq_eq_false_iff_ne.mpr c17;by_cases c18 : ay = 15
             · rw [if_pos c18] at H;have zk : (ay == 15) = true:=beq_iff_eq.mpr c18;clear c18;obtain rfl:=Option.some.inj H;go_wp2
               go_ret
               exact ⟨by first|rfl|(simp [dO,dP] <;> rfl)|(simp [*,dO,dP] <;> rfl),by repeat (first|(with_reducible first|exact HB.out|apply Z7|apply Z4|apply Z6|refine Z8 ?_ xq.out)|exact HB.out)⟩
             · rw [if_neg c18] at H;have zk : (ay == 15) = false:=beq_eq_false_iff_ne.mpr c18;obtain rfl:=Option.some.inj H;go_wp2
               go_ret
               exact ⟨by first|rfl|(simp [dO,dP] <;> rfl)|(simp [*,dO,dP] <;> rfl),by repeat (first|(with_reducible first|exact HB.out|apply Z7|apply Z4|apply Z6|refine Z8 ?_ xq.out)|exact HB.out)⟩
end Go.Proofs.YtboojhadfhpdeaaGreatDoor.Q
