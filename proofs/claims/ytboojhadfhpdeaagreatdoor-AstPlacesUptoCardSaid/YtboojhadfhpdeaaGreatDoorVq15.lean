/- A part of the proof, made small by a program: Qx89, Qx90. -/
import Derived.Test.YtboojhadfhpdeaaGreatDoorVq2
import Derived.Test.YtboojhadfhpdeaaGreatDoorVq4
import Derived.Test.YtboojhadfhpdeaaGreatDoorVq5
set_option linter.unusedVariables false
set_option linter.unusedSimpArgs false
set_option maxHeartbeats 8000000
set_option maxRecDepth 100000
namespace Go.Proofs.YtboojhadfhpdeaaGreatDoor.Q
open Go.RowKit Go.Proofs.YtboojhadfhpdeaaGreatDoorW.PrintWords Go.Proofs.YtboojhadfhpdeaaGreatDoorW.PrintLast Go.Proofs.YtboojhadfhpdeaaGreatDoorW.PrintMore
attribute [local go_sem] fM fO gI gJ fD fE fP fQ
mutual
def bK.l0 : Nat → Int → Int → Int → ByteArray → Int → Bool → List (bn) → Int → Option (Int)
 | 0,_,_,_,_,_,_,_,_ => none
 | k + 1,x3,x4,PI,PK,PL,PN,rU,PO => if x4 < (rU.length : Int) then (if 0 ≤ x4 then ((bK.f k ((aG rU x4).f0) ((aG rU x4).f1) ((aG rU x4).f2) ((aG rU x4).f3) ((aG rU x4).f4) ((aG rU x4).f5)).bind fun Ee => (if Ee > x3 then (bK.l0 k Ee (wrap64 (x4 + 1)) PI PK PL PN rU PO) else (bK.l0 k x3 (wrap64 (x4 + 1)) PI PK PL PN rU PO))) else (none)) else (some (wrap64 (x3 + 1)))
def bK.f : Nat → Int → ByteArray → Int → Bool → List (bn) → Int → Option (Int)
 | 0,_,_,_,_,_,_ => none
 | k + 1,aK,aW,aX,aZ,aC,aY => bK.l0 k 0 0 aK aW aX aZ aC aY
end
theorem bK.gB : ∀ k,(∀ y0 y1 y2 y3 y4 y5,dM (bK.f k y0 y1 y2 y3 y4 y5) (bK.f (k + 1) y0 y1 y2 y3 y4 y5)) ∧ (∀ y0 y1 y2 y3 y4 y5 y6 y7,dM (bK.l0 k y0 y1 y2 y3 y4 y5 y6 y7) (bK.l0 (k + 1) y0 y1 y2 y3 y4 y5 y6 y7))
 | 0 => ⟨fun _ _ _ _ _ _ r h => by simp [bK.f] at h,fun _ _ _ _ _ _ _ _ r h => by simp [bK.l0] at h⟩
 | k + 1 => by
  obtain ⟨kT,ih1⟩:=bK.gB k;refine ⟨?_,?_⟩
  · intro y0 y1 y2 y3 y4 y5;unfold bK.f
    repeat' first
    | (with_reducible exact kT _ _ _ _ _ _)
    | (with_reducible exact ih1 _ _ _ _ _ _ _ _)
    | (with_reducible exact dM.refl _)
    | (with_reducible exact dM.none _)
    | (with_reducible refine dM.ite ?_ ?_)
    | (with_reducible refine dM.bind ?_ (fun _ => ?_))
    | exact kT _ _ _ _ _ _
    | exact ih1 _ _ _ _ _ _ _ _
    | exact dM.none _
    | refine dM.ite ?_ ?_
    | refine dM.bind ?_ (fun _ => ?_)
  · intro y0 y1 y2 y3 y4 y5 y6 y7;unfold bK.l0
    repeat' first
    | (with_reducible exact kT _ _ _ _ _ _)
    | (with_reducible exact ih1 _ _ _ _ _ _ _ _)
    | (with_reducible exact dM.refl _)
    | (with_reducible exact dM.none _)
    | (with_reducible refine dM.ite ?_ ?_)
    | (with_reducible refine dM.bind ?_ (fun _ => ?_))
    | exact kT _ _ _ _ _ _
    | exact ih1 _ _ _ _ _ _ _ _
    | exact dM.none _
    | refine dM.ite ?_ ?_
    | refine dM.bind ?_ (fun _ => ?_)
theorem bK.mono : ∀ a0 a1 a2 a3 a4 a5 k,dM (bK.f k a0 a1 a2 a3 a4 a5) (bK.f (k + 1) a0 a1 a2 a3 a4 a5):=by
 intro a0 a1 a2 a3 a4 a5 k;obtain ⟨kT,ih1⟩:=bK.gB k;exact kT a0 a1 a2 a3 a4 a5
theorem bK.calls (k : Nat) : ∀ (aK : Int) (aW : ByteArray) (aX : Int) (aZ : Bool) (bU : Option Addr) (bJ : Nat) (aC : List (bn)) (aY : Int) (r : Int) (w : World) (gU : Kd.C k25 w bU aC.length aC) (gV : aC.length ≤ bJ) (h : bK.f k aK aW aX aZ aC aY = some r),
 Calls Tryz.prog 31 #[.agg #[.int .i64 aK,.string aW,.int .u32 aX,.bool aZ,.slice bU aC.length bJ,.int .i64 aY]] w fun e w' => e = .returned (.int .i64 r) ∧ Below w.heap.size w w' := by
 induction k using Nat.strongRecOn with
 | _ k ih =>
 intro aK aW aX aZ bU bJ aC aY r w gU gV h;cases k with
 | zero => exact absurd h (by simp [bK.f])
 | succ k =>
 simp only [bK.f] at h;have vZ:=Tryz.underlying25;have fZ:=Am gU;have iP:=Am gV;clear gU gV;have HB:=Am (Below.refl w.heap.size w);have H : (bK.l0 k 0 0 aK aW aX aZ aC aY) = some r:=h;clear h;have H' := Am H;clear H;go_enter Tryz.func31,Tryz.ntmps31
 go_wp2_with (first|((with_reducible refine dL (N:=1) rfl ?_);refine dB ?hg (N:=1) ?hd (cs:=#[.int .i64 aK,.string aW,.int .u32 aX,.bool aZ,.slice bU aC.length bJ,.int .i64 aY]) (t:=25) ?hr ?_;(case hd => rfl);(case hg => rfl);(case hr => first|(go_simp;done)|(go_simp;rfl));intro nS hg w2 hbox hb;have jv:=Am (hbox);have GW277:=Am ((by rw [hg];exact (aV (by repeat (first|(with_reducible first|exact HB.out|apply au|apply aj|apply aA)|exact HB.out))) : w.heap.size ≤ nS));have FN:=Am ((by rw [hg];exact (aV (by repeat (first|(with_reducible first|exact HB.out|apply au|apply aj|apply aA)|exact HB.out))) : w.heap.size ≤ nS));replace HB:=Am (aN (by repeat (first|(with_reducible first|exact HB.out|apply au|apply aj|apply aA)|exact HB.out)) hb);clear hb hbox hg))
 go_loopg [3,4] k (fun kq v3 v4 w' => ∃ (fA : Int) (ng : Int),v3 = .int .i64 fA ∧ v4 = .int .i64 ng ∧ ah (bK.l0 kq fA ng aK aW aX aZ aC aY = some r) ∧ ah (kq ≤ k) ∧ ah (w'.heap[nS]? = some (.cells #[.int .i64 aK,.string aW,.int .u32 aX,.bool aZ,(.slice bU aC.length bJ),.int .i64 aY] 25 (0,0))) ∧ ah (Below w.heap.size w w'))
 case atStart => exact ⟨(0),(0),YF,YF,H',⟨Nat.le_refl _⟩,⟨by (with_reducible repeat (first|refine aJ ?_ _|refine aQ ?_|refine aI ?_ _));exact jv.out⟩,⟨by repeat (first|(with_reducible first|exact HB.out|apply au|apply aj|apply aA|refine aH ?_ FN.out)|exact HB.out)⟩⟩
 case round =>
  clear H';obtain ⟨fA,ng,rfl,rfl,HA,jm,jv,HB⟩:=hrel;cases gk with
  | zero => exact absurd HA.out (by simp [bK.l0])
  | succ k1 =>
   have H:=HA.out;clear HA;simp only [bK.l0] at H;by_cases c3 : ng < (aC.length : Int)
   · rw [if_pos c3] at H;have ni:=decide_eq_true c3;clear c3;by_cases c4 : 0 ≤ ng
     · rw [if_pos c4] at H;have tC:=decide_eq_true c4;clear c4;replace H:=Option.bind_eq_some_iff.mp H;obtain ⟨Ee,O7,H⟩:=H;replace H : (if Ee > fA then (bK.l0 k1 Ee (wrap64 (ng + 1)) aK aW aX aZ aC aY) else (bK.l0 k1 fA (wrap64 (ng + 1)) aK aW aX aZ aC aY)) = some r:=H;have A5:=Am O7;clear O7;by_cases c6 : Ee > fA
       · rw [if_pos c6] at H;have qm : decide (fA < Ee) = true:=decide_eq_true c6;clear c6;have H' := Am H;clear H;have DW : wr.cell? ⟨nS,0,none⟩ = some (.int .i64 aK):=(ak jv.out 0).trans rfl;have DX : wr.cell? ⟨nS,1,none⟩ = some (.string aW):=(ak jv.out 1).trans rfl;have DY : wr.cell? ⟨nS,2,none⟩ = some (.int .u32 aX):=(ak jv.out 2).trans rfl;have DZ : wr.cell? ⟨nS,3,none⟩ = some (.bool aZ):=(ak jv.out 3).trans rfl;have D5 : wr.cell? ⟨nS,4,none⟩ = some (.slice bU aC.length bJ):=(ak jv.out 4).trans rfl;have D6 : wr.cell? ⟨nS,5,none⟩ = some (.int .i64 aY):=(ak jv.out 5).trans rfl;have D7:=ay jv.out 0;have D8:=ay jv.out 1;have D9:=ay jv.out 2;have Ea:=ay jv.out 3;have Eb:=ay jv.out 4;have Ec:=ay jv.out 5;have Nl : 0 ≤ (ng : Int):=YA;have Np : ng < (aC.length : Int):=YA;obtain ⟨ad278,Nq,Nr,e278,zL,zM,zN,zO,zQ,zS,zT,zU⟩:=kX fZ.out ng Nl Np;cases e278;replace zL:=YC HB zL;replace zM:=YC HB zM;replace zN:=YC HB zN;replace zO:=YC HB zO;replace zQ:=YC HB zQ;replace zS:=YC HB zS;have Jb:=Am zU;have Jc:=Am zT;clear zU zT;replace Nl:=eq_true Nl;replace Np:=eq_true Np;go_wp2_with (first|((with_reducible refine dh (f:=31) rfl ?_);refine gy (some 18) rfl rfl Tryz.func31 (by kernel_rfl) rfl #[.agg #[.int .i64 ((aG aC ng).f0),.string ((aG aC ng).f1),.int .u32 ((aG aC ng).f2),.bool ((aG aC ng).f3),.slice Nq ((aG aC ng).f4).length Nr,.int .i64 ((aG aC ng).f5)]] rfl (by (try simp only [List.map_toArray,List.map_cons,List.map_nil]);first|done|rfl|(simp only [List.length_drop,List.length_take];rfl)) ?_;(with_reducible refine (ih k1 (by have:=jm.out;omega) ((aG aC ng).f0) ((aG aC ng).f1) ((aG aC ng).f2) ((aG aC ng).f3) _ _ ((aG aC ng).f4) ((aG aC ng).f5) Ee _ ?dF ?dW A5.out).mono ?_);(case dF => repeat (first|exact (Kd.dP Jb.out HB.out)|(with_reducible refine Kd.eU ?_ _)|(with_reducible refine Kd.eX ?_ _)|(with_reducible refine Kd.fV ?_)));(case dW => exact Jc.out);rintro e w8 ⟨rfl,hb⟩;refine ⟨_,rfl,?_⟩;replace jv:=Am (bI (g:=nS) (o:=.cells #[.int .i64 aK,.string aW,.int .u32 aX,.bool aZ,.slice (some ad278) aC.length bJ,.int .i64 aY] 25 (0,0)) (by (with_reducible repeat (first|refine aJ ?_ _|refine aQ ?_|refine aI ?_ _));exact jv.out) hb);replace HB:=Am (aN (by repeat (first|(with_reducible first|exact HB.out|apply au|apply aj|apply aA|refine aH ?_ FN.out)|exact HB.out)) hb);(try clear hb)))
         go_roundg k1
         case measure => have:=jm.out;omega
         case rel => exact ⟨(Ee),(wrap64 (ng + 1)),YF,YF,H',⟨by have:=jm.out;omega⟩,⟨by (with_reducible repeat (first|refine aJ ?_ _|refine aQ ?_|refine aI ?_ _));exact jv.out⟩,⟨by repeat (first|(with_reducible first|exact HB.out|apply au|apply aj|apply aA|refine aH ?_ FN.out)|exact HB.out)⟩⟩
       · rw [if_neg c6] at H;have qm : decide (fA < Ee) = false:=decide_eq_false c6;clear c6;have H' := Am H;clear H;have MB : wr.cell? ⟨nS,0,none⟩ = some (.int .i64 aK):=(ak jv.out 0).trans rfl;have MC : wr.cell? ⟨nS,1,none⟩ = some (.string aW):=(ak jv.out 1).trans rfl;have MF : wr.cell? ⟨nS,2,none⟩ = some (.int .u32 aX):=(ak jv.out 2).trans rfl;have MG : wr.cell? ⟨nS,3,none⟩ = some (.bool aZ):=(ak jv.out 3).trans rfl;have MH : wr.cell? ⟨nS,4,none⟩ = some (.slice bU aC.length bJ):=(ak jv.out 4).trans rfl;have MI : wr.cell? ⟨nS,5,none⟩ = some (.int .i64 aY):=(ak jv.out 5).trans rfl;have MJ:=ay jv.out 0;have MK:=ay jv.out 1;have ML:=ay jv.out 2;have MN:=ay jv.out 3;have MO:=ay jv.out 4;have MP:=ay jv.out 5;have Nl : 0 ≤ (ng : Int):=YA;have Np : ng < (aC.length : Int):=YA;obtain ⟨ad278,Nq,Nr,e278,zL,zM,zN,zO,zQ,zS,zT,zU⟩:=kX fZ.out ng Nl Np;cases e278;replace zL:=YC HB zL;replace zM:=YC HB zM;replace zN:=YC HB zN;replace zO:=YC HB zO;replace zQ:=YC HB zQ;replace zS:=YC HB zS;have Jb:=Am zU;have Jc:=Am zT;clear zU zT;replace Nl:=eq_true Nl;replace Np:=eq_true Np;go_wp2_with (first|((with_reducible refine dh (f:=31) rfl ?_);refine gy (some 18) rfl rfl Tryz.func31 (by kernel_rfl) rfl #[.agg #[.int .i64 ((aG aC ng).f0),.string ((aG aC ng).f1),.int .u32 ((aG aC ng).f2),.bool ((aG aC ng).f3),.slice Nq ((aG aC ng).f4).length Nr,.int .i64 ((aG aC ng).f5)]] rfl (by (try simp only [List.map_toArray,List.map_cons,List.map_nil]);first|done|rfl|(simp only [List.length_drop,List.length_take];rfl)) ?_;(with_reducible refine (ih k1 (by have:=jm.out;omega) ((aG aC ng).f0) ((aG aC ng).f1) ((aG aC ng).f2) ((aG aC ng).f3) _ _ ((aG aC ng).f4) ((aG aC ng).f5) Ee _ ?dF ?dW A5.out).mono ?_);(case dF => repeat (first|exact (Kd.dP Jb.out HB.out)|(with_reducible refine Kd.eU ?_ _)|(with_reducible refine Kd.eX ?_ _)|(with_reducible refine Kd.fV ?_)));(case dW => exact Jc.out);rintro e w10 ⟨rfl,hb⟩;refine ⟨_,rfl,?_⟩;replace jv:=Am (bI (g:=nS) (o:=.cells #[.int .i64 aK,.string aW,.int .u32 aX,.bool aZ,.slice (some ad278) aC.length bJ,.int .i64 aY] 25 (0,0)) (by (with_reducible repeat (first|refine aJ ?_ _|refine aQ ?_|refine aI ?_ _));exact jv.out) hb);replace HB:=Am (aN (by repeat (first|(with_reducible first|exact HB.out|apply au|apply aj|apply aA|refine aH ?_ FN.out)|exact HB.out)) hb);(try clear hb)))
         go_roundg k1
         case measure => have:=jm.out;omega
         case rel => exact ⟨(fA),(wrap64 (ng + 1)),YF,YF,H',⟨by have:=jm.out;omega⟩,⟨by (with_reducible repeat (first|refine aJ ?_ _|refine aQ ?_|refine aI ?_ _));exact jv.out⟩,⟨by repeat (first|(with_reducible first|exact HB.out|apply au|apply aj|apply aA|refine aH ?_ FN.out)|exact HB.out)⟩⟩
     · rw [if_neg c4] at H;exact absurd H (by simp)
   · rw [if_neg c3] at H;have ni:=decide_eq_false c3;clear c3;obtain rfl:=Option.some.inj H;have wY : wr.cell? ⟨nS,0,none⟩ = some (.int .i64 aK):=(ak jv.out 0).trans rfl;have wZ : wr.cell? ⟨nS,1,none⟩ = some (.string aW):=(ak jv.out 1).trans rfl;have xg : wr.cell? ⟨nS,2,none⟩ = some (.int .u32 aX):=(ak jv.out 2).trans rfl;have xk : wr.cell? ⟨nS,3,none⟩ = some (.bool aZ):=(ak jv.out 3).trans rfl;have xq : wr.cell? ⟨nS,4,none⟩ = some (.slice bU aC.length bJ):=(ak jv.out 4).trans rfl;have xu : wr.cell? ⟨nS,5,none⟩ = some (.int .i64 aY):=(ak jv.out 5).trans rfl;have xw:=ay jv.out 0;have xA:=ay jv.out 1;have xB:=ay jv.out 2;have xC:=ay jv.out 3;have xE:=ay jv.out 4;have xG:=ay jv.out 5;go_wp2
     go_ret
     exact ⟨by first|rfl|(simp [aT,aU] <;> rfl)|(simp [*,aT,aU] <;> rfl),by repeat (first|(with_reducible first|exact HB.out|apply au|apply aj|apply aA|refine aH ?_ FN.out)|exact HB.out)⟩
attribute [local go_sem] fM fO gI gJ fD fE fP fQ
def fF.f (k : Nat) (aK : Int) (aW : ByteArray) (aX : Int) (aZ : Bool) (aC : List (bn)) (aY : Int) : Option (Int):=(cZ.f k aK aW aX aZ aC aY).bind fun BK => (if BK = 0 then (some 0) else ((bK.f k aK aW aX aZ aC aY).bind fun Ky => (some Ky)))
theorem fF.mono : ∀ a0 a1 a2 a3 a4 a5 k,dM (fF.f k a0 a1 a2 a3 a4 a5) (fF.f (k + 1) a0 a1 a2 a3 a4 a5):=by
 intro a0 a1 a2 a3 a4 a5 k;unfold fF.f
 repeat' first
  | (with_reducible exact cZ.mono _ _ _ _ _ _ _)
  | (with_reducible exact bK.mono _ _ _ _ _ _ _)
  | (with_reducible exact dM.refl _)
  | (with_reducible exact dM.none _)
  | (with_reducible refine dM.ite ?_ ?_)
  | (with_reducible refine dM.bind ?_ (fun _ => ?_))
  | exact cZ.mono _ _ _ _ _ _ _
  | exact bK.mono _ _ _ _ _ _ _
  | exact dM.none _
  | refine dM.ite ?_ ?_
  | refine dM.bind ?_ (fun _ => ?_)
theorem fF.calls (k : Nat) (aK : Int) (aW : ByteArray) (aX : Int) (aZ : Bool) (bU : Option Addr) (bJ : Nat) (aC : List (bn)) (aY : Int) (r : Int) (w : World) (gU : Kd.C k25 w bU aC.length aC) (gV : aC.length ≤ bJ) (h : fF.f k aK aW aX aZ aC aY = some r) :
 Calls Tryz.prog 18 #[.agg #[.int .i64 aK,.string aW,.int .u32 aX,.bool aZ,.slice bU aC.length bJ,.int .i64 aY]] w fun e w' => e = .returned (.int .i64 r) ∧ Below w.heap.size w w' := by
 have vZ:=Tryz.underlying25;have fZ:=Am gU;have iP:=Am gV;clear gU gV;have HB:=Am (Below.refl w.heap.size w);have H : ((cZ.f k aK aW aX aZ aC aY).bind fun BK => (if BK = 0 then (some 0) else ((bK.f k aK aW aX aZ aC aY).bind fun Ky => (some Ky)))) = some r:=h;clear h;replace H:=Option.bind_eq_some_iff.mp H;obtain ⟨BK,xY,H⟩:=H;replace H : (if BK = 0 then (some 0) else ((bK.f k aK aW aX aZ aC aY).bind fun Ky => (some Ky))) = some r:=H;have A2:=Am xY;clear xY;by_cases c3 : BK = 0
 · rw [if_pos c3] at H;have ni : (BK == 0) = true:=beq_iff_eq.mpr c3;have wJ : (BK != 0) = false:=bne_eq_false_iff_eq.mpr c3;clear c3;obtain rfl:=Option.some.inj H;go_enter Tryz.func18,Tryz.ntmps18
   go_wp2_with (first|((with_reducible refine dL (N:=1) rfl ?_);refine dB ?hg (N:=1) ?hd (cs:=#[.int .i64 aK,.string aW,.int .u32 aX,.bool aZ,.slice bU aC.length bJ,.int .i64 aY]) (t:=25) ?hr ?_;(case hd => rfl);(case hg => rfl);(case hr => first|(go_simp;done)|(go_simp;rfl));intro mW hg w4 hbox hb;have jC:=Am (hbox);have GW280:=Am ((by rw [hg];exact (aV (by repeat (first|(with_reducible first|exact HB.out|apply au|apply aj|apply aA)|exact HB.out))) : w.heap.size ≤ mW));have FP:=Am ((by rw [hg];exact (aV (by repeat (first|(with_reducible first|exact HB.out|apply au|apply aj|apply aA)|exact HB.out))) : w.heap.size ≤ mW));replace HB:=Am (aN (by repeat (first|(with_reducible first|exact HB.out|apply au|apply aj|apply aA)|exact HB.out)) hb);clear hb hbox hg;have Dl : w4.cell? ⟨mW,0,none⟩ = some (.int .i64 aK):=(ak jC.out 0).trans rfl;have Dn : w4.cell? ⟨mW,1,none⟩ = some (.string aW):=(ak jC.out 1).trans rfl;have Dp : w4.cell? ⟨mW,2,none⟩ = some (.int .u32 aX):=(ak jC.out 2).trans rfl;have Dq : w4.cell? ⟨mW,3,none⟩ = some (.bool aZ):=(ak jC.out 3).trans rfl;have Dt : w4.cell? ⟨mW,4,none⟩ = some (.slice bU aC.length bJ):=(ak jC.out 4).trans rfl;have Du : w4.cell? ⟨mW,5,none⟩ = some (.int .i64 aY):=(ak jC.out 5).trans rfl;have Dv:=ay jC.out 0;have Dw:=ay jC.out 1;have Dx:=ay jC.out 2;have Dy:=ay jC.out 3;have Dz:=ay jC.out 4;have DC:=ay jC.out 5)|((with_reducible refine dh (f:=13) rfl ?_);refine gy (some 4) rfl rfl Tryz.func13 (by kernel_rfl) rfl #[.agg #[.int .i64 aK,.string aW,.int .u32 aX,.bool aZ,.slice bU aC.length bJ,.int .i64 aY]] rfl (by (try simp only [List.map_toArray,List.map_cons,List.map_nil]);first|done|rfl|(simp only [List.length_drop,List.length_take];rfl)) ?_;(with_reducible refine (cZ.calls k aK aW aX aZ _ _ aC aY BK _ ?dF ?dW A2.out).mono ?_);(case dF => repeat (first|exact (Kd.dP fZ.out HB.out)|(with_reducible refine Kd.eU ?_ _)|(with_reducible refine Kd.eX ?_ _)|(with_reducible refine Kd.fV ?_)));(case dW => exact iP.out);rintro e w6 ⟨rfl,hb⟩;refine ⟨_,rfl,?_⟩;replace jC:=Am (bI (g:=mW) (o:=.cells #[.int .i64 aK,.string aW,.int .u32 aX,.bool aZ,.slice bU aC.length bJ,.int .i64 aY] 25 (0,0)) (by (with_reducible repeat (first|refine aJ ?_ _|refine aQ ?_|refine aI ?_ _));exact jC.out) hb);replace HB:=Am (aN (by repeat (first|(with_reducible first|exact HB.out|apply au|apply aj|apply aA|refine aH ?_ FP.out)|exact HB.out)) hb);(try clear hb)))
   go_ret
   exact ⟨by first|rfl|(simp [aT,aU] <;> rfl)|(simp [*,aT,aU] <;> rfl),by repeat (first|(with_reducible first|exact HB.out|apply au|apply aj|apply aA|refine aH ?_ FP.out)|exact HB.out)⟩
 · rw [if_neg c3] at H;have ni : (BK == 0) = false:=beq_eq_false_iff_ne.mpr c3;have wJ : (BK != 0) = true:=bne_iff_ne.mpr c3;replace H:=Option.bind_eq_some_iff.mp H;obtain ⟨Ky,JM,H⟩:=H;replace H : (some Ky) = some r:=H;have A7:=Am JM;clear JM;obtain rfl:=Option.some.inj H;go_enter Tryz.func18,Tryz.ntmps18
   go_wp2_with (first|((with_reducible refine dL (N:=1) rfl ?_);refine dB ?hg (N:=1) ?hd (cs:=#[.int .i64 aK,.string aW,.int .u32 aX,.bool aZ,.slice bU aC.length bJ,.int .i64 aY]) (t:=25) ?hr ?_;(case hd => rfl);(case hg => rfl);(case hr => first|(go_simp;done)|(go_simp;rfl));intro mW hg w8 hbox hb;have jC:=Am (hbox);have GW280:=Am ((by rw [hg];exact (aV (by repeat (first|(with_reducible first|exact HB.out|apply au|apply aj|apply aA)|exact HB.out))) : w.heap.size ≤ mW));have FP:=Am ((by rw [hg];exact (aV (by repeat (first|(with_reducible first|exact HB.out|apply au|apply aj|apply aA)|exact HB.out))) : w.heap.size ≤ mW));replace HB:=Am (aN (by repeat (first|(with_reducible first|exact HB.out|apply au|apply aj|apply aA)|exact HB.out)) hb);clear hb hbox hg;have MB : w8.cell? ⟨mW,0,none⟩ = some (.int .i64 aK):=(ak jC.out 0).trans rfl;have MC : w8.cell? ⟨mW,1,none⟩ = some (.string aW):=(ak jC.out 1).trans rfl;have MF : w8.cell? ⟨mW,2,none⟩ = some (.int .u32 aX):=(ak jC.out 2).trans rfl;have MG : w8.cell? ⟨mW,3,none⟩ = some (.bool aZ):=(ak jC.out 3).trans rfl;have MH : w8.cell? ⟨mW,4,none⟩ = some (.slice bU aC.length bJ):=(ak jC.out 4).trans rfl;have MI : w8.cell? ⟨mW,5,none⟩ = some (.int .i64 aY):=(ak jC.out 5).trans rfl;have MJ:=ay jC.out 0;have MK:=ay jC.out 1;have ML:=ay jC.out 2;have MN:=ay jC.out 3;have MO:=ay jC.out 4;have MP:=ay jC.out 5)|((with_reducible refine dh (f:=13) rfl ?_);refine gy (some 4) rfl rfl Tryz.func13 (by kernel_rfl) rfl #[.agg #[.int .i64 aK,.string aW,.int .u32 aX,.bool aZ,.slice bU aC.length bJ,.int .i64 aY]] rfl (by (try simp only [List.map_toArray,List.map_cons,List.map_nil]);first|done|rfl|(simp only [List.length_drop,List.length_take];rfl)) ?_;(with_reducible refine (cZ.calls k aK aW aX aZ _ _ aC aY BK _ ?dF ?dW A2.out).mono ?_);(case dF => repeat (first|exact (Kd.dP fZ.out HB.out)|(with_reducible refine Kd.eU ?_ _)|(with_reducible refine Kd.eX ?_ _)|(with_reducible refine Kd.fV ?_)));(case dW => exact iP.out);rintro e w10 ⟨rfl,hb⟩;refine ⟨_,rfl,?_⟩;replace jC:=Am (bI (g:=mW) (o:=.cells #[.int .i64 aK,.string aW,.int .u32 aX,.bool aZ,.slice bU aC.length bJ,.int .i64 aY] 25 (0,0)) (by (with_reducible repeat (first|refine aJ ?_ _|refine aQ ?_|refine aI ?_ _));exact jC.out) hb);replace HB:=Am (aN (by repeat (first|(with_reducible first|exact HB.out|apply au|apply aj|apply aA|refine aH ?_ FP.out)|exact HB.out)) hb);(try clear hb);have wY : w10.cell? ⟨mW,0,none⟩ = some (.int .i64 aK):=(ak jC.out 0).trans rfl;have wZ : w10.cell? ⟨mW,1,none⟩ = some (.string aW):=(ak jC.out 1).trans rfl;have xg : w10.cell? ⟨mW,2,none⟩ = some (.int .u32 aX):=(ak jC.out 2).trans rfl;have xk : w10.cell? ⟨mW,3,none⟩ = some (.bool aZ):=(ak jC.out 3).trans rfl;have xq : w10.cell? ⟨mW,4,none⟩ = some (.slice bU aC.length bJ):=(ak jC.out 4).trans rfl;have xu : w10.cell? ⟨mW,5,none⟩ = some (.int .i64 aY):=(ak jC.out 5).trans rfl;have xw:=ay jC.out 0;have xA:=ay jC.out 1;have xB:=ay jC.out 2;have xC:=ay jC.out 3;have xE:=ay jC.out 4;have xG:=ay jC.out 5)|((with_reducible refine dh (f:=31) rfl ?_);refine gy (some 7) rfl rfl Tryz.func31 (by kernel_rfl) rfl #[.agg #[.int .i64 aK,.string aW,.int .u32 aX,.bool aZ,.slice bU aC.length bJ,.int .i64 aY]] rfl (by (try simp only [List.map_toArray,List.map_cons,List.map_nil]);first|done|rfl|(simp only [List.length_drop,List.length_take];rfl)) ?_;(with_reducible refine (bK.calls k aK aW aX aZ _ _ aC aY Ky _ ?dF ?dW A7.out).mono ?_);(case dF => repeat (first|exact (Kd.dP fZ.out HB.out)|(with_reducible refine Kd.eU ?_ _)|(with_reducible refine Kd.eX ?_ _)|(with_reducible refine Kd.fV ?_)));(case dW => exact iP.out);rintro e w12 ⟨rfl,hb⟩;refine ⟨_,rfl,?_⟩;replace jC:=Am (bI (g:=mW) (o:=.cells #[.int .i64 aK,.string aW,.int .u32 aX,.bool aZ,.slice bU aC.length bJ,.int .i64 aY] 25 (0,0)) (by (with_reducible repeat (first|refine aJ ?_ _|refine aQ ?_|refine aI ?_ _));exact jC.out) hb);replace HB:=Am (aN (by repeat (first|(with_reducible first|exact HB.out|apply au|apply aj|apply aA|refine aH ?_ FP.out)|exact HB.out)) hb);(try clear hb)))
   go_ret
   exact ⟨by first|rfl|(simp [aT,aU] <;> rfl)|(simp [*,aT,aU] <;> rfl),by repeat (first|(with_reducible first|exact HB.out|apply au|apply aj|apply aA|refine aH ?_ FP.out)|exact HB.out)⟩
end Go.Proofs.YtboojhadfhpdeaaGreatDoor.Q
