/- A part of the proof, made small by a program: Qx35, Qx36. -/
import Derived.Test.YtboojhadfhpdeaaGreatDoorVq2
import Derived.Test.YtboojhadfhpdeaaGreatDoorVq4
import Derived.Test.YtboojhadfhpdeaaGreatDoorVq9
set_option linter.unusedVariables false
set_option linter.unusedSimpArgs false
set_option maxHeartbeats 8000000
set_option maxRecDepth 100000
namespace Go.Proofs.YtboojhadfhpdeaaGreatDoor.Q
open Go.RowKit Go.Proofs.YtboojhadfhpdeaaGreatDoorW.PrintWords Go.Proofs.YtboojhadfhpdeaaGreatDoorW.PrintLast Go.Proofs.YtboojhadfhpdeaaGreatDoorW.PrintMore
attribute [local go_sem] fM fO gI gJ fD fE fP fQ
def dQ.l0 : Nat → ByteArray → List ByteArray → Int → Int → Option (Int)
 | 0,_,_,_,_ => none
 | k + 1,x0,x5,x6,x7 => if x7 < x6 then (if 0 ≤ x7 then (if x7 < (x5.length : Int) then ((kD.f (LK ByteArray.empty x5 x7) x0).bind fun t169 => (if t169 = true then (some (wrap64 (x7 + 2))) else (dQ.l0 k x0 x5 x6 (wrap64 (x7 + 1))))) else (none)) else (none)) else (some 0)
def dQ.f (k : Nat) (a0 : ByteArray) : Option (Int):=(some (([(⟨#[124,124]⟩ : ByteArray),(⟨#[38,38]⟩ : ByteArray),(⟨#[124]⟩ : ByteArray),(⟨#[94]⟩ : ByteArray),(⟨#[38]⟩ : ByteArray),(⟨#[61,61,32,33,61]⟩ : ByteArray),(⟨#[60,32,62,32,60,61,32,62,61]⟩ : ByteArray),(⟨#[60,60,32,62,62]⟩ : ByteArray),(⟨#[43,32,45]⟩ : ByteArray),(⟨#[42,32,47,32,37]⟩ : ByteArray)] : List ByteArray) : List ByteArray)).bind fun rV => (dQ.l0 k a0 rV (rV.length : Int) 0)
theorem dQ.gB : ∀ k,(∀ y0 y1 y2 y3,dM (dQ.l0 k y0 y1 y2 y3) (dQ.l0 (k + 1) y0 y1 y2 y3))
 | 0 => fun _ _ _ _ r h => by simp [dQ.l0] at h
 | k + 1 => by
  have kT:=dQ.gB k
  · intro y0 y1 y2 y3;unfold dQ.l0
    repeat' first
    | (with_reducible exact kT _ _ _ _)
    | (with_reducible exact dM.refl _)
    | (with_reducible exact dM.none _)
    | (with_reducible refine dM.ite ?_ ?_)
    | (with_reducible refine dM.bind ?_ (fun _ => ?_))
    | exact kT _ _ _ _
    | exact dM.none _
    | refine dM.ite ?_ ?_
    | refine dM.bind ?_ (fun _ => ?_)
theorem dQ.mono : ∀ a0 k,dM (dQ.f k a0) (dQ.f (k + 1) a0):=by
 intro a0 k;have kT:=dQ.gB k;unfold dQ.f
 repeat' first
  | (with_reducible exact kT _ _ _ _)
  | (with_reducible exact dM.refl _)
  | (with_reducible exact dM.none _)
  | (with_reducible refine dM.ite ?_ ?_)
  | (with_reducible refine dM.bind ?_ (fun _ => ?_))
  | exact kT _ _ _ _
  | exact dM.none _
  | refine dM.ite ?_ ?_
  | refine dM.bind ?_ (fun _ => ?_)
theorem dQ.calls (k : Nat) (a0 : ByteArray) (r : Int) (w : World) (hG : dG w) (h : dQ.f k a0 = some r) :
 Calls Tryz.prog 114 #[.string a0] w fun e w' => e = .returned (.int .i64 r) ∧ Below w.heap.size w w' := by
 have HG:=Am hG;clear hG;have HB:=Am (Below.refl w.heap.size w);have H : ((some (([(⟨#[124,124]⟩ : ByteArray),(⟨#[38,38]⟩ : ByteArray),(⟨#[124]⟩ : ByteArray),(⟨#[94]⟩ : ByteArray),(⟨#[38]⟩ : ByteArray),(⟨#[61,61,32,33,61]⟩ : ByteArray),(⟨#[60,32,62,32,60,61,32,62,61]⟩ : ByteArray),(⟨#[60,60,32,62,62]⟩ : ByteArray),(⟨#[43,32,45]⟩ : ByteArray),(⟨#[42,32,47,32,37]⟩ : ByteArray)] : List ByteArray) : List ByteArray)).bind fun rV => (dQ.l0 k a0 rV (rV.length : Int) 0)) = some r:=h;clear h;obtain ⟨rV,Kz⟩ : ∃ y_ : List ByteArray,y_ = (([(⟨#[124,124]⟩ : ByteArray),(⟨#[38,38]⟩ : ByteArray),(⟨#[124]⟩ : ByteArray),(⟨#[94]⟩ : ByteArray),(⟨#[38]⟩ : ByteArray),(⟨#[61,61,32,33,61]⟩ : ByteArray),(⟨#[60,32,62,32,60,61,32,62,61]⟩ : ByteArray),(⟨#[60,60,32,62,62]⟩ : ByteArray),(⟨#[43,32,45]⟩ : ByteArray),(⟨#[42,32,47,32,37]⟩ : ByteArray)] : List ByteArray)):=⟨_,rfl⟩
 replace H : (dQ.l0 k a0 rV (rV.length : Int) 0) = some r:=by first|(rw [Kz];with_reducible exact H)|(have sS:=(Option.bind_some _ _).symm.trans H;rw [Kz];with_reducible exact sS)|(have sS:=(Option.bind_some _ _).symm.trans H;with_reducible exact sS)|with_reducible exact H|(rw [Kz];exact H)|exact H
 have Ny165:=Am Kz;clear Kz;have H' := Am H;clear H;go_enter Tryz.func114,Tryz.ntmps114
 go_wp2_with (first|((with_reducible refine dL (N:=5) rfl ?_);refine Kd.R_lit Kd.string _ 9 ?hg (N:=5) ?hd (xs:=([(⟨#[124,124]⟩ : ByteArray),(⟨#[38,38]⟩ : ByteArray),(⟨#[124]⟩ : ByteArray),(⟨#[94]⟩ : ByteArray),(⟨#[38]⟩ : ByteArray),(⟨#[61,61,32,33,61]⟩ : ByteArray),(⟨#[60,32,62,32,60,61,32,62,61]⟩ : ByteArray),(⟨#[60,60,32,62,62]⟩ : ByteArray),(⟨#[43,32,45]⟩ : ByteArray),(⟨#[42,32,47,32,37]⟩ : ByteArray)] : List ByteArray)) (inner:=[.string (⟨#[124,124]⟩ : ByteArray),.string (⟨#[38,38]⟩ : ByteArray),.string (⟨#[124]⟩ : ByteArray),.string (⟨#[94]⟩ : ByteArray),.string (⟨#[38]⟩ : ByteArray),.string (⟨#[61,61,32,33,61]⟩ : ByteArray),.string (⟨#[60,32,62,32,60,61,32,62,61]⟩ : ByteArray),.string (⟨#[60,60,32,62,62]⟩ : ByteArray),.string (⟨#[43,32,45]⟩ : ByteArray),.string (⟨#[42,32,47,32,37]⟩ : ByteArray)]) (ok:=fun _ => True) (Bf:=fun _ => True) ?hr ?hp (fun _ hk => hk) trivial (Below.refl _ _) (Nat.le_refl _) (by simp) ?_;(case hd => rfl);(case hg => rfl);(case hr => first|(go_simp;done)|(go_simp;rfl));(case hp => exact (gQ.one (show Kd.M Kd.string _ _ _ (⟨#[124,124]⟩ : ByteArray) [.string (⟨#[124,124]⟩ : ByteArray)] from rfl) (gQ.one (show Kd.M Kd.string _ _ _ (⟨#[38,38]⟩ : ByteArray) [.string (⟨#[38,38]⟩ : ByteArray)] from rfl) (gQ.one (show Kd.M Kd.string _ _ _ (⟨#[124]⟩ : ByteArray) [.string (⟨#[124]⟩ : ByteArray)] from rfl) (gQ.one (show Kd.M Kd.string _ _ _ (⟨#[94]⟩ : ByteArray) [.string (⟨#[94]⟩ : ByteArray)] from rfl) (gQ.one (show Kd.M Kd.string _ _ _ (⟨#[38]⟩ : ByteArray) [.string (⟨#[38]⟩ : ByteArray)] from rfl) (gQ.one (show Kd.M Kd.string _ _ _ (⟨#[61,61,32,33,61]⟩ : ByteArray) [.string (⟨#[61,61,32,33,61]⟩ : ByteArray)] from rfl) (gQ.one (show Kd.M Kd.string _ _ _ (⟨#[60,32,62,32,60,61,32,62,61]⟩ : ByteArray) [.string (⟨#[60,32,62,32,60,61,32,62,61]⟩ : ByteArray)] from rfl) (gQ.one (show Kd.M Kd.string _ _ _ (⟨#[60,60,32,62,62]⟩ : ByteArray) [.string (⟨#[60,60,32,62,62]⟩ : ByteArray)] from rfl) (gQ.one (show Kd.M Kd.string _ _ _ (⟨#[43,32,45]⟩ : ByteArray) [.string (⟨#[43,32,45]⟩ : ByteArray)] from rfl) (gQ.one (show Kd.M Kd.string _ _ _ (⟨#[42,32,47,32,37]⟩ : ByteArray) [.string (⟨#[42,32,47,32,37]⟩ : ByteArray)] from rfl) (gQ.none _ _))))))))))));intro v166 w2 ho3 hb hg_ zV;clear hg_ zV;(first|rw [← Ny165.out] at ho3|(simp only [Int.reduceToNat] at ho3;rw [← Ny165.out] at ho3));have HO167:=Am (Kd.tN ho3 (aV (by repeat (first|(with_reducible first|exact HB.out|apply au|apply aj|apply aA)|exact HB.out))));replace HB:=Am (aN (by repeat (first|(with_reducible first|exact HB.out|apply au|apply aj|apply aA)|exact HB.out)) hb);clear hb ho3;obtain ⟨Ao4,co4,eo4⟩:=Kd.vF HO167.out;subst eo4))
 go_loopg [7] k (fun kq v7 w' => ∃ (uG : Int),v7 = .int .i64 uG ∧ ah (dQ.l0 kq a0 rV (rV.length : Int) uG = some r) ∧ ah (kq ≤ k) ∧ ah (Kd.R Kd.string 9 w' w.heap.size (fun _ => True) (.slice Ao4 rV.length co4) rV) ∧ ah (Below w.heap.size w w'))
 case atStart => exact ⟨(0),YF,H',⟨Nat.le_refl _⟩,⟨YR HO167⟩,⟨by repeat (first|(with_reducible first|exact HB.out|apply au|apply aj|apply aA)|exact HB.out)⟩⟩
 case round =>
  clear H';obtain ⟨uG,rfl,HA,jm,wB,HB⟩:=hrel;cases gk with
  | zero => exact absurd HA.out (by simp [dQ.l0])
  | succ k1 =>
   have H:=HA.out;clear HA;simp only [dQ.l0] at H;by_cases c5 : uG < (rV.length : Int)
   · rw [if_pos c5] at H;have sK:=decide_eq_true c5;clear c5;by_cases c6 : 0 ≤ uG
     · rw [if_pos c6] at H;have qm:=decide_eq_true c6;clear c6;by_cases c7 : uG < (rV.length : Int)
       · rw [if_pos c7] at H;have xJ:=decide_eq_true c7;clear c7;replace H:=Option.bind_eq_some_iff.mp H;obtain ⟨t169,A80,H⟩:=H;replace H : (if t169 = true then (some (wrap64 (uG + 2))) else (dQ.l0 k1 a0 rV (rV.length : Int) (wrap64 (uG + 1)))) = some r:=H;have A8:=Am A80;clear A80;by_cases c9 : t169 = true
         · subst c9;have H1 : (some (wrap64 (uG + 2))) = some r:=by rw [if_pos rfl] at H;exact H
           clear H;have H:=H1;clear H1;obtain rfl:=Option.some.inj H;have Ns : 0 ≤ (uG : Int):=YA;have Nu : uG < (rV.length : Int):=YA;obtain ⟨ad168,e168,hx168_0⟩:=Kd.Fg (Kd.lq wB.out).2.2 uG Ns Nu;cases e168;replace Ns:=eq_true Ns;replace Nu:=eq_true Nu;go_wp2_with (first|((with_reducible refine dh (f:=68) rfl ?_);refine gy (some 14) rfl rfl Tryz.func68 (by kernel_rfl) rfl #[.string (LK ByteArray.empty rV uG),.string a0] rfl (by (try simp only [List.map_toArray,List.map_cons,List.map_nil]);first|done|rfl|(simp only [List.length_drop,List.length_take];rfl)) ?_;(with_reducible refine (kD.calls (LK ByteArray.empty rV uG) a0 true _ ?dF A8.out).mono ?_);(case dF => refine dG.below HG.out ?_;repeat (first|(with_reducible first|exact HB.out|apply au|apply aj|apply aA)|exact HB.out));rintro e w10 ⟨rfl,hb⟩;refine ⟨_,rfl,?_⟩;replace wB:=Am (Kd.mg (YR wB) hb);replace HB:=Am (aN (by repeat (first|(with_reducible first|exact HB.out|apply au|apply aj|apply aA)|exact HB.out)) hb);(try clear hb);(try clear hk)))
           go_ret
           exact ⟨by first|rfl|(simp [aT,aU] <;> rfl)|(simp [*,aT,aU] <;> rfl),by repeat (first|(with_reducible first|exact HB.out|apply au|apply aj|apply aA)|exact HB.out)⟩
         · replace c9:=Bool.eq_false_iff.mpr c9;subst c9;have H1 : (dQ.l0 k1 a0 rV (rV.length : Int) (wrap64 (uG + 1))) = some r:=by rw [if_neg (show ¬ (false = true) by decide)] at H;exact H
           clear H;have H:=H1;clear H1;have H' := Am H;clear H;have Ns : 0 ≤ (uG : Int):=YA;have Nu : uG < (rV.length : Int):=YA;obtain ⟨ad168,e168,hx168_0⟩:=Kd.Fg (Kd.lq wB.out).2.2 uG Ns Nu;cases e168;replace Ns:=eq_true Ns;replace Nu:=eq_true Nu;go_wp2_with (first|((with_reducible refine dh (f:=68) rfl ?_);refine gy (some 14) rfl rfl Tryz.func68 (by kernel_rfl) rfl #[.string (LK ByteArray.empty rV uG),.string a0] rfl (by (try simp only [List.map_toArray,List.map_cons,List.map_nil]);first|done|rfl|(simp only [List.length_drop,List.length_take];rfl)) ?_;(with_reducible refine (kD.calls (LK ByteArray.empty rV uG) a0 false _ ?dF A8.out).mono ?_);(case dF => refine dG.below HG.out ?_;repeat (first|(with_reducible first|exact HB.out|apply au|apply aj|apply aA)|exact HB.out));rintro e LD ⟨rfl,hb⟩;refine ⟨_,rfl,?_⟩;replace wB:=Am (Kd.mg (YR wB) hb);replace HB:=Am (aN (by repeat (first|(with_reducible first|exact HB.out|apply au|apply aj|apply aA)|exact HB.out)) hb);(try clear hb);(try clear hk)))
           go_roundg k1
           case measure => have:=jm.out;omega
           case rel => exact ⟨(wrap64 (uG + 1)),YF,H',⟨by have:=jm.out;omega⟩,⟨YR wB⟩,⟨by repeat (first|(with_reducible first|exact HB.out|apply au|apply aj|apply aA)|exact HB.out)⟩⟩
       · rw [if_neg c7] at H;exact absurd H (by simp)
     · rw [if_neg c6] at H;exact absurd H (by simp)
   · rw [if_neg c5] at H;have sK:=decide_eq_false c5;clear c5;obtain rfl:=Option.some.inj H;go_wp2
     go_ret
     exact ⟨by first|rfl|(simp [aT,aU] <;> rfl)|(simp [*,aT,aU] <;> rfl),by repeat (first|(with_reducible first|exact HB.out|apply au|apply aj|apply aA)|exact HB.out)⟩
attribute [local go_sem] fM fO gI gJ fD fE fP fQ
def gG.j0 : Nat → Int → Bool → Int → ByteArray → Int → Bool → List (bn) → Int → Option (Int)
 | 0,_,_,_,_,_,_,_,_ => none
 | k + 1,x4,x9,x171000,x171001,x171002,x171003,x171004,x171005 => if x9 = true then ((dQ.f k x171001).bind fun t171 => (some t171)) else (if x4 = 9 then (some 12) else (if x4 = 14 then (some 12) else (if x4 = 15 then (some 12) else (some 13))))
def gG.f (k : Nat) (aK : Int) (aW : ByteArray) (aX : Int) (aZ : Bool) (aC : List (bn)) (aY : Int) : Option (Int):=if aK = 13 then (some 0) else (if aK = 12 then (some 1) else (if aK = 10 then (gG.j0 k aK (aK == 10) aK aW aX aZ aC aY) else (gG.j0 k aK (aK == 11) aK aW aX aZ aC aY)))
theorem gG.gB : ∀ k,(∀ y0 y1 y2 y3 y4 y5 y6 y7,dM (gG.j0 k y0 y1 y2 y3 y4 y5 y6 y7) (gG.j0 (k + 1) y0 y1 y2 y3 y4 y5 y6 y7))
 | 0 => fun _ _ _ _ _ _ _ _ r h => by simp [gG.j0] at h
 | k + 1 => by
  have kT:=gG.gB k
  · intro y0 y1 y2 y3 y4 y5 y6 y7;unfold gG.j0
    repeat' first
    | (with_reducible exact kT _ _ _ _ _ _ _ _)
    | (with_reducible exact dQ.mono _ _)
    | (with_reducible exact dM.refl _)
    | (with_reducible exact dM.none _)
    | (with_reducible refine dM.ite ?_ ?_)
    | (with_reducible refine dM.bind ?_ (fun _ => ?_))
    | exact kT _ _ _ _ _ _ _ _
    | exact dQ.mono _ _
    | exact dM.none _
    | refine dM.ite ?_ ?_
    | refine dM.bind ?_ (fun _ => ?_)
theorem gG.mono : ∀ a0 a1 a2 a3 a4 a5 k,dM (gG.f k a0 a1 a2 a3 a4 a5) (gG.f (k + 1) a0 a1 a2 a3 a4 a5):=by
 intro a0 a1 a2 a3 a4 a5 k;have kT:=gG.gB k;unfold gG.f
 repeat' first
  | (with_reducible exact kT _ _ _ _ _ _ _ _)
  | (with_reducible exact dQ.mono _ _)
  | (with_reducible exact dM.refl _)
  | (with_reducible exact dM.none _)
  | (with_reducible refine dM.ite ?_ ?_)
  | (with_reducible refine dM.bind ?_ (fun _ => ?_))
  | exact kT _ _ _ _ _ _ _ _
  | exact dQ.mono _ _
  | exact dM.none _
  | refine dM.ite ?_ ?_
  | refine dM.bind ?_ (fun _ => ?_)
theorem gG.calls (k : Nat) (aK : Int) (aW : ByteArray) (aX : Int) (aZ : Bool) (bU : Option Addr) (bJ : Nat) (aC : List (bn)) (aY : Int) (r : Int) (w : World) (gU : Kd.C k25 w bU aC.length aC) (gV : aC.length ≤ bJ) (hG : dG w) (h : gG.f k aK aW aX aZ aC aY = some r) :
 Calls Tryz.prog 99 #[.agg #[.int .i64 aK,.string aW,.int .u32 aX,.bool aZ,.slice bU aC.length bJ,.int .i64 aY]] w fun e w' => e = .returned (.int .i64 r) ∧ Below w.heap.size w w' := by
 have vZ:=Tryz.underlying25;have fZ:=Am gU;have iP:=Am gV;clear gU gV;have HG:=Am hG;clear hG;have HB:=Am (Below.refl w.heap.size w);have H : (if aK = 13 then (some 0) else (if aK = 12 then (some 1) else (if aK = 10 then (gG.j0 k aK (aK == 10) aK aW aX aZ aC aY) else (gG.j0 k aK (aK == 11) aK aW aX aZ aC aY)))) = some r:=h;clear h;by_cases c2 : aK = 13
 · rw [if_pos c2] at H;have uQ : (aK == 13) = true:=beq_iff_eq.mpr c2;have ER : (aK != 13) = false:=bne_eq_false_iff_eq.mpr c2;clear c2;obtain rfl:=Option.some.inj H;go_enter Tryz.func99,Tryz.ntmps99
   go_wp2_with (first|((with_reducible refine dL (N:=1) rfl ?_);refine dB ?hg (N:=1) ?hd (cs:=#[.int .i64 aK,.string aW,.int .u32 aX,.bool aZ,.slice bU aC.length bJ,.int .i64 aY]) (t:=25) ?hr ?_;(case hd => rfl);(case hg => rfl);(case hr => first|(go_simp;done)|(go_simp;rfl));intro kP hg w3 hbox hb;have iJ:=Am (hbox);have GW170:=Am ((by rw [hg];exact (aV (by repeat (first|(with_reducible first|exact HB.out|apply au|apply aj|apply aA)|exact HB.out))) : w.heap.size ≤ kP));have uX:=Am ((by rw [hg];exact (aV (by repeat (first|(with_reducible first|exact HB.out|apply au|apply aj|apply aA)|exact HB.out))) : w.heap.size ≤ kP));replace HB:=Am (aN (by repeat (first|(with_reducible first|exact HB.out|apply au|apply aj|apply aA)|exact HB.out)) hb);clear hb hbox hg;have Ai : w3.cell? ⟨kP,0,none⟩ = some (.int .i64 aK):=(ak iJ.out 0).trans rfl;have Aj : w3.cell? ⟨kP,1,none⟩ = some (.string aW):=(ak iJ.out 1).trans rfl;have Ak : w3.cell? ⟨kP,2,none⟩ = some (.int .u32 aX):=(ak iJ.out 2).trans rfl;have Ap : w3.cell? ⟨kP,3,none⟩ = some (.bool aZ):=(ak iJ.out 3).trans rfl;have Aq : w3.cell? ⟨kP,4,none⟩ = some (.slice bU aC.length bJ):=(ak iJ.out 4).trans rfl;have Ar : w3.cell? ⟨kP,5,none⟩ = some (.int .i64 aY):=(ak iJ.out 5).trans rfl;have Au:=ay iJ.out 0;have Aw:=ay iJ.out 1;have Az:=ay iJ.out 2;have AA:=ay iJ.out 3;have AB:=ay iJ.out 4;have AL:=ay iJ.out 5))
   go_ret
   exact ⟨by first|rfl|(simp [aT,aU] <;> rfl)|(simp [*,aT,aU] <;> rfl),by repeat (first|(with_reducible first|exact HB.out|apply au|apply aj|apply aA|refine aH ?_ uX.out)|exact HB.out)⟩
 · rw [if_neg c2] at H;have uQ : (aK == 13) = false:=beq_eq_false_iff_ne.mpr c2;have ER : (aK != 13) = true:=bne_iff_ne.mpr c2;by_cases c5 : aK = 12
   · rw [if_pos c5] at H;have sK : (aK == 12) = true:=beq_iff_eq.mpr c5;have MW : (aK != 12) = false:=bne_eq_false_iff_eq.mpr c5;clear c5;obtain rfl:=Option.some.inj H;go_enter Tryz.func99,Tryz.ntmps99
     go_wp2_with (first|((with_reducible refine dL (N:=1) rfl ?_);refine dB ?hg (N:=1) ?hd (cs:=#[.int .i64 aK,.string aW,.int .u32 aX,.bool aZ,.slice bU aC.length bJ,.int .i64 aY]) (t:=25) ?hr ?_;(case hd => rfl);(case hg => rfl);(case hr => first|(go_simp;done)|(go_simp;rfl));intro kP hg w6 hbox hb;have iJ:=Am (hbox);have GW170:=Am ((by rw [hg];exact (aV (by repeat (first|(with_reducible first|exact HB.out|apply au|apply aj|apply aA)|exact HB.out))) : w.heap.size ≤ kP));have uX:=Am ((by rw [hg];exact (aV (by repeat (first|(with_reducible first|exact HB.out|apply au|apply aj|apply aA)|exact HB.out))) : w.heap.size ≤ kP));replace HB:=Am (aN (by repeat (first|(with_reducible first|exact HB.out|apply au|apply aj|apply aA)|exact HB.out)) hb);clear hb hbox hg;have DW : w6.cell? ⟨kP,0,none⟩ = some (.int .i64 aK):=(ak iJ.out 0).trans rfl;have DX : w6.cell? ⟨kP,1,none⟩ = some (.string aW):=(ak iJ.out 1).trans rfl;have DY : w6.cell? ⟨kP,2,none⟩ = some (.int .u32 aX):=(ak iJ.out 2).trans rfl;have DZ : w6.cell? ⟨kP,3,none⟩ = some (.bool aZ):=(ak iJ.out 3).trans rfl;have D5 : w6.cell? ⟨kP,4,none⟩ = some (.slice bU aC.length bJ):=(ak iJ.out 4).trans rfl;have D6 : w6.cell? ⟨kP,5,none⟩ = some (.int .i64 aY):=(ak iJ.out 5).trans rfl;have D7:=ay iJ.out 0;have D8:=ay iJ.out 1;have D9:=ay iJ.out 2;have Ea:=ay iJ.out 3;have Eb:=ay iJ.out 4;have Ec:=ay iJ.out 5))
     go_ret
     exact ⟨by first|rfl|(simp [aT,aU] <;> rfl)|(simp [*,aT,aU] <;> rfl),by repeat (first|(with_reducible first|exact HB.out|apply au|apply aj|apply aA|refine aH ?_ uX.out)|exact HB.out)⟩
   · rw [if_neg c5] at H;have sK : (aK == 12) = false:=beq_eq_false_iff_ne.mpr c5;have MW : (aK != 12) = true:=bne_iff_ne.mpr c5;have HC8:=Am H;clear H;go_enter Tryz.func99,Tryz.ntmps99
     go_upto_if 9 with (first|((with_reducible refine dL (N:=1) rfl ?_);refine dB ?hg (N:=1) ?hd (cs:=#[.int .i64 aK,.string aW,.int .u32 aX,.bool aZ,.slice bU aC.length bJ,.int .i64 aY]) (t:=25) ?hr ?_;(case hd => rfl);(case hg => rfl);(case hr => first|(go_simp;done)|(go_simp;rfl));intro kP hg w9 hbox hb;have iJ:=Am (hbox);have GW170:=Am ((by rw [hg];exact (aV (by repeat (first|(with_reducible first|exact HB.out|apply au|apply aj|apply aA)|exact HB.out))) : w.heap.size ≤ kP));have uX:=Am ((by rw [hg];exact (aV (by repeat (first|(with_reducible first|exact HB.out|apply au|apply aj|apply aA)|exact HB.out))) : w.heap.size ≤ kP));replace HB:=Am (aN (by repeat (first|(with_reducible first|exact HB.out|apply au|apply aj|apply aA)|exact HB.out)) hb);clear hb hbox hg;have G5 : w9.cell? ⟨kP,0,none⟩ = some (.int .i64 aK):=(ak iJ.out 0).trans rfl;have G6 : w9.cell? ⟨kP,1,none⟩ = some (.string aW):=(ak iJ.out 1).trans rfl;have G7 : w9.cell? ⟨kP,2,none⟩ = some (.int .u32 aX):=(ak iJ.out 2).trans rfl;have G8 : w9.cell? ⟨kP,3,none⟩ = some (.bool aZ):=(ak iJ.out 3).trans rfl;have G9 : w9.cell? ⟨kP,4,none⟩ = some (.slice bU aC.length bJ):=(ak iJ.out 4).trans rfl;have He : w9.cell? ⟨kP,5,none⟩ = some (.int .i64 aY):=(ak iJ.out 5).trans rfl;have Hf:=ay iJ.out 0;have Hg:=ay iJ.out 1;have Hl:=ay iJ.out 2;have Ho:=ay iJ.out 3;have Hq:=ay iJ.out 4;have Hr:=ay iJ.out 5))
     (try simp only [Act.put,Y1,Y2,Y3]);go_cut [9] (fun v9 wc => ∃ (kq : Nat) (x9_7 : Bool),v9 = .bool x9_7 ∧ ah (gG.j0 kq aK x9_7 aK aW aX aZ aC aY = some r) ∧ ah (kq ≤ k) ∧ ah (wc.heap[kP]? = some (.cells #[.int .i64 aK,.string aW,.int .u32 aX,.bool aZ,(.slice bU aC.length bJ),.int .i64 aY] 25 (0,0))) ∧ ah (Below w.heap.size w wc))
     case first =>
      have H:=HC8.out;clear HC8;by_cases c11 : aK = 10
      · rw [if_pos c11] at H;have vT : (aK == 10) = true:=beq_iff_eq.mpr c11;have JX : (aK != 10) = false:=bne_eq_false_iff_eq.mpr c11;clear c11;(first|rw [vT]|(simp only [bW,dA];rw [vT])|skip);have H' := Am H;clear H;go_wp2
        go_meet
        case rel => exact ⟨_,((aK == 10)),YF,H',⟨by first|omega|exact Nat.le_refl _⟩,⟨by (with_reducible repeat (first|refine aJ ?_ _|refine aQ ?_|refine aI ?_ _));exact iJ.out⟩,⟨by repeat (first|(with_reducible first|exact HB.out|apply au|apply aj|apply aA|refine aH ?_ uX.out)|exact HB.out)⟩⟩
      · rw [if_neg c11] at H;have vT : (aK == 10) = false:=beq_eq_false_iff_ne.mpr c11;have JX : (aK != 10) = true:=bne_iff_ne.mpr c11;(first|rw [vT]|(simp only [bW,dA];rw [vT])|skip);have H' := Am H;clear H;go_wp2
        go_meet
        case rel => exact ⟨_,((aK == 11)),YF,H',⟨by first|omega|exact Nat.le_refl _⟩,⟨by (with_reducible repeat (first|refine aJ ?_ _|refine aQ ?_|refine aI ?_ _));exact iJ.out⟩,⟨by repeat (first|(with_reducible first|exact HB.out|apply au|apply aj|apply aA|refine aH ?_ uX.out)|exact HB.out)⟩⟩
     case rest =>
      clear HC8;try clear c2
      try clear uQ
      try clear ER
      try clear c5
      try clear sK
      try clear MW
      try clear G5
      try clear G6
      try clear G7
      try clear G8
      try clear G9
      try clear He
      try clear Hf
      try clear Hg
      try clear Hl
      try clear Ho
      try clear Hq
      try clear Hr
      obtain ⟨kq,x9_7,rfl,HA,HJ7,iJ,HB⟩:=hcut;cases kq with
      | zero => exact absurd HA.out (by simp [gG.j0])
      | succ kj7 =>
       have H:=HA.out;clear HA;simp only [gG.j0] at H;by_cases c12 : x9_7 = true
       · subst c12;have H1 : ((dQ.f kj7 aW).bind fun t171 => (some t171)) = some r:=by rw [if_pos rfl] at H;exact H
         clear H;have H:=H1;clear H1;replace H:=Option.bind_eq_some_iff.mp H;obtain ⟨t171,A130,H⟩:=H;replace H : (some t171) = some r:=H;have A13:=Am A130;clear A130;obtain rfl:=Option.some.inj H;have hcz14_0 : wc.cell? ⟨kP,0,none⟩ = some (.int .i64 aK):=(ak iJ.out 0).trans rfl;have hcz14_1 : wc.cell? ⟨kP,1,none⟩ = some (.string aW):=(ak iJ.out 1).trans rfl;have hcz14_2 : wc.cell? ⟨kP,2,none⟩ = some (.int .u32 aX):=(ak iJ.out 2).trans rfl;have hcz14_3 : wc.cell? ⟨kP,3,none⟩ = some (.bool aZ):=(ak iJ.out 3).trans rfl;have hcz14_4 : wc.cell? ⟨kP,4,none⟩ = some (.slice bU aC.length bJ):=(ak iJ.out 4).trans rfl;have hcz14_5 : wc.cell? ⟨kP,5,none⟩ = some (.int .i64 aY):=(ak iJ.out 5).trans rfl;have hfz14_0:=ay iJ.out 0;have hfz14_1:=ay iJ.out 1;have hfz14_2:=ay iJ.out 2;have hfz14_3:=ay iJ.out 3;have hfz14_4:=ay iJ.out 4;have hfz14_5:=ay iJ.out 5;go_wp2_with (first|((with_reducible refine dh (f:=114) rfl ?_);refine gy (some 14) rfl rfl Tryz.func114 (by kernel_rfl) rfl #[.string aW] rfl (by (try simp only [List.map_toArray,List.map_cons,List.map_nil]);first|done|rfl|(simp only [List.length_drop,List.length_take];rfl)) ?_;(with_reducible refine (dQ.calls kj7 aW t171 _ ?dF A13.out).mono ?_);(case dF => refine dG.below HG.out ?_;repeat (first|(with_reducible first|exact HB.out|apply au|apply aj|apply aA|refine aH ?_ uX.out)|exact HB.out));rintro e w15 ⟨rfl,hb⟩;refine ⟨_,rfl,?_⟩;replace iJ:=Am (bI (g:=kP) (o:=.cells #[.int .i64 aK,.string aW,.int .u32 aX,.bool aZ,.slice bU aC.length bJ,.int .i64 aY] 25 (0,0)) (by (with_reducible repeat (first|refine aJ ?_ _|refine aQ ?_|refine aI ?_ _));exact iJ.out) hb);replace HB:=Am (aN (by repeat (first|(with_reducible first|exact HB.out|apply au|apply aj|apply aA|refine aH ?_ uX.out)|exact HB.out)) hb);(try clear hb)))
         go_ret
         exact ⟨by first|rfl|(simp [aT,aU] <;> rfl)|(simp [*,aT,aU] <;> rfl),by repeat (first|(with_reducible first|exact HB.out|apply au|apply aj|apply aA|refine aH ?_ uX.out)|exact HB.out)⟩
       · replace c12:=Bool.eq_false_iff.mpr c12;subst c12;have H1 : (if aK = 9 then (some 12) else (if aK = 14 then (some 12) else (if aK = 15 then (some 12) else (some 13)))) = some r:=by rw [if_neg (show ¬ (false = true) by decide)] at H;exact H
         clear H;have H:=H1;clear H1;by_cases c16 : aK = 9
         · rw [if_pos c16] at H;have Bq : (aK == 9) = true:=beq_iff_eq.mpr c16;have DV : (aK != 9) = false:=bne_eq_false_iff_eq.mpr c16;clear c16;obtain rfl:=Option.some.inj H;go_wp2
           go_ret
           exact ⟨by first|rfl|(simp [aT,aU] <;> rfl)|(simp [*,aT,aU] <;> rfl),by repeat (first|(with_reducible first|exact HB.out|apply au|apply aj|apply aA|refine aH ?_ uX.out)|exact HB.out)⟩
         · rw [if_neg c16] at H;have Bq : (aK == 9) = false:=beq_eq_false_iff_ne.mpr c16;have DV : (aK != 9) = true:=bne_iff_ne.mpr c16;by_cases c17 : aK = 14
           · rw [if_pos c17] at H;have FH : (aK == 14) = true:=beq_iff_eq.mpr c17;have FI : (aK != 14) = false:=bne_eq_false_iff_eq.mpr c17;clear c17;obtain rfl:=Option.some.inj H;go_wp2
             go_ret
             exact ⟨by first|rfl|(simp [aT,aU] <;> rfl)|(simp [*,aT,aU] <;> rfl),by repeat (first|(with_reducible first|exact HB.out|apply au|apply aj|apply aA|refine aH ?_ uX.out)|exact HB.out)⟩
           · rw [if_neg c17] at H;have FH : (aK == 14) = false:=beq_eq_false_iff_ne.mpr c17;have FI : (aK != 14) = true:=bne_iff_ne.mpr c17;by_cases c18 : aK = 15
             · rw [if_pos c18] at H;have JY : (aK == 15) = true:=beq_iff_eq.mpr c18;have c18b1 : (aK != 15) = false:=bne_eq_false_iff_eq.mpr c18;clear c18;obtain rfl:=Option.some.inj H;go_wp2
               go_ret
               exact ⟨by first|rfl|(simp [aT,aU] <;> rfl)|(simp [*,aT,aU] <;> rfl),by repeat (first|(with_reducible first|exact HB.out|apply au|apply aj|apply aA|refine aH ?_ uX.out)|exact HB.out)⟩
             · rw [if_neg c18] at H;have JY : (aK == 15) = false:=beq_eq_false_iff_ne.mpr c18;have c18b1 : (aK != 15) = true:=bne_iff_ne.mpr c18;obtain rfl:=Option.some.inj H;go_wp2
               go_ret
               exact ⟨by first|rfl|(simp [aT,aU] <;> rfl)|(simp [*,aT,aU] <;> rfl),by repeat (first|(with_reducible first|exact HB.out|apply au|apply aj|apply aA|refine aH ?_ uX.out)|exact HB.out)⟩
end Go.Proofs.YtboojhadfhpdeaaGreatDoor.Q
