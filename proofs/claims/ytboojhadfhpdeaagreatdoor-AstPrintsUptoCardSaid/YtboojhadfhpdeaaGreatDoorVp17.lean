/- A part of the proof, made small by a program: Qx85, Qx86. -/
import Derived.Test.YtboojhadfhpdeaaGreatDoorVp2
import Derived.Test.YtboojhadfhpdeaaGreatDoorVp4
set_option linter.unusedVariables false
set_option linter.unusedSimpArgs false
set_option maxHeartbeats 8000000
set_option maxRecDepth 100000
namespace Go.Proofs.YtboojhadfhpdeaaGreatDoor.Q
open Go.RowKit Go.Proofs.YtboojhadfhpdeaaGreatDoorW.PrintWords Go.Proofs.YtboojhadfhpdeaaGreatDoorW.PrintLast Go.Proofs.YtboojhadfhpdeaaGreatDoorW.PrintMore
mutual
def aC.l0 : Nat → Int → Int → Int → ByteArray → Int → Bool → List (ak) → Int → Option (Int)
 | 0,_,_,_,_,_,_,_,_ => none
 | k + 1,x1,x5,x266000,x266001,x266002,x266003,qh,x266005 => if x5 < (qh.length : Int) then (if x1 ≤ 262144 then (if 0 ≤ x5 then ((aC.f k ((aj qh x5).f0) ((aj qh x5).f1) ((aj qh x5).f2) ((aj qh x5).f3) ((aj qh x5).f4) ((aj qh x5).f5) x1).bind fun t267 => (aC.l0 k t267 (wrap64 (x5 + 1)) x266000 x266001 x266002 x266003 qh x266005)) else (none)) else (some x1)) else (some x1)
def aC.f : Nat → Int → ByteArray → Int → Bool → List (ak) → Int → Int → Option (Int)
 | 0,_,_,_,_,_,_,_ => none
 | k + 1,ay,aN,aY,aZ,ah,bn,a1 => aC.l0 k (wrap64 (a1 + 1)) 0 ay aN aY aZ ah bn
end
theorem aC.vw : ∀ k,(∀ y0 y1 y2 y3 y4 y5 y6,lg (aC.f k y0 y1 y2 y3 y4 y5 y6) (aC.f (k + 1) y0 y1 y2 y3 y4 y5 y6)) ∧ (∀ y0 y1 y2 y3 y4 y5 y6 y7,lg (aC.l0 k y0 y1 y2 y3 y4 y5 y6 y7) (aC.l0 (k + 1) y0 y1 y2 y3 y4 y5 y6 y7))
 | 0 => ⟨fun _ _ _ _ _ _ _ r h => by simp [aC.f] at h,fun _ _ _ _ _ _ _ _ r h => by simp [aC.l0] at h⟩
 | k + 1 => by
  obtain ⟨LZ,ih1⟩:=aC.vw k;refine ⟨?_,?_⟩
  · intro y0 y1 y2 y3 y4 y5 y6;unfold aC.f
    repeat' first
    | (with_reducible exact LZ _ _ _ _ _ _ _)
    | (with_reducible exact ih1 _ _ _ _ _ _ _ _)
    | (with_reducible exact lg.refl _)
    | (with_reducible exact lg.none _)
    | (with_reducible refine lg.ite ?_ ?_)
    | (with_reducible refine lg.bind ?_ (fun _ => ?_))
    | exact LZ _ _ _ _ _ _ _
    | exact ih1 _ _ _ _ _ _ _ _
    | exact lg.none _
    | refine lg.ite ?_ ?_
    | refine lg.bind ?_ (fun _ => ?_)
  · intro y0 y1 y2 y3 y4 y5 y6 y7;unfold aC.l0
    repeat' first
    | (with_reducible exact LZ _ _ _ _ _ _ _)
    | (with_reducible exact ih1 _ _ _ _ _ _ _ _)
    | (with_reducible exact lg.refl _)
    | (with_reducible exact lg.none _)
    | (with_reducible refine lg.ite ?_ ?_)
    | (with_reducible refine lg.bind ?_ (fun _ => ?_))
    | exact LZ _ _ _ _ _ _ _
    | exact ih1 _ _ _ _ _ _ _ _
    | exact lg.none _
    | refine lg.ite ?_ ?_
    | refine lg.bind ?_ (fun _ => ?_)
theorem aC.mono : ∀ a0 a1 a2 a3 a4 a5 a6 k,lg (aC.f k a0 a1 a2 a3 a4 a5 a6) (aC.f (k + 1) a0 a1 a2 a3 a4 a5 a6):=by
 intro a0 a1 a2 a3 a4 a5 a6 k;obtain ⟨LZ,ih1⟩:=aC.vw k;exact LZ a0 a1 a2 a3 a4 a5 a6
theorem aC.calls (k : Nat) : ∀ (ay : Int) (aN : ByteArray) (aY : Int) (aZ : Bool) (bM : Option Addr) (bG : Nat) (ah : List (ak)) (bn : Int) (a1 : Int) (r : Int) (w : World) (gK : Kd.C k25 w bM ah.length ah) (iD : ah.length ≤ bG) (h : aC.f k ay aN aY aZ ah bn a1 = some r),
 Calls Tryz.prog 28 #[.agg #[.int .i64 ay,.string aN,.int .u32 aY,.bool aZ,.slice bM ah.length bG,.int .i64 bn],.int .i64 a1] w fun e w' => e = .returned (.int .i64 r) ∧ Below w.heap.size w w' := by
 induction k using Nat.strongRecOn with
 | _ k ih =>
 intro ay aN aY aZ bM bG ah bn a1 r w gK iD h;cases k with
 | zero => exact absurd h (by simp [aC.f])
 | succ k =>
 simp only [aC.f] at h;have vC:=Tryz.underlying25;have iT:=Am gK;clear gK iD;have HB:=Am (Below.refl w.heap.size w);have H : (aC.l0 k (wrap64 (a1 + 1)) 0 ay aN aY aZ ah bn) = some r:=h;clear h;have H' := Ad.mk H;clear H;go_enter Tryz.func28,Tryz.ntmps28
 go_wp2_with (first|((with_reducible refine jM (N:=2) rfl ?_);refine kL ?hg (N:=2) ?hd (cs:=#[.int .i64 ay,.string aN,.int .u32 aY,.bool aZ,.slice bM ah.length bG,.int .i64 bn]) (t:=25) ?hr ?_;(case hd => rfl);(case hg => rfl);(case hr => first|(go_simp;done)|(go_simp;rfl));intro CB hg w3 hbox hb;have aX:=Am (Z25 YH hb);have bf:=Am (hbox);have dh:=Am ((YW hg : w.heap.size ≤ CB));have dQ:=Am ((YW hg : w.heap.size ≤ CB));clear HB;have HB:=aX;have xG:=bf;have GW265:=dh;have GE265:=dQ;clear aX bf dh dQ;clear hb hbox hg))
 go_loopg [1,5] k (fun kq v1 v5 w' => ∃ (vG : Int) (jX : Int),v1 = .int .i64 vG ∧ v5 = .int .i64 jX ∧ Ad (aC.l0 kq vG jX ay aN aY aZ ah bn = some r) ∧ Ad (kq ≤ k) ∧ Ad (w'.heap[CB]? = some (.cells #[.int .i64 ay,.string aN,.int .u32 aY,.bool aZ,(.slice bM ah.length bG),.int .i64 bn] 25 (0,0))) ∧ Ad (Below w.heap.size w w'))
 case atStart => exact ⟨(wrap64 (a1 + 1)),(0),YF,YF,H',⟨Nat.le_refl _⟩,⟨YK xG⟩,⟨YH⟩⟩
 case round =>
  clear H';obtain ⟨vG,jX,rfl,rfl,HA,dN,xG,HB⟩:=hrel;cases gk with
  | zero => exact absurd HA.out (by simp [aC.l0])
  | succ k1 =>
   have H:=HA.out;clear HA;simp only [aC.l0] at H;by_cases c4 : jX < (ah.length : Int)
   · rw [if_pos c4] at H;have lS:=decide_eq_true c4;clear c4;by_cases c5 : vG ≤ 262144
     · rw [if_pos c5] at H;have lq:=decide_eq_true c5;clear c5;by_cases c6 : 0 ≤ jX
       · rw [if_pos c6] at H;have oG:=decide_eq_true c6;clear c6;replace H:=Option.bind_eq_some_iff.mp H;obtain ⟨t267,A70,H⟩:=H;replace H : (aC.l0 k1 t267 (wrap64 (jX + 1)) ay aN aY aZ ah bn) = some r:=H;have A7:=Am A70;clear A70;have H' := Ad.mk H;clear H;have hcz8_4 : wr.cell? ⟨CB,4,none⟩ = some (.slice bM ah.length bG):=(Z5 xG.out 4).trans rfl;have p266 : 0 ≤ (jX : Int):=YA;have q266 : jX < (ah.length : Int):=YA;obtain ⟨ad266,A266_4,c266_4,e266,JA,JB,JC,JD,JE,JF,JG,JH⟩:=jT iT.out jX p266 q266;cases e266;replace JA:=YC HB JA;replace JB:=YC HB JB;replace JC:=YC HB JC;replace JD:=YC HB JD;replace JE:=YC HB JE;replace JF:=YC HB JF;have HR266_4:=Am JH;have HC266_4:=Am JG;clear JH JG;replace p266:=eq_true p266;replace q266:=eq_true q266;go_wp2_with (first|((with_reducible refine sU (f:=28) rfl ?_);refine fV (some 25) rfl rfl Tryz.func28 (by kernel_rfl) rfl #[.agg #[.int .i64 ((aj ah jX).f0),.string ((aj ah jX).f1),.int .u32 ((aj ah jX).f2),.bool ((aj ah jX).f3),.slice A266_4 ((aj ah jX).f4).length c266_4,.int .i64 ((aj ah jX).f5)],.int .i64 vG] rfl (by (try simp only [List.map_toArray,List.map_cons,List.map_nil]);first|done|rfl|(simp only [List.length_drop,List.length_take];rfl)) ?_;(with_reducible refine (ih k1 (by have:=dN.out;omega) ((aj ah jX).f0) ((aj ah jX).f1) ((aj ah jX).f2) ((aj ah jX).f3) _ _ ((aj ah jX).f4) ((aj ah jX).f5) vG t267 _ ?dK ?gq A7.out).mono ?_);(case dK => repeat (first|exact (Kd.dV HR266_4.out HB.out)|(with_reducible refine Kd.fA ?_ _)|(with_reducible refine Kd.fB ?_ _)|(with_reducible refine Kd.gB ?_)));(case gq => exact HC266_4.out);rintro e w9 ⟨rfl,hb⟩;refine ⟨_,rfl,?_⟩;have aX:=Am (o7 (YK xG) hb);have bf:=Am (Z25 YH hb);clear xG;clear HB;have xG:=aX;have HB:=bf;clear aX bf;(try clear hb)))
         go_roundg k1
         case measure => have:=dN.out;omega
         case rel => exact ⟨(t267),(wrap64 (jX + 1)),YF,YF,H',⟨by have:=dN.out;omega⟩,⟨YK xG⟩,⟨YH⟩⟩
       · rw [if_neg c6] at H;exact absurd H (by simp)
     · rw [if_neg c5] at H;have lq:=decide_eq_false c5;clear c5;obtain rfl:=Option.some.inj H;have Jt : wr.cell? ⟨CB,4,none⟩ = some (.slice bM ah.length bG):=(Z5 xG.out 4).trans rfl;go_wp2
       go_ret
       exact ⟨by first|rfl|(simp [dO,dP] <;> rfl)|(simp [*,dO,dP] <;> rfl),by repeat (first|(with_reducible first|exact HB.out|apply Z7|apply Z4|apply Z6|refine Z8 ?_ GE265.out)|exact HB.out)⟩
   · rw [if_neg c4] at H;have lS:=decide_eq_false c4;clear c4;obtain rfl:=Option.some.inj H;have hcz11_4 : wr.cell? ⟨CB,4,none⟩ = some (.slice bM ah.length bG):=(Z5 xG.out 4).trans rfl;go_wp2
     go_ret
     exact ⟨by first|rfl|(simp [dO,dP] <;> rfl)|(simp [*,dO,dP] <;> rfl),by repeat (first|(with_reducible first|exact HB.out|apply Z7|apply Z4|apply Z6|refine Z8 ?_ GE265.out)|exact HB.out)⟩
def bI.f (k : Nat) (ay : Int) (aN : ByteArray) (aY : Int) (aZ : Bool) (ah : List (ak)) (bn : Int) : Option (Int):=(aC.f k ay aN aY aZ ah bn 0).bind fun yM => (if yM > 262144 then (some 0) else (some yM))
theorem bI.mono : ∀ a0 a1 a2 a3 a4 a5 k,lg (bI.f k a0 a1 a2 a3 a4 a5) (bI.f (k + 1) a0 a1 a2 a3 a4 a5):=by
 intro a0 a1 a2 a3 a4 a5 k;unfold bI.f
 repeat' first
  | (with_reducible exact aC.mono _ _ _ _ _ _ _ _)
  | (with_reducible exact lg.refl _)
  | (with_reducible exact lg.none _)
  | (with_reducible refine lg.ite ?_ ?_)
  | (with_reducible refine lg.bind ?_ (fun _ => ?_))
  | exact aC.mono _ _ _ _ _ _ _ _
  | exact lg.none _
  | refine lg.ite ?_ ?_
  | refine lg.bind ?_ (fun _ => ?_)
theorem bI.calls (k : Nat) (ay : Int) (aN : ByteArray) (aY : Int) (aZ : Bool) (bM : Option Addr) (bG : Nat) (ah : List (ak)) (bn : Int) (r : Int) (w : World) (gK : Kd.C k25 w bM ah.length ah) (iD : ah.length ≤ bG) (h : bI.f k ay aN aY aZ ah bn = some r) :
 Calls Tryz.prog 13 #[.agg #[.int .i64 ay,.string aN,.int .u32 aY,.bool aZ,.slice bM ah.length bG,.int .i64 bn]] w fun e w' => e = .returned (.int .i64 r) ∧ Below w.heap.size w w' := by
 have vC:=Tryz.underlying25;have iT:=Am gK;have oH:=Am iD;clear gK iD;have HB:=Am (Below.refl w.heap.size w);have H : ((aC.f k ay aN aY aZ ah bn 0).bind fun yM => (if yM > 262144 then (some 0) else (some yM))) = some r:=h;clear h;replace H:=Option.bind_eq_some_iff.mp H;obtain ⟨yM,BP,H⟩:=H;replace H : (if yM > 262144 then (some 0) else (some yM)) = some r:=H;have A2:=Am BP;clear BP;by_cases c3 : yM > 262144
 · rw [if_pos c3] at H;have kH : decide (262144 < yM) = true:=decide_eq_true c3;clear c3;obtain rfl:=Option.some.inj H;go_enter Tryz.func13,Tryz.ntmps13
   go_wp2_with (first|((with_reducible refine jM (N:=1) rfl ?_);refine kL ?hg (N:=1) ?hd (cs:=#[.int .i64 ay,.string aN,.int .u32 aY,.bool aZ,.slice bM ah.length bG,.int .i64 bn]) (t:=25) ?hr ?_;(case hd => rfl);(case hg => rfl);(case hr => first|(go_simp;done)|(go_simp;rfl));intro nH hg w4 hbox hb;have aX:=Am (Z25 YH hb);have bf:=Am (hbox);have dh:=Am ((YW hg : w.heap.size ≤ nH));have dQ:=Am ((YW hg : w.heap.size ≤ nH));clear HB;have HB:=aX;have mV:=bf;have GW268:=dh;have GE268:=dQ;clear aX bf dh dQ;clear hb hbox hg;have Hq : w4.cell? ⟨nH,0,none⟩ = some (.int .i64 ay):=(Z5 mV.out 0).trans rfl;have hcz5_1 : w4.cell? ⟨nH,1,none⟩ = some (.string aN):=(Z5 mV.out 1).trans rfl;have hcz5_2 : w4.cell? ⟨nH,2,none⟩ = some (.int .u32 aY):=(Z5 mV.out 2).trans rfl;have hcz5_3 : w4.cell? ⟨nH,3,none⟩ = some (.bool aZ):=(Z5 mV.out 3).trans rfl;have DF : w4.cell? ⟨nH,4,none⟩ = some (.slice bM ah.length bG):=(Z5 mV.out 4).trans rfl;have hcz5_5 : w4.cell? ⟨nH,5,none⟩ = some (.int .i64 bn):=(Z5 mV.out 5).trans rfl)|((with_reducible refine sU (f:=28) rfl ?_);refine fV (some 5) rfl rfl Tryz.func28 (by kernel_rfl) rfl #[.agg #[.int .i64 ay,.string aN,.int .u32 aY,.bool aZ,.slice bM ah.length bG,.int .i64 bn],.int .i64 0] rfl (by (try simp only [List.map_toArray,List.map_cons,List.map_nil]);first|done|rfl|(simp only [List.length_drop,List.length_take];rfl)) ?_;(with_reducible refine (aC.calls k ay aN aY aZ _ _ ah bn 0 yM _ ?dK ?gq A2.out).mono ?_);(case dK => repeat (first|exact (Kd.dV iT.out HB.out)|(with_reducible refine Kd.fA ?_ _)|(with_reducible refine Kd.fB ?_ _)|(with_reducible refine Kd.gB ?_)));(case gq => exact oH.out);rintro e w6 ⟨rfl,hb⟩;refine ⟨_,rfl,?_⟩;have aX:=Am (o7 (YK mV) hb);have bf:=Am (Z25 YH hb);clear mV;clear HB;have mV:=aX;have HB:=bf;clear aX bf;(try clear hb)))
   go_ret
   exact ⟨by first|rfl|(simp [dO,dP] <;> rfl)|(simp [*,dO,dP] <;> rfl),by repeat (first|(with_reducible first|exact HB.out|apply Z7|apply Z4|apply Z6|refine Z8 ?_ GE268.out)|exact HB.out)⟩
 · rw [if_neg c3] at H;have kH : decide (262144 < yM) = false:=decide_eq_false c3;clear c3;obtain rfl:=Option.some.inj H;go_enter Tryz.func13,Tryz.ntmps13
   go_wp2_with (first|((with_reducible refine jM (N:=1) rfl ?_);refine kL ?hg (N:=1) ?hd (cs:=#[.int .i64 ay,.string aN,.int .u32 aY,.bool aZ,.slice bM ah.length bG,.int .i64 bn]) (t:=25) ?hr ?_;(case hd => rfl);(case hg => rfl);(case hr => first|(go_simp;done)|(go_simp;rfl));intro nH hg w7 hbox hb;have aX:=Am (Z25 YH hb);have bf:=Am (hbox);have dh:=Am ((YW hg : w.heap.size ≤ nH));have dQ:=Am ((YW hg : w.heap.size ≤ nH));clear HB;have HB:=aX;have mV:=bf;have GW268:=dh;have GE268:=dQ;clear aX bf dh dQ;clear hb hbox hg;have hcz8_0 : w7.cell? ⟨nH,0,none⟩ = some (.int .i64 ay):=(Z5 mV.out 0).trans rfl;have hcz8_1 : w7.cell? ⟨nH,1,none⟩ = some (.string aN):=(Z5 mV.out 1).trans rfl;have hcz8_2 : w7.cell? ⟨nH,2,none⟩ = some (.int .u32 aY):=(Z5 mV.out 2).trans rfl;have hcz8_3 : w7.cell? ⟨nH,3,none⟩ = some (.bool aZ):=(Z5 mV.out 3).trans rfl;have hcz8_4 : w7.cell? ⟨nH,4,none⟩ = some (.slice bM ah.length bG):=(Z5 mV.out 4).trans rfl;have hcz8_5 : w7.cell? ⟨nH,5,none⟩ = some (.int .i64 bn):=(Z5 mV.out 5).trans rfl)|((with_reducible refine sU (f:=28) rfl ?_);refine fV (some 5) rfl rfl Tryz.func28 (by kernel_rfl) rfl #[.agg #[.int .i64 ay,.string aN,.int .u32 aY,.bool aZ,.slice bM ah.length bG,.int .i64 bn],.int .i64 0] rfl (by (try simp only [List.map_toArray,List.map_cons,List.map_nil]);first|done|rfl|(simp only [List.length_drop,List.length_take];rfl)) ?_;(with_reducible refine (aC.calls k ay aN aY aZ _ _ ah bn 0 yM _ ?dK ?gq A2.out).mono ?_);(case dK => repeat (first|exact (Kd.dV iT.out HB.out)|(with_reducible refine Kd.fA ?_ _)|(with_reducible refine Kd.fB ?_ _)|(with_reducible refine Kd.gB ?_)));(case gq => exact oH.out);rintro e w9 ⟨rfl,hb⟩;refine ⟨_,rfl,?_⟩;have aX:=Am (o7 (YK mV) hb);have bf:=Am (Z25 YH hb);clear mV;clear HB;have mV:=aX;have HB:=bf;clear aX bf;(try clear hb)))
   go_ret
   exact ⟨by first|rfl|(simp [dO,dP] <;> rfl)|(simp [*,dO,dP] <;> rfl),by repeat (first|(with_reducible first|exact HB.out|apply Z7|apply Z4|apply Z6|refine Z8 ?_ GE268.out)|exact HB.out)⟩
end Go.Proofs.YtboojhadfhpdeaaGreatDoor.Q
