/- A part of the proof, made small by a program: A9, B1, B2, B3, D1. -/
import Derived.Test.YtboojhadfhpdeaaGreatDoorVp2
import Derived.Test.YtboojhadfhpdeaaGreatDoorVp4
import Derived.Test.YtboojhadfhpdeaaGreatDoorVp5
import Derived.Test.YtboojhadfhpdeaaGreatDoorVp8
import Derived.Test.YtboojhadfhpdeaaGreatDoorVp17
set_option linter.unusedVariables false
set_option linter.unusedSimpArgs false
set_option maxHeartbeats 8000000
set_option maxRecDepth 100000
namespace Go.Proofs.YtboojhadfhpdeaaGreatDoor.Q
open Go.RowKit Go.Proofs.YtboojhadfhpdeaaGreatDoorW.PrintWords Go.Proofs.YtboojhadfhpdeaaGreatDoorW.PrintLast Go.Proofs.YtboojhadfhpdeaaGreatDoorW.PrintMore
theorem line_p.vars (p : Nat) (l : List Int) (A : Option Addr) (c : Nat) (w0 w : World) (hW : Below w0.heap.size w0 w) (hP : PB w0.heap.size p l w) (hG : aH w0) (hn : ND w0 jI A c) (hl : l.length ≤ 300) : Calls Tryz.prog 38 #[.pointer (some ⟨p,0,none⟩),.agg #[.int .i64 42,.string ⟨#[]⟩,.int .u32 0,.bool false,.slice A 2 c,.int .i64 0]] w (PrP w0.heap.size p w0 (l ++ [105,110,116,32,120,32,61,32,49,59,10]) (.tuple #[]) w):=by
 have hle : 2 ≤ c:=hn.le;obtain ⟨ad,A',c',rfl,_,_,t1,_⟩:=fG hn.C 0 (by decide);rw [Nat.zero_mul,kG] at t1;have t1 : w0.cell? ⟨ad.block,ad.off + 1,none⟩ = some (.string ⟨#[105,110,116]⟩):=t1;have HT:=Am t1;clear t1;obtain ⟨ad2,A2,c2,e2,hk,k0,k1,k2,k3,k4,k5⟩:=fG hn.C 1 (by decide);obtain rfl : ad = ad2:=Option.some.inj e2;have k0 : w0.cell? ⟨ad.block,ad.off + 6,none⟩ = some (.int .i64 43):=k0;have k1 : w0.cell? ⟨ad.block,ad.off + 7,none⟩ = some (.string ⟨#[120]⟩):=k1;have k2 : w0.cell? ⟨ad.block,ad.off + 8,none⟩ = some (.int .u32 0):=k2;have k3 : w0.cell? ⟨ad.block,ad.off + 9,none⟩ = some (.bool false):=k3;have k4 : w0.cell? ⟨ad.block,ad.off + 10,none⟩ = some (.slice A2 1 c2):=k4;have k5 : w0.cell? ⟨ad.block,ad.off + 11,none⟩ = some (.int .i64 0):=k5;have HK:=Am (And.intro k0 (And.intro k1 (And.intro k2 (And.intro k3 (And.intro k4 k5)))));have oI:=Am (show ND w0 lu A2 c2 from hk);clear k0 k1 k2 k3 k4 k5 hk e2;have HB:=Am (Z7 (Below.refl w.heap.size w) (.cells #[.int .i64 42,.string ⟨#[]⟩,.int .u32 0,.bool false,.slice (some ad) 2 c,.int .i64 0] 25 (0,0)));have HW:=Am hW;have HP:=Am hP;have HL:=Am hl;have HNE:=Am (show w.heap.size ≠ p from fun e => by obtain ⟨v,h1,_⟩:=hP.ex;have:=jf h1;omega);have HWB:=Am (aJ hW hW.size HB.out);have HPB:=Am (hP.below HB.out);clear hW hP hl;have HG:=Am hG;have HLE:=Am hle;have t1:=kC HWB.out HT.out;clear hG hn hle;go_enter Tryz.func38,Tryz.ntmps38
 go_wp2_with (first
  | (go_at_call 54;((refine (put.after p _ [⟨#[105,110,116]⟩,⟨#[32]⟩] l _ w0 w _ HW.out HP.out (Z7 HB.out _) (Nat.le_succ _) (iw _ _ _) (by have:=HL.out;omega) (by decide) (by decide)).mono ?_));rintro e w2 ⟨rfl,hP,hW,hF⟩;have HP2:=Am hP;have HW2:=Am hW;have HF2:=Am ((Fr.of_below (Z7 HB.out _)).trans hF);have jh : NB w2 w.heap.size jI (some ad) c:=hF.keep _ 25 _ (Z1 (cO w _) _) HNE.out (by decide);obtain ⟨c0,c1,c2,c3,c4,c5⟩:=jh.cells;have vH:=Am jh;dsimp only [jI,List.length_cons,List.length_nil] at c0 c1 c2 c3 c4 c5;clear jh;clear hP hW hF;have hc1 : ¬ c = 1:=by have:=HLE.out;omega)
  | fail)
 go_loopg [102] 1 (fun kq v w' => ∃ i : Nat,v = .int .i64 i ∧ Ad (i + kq = 1) ∧ Ad (PB w0.heap.size p (l ++ (if i = 0 then [105,110,116,32] else [105,110,116,32,120,32,61,32,49])) w') ∧ Ad (Below w0.heap.size w0 w') ∧ Ad (Fr p w2 w'))
 case atStart => exact ⟨0,rfl,⟨by omega⟩,⟨HP2.out⟩,HW2,⟨Fr.refl _ _⟩⟩
 case round =>
  obtain ⟨i,rfl,HI,HPi,D8,HFi⟩:=hrel;by_cases hi : i < 1
  · obtain rfl : i = 0:=by omega
    have qp : decide ((0 : Nat) < 1) = true:=rfl;have HIK:=Am HI.out;clear hi;obtain ⟨k0,k1,k2,k3,k4,k5⟩:=HK.out;have k0:=kC D8.out k0;have k1:=kC D8.out k1;have k2:=kC D8.out k2;have k3:=kC D8.out k3;have k4:=kC D8.out k4;have k5:=kC D8.out k5;clear c0 c1 c2 c3 c4 c5 t1;go_wp2_with (first
     | (go_at_call 57;((refine (H7.var p (l ++ [105,110,116,32]) A2 c2 w0 wb (aJ D8.out D8.out.size HBb.out) (HPi.out.below HBb.out) HG.out oI.out (by have:=HL.out;simp only [List.length_append,List.length_cons,List.length_nil];omega)).mono ?_));rintro e w5 ⟨rfl,hP,hW,hF⟩;have HP5:=Am hP;have HW5:=Am hW;have HF5:=Am (HFi.out.trans ((Fr.of_below HBb.out).trans hF));  clear hP hW hF)
     | (with_reducible refine dJ rfl rfl rfl ?_;rintro g wa hg hz hB;have mZ:=Am hB;have HZ:=Am hz;have kJ:=Am hg;clear hg hz hB)
     | (refine dL rfl rfl rfl (x:=lu) (A:=A2) (c:=c2) rfl rfl HZ.out ?_;rintro wb hN hB;obtain ⟨b0,b1,b2,b3,b4,b5⟩:=hN.cells;have HBb:=Am (mZ.out.trans (hB.mono (Nat.le_of_eq kJ.out.symm)));have HNb:=Am hN;clear hN hB)
     | fail)
    go_roundg 0
    case measure => have:=HIK.out;omega
    case rel => exact ⟨1,rfl,⟨rfl⟩,⟨by have h:=HP5.out;simp only [List.append_assoc,List.cons_append,List.nil_append] at h;exact h⟩,HW5,HF5⟩
  · obtain rfl : i = 1:=by have:=HI.out;omega
    have HIK:=Am HI.out;clear hi;go_wp2_with (first
     | (go_at_call 54;((refine (put.after p _ [⟨#[10]⟩] (l ++ [105,110,116,32,120,32,61,32,49] ++ [59]) _ w0 w6 _ HW6.out HP6.out (Z7 (Below.refl _ _) _) (Nat.le_refl _) (cO _ _) (by have:=HL.out;simp only [List.length_append,List.length_cons,List.length_nil];omega) (by decide) (by decide)).mono ?_));rintro e w7 ⟨rfl,hP,hW,hF⟩;have HP7:=Am hP;have HW7:=Am hW;have HF7:=Am (HF6.out.trans ((Fr.of_below (Z7 (Below.refl _ _) _)).trans hF));  clear hP hW hF)
     | (go_at_call 54;((refine (put.after p _ [⟨#[59]⟩] (l ++ [105,110,116,32,120,32,61,32,49]) _ w0 _ _ D8.out HPi.out (Z7 (Below.refl _ _) _) (Nat.le_refl _) (cO _ _) (by have:=HL.out;simp only [List.length_append,List.length_cons,List.length_nil];omega) (by decide) (by decide)).mono ?_));rintro e w6 ⟨rfl,hP,hW,hF⟩;have HP6:=Am hP;have HW6:=Am hW;have HF6:=Am (HF2.out.trans (HFi.out.trans ((Fr.of_below (Z7 (Below.refl _ _) _)).trans hF)));  clear hP hW hF)
     | fail)
    first|go_end0|(refine bodyPost_ret (results_none rfl _ _ _) rfl ?_)
    exact ⟨rfl,by have h:=HP7.out;simp only [List.append_assoc,List.cons_append,List.nil_append] at h;exact h,HW7.out,HF7.out⟩
theorem all_p.prog (p : Nat) (l : List Int) (A : Option Addr) (c : Nat) (w0 w : World) (hW : Below w0.heap.size w0 w) (hP : PB w0.heap.size p l w) (hG : aH w0) (hn : ND w0 jv A c) (hl : l.length ≤ 200) :
 Calls Tryz.prog 26 #[.pointer (some ⟨p,0,none⟩),.slice A 1 c] w (PrP w0.heap.size p w0 (l ++ [105,110,116,32,120,32,61,32,49,59,10]) (.tuple #[]) w):=by
 obtain ⟨ad,A2,c2,rfl,hk,k0,k1,k2,k3,k4,k5⟩:=fG hn.C 0 (by decide);rw [Nat.zero_mul,kG] at k0 k1 k2 k3 k4 k5;have k0 : w0.cell? ad = some (.int .i64 42):=k0;have k1 : w0.cell? ⟨ad.block,ad.off + 1,none⟩ = some (.string ⟨#[]⟩):=k1;have k2 : w0.cell? ⟨ad.block,ad.off + 2,none⟩ = some (.int .u32 0):=k2;have k3 : w0.cell? ⟨ad.block,ad.off + 3,none⟩ = some (.bool false):=k3;have k4 : w0.cell? ⟨ad.block,ad.off + 4,none⟩ = some (.slice A2 2 c2):=k4;have k5 : w0.cell? ⟨ad.block,ad.off + 5,none⟩ = some (.int .i64 0):=k5;have HK:=Am (And.intro k0 (And.intro k1 (And.intro k2 (And.intro k3 (And.intro k4 k5)))));have oI:=Am (show ND w0 jI A2 c2 from hk);clear k0 k1 k2 k3 k4 k5 hk;have HW:=Am hW;have HP:=Am hP;have HL:=Am hl;have HG:=Am hG;clear hW hP hl hG hn;go_enter Tryz.func26,Tryz.ntmps26
 go_wp2
 go_loopg [8] 1 (fun kq v w' => ∃ i : Nat,v = .int .i64 i ∧ Ad (i + kq = 1) ∧ Ad (PB w0.heap.size p (l ++ (if i = 0 then [] else [105,110,116,32,120,32,61,32,49,59,10])) w') ∧ Ad (Below w0.heap.size w0 w') ∧ Ad (Fr p w w'))
 case atStart => exact ⟨0,rfl,⟨by omega⟩,⟨by simpa using HP.out⟩,HW,⟨Fr.refl _ _⟩⟩
 case round =>
  obtain ⟨i,rfl,HI,HPi,D8,HFi⟩:=hrel;by_cases hi : i < 1
  · obtain rfl : i = 0:=by omega
    have qp : decide ((0 : Nat) < 1) = true:=rfl;have HIK:=Am HI.out;have HPz:=Am (show PB w0.heap.size p l _ from by simpa using HPi.out);clear hi;obtain ⟨k0,k1,k2,k3,k4,k5⟩:=HK.out;have k0:=kC D8.out k0;have k1:=kC D8.out k1;have k2:=kC D8.out k2;have k3:=kC D8.out k3;have k4:=kC D8.out k4;have k5:=kC D8.out k5;go_wp2_with (first
     | (go_at_call 38;((refine (line_p.vars p l A2 c2 w0 wb (aJ D8.out D8.out.size HBb.out) (HPz.out.below HBb.out) HG.out oI.out (by have:=HL.out;omega)).mono ?_));rintro e w5 ⟨rfl,hP,hW,hF⟩;have HP5:=Am hP;have HW5:=Am hW;have HF5:=Am (HFi.out.trans ((Fr.of_below HBb.out).trans hF));  clear hP hW hF)
     | (with_reducible refine dJ rfl rfl rfl ?_;rintro g wa hg hz hB;have mZ:=Am hB;have HZ:=Am hz;have kJ:=Am hg;clear hg hz hB)
     | (refine dL rfl rfl rfl (x:=jI) (A:=A2) (c:=c2) rfl rfl HZ.out ?_;rintro wb hN hB;obtain ⟨b0,b1,b2,b3,b4,b5⟩:=hN.cells;have HBb:=Am (mZ.out.trans (hB.mono (Nat.le_of_eq kJ.out.symm)));have HNb:=Am hN;clear hN hB)
     | fail)
    go_roundg 0
    case measure => have:=HIK.out;omega
    case rel => exact ⟨1,rfl,⟨rfl⟩,⟨HP5.out⟩,HW5,HF5⟩
  · obtain rfl : i = 1:=by have:=HI.out;omega
    have HIK:=Am HI.out;clear hi;go_wp2
    first|go_end0|(refine bodyPost_ret (results_none rfl _ _ _) rfl ?_)
    exact ⟨rfl,HPi.out,D8.out,HFi.out⟩
def CheckP (w : World) (e : Ending) (w' : World) : Prop:=e = .returned (.int .i64 0) ∧ Below w.heap.size w w'
theorem Size.prog (A : Option Addr) (c : Nat) (w : World) (hn : ND w jv A c) : Calls Tryz.prog 16 #[.agg #[.int .i64 40,.string ⟨#[]⟩,.int .u32 0,.bool false,.slice A 1 c,.int .i64 0]] w (fun e w' => e = .returned (.int .i64 5) ∧ Below w.heap.size w w') :=
 jW.calls 100 40 ⟨#[]⟩ 0 false A c [jI] 0 5 w hn.C hn.le (by kernel_rfl)
theorem Check.prog (A : Option Addr) (c : Nat) (w : World) (hG : aH w) (hn : ND w jv A c) : Calls Tryz.prog 8 #[.agg #[.int .i64 40,.string ⟨#[]⟩,.int .u32 0,.bool false,.slice A 1 c,.int .i64 0]] w (CheckP w):=by
 have HB:=Am (Z7 (Below.refl w.heap.size w) (.cells #[.int .i64 40,.string ⟨#[]⟩,.int .u32 0,.bool false,.slice A 1 c,.int .i64 0] 25 (0,0)));have HG:=Am (hG.below HB.out);have HN:=Am (hn.below HB.out);clear hG hn;go_enter Tryz.func8,Tryz.ntmps8
 go_wp2_with (first
  | (go_at_call 16;((refine (Size.prog A c _ HN.out).mono ?_);rintro e w1 ⟨rfl,hB⟩);have HB1:=Am (aJ HB.out HB.out.size hB);have iO:=Am (HN.out.below hB);have zB:=Am (HG.out.below hB);(have dR : NB w1 w.heap.size jv A c:=NB.below (cO w _) hB);obtain ⟨c0,c1,c2,c3,c4,c5⟩:=dR.cells;have jE:=Am dR;dsimp only [jv,List.length_cons,List.length_nil] at c0 c1 c2 c3 c4 c5;clear dR;clear hB)
  | (go_at_call 20;((refine (may.prog A c _ zB.out iO.out).mono ?_);rintro e w2 ⟨rfl,hB⟩);have HB2:=Am (aJ HB1.out HB1.out.size hB);clear hB)
  | fail)
 go_ret
 exact ⟨rfl,HB2.out⟩
abbrev six (x : ak) (A : Option Addr) (c : Nat) : List Value:=[.int .i64 x.f0,.string x.f1,.int .u32 x.f2,.bool x.f3,.slice A x.f4.length c,.int .i64 x.f5]
theorem D9 (q j : Nat) : (⟨q,0,none⟩ : Addr).add j = ⟨q,j,none⟩:=by
 unfold Addr.add
 split
 · rename_i h;rw [h]
 · simp
theorem C_none (w : World) (A : Option Addr) : Kd.C k25 w A 0 []:=⟨rfl,by decide,fun h => absurd h (by decide)⟩
theorem C_one {w : World} {q c : Nat} {x : ak} {A : Option Addr} (hq : w.heap[q]? = some (.cells (six x A c).toArray 25 (0,0))) (hn : ND w x A c) : Kd.C k25 w (some ⟨q,0,none⟩) 1 [x] :=
 ⟨rfl,by decide,fun _ => ⟨_,rfl,fun j p hj => by
  match j,hj with
  | 0,hj =>
   obtain rfl:=Option.some.inj hj;refine ⟨six x A c,rfl,DC w x hn.le hn.C,fun i u hu => ?_⟩;rw [D9,show 0 * k25.sz + i = i from by omega];exact (Z5 hq i).trans (by simpa using hu)⟩⟩
theorem C_two {w : World} {q c c' : Nat} {x y : ak} {A A' : Option Addr} (hq : w.heap[q]? = some (.cells (six x A c ++ six y A' c').toArray 25 (0,0))) (hn : ND w x A c) (hm : ND w y A' c') : Kd.C k25 w (some ⟨q,0,none⟩) 2 [x,y] :=
 ⟨rfl,by decide,fun _ => ⟨_,rfl,fun j p hj => by
  match j,hj with
  | 0,hj =>
   obtain rfl:=Option.some.inj hj;refine ⟨six x A c,rfl,DC w x hn.le hn.C,fun i u hu => ?_⟩;rw [D9,show 0 * k25.sz + i = i from by omega];refine (Z5 hq i).trans ?_;have hi : i < (six x A c).length:=(List.getElem?_eq_some_iff.1 hu).1;rw [List.getElem?_toArray,List.getElem?_append_left hi,hu]
  | 1,hj =>
   obtain rfl:=Option.some.inj hj;refine ⟨six y A' c',rfl,DC w y hm.le hm.C,fun i u hu => ?_⟩;rw [D9,show 1 * k25.sz + i = 6 + i from by rw [show k25.sz = 6 from rfl]];refine (Z5 hq (6 + i)).trans ?_;rw [List.getElem?_toArray,List.getElem?_append_right (by simp),show 6 + i - (six x A c).length = i from by simp,hu]⟩⟩
abbrev txt : List Int:=[105,110,116,32,120,32,61,32,49,59,10]
section
variable {ops : Array Oper} {rest : List Oper} {o : Oper} {a : Act} {Q : Exit → Act → World → Prop} {W : World}
theorem Aj (hgd : o.guard = none) {N : Tmp} (_hd : o.dst = some N) {p : Operand} (ho : o.op = .box 42 p) (hx : a.eval p = .agg #[.slice none 0 0])
 (K : ∀ g w',W.heap.size ≤ g → w'.heap[g]? = some (.cells #[.slice none 0 0] 42 (0,0)) → Below W.heap.size W w' → wpList Tryz.prog ops Q rest (a.put o.dst (.pointer (some ⟨g,0,none⟩))) w') : wpList Tryz.prog ops Q (o :: rest) a W:=by
 refine kL hgd _hd (cs:=#[.slice none 0 0]) (t:=42) ?_ (fun g hg w1 h1 h2 => K g w1 (by omega) h1 h2);simp only [execOp,ho,hx];go_simp;try rfl
end
theorem rF {w : World} {b n : Nat} {v : Value} {xs : List Value} (h : w.ownsRow b 5 1 v n xs) : ∃ A c,v = .slice A n c:=by
 rcases h.2 with ⟨rfl,rfl⟩ | ⟨g,cap,cur,rfl,_⟩
 · exact ⟨none,0,rfl⟩
 · exact ⟨_,cap,rfl⟩
theorem PB.new {b g : Nat} {w : World} (hb : b ≤ g) (hw : b ≤ w.heap.size) (h : w.heap[g]? = some (.cells #[.slice none 0 0] 42 (0,0))) : PB b g [] w:=⟨hb,hw,_,h,rfl,.inl ⟨rfl,rfl⟩⟩
theorem PB.row {b p : Nat} {w : World} (h : PB b p txt w) : ∃ A c,w.heap[p]? = some (.cells #[.slice A 11 c] 42 (0,0)) ∧ (convert 40 9 (.slice A 11 c)).run Tryz.prog w = .ok (.string ⟨#[105,110,116,32,120,32,61,32,49,59,10]⟩) w:=by
 obtain ⟨v,h1,h2⟩:=h.ex;have h3:=oC (P:=Tryz.prog) (src:=40) (dst:=9) (e:=5) rfl rfl rfl h2;have e : strOfNums txt = ⟨#[105,110,116,32,120,32,61,32,49,59,10]⟩:=by kernel_rfl
 rw [e] at h3;obtain ⟨A,c,rfl⟩:=rF h2;exact ⟨A,c,h1,h3⟩
def rG (w : World) (e : Ending) (w' : World) : Prop:=e = .returned (.tuple #[.string ⟨#[105,110,116,32,120,32,61,32,49,59,10]⟩,.int .i64 0]) ∧ Below w.heap.size w w'
theorem Print.prog (A : Option Addr) (c : Nat) (w : World) (hG : aH w) (hn : ND w jv A c) : Calls Tryz.prog 11 #[.agg #[.int .i64 40,.string ⟨#[]⟩,.int .u32 0,.bool false,.slice A 1 c,.int .i64 0]] w (rG w):=by
 have HG0:=Am hG;have gJ:=Am hn;have HB:=Am (Z7 (Below.refl w.heap.size w) (.cells #[.int .i64 40,.string ⟨#[]⟩,.int .u32 0,.bool false,.slice A 1 c,.int .i64 0] 25 (0,0)));have HG:=Am (hG.below HB.out);have HN:=Am (hn.below HB.out);clear hG hn;go_enter Tryz.func11,Tryz.ntmps11
 go_wp2_with (first
  | (go_at_call 8;((refine (Check.prog A c _ HG.out HN.out).mono ?_);rintro e w1 ⟨rfl,hB⟩);have HB1:=Am (aJ HB.out HB.out.size hB);have iO:=Am (HN.out.below hB);have zB:=Am (HG.out.below hB);(have dR : NB w1 w.heap.size jv A c:=NB.below (cO w _) hB);obtain ⟨c0,c1,c2,c3,c4,c5⟩:=dR.cells;have jE:=Am dR;dsimp only [jv,List.length_cons,List.length_nil] at c0 c1 c2 c3 c4 c5;clear dR;clear hB)
  | (go_at_call 26;((refine (all_p.prog g [] A c w w2 HB2.out HP2.out HG0.out gJ.out (by decide)).mono ?_);rintro e w3 ⟨rfl,hP,hW,hF⟩);obtain ⟨A3,c3,hp3,hcv⟩:=PB.row hP;have cp3:=(Z5 hp3 0).trans (show #[Value.slice A3 11 c3][0]? = some (.slice A3 11 c3) from rfl);have HW3:=Am hW;clear hP hW hF hp3)
  | (refine Aj rfl rfl rfl rfl ?_;rintro g w2 hg hz hB;have HB2:=Am (aJ HB1.out HB1.out.size hB);have HP2:=Am (PB.new (b:=w.heap.size) (by have:=HB1.out.size;omega) HB2.out.size hz);(have jh : NB w2 w.heap.size jv A c:=NB.below jE.out hB);obtain ⟨c0,c1,c2,c3,c4,c5⟩:=jh.cells;have vH:=Am jh;dsimp only [jv,List.length_cons,List.length_nil] at c0 c1 c2 c3 c4 c5;clear jh;clear hg hz hB)
  | fail)
 go_ret2
 exact ⟨rfl,HW3.out⟩
theorem own.calls (w : World) : Calls Tryz.prog 25 #[] w (fun e w' => ∃ A c,e = .returned (val jv A c) ∧ ND w' jv A c ∧ Below w.heap.size w w'):=by
 go_enter Tryz.func25,Tryz.ntmps25
 go_wp2_with (first
  | (with_reducible refine dJ rfl (N:=0) rfl rfl ?_;rintro g0 wa hg hz hB;have HG0:=Am hg;have mZ:=Am hB;have HZ0:=Am hz;clear hg hz hB)
  | (with_reducible refine dJ rfl (N:=1) rfl rfl ?_;rintro g1 wc hg hz hB;have zB:=Am (show g1 = wa.heap.size + 1 from by rw [hg];simp);have HQ1:=Am (o7 (cO wa _) hB);have HZ0c:=Am (o7 (Z1 HZ0.out _) hB);have HBc:=Am (aJ (mZ.out.alloc mZ.out.size _) (mZ.out.alloc mZ.out.size _).size hB);have HZ1:=Am hz;clear hg hz hB)
  | (refine tK rfl rfl (n:=1) rfl (x:=lu) (A:=some ⟨wa.heap.size,0,none⟩) (c:=1) rfl rfl HZ1.out ?_;rintro wd hN hB hk;obtain ⟨b0,b1,b2,b3,b4,b5⟩:=hN.cells;dsimp only [lu,List.length_cons,List.length_nil] at b0 b1 b2 b3 b4 b5;have HQ1d:=Am ((hk _ (by have:=zB.out;omega)).trans HQ1.out);have HZ0d:=Am ((hk _ (by have:=zB.out;have:=jf HZ0.out;omega)).trans HZ0c.out);have HBd:=Am (HBc.out.trans (hB.mono (by have:=zB.out;have:=mZ.out.size;omega)));clear hN hB hk)
  | (refine tK rfl rfl (n:=0) rfl (x:=jv) (A:=some ⟨wd.heap.size + 1,0,none⟩) (c:=1) rfl rfl (Z1 (Z1 HZ0d.out _) _) ?_;rintro we hN hB hk;have HN:=Am hN;have HQ1e:=Am ((hk _ (by have:=jf HZ0.out;omega)).trans (Z1 (Z1 HQ1d.out _) _));have HQ2e:=Am ((hk _ (by have:=jf HZ0d.out;omega)).trans (Z1 (cO wd _) _));have HQ3e:=Am ((hk _ (by have:=jf HZ0d.out;omega)).trans (iw wd _ _));have HBe:=Am (((HBd.out.alloc HBd.out.size _).alloc ((HBd.out.alloc HBd.out.size _).size) _).trans (hB.mono (Nat.le_of_eq HG0.out.symm)));clear hN hB hk)
  | fail)
 have n1 : ND we qI none 0:=⟨Nat.le_refl _,C_none _ _⟩
 have n2 : ND we lu (some ⟨wa.heap.size,0,none⟩) 1:=⟨Nat.le_refl _,C_one (c:=0) (A:=none) HQ1e.out n1⟩
 have n3 : ND we nType none 0:=⟨Nat.le_refl _,C_none _ _⟩
 have n4 : ND we jI (some ⟨wd.heap.size,0,none⟩) 2:=⟨Nat.le_refl _,C_two (c:=0) (A:=none) (c' := 1) HQ2e.out n3 n2⟩
 have n5 : ND we jv (some ⟨wd.heap.size + 1,0,none⟩) 1:=⟨Nat.le_refl _,C_one (c:=2) HQ3e.out n4⟩
 refine bodyPost_ret (results_cell_row rfl _ _ g0 25 (six jv (some ⟨wd.heap.size + 1,0,none⟩) 1).toArray (0,0) _ rfl HN.out Tryz.underlying25 rfl (by kernel_rfl)) rfl ?_;exact ⟨_,_,rfl,n5,HBe.out⟩
theorem awake.calls (w : World) (hG : aH w) : Calls Tryz.prog 10 #[] w (fun e w' => e = .returned (.bool true) ∧ Below w.heap.size w w'):=by
 have HG:=Am hG;clear hG;go_enter Tryz.func10,Tryz.ntmps10
 go_wp2_with (first
  | (go_at_call 11;((refine (Print.prog A1 c1 _ zB.out iO.out).mono ?_);rintro e w2 ⟨rfl,hB⟩);have HB2:=Am (aJ HB1.out HB1.out.size hB);clear hB)
  | (go_at_call 16;((refine (Size.prog A3 c3 _ HN3.out).mono ?_);rintro e w4 ⟨rfl,hB⟩);have HB4:=Am (aJ HB3.out HB3.out.size hB);clear hB)
  | (go_at_call 25;have hc:=HB2.out;clear hc;((refine (own.calls _).mono ?_);rintro e w3 ⟨A3,c3,rfl,hn,hB⟩);have HB3:=Am (aJ HB2.out HB2.out.size hB);have HN3:=Am hn;clear hB hn)
  | (go_at_call 25;((refine (own.calls _).mono ?_);rintro e w1 ⟨A1,c1,rfl,hn,hB⟩);have HB1:=Am hB;have zB:=Am (HG.out.below hB);have iO:=Am hn;clear hB hn)
  | fail)
 go_ret
 exact ⟨rfl,HB4.out⟩
theorem up_ {α : Type} {f : Nat → Option α} (h : ∀ k,lg (f k) (f (k + 1))) {k k' : Nat} (hk : k ≤ k') {r : α} (e : f k = some r) : f k' = some r:=by
 induction hk with
 | refl => exact e
 | step _ ih => exact h _ _ ih
inductive Fit : ak → Prop
 | mk (x : ak) (h : x.f4.length ≤ 9223372036854775807) (hk : ∀ y ∈ x.f4,Fit y) : Fit x
theorem rd_mem {xs : List ak} {i : Nat} (h : i < xs.length) : aj xs (i : Int) ∈ xs:=by
 have : aj xs (i : Int) = xs[i]:=by simp [aj,h]
 rw [this];exact List.getElem_mem h
theorem w64 {i n : Nat} (h : i < n) (hn : n ≤ 9223372036854775807) : wrap64 ((i : Int) + 1) = ((i + 1 : Nat) : Int):=by unfold wrap64;omega
theorem w64' {a : Int} (h : 0 ≤ a) (hn : a ≤ 262144) : wrap64 (a + 1) = a + 1:=by unfold wrap64;omega
def Cnt (x : ak) : Prop:=∀ a : Int,0 ≤ a → a ≤ 262144 → ∃ k r,0 ≤ r ∧ r ≤ 262145 ∧ cZ.f k x.f0 x.f1 x.f2 x.f3 x.f4 x.f5 a = some r ∧ aC.f k x.f0 x.f1 x.f2 x.f3 x.f4 x.f5 a = some r
theorem Ak (x : ak) (hl : x.f4.length ≤ 9223372036854775807) (hk : ∀ y ∈ x.f4,Cnt y) : ∀ (d i : Nat),i + d = x.f4.length → ∀ c : Int,0 ≤ c → c ≤ 262145 →
 ∃ k r,0 ≤ r ∧ r ≤ 262145 ∧ cZ.l0 k c x.f4 x.f4.length i = some r ∧ aC.l0 k c i x.f0 x.f1 x.f2 x.f3 x.f4 x.f5 = some r
 | 0,i,hd,c,h0,h1 => by
  refine ⟨1,c,h0,h1,?_,?_⟩
  · unfold cZ.l0;rw [if_neg (by omega)]
  · unfold aC.l0;rw [if_neg (by omega)]
 | d + 1,i,hd,c,h0,h1 => by
  have hi : i < x.f4.length:=by omega
  by_cases hc : c ≤ 262144
  · obtain ⟨k,r,r0,r1,e1,e2⟩:=hk _ (rd_mem hi) c h0 hc;obtain ⟨k',r',r0',r1',e1',e2'⟩:=Ak x hl hk d (i + 1) (by omega) r r0 r1;refine ⟨max k k' + 1,r',r0',r1',?_,?_⟩
    · unfold cZ.l0;rw [if_pos (by omega),if_pos (by omega),if_pos (by omega),if_neg (by omega),up_ (fun k => cZ.mono _ _ _ _ _ _ _ k) (Nat.le_max_left k k') e1,Option.bind_some,w64 hi hl];exact up_ (fun k => (cZ.vw k).2 _ _ _ _) (Nat.le_max_right k k') e1'
    · unfold aC.l0;rw [if_pos (by omega),if_pos (by omega),if_pos (by omega),up_ (fun k => aC.mono _ _ _ _ _ _ _ k) (Nat.le_max_left k k') e2,Option.bind_some,w64 hi hl];exact up_ (fun k => (aC.vw k).2 _ _ _ _ _ _ _ _) (Nat.le_max_right k k') e2'
  · refine ⟨1,c,h0,h1,?_,?_⟩
    · unfold cZ.l0;rw [if_pos (by omega),if_pos (by omega),if_pos (by omega),if_pos (by omega)]
    · unfold aC.l0;rw [if_pos (by omega),if_neg (by omega)]
theorem MF {x : ak} (h : Fit x) : Cnt x:=by
 induction h with
 | mk x hl _ ih =>
  intro a h0 h1;obtain ⟨k,r,r0,r1,e1,e2⟩:=Ak x hl ih x.f4.length 0 (by omega) (a + 1) (by omega) (by omega);refine ⟨k + 1,r,r0,r1,?_,?_⟩
  · unfold cZ.f;rw [w64' h0 h1];exact e1
  · unfold aC.f;rw [w64' h0 h1];exact e2
theorem FI : ∀ (n : Nat) (x : ak),SizeOf.sizeOf x < n → ∀ {w : World} {cs : List Value},k25.K w x cs → Fit x
 | 0,x,hn,_,_,_ => absurd hn (Nat.not_lt_zero _)
 | n + 1,x,hn,w,cs,hK => by
  obtain ⟨A4,c4,_,_,hC⟩:=wJ hK;refine Fit.mk x hC.2.1 (fun y hy => ?_);obtain ⟨j,hj,rfl⟩:=List.mem_iff_getElem.1 hy;obtain ⟨ad,_,hc⟩:=hC.2.2 (by omega);obtain ⟨c,_,hk,_⟩:=hc j _ (List.getElem?_eq_getElem hj);refine FI n _ ?_ hk;have h1:=List.sizeOf_lt_of_mem hy;have h2 : SizeOf.sizeOf x = 1 + SizeOf.sizeOf x.f0 + SizeOf.sizeOf x.f1 + SizeOf.sizeOf x.f2 + SizeOf.sizeOf x.f3 + SizeOf.sizeOf x.f4 + SizeOf.sizeOf x.f5:=by cases x;simp [ak.mk.sizeOf_spec]
  omega
theorem Ap {w : World} {A : Option Addr} {x : ak} (h : Kd.C k25 w A x.f4.length x.f4) : Fit x:=by
 refine Fit.mk x h.2.1 (fun y hy => ?_);obtain ⟨j,hj,rfl⟩:=List.mem_iff_getElem.1 hy;obtain ⟨ad,_,hc⟩:=h.2.2 (by omega);obtain ⟨c,_,hk,_⟩:=hc j _ (List.getElem?_eq_getElem hj);exact FI _ _ (Nat.lt_succ_self _) hk
end Go.Proofs.YtboojhadfhpdeaaGreatDoor.Q
