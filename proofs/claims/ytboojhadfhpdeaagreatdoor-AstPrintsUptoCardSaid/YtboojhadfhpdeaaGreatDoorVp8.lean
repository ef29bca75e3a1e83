/- A part of the proof, made small by a program: A6, A7, A8. -/
import Derived.Test.YtboojhadfhpdeaaGreatDoorVp6
import Derived.Test.YtboojhadfhpdeaaGreatDoorVp7
set_option linter.unusedVariables false
set_option linter.unusedSimpArgs false
set_option maxHeartbeats 8000000
set_option maxRecDepth 100000
namespace Go.Proofs.YtboojhadfhpdeaaGreatDoor.Q
open Go.RowKit Go.Proofs.YtboojhadfhpdeaaGreatDoorW.PrintWords Go.Proofs.YtboojhadfhpdeaaGreatDoorW.PrintLast Go.Proofs.YtboojhadfhpdeaaGreatDoorW.PrintMore
theorem put.after (p q : Nat) (ss : List ByteArray) (l : List Int) (c : Nat) (w0 wk W : World) (hW : Below w0.heap.size w0 wk) (hP : PB w0.heap.size p l wk) (hb : Below wk.heap.size wk W) (hq : wk.heap.size ≤ q) (hS : W.heap[q]? = some (.cells (ss.map Value.string).toArray 9 (0,0))) (hl : l.length ≤ 1000) (hs : (ss.flatMap bytesOf).length ≤ 1000) (hn : ss.length ≤ 1000) :
 Calls Tryz.prog 54 #[.pointer (some ⟨p,0,none⟩),.slice (some ⟨q,0,none⟩) ss.length c] W (PrP w0.heap.size p w0 (l ++ ss.flatMap bytesOf) (.tuple #[]) W):=by
 obtain ⟨v,h1,_⟩:=hP.ex;refine (put.calls w0.heap.size p q ss l c w0 W (aJ hW (Nat.le_trans hW.size (Nat.le_refl _)) hb) (hP.below hb) (fun e => by have:=jf h1;omega) hS (by omega) hn).mono ?_;rintro e w' ⟨rfl,h2,h3,h4⟩;exact ⟨rfl,h2,h3,h4⟩
theorem dec_one : (Lib.decDigits 1).toArray = #[49]:=by kernel_rfl
theorem iw (w : World) (o o' : Obj) : ((w.alloc o).alloc o').heap[w.heap.size + 1]? = some o' := by
 have h:=cO (w.alloc o) o'
 rwa [show (w.alloc o).heap.size = w.heap.size + 1 from by simp] at h
theorem H6.one (w : World) : Calls Tryz.prog 125 #[.int .u64 1,.int .i64 10] w fun e w' => e = .returned (.string ⟨#[49]⟩) ∧ w' = w:=by
 have HI : Calls Tryz.prog 135 #[.int .u64 1,.int .i64 10] w fun e w' => e = .returned (.string ⟨#[49]⟩) ∧ w' = w:=by
  go_enter Tryz.func135,Tryz.ntmps135
  go_wp2_with (first
   | (go_at_call 140;((refine (Tryz.internal_strconv_small 1 (by decide) _).mono ?_);rintro e w1 ⟨rfl,rfl⟩))
   | fail)
  go_ret
  exact ⟨congrArg (fun x => Ending.returned (.string ⟨x⟩)) dec_one,rfl⟩
 have HI2:=Am HI;clear HI;go_enter Tryz.func125,Tryz.ntmps125
 go_wp2_with (first
  | (go_at_call 135;(refine HI2.out.mono ?_);rintro e w1 ⟨rfl,rfl⟩)
  | fail)
 go_ret
 exact ⟨rfl,rfl⟩
theorem simple.num (p : Nat) (l : List Int) (A : Option Addr) (c : Nat) (w0 w : World) (hW : Below w0.heap.size w0 w) (hP : PB w0.heap.size p l w) (hl : l.length ≤ 500) : Calls Tryz.prog 115 #[.pointer (some ⟨p,0,none⟩),.agg #[.int .i64 1,.string ⟨#[]⟩,.int .u32 1,.bool false,.slice A 0 c,.int .i64 0]] w (PrP w0.heap.size p w0 (l ++ [49]) (.bool true) w):=by
 have HB:=Am (Z7 (Below.refl w.heap.size w) (.cells #[.int .i64 1,.string ⟨#[]⟩,.int .u32 1,.bool false,.slice A 0 c,.int .i64 0] 25 (0,0)));have HW:=Am hW;have HP:=Am hP;have HL:=Am hl;have HNE:=Am (show w.heap.size ≠ p from fun e => by obtain ⟨v,h1,_⟩:=hP.ex;have:=jf h1;omega);clear hW hP hl;go_enter Tryz.func115,Tryz.ntmps115
 go_wp2_with (first
  | (go_at_call 125;(refine (H6.one _).mono ?_);rintro e w1 ⟨rfl,rfl⟩)
  | (go_at_call 54;((refine (put.after p _ [⟨#[49]⟩] l _ w0 w _ HW.out HP.out (Z7 HB.out _) (Nat.le_succ _) (iw _ _ _) (by have:=HL.out;omega) (by decide) (by decide)).mono ?_));rintro e w2 ⟨rfl,hP,hW,hF⟩;have HP2:=Am hP;have HW2:=Am hW;have HF2:=Am ((Fr.of_below (Z7 HB.out _)).trans hF);have jh : NB w2 w.heap.size qI A c:=hF.keep _ 25 _ (Z1 (cO w _) _) HNE.out (by decide);obtain ⟨c0,c1,c2,c3,c4,c5⟩:=jh.cells;have vH:=Am jh;dsimp only [qI,List.length_cons,List.length_nil] at c0 c1 c2 c3 c4 c5;clear jh;clear hP hW hF)
  | fail)
 go_ret
 exact ⟨rfl,HP2.out,HW2.out,HF2.out⟩
theorem DX.num (p : Nat) (l : List Int) (A : Option Addr) (c : Nat) (w0 w : World) (hW : Below w0.heap.size w0 w) (hP : PB w0.heap.size p l w) (hl : l.length ≤ 500) : Calls Tryz.prog 100 #[.pointer (some ⟨p,0,none⟩),.agg #[.int .i64 1,.string ⟨#[]⟩,.int .u32 1,.bool false,.slice A 0 c,.int .i64 0]] w (PrP w0.heap.size p w0 (l ++ [49]) (.tuple #[]) w):=by
 have HB:=Am (Z7 (Below.refl w.heap.size w) (.cells #[.int .i64 1,.string ⟨#[]⟩,.int .u32 1,.bool false,.slice A 0 c,.int .i64 0] 25 (0,0)));have HW:=Am hW;have HP:=Am hP;have HL:=Am hl;have HNE:=Am (show w.heap.size ≠ p from fun e => by obtain ⟨v,h1,_⟩:=hP.ex;have:=jf h1;omega);have HWB:=Am (aJ hW hW.size HB.out);have HPB:=Am (hP.below HB.out);clear hW hP hl;go_enter Tryz.func100,Tryz.ntmps100
 go_wp2_with (first
  | (go_at_call 115;((refine (simple.num p l A c w0 _ HWB.out HPB.out HL.out).mono ?_));rintro e w2 ⟨rfl,hP,hW,hF⟩;have HP2:=Am hP;have HW2:=Am hW;have HF2:=Am ((Fr.of_below HB.out).trans hF);have jh : NB w2 w.heap.size qI A c:=hF.keep _ 25 _ (cO w _) HNE.out (by decide);obtain ⟨c0,c1,c2,c3,c4,c5⟩:=jh.cells;have vH:=Am jh;dsimp only [qI,List.length_cons,List.length_nil] at c0 c1 c2 c3 c4 c5;clear jh;clear hP hW hF)
  | fail)
 first|go_end0|(refine bodyPost_ret (results_none rfl _ _ _) rfl ?_)
 exact ⟨rfl,HP2.out,HW2.out,HF2.out⟩
theorem at_p.num (p : Nat) (l : List Int) (A : Option Addr) (c : Nat) (w0 w : World) (hW : Below w0.heap.size w0 w) (hP : PB w0.heap.size p l w) (hG : aH w) (hn : ND w qI A c) (hl : l.length ≤ 500) : Calls Tryz.prog 85 #[.pointer (some ⟨p,0,none⟩),.agg #[.int .i64 1,.string ⟨#[]⟩,.int .u32 1,.bool false,.slice A 0 c,.int .i64 0],.int .i64 0] w (PrP w0.heap.size p w0 (l ++ [49]) (.tuple #[]) w):=by
 have HB:=Am (Z7 (Below.refl w.heap.size w) (.cells #[.int .i64 1,.string ⟨#[]⟩,.int .u32 1,.bool false,.slice A 0 c,.int .i64 0] 25 (0,0)));have HW:=Am hW;have HP:=Am hP;have HL:=Am hl;have HNE:=Am (show w.heap.size ≠ p from fun e => by obtain ⟨v,h1,_⟩:=hP.ex;have:=jf h1;omega);have HWB:=Am (aJ hW hW.size HB.out);have HPB:=Am (hP.below HB.out);clear hW hP hl;have HG:=Am (hG.below HB.out);have HN:=Am (hn.below HB.out);clear hG hn;go_enter Tryz.func85,Tryz.ntmps85
 go_wp2_with (first
  | (go_at_call 99;((refine (iJ.calls 100 1 ⟨#[]⟩ 1 false A c [] 0 13 _ HN.out.C (Nat.zero_le _) HG.out (by kernel_rfl)).mono ?_);rintro e w1 ⟨rfl,hB⟩);have HB1:=Am hB;(have dR : NB w1 w.heap.size qI A c:=NB.below (cO w _) hB);obtain ⟨c0,c1,c2,c3,c4,c5⟩:=dR.cells;have jE:=Am dR;dsimp only [qI,List.length_cons,List.length_nil] at c0 c1 c2 c3 c4 c5;clear dR;clear hB)
  | (go_at_call 100;((refine (DX.num p l A c w0 _ (aJ HWB.out HWB.out.size HB1.out) (HPB.out.below HB1.out) HL.out).mono ?_));rintro e w2 ⟨rfl,hP,hW,hF⟩;have HP2:=Am hP;have HW2:=Am hW;have HF2:=Am ((Fr.of_below (Z25 HB.out HB1.out)).trans hF);  clear hP hW hF)
  | fail)
 first|go_end0|(refine bodyPost_ret (results_none rfl _ _ _) rfl ?_)
 exact ⟨rfl,HP2.out,HW2.out,HF2.out⟩
theorem H7.var (p : Nat) (l : List Int) (A : Option Addr) (c : Nat) (w0 w : World) (hW : Below w0.heap.size w0 w) (hP : PB w0.heap.size p l w) (hG : aH w0) (hn : ND w0 lu A c) (hl : l.length ≤ 400) : Calls Tryz.prog 57 #[.pointer (some ⟨p,0,none⟩),.agg #[.int .i64 43,.string ⟨#[120]⟩,.int .u32 0,.bool false,.slice A 1 c,.int .i64 0]] w (PrP w0.heap.size p w0 (l ++ [120,32,61,32,49]) (.tuple #[]) w):=by
 obtain ⟨ad,A',c',rfl,hk,k0,k1,k2,k3,k4,k5⟩:=fG hn.C 0 (by decide);rw [Nat.zero_mul,kG] at k0 k1 k2 k3 k4 k5;have k0 : w0.cell? ad = some (.int .i64 1):=k0;have k1 : w0.cell? ⟨ad.block,ad.off + 1,none⟩ = some (.string ⟨#[]⟩):=k1;have k2 : w0.cell? ⟨ad.block,ad.off + 2,none⟩ = some (.int .u32 1):=k2;have k3 : w0.cell? ⟨ad.block,ad.off + 3,none⟩ = some (.bool false):=k3;have k4 : w0.cell? ⟨ad.block,ad.off + 4,none⟩ = some (.slice A' 0 c'):=k4;have k5 : w0.cell? ⟨ad.block,ad.off + 5,none⟩ = some (.int .i64 0):=k5;have HK:=Am (And.intro k0 (And.intro k1 (And.intro k2 (And.intro k3 (And.intro k4 k5)))));have oI:=Am (show ND w0 qI A' c' from hk);clear k0 k1 k2 k3 k4 k5 hk;have HB:=Am (Z7 (Below.refl w.heap.size w) (.cells #[.int .i64 43,.string ⟨#[120]⟩,.int .u32 0,.bool false,.slice (some ad) 1 c,.int .i64 0] 25 (0,0)));have HW:=Am hW;have HP:=Am hP;have HL:=Am hl;have HNE:=Am (show w.heap.size ≠ p from fun e => by obtain ⟨v,h1,_⟩:=hP.ex;have:=jf h1;omega);have HWB:=Am (aJ hW hW.size HB.out);have HPB:=Am (hP.below HB.out);clear hW hP hl;have HG:=Am hG;clear hG hn;go_enter Tryz.func57,Tryz.ntmps57
 go_wp2_with (first
  | (go_at_call 85;((refine (at_p.num p (l ++ [120] ++ [32,61,32]) A' c' w0 _ HW3.out HP3.out (HG.out.below HW3.out) (oI.out.below HW3.out) (by have:=HL.out;simp only [List.length_append,List.length_cons,List.length_nil];omega)).mono ?_));rintro e w4 ⟨rfl,hP,hW,hF⟩;have HP4:=Am hP;have HW4:=Am hW;have HF4:=Am (HF3.out.trans hF);  clear hP hW hF)
  | (go_at_call 54;((refine (put.after p _ [⟨#[32,61,32]⟩] (l ++ [120]) _ w0 w2 _ HW2.out HP2.out (Z7 (Below.refl _ _) _) (Nat.le_refl _) (cO _ _) (by have:=HL.out;simp only [List.length_append,List.length_cons,List.length_nil];omega) (by decide) (by decide)).mono ?_));rintro e w3 ⟨rfl,hP,hW,hF⟩;have HP3:=Am hP;have HW3:=Am hW;have HF3:=Am (HF2.out.trans ((Fr.of_below (Z7 (Below.refl _ _) _)).trans hF));  clear hP hW hF;obtain ⟨k0,k1,k2,k3,k4,k5⟩:=HK.out;have k0:=kC HW3.out k0;have k1:=kC HW3.out k1;have k2:=kC HW3.out k2;have k3:=kC HW3.out k3;have k4:=kC HW3.out k4;have k5:=kC HW3.out k5;)
  | (go_at_call 54;((refine (put.after p _ [⟨#[120]⟩] l _ w0 w _ HW.out HP.out (Z7 HB.out _) (Nat.le_succ _) (iw _ _ _) (by have:=HL.out;omega) (by decide) (by decide)).mono ?_));rintro e w2 ⟨rfl,hP,hW,hF⟩;have HP2:=Am hP;have HW2:=Am hW;have HF2:=Am ((Fr.of_below (Z7 HB.out _)).trans hF);have jh : NB w2 w.heap.size lu (some ad) c:=hF.keep _ 25 _ (Z1 (cO w _) _) HNE.out (by decide);obtain ⟨c0,c1,c2,c3,c4,c5⟩:=jh.cells;have vH:=Am jh;dsimp only [lu,List.length_cons,List.length_nil] at c0 c1 c2 c3 c4 c5;clear jh;clear hP hW hF)
  | fail)
 first|go_end0|(refine bodyPost_ret (results_none rfl _ _ _) rfl ?_)
 exact ⟨rfl,by have h:=HP4.out;simp only [List.append_assoc,List.cons_append,List.nil_append] at h;exact h,HW4.out,HF4.out⟩
abbrev qy : Array Value:=#[.int .i64 0,.string ⟨#[]⟩,.int .u32 0,.bool false,.slice none 0 0,.int .i64 0]
section
variable {ops : Array Oper} {rest : List Oper} {o : Oper} {a : Act} {Q : Exit → Act → World → Prop} {W : World}
theorem dJ (hgd : o.guard = none) {N : Tmp} (_hd : o.dst = some N) (ho : o.op = .alloc 25)
 (K : ∀ g w',g = W.heap.size → w'.heap[g]? = some (.cells qy 25 (0,0)) → Below W.heap.size W w' → wpList Tryz.prog ops Q rest (a.put o.dst (.pointer (some ⟨g,0,none⟩))) w') : wpList Tryz.prog ops Q (o :: rest) a W:=by
 refine kL hgd _hd (cs:=qy) (t:=25) ?_ (fun g hg w1 h1 h2 => K g w1 hg h1 h2);simp only [execOp,ho];go_simp;try rfl
theorem tK (hgd : o.guard = none) (hN : o.dst = none) {n : Tmp} {v : Operand} (ho : o.op = .store 25 (.tmp n) v) {x : ak} {A : Option Addr} {c g : Nat} (hx : a.eval v = val x A c) (hg : a.eval (.tmp n) = .pointer (some ⟨g,0,none⟩)) (hc : W.heap[g]? = some (.cells qy 25 (0,0)))
 (K : ∀ w',NB w' g x A c → Below g W w' → (∀ k,k ≠ g → w'.heap[k]? = W.heap[k]?) → wpList Tryz.prog ops Q rest a w') : wpList Tryz.prog ops Q (o :: rest) a W:=by
 have h0:=(Z5 hc 0).trans (show qy[0]? = some (.int .i64 0) from rfl);have h1:=(Z5 hc 1).trans (show qy[1]? = some (.string ⟨#[]⟩) from rfl);have h2:=(Z5 hc 2).trans (show qy[2]? = some (.int .u32 0) from rfl);have h3:=(Z5 hc 3).trans (show qy[3]? = some (.bool false) from rfl);have h4:=(Z5 hc 4).trans (show qy[4]? = some (.slice none 0 0) from rfl);have h5:=(Z5 hc 5).trans (show qy[5]? = some (.int .i64 0) from rfl);have f0:=Z2 hc 0;have f1:=Z2 hc 1;have f2:=Z2 hc 2;have f3:=Z2 hc 3;have f4:=Z2 hc 4;have f5:=Z2 hc 5;refine ER (t:=25) (p:=n) (v:=v) (w1:=((((((W.setCell ⟨g,0,none⟩ (.int .i64 x.f0)).setCell ⟨g,1,none⟩ (.string x.f1)).setCell ⟨g,2,none⟩ (.int .u32 x.f2)).setCell ⟨g,3,none⟩ (.bool x.f3)).setCell ⟨g,4,none⟩ (.slice A x.f4.length c)).setCell ⟨g,5,none⟩ (.int .i64 x.f5))) hgd ho hN ?hr (fun w' hw => ?_);case hr =>
  simp only [execOp,ho,hx,hg];first|(go_simp;done)|(go_simp;rfl)
 · subst hw;refine K _ ?_ ?_ (fun k hk => ?_)
   · exact (nC (nC (nC (nC (nC (nC hc 0 _) 1 _) 2 _) 3 _) 4 _) 5 _)
   · exact ((((((Below.refl g W).setCell (Nat.le_refl g) _).setCell (Nat.le_refl g) _).setCell (Nat.le_refl g) _).setCell (Nat.le_refl g) _).setCell (Nat.le_refl g) _).setCell (Nat.le_refl g) _
   · rw [Below.heap_setCell _ _ _ k hk,Below.heap_setCell _ _ _ k hk,Below.heap_setCell _ _ _ k hk,Below.heap_setCell _ _ _ k hk,Below.heap_setCell _ _ _ k hk,Below.heap_setCell _ _ _ k hk]
theorem dL (hgd : o.guard = none) (hN : o.dst = none) {n : Tmp} {v : Operand} (ho : o.op = .store 25 (.tmp n) v) {x : ak} {A : Option Addr} {c g : Nat} (hx : a.eval v = val x A c) (hg : a.eval (.tmp n) = .pointer (some ⟨g,0,none⟩)) (hc : W.heap[g]? = some (.cells qy 25 (0,0)))
 (K : ∀ w',NB w' g x A c → Below g W w' → wpList Tryz.prog ops Q rest a w') : wpList Tryz.prog ops Q (o :: rest) a W :=
 tK hgd hN ho hx hg hc (fun w' h1 h2 _ => K w' h1 h2)
end
end Go.Proofs.YtboojhadfhpdeaaGreatDoor.Q
