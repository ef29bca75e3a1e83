/- A part of the proof, made small by a program: A6, A7, A8, A9, B1, B2, B3, B4, C1, D1. -/
import Derived.Test.YtboojhadfhpdeaaGreatDoorVq4
import Derived.Test.YtboojhadfhpdeaaGreatDoorVq5
import Derived.Test.YtboojhadfhpdeaaGreatDoorVq15
import Derived.Test.YtboojhadfhpdeaaGreatDoorVq16
import Derived.Test.YtboojhadfhpdeaaGreatDoorVq17
set_option linter.unusedVariables false
set_option linter.unusedSimpArgs false
set_option maxHeartbeats 8000000
set_option maxRecDepth 100000
namespace Go.Proofs.YtboojhadfhpdeaaGreatDoor.Q
open Go.RowKit Go.Proofs.YtboojhadfhpdeaaGreatDoorW.PrintWords Go.Proofs.YtboojhadfhpdeaaGreatDoorW.PrintLast Go.Proofs.YtboojhadfhpdeaaGreatDoorW.PrintMore
theorem put.after (p q : Nat) (ss : List ByteArray) (l : List Int) (c : Nat) (w0 wk W : World) (hW : Below w0.heap.size w0 wk) (hP : PB w0.heap.size p l wk) (hb : Below wk.heap.size wk W) (hq : wk.heap.size ≤ q) (hS : W.heap[q]? = some (.cells (ss.map Value.string).toArray 9 (0,0))) (hl : l.length ≤ 1000) (hs : (ss.flatMap bytesOf).length ≤ 1000) (hn : ss.length ≤ 1000) :
 Calls Tryz.prog 54 #[.pointer (some ⟨p,0,none⟩),.slice (some ⟨q,0,none⟩) ss.length c] W (PrP w0.heap.size p w0 (l ++ ss.flatMap bytesOf) (.tuple #[]) W):=by
 obtain ⟨v,h1,_⟩:=hP.ex;refine (put.calls w0.heap.size p q ss l c w0 W (bQ hW (Nat.le_trans hW.size (Nat.le_refl _)) hb) (hP.below hb) (fun e => by have:=jl h1;omega) hS (by omega) hn).mono ?_;rintro e w' ⟨rfl,h2,h3,h4⟩;exact ⟨rfl,h2,h3,h4⟩
theorem dec_one : (Lib.decDigits 1).toArray = #[49]:=by kernel_rfl
theorem jB (w : World) (o o' : Obj) : ((w.alloc o).alloc o').heap[w.heap.size + 1]? = some o' := by
 have h:=eP (w.alloc o) o'
 rwa [show (w.alloc o).heap.size = w.heap.size + 1 from by simp] at h
theorem Nv.one (w : World) : Calls Tryz.prog 125 #[.int .u64 1,.int .i64 10] w fun e w' => e = .returned (.string ⟨#[49]⟩) ∧ w' = w:=by
 have HI : Calls Tryz.prog 135 #[.int .u64 1,.int .i64 10] w fun e w' => e = .returned (.string ⟨#[49]⟩) ∧ w' = w:=by
  go_enter Tryz.func135,Tryz.ntmps135
  go_wp2_with (first
   | (go_at_call 140;((refine (Tryz.internal_strconv_small 1 (by decide) _).mono ?_);rintro e w1 ⟨rfl,rfl⟩))
   | fail)
  go_ret
  exact ⟨congrArg (fun x => Ending.returned (.string ⟨x⟩)) dec_one,rfl⟩
 have HI2:=ah.mk HI;clear HI;go_enter Tryz.func125,Tryz.ntmps125
 go_wp2_with (first
  | (go_at_call 135;(refine HI2.out.mono ?_);rintro e w1 ⟨rfl,rfl⟩)
  | fail)
 go_ret
 exact ⟨rfl,rfl⟩
theorem simple.num (p : Nat) (l : List Int) (A : Option Addr) (c : Nat) (w0 w : World) (hW : Below w0.heap.size w0 w) (hP : PB w0.heap.size p l w) (hl : l.length ≤ 500) : Calls Tryz.prog 115 #[.pointer (some ⟨p,0,none⟩),.agg #[.int .i64 1,.string ⟨#[]⟩,.int .u32 1,.bool false,.slice A 0 c,.int .i64 0]] w (PrP w0.heap.size p w0 (l ++ [49]) (.bool true) w):=by
 have HB:=ah.mk (au (Below.refl w.heap.size w) (.cells #[.int .i64 1,.string ⟨#[]⟩,.int .u32 1,.bool false,.slice A 0 c,.int .i64 0] 25 (0,0)));have HW:=ah.mk hW;have HP:=ah.mk hP;have HL:=ah.mk hl;have HNE:=ah.mk (show w.heap.size ≠ p from fun e => by obtain ⟨v,h1,_⟩:=hP.ex;have:=jl h1;omega);clear hW hP hl;go_enter Tryz.func115,Tryz.ntmps115
 go_wp2_with (first
  | (go_at_call 125;(refine (Nv.one _).mono ?_);rintro e w1 ⟨rfl,rfl⟩)
  | (go_at_call 54;((refine (put.after p _ [⟨#[49]⟩] l _ w0 w _ HW.out HP.out (au HB.out _) (Nat.le_succ _) (jB _ _ _) (by have:=HL.out;omega) (by decide) (by decide)).mono ?_));rintro e w2 ⟨rfl,hP,hW,hF⟩;have HP2:=ah.mk hP;have HW2:=ah.mk hW;have HF2:=ah.mk ((Fr.of_below (au HB.out _)).trans hF);have lu : NB w2 w.heap.size uU A c:=hF.keep _ 25 _ (aI (eP w _) _) HNE.out (by decide);obtain ⟨c0,c1,c2,c3,c4,c5⟩:=lu.cells;have yg:=ah.mk lu;dsimp only [uU,List.length_cons,List.length_nil] at c0 c1 c2 c3 c4 c5;clear lu;clear hP hW hF)
  | fail)
 go_ret
 exact ⟨rfl,HP2.out,HW2.out,HF2.out⟩
theorem Jd.num (p : Nat) (l : List Int) (A : Option Addr) (c : Nat) (w0 w : World) (hW : Below w0.heap.size w0 w) (hP : PB w0.heap.size p l w) (hl : l.length ≤ 500) : Calls Tryz.prog 100 #[.pointer (some ⟨p,0,none⟩),.agg #[.int .i64 1,.string ⟨#[]⟩,.int .u32 1,.bool false,.slice A 0 c,.int .i64 0]] w (PrP w0.heap.size p w0 (l ++ [49]) (.tuple #[]) w):=by
 have HB:=ah.mk (au (Below.refl w.heap.size w) (.cells #[.int .i64 1,.string ⟨#[]⟩,.int .u32 1,.bool false,.slice A 0 c,.int .i64 0] 25 (0,0)));have HW:=ah.mk hW;have HP:=ah.mk hP;have HL:=ah.mk hl;have HNE:=ah.mk (show w.heap.size ≠ p from fun e => by obtain ⟨v,h1,_⟩:=hP.ex;have:=jl h1;omega);have HWB:=ah.mk (bQ hW hW.size HB.out);have HPB:=ah.mk (hP.below HB.out);clear hW hP hl;go_enter Tryz.func100,Tryz.ntmps100
 go_wp2_with (first
  | (go_at_call 115;((refine (simple.num p l A c w0 _ HWB.out HPB.out HL.out).mono ?_));rintro e w2 ⟨rfl,hP,hW,hF⟩;have HP2:=ah.mk hP;have HW2:=ah.mk hW;have HF2:=ah.mk ((Fr.of_below HB.out).trans hF);have lu : NB w2 w.heap.size uU A c:=hF.keep _ 25 _ (eP w _) HNE.out (by decide);obtain ⟨c0,c1,c2,c3,c4,c5⟩:=lu.cells;have yg:=ah.mk lu;dsimp only [uU,List.length_cons,List.length_nil] at c0 c1 c2 c3 c4 c5;clear lu;clear hP hW hF)
  | fail)
 first|go_end0|(refine bodyPost_ret (results_none rfl _ _ _) rfl ?_)
 exact ⟨rfl,HP2.out,HW2.out,HF2.out⟩
theorem at_p.num (p : Nat) (l : List Int) (A : Option Addr) (c : Nat) (w0 w : World) (hW : Below w0.heap.size w0 w) (hP : PB w0.heap.size p l w) (hG : dG w) (hn : ND w uU A c) (hl : l.length ≤ 500) : Calls Tryz.prog 85 #[.pointer (some ⟨p,0,none⟩),.agg #[.int .i64 1,.string ⟨#[]⟩,.int .u32 1,.bool false,.slice A 0 c,.int .i64 0],.int .i64 0] w (PrP w0.heap.size p w0 (l ++ [49]) (.tuple #[]) w):=by
 have HB:=ah.mk (au (Below.refl w.heap.size w) (.cells #[.int .i64 1,.string ⟨#[]⟩,.int .u32 1,.bool false,.slice A 0 c,.int .i64 0] 25 (0,0)));have HW:=ah.mk hW;have HP:=ah.mk hP;have HL:=ah.mk hl;have HNE:=ah.mk (show w.heap.size ≠ p from fun e => by obtain ⟨v,h1,_⟩:=hP.ex;have:=jl h1;omega);have HWB:=ah.mk (bQ hW hW.size HB.out);have HPB:=ah.mk (hP.below HB.out);clear hW hP hl;have HG:=ah.mk (hG.below HB.out);have HN:=ah.mk (hn.below HB.out);clear hG hn;go_enter Tryz.func85,Tryz.ntmps85
 go_wp2_with (first
  | (go_at_call 99;((refine (gG.calls 100 1 ⟨#[]⟩ 1 false A c [] 0 13 _ HN.out.C (Nat.zero_le _) HG.out (by kernel_rfl)).mono ?_);rintro e w1 ⟨rfl,hB⟩);have HB1:=ah.mk hB;(have gq : NB w1 w.heap.size uU A c:=NB.below (eP w _) hB);obtain ⟨c0,c1,c2,c3,c4,c5⟩:=gq.cells;have lW:=ah.mk gq;dsimp only [uU,List.length_cons,List.length_nil] at c0 c1 c2 c3 c4 c5;clear gq;clear hB)
  | (go_at_call 100;((refine (Jd.num p l A c w0 _ (bQ HWB.out HWB.out.size HB1.out) (HPB.out.below HB1.out) HL.out).mono ?_));rintro e w2 ⟨rfl,hP,hW,hF⟩;have HP2:=ah.mk hP;have HW2:=ah.mk hW;have HF2:=ah.mk ((Fr.of_below (aN HB.out HB1.out)).trans hF);  clear hP hW hF)
  | fail)
 first|go_end0|(refine bodyPost_ret (results_none rfl _ _ _) rfl ?_)
 exact ⟨rfl,HP2.out,HW2.out,HF2.out⟩
theorem Nw.var (p : Nat) (l : List Int) (A : Option Addr) (c : Nat) (w0 w : World) (hW : Below w0.heap.size w0 w) (hP : PB w0.heap.size p l w) (hG : dG w0) (hn : ND w0 nZ A c) (hl : l.length ≤ 400) : Calls Tryz.prog 57 #[.pointer (some ⟨p,0,none⟩),.agg #[.int .i64 43,.string ⟨#[120]⟩,.int .u32 0,.bool false,.slice A 1 c,.int .i64 0]] w (PrP w0.heap.size p w0 (l ++ [120,32,61,32,49]) (.tuple #[]) w):=by
 obtain ⟨ad,A',c',rfl,hk,k0,k1,k2,k3,k4,k5⟩:=jo hn.C 0 (by decide);rw [Nat.zero_mul,nM] at k0 k1 k2 k3 k4 k5;have k0 : w0.cell? ad = some (.int .i64 1):=k0;have k1 : w0.cell? ⟨ad.block,ad.off + 1,none⟩ = some (.string ⟨#[]⟩):=k1;have k2 : w0.cell? ⟨ad.block,ad.off + 2,none⟩ = some (.int .u32 1):=k2;have k3 : w0.cell? ⟨ad.block,ad.off + 3,none⟩ = some (.bool false):=k3;have k4 : w0.cell? ⟨ad.block,ad.off + 4,none⟩ = some (.slice A' 0 c'):=k4;have k5 : w0.cell? ⟨ad.block,ad.off + 5,none⟩ = some (.int .i64 0):=k5;have HK:=ah.mk (And.intro k0 (And.intro k1 (And.intro k2 (And.intro k3 (And.intro k4 k5)))));have Je:=ah.mk (show ND w0 uU A' c' from hk);clear k0 k1 k2 k3 k4 k5 hk;have HB:=ah.mk (au (Below.refl w.heap.size w) (.cells #[.int .i64 43,.string ⟨#[120]⟩,.int .u32 0,.bool false,.slice (some ad) 1 c,.int .i64 0] 25 (0,0)));have HW:=ah.mk hW;have HP:=ah.mk hP;have HL:=ah.mk hl;have HNE:=ah.mk (show w.heap.size ≠ p from fun e => by obtain ⟨v,h1,_⟩:=hP.ex;have:=jl h1;omega);have HWB:=ah.mk (bQ hW hW.size HB.out);have HPB:=ah.mk (hP.below HB.out);clear hW hP hl;have HG:=ah.mk hG;clear hG hn;go_enter Tryz.func57,Tryz.ntmps57
 go_wp2_with (first
  | (go_at_call 85;((refine (at_p.num p (l ++ [120] ++ [32,61,32]) A' c' w0 _ HW3.out HP3.out (HG.out.below HW3.out) (Je.out.below HW3.out) (by have:=HL.out;simp only [List.length_append,List.length_cons,List.length_nil];omega)).mono ?_));rintro e w4 ⟨rfl,hP,hW,hF⟩;have HP4:=ah.mk hP;have HW4:=ah.mk hW;have HF4:=ah.mk (HF3.out.trans hF);  clear hP hW hF)
  | (go_at_call 54;((refine (put.after p _ [⟨#[32,61,32]⟩] (l ++ [120]) _ w0 w2 _ HW2.out HP2.out (au (Below.refl _ _) _) (Nat.le_refl _) (eP _ _) (by have:=HL.out;simp only [List.length_append,List.length_cons,List.length_nil];omega) (by decide) (by decide)).mono ?_));rintro e w3 ⟨rfl,hP,hW,hF⟩;have HP3:=ah.mk hP;have HW3:=ah.mk hW;have HF3:=ah.mk (HF2.out.trans ((Fr.of_below (au (Below.refl _ _) _)).trans hF));  clear hP hW hF;obtain ⟨k0,k1,k2,k3,k4,k5⟩:=HK.out;have k0:=bf HW3.out k0;have k1:=bf HW3.out k1;have k2:=bf HW3.out k2;have k3:=bf HW3.out k3;have k4:=bf HW3.out k4;have k5:=bf HW3.out k5;)
  | (go_at_call 54;((refine (put.after p _ [⟨#[120]⟩] l _ w0 w _ HW.out HP.out (au HB.out _) (Nat.le_succ _) (jB _ _ _) (by have:=HL.out;omega) (by decide) (by decide)).mono ?_));rintro e w2 ⟨rfl,hP,hW,hF⟩;have HP2:=ah.mk hP;have HW2:=ah.mk hW;have HF2:=ah.mk ((Fr.of_below (au HB.out _)).trans hF);have lu : NB w2 w.heap.size nZ (some ad) c:=hF.keep _ 25 _ (aI (eP w _) _) HNE.out (by decide);obtain ⟨c0,c1,c2,c3,c4,c5⟩:=lu.cells;have yg:=ah.mk lu;dsimp only [nZ,List.length_cons,List.length_nil] at c0 c1 c2 c3 c4 c5;clear lu;clear hP hW hF)
  | fail)
 first|go_end0|(refine bodyPost_ret (results_none rfl _ _ _) rfl ?_)
 exact ⟨rfl,by have h:=HP4.out;simp only [List.append_assoc,List.cons_append,List.nil_append] at h;exact h,HW4.out,HF4.out⟩
abbrev uH : Array Value:=#[.int .i64 0,.string ⟨#[]⟩,.int .u32 0,.bool false,.slice none 0 0,.int .i64 0]
section
variable {ops : Array Oper} {rest : List Oper} {o : Oper} {a : Act} {Q : Exit → Act → World → Prop} {W : World}
theorem iK (hgd : o.guard = none) {N : Tmp} (_hd : o.dst = some N) (ho : o.op = .alloc 25)
 (K : ∀ g w',g = W.heap.size → w'.heap[g]? = some (.cells uH 25 (0,0)) → Below W.heap.size W w' → wpList Tryz.prog ops Q rest (a.put o.dst (.pointer (some ⟨g,0,none⟩))) w') : wpList Tryz.prog ops Q (o :: rest) a W:=by
 refine dB hgd _hd (cs:=uH) (t:=25) ?_ (fun g hg w1 h1 h2 => K g w1 hg h1 h2);simp only [execOp,ho];go_simp;try rfl
theorem wO (hgd : o.guard = none) (hN : o.dst = none) {n : Tmp} {v : Operand} (ho : o.op = .store 25 (.tmp n) v) {x : bn} {A : Option Addr} {c g : Nat} (hx : a.eval v = val x A c) (hg : a.eval (.tmp n) = .pointer (some ⟨g,0,none⟩)) (hc : W.heap[g]? = some (.cells uH 25 (0,0)))
 (K : ∀ w',NB w' g x A c → Below g W w' → (∀ k,k ≠ g → w'.heap[k]? = W.heap[k]?) → wpList Tryz.prog ops Q rest a w') : wpList Tryz.prog ops Q (o :: rest) a W:=by
 have h0:=(ak hc 0).trans (show uH[0]? = some (.int .i64 0) from rfl);have h1:=(ak hc 1).trans (show uH[1]? = some (.string ⟨#[]⟩) from rfl);have h2:=(ak hc 2).trans (show uH[2]? = some (.int .u32 0) from rfl);have h3:=(ak hc 3).trans (show uH[3]? = some (.bool false) from rfl);have h4:=(ak hc 4).trans (show uH[4]? = some (.slice none 0 0) from rfl);have h5:=(ak hc 5).trans (show uH[5]? = some (.int .i64 0) from rfl);have f0:=ay hc 0;have f1:=ay hc 1;have f2:=ay hc 2;have f3:=ay hc 3;have f4:=ay hc 4;have f5:=ay hc 5;refine JC (t:=25) (p:=n) (v:=v) (w1:=((((((W.setCell ⟨g,0,none⟩ (.int .i64 x.f0)).setCell ⟨g,1,none⟩ (.string x.f1)).setCell ⟨g,2,none⟩ (.int .u32 x.f2)).setCell ⟨g,3,none⟩ (.bool x.f3)).setCell ⟨g,4,none⟩ (.slice A x.f4.length c)).setCell ⟨g,5,none⟩ (.int .i64 x.f5))) hgd ho hN ?hr (fun w' hw => ?_);case hr =>
  simp only [execOp,ho,hx,hg];first|(go_simp;done)|(go_simp;rfl)
 · subst hw;refine K _ ?_ ?_ (fun k hk => ?_)
   · exact (qx (qx (qx (qx (qx (qx hc 0 _) 1 _) 2 _) 3 _) 4 _) 5 _)
   · exact ((((((Below.refl g W).setCell (Nat.le_refl g) _).setCell (Nat.le_refl g) _).setCell (Nat.le_refl g) _).setCell (Nat.le_refl g) _).setCell (Nat.le_refl g) _).setCell (Nat.le_refl g) _
   · rw [Below.heap_setCell _ _ _ k hk,Below.heap_setCell _ _ _ k hk,Below.heap_setCell _ _ _ k hk,Below.heap_setCell _ _ _ k hk,Below.heap_setCell _ _ _ k hk,Below.heap_setCell _ _ _ k hk]
theorem iU (hgd : o.guard = none) (hN : o.dst = none) {n : Tmp} {v : Operand} (ho : o.op = .store 25 (.tmp n) v) {x : bn} {A : Option Addr} {c g : Nat} (hx : a.eval v = val x A c) (hg : a.eval (.tmp n) = .pointer (some ⟨g,0,none⟩)) (hc : W.heap[g]? = some (.cells uH 25 (0,0)))
 (K : ∀ w',NB w' g x A c → Below g W w' → wpList Tryz.prog ops Q rest a w') : wpList Tryz.prog ops Q (o :: rest) a W :=
 wO hgd hN ho hx hg hc (fun w' h1 h2 _ => K w' h1 h2)
end
theorem line_p.vars (p : Nat) (l : List Int) (A : Option Addr) (c : Nat) (w0 w : World) (hW : Below w0.heap.size w0 w) (hP : PB w0.heap.size p l w) (hG : dG w0) (hn : ND w0 l7 A c) (hl : l.length ≤ 300) : Calls Tryz.prog 38 #[.pointer (some ⟨p,0,none⟩),.agg #[.int .i64 42,.string ⟨#[]⟩,.int .u32 0,.bool false,.slice A 2 c,.int .i64 0]] w (PrP w0.heap.size p w0 (l ++ [105,110,116,32,120,32,61,32,49,59,10]) (.tuple #[]) w):=by
 have hle : 2 ≤ c:=hn.le;obtain ⟨ad,A',c',rfl,_,_,t1,_⟩:=jo hn.C 0 (by decide);rw [Nat.zero_mul,nM] at t1;have t1 : w0.cell? ⟨ad.block,ad.off + 1,none⟩ = some (.string ⟨#[105,110,116]⟩):=t1;have HT:=ah.mk t1;clear t1;obtain ⟨ad2,A2,c2,e2,hk,k0,k1,k2,k3,k4,k5⟩:=jo hn.C 1 (by decide);obtain rfl : ad = ad2:=Option.some.inj e2;have k0 : w0.cell? ⟨ad.block,ad.off + 6,none⟩ = some (.int .i64 43):=k0;have k1 : w0.cell? ⟨ad.block,ad.off + 7,none⟩ = some (.string ⟨#[120]⟩):=k1;have k2 : w0.cell? ⟨ad.block,ad.off + 8,none⟩ = some (.int .u32 0):=k2;have k3 : w0.cell? ⟨ad.block,ad.off + 9,none⟩ = some (.bool false):=k3;have k4 : w0.cell? ⟨ad.block,ad.off + 10,none⟩ = some (.slice A2 1 c2):=k4;have k5 : w0.cell? ⟨ad.block,ad.off + 11,none⟩ = some (.int .i64 0):=k5;have HK:=ah.mk (And.intro k0 (And.intro k1 (And.intro k2 (And.intro k3 (And.intro k4 k5)))));have Je:=ah.mk (show ND w0 nZ A2 c2 from hk);clear k0 k1 k2 k3 k4 k5 hk e2;have HB:=ah.mk (au (Below.refl w.heap.size w) (.cells #[.int .i64 42,.string ⟨#[]⟩,.int .u32 0,.bool false,.slice (some ad) 2 c,.int .i64 0] 25 (0,0)));have HW:=ah.mk hW;have HP:=ah.mk hP;have HL:=ah.mk hl;have HNE:=ah.mk (show w.heap.size ≠ p from fun e => by obtain ⟨v,h1,_⟩:=hP.ex;have:=jl h1;omega);have HWB:=ah.mk (bQ hW hW.size HB.out);have HPB:=ah.mk (hP.below HB.out);clear hW hP hl;have HG:=ah.mk hG;have HLE:=ah.mk hle;have t1:=bf HWB.out HT.out;clear hG hn hle;go_enter Tryz.func38,Tryz.ntmps38
 go_wp2_with (first
  | (go_at_call 54;((refine (put.after p _ [⟨#[105,110,116]⟩,⟨#[32]⟩] l _ w0 w _ HW.out HP.out (au HB.out _) (Nat.le_succ _) (jB _ _ _) (by have:=HL.out;omega) (by decide) (by decide)).mono ?_));rintro e w2 ⟨rfl,hP,hW,hF⟩;have HP2:=ah.mk hP;have HW2:=ah.mk hW;have HF2:=ah.mk ((Fr.of_below (au HB.out _)).trans hF);have lu : NB w2 w.heap.size l7 (some ad) c:=hF.keep _ 25 _ (aI (eP w _) _) HNE.out (by decide);obtain ⟨c0,c1,c2,c3,c4,c5⟩:=lu.cells;have yg:=ah.mk lu;dsimp only [l7,List.length_cons,List.length_nil] at c0 c1 c2 c3 c4 c5;clear lu;clear hP hW hF;have hc1 : ¬ c = 1:=by have:=HLE.out;omega)
  | fail)
 go_loopg [102] 1 (fun kq v w' => ∃ i : Nat,v = .int .i64 i ∧ ah (i + kq = 1) ∧ ah (PB w0.heap.size p (l ++ (if i = 0 then [105,110,116,32] else [105,110,116,32,120,32,61,32,49])) w') ∧ ah (Below w0.heap.size w0 w') ∧ ah (Fr p w2 w'))
 case atStart => exact ⟨0,rfl,⟨by omega⟩,⟨HP2.out⟩,HW2,⟨Fr.refl _ _⟩⟩
 case round =>
  obtain ⟨i,rfl,HI,HPi,Jf,HFi⟩:=hrel;by_cases hi : i < 1
  · obtain rfl : i = 0:=by omega
    have EP : decide ((0 : Nat) < 1) = true:=rfl;have HIK:=ah.mk HI.out;clear hi;obtain ⟨k0,k1,k2,k3,k4,k5⟩:=HK.out;have k0:=bf Jf.out k0;have k1:=bf Jf.out k1;have k2:=bf Jf.out k2;have k3:=bf Jf.out k3;have k4:=bf Jf.out k4;have k5:=bf Jf.out k5;clear c0 c1 c2 c3 c4 c5 t1;go_wp2_with (first
     | (go_at_call 57;((refine (Nw.var p (l ++ [105,110,116,32]) A2 c2 w0 wb (bQ Jf.out Jf.out.size HBb.out) (HPi.out.below HBb.out) HG.out Je.out (by have:=HL.out;simp only [List.length_append,List.length_cons,List.length_nil];omega)).mono ?_));rintro e w5 ⟨rfl,hP,hW,hF⟩;have HP5:=ah.mk hP;have HW5:=ah.mk hW;have HF5:=ah.mk (HFi.out.trans ((Fr.of_below HBb.out).trans hF));  clear hP hW hF)
     | (with_reducible refine iK rfl rfl rfl ?_;rintro g wa hg hz hB;have uY:=ah.mk hB;have HZ:=ah.mk hz;have qR:=ah.mk hg;clear hg hz hB)
     | (refine iU rfl rfl rfl (x:=nZ) (A:=A2) (c:=c2) rfl rfl HZ.out ?_;rintro wb hN hB;obtain ⟨b0,b1,b2,b3,b4,b5⟩:=hN.cells;have HBb:=ah.mk (uY.out.trans (hB.mono (Nat.le_of_eq qR.out.symm)));have HNb:=ah.mk hN;clear hN hB)
     | fail)
    go_roundg 0
    case measure => have:=HIK.out;omega
    case rel => exact ⟨1,rfl,⟨rfl⟩,⟨by have h:=HP5.out;simp only [List.append_assoc,List.cons_append,List.nil_append] at h;exact h⟩,HW5,HF5⟩
  · obtain rfl : i = 1:=by have:=HI.out;omega
    have HIK:=ah.mk HI.out;clear hi;go_wp2_with (first
     | (go_at_call 54;((refine (put.after p _ [⟨#[10]⟩] (l ++ [105,110,116,32,120,32,61,32,49] ++ [59]) _ w0 w6 _ HW6.out HP6.out (au (Below.refl _ _) _) (Nat.le_refl _) (eP _ _) (by have:=HL.out;simp only [List.length_append,List.length_cons,List.length_nil];omega) (by decide) (by decide)).mono ?_));rintro e w7 ⟨rfl,hP,hW,hF⟩;have HP7:=ah.mk hP;have HW7:=ah.mk hW;have HF7:=ah.mk (HF6.out.trans ((Fr.of_below (au (Below.refl _ _) _)).trans hF));  clear hP hW hF)
     | (go_at_call 54;((refine (put.after p _ [⟨#[59]⟩] (l ++ [105,110,116,32,120,32,61,32,49]) _ w0 _ _ Jf.out HPi.out (au (Below.refl _ _) _) (Nat.le_refl _) (eP _ _) (by have:=HL.out;simp only [List.length_append,List.length_cons,List.length_nil];omega) (by decide) (by decide)).mono ?_));rintro e w6 ⟨rfl,hP,hW,hF⟩;have HP6:=ah.mk hP;have HW6:=ah.mk hW;have HF6:=ah.mk (HF2.out.trans (HFi.out.trans ((Fr.of_below (au (Below.refl _ _) _)).trans hF)));  clear hP hW hF)
     | fail)
    first|go_end0|(refine bodyPost_ret (results_none rfl _ _ _) rfl ?_)
    exact ⟨rfl,by have h:=HP7.out;simp only [List.append_assoc,List.cons_append,List.nil_append] at h;exact h,HW7.out,HF7.out⟩
theorem all_p.prog (p : Nat) (l : List Int) (A : Option Addr) (c : Nat) (w0 w : World) (hW : Below w0.heap.size w0 w) (hP : PB w0.heap.size p l w) (hG : dG w0) (hn : ND w0 lM A c) (hl : l.length ≤ 200) :
 Calls Tryz.prog 26 #[.pointer (some ⟨p,0,none⟩),.slice A 1 c] w (PrP w0.heap.size p w0 (l ++ [105,110,116,32,120,32,61,32,49,59,10]) (.tuple #[]) w):=by
 obtain ⟨ad,A2,c2,rfl,hk,k0,k1,k2,k3,k4,k5⟩:=jo hn.C 0 (by decide);rw [Nat.zero_mul,nM] at k0 k1 k2 k3 k4 k5;have k0 : w0.cell? ad = some (.int .i64 42):=k0;have k1 : w0.cell? ⟨ad.block,ad.off + 1,none⟩ = some (.string ⟨#[]⟩):=k1;have k2 : w0.cell? ⟨ad.block,ad.off + 2,none⟩ = some (.int .u32 0):=k2;have k3 : w0.cell? ⟨ad.block,ad.off + 3,none⟩ = some (.bool false):=k3;have k4 : w0.cell? ⟨ad.block,ad.off + 4,none⟩ = some (.slice A2 2 c2):=k4;have k5 : w0.cell? ⟨ad.block,ad.off + 5,none⟩ = some (.int .i64 0):=k5;have HK:=ah.mk (And.intro k0 (And.intro k1 (And.intro k2 (And.intro k3 (And.intro k4 k5)))));have Je:=ah.mk (show ND w0 l7 A2 c2 from hk);clear k0 k1 k2 k3 k4 k5 hk;have HW:=ah.mk hW;have HP:=ah.mk hP;have HL:=ah.mk hl;have HG:=ah.mk hG;clear hW hP hl hG hn;go_enter Tryz.func26,Tryz.ntmps26
 go_wp2
 go_loopg [8] 1 (fun kq v w' => ∃ i : Nat,v = .int .i64 i ∧ ah (i + kq = 1) ∧ ah (PB w0.heap.size p (l ++ (if i = 0 then [] else [105,110,116,32,120,32,61,32,49,59,10])) w') ∧ ah (Below w0.heap.size w0 w') ∧ ah (Fr p w w'))
 case atStart => exact ⟨0,rfl,⟨by omega⟩,⟨by simpa using HP.out⟩,HW,⟨Fr.refl _ _⟩⟩
 case round =>
  obtain ⟨i,rfl,HI,HPi,Jf,HFi⟩:=hrel;by_cases hi : i < 1
  · obtain rfl : i = 0:=by omega
    have EP : decide ((0 : Nat) < 1) = true:=rfl;have HIK:=ah.mk HI.out;have HPz:=ah.mk (show PB w0.heap.size p l _ from by simpa using HPi.out);clear hi;obtain ⟨k0,k1,k2,k3,k4,k5⟩:=HK.out;have k0:=bf Jf.out k0;have k1:=bf Jf.out k1;have k2:=bf Jf.out k2;have k3:=bf Jf.out k3;have k4:=bf Jf.out k4;have k5:=bf Jf.out k5;go_wp2_with (first
     | (go_at_call 38;((refine (line_p.vars p l A2 c2 w0 wb (bQ Jf.out Jf.out.size HBb.out) (HPz.out.below HBb.out) HG.out Je.out (by have:=HL.out;omega)).mono ?_));rintro e w5 ⟨rfl,hP,hW,hF⟩;have HP5:=ah.mk hP;have HW5:=ah.mk hW;have HF5:=ah.mk (HFi.out.trans ((Fr.of_below HBb.out).trans hF));  clear hP hW hF)
     | (with_reducible refine iK rfl rfl rfl ?_;rintro g wa hg hz hB;have uY:=ah.mk hB;have HZ:=ah.mk hz;have qR:=ah.mk hg;clear hg hz hB)
     | (refine iU rfl rfl rfl (x:=l7) (A:=A2) (c:=c2) rfl rfl HZ.out ?_;rintro wb hN hB;obtain ⟨b0,b1,b2,b3,b4,b5⟩:=hN.cells;have HBb:=ah.mk (uY.out.trans (hB.mono (Nat.le_of_eq qR.out.symm)));have HNb:=ah.mk hN;clear hN hB)
     | fail)
    go_roundg 0
    case measure => have:=HIK.out;omega
    case rel => exact ⟨1,rfl,⟨rfl⟩,⟨HP5.out⟩,HW5,HF5⟩
  · obtain rfl : i = 1:=by have:=HI.out;omega
    have HIK:=ah.mk HI.out;clear hi;go_wp2
    first|go_end0|(refine bodyPost_ret (results_none rfl _ _ _) rfl ?_)
    exact ⟨rfl,HPi.out,Jf.out,HFi.out⟩
def CheckP (w : World) (e : Ending) (w' : World) : Prop:=e = .returned (.int .i64 0) ∧ Below w.heap.size w w'
theorem Size.prog (A : Option Addr) (c : Nat) (w : World) (hn : ND w lM A c) : Calls Tryz.prog 16 #[.agg #[.int .i64 40,.string ⟨#[]⟩,.int .u32 0,.bool false,.slice A 1 c,.int .i64 0]] w (fun e w' => e = .returned (.int .i64 5) ∧ Below w.heap.size w w') :=
 dK.calls 100 40 ⟨#[]⟩ 0 false A c [l7] 0 5 w hn.C hn.le (by kernel_rfl)
theorem Check.prog (A : Option Addr) (c : Nat) (w : World) (hG : dG w) (hn : ND w lM A c) : Calls Tryz.prog 8 #[.agg #[.int .i64 40,.string ⟨#[]⟩,.int .u32 0,.bool false,.slice A 1 c,.int .i64 0]] w (CheckP w):=by
 have HB:=ah.mk (au (Below.refl w.heap.size w) (.cells #[.int .i64 40,.string ⟨#[]⟩,.int .u32 0,.bool false,.slice A 1 c,.int .i64 0] 25 (0,0)));have HG:=ah.mk (hG.below HB.out);have HN:=ah.mk (hn.below HB.out);clear hG hn;go_enter Tryz.func8,Tryz.ntmps8
 go_wp2_with (first
  | (go_at_call 16;((refine (Size.prog A c _ HN.out).mono ?_);rintro e w1 ⟨rfl,hB⟩);have HB1:=ah.mk (bQ HB.out HB.out.size hB);have pW:=ah.mk (HN.out.below hB);have BL:=ah.mk (HG.out.below hB);(have gq : NB w1 w.heap.size lM A c:=NB.below (eP w _) hB);obtain ⟨c0,c1,c2,c3,c4,c5⟩:=gq.cells;have lW:=ah.mk gq;dsimp only [lM,List.length_cons,List.length_nil] at c0 c1 c2 c3 c4 c5;clear gq;clear hB)
  | (go_at_call 20;((refine (may.prog A c _ BL.out pW.out).mono ?_);rintro e w2 ⟨rfl,hB⟩);have HB2:=ah.mk (bQ HB1.out HB1.out.size hB);clear hB)
  | fail)
 go_ret
 exact ⟨rfl,HB2.out⟩
abbrev six (x : bn) (A : Option Addr) (c : Nat) : List Value:=[.int .i64 x.f0,.string x.f1,.int .u32 x.f2,.bool x.f3,.slice A x.f4.length c,.int .i64 x.f5]
theorem Jg (q j : Nat) : (⟨q,0,none⟩ : Addr).add j = ⟨q,j,none⟩:=by
 unfold Addr.add
 split
 · rename_i h;rw [h]
 · simp
theorem C_none (w : World) (A : Option Addr) : Kd.C k25 w A 0 []:=⟨rfl,by decide,fun h => absurd h (by decide)⟩
theorem C_one {w : World} {q c : Nat} {x : bn} {A : Option Addr} (hq : w.heap[q]? = some (.cells (six x A c).toArray 25 (0,0))) (hn : ND w x A c) : Kd.C k25 w (some ⟨q,0,none⟩) 1 [x] :=
 ⟨rfl,by decide,fun _ => ⟨_,rfl,fun j p hj => by
  match j,hj with
  | 0,hj =>
   obtain rfl:=Option.some.inj hj;refine ⟨six x A c,rfl,Gy w x hn.le hn.C,fun i u hu => ?_⟩;rw [Jg,show 0 * k25.sz + i = i from by omega];exact (ak hq i).trans (by simpa using hu)⟩⟩
theorem C_two {w : World} {q c c' : Nat} {x y : bn} {A A' : Option Addr} (hq : w.heap[q]? = some (.cells (six x A c ++ six y A' c').toArray 25 (0,0))) (hn : ND w x A c) (hm : ND w y A' c') : Kd.C k25 w (some ⟨q,0,none⟩) 2 [x,y] :=
 ⟨rfl,by decide,fun _ => ⟨_,rfl,fun j p hj => by
  match j,hj with
  | 0,hj =>
   obtain rfl:=Option.some.inj hj;refine ⟨six x A c,rfl,Gy w x hn.le hn.C,fun i u hu => ?_⟩;rw [Jg,show 0 * k25.sz + i = i from by omega];refine (ak hq i).trans ?_;have hi : i < (six x A c).length:=(List.getElem?_eq_some_iff.1 hu).1;rw [List.getElem?_toArray,List.getElem?_append_left hi,hu]
  | 1,hj =>
   obtain rfl:=Option.some.inj hj;refine ⟨six y A' c',rfl,Gy w y hm.le hm.C,fun i u hu => ?_⟩;rw [Jg,show 1 * k25.sz + i = 6 + i from by rw [show k25.sz = 6 from rfl]];refine (ak hq (6 + i)).trans ?_;rw [List.getElem?_toArray,List.getElem?_append_right (by simp),show 6 + i - (six x A c).length = i from by simp,hu]⟩⟩
abbrev txt : List Int:=[105,110,116,32,120,32,61,32,49,59,10]
section
variable {ops : Array Oper} {rest : List Oper} {o : Oper} {a : Act} {Q : Exit → Act → World → Prop} {W : World}
theorem Ef (hgd : o.guard = none) {N : Tmp} (_hd : o.dst = some N) {p : Operand} (ho : o.op = .box 42 p) (hx : a.eval p = .agg #[.slice none 0 0])
 (K : ∀ g w',W.heap.size ≤ g → w'.heap[g]? = some (.cells #[.slice none 0 0] 42 (0,0)) → Below W.heap.size W w' → wpList Tryz.prog ops Q rest (a.put o.dst (.pointer (some ⟨g,0,none⟩))) w') : wpList Tryz.prog ops Q (o :: rest) a W:=by
 refine dB hgd _hd (cs:=#[.slice none 0 0]) (t:=42) ?_ (fun g hg w1 h1 h2 => K g w1 (by omega) h1 h2);simp only [execOp,ho,hx];go_simp;try rfl
end
theorem Eh {w : World} {b n : Nat} {v : Value} {xs : List Value} (h : w.ownsRow b 5 1 v n xs) : ∃ A c,v = .slice A n c:=by
 rcases h.2 with ⟨rfl,rfl⟩ | ⟨g,cap,cur,rfl,_⟩
 · exact ⟨none,0,rfl⟩
 · exact ⟨_,cap,rfl⟩
theorem PB.new {b g : Nat} {w : World} (hb : b ≤ g) (hw : b ≤ w.heap.size) (h : w.heap[g]? = some (.cells #[.slice none 0 0] 42 (0,0))) : PB b g [] w:=⟨hb,hw,_,h,rfl,.inl ⟨rfl,rfl⟩⟩
theorem PB.row {b p : Nat} {w : World} (h : PB b p txt w) : ∃ A c,w.heap[p]? = some (.cells #[.slice A 11 c] 42 (0,0)) ∧ (convert 40 9 (.slice A 11 c)).run Tryz.prog w = .ok (.string ⟨#[105,110,116,32,120,32,61,32,49,59,10]⟩) w:=by
 obtain ⟨v,h1,h2⟩:=h.ex;have h3:=xR (P:=Tryz.prog) (src:=40) (dst:=9) (e:=5) rfl rfl rfl h2;have e : strOfNums txt = ⟨#[105,110,116,32,120,32,61,32,49,59,10]⟩:=by kernel_rfl
 rw [e] at h3;obtain ⟨A,c,rfl⟩:=Eh h2;exact ⟨A,c,h1,h3⟩
def vI (w : World) (e : Ending) (w' : World) : Prop:=e = .returned (.tuple #[.string ⟨#[105,110,116,32,120,32,61,32,49,59,10]⟩,.int .i64 0]) ∧ Below w.heap.size w w'
theorem Print.prog (A : Option Addr) (c : Nat) (w : World) (hG : dG w) (hn : ND w lM A c) : Calls Tryz.prog 11 #[.agg #[.int .i64 40,.string ⟨#[]⟩,.int .u32 0,.bool false,.slice A 1 c,.int .i64 0]] w (vI w):=by
 have HG0:=ah.mk hG;have qK:=ah.mk hn;have HB:=ah.mk (au (Below.refl w.heap.size w) (.cells #[.int .i64 40,.string ⟨#[]⟩,.int .u32 0,.bool false,.slice A 1 c,.int .i64 0] 25 (0,0)));have HG:=ah.mk (hG.below HB.out);have HN:=ah.mk (hn.below HB.out);clear hG hn;go_enter Tryz.func11,Tryz.ntmps11
 go_wp2_with (first
  | (go_at_call 8;((refine (Check.prog A c _ HG.out HN.out).mono ?_);rintro e w1 ⟨rfl,hB⟩);have HB1:=ah.mk (bQ HB.out HB.out.size hB);have pW:=ah.mk (HN.out.below hB);have BL:=ah.mk (HG.out.below hB);(have gq : NB w1 w.heap.size lM A c:=NB.below (eP w _) hB);obtain ⟨c0,c1,c2,c3,c4,c5⟩:=gq.cells;have lW:=ah.mk gq;dsimp only [lM,List.length_cons,List.length_nil] at c0 c1 c2 c3 c4 c5;clear gq;clear hB)
  | (go_at_call 26;((refine (all_p.prog g [] A c w w2 HB2.out HP2.out HG0.out qK.out (by decide)).mono ?_);rintro e w3 ⟨rfl,hP,hW,hF⟩);obtain ⟨A3,c3,hp3,hcv⟩:=PB.row hP;have cp3:=(ak hp3 0).trans (show #[Value.slice A3 11 c3][0]? = some (.slice A3 11 c3) from rfl);have HW3:=ah.mk hW;clear hP hW hF hp3)
  | (refine Ef rfl rfl rfl rfl ?_;rintro g w2 hg hz hB;have HB2:=ah.mk (bQ HB1.out HB1.out.size hB);have HP2:=ah.mk (PB.new (b:=w.heap.size) (by have:=HB1.out.size;omega) HB2.out.size hz);(have lu : NB w2 w.heap.size lM A c:=NB.below lW.out hB);obtain ⟨c0,c1,c2,c3,c4,c5⟩:=lu.cells;have yg:=ah.mk lu;dsimp only [lM,List.length_cons,List.length_nil] at c0 c1 c2 c3 c4 c5;clear lu;clear hg hz hB)
  | fail)
 go_ret2
 exact ⟨rfl,HW3.out⟩
theorem own.calls (w : World) : Calls Tryz.prog 25 #[] w (fun e w' => ∃ A c,e = .returned (val lM A c) ∧ ND w' lM A c ∧ Below w.heap.size w w'):=by
 go_enter Tryz.func25,Tryz.ntmps25
 go_wp2_with (first
  | (with_reducible refine iK rfl (N:=0) rfl rfl ?_;rintro g0 wa hg hz hB;have HG0:=ah.mk hg;have uY:=ah.mk hB;have HZ0:=ah.mk hz;clear hg hz hB)
  | (with_reducible refine iK rfl (N:=1) rfl rfl ?_;rintro g1 wc hg hz hB;have BL:=ah.mk (show g1 = wa.heap.size + 1 from by rw [hg];simp);have HQ1:=ah.mk (bI (eP wa _) hB);have HZ0c:=ah.mk (bI (aI HZ0.out _) hB);have HBc:=ah.mk (bQ (uY.out.alloc uY.out.size _) (uY.out.alloc uY.out.size _).size hB);have HZ1:=ah.mk hz;clear hg hz hB)
  | (refine wO rfl rfl (n:=1) rfl (x:=nZ) (A:=some ⟨wa.heap.size,0,none⟩) (c:=1) rfl rfl HZ1.out ?_;rintro wd hN hB hk;obtain ⟨b0,b1,b2,b3,b4,b5⟩:=hN.cells;dsimp only [nZ,List.length_cons,List.length_nil] at b0 b1 b2 b3 b4 b5;have HQ1d:=ah.mk ((hk _ (by have:=BL.out;omega)).trans HQ1.out);have HZ0d:=ah.mk ((hk _ (by have:=BL.out;have:=jl HZ0.out;omega)).trans HZ0c.out);have HBd:=ah.mk (HBc.out.trans (hB.mono (by have:=BL.out;have:=uY.out.size;omega)));clear hN hB hk)
  | (refine wO rfl rfl (n:=0) rfl (x:=lM) (A:=some ⟨wd.heap.size + 1,0,none⟩) (c:=1) rfl rfl (aI (aI HZ0d.out _) _) ?_;rintro we hN hB hk;have HN:=ah.mk hN;have HQ1e:=ah.mk ((hk _ (by have:=jl HZ0.out;omega)).trans (aI (aI HQ1d.out _) _));have HQ2e:=ah.mk ((hk _ (by have:=jl HZ0d.out;omega)).trans (aI (eP wd _) _));have HQ3e:=ah.mk ((hk _ (by have:=jl HZ0d.out;omega)).trans (jB wd _ _));have HBe:=ah.mk (((HBd.out.alloc HBd.out.size _).alloc ((HBd.out.alloc HBd.out.size _).size) _).trans (hB.mono (Nat.le_of_eq HG0.out.symm)));clear hN hB hk)
  | fail)
 have n1 : ND we uU none 0:=⟨Nat.le_refl _,C_none _ _⟩
 have n2 : ND we nZ (some ⟨wa.heap.size,0,none⟩) 1:=⟨Nat.le_refl _,C_one (c:=0) (A:=none) HQ1e.out n1⟩
 have n3 : ND we nType none 0:=⟨Nat.le_refl _,C_none _ _⟩
 have n4 : ND we l7 (some ⟨wd.heap.size,0,none⟩) 2:=⟨Nat.le_refl _,C_two (c:=0) (A:=none) (c' := 1) HQ2e.out n3 n2⟩
 have n5 : ND we lM (some ⟨wd.heap.size + 1,0,none⟩) 1:=⟨Nat.le_refl _,C_one (c:=2) HQ3e.out n4⟩
 refine bodyPost_ret (results_cell_row rfl _ _ g0 25 (six lM (some ⟨wd.heap.size + 1,0,none⟩) 1).toArray (0,0) _ rfl HN.out Tryz.underlying25 rfl (by kernel_rfl)) rfl ?_;exact ⟨_,_,rfl,n5,HBe.out⟩
theorem awake.calls (w : World) (hG : dG w) : Calls Tryz.prog 10 #[] w (fun e w' => e = .returned (.bool true) ∧ Below w.heap.size w w'):=by
 have HG:=ah.mk hG;clear hG;go_enter Tryz.func10,Tryz.ntmps10
 go_wp2_with (first
  | (go_at_call 11;((refine (Print.prog A1 c1 _ BL.out pW.out).mono ?_);rintro e w2 ⟨rfl,hB⟩);have HB2:=ah.mk (bQ HB1.out HB1.out.size hB);clear hB)
  | (go_at_call 16;((refine (Size.prog A3 c3 _ HN3.out).mono ?_);rintro e w4 ⟨rfl,hB⟩);have HB4:=ah.mk (bQ HB3.out HB3.out.size hB);clear hB)
  | (go_at_call 25;have hc:=HB2.out;clear hc;((refine (own.calls _).mono ?_);rintro e w3 ⟨A3,c3,rfl,hn,hB⟩);have HB3:=ah.mk (bQ HB2.out HB2.out.size hB);have HN3:=ah.mk hn;clear hB hn)
  | (go_at_call 25;((refine (own.calls _).mono ?_);rintro e w1 ⟨A1,c1,rfl,hn,hB⟩);have HB1:=ah.mk hB;have BL:=ah.mk (HG.out.below hB);have pW:=ah.mk hn;clear hB hn)
  | fail)
 go_ret
 exact ⟨rfl,HB4.out⟩
def bZ.f : Option Bool:=some true
theorem bZ.calls (r : Bool) (w : World) (hG : dG w) (h : bZ.f = some r) : Calls Tryz.prog 10 #[] w fun e w' => e = .returned (.bool r) ∧ Below w.heap.size w w' := by
 obtain rfl:=Option.some.inj h;exact awake.calls w hG
attribute [local go_sem] fM fO gI gJ fD fE fP fQ
def dH.f (k : Nat) (aK : Int) (aW : ByteArray) (aX : Int) (aZ : Bool) (aC : List (bn)) (aY : Int) : Option (Bool):=(dK.f k aK aW aX aZ aC aY).bind fun zW => ((cZ.f k aK aW aX aZ aC aY).bind fun t127 => (if zW = t127 then ((dX.f k aK aW aX aZ aC aY).bind fun qL => ((fF.f k aK aW aX aZ aC aY).bind fun qM => (if qL = qM then ((bZ.f).bind fun t130 => (some t130)) else (some false)))) else (some false)))
theorem dH.mono : ∀ a0 a1 a2 a3 a4 a5 k,dM (dH.f k a0 a1 a2 a3 a4 a5) (dH.f (k + 1) a0 a1 a2 a3 a4 a5):=by
 intro a0 a1 a2 a3 a4 a5 k;unfold dH.f
 repeat' first
  | (with_reducible exact dX.mono _ _ _ _ _ _ _)
  | (with_reducible exact dK.mono _ _ _ _ _ _ _)
  | (with_reducible exact fF.mono _ _ _ _ _ _ _)
  | (with_reducible exact cZ.mono _ _ _ _ _ _ _)
  | (with_reducible exact dM.refl _)
  | (with_reducible exact dM.none _)
  | (with_reducible refine dM.ite ?_ ?_)
  | (with_reducible refine dM.bind ?_ (fun _ => ?_))
  | exact dX.mono _ _ _ _ _ _ _
  | exact dK.mono _ _ _ _ _ _ _
  | exact fF.mono _ _ _ _ _ _ _
  | exact cZ.mono _ _ _ _ _ _ _
  | exact dM.none _
  | refine dM.ite ?_ ?_
  | refine dM.bind ?_ (fun _ => ?_)
def dH.T1 : Bool × List (List Nat × List Nat):=(true,[([],[]),([0],[0]),([],[]),([2,1],[2]),([1,3],[1,3]),([4,3],[4]),([5],[5]),([6,5,5],[5,6]),([5],[5]),([8,7,5],[5,8]),([7,9,5],[5,7,9]),([5,10],[5,10]),([11,9],[11]),([12,12],[12]),([12,13],[12,13]),([14,13,0,1,2,3,4,5,6,7,8,9,10,11,12,13,14],[14])])
def dH.B1 : List Nat:=[0,1,0,7,15,31,63,127,63,511,1023,2047,4095,8191,16383,32767]
theorem dH.tab1 : kG .any (opsOf Tryz.f6 1) = dH.T1:=by kernel_rfl
theorem dH.bits1 : tY dH.T1.2 dH.B1 = true:=by kernel_rfl
theorem dH.calls (k : Nat) (aK : Int) (aW : ByteArray) (aX : Int) (aZ : Bool) (bU : Option Addr) (bJ : Nat) (aC : List (bn)) (aY : Int) (r : Bool) (w : World) (gU : Kd.C k25 w bU aC.length aC) (gV : aC.length ≤ bJ) (hG : dG w) (h : dH.f k aK aW aX aZ aC aY = some r) :
 Calls Tryz.prog 6 #[.agg #[.int .i64 aK,.string aW,.int .u32 aX,.bool aZ,.slice bU aC.length bJ,.int .i64 aY]] w fun e w' => e = .returned (.bool r) ∧ Below w.heap.size w w' := by
 have vZ:=Tryz.underlying25;have fZ:=ah.mk gU;have iP:=ah.mk gV;clear gU gV;have HG:=ah.mk hG;clear hG;have HB:=ah.mk (Below.refl w.heap.size w);have H : ((dK.f k aK aW aX aZ aC aY).bind fun zW => ((cZ.f k aK aW aX aZ aC aY).bind fun t127 => (if zW = t127 then ((dX.f k aK aW aX aZ aC aY).bind fun qL => ((fF.f k aK aW aX aZ aC aY).bind fun qM => (if qL = qM then ((bZ.f).bind fun t130 => (some t130)) else (some false)))) else (some false)))) = some r:=h;clear h;replace H:=Option.bind_eq_some_iff.mp H;obtain ⟨zW,xY,H⟩:=H;replace H : ((cZ.f k aK aW aX aZ aC aY).bind fun t127 => (if zW = t127 then ((dX.f k aK aW aX aZ aC aY).bind fun qL => ((fF.f k aK aW aX aZ aC aY).bind fun qM => (if qL = qM then ((bZ.f).bind fun t130 => (some t130)) else (some false)))) else (some false))) = some r:=H;have A2:=ah.mk xY;clear xY;replace H:=Option.bind_eq_some_iff.mp H;obtain ⟨t127,A30,H⟩:=H;replace H : (if zW = t127 then ((dX.f k aK aW aX aZ aC aY).bind fun qL => ((fF.f k aK aW aX aZ aC aY).bind fun qM => (if qL = qM then ((bZ.f).bind fun t130 => (some t130)) else (some false)))) else (some false)) = some r:=H;have A3:=ah.mk A30;clear A30;by_cases c4 : zW = t127
 · rw [if_pos c4] at H;have tC : (zW == t127) = true:=beq_iff_eq.mpr c4;have QZ : (zW != t127) = false:=bne_eq_false_iff_eq.mpr c4;clear c4;replace H:=Option.bind_eq_some_iff.mp H;obtain ⟨qL,O7,H⟩:=H;replace H : ((fF.f k aK aW aX aZ aC aY).bind fun qM => (if qL = qM then ((bZ.f).bind fun t130 => (some t130)) else (some false))) = some r:=H;have A5:=ah.mk O7;clear O7;replace H:=Option.bind_eq_some_iff.mp H;obtain ⟨qM,A60,H⟩:=H;replace H : (if qL = qM then ((bZ.f).bind fun t130 => (some t130)) else (some false)) = some r:=H;have A6:=ah.mk A60;clear A60;by_cases c7 : qL = qM
   · rw [if_pos c7] at H;have xJ : (qL == qM) = true:=beq_iff_eq.mpr c7;have JU : (qL != qM) = false:=bne_eq_false_iff_eq.mpr c7;clear c7;replace H:=Option.bind_eq_some_iff.mp H;obtain ⟨t130,A80,H⟩:=H;replace H : (some t130) = some r:=H;have A8:=ah.mk A80;clear A80;obtain rfl:=Option.some.inj H;go_enter Tryz.func6,Tryz.ntmps6
     try go_wp2_with (first|((with_reducible refine dL (N:=1) rfl ?_);refine dB ?hg (N:=1) ?hd (cs:=#[.int .i64 aK,.string aW,.int .u32 aX,.bool aZ,.slice bU aC.length bJ,.int .i64 aY]) (t:=25) ?hr ?_;(case hd => rfl);(case hg => rfl);(case hr => first|(go_simp;done)|(go_simp;rfl));intro kC hg w9 hbox hb;have jP:=ah.mk (aN (by repeat (first|(with_reducible first|exact HB.out|apply au|apply aj|apply aA)|exact HB.out)) hb);have jQ:=ah.mk (hbox);have ou:=ah.mk ((by rw [hg];exact (aV (by repeat (first|(with_reducible first|exact HB.out|apply au|apply aj|apply aA)|exact HB.out))) : w.heap.size ≤ kC));have oU:=ah.mk ((by rw [hg];exact (aV (by repeat (first|(with_reducible first|exact HB.out|apply au|apply aj|apply aA)|exact HB.out))) : w.heap.size ≤ kC));clear HB;have HB:=jP;have dJ:=jQ;have GW125:=ou;have qN:=oU;clear jP jQ ou oU;clear hb hbox hg))
     have jP:=ah.mk (aQ dJ.out);have jQ:=ah.mk (aA HB.out);clear dJ;clear HB;have dJ:=jP;have HB:=jQ;clear jP jQ;refine jV (n:=16) (S:=fun w' => w'.cell? ⟨kC,0,none⟩ = some (.int .i64 aK) ∧ w'.cell? ⟨kC,1,none⟩ = some (.string aW) ∧ w'.cell? ⟨kC,2,none⟩ = some (.int .u32 aX) ∧ w'.cell? ⟨kC,3,none⟩ = some (.bool aZ) ∧ w'.cell? ⟨kC,4,none⟩ = some (.slice bU aC.length bJ) ∧ w'.cell? ⟨kC,5,none⟩ = some (.int .i64 aY)) (ds:=[]) #[false,false,false,false,false,false,false,false,false,false,false,false,false,false,false,false] (by kernel_rfl) rfl rfl ⟨(ak dJ.out 0).trans rfl,(ak dJ.out 1).trans rfl,(ak dJ.out 2).trans rfl,(ak dJ.out 3).trans rfl,(ak dJ.out 4).trans rfl,(ak dJ.out 5).trans rfl⟩ (fun hHeld => ?_);refine oQ dH.tab1 dH.bits1 (fun bM wz => ?_);generalize w9.drew = w10 at dJ HB hHeld ⊢;refine kM (i:=0) (N:=some 3) (v:=?_) (a' := ?_) #[true,false,false,false,false,false,false,false,false,false,false,false,false,false,false,false] rfl rfl (gX bM.out wz.out (by kernel_rfl)) (fun _ _ _ h => h) (Or.inl ⟨by rfl,?_⟩) hHeld ?_ ?_;rotate_left
     · rintro w' ⟨s0,s1,s2,s3,s4,s5⟩;go_simp
       with_reducible rfl
     rotate_left
     · simp only [Act.put,List.setIfInBounds_toArray,List.set_cons_zero,List.set_cons_succ,bW,dA];rfl
     refine kM (i:=2) (N:=some 5) (v:=?_) (a' := ?_) #[true,false,true,false,false,false,false,false,false,false,false,false,false,false,false,false] rfl rfl (gX bM.out wz.out (by kernel_rfl)) (fun _ _ _ h => h) (Or.inl ⟨by rfl,?_⟩) hHeld ?_ ?_;rotate_left
     · rintro w' ⟨s0,s1,s2,s3,s4,s5⟩;go_simp
       with_reducible rfl
     rotate_left
     · simp only [Act.put,List.setIfInBounds_toArray,List.set_cons_zero,List.set_cons_succ,bW,dA];rfl
     refine qE (i:=1) (N:=some 4) #[true,true,true,false,false,false,false,false,false,false,false,false,false,false,false,false] rfl rfl (kH bM.out (by kernel_rfl)) (by decide) (fun K hK => ?_);refine ku Tryz.func16 (by kernel_rfl) rfl #[.agg #[.int .i64 aK,.string aW,.int .u32 aX,.bool aZ,.slice bU aC.length bJ,.int .i64 aY]] (by rfl) rfl rfl (by (try simp only [List.map_toArray,List.map_cons,List.map_nil]);first|done|rfl|(simp only [List.length_drop,List.length_take];rfl)) ?_
     with_reducible refine (dK.calls k aK aW aX aZ _ _ aC aY zW _ ?dF ?dW A2.out).mono ?_
     (case dF => repeat (first|exact (Kd.dP fZ.out HB.out)|(with_reducible refine Kd.eU ?_ _)|(with_reducible refine Kd.eX ?_ _)|(with_reducible refine Kd.fV ?_)));(case dW => exact iP.out);rintro e LD ⟨rfl,hb⟩;refine ⟨_,rfl,?_⟩;have jP:=ah.mk (bI (g:=kC) (o:=.cells #[.int .i64 aK,.string aW,.int .u32 aX,.bool aZ,.slice bU aC.length bJ,.int .i64 aY] 25 (0,0)) (by (with_reducible repeat (first|refine aJ ?_ _|refine aQ ?_|refine aI ?_ _));exact dJ.out) hb);have jQ:=ah.mk (aN (by repeat (first|(with_reducible first|exact HB.out|apply au|apply aj|apply aA|refine aH ?_ qN.out)|exact HB.out)) hb);clear dJ;clear HB;have dJ:=jP;have HB:=jQ;clear jP jQ;(try clear hb);(try clear hb2);(try clear hk);(try clear hi);refine hK.out _ _ ⟨(ak dJ.out 0).trans rfl,(ak dJ.out 1).trans rfl,(ak dJ.out 2).trans rfl,(ak dJ.out 3).trans rfl,(ak dJ.out 4).trans rfl,(ak dJ.out 5).trans rfl⟩ (fun hHeld => ?_);clear hK K;refine mO (a' := ?_) ?_ ?_;rotate_left
     · show Act.put _ (some 4) _ = _
       simp only [Act.put,List.setIfInBounds_toArray,List.set_cons_zero,List.set_cons_succ,bW,dA];rfl
     refine qE (i:=3) (N:=some 6) #[true,true,true,true,false,false,false,false,false,false,false,false,false,false,false,false] rfl rfl (kH bM.out (by kernel_rfl)) (by decide) (fun K hK => ?_);refine ku Tryz.func13 (by kernel_rfl) rfl #[.agg #[.int .i64 aK,.string aW,.int .u32 aX,.bool aZ,.slice bU aC.length bJ,.int .i64 aY]] (by rfl) rfl rfl (by (try simp only [List.map_toArray,List.map_cons,List.map_nil]);first|done|rfl|(simp only [List.length_drop,List.length_take];rfl)) ?_
     with_reducible refine (cZ.calls k aK aW aX aZ _ _ aC aY t127 _ ?dF ?dW A3.out).mono ?_
     (case dF => repeat (first|exact (Kd.dP fZ.out HB.out)|(with_reducible refine Kd.eU ?_ _)|(with_reducible refine Kd.eX ?_ _)|(with_reducible refine Kd.fV ?_)));(case dW => exact iP.out);rintro e w12 ⟨rfl,hb⟩;refine ⟨_,rfl,?_⟩;have jP:=ah.mk (bI (g:=kC) (o:=.cells #[.int .i64 aK,.string aW,.int .u32 aX,.bool aZ,.slice bU aC.length bJ,.int .i64 aY] 25 (0,0)) (by (with_reducible repeat (first|refine aJ ?_ _|refine aQ ?_|refine aI ?_ _));exact dJ.out) hb);have jQ:=ah.mk (aN (by repeat (first|(with_reducible first|exact HB.out|apply au|apply aj|apply aA|refine aH ?_ qN.out)|exact HB.out)) hb);clear dJ;clear HB;have dJ:=jP;have HB:=jQ;clear jP jQ;(try clear hb);(try clear hb2);(try clear hk);(try clear hi);refine hK.out _ _ ⟨(ak dJ.out 0).trans rfl,(ak dJ.out 1).trans rfl,(ak dJ.out 2).trans rfl,(ak dJ.out 3).trans rfl,(ak dJ.out 4).trans rfl,(ak dJ.out 5).trans rfl⟩ (fun hHeld => ?_);clear hK K;refine mO (a' := ?_) ?_ ?_;rotate_left
     · show Act.put _ (some 6) _ = _
       simp only [Act.put,List.setIfInBounds_toArray,List.set_cons_zero,List.set_cons_succ,bW,dA];rfl
     refine fK (i:=4) (N:=some 7) (v:=?_) (a' := ?_) #[true,true,true,true,true,false,false,false,false,false,false,false,false,false,false,false] rfl rfl (dY bM.out (by kernel_rfl)) (fun _ _ _ h => h) (Or.inl ⟨by rfl,?_⟩) ?_ ?_;rotate_left
     · intro w';go_simp
       with_reducible rfl
     rotate_left
     · simp only [Act.put,List.setIfInBounds_toArray,List.set_cons_zero,List.set_cons_succ,bW,dA];rfl
     refine fK (i:=5) (N:=some 8) (v:=?_) (a' := ?_) #[true,true,true,true,true,true,false,false,false,false,false,false,false,false,false,false] rfl rfl (dY bM.out (by kernel_rfl)) (fun _ _ _ h => h) (Or.inl ⟨by rfl,?_⟩) ?_ ?_;rotate_left
     · intro w';go_simp
       with_reducible rfl
     rotate_left
     · simp only [Act.put,List.setIfInBounds_toArray,List.set_cons_zero,List.set_cons_succ,bW,dA];rfl
     refine kM (i:=6) (N:=some 9) (v:=?_) (a' := ?_) #[true,true,true,true,true,true,true,false,false,false,false,false,false,false,false,false] rfl rfl (gX bM.out wz.out (by kernel_rfl)) (fun _ _ _ h => h) (Or.inl ⟨by rfl,?_⟩) hHeld ?_ ?_;rotate_left
     · rintro w' ⟨s0,s1,s2,s3,s4,s5⟩;go_simp
       with_reducible rfl
     rotate_left
     · simp only [Act.put,List.setIfInBounds_toArray,List.set_cons_zero,List.set_cons_succ,bW,dA];rfl
     refine kM (i:=8) (N:=some 11) (v:=?_) (a' := ?_) #[true,true,true,true,true,true,true,false,true,false,false,false,false,false,false,false] rfl rfl (gX bM.out wz.out (by kernel_rfl)) (fun _ _ _ h => h) (Or.inl ⟨by rfl,?_⟩) hHeld ?_ ?_;rotate_left
     · rintro w' ⟨s0,s1,s2,s3,s4,s5⟩;go_simp
       with_reducible rfl
     rotate_left
     · simp only [Act.put,List.setIfInBounds_toArray,List.set_cons_zero,List.set_cons_succ,bW,dA];rfl
     refine qE (i:=7) (N:=some 10) #[true,true,true,true,true,true,true,true,true,false,false,false,false,false,false,false] rfl rfl (kH bM.out (by kernel_rfl)) (by decide) (fun K hK => ?_);refine ku Tryz.func17 (by kernel_rfl) rfl #[.agg #[.int .i64 aK,.string aW,.int .u32 aX,.bool aZ,.slice bU aC.length bJ,.int .i64 aY]] (by rfl) rfl rfl (by (try simp only [List.map_toArray,List.map_cons,List.map_nil]);first|done|rfl|(simp only [List.length_drop,List.length_take];rfl)) ?_
     with_reducible refine (dX.calls k aK aW aX aZ _ _ aC aY qL _ ?dF ?dW A5.out).mono ?_
     (case dF => repeat (first|exact (Kd.dP fZ.out HB.out)|(with_reducible refine Kd.eU ?_ _)|(with_reducible refine Kd.eX ?_ _)|(with_reducible refine Kd.fV ?_)));(case dW => exact iP.out);rintro e w13 ⟨rfl,hb⟩;refine ⟨_,rfl,?_⟩;have jP:=ah.mk (bI (g:=kC) (o:=.cells #[.int .i64 aK,.string aW,.int .u32 aX,.bool aZ,.slice bU aC.length bJ,.int .i64 aY] 25 (0,0)) (by (with_reducible repeat (first|refine aJ ?_ _|refine aQ ?_|refine aI ?_ _));exact dJ.out) hb);have jQ:=ah.mk (aN (by repeat (first|(with_reducible first|exact HB.out|apply au|apply aj|apply aA|refine aH ?_ qN.out)|exact HB.out)) hb);clear dJ;clear HB;have dJ:=jP;have HB:=jQ;clear jP jQ;(try clear hb);(try clear hb2);(try clear hk);(try clear hi);refine hK.out _ _ ⟨(ak dJ.out 0).trans rfl,(ak dJ.out 1).trans rfl,(ak dJ.out 2).trans rfl,(ak dJ.out 3).trans rfl,(ak dJ.out 4).trans rfl,(ak dJ.out 5).trans rfl⟩ (fun hHeld => ?_);clear hK K;refine mO (a' := ?_) ?_ ?_;rotate_left
     · show Act.put _ (some 10) _ = _
       simp only [Act.put,List.setIfInBounds_toArray,List.set_cons_zero,List.set_cons_succ,bW,dA];rfl
     refine qE (i:=9) (N:=some 12) #[true,true,true,true,true,true,true,true,true,true,false,false,false,false,false,false] rfl rfl (kH bM.out (by kernel_rfl)) (by decide) (fun K hK => ?_);refine ku Tryz.func18 (by kernel_rfl) rfl #[.agg #[.int .i64 aK,.string aW,.int .u32 aX,.bool aZ,.slice bU aC.length bJ,.int .i64 aY]] (by rfl) rfl rfl (by (try simp only [List.map_toArray,List.map_cons,List.map_nil]);first|done|rfl|(simp only [List.length_drop,List.length_take];rfl)) ?_
     with_reducible refine (fF.calls k aK aW aX aZ _ _ aC aY qM _ ?dF ?dW A6.out).mono ?_
     (case dF => repeat (first|exact (Kd.dP fZ.out HB.out)|(with_reducible refine Kd.eU ?_ _)|(with_reducible refine Kd.eX ?_ _)|(with_reducible refine Kd.fV ?_)));(case dW => exact iP.out);rintro e Lu ⟨rfl,hb⟩;refine ⟨_,rfl,?_⟩;have jP:=ah.mk (bI (g:=kC) (o:=.cells #[.int .i64 aK,.string aW,.int .u32 aX,.bool aZ,.slice bU aC.length bJ,.int .i64 aY] 25 (0,0)) (by (with_reducible repeat (first|refine aJ ?_ _|refine aQ ?_|refine aI ?_ _));exact dJ.out) hb);have jQ:=ah.mk (aN (by repeat (first|(with_reducible first|exact HB.out|apply au|apply aj|apply aA|refine aH ?_ qN.out)|exact HB.out)) hb);clear dJ;clear HB;have dJ:=jP;have HB:=jQ;clear jP jQ;(try clear hb);(try clear hb2);(try clear hk);(try clear hi);refine hK.out _ _ ⟨(ak dJ.out 0).trans rfl,(ak dJ.out 1).trans rfl,(ak dJ.out 2).trans rfl,(ak dJ.out 3).trans rfl,(ak dJ.out 4).trans rfl,(ak dJ.out 5).trans rfl⟩ (fun hHeld => ?_);clear hK K;refine mO (a' := ?_) ?_ ?_;rotate_left
     · show Act.put _ (some 12) _ = _
       simp only [Act.put,List.setIfInBounds_toArray,List.set_cons_zero,List.set_cons_succ,bW,dA];rfl
     refine fK (i:=10) (N:=some 13) (v:=?_) (a' := ?_) #[true,true,true,true,true,true,true,true,true,true,true,false,false,false,false,false] rfl rfl (dY bM.out (by kernel_rfl)) (fun _ _ _ h => h) (Or.inl ⟨by rfl,?_⟩) ?_ ?_;rotate_left
     · intro w';go_simp
       with_reducible rfl
     rotate_left
     · simp only [Act.put,List.setIfInBounds_toArray,List.set_cons_zero,List.set_cons_succ,bW,dA];rfl
     refine fK (i:=11) (N:=some 14) (v:=?_) (a' := ?_) #[true,true,true,true,true,true,true,true,true,true,true,true,false,false,false,false] rfl rfl (dY bM.out (by kernel_rfl)) (fun _ _ _ h => h) (Or.inl ⟨by rfl,?_⟩) ?_ ?_;rotate_left
     · intro w';go_simp
       with_reducible rfl
     rotate_left
     · simp only [Act.put,List.setIfInBounds_toArray,List.set_cons_zero,List.set_cons_succ,bW,dA];rfl
     refine fK (i:=12) (N:=some 15) (v:=?_) (a' := ?_) #[true,true,true,true,true,true,true,true,true,true,true,true,true,false,false,false] rfl rfl (dY bM.out (by kernel_rfl)) (fun _ _ _ h => h) (Or.inl ⟨by rfl,?_⟩) ?_ ?_;rotate_left
     · intro w';go_simp
       with_reducible rfl
     rotate_left
     · simp only [Act.put,List.setIfInBounds_toArray,List.set_cons_zero,List.set_cons_succ,bW,dA];rfl
     refine qE (i:=13) (N:=some 16) #[true,true,true,true,true,true,true,true,true,true,true,true,true,true,false,false] rfl rfl (kH bM.out (by kernel_rfl)) (by decide) (fun K hK => ?_);refine ku Tryz.func10 (by kernel_rfl) rfl #[] (by rfl) rfl rfl (by (try simp only [List.map_toArray,List.map_cons,List.map_nil]);first|done|rfl|(simp only [List.length_drop,List.length_take];rfl)) ?_
     with_reducible refine (bZ.calls  t130 _ ?dF A8.out).mono ?_
     (case dF => refine dG.below HG.out ?_;repeat (first|(with_reducible first|exact HB.out|apply au|apply aj|apply aA|refine aH ?_ qN.out)|exact HB.out));rintro e w15 ⟨rfl,hb⟩;refine ⟨_,rfl,?_⟩;have jP:=ah.mk (bI (g:=kC) (o:=.cells #[.int .i64 aK,.string aW,.int .u32 aX,.bool aZ,.slice bU aC.length bJ,.int .i64 aY] 25 (0,0)) (by (with_reducible repeat (first|refine aJ ?_ _|refine aQ ?_|refine aI ?_ _));exact dJ.out) hb);have jQ:=ah.mk (aN (by repeat (first|(with_reducible first|exact HB.out|apply au|apply aj|apply aA|refine aH ?_ qN.out)|exact HB.out)) hb);clear dJ;clear HB;have dJ:=jP;have HB:=jQ;clear jP jQ;(try clear hb);(try clear hb2);(try clear hk);(try clear hi);refine hK.out _ _ ⟨(ak dJ.out 0).trans rfl,(ak dJ.out 1).trans rfl,(ak dJ.out 2).trans rfl,(ak dJ.out 3).trans rfl,(ak dJ.out 4).trans rfl,(ak dJ.out 5).trans rfl⟩ (fun hHeld => ?_);clear hK K;refine mO (a' := ?_) ?_ ?_;rotate_left
     · show Act.put _ (some 16) _ = _
       simp only [Act.put,List.setIfInBounds_toArray,List.set_cons_zero,List.set_cons_succ,bW,dA];rfl
     refine fK (i:=14) (N:=some 17) (v:=?_) (a' := ?_) #[true,true,true,true,true,true,true,true,true,true,true,true,true,true,true,false] rfl rfl (dY bM.out (by kernel_rfl)) (fun _ _ _ h => h) (Or.inl ⟨by rfl,?_⟩) ?_ ?_;rotate_left
     · intro w';go_simp
       with_reducible rfl
     rotate_left
     · simp only [Act.put,List.setIfInBounds_toArray,List.set_cons_zero,List.set_cons_succ,bW,dA];rfl
     refine fK (i:=15) (N:=some 2) (v:=?_) (a' := ?_) #[true,true,true,true,true,true,true,true,true,true,true,true,true,true,true,true] rfl rfl (dY bM.out (by kernel_rfl)) (fun _ _ _ h => h) (Or.inl ⟨by rfl,?_⟩) ?_ ?_;rotate_left
     · intro w';go_simp
       with_reducible rfl
     rotate_left
     · simp only [Act.put,List.setIfInBounds_toArray,List.set_cons_zero,List.set_cons_succ,bW,dA];rfl
     refine yG (qX bM.out (by kernel_rfl)) ?_;try go_wp2
     go_ret
     exact ⟨by first|rfl|(simp [aT,aU] <;> rfl)|(simp [*,aT,aU] <;> rfl),by repeat (first|(with_reducible first|exact HB.out|apply au|apply aj|apply aA|refine aH ?_ qN.out)|exact HB.out)⟩
   · rw [if_neg c7] at H;have xJ : (qL == qM) = false:=beq_eq_false_iff_ne.mpr c7;have JU : (qL != qM) = true:=bne_iff_ne.mpr c7;obtain rfl:=Option.some.inj H;go_enter Tryz.func6,Tryz.ntmps6
     try go_wp2_with (first|((with_reducible refine dL (N:=1) rfl ?_);refine dB ?hg (N:=1) ?hd (cs:=#[.int .i64 aK,.string aW,.int .u32 aX,.bool aZ,.slice bU aC.length bJ,.int .i64 aY]) (t:=25) ?hr ?_;(case hd => rfl);(case hg => rfl);(case hr => first|(go_simp;done)|(go_simp;rfl));intro kC hg w16 hbox hb;have jP:=ah.mk (aN (by repeat (first|(with_reducible first|exact HB.out|apply au|apply aj|apply aA)|exact HB.out)) hb);have jQ:=ah.mk (hbox);have ou:=ah.mk ((by rw [hg];exact (aV (by repeat (first|(with_reducible first|exact HB.out|apply au|apply aj|apply aA)|exact HB.out))) : w.heap.size ≤ kC));have oU:=ah.mk ((by rw [hg];exact (aV (by repeat (first|(with_reducible first|exact HB.out|apply au|apply aj|apply aA)|exact HB.out))) : w.heap.size ≤ kC));clear HB;have HB:=jP;have dJ:=jQ;have GW125:=ou;have qN:=oU;clear jP jQ ou oU;clear hb hbox hg))
     have jP:=ah.mk (aQ dJ.out);have jQ:=ah.mk (aA HB.out);clear dJ;clear HB;have dJ:=jP;have HB:=jQ;clear jP jQ;refine jV (n:=16) (S:=fun w' => w'.cell? ⟨kC,0,none⟩ = some (.int .i64 aK) ∧ w'.cell? ⟨kC,1,none⟩ = some (.string aW) ∧ w'.cell? ⟨kC,2,none⟩ = some (.int .u32 aX) ∧ w'.cell? ⟨kC,3,none⟩ = some (.bool aZ) ∧ w'.cell? ⟨kC,4,none⟩ = some (.slice bU aC.length bJ) ∧ w'.cell? ⟨kC,5,none⟩ = some (.int .i64 aY)) (ds:=[]) #[false,false,false,false,false,false,false,false,false,false,false,false,false,false,false,false] (by kernel_rfl) rfl rfl ⟨(ak dJ.out 0).trans rfl,(ak dJ.out 1).trans rfl,(ak dJ.out 2).trans rfl,(ak dJ.out 3).trans rfl,(ak dJ.out 4).trans rfl,(ak dJ.out 5).trans rfl⟩ (fun hHeld => ?_);refine oQ dH.tab1 dH.bits1 (fun bM wz => ?_);generalize w16.drew = w17 at dJ HB hHeld ⊢;refine kM (i:=0) (N:=some 3) (v:=?_) (a' := ?_) #[true,false,false,false,false,false,false,false,false,false,false,false,false,false,false,false] rfl rfl (gX bM.out wz.out (by kernel_rfl)) (fun _ _ _ h => h) (Or.inl ⟨by rfl,?_⟩) hHeld ?_ ?_;rotate_left
     · rintro w' ⟨s0,s1,s2,s3,s4,s5⟩;go_simp
       with_reducible rfl
     rotate_left
     · simp only [Act.put,List.setIfInBounds_toArray,List.set_cons_zero,List.set_cons_succ,bW,dA];rfl
     refine kM (i:=2) (N:=some 5) (v:=?_) (a' := ?_) #[true,false,true,false,false,false,false,false,false,false,false,false,false,false,false,false] rfl rfl (gX bM.out wz.out (by kernel_rfl)) (fun _ _ _ h => h) (Or.inl ⟨by rfl,?_⟩) hHeld ?_ ?_;rotate_left
     · rintro w' ⟨s0,s1,s2,s3,s4,s5⟩;go_simp
       with_reducible rfl
     rotate_left
     · simp only [Act.put,List.setIfInBounds_toArray,List.set_cons_zero,List.set_cons_succ,bW,dA];rfl
     refine qE (i:=1) (N:=some 4) #[true,true,true,false,false,false,false,false,false,false,false,false,false,false,false,false] rfl rfl (kH bM.out (by kernel_rfl)) (by decide) (fun K hK => ?_);refine ku Tryz.func16 (by kernel_rfl) rfl #[.agg #[.int .i64 aK,.string aW,.int .u32 aX,.bool aZ,.slice bU aC.length bJ,.int .i64 aY]] (by rfl) rfl rfl (by (try simp only [List.map_toArray,List.map_cons,List.map_nil]);first|done|rfl|(simp only [List.length_drop,List.length_take];rfl)) ?_
     with_reducible refine (dK.calls k aK aW aX aZ _ _ aC aY zW _ ?dF ?dW A2.out).mono ?_
     (case dF => repeat (first|exact (Kd.dP fZ.out HB.out)|(with_reducible refine Kd.eU ?_ _)|(with_reducible refine Kd.eX ?_ _)|(with_reducible refine Kd.fV ?_)));(case dW => exact iP.out);rintro e w18 ⟨rfl,hb⟩;refine ⟨_,rfl,?_⟩;have jP:=ah.mk (bI (g:=kC) (o:=.cells #[.int .i64 aK,.string aW,.int .u32 aX,.bool aZ,.slice bU aC.length bJ,.int .i64 aY] 25 (0,0)) (by (with_reducible repeat (first|refine aJ ?_ _|refine aQ ?_|refine aI ?_ _));exact dJ.out) hb);have jQ:=ah.mk (aN (by repeat (first|(with_reducible first|exact HB.out|apply au|apply aj|apply aA|refine aH ?_ qN.out)|exact HB.out)) hb);clear dJ;clear HB;have dJ:=jP;have HB:=jQ;clear jP jQ;(try clear hb);(try clear hb2);(try clear hk);(try clear hi);refine hK.out _ _ ⟨(ak dJ.out 0).trans rfl,(ak dJ.out 1).trans rfl,(ak dJ.out 2).trans rfl,(ak dJ.out 3).trans rfl,(ak dJ.out 4).trans rfl,(ak dJ.out 5).trans rfl⟩ (fun hHeld => ?_);clear hK K;refine mO (a' := ?_) ?_ ?_;rotate_left
     · show Act.put _ (some 4) _ = _
       simp only [Act.put,List.setIfInBounds_toArray,List.set_cons_zero,List.set_cons_succ,bW,dA];rfl
     refine qE (i:=3) (N:=some 6) #[true,true,true,true,false,false,false,false,false,false,false,false,false,false,false,false] rfl rfl (kH bM.out (by kernel_rfl)) (by decide) (fun K hK => ?_);refine ku Tryz.func13 (by kernel_rfl) rfl #[.agg #[.int .i64 aK,.string aW,.int .u32 aX,.bool aZ,.slice bU aC.length bJ,.int .i64 aY]] (by rfl) rfl rfl (by (try simp only [List.map_toArray,List.map_cons,List.map_nil]);first|done|rfl|(simp only [List.length_drop,List.length_take];rfl)) ?_
     with_reducible refine (cZ.calls k aK aW aX aZ _ _ aC aY t127 _ ?dF ?dW A3.out).mono ?_
     (case dF => repeat (first|exact (Kd.dP fZ.out HB.out)|(with_reducible refine Kd.eU ?_ _)|(with_reducible refine Kd.eX ?_ _)|(with_reducible refine Kd.fV ?_)));(case dW => exact iP.out);rintro e w19 ⟨rfl,hb⟩;refine ⟨_,rfl,?_⟩;have jP:=ah.mk (bI (g:=kC) (o:=.cells #[.int .i64 aK,.string aW,.int .u32 aX,.bool aZ,.slice bU aC.length bJ,.int .i64 aY] 25 (0,0)) (by (with_reducible repeat (first|refine aJ ?_ _|refine aQ ?_|refine aI ?_ _));exact dJ.out) hb);have jQ:=ah.mk (aN (by repeat (first|(with_reducible first|exact HB.out|apply au|apply aj|apply aA|refine aH ?_ qN.out)|exact HB.out)) hb);clear dJ;clear HB;have dJ:=jP;have HB:=jQ;clear jP jQ;(try clear hb);(try clear hb2);(try clear hk);(try clear hi);refine hK.out _ _ ⟨(ak dJ.out 0).trans rfl,(ak dJ.out 1).trans rfl,(ak dJ.out 2).trans rfl,(ak dJ.out 3).trans rfl,(ak dJ.out 4).trans rfl,(ak dJ.out 5).trans rfl⟩ (fun hHeld => ?_);clear hK K;refine mO (a' := ?_) ?_ ?_;rotate_left
     · show Act.put _ (some 6) _ = _
       simp only [Act.put,List.setIfInBounds_toArray,List.set_cons_zero,List.set_cons_succ,bW,dA];rfl
     refine fK (i:=4) (N:=some 7) (v:=?_) (a' := ?_) #[true,true,true,true,true,false,false,false,false,false,false,false,false,false,false,false] rfl rfl (dY bM.out (by kernel_rfl)) (fun _ _ _ h => h) (Or.inl ⟨by rfl,?_⟩) ?_ ?_;rotate_left
     · intro w';go_simp
       with_reducible rfl
     rotate_left
     · simp only [Act.put,List.setIfInBounds_toArray,List.set_cons_zero,List.set_cons_succ,bW,dA];rfl
     refine fK (i:=5) (N:=some 8) (v:=?_) (a' := ?_) #[true,true,true,true,true,true,false,false,false,false,false,false,false,false,false,false] rfl rfl (dY bM.out (by kernel_rfl)) (fun _ _ _ h => h) (Or.inl ⟨by rfl,?_⟩) ?_ ?_;rotate_left
     · intro w';go_simp
       with_reducible rfl
     rotate_left
     · simp only [Act.put,List.setIfInBounds_toArray,List.set_cons_zero,List.set_cons_succ,bW,dA];rfl
     refine kM (i:=6) (N:=some 9) (v:=?_) (a' := ?_) #[true,true,true,true,true,true,true,false,false,false,false,false,false,false,false,false] rfl rfl (gX bM.out wz.out (by kernel_rfl)) (fun _ _ _ h => h) (Or.inl ⟨by rfl,?_⟩) hHeld ?_ ?_;rotate_left
     · rintro w' ⟨s0,s1,s2,s3,s4,s5⟩;go_simp
       with_reducible rfl
     rotate_left
     · simp only [Act.put,List.setIfInBounds_toArray,List.set_cons_zero,List.set_cons_succ,bW,dA];rfl
     refine kM (i:=8) (N:=some 11) (v:=?_) (a' := ?_) #[true,true,true,true,true,true,true,false,true,false,false,false,false,false,false,false] rfl rfl (gX bM.out wz.out (by kernel_rfl)) (fun _ _ _ h => h) (Or.inl ⟨by rfl,?_⟩) hHeld ?_ ?_;rotate_left
     · rintro w' ⟨s0,s1,s2,s3,s4,s5⟩;go_simp
       with_reducible rfl
     rotate_left
     · simp only [Act.put,List.setIfInBounds_toArray,List.set_cons_zero,List.set_cons_succ,bW,dA];rfl
     refine qE (i:=7) (N:=some 10) #[true,true,true,true,true,true,true,true,true,false,false,false,false,false,false,false] rfl rfl (kH bM.out (by kernel_rfl)) (by decide) (fun K hK => ?_);refine ku Tryz.func17 (by kernel_rfl) rfl #[.agg #[.int .i64 aK,.string aW,.int .u32 aX,.bool aZ,.slice bU aC.length bJ,.int .i64 aY]] (by rfl) rfl rfl (by (try simp only [List.map_toArray,List.map_cons,List.map_nil]);first|done|rfl|(simp only [List.length_drop,List.length_take];rfl)) ?_
     with_reducible refine (dX.calls k aK aW aX aZ _ _ aC aY qL _ ?dF ?dW A5.out).mono ?_
     (case dF => repeat (first|exact (Kd.dP fZ.out HB.out)|(with_reducible refine Kd.eU ?_ _)|(with_reducible refine Kd.eX ?_ _)|(with_reducible refine Kd.fV ?_)));(case dW => exact iP.out);rintro e w20 ⟨rfl,hb⟩;refine ⟨_,rfl,?_⟩;have jP:=ah.mk (bI (g:=kC) (o:=.cells #[.int .i64 aK,.string aW,.int .u32 aX,.bool aZ,.slice bU aC.length bJ,.int .i64 aY] 25 (0,0)) (by (with_reducible repeat (first|refine aJ ?_ _|refine aQ ?_|refine aI ?_ _));exact dJ.out) hb);have jQ:=ah.mk (aN (by repeat (first|(with_reducible first|exact HB.out|apply au|apply aj|apply aA|refine aH ?_ qN.out)|exact HB.out)) hb);clear dJ;clear HB;have dJ:=jP;have HB:=jQ;clear jP jQ;(try clear hb);(try clear hb2);(try clear hk);(try clear hi);refine hK.out _ _ ⟨(ak dJ.out 0).trans rfl,(ak dJ.out 1).trans rfl,(ak dJ.out 2).trans rfl,(ak dJ.out 3).trans rfl,(ak dJ.out 4).trans rfl,(ak dJ.out 5).trans rfl⟩ (fun hHeld => ?_);clear hK K;refine mO (a' := ?_) ?_ ?_;rotate_left
     · show Act.put _ (some 10) _ = _
       simp only [Act.put,List.setIfInBounds_toArray,List.set_cons_zero,List.set_cons_succ,bW,dA];rfl
     refine qE (i:=9) (N:=some 12) #[true,true,true,true,true,true,true,true,true,true,false,false,false,false,false,false] rfl rfl (kH bM.out (by kernel_rfl)) (by decide) (fun K hK => ?_);refine ku Tryz.func18 (by kernel_rfl) rfl #[.agg #[.int .i64 aK,.string aW,.int .u32 aX,.bool aZ,.slice bU aC.length bJ,.int .i64 aY]] (by rfl) rfl rfl (by (try simp only [List.map_toArray,List.map_cons,List.map_nil]);first|done|rfl|(simp only [List.length_drop,List.length_take];rfl)) ?_
     with_reducible refine (fF.calls k aK aW aX aZ _ _ aC aY qM _ ?dF ?dW A6.out).mono ?_
     (case dF => repeat (first|exact (Kd.dP fZ.out HB.out)|(with_reducible refine Kd.eU ?_ _)|(with_reducible refine Kd.eX ?_ _)|(with_reducible refine Kd.fV ?_)));(case dW => exact iP.out);rintro e w21 ⟨rfl,hb⟩;refine ⟨_,rfl,?_⟩;have jP:=ah.mk (bI (g:=kC) (o:=.cells #[.int .i64 aK,.string aW,.int .u32 aX,.bool aZ,.slice bU aC.length bJ,.int .i64 aY] 25 (0,0)) (by (with_reducible repeat (first|refine aJ ?_ _|refine aQ ?_|refine aI ?_ _));exact dJ.out) hb);have jQ:=ah.mk (aN (by repeat (first|(with_reducible first|exact HB.out|apply au|apply aj|apply aA|refine aH ?_ qN.out)|exact HB.out)) hb);clear dJ;clear HB;have dJ:=jP;have HB:=jQ;clear jP jQ;(try clear hb);(try clear hb2);(try clear hk);(try clear hi);refine hK.out _ _ ⟨(ak dJ.out 0).trans rfl,(ak dJ.out 1).trans rfl,(ak dJ.out 2).trans rfl,(ak dJ.out 3).trans rfl,(ak dJ.out 4).trans rfl,(ak dJ.out 5).trans rfl⟩ (fun hHeld => ?_);clear hK K;refine mO (a' := ?_) ?_ ?_;rotate_left
     · show Act.put _ (some 12) _ = _
       simp only [Act.put,List.setIfInBounds_toArray,List.set_cons_zero,List.set_cons_succ,bW,dA];rfl
     refine fK (i:=10) (N:=some 13) (v:=?_) (a' := ?_) #[true,true,true,true,true,true,true,true,true,true,true,false,false,false,false,false] rfl rfl (dY bM.out (by kernel_rfl)) (fun _ _ _ h => h) (Or.inl ⟨by rfl,?_⟩) ?_ ?_;rotate_left
     · intro w';go_simp
       with_reducible rfl
     rotate_left
     · simp only [Act.put,List.setIfInBounds_toArray,List.set_cons_zero,List.set_cons_succ,bW,dA];rfl
     refine fK (i:=11) (N:=some 14) (v:=?_) (a' := ?_) #[true,true,true,true,true,true,true,true,true,true,true,true,false,false,false,false] rfl rfl (dY bM.out (by kernel_rfl)) (fun _ _ _ h => h) (Or.inl ⟨by rfl,?_⟩) ?_ ?_;rotate_left
     · intro w';go_simp
       with_reducible rfl
     rotate_left
     · simp only [Act.put,List.setIfInBounds_toArray,List.set_cons_zero,List.set_cons_succ,bW,dA];rfl
     refine fK (i:=12) (N:=some 15) (v:=?_) (a' := ?_) #[true,true,true,true,true,true,true,true,true,true,true,true,true,false,false,false] rfl rfl (dY bM.out (by kernel_rfl)) (fun _ _ _ h => h) (Or.inl ⟨by rfl,?_⟩) ?_ ?_;rotate_left
     · intro w';go_simp
       with_reducible rfl
     rotate_left
     · simp only [Act.put,List.setIfInBounds_toArray,List.set_cons_zero,List.set_cons_succ,bW,dA];rfl
     refine fK (i:=13) (N:=some 16) (v:=undef) (a' := ?_) #[true,true,true,true,true,true,true,true,true,true,true,true,true,true,false,false] rfl rfl (dY bM.out (by kernel_rfl)) (fun _ _ _ h => h) (Or.inr ⟨by rfl,rfl⟩) ?_ ?_;rotate_left
     · simp only [Act.put,List.setIfInBounds_toArray,List.set_cons_zero,List.set_cons_succ,bW,dA];rfl
     refine fK (i:=14) (N:=some 17) (v:=?_) (a' := ?_) #[true,true,true,true,true,true,true,true,true,true,true,true,true,true,true,false] rfl rfl (dY bM.out (by kernel_rfl)) (fun _ _ _ h => h) (Or.inl ⟨by rfl,?_⟩) ?_ ?_;rotate_left
     · intro w';go_simp
       with_reducible rfl
     rotate_left
     · simp only [Act.put,List.setIfInBounds_toArray,List.set_cons_zero,List.set_cons_succ,bW,dA];rfl
     refine fK (i:=15) (N:=some 2) (v:=?_) (a' := ?_) #[true,true,true,true,true,true,true,true,true,true,true,true,true,true,true,true] rfl rfl (dY bM.out (by kernel_rfl)) (fun _ _ _ h => h) (Or.inl ⟨by rfl,?_⟩) ?_ ?_;rotate_left
     · intro w';go_simp
       with_reducible rfl
     rotate_left
     · simp only [Act.put,List.setIfInBounds_toArray,List.set_cons_zero,List.set_cons_succ,bW,dA];rfl
     refine yG (qX bM.out (by kernel_rfl)) ?_;try go_wp2
     go_ret
     exact ⟨by first|rfl|(simp [aT,aU] <;> rfl)|(simp [*,aT,aU] <;> rfl),by repeat (first|(with_reducible first|exact HB.out|apply au|apply aj|apply aA|refine aH ?_ qN.out)|exact HB.out)⟩
 · rw [if_neg c4] at H;have tC : (zW == t127) = false:=beq_eq_false_iff_ne.mpr c4;have QZ : (zW != t127) = true:=bne_iff_ne.mpr c4;obtain rfl:=Option.some.inj H;go_enter Tryz.func6,Tryz.ntmps6
   try go_wp2_with (first|((with_reducible refine dL (N:=1) rfl ?_);refine dB ?hg (N:=1) ?hd (cs:=#[.int .i64 aK,.string aW,.int .u32 aX,.bool aZ,.slice bU aC.length bJ,.int .i64 aY]) (t:=25) ?hr ?_;(case hd => rfl);(case hg => rfl);(case hr => first|(go_simp;done)|(go_simp;rfl));intro kC hg w22 hbox hb;have jP:=ah.mk (aN (by repeat (first|(with_reducible first|exact HB.out|apply au|apply aj|apply aA)|exact HB.out)) hb);have jQ:=ah.mk (hbox);have ou:=ah.mk ((by rw [hg];exact (aV (by repeat (first|(with_reducible first|exact HB.out|apply au|apply aj|apply aA)|exact HB.out))) : w.heap.size ≤ kC));have oU:=ah.mk ((by rw [hg];exact (aV (by repeat (first|(with_reducible first|exact HB.out|apply au|apply aj|apply aA)|exact HB.out))) : w.heap.size ≤ kC));clear HB;have HB:=jP;have dJ:=jQ;have GW125:=ou;have qN:=oU;clear jP jQ ou oU;clear hb hbox hg))
   have jP:=ah.mk (aQ dJ.out);have jQ:=ah.mk (aA HB.out);clear dJ;clear HB;have dJ:=jP;have HB:=jQ;clear jP jQ;refine jV (n:=16) (S:=fun w' => w'.cell? ⟨kC,0,none⟩ = some (.int .i64 aK) ∧ w'.cell? ⟨kC,1,none⟩ = some (.string aW) ∧ w'.cell? ⟨kC,2,none⟩ = some (.int .u32 aX) ∧ w'.cell? ⟨kC,3,none⟩ = some (.bool aZ) ∧ w'.cell? ⟨kC,4,none⟩ = some (.slice bU aC.length bJ) ∧ w'.cell? ⟨kC,5,none⟩ = some (.int .i64 aY)) (ds:=[]) #[false,false,false,false,false,false,false,false,false,false,false,false,false,false,false,false] (by kernel_rfl) rfl rfl ⟨(ak dJ.out 0).trans rfl,(ak dJ.out 1).trans rfl,(ak dJ.out 2).trans rfl,(ak dJ.out 3).trans rfl,(ak dJ.out 4).trans rfl,(ak dJ.out 5).trans rfl⟩ (fun hHeld => ?_);refine oQ dH.tab1 dH.bits1 (fun bM wz => ?_);generalize w22.drew = w23 at dJ HB hHeld ⊢;refine kM (i:=0) (N:=some 3) (v:=?_) (a' := ?_) #[true,false,false,false,false,false,false,false,false,false,false,false,false,false,false,false] rfl rfl (gX bM.out wz.out (by kernel_rfl)) (fun _ _ _ h => h) (Or.inl ⟨by rfl,?_⟩) hHeld ?_ ?_;rotate_left
   · rintro w' ⟨s0,s1,s2,s3,s4,s5⟩;go_simp
     with_reducible rfl
   rotate_left
   · simp only [Act.put,List.setIfInBounds_toArray,List.set_cons_zero,List.set_cons_succ,bW,dA];rfl
   refine kM (i:=2) (N:=some 5) (v:=?_) (a' := ?_) #[true,false,true,false,false,false,false,false,false,false,false,false,false,false,false,false] rfl rfl (gX bM.out wz.out (by kernel_rfl)) (fun _ _ _ h => h) (Or.inl ⟨by rfl,?_⟩) hHeld ?_ ?_;rotate_left
   · rintro w' ⟨s0,s1,s2,s3,s4,s5⟩;go_simp
     with_reducible rfl
   rotate_left
   · simp only [Act.put,List.setIfInBounds_toArray,List.set_cons_zero,List.set_cons_succ,bW,dA];rfl
   refine qE (i:=1) (N:=some 4) #[true,true,true,false,false,false,false,false,false,false,false,false,false,false,false,false] rfl rfl (kH bM.out (by kernel_rfl)) (by decide) (fun K hK => ?_);refine ku Tryz.func16 (by kernel_rfl) rfl #[.agg #[.int .i64 aK,.string aW,.int .u32 aX,.bool aZ,.slice bU aC.length bJ,.int .i64 aY]] (by rfl) rfl rfl (by (try simp only [List.map_toArray,List.map_cons,List.map_nil]);first|done|rfl|(simp only [List.length_drop,List.length_take];rfl)) ?_
   with_reducible refine (dK.calls k aK aW aX aZ _ _ aC aY zW _ ?dF ?dW A2.out).mono ?_
   (case dF => repeat (first|exact (Kd.dP fZ.out HB.out)|(with_reducible refine Kd.eU ?_ _)|(with_reducible refine Kd.eX ?_ _)|(with_reducible refine Kd.fV ?_)));(case dW => exact iP.out);rintro e w24 ⟨rfl,hb⟩;refine ⟨_,rfl,?_⟩;have jP:=ah.mk (bI (g:=kC) (o:=.cells #[.int .i64 aK,.string aW,.int .u32 aX,.bool aZ,.slice bU aC.length bJ,.int .i64 aY] 25 (0,0)) (by (with_reducible repeat (first|refine aJ ?_ _|refine aQ ?_|refine aI ?_ _));exact dJ.out) hb);have jQ:=ah.mk (aN (by repeat (first|(with_reducible first|exact HB.out|apply au|apply aj|apply aA|refine aH ?_ qN.out)|exact HB.out)) hb);clear dJ;clear HB;have dJ:=jP;have HB:=jQ;clear jP jQ;(try clear hb);(try clear hb2);(try clear hk);(try clear hi);refine hK.out _ _ ⟨(ak dJ.out 0).trans rfl,(ak dJ.out 1).trans rfl,(ak dJ.out 2).trans rfl,(ak dJ.out 3).trans rfl,(ak dJ.out 4).trans rfl,(ak dJ.out 5).trans rfl⟩ (fun hHeld => ?_);clear hK K;refine mO (a' := ?_) ?_ ?_;rotate_left
   · show Act.put _ (some 4) _ = _
     simp only [Act.put,List.setIfInBounds_toArray,List.set_cons_zero,List.set_cons_succ,bW,dA];rfl
   refine qE (i:=3) (N:=some 6) #[true,true,true,true,false,false,false,false,false,false,false,false,false,false,false,false] rfl rfl (kH bM.out (by kernel_rfl)) (by decide) (fun K hK => ?_);refine ku Tryz.func13 (by kernel_rfl) rfl #[.agg #[.int .i64 aK,.string aW,.int .u32 aX,.bool aZ,.slice bU aC.length bJ,.int .i64 aY]] (by rfl) rfl rfl (by (try simp only [List.map_toArray,List.map_cons,List.map_nil]);first|done|rfl|(simp only [List.length_drop,List.length_take];rfl)) ?_
   with_reducible refine (cZ.calls k aK aW aX aZ _ _ aC aY t127 _ ?dF ?dW A3.out).mono ?_
   (case dF => repeat (first|exact (Kd.dP fZ.out HB.out)|(with_reducible refine Kd.eU ?_ _)|(with_reducible refine Kd.eX ?_ _)|(with_reducible refine Kd.fV ?_)));(case dW => exact iP.out);rintro e w25 ⟨rfl,hb⟩;refine ⟨_,rfl,?_⟩;have jP:=ah.mk (bI (g:=kC) (o:=.cells #[.int .i64 aK,.string aW,.int .u32 aX,.bool aZ,.slice bU aC.length bJ,.int .i64 aY] 25 (0,0)) (by (with_reducible repeat (first|refine aJ ?_ _|refine aQ ?_|refine aI ?_ _));exact dJ.out) hb);have jQ:=ah.mk (aN (by repeat (first|(with_reducible first|exact HB.out|apply au|apply aj|apply aA|refine aH ?_ qN.out)|exact HB.out)) hb);clear dJ;clear HB;have dJ:=jP;have HB:=jQ;clear jP jQ;(try clear hb);(try clear hb2);(try clear hk);(try clear hi);refine hK.out _ _ ⟨(ak dJ.out 0).trans rfl,(ak dJ.out 1).trans rfl,(ak dJ.out 2).trans rfl,(ak dJ.out 3).trans rfl,(ak dJ.out 4).trans rfl,(ak dJ.out 5).trans rfl⟩ (fun hHeld => ?_);clear hK K;refine mO (a' := ?_) ?_ ?_;rotate_left
   · show Act.put _ (some 6) _ = _
     simp only [Act.put,List.setIfInBounds_toArray,List.set_cons_zero,List.set_cons_succ,bW,dA];rfl
   refine fK (i:=4) (N:=some 7) (v:=?_) (a' := ?_) #[true,true,true,true,true,false,false,false,false,false,false,false,false,false,false,false] rfl rfl (dY bM.out (by kernel_rfl)) (fun _ _ _ h => h) (Or.inl ⟨by rfl,?_⟩) ?_ ?_;rotate_left
   · intro w';go_simp
     with_reducible rfl
   rotate_left
   · simp only [Act.put,List.setIfInBounds_toArray,List.set_cons_zero,List.set_cons_succ,bW,dA];rfl
   refine fK (i:=5) (N:=some 8) (v:=?_) (a' := ?_) #[true,true,true,true,true,true,false,false,false,false,false,false,false,false,false,false] rfl rfl (dY bM.out (by kernel_rfl)) (fun _ _ _ h => h) (Or.inl ⟨by rfl,?_⟩) ?_ ?_;rotate_left
   · intro w';go_simp
     with_reducible rfl
   rotate_left
   · simp only [Act.put,List.setIfInBounds_toArray,List.set_cons_zero,List.set_cons_succ,bW,dA];rfl
   refine fK (i:=6) (N:=some 9) (v:=undef) (a' := ?_) #[true,true,true,true,true,true,true,false,false,false,false,false,false,false,false,false] rfl rfl (dY bM.out (by kernel_rfl)) (fun _ _ _ h => h) (Or.inr ⟨by rfl,rfl⟩) ?_ ?_;rotate_left
   · simp only [Act.put,List.setIfInBounds_toArray,List.set_cons_zero,List.set_cons_succ,bW,dA];rfl
   refine fK (i:=7) (N:=some 10) (v:=undef) (a' := ?_) #[true,true,true,true,true,true,true,true,false,false,false,false,false,false,false,false] rfl rfl (dY bM.out (by kernel_rfl)) (fun _ _ _ h => h) (Or.inr ⟨by rfl,rfl⟩) ?_ ?_;rotate_left
   · simp only [Act.put,List.setIfInBounds_toArray,List.set_cons_zero,List.set_cons_succ,bW,dA];rfl
   refine fK (i:=8) (N:=some 11) (v:=undef) (a' := ?_) #[true,true,true,true,true,true,true,true,true,false,false,false,false,false,false,false] rfl rfl (dY bM.out (by kernel_rfl)) (fun _ _ _ h => h) (Or.inr ⟨by rfl,rfl⟩) ?_ ?_;rotate_left
   · simp only [Act.put,List.setIfInBounds_toArray,List.set_cons_zero,List.set_cons_succ,bW,dA];rfl
   refine fK (i:=9) (N:=some 12) (v:=undef) (a' := ?_) #[true,true,true,true,true,true,true,true,true,true,false,false,false,false,false,false] rfl rfl (dY bM.out (by kernel_rfl)) (fun _ _ _ h => h) (Or.inr ⟨by rfl,rfl⟩) ?_ ?_;rotate_left
   · simp only [Act.put,List.setIfInBounds_toArray,List.set_cons_zero,List.set_cons_succ,bW,dA];rfl
   refine fK (i:=10) (N:=some 13) (v:=undef) (a' := ?_) #[true,true,true,true,true,true,true,true,true,true,true,false,false,false,false,false] rfl rfl (dY bM.out (by kernel_rfl)) (fun _ _ _ h => h) (Or.inr ⟨by rfl,rfl⟩) ?_ ?_;rotate_left
   · simp only [Act.put,List.setIfInBounds_toArray,List.set_cons_zero,List.set_cons_succ,bW,dA];rfl
   refine fK (i:=11) (N:=some 14) (v:=?_) (a' := ?_) #[true,true,true,true,true,true,true,true,true,true,true,true,false,false,false,false] rfl rfl (dY bM.out (by kernel_rfl)) (fun _ _ _ h => h) (Or.inl ⟨by rfl,?_⟩) ?_ ?_;rotate_left
   · intro w';go_simp
     with_reducible rfl
   rotate_left
   · simp only [Act.put,List.setIfInBounds_toArray,List.set_cons_zero,List.set_cons_succ,bW,dA];rfl
   refine fK (i:=12) (N:=some 15) (v:=?_) (a' := ?_) #[true,true,true,true,true,true,true,true,true,true,true,true,true,false,false,false] rfl rfl (dY bM.out (by kernel_rfl)) (fun _ _ _ h => h) (Or.inl ⟨by rfl,?_⟩) ?_ ?_;rotate_left
   · intro w';go_simp
     with_reducible rfl
   rotate_left
   · simp only [Act.put,List.setIfInBounds_toArray,List.set_cons_zero,List.set_cons_succ,bW,dA];rfl
   refine fK (i:=13) (N:=some 16) (v:=undef) (a' := ?_) #[true,true,true,true,true,true,true,true,true,true,true,true,true,true,false,false] rfl rfl (dY bM.out (by kernel_rfl)) (fun _ _ _ h => h) (Or.inr ⟨by rfl,rfl⟩) ?_ ?_;rotate_left
   · simp only [Act.put,List.setIfInBounds_toArray,List.set_cons_zero,List.set_cons_succ,bW,dA];rfl
   refine fK (i:=14) (N:=some 17) (v:=?_) (a' := ?_) #[true,true,true,true,true,true,true,true,true,true,true,true,true,true,true,false] rfl rfl (dY bM.out (by kernel_rfl)) (fun _ _ _ h => h) (Or.inl ⟨by rfl,?_⟩) ?_ ?_;rotate_left
   · intro w';go_simp
     with_reducible rfl
   rotate_left
   · simp only [Act.put,List.setIfInBounds_toArray,List.set_cons_zero,List.set_cons_succ,bW,dA];rfl
   refine fK (i:=15) (N:=some 2) (v:=?_) (a' := ?_) #[true,true,true,true,true,true,true,true,true,true,true,true,true,true,true,true] rfl rfl (dY bM.out (by kernel_rfl)) (fun _ _ _ h => h) (Or.inl ⟨by rfl,?_⟩) ?_ ?_;rotate_left
   · intro w';go_simp
     with_reducible rfl
   rotate_left
   · simp only [Act.put,List.setIfInBounds_toArray,List.set_cons_zero,List.set_cons_succ,bW,dA];rfl
   refine yG (qX bM.out (by kernel_rfl)) ?_;try go_wp2
   go_ret
   exact ⟨by first|rfl|(simp [aT,aU] <;> rfl)|(simp [*,aT,aU] <;> rfl),by repeat (first|(with_reducible first|exact HB.out|apply au|apply aj|apply aA|refine aH ?_ qN.out)|exact HB.out)⟩
theorem Jw {α : Type} {f : Nat → Option α} (h : ∀ k,dM (f k) (f (k + 1))) {k k' : Nat} (hk : k ≤ k') {r : α} (e : f k = some r) : f k' = some r:=by
 induction hk with
 | refl => exact e
 | step _ ih => exact h _ _ ih
inductive Fit : bn → Prop
 | mk (x : bn) (h : x.f4.length ≤ 9223372036854775807) (hk : ∀ y ∈ x.f4,Fit y) : Fit x
theorem Ny {xs : List bn} {i : Nat} (h : i < xs.length) : aG xs (i : Int) ∈ xs:=by
 have : aG xs (i : Int) = xs[i]:=by simp [aG,h]
 rw [this];exact List.getElem_mem h
theorem w64 {i n : Nat} (h : i < n) (hn : n ≤ 9223372036854775807) : wrap64 ((i : Int) + 1) = ((i + 1 : Nat) : Int):=by unfold wrap64;omega
theorem w64' {a : Int} (h : 0 ≤ a) (hn : a ≤ 262144) : wrap64 (a + 1) = a + 1:=by unfold wrap64;omega
def Cnt (x : bn) : Prop:=∀ a : Int,0 ≤ a → a ≤ 262144 → ∃ k r,0 ≤ r ∧ r ≤ 262145 ∧ dO.f k x.f0 x.f1 x.f2 x.f3 x.f4 x.f5 a = some r ∧ bD.f k x.f0 x.f1 x.f2 x.f3 x.f4 x.f5 a = some r
theorem Ei (x : bn) (hl : x.f4.length ≤ 9223372036854775807) (hk : ∀ y ∈ x.f4,Cnt y) : ∀ (d i : Nat),i + d = x.f4.length → ∀ c : Int,0 ≤ c → c ≤ 262145 →
 ∃ k r,0 ≤ r ∧ r ≤ 262145 ∧ dO.l0 k c x.f4 x.f4.length i = some r ∧ bD.l0 k c i x.f0 x.f1 x.f2 x.f3 x.f4 x.f5 = some r
 | 0,i,hd,c,h0,h1 => by
  refine ⟨1,c,h0,h1,?_,?_⟩
  · unfold dO.l0;rw [if_neg (by omega)]
  · unfold bD.l0;rw [if_neg (by omega)]
 | d + 1,i,hd,c,h0,h1 => by
  have hi : i < x.f4.length:=by omega
  by_cases hc : c ≤ 262144
  · obtain ⟨k,r,r0,r1,e1,e2⟩:=hk _ (Ny hi) c h0 hc;obtain ⟨k',r',r0',r1',e1',e2'⟩:=Ei x hl hk d (i + 1) (by omega) r r0 r1;refine ⟨max k k' + 1,r',r0',r1',?_,?_⟩
    · unfold dO.l0;rw [if_pos (by omega),if_pos (by omega),if_pos (by omega),if_neg (by omega),Jw (fun k => dO.mono _ _ _ _ _ _ _ k) (Nat.le_max_left k k') e1,Option.bind_some,w64 hi hl];exact Jw (fun k => (dO.gB k).2 _ _ _ _) (Nat.le_max_right k k') e1'
    · unfold bD.l0;rw [if_pos (by omega),if_pos (by omega),if_pos (by omega),Jw (fun k => bD.mono _ _ _ _ _ _ _ k) (Nat.le_max_left k k') e2,Option.bind_some,w64 hi hl];exact Jw (fun k => (bD.gB k).2 _ _ _ _ _ _ _ _) (Nat.le_max_right k k') e2'
  · refine ⟨1,c,h0,h1,?_,?_⟩
    · unfold dO.l0;rw [if_pos (by omega),if_pos (by omega),if_pos (by omega),if_pos (by omega)]
    · unfold bD.l0;rw [if_pos (by omega),if_neg (by omega)]
theorem FQ {x : bn} (h : Fit x) : Cnt x:=by
 induction h with
 | mk x hl _ ih =>
  intro a h0 h1;obtain ⟨k,r,r0,r1,e1,e2⟩:=Ei x hl ih x.f4.length 0 (by omega) (a + 1) (by omega) (by omega);refine ⟨k + 1,r,r0,r1,?_,?_⟩
  · unfold dO.f;rw [w64' h0 h1];exact e1
  · unfold bD.f;rw [w64' h0 h1];exact e2
theorem KA : ∀ (n : Nat) (x : bn),SizeOf.sizeOf x < n → ∀ {w : World} {cs : List Value},k25.K w x cs → Fit x
 | 0,x,hn,_,_,_ => absurd hn (Nat.not_lt_zero _)
 | n + 1,x,hn,w,cs,hK => by
  obtain ⟨A4,c4,_,_,hC⟩:=yH hK;refine Fit.mk x hC.2.1 (fun y hy => ?_);obtain ⟨j,hj,rfl⟩:=List.mem_iff_getElem.1 hy;obtain ⟨ad,_,hc⟩:=hC.2.2 (by omega);obtain ⟨c,_,hk,_⟩:=hc j _ (List.getElem?_eq_getElem hj);refine KA n _ ?_ hk;have h1:=List.sizeOf_lt_of_mem hy;have h2 : SizeOf.sizeOf x = 1 + SizeOf.sizeOf x.f0 + SizeOf.sizeOf x.f1 + SizeOf.sizeOf x.f2 + SizeOf.sizeOf x.f3 + SizeOf.sizeOf x.f4 + SizeOf.sizeOf x.f5:=by cases x;simp [bn.mk.sizeOf_spec]
  omega
theorem zX {w : World} {A : Option Addr} {x : bn} (h : Kd.C k25 w A x.f4.length x.f4) : Fit x:=by
 refine Fit.mk x h.2.1 (fun y hy => ?_);obtain ⟨j,hj,rfl⟩:=List.mem_iff_getElem.1 hy;obtain ⟨ad,_,hc⟩:=h.2.2 (by omega);obtain ⟨c,_,hk,_⟩:=hc j _ (List.getElem?_eq_getElem hj);exact KA _ _ (Nat.lt_succ_self _) hk
end Go.Proofs.YtboojhadfhpdeaaGreatDoor.Q
