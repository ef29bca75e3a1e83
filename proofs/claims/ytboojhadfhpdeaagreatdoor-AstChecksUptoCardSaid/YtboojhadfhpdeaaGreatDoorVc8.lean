/- A part of the proof, made small by a program: A6, A7, A8, A9, B1, B2, B3, B4, R2, R3, R4, R5, Nm, R6, R18, S1, R1, R7. -/
import Derived.Lib.IndexAny
import Derived.Test.YtboojhadfhpdeaaGreatDoorVc2
import Derived.Test.YtboojhadfhpdeaaGreatDoorVc4
import Derived.Test.YtboojhadfhpdeaaGreatDoorVc5
import Derived.Test.YtboojhadfhpdeaaGreatDoorVc6
import Derived.Test.YtboojhadfhpdeaaGreatDoorVc7
namespace Go.Proofs.YtboojhadfhpdeaaGreatDoor.Q
open Go.RowKit Go.Proofs.YtboojhadfhpdeaaGreatDoorW.PrintWords Go.Proofs.YtboojhadfhpdeaaGreatDoorW.PrintLast Go.Proofs.YtboojhadfhpdeaaGreatDoorW.PrintMore
set_option linter.unusedVariables false
set_option linter.unusedSimpArgs false
theorem put.after (p q : Nat) (ss : List ByteArray) (l : List Int) (c : Nat) (w0 wk W : World) (hW : Below w0.heap.size w0 wk) (hP : PB w0.heap.size p l wk) (hb : Below wk.heap.size wk W) (hq : wk.heap.size ≤ q) (hS : W.heap[q]? = some (.cells (ss.map Value.string).toArray 9 (0,0))) (hl : l.length ≤ 1000) (hs : (ss.flatMap bytesOf).length ≤ 1000) (hn : ss.length ≤ 1000) :
 Calls Tryz.prog 54 #[.pointer (some ⟨p,0,none⟩),.slice (some ⟨q,0,none⟩) ss.length c] W (PrP w0.heap.size p w0 (l ++ ss.flatMap bytesOf) (.tuple #[]) W):=by
 obtain ⟨v,h1,_⟩:=hP.ex;refine (put.calls w0.heap.size p q ss l c w0 W (below_then hW (Nat.le_trans hW.size (Nat.le_refl _)) hb) (hP.below hb) (fun e => by have:=blk_lt h1;omega) hS (by omega) hn).mono ?_;rintro e w' ⟨rfl,h2,h3,h4⟩;exact ⟨rfl,h2,h3,h4⟩
theorem dec_one : (Lib.decDigits 1).toArray = #[49]:=by kernel_rfl
theorem blk_new1 (w : World) (o o' : Obj) : ((w.alloc o).alloc o').heap[w.heap.size + 1]? = some o' := by
 have h:=blk_new (w.alloc o) o'
 rwa [show (w.alloc o).heap.size = w.heap.size + 1 from by simp] at h
set_option maxHeartbeats 8000000 in
set_option maxRecDepth 100000 in
theorem FormatUint.one (w : World) : Calls Tryz.prog 125 #[.int .u64 1,.int .i64 10] w fun e w' => e = .returned (.string ⟨#[49]⟩) ∧ w' = w:=by
 have HI : Calls Tryz.prog 135 #[.int .u64 1,.int .i64 10] w fun e w' => e = .returned (.string ⟨#[49]⟩) ∧ w' = w:=by
  go_enter Tryz.func135,Tryz.ntmps135
  go_wp2_with (first
   | (go_at_call 140;((refine (Tryz.internal_strconv_small 1 (by decide) _).mono ?_);rintro e w1 ⟨rfl,rfl⟩))
   | fail)
  go_ret
  exact ⟨congrArg (fun x => Ending.returned (.string ⟨x⟩)) dec_one,rfl⟩
 have HI2:=Aside0.mk HI;clear HI;go_enter Tryz.func125,Tryz.ntmps125
 go_wp2_with (first
  | (go_at_call 135;(refine HI2.out.mono ?_);rintro e w1 ⟨rfl,rfl⟩)
  | fail)
 go_ret
 exact ⟨rfl,rfl⟩
set_option maxHeartbeats 8000000 in
set_option maxRecDepth 100000 in
theorem simple.num (p : Nat) (l : List Int) (A : Option Addr) (c : Nat) (w0 w : World) (hW : Below w0.heap.size w0 w) (hP : PB w0.heap.size p l w) (hl : l.length ≤ 500) : Calls Tryz.prog 115 #[.pointer (some ⟨p,0,none⟩),.agg #[.int .i64 1,.string ⟨#[]⟩,.int .u32 1,.bool false,.slice A 0 c,.int .i64 0]] w (PrP w0.heap.size p w0 (l ++ [49]) (.bool true) w):=by
 have HB:=Aside0.mk (below_alloc (Below.refl w.heap.size w) (.cells #[.int .i64 1,.string ⟨#[]⟩,.int .u32 1,.bool false,.slice A 0 c,.int .i64 0] 25 (0,0)));have HW:=Aside0.mk hW;have HP:=Aside0.mk hP;have HL:=Aside0.mk hl;have HNE:=Aside0.mk (show w.heap.size ≠ p from fun e => by obtain ⟨v,h1,_⟩:=hP.ex;have:=blk_lt h1;omega);clear hW hP hl;go_enter Tryz.func115,Tryz.ntmps115
 go_wp2_with (first
  | (go_at_call 125;(refine (FormatUint.one _).mono ?_);rintro e w1 ⟨rfl,rfl⟩)
  | (go_at_call 54;((refine (put.after p _ [⟨#[49]⟩] l _ w0 w _ HW.out HP.out (below_alloc HB.out _) (Nat.le_succ _) (blk_new1 _ _ _) (by have:=HL.out;omega) (by decide) (by decide)).mono ?_));rintro e w2 ⟨rfl,hP,hW,hF⟩;have HP2:=Aside0.mk hP;have HW2:=Aside0.mk hW;have HF2:=Aside0.mk ((Fr.of_below (below_alloc HB.out _)).trans hF);have HX_w2 : NB w2 w.heap.size nNum A c:=hF.keep _ 25 _ (blk_alloc (blk_new w _) _) HNE.out (by decide);obtain ⟨c0,c1,c2,c3,c4,c5⟩:=HX_w2.cells;have HXA_w2:=Aside0.mk HX_w2;dsimp only [nNum,List.length_cons,List.length_nil] at c0 c1 c2 c3 c4 c5;clear HX_w2;clear hP hW hF)
  | fail)
 go_ret
 exact ⟨rfl,HP2.out,HW2.out,HF2.out⟩
end Go.Proofs.YtboojhadfhpdeaaGreatDoor.Q
namespace Go.Proofs.YtboojhadfhpdeaaGreatDoor.Q
open Go.RowKit Go.Proofs.YtboojhadfhpdeaaGreatDoorW.PrintWords Go.Proofs.YtboojhadfhpdeaaGreatDoorW.PrintLast Go.Proofs.YtboojhadfhpdeaaGreatDoorW.PrintMore
set_option linter.unusedVariables false
set_option linter.unusedSimpArgs false
set_option maxHeartbeats 8000000 in
set_option maxRecDepth 100000 in
theorem expression_p.num (p : Nat) (l : List Int) (A : Option Addr) (c : Nat) (w0 w : World) (hW : Below w0.heap.size w0 w) (hP : PB w0.heap.size p l w) (hl : l.length ≤ 500) : Calls Tryz.prog 100 #[.pointer (some ⟨p,0,none⟩),.agg #[.int .i64 1,.string ⟨#[]⟩,.int .u32 1,.bool false,.slice A 0 c,.int .i64 0]] w (PrP w0.heap.size p w0 (l ++ [49]) (.tuple #[]) w):=by
 have HB:=Aside0.mk (below_alloc (Below.refl w.heap.size w) (.cells #[.int .i64 1,.string ⟨#[]⟩,.int .u32 1,.bool false,.slice A 0 c,.int .i64 0] 25 (0,0)));have HW:=Aside0.mk hW;have HP:=Aside0.mk hP;have HL:=Aside0.mk hl;have HNE:=Aside0.mk (show w.heap.size ≠ p from fun e => by obtain ⟨v,h1,_⟩:=hP.ex;have:=blk_lt h1;omega);have HWB:=Aside0.mk (below_then hW hW.size HB.out);have HPB:=Aside0.mk (hP.below HB.out);clear hW hP hl;go_enter Tryz.func100,Tryz.ntmps100
 go_wp2_with (first
  | (go_at_call 115;((refine (simple.num p l A c w0 _ HWB.out HPB.out HL.out).mono ?_));rintro e w2 ⟨rfl,hP,hW,hF⟩;have HP2:=Aside0.mk hP;have HW2:=Aside0.mk hW;have HF2:=Aside0.mk ((Fr.of_below HB.out).trans hF);have HX_w2 : NB w2 w.heap.size nNum A c:=hF.keep _ 25 _ (blk_new w _) HNE.out (by decide);obtain ⟨c0,c1,c2,c3,c4,c5⟩:=HX_w2.cells;have HXA_w2:=Aside0.mk HX_w2;dsimp only [nNum,List.length_cons,List.length_nil] at c0 c1 c2 c3 c4 c5;clear HX_w2;clear hP hW hF)
  | fail)
 first|go_end0|(refine bodyPost_ret (results_none rfl _ _ _) rfl ?_)
 exact ⟨rfl,HP2.out,HW2.out,HF2.out⟩
set_option maxHeartbeats 8000000 in
set_option maxRecDepth 100000 in
theorem at_p.num (p : Nat) (l : List Int) (A : Option Addr) (c : Nat) (w0 w : World) (hW : Below w0.heap.size w0 w) (hP : PB w0.heap.size p l w) (hG : PremW w) (hn : ND w nNum A c) (hl : l.length ≤ 500) : Calls Tryz.prog 85 #[.pointer (some ⟨p,0,none⟩),.agg #[.int .i64 1,.string ⟨#[]⟩,.int .u32 1,.bool false,.slice A 0 c,.int .i64 0],.int .i64 0] w (PrP w0.heap.size p w0 (l ++ [49]) (.tuple #[]) w):=by
 have HB:=Aside0.mk (below_alloc (Below.refl w.heap.size w) (.cells #[.int .i64 1,.string ⟨#[]⟩,.int .u32 1,.bool false,.slice A 0 c,.int .i64 0] 25 (0,0)));have HW:=Aside0.mk hW;have HP:=Aside0.mk hP;have HL:=Aside0.mk hl;have HNE:=Aside0.mk (show w.heap.size ≠ p from fun e => by obtain ⟨v,h1,_⟩:=hP.ex;have:=blk_lt h1;omega);have HWB:=Aside0.mk (below_then hW hW.size HB.out);have HPB:=Aside0.mk (hP.below HB.out);clear hW hP hl;have HG:=Aside0.mk (hG.below HB.out);have HN:=Aside0.mk (hn.below HB.out);clear hG hn;go_enter Tryz.func85,Tryz.ntmps85
 go_wp2_with (first
  | (go_at_call 99;((refine (ast_level.calls 100 1 ⟨#[]⟩ 1 false A c [] 0 13 _ HN.out.C (Nat.zero_le _) HG.out (by kernel_rfl)).mono ?_);rintro e w1 ⟨rfl,hB⟩);have HB1:=Aside0.mk hB;(have HX_w1 : NB w1 w.heap.size nNum A c:=NB.below (blk_new w _) hB);obtain ⟨c0,c1,c2,c3,c4,c5⟩:=HX_w1.cells;have HXA_w1:=Aside0.mk HX_w1;dsimp only [nNum,List.length_cons,List.length_nil] at c0 c1 c2 c3 c4 c5;clear HX_w1;clear hB)
  | (go_at_call 100;((refine (expression_p.num p l A c w0 _ (below_then HWB.out HWB.out.size HB1.out) (HPB.out.below HB1.out) HL.out).mono ?_));rintro e w2 ⟨rfl,hP,hW,hF⟩;have HP2:=Aside0.mk hP;have HW2:=Aside0.mk hW;have HF2:=Aside0.mk ((Fr.of_below (below_step HB.out HB1.out)).trans hF);  clear hP hW hF)
  | fail)
 first|go_end0|(refine bodyPost_ret (results_none rfl _ _ _) rfl ?_)
 exact ⟨rfl,HP2.out,HW2.out,HF2.out⟩
set_option maxHeartbeats 8000000 in
set_option maxRecDepth 100000 in
theorem variable_p.var (p : Nat) (l : List Int) (A : Option Addr) (c : Nat) (w0 w : World) (hW : Below w0.heap.size w0 w) (hP : PB w0.heap.size p l w) (hG : PremW w0) (hn : ND w0 nVar A c) (hl : l.length ≤ 400) : Calls Tryz.prog 57 #[.pointer (some ⟨p,0,none⟩),.agg #[.int .i64 43,.string ⟨#[120]⟩,.int .u32 0,.bool false,.slice A 1 c,.int .i64 0]] w (PrP w0.heap.size p w0 (l ++ [120,32,61,32,49]) (.tuple #[]) w):=by
 obtain ⟨ad,A',c',rfl,hk,k0,k1,k2,k3,k4,k5⟩:=node_at hn.C 0 (by decide);rw [Nat.zero_mul,add_zero_] at k0 k1 k2 k3 k4 k5;have k0 : w0.cell? ad = some (.int .i64 1):=k0;have k1 : w0.cell? ⟨ad.block,ad.off + 1,none⟩ = some (.string ⟨#[]⟩):=k1;have k2 : w0.cell? ⟨ad.block,ad.off + 2,none⟩ = some (.int .u32 1):=k2;have k3 : w0.cell? ⟨ad.block,ad.off + 3,none⟩ = some (.bool false):=k3;have k4 : w0.cell? ⟨ad.block,ad.off + 4,none⟩ = some (.slice A' 0 c'):=k4;have k5 : w0.cell? ⟨ad.block,ad.off + 5,none⟩ = some (.int .i64 0):=k5;have HK:=Aside0.mk (And.intro k0 (And.intro k1 (And.intro k2 (And.intro k3 (And.intro k4 k5)))));have HKN:=Aside0.mk (show ND w0 nNum A' c' from hk);clear k0 k1 k2 k3 k4 k5 hk;have HB:=Aside0.mk (below_alloc (Below.refl w.heap.size w) (.cells #[.int .i64 43,.string ⟨#[120]⟩,.int .u32 0,.bool false,.slice (some ad) 1 c,.int .i64 0] 25 (0,0)));have HW:=Aside0.mk hW;have HP:=Aside0.mk hP;have HL:=Aside0.mk hl;have HNE:=Aside0.mk (show w.heap.size ≠ p from fun e => by obtain ⟨v,h1,_⟩:=hP.ex;have:=blk_lt h1;omega);have HWB:=Aside0.mk (below_then hW hW.size HB.out);have HPB:=Aside0.mk (hP.below HB.out);clear hW hP hl;have HG:=Aside0.mk hG;clear hG hn;go_enter Tryz.func57,Tryz.ntmps57
 go_wp2_with (first
  | (go_at_call 85;((refine (at_p.num p (l ++ [120] ++ [32,61,32]) A' c' w0 _ HW3.out HP3.out (HG.out.below HW3.out) (HKN.out.below HW3.out) (by have:=HL.out;simp only [List.length_append,List.length_cons,List.length_nil];omega)).mono ?_));rintro e w4 ⟨rfl,hP,hW,hF⟩;have HP4:=Aside0.mk hP;have HW4:=Aside0.mk hW;have HF4:=Aside0.mk (HF3.out.trans hF);  clear hP hW hF)
  | (go_at_call 54;((refine (put.after p _ [⟨#[32,61,32]⟩] (l ++ [120]) _ w0 w2 _ HW2.out HP2.out (below_alloc (Below.refl _ _) _) (Nat.le_refl _) (blk_new _ _) (by have:=HL.out;simp only [List.length_append,List.length_cons,List.length_nil];omega) (by decide) (by decide)).mono ?_));rintro e w3 ⟨rfl,hP,hW,hF⟩;have HP3:=Aside0.mk hP;have HW3:=Aside0.mk hW;have HF3:=Aside0.mk (HF2.out.trans ((Fr.of_below (below_alloc (Below.refl _ _) _)).trans hF));  clear hP hW hF;obtain ⟨k0,k1,k2,k3,k4,k5⟩:=HK.out;have k0:=pw_cell_below HW3.out k0;have k1:=pw_cell_below HW3.out k1;have k2:=pw_cell_below HW3.out k2;have k3:=pw_cell_below HW3.out k3;have k4:=pw_cell_below HW3.out k4;have k5:=pw_cell_below HW3.out k5;)
  | (go_at_call 54;((refine (put.after p _ [⟨#[120]⟩] l _ w0 w _ HW.out HP.out (below_alloc HB.out _) (Nat.le_succ _) (blk_new1 _ _ _) (by have:=HL.out;omega) (by decide) (by decide)).mono ?_));rintro e w2 ⟨rfl,hP,hW,hF⟩;have HP2:=Aside0.mk hP;have HW2:=Aside0.mk hW;have HF2:=Aside0.mk ((Fr.of_below (below_alloc HB.out _)).trans hF);have HX_w2 : NB w2 w.heap.size nVar (some ad) c:=hF.keep _ 25 _ (blk_alloc (blk_new w _) _) HNE.out (by decide);obtain ⟨c0,c1,c2,c3,c4,c5⟩:=HX_w2.cells;have HXA_w2:=Aside0.mk HX_w2;dsimp only [nVar,List.length_cons,List.length_nil] at c0 c1 c2 c3 c4 c5;clear HX_w2;clear hP hW hF)
  | fail)
 first|go_end0|(refine bodyPost_ret (results_none rfl _ _ _) rfl ?_)
 exact ⟨rfl,by have h:=HP4.out;simp only [List.append_assoc,List.cons_append,List.nil_append] at h;exact h,HW4.out,HF4.out⟩
end Go.Proofs.YtboojhadfhpdeaaGreatDoor.Q
namespace Go.Proofs.YtboojhadfhpdeaaGreatDoor.Q
open Go.RowKit Go.Proofs.YtboojhadfhpdeaaGreatDoorW.PrintWords Go.Proofs.YtboojhadfhpdeaaGreatDoorW.PrintLast Go.Proofs.YtboojhadfhpdeaaGreatDoorW.PrintMore
set_option linter.unusedVariables false
set_option linter.unusedSimpArgs false
abbrev zero25 : Array Value:=#[.int .i64 0,.string ⟨#[]⟩,.int .u32 0,.bool false,.slice none 0 0,.int .i64 0]
section
variable {ops : Array Oper} {rest : List Oper} {o : Oper} {a : Act} {Q : Exit → Act → World → Prop} {W : World}
theorem ev_alloc25 (hgd : o.guard = none) {N : Tmp} (_hd : o.dst = some N) (ho : o.op = .alloc 25)
 (K : ∀ g w',g = W.heap.size → w'.heap[g]? = some (.cells zero25 25 (0,0)) → Below W.heap.size W w' → wpList Tryz.prog ops Q rest (a.put o.dst (.pointer (some ⟨g,0,none⟩))) w') : wpList Tryz.prog ops Q (o :: rest) a W:=by
 refine box_event hgd _hd (cs:=zero25) (t:=25) ?_ (fun g hg w1 h1 h2 => K g w1 hg h1 h2);simp only [execOp,ho];go_simp;try rfl
theorem ev_store25k (hgd : o.guard = none) (hN : o.dst = none) {n : Tmp} {v : Operand} (ho : o.op = .store 25 (.tmp n) v) {x : S25} {A : Option Addr} {c g : Nat} (hx : a.eval v = val x A c) (hg : a.eval (.tmp n) = .pointer (some ⟨g,0,none⟩)) (hc : W.heap[g]? = some (.cells zero25 25 (0,0)))
 (K : ∀ w',NB w' g x A c → Below g W w' → (∀ k,k ≠ g → w'.heap[k]? = W.heap[k]?) → wpList Tryz.prog ops Q rest a w') : wpList Tryz.prog ops Q (o :: rest) a W:=by
 have h0:=(blk_cell hc 0).trans (show zero25[0]? = some (.int .i64 0) from rfl);have h1:=(blk_cell hc 1).trans (show zero25[1]? = some (.string ⟨#[]⟩) from rfl);have h2:=(blk_cell hc 2).trans (show zero25[2]? = some (.int .u32 0) from rfl);have h3:=(blk_cell hc 3).trans (show zero25[3]? = some (.bool false) from rfl);have h4:=(blk_cell hc 4).trans (show zero25[4]? = some (.slice none 0 0) from rfl);have h5:=(blk_cell hc 5).trans (show zero25[5]? = some (.int .i64 0) from rfl);have f0:=blk_frozen hc 0;have f1:=blk_frozen hc 1;have f2:=blk_frozen hc 2;have f3:=blk_frozen hc 3;have f4:=blk_frozen hc 4;have f5:=blk_frozen hc 5;refine store_event (t:=25) (p:=n) (v:=v) (w1:=((((((W.setCell ⟨g,0,none⟩ (.int .i64 x.f0)).setCell ⟨g,1,none⟩ (.string x.f1)).setCell ⟨g,2,none⟩ (.int .u32 x.f2)).setCell ⟨g,3,none⟩ (.bool x.f3)).setCell ⟨g,4,none⟩ (.slice A x.f4.length c)).setCell ⟨g,5,none⟩ (.int .i64 x.f5))) hgd ho hN ?hr (fun w' hw => ?_);case hr =>
  simp only [execOp,ho,hx,hg];first|(go_simp;done)|(go_simp;rfl)
 · subst hw;refine K _ ?_ ?_ (fun k hk => ?_)
   · exact (blk_set (blk_set (blk_set (blk_set (blk_set (blk_set hc 0 _) 1 _) 2 _) 3 _) 4 _) 5 _)
   · exact ((((((Below.refl g W).setCell (Nat.le_refl g) _).setCell (Nat.le_refl g) _).setCell (Nat.le_refl g) _).setCell (Nat.le_refl g) _).setCell (Nat.le_refl g) _).setCell (Nat.le_refl g) _
   · rw [Below.heap_setCell _ _ _ k hk,Below.heap_setCell _ _ _ k hk,Below.heap_setCell _ _ _ k hk,Below.heap_setCell _ _ _ k hk,Below.heap_setCell _ _ _ k hk,Below.heap_setCell _ _ _ k hk]
theorem ev_store25 (hgd : o.guard = none) (hN : o.dst = none) {n : Tmp} {v : Operand} (ho : o.op = .store 25 (.tmp n) v) {x : S25} {A : Option Addr} {c g : Nat} (hx : a.eval v = val x A c) (hg : a.eval (.tmp n) = .pointer (some ⟨g,0,none⟩)) (hc : W.heap[g]? = some (.cells zero25 25 (0,0)))
 (K : ∀ w',NB w' g x A c → Below g W w' → wpList Tryz.prog ops Q rest a w') : wpList Tryz.prog ops Q (o :: rest) a W :=
 ev_store25k hgd hN ho hx hg hc (fun w' h1 h2 _ => K w' h1 h2)
end
end Go.Proofs.YtboojhadfhpdeaaGreatDoor.Q
namespace Go.Proofs.YtboojhadfhpdeaaGreatDoor.Q
open Go.RowKit Go.Proofs.YtboojhadfhpdeaaGreatDoorW.PrintWords Go.Proofs.YtboojhadfhpdeaaGreatDoorW.PrintLast Go.Proofs.YtboojhadfhpdeaaGreatDoorW.PrintMore
set_option linter.unusedVariables false
set_option linter.unusedSimpArgs false
set_option maxHeartbeats 8000000 in
set_option maxRecDepth 100000 in
theorem line_p.vars (p : Nat) (l : List Int) (A : Option Addr) (c : Nat) (w0 w : World) (hW : Below w0.heap.size w0 w) (hP : PB w0.heap.size p l w) (hG : PremW w0) (hn : ND w0 nVars A c) (hl : l.length ≤ 300) : Calls Tryz.prog 38 #[.pointer (some ⟨p,0,none⟩),.agg #[.int .i64 42,.string ⟨#[]⟩,.int .u32 0,.bool false,.slice A 2 c,.int .i64 0]] w (PrP w0.heap.size p w0 (l ++ [105,110,116,32,120,32,61,32,49,59,10]) (.tuple #[]) w):=by
 have hle : 2 ≤ c:=hn.le;obtain ⟨ad,A',c',rfl,_,_,t1,_⟩:=node_at hn.C 0 (by decide);rw [Nat.zero_mul,add_zero_] at t1;have t1 : w0.cell? ⟨ad.block,ad.off + 1,none⟩ = some (.string ⟨#[105,110,116]⟩):=t1;have HT:=Aside0.mk t1;clear t1;obtain ⟨ad2,A2,c2,e2,hk,k0,k1,k2,k3,k4,k5⟩:=node_at hn.C 1 (by decide);obtain rfl : ad = ad2:=Option.some.inj e2;have k0 : w0.cell? ⟨ad.block,ad.off + 6,none⟩ = some (.int .i64 43):=k0;have k1 : w0.cell? ⟨ad.block,ad.off + 7,none⟩ = some (.string ⟨#[120]⟩):=k1;have k2 : w0.cell? ⟨ad.block,ad.off + 8,none⟩ = some (.int .u32 0):=k2;have k3 : w0.cell? ⟨ad.block,ad.off + 9,none⟩ = some (.bool false):=k3;have k4 : w0.cell? ⟨ad.block,ad.off + 10,none⟩ = some (.slice A2 1 c2):=k4;have k5 : w0.cell? ⟨ad.block,ad.off + 11,none⟩ = some (.int .i64 0):=k5;have HK:=Aside0.mk (And.intro k0 (And.intro k1 (And.intro k2 (And.intro k3 (And.intro k4 k5)))));have HKN:=Aside0.mk (show ND w0 nVar A2 c2 from hk);clear k0 k1 k2 k3 k4 k5 hk e2;have HB:=Aside0.mk (below_alloc (Below.refl w.heap.size w) (.cells #[.int .i64 42,.string ⟨#[]⟩,.int .u32 0,.bool false,.slice (some ad) 2 c,.int .i64 0] 25 (0,0)));have HW:=Aside0.mk hW;have HP:=Aside0.mk hP;have HL:=Aside0.mk hl;have HNE:=Aside0.mk (show w.heap.size ≠ p from fun e => by obtain ⟨v,h1,_⟩:=hP.ex;have:=blk_lt h1;omega);have HWB:=Aside0.mk (below_then hW hW.size HB.out);have HPB:=Aside0.mk (hP.below HB.out);clear hW hP hl;have HG:=Aside0.mk hG;have HLE:=Aside0.mk hle;have t1:=pw_cell_below HWB.out HT.out;clear hG hn hle;go_enter Tryz.func38,Tryz.ntmps38
 go_wp2_with (first
  | (go_at_call 54;((refine (put.after p _ [⟨#[105,110,116]⟩,⟨#[32]⟩] l _ w0 w _ HW.out HP.out (below_alloc HB.out _) (Nat.le_succ _) (blk_new1 _ _ _) (by have:=HL.out;omega) (by decide) (by decide)).mono ?_));rintro e w2 ⟨rfl,hP,hW,hF⟩;have HP2:=Aside0.mk hP;have HW2:=Aside0.mk hW;have HF2:=Aside0.mk ((Fr.of_below (below_alloc HB.out _)).trans hF);have HX_w2 : NB w2 w.heap.size nVars (some ad) c:=hF.keep _ 25 _ (blk_alloc (blk_new w _) _) HNE.out (by decide);obtain ⟨c0,c1,c2,c3,c4,c5⟩:=HX_w2.cells;have HXA_w2:=Aside0.mk HX_w2;dsimp only [nVars,List.length_cons,List.length_nil] at c0 c1 c2 c3 c4 c5;clear HX_w2;clear hP hW hF;have hc1 : ¬ c = 1:=by have:=HLE.out;omega)
  | fail)
 go_loopg [102] 1 (fun kq v w' => ∃ i : Nat,v = .int .i64 i ∧ Aside0 (i + kq = 1) ∧ Aside0 (PB w0.heap.size p (l ++ (if i = 0 then [105,110,116,32] else [105,110,116,32,120,32,61,32,49])) w') ∧ Aside0 (Below w0.heap.size w0 w') ∧ Aside0 (Fr p w2 w'))
 case atStart => exact ⟨0,rfl,⟨by omega⟩,⟨HP2.out⟩,HW2,⟨Fr.refl _ _⟩⟩
 case round =>
  obtain ⟨i,rfl,HI,HPi,HWi,HFi⟩:=hrel;by_cases hi : i < 1
  · obtain rfl : i = 0:=by omega
    have e1n : decide ((0 : Nat) < 1) = true:=rfl;have HIK:=Aside0.mk HI.out;clear hi;obtain ⟨k0,k1,k2,k3,k4,k5⟩:=HK.out;have k0:=pw_cell_below HWi.out k0;have k1:=pw_cell_below HWi.out k1;have k2:=pw_cell_below HWi.out k2;have k3:=pw_cell_below HWi.out k3;have k4:=pw_cell_below HWi.out k4;have k5:=pw_cell_below HWi.out k5;clear c0 c1 c2 c3 c4 c5 t1;go_wp2_with (first
     | (go_at_call 57;((refine (variable_p.var p (l ++ [105,110,116,32]) A2 c2 w0 wb (below_then HWi.out HWi.out.size HBb.out) (HPi.out.below HBb.out) HG.out HKN.out (by have:=HL.out;simp only [List.length_append,List.length_cons,List.length_nil];omega)).mono ?_));rintro e w5 ⟨rfl,hP,hW,hF⟩;have HP5:=Aside0.mk hP;have HW5:=Aside0.mk hW;have HF5:=Aside0.mk (HFi.out.trans ((Fr.of_below HBb.out).trans hF));  clear hP hW hF)
     | (with_reducible refine ev_alloc25 rfl rfl rfl ?_;rintro g wa hg hz hB;have HBa:=Aside0.mk hB;have HZ:=Aside0.mk hz;have HGe:=Aside0.mk hg;clear hg hz hB)
     | (refine ev_store25 rfl rfl rfl (x:=nVar) (A:=A2) (c:=c2) rfl rfl HZ.out ?_;rintro wb hN hB;obtain ⟨b0,b1,b2,b3,b4,b5⟩:=hN.cells;have HBb:=Aside0.mk (HBa.out.trans (hB.mono (Nat.le_of_eq HGe.out.symm)));have HNb:=Aside0.mk hN;clear hN hB)
     | fail)
    go_roundg 0
    case measure => have:=HIK.out;omega
    case rel => exact ⟨1,rfl,⟨rfl⟩,⟨by have h:=HP5.out;simp only [List.append_assoc,List.cons_append,List.nil_append] at h;exact h⟩,HW5,HF5⟩
  · obtain rfl : i = 1:=by have:=HI.out;omega
    have HIK:=Aside0.mk HI.out;clear hi;go_wp2_with (first
     | (go_at_call 54;((refine (put.after p _ [⟨#[10]⟩] (l ++ [105,110,116,32,120,32,61,32,49] ++ [59]) _ w0 w6 _ HW6.out HP6.out (below_alloc (Below.refl _ _) _) (Nat.le_refl _) (blk_new _ _) (by have:=HL.out;simp only [List.length_append,List.length_cons,List.length_nil];omega) (by decide) (by decide)).mono ?_));rintro e w7 ⟨rfl,hP,hW,hF⟩;have HP7:=Aside0.mk hP;have HW7:=Aside0.mk hW;have HF7:=Aside0.mk (HF6.out.trans ((Fr.of_below (below_alloc (Below.refl _ _) _)).trans hF));  clear hP hW hF)
     | (go_at_call 54;((refine (put.after p _ [⟨#[59]⟩] (l ++ [105,110,116,32,120,32,61,32,49]) _ w0 _ _ HWi.out HPi.out (below_alloc (Below.refl _ _) _) (Nat.le_refl _) (blk_new _ _) (by have:=HL.out;simp only [List.length_append,List.length_cons,List.length_nil];omega) (by decide) (by decide)).mono ?_));rintro e w6 ⟨rfl,hP,hW,hF⟩;have HP6:=Aside0.mk hP;have HW6:=Aside0.mk hW;have HF6:=Aside0.mk (HF2.out.trans (HFi.out.trans ((Fr.of_below (below_alloc (Below.refl _ _) _)).trans hF)));  clear hP hW hF)
     | fail)
    first|go_end0|(refine bodyPost_ret (results_none rfl _ _ _) rfl ?_)
    exact ⟨rfl,by have h:=HP7.out;simp only [List.append_assoc,List.cons_append,List.nil_append] at h;exact h,HW7.out,HF7.out⟩
end Go.Proofs.YtboojhadfhpdeaaGreatDoor.Q
namespace Go.Proofs.YtboojhadfhpdeaaGreatDoor.Q
open Go.RowKit Go.Proofs.YtboojhadfhpdeaaGreatDoorW.PrintWords Go.Proofs.YtboojhadfhpdeaaGreatDoorW.PrintLast Go.Proofs.YtboojhadfhpdeaaGreatDoorW.PrintMore
set_option linter.unusedVariables false
set_option linter.unusedSimpArgs false
set_option maxHeartbeats 8000000 in
set_option maxRecDepth 100000 in
theorem all_p.prog (p : Nat) (l : List Int) (A : Option Addr) (c : Nat) (w0 w : World) (hW : Below w0.heap.size w0 w) (hP : PB w0.heap.size p l w) (hG : PremW w0) (hn : ND w0 nProg A c) (hl : l.length ≤ 200) :
 Calls Tryz.prog 26 #[.pointer (some ⟨p,0,none⟩),.slice A 1 c] w (PrP w0.heap.size p w0 (l ++ [105,110,116,32,120,32,61,32,49,59,10]) (.tuple #[]) w):=by
 obtain ⟨ad,A2,c2,rfl,hk,k0,k1,k2,k3,k4,k5⟩:=node_at hn.C 0 (by decide);rw [Nat.zero_mul,add_zero_] at k0 k1 k2 k3 k4 k5;have k0 : w0.cell? ad = some (.int .i64 42):=k0;have k1 : w0.cell? ⟨ad.block,ad.off + 1,none⟩ = some (.string ⟨#[]⟩):=k1;have k2 : w0.cell? ⟨ad.block,ad.off + 2,none⟩ = some (.int .u32 0):=k2;have k3 : w0.cell? ⟨ad.block,ad.off + 3,none⟩ = some (.bool false):=k3;have k4 : w0.cell? ⟨ad.block,ad.off + 4,none⟩ = some (.slice A2 2 c2):=k4;have k5 : w0.cell? ⟨ad.block,ad.off + 5,none⟩ = some (.int .i64 0):=k5;have HK:=Aside0.mk (And.intro k0 (And.intro k1 (And.intro k2 (And.intro k3 (And.intro k4 k5)))));have HKN:=Aside0.mk (show ND w0 nVars A2 c2 from hk);clear k0 k1 k2 k3 k4 k5 hk;have HW:=Aside0.mk hW;have HP:=Aside0.mk hP;have HL:=Aside0.mk hl;have HG:=Aside0.mk hG;clear hW hP hl hG hn;go_enter Tryz.func26,Tryz.ntmps26
 go_wp2
 go_loopg [8] 1 (fun kq v w' => ∃ i : Nat,v = .int .i64 i ∧ Aside0 (i + kq = 1) ∧ Aside0 (PB w0.heap.size p (l ++ (if i = 0 then [] else [105,110,116,32,120,32,61,32,49,59,10])) w') ∧ Aside0 (Below w0.heap.size w0 w') ∧ Aside0 (Fr p w w'))
 case atStart => exact ⟨0,rfl,⟨by omega⟩,⟨by simpa using HP.out⟩,HW,⟨Fr.refl _ _⟩⟩
 case round =>
  obtain ⟨i,rfl,HI,HPi,HWi,HFi⟩:=hrel;by_cases hi : i < 1
  · obtain rfl : i = 0:=by omega
    have e1n : decide ((0 : Nat) < 1) = true:=rfl;have HIK:=Aside0.mk HI.out;have HPz:=Aside0.mk (show PB w0.heap.size p l _ from by simpa using HPi.out);clear hi;obtain ⟨k0,k1,k2,k3,k4,k5⟩:=HK.out;have k0:=pw_cell_below HWi.out k0;have k1:=pw_cell_below HWi.out k1;have k2:=pw_cell_below HWi.out k2;have k3:=pw_cell_below HWi.out k3;have k4:=pw_cell_below HWi.out k4;have k5:=pw_cell_below HWi.out k5;go_wp2_with (first
     | (go_at_call 38;((refine (line_p.vars p l A2 c2 w0 wb (below_then HWi.out HWi.out.size HBb.out) (HPz.out.below HBb.out) HG.out HKN.out (by have:=HL.out;omega)).mono ?_));rintro e w5 ⟨rfl,hP,hW,hF⟩;have HP5:=Aside0.mk hP;have HW5:=Aside0.mk hW;have HF5:=Aside0.mk (HFi.out.trans ((Fr.of_below HBb.out).trans hF));  clear hP hW hF)
     | (with_reducible refine ev_alloc25 rfl rfl rfl ?_;rintro g wa hg hz hB;have HBa:=Aside0.mk hB;have HZ:=Aside0.mk hz;have HGe:=Aside0.mk hg;clear hg hz hB)
     | (refine ev_store25 rfl rfl rfl (x:=nVars) (A:=A2) (c:=c2) rfl rfl HZ.out ?_;rintro wb hN hB;obtain ⟨b0,b1,b2,b3,b4,b5⟩:=hN.cells;have HBb:=Aside0.mk (HBa.out.trans (hB.mono (Nat.le_of_eq HGe.out.symm)));have HNb:=Aside0.mk hN;clear hN hB)
     | fail)
    go_roundg 0
    case measure => have:=HIK.out;omega
    case rel => exact ⟨1,rfl,⟨rfl⟩,⟨HP5.out⟩,HW5,HF5⟩
  · obtain rfl : i = 1:=by have:=HI.out;omega
    have HIK:=Aside0.mk HI.out;clear hi;go_wp2
    first|go_end0|(refine bodyPost_ret (results_none rfl _ _ _) rfl ?_)
    exact ⟨rfl,HPi.out,HWi.out,HFi.out⟩
def CheckP (w : World) (e : Ending) (w' : World) : Prop:=e = .returned (.int .i64 0) ∧ Below w.heap.size w w'
set_option maxHeartbeats 8000000 in
set_option maxRecDepth 100000 in
theorem Size.prog (A : Option Addr) (c : Nat) (w : World) (hn : ND w nProg A c) : Calls Tryz.prog 16 #[.agg #[.int .i64 40,.string ⟨#[]⟩,.int .u32 0,.bool false,.slice A 1 c,.int .i64 0]] w (fun e w' => e = .returned (.int .i64 5) ∧ Below w.heap.size w w') :=
 ast_Size.calls 100 40 ⟨#[]⟩ 0 false A c [nVars] 0 5 w hn.C hn.le (by kernel_rfl)
set_option maxHeartbeats 8000000 in
set_option maxRecDepth 100000 in
theorem Check.prog (A : Option Addr) (c : Nat) (w : World) (hG : PremW w) (hn : ND w nProg A c) : Calls Tryz.prog 8 #[.agg #[.int .i64 40,.string ⟨#[]⟩,.int .u32 0,.bool false,.slice A 1 c,.int .i64 0]] w (CheckP w):=by
 have HB:=Aside0.mk (below_alloc (Below.refl w.heap.size w) (.cells #[.int .i64 40,.string ⟨#[]⟩,.int .u32 0,.bool false,.slice A 1 c,.int .i64 0] 25 (0,0)));have HG:=Aside0.mk (hG.below HB.out);have HN:=Aside0.mk (hn.below HB.out);clear hG hn;go_enter Tryz.func8,Tryz.ntmps8
 go_wp2_with (first
  | (go_at_call 16;((refine (Size.prog A c _ HN.out).mono ?_);rintro e w1 ⟨rfl,hB⟩);have HB1:=Aside0.mk (below_then HB.out HB.out.size hB);have HN1:=Aside0.mk (HN.out.below hB);have HG1:=Aside0.mk (HG.out.below hB);(have HX_w1 : NB w1 w.heap.size nProg A c:=NB.below (blk_new w _) hB);obtain ⟨c0,c1,c2,c3,c4,c5⟩:=HX_w1.cells;have HXA_w1:=Aside0.mk HX_w1;dsimp only [nProg,List.length_cons,List.length_nil] at c0 c1 c2 c3 c4 c5;clear HX_w1;clear hB)
  | (go_at_call 20;((refine (may.prog A c _ HG1.out HN1.out).mono ?_);rintro e w2 ⟨rfl,hB⟩);have HB2:=Aside0.mk (below_then HB1.out HB1.out.size hB);clear hB)
  | fail)
 go_ret
 exact ⟨rfl,HB2.out⟩
end Go.Proofs.YtboojhadfhpdeaaGreatDoor.Q
namespace Go.Proofs.YtboojhadfhpdeaaGreatDoor.Q
open Go.RowKit Go.Proofs.YtboojhadfhpdeaaGreatDoorW.PrintWords Go.Proofs.YtboojhadfhpdeaaGreatDoorW.PrintLast Go.Proofs.YtboojhadfhpdeaaGreatDoorW.PrintMore
set_option linter.unusedVariables false
set_option linter.unusedSimpArgs false
abbrev six (x : S25) (A : Option Addr) (c : Nat) : List Value:=[.int .i64 x.f0,.string x.f1,.int .u32 x.f2,.bool x.f3,.slice A x.f4.length c,.int .i64 x.f5]
theorem addr_at (q j : Nat) : (⟨q,0,none⟩ : Addr).add j = ⟨q,j,none⟩:=by
 unfold Addr.add
 split
 · rename_i h;rw [h]
 · simp
theorem C_none (w : World) (A : Option Addr) : Kd.C k25 w A 0 []:=⟨rfl,by decide,fun h => absurd h (by decide)⟩
theorem C_one {w : World} {q c : Nat} {x : S25} {A : Option Addr} (hq : w.heap[q]? = some (.cells (six x A c).toArray 25 (0,0))) (hn : ND w x A c) : Kd.C k25 w (some ⟨q,0,none⟩) 1 [x] :=
 ⟨rfl,by decide,fun _ => ⟨_,rfl,fun j p hj => by
  match j,hj with
  | 0,hj =>
   obtain rfl:=Option.some.inj hj;refine ⟨six x A c,rfl,k25_mk w x hn.le hn.C,fun i u hu => ?_⟩;rw [addr_at,show 0 * k25.sz + i = i from by omega];exact (blk_cell hq i).trans (by simpa using hu)⟩⟩
theorem C_two {w : World} {q c c' : Nat} {x y : S25} {A A' : Option Addr} (hq : w.heap[q]? = some (.cells (six x A c ++ six y A' c').toArray 25 (0,0))) (hn : ND w x A c) (hm : ND w y A' c') : Kd.C k25 w (some ⟨q,0,none⟩) 2 [x,y] :=
 ⟨rfl,by decide,fun _ => ⟨_,rfl,fun j p hj => by
  match j,hj with
  | 0,hj =>
   obtain rfl:=Option.some.inj hj;refine ⟨six x A c,rfl,k25_mk w x hn.le hn.C,fun i u hu => ?_⟩;rw [addr_at,show 0 * k25.sz + i = i from by omega];refine (blk_cell hq i).trans ?_;have hi : i < (six x A c).length:=(List.getElem?_eq_some_iff.1 hu).1;rw [List.getElem?_toArray,List.getElem?_append_left hi,hu]
  | 1,hj =>
   obtain rfl:=Option.some.inj hj;refine ⟨six y A' c',rfl,k25_mk w y hm.le hm.C,fun i u hu => ?_⟩;rw [addr_at,show 1 * k25.sz + i = 6 + i from by rw [show k25.sz = 6 from rfl]];refine (blk_cell hq (6 + i)).trans ?_;rw [List.getElem?_toArray,List.getElem?_append_right (by simp),show 6 + i - (six x A c).length = i from by simp,hu]⟩⟩
end Go.Proofs.YtboojhadfhpdeaaGreatDoor.Q
namespace Go.Proofs.YtboojhadfhpdeaaGreatDoor.Q
open Go.RowKit Go.Proofs.YtboojhadfhpdeaaGreatDoorW.PrintWords Go.Proofs.YtboojhadfhpdeaaGreatDoorW.PrintLast Go.Proofs.YtboojhadfhpdeaaGreatDoorW.PrintMore
set_option linter.unusedVariables false
set_option linter.unusedSimpArgs false
abbrev txt : List Int:=[105,110,116,32,120,32,61,32,49,59,10]
section
variable {ops : Array Oper} {rest : List Oper} {o : Oper} {a : Act} {Q : Exit → Act → World → Prop} {W : World}
theorem ev_box42 (hgd : o.guard = none) {N : Tmp} (_hd : o.dst = some N) {p : Operand} (ho : o.op = .box 42 p) (hx : a.eval p = .agg #[.slice none 0 0])
 (K : ∀ g w',W.heap.size ≤ g → w'.heap[g]? = some (.cells #[.slice none 0 0] 42 (0,0)) → Below W.heap.size W w' → wpList Tryz.prog ops Q rest (a.put o.dst (.pointer (some ⟨g,0,none⟩))) w') : wpList Tryz.prog ops Q (o :: rest) a W:=by
 refine box_event hgd _hd (cs:=#[.slice none 0 0]) (t:=42) ?_ (fun g hg w1 h1 h2 => K g w1 (by omega) h1 h2);simp only [execOp,ho,hx];go_simp;try rfl
end
theorem own_slice2 {w : World} {b n : Nat} {v : Value} {xs : List Value} (h : w.ownsRow b 5 1 v n xs) : ∃ A c,v = .slice A n c:=by
 rcases h.2 with ⟨rfl,rfl⟩ | ⟨g,cap,cur,rfl,_⟩
 · exact ⟨none,0,rfl⟩
 · exact ⟨_,cap,rfl⟩
theorem PB.new {b g : Nat} {w : World} (hb : b ≤ g) (hw : b ≤ w.heap.size) (h : w.heap[g]? = some (.cells #[.slice none 0 0] 42 (0,0))) : PB b g [] w:=⟨hb,hw,_,h,rfl,.inl ⟨rfl,rfl⟩⟩
set_option maxHeartbeats 8000000 in
set_option maxRecDepth 100000 in
theorem PB.row {b p : Nat} {w : World} (h : PB b p txt w) : ∃ A c,w.heap[p]? = some (.cells #[.slice A 11 c] 42 (0,0)) ∧ (convert 40 9 (.slice A 11 c)).run Tryz.prog w = .ok (.string ⟨#[105,110,116,32,120,32,61,32,49,59,10]⟩) w:=by
 obtain ⟨v,h1,h2⟩:=h.ex;have h3:=own_string (P:=Tryz.prog) (src:=40) (dst:=9) (e:=5) rfl rfl rfl h2;have e : strOfNums txt = ⟨#[105,110,116,32,120,32,61,32,49,59,10]⟩:=by kernel_rfl
 rw [e] at h3;obtain ⟨A,c,rfl⟩:=own_slice2 h2;exact ⟨A,c,h1,h3⟩
def PrintP (w : World) (e : Ending) (w' : World) : Prop:=e = .returned (.tuple #[.string ⟨#[105,110,116,32,120,32,61,32,49,59,10]⟩,.int .i64 0]) ∧ Below w.heap.size w w'
set_option maxHeartbeats 8000000 in
set_option maxRecDepth 100000 in
theorem Print.prog (A : Option Addr) (c : Nat) (w : World) (hG : PremW w) (hn : ND w nProg A c) : Calls Tryz.prog 11 #[.agg #[.int .i64 40,.string ⟨#[]⟩,.int .u32 0,.bool false,.slice A 1 c,.int .i64 0]] w (PrintP w):=by
 have HG0:=Aside0.mk hG;have HN0:=Aside0.mk hn;have HB:=Aside0.mk (below_alloc (Below.refl w.heap.size w) (.cells #[.int .i64 40,.string ⟨#[]⟩,.int .u32 0,.bool false,.slice A 1 c,.int .i64 0] 25 (0,0)));have HG:=Aside0.mk (hG.below HB.out);have HN:=Aside0.mk (hn.below HB.out);clear hG hn;go_enter Tryz.func11,Tryz.ntmps11
 go_wp2_with (first
  | (go_at_call 8;((refine (Check.prog A c _ HG.out HN.out).mono ?_);rintro e w1 ⟨rfl,hB⟩);have HB1:=Aside0.mk (below_then HB.out HB.out.size hB);have HN1:=Aside0.mk (HN.out.below hB);have HG1:=Aside0.mk (HG.out.below hB);(have HX_w1 : NB w1 w.heap.size nProg A c:=NB.below (blk_new w _) hB);obtain ⟨c0,c1,c2,c3,c4,c5⟩:=HX_w1.cells;have HXA_w1:=Aside0.mk HX_w1;dsimp only [nProg,List.length_cons,List.length_nil] at c0 c1 c2 c3 c4 c5;clear HX_w1;clear hB)
  | (go_at_call 26;((refine (all_p.prog g [] A c w w2 HB2.out HP2.out HG0.out HN0.out (by decide)).mono ?_);rintro e w3 ⟨rfl,hP,hW,hF⟩);obtain ⟨A3,c3,hp3,hcv⟩:=PB.row hP;have cp3:=(blk_cell hp3 0).trans (show #[Value.slice A3 11 c3][0]? = some (.slice A3 11 c3) from rfl);have HW3:=Aside0.mk hW;clear hP hW hF hp3)
  | (refine ev_box42 rfl rfl rfl rfl ?_;rintro g w2 hg hz hB;have HB2:=Aside0.mk (below_then HB1.out HB1.out.size hB);have HP2:=Aside0.mk (PB.new (b:=w.heap.size) (by have:=HB1.out.size;omega) HB2.out.size hz);(have HX_w2 : NB w2 w.heap.size nProg A c:=NB.below HXA_w1.out hB);obtain ⟨c0,c1,c2,c3,c4,c5⟩:=HX_w2.cells;have HXA_w2:=Aside0.mk HX_w2;dsimp only [nProg,List.length_cons,List.length_nil] at c0 c1 c2 c3 c4 c5;clear HX_w2;clear hg hz hB)
  | fail)
 go_ret2
 exact ⟨rfl,HW3.out⟩
set_option maxHeartbeats 8000000 in
set_option maxRecDepth 100000 in
theorem own.calls (w : World) : Calls Tryz.prog 25 #[] w (fun e w' => ∃ A c,e = .returned (val nProg A c) ∧ ND w' nProg A c ∧ Below w.heap.size w w'):=by
 go_enter Tryz.func25,Tryz.ntmps25
 go_wp2_with (first
  | (with_reducible refine ev_alloc25 rfl (N:=0) rfl rfl ?_;rintro g0 wa hg hz hB;have HG0:=Aside0.mk hg;have HBa:=Aside0.mk hB;have HZ0:=Aside0.mk hz;clear hg hz hB)
  | (with_reducible refine ev_alloc25 rfl (N:=1) rfl rfl ?_;rintro g1 wc hg hz hB;have HG1:=Aside0.mk (show g1 = wa.heap.size + 1 from by rw [hg];simp);have HQ1:=Aside0.mk (blk_below (blk_new wa _) hB);have HZ0c:=Aside0.mk (blk_below (blk_alloc HZ0.out _) hB);have HBc:=Aside0.mk (below_then (HBa.out.alloc HBa.out.size _) (HBa.out.alloc HBa.out.size _).size hB);have HZ1:=Aside0.mk hz;clear hg hz hB)
  | (refine ev_store25k rfl rfl (n:=1) rfl (x:=nVar) (A:=some ⟨wa.heap.size,0,none⟩) (c:=1) rfl rfl HZ1.out ?_;rintro wd hN hB hk;obtain ⟨b0,b1,b2,b3,b4,b5⟩:=hN.cells;dsimp only [nVar,List.length_cons,List.length_nil] at b0 b1 b2 b3 b4 b5;have HQ1d:=Aside0.mk ((hk _ (by have:=HG1.out;omega)).trans HQ1.out);have HZ0d:=Aside0.mk ((hk _ (by have:=HG1.out;have:=blk_lt HZ0.out;omega)).trans HZ0c.out);have HBd:=Aside0.mk (HBc.out.trans (hB.mono (by have:=HG1.out;have:=HBa.out.size;omega)));clear hN hB hk)
  | (refine ev_store25k rfl rfl (n:=0) rfl (x:=nProg) (A:=some ⟨wd.heap.size + 1,0,none⟩) (c:=1) rfl rfl (blk_alloc (blk_alloc HZ0d.out _) _) ?_;rintro we hN hB hk;have HN:=Aside0.mk hN;have HQ1e:=Aside0.mk ((hk _ (by have:=blk_lt HZ0.out;omega)).trans (blk_alloc (blk_alloc HQ1d.out _) _));have HQ2e:=Aside0.mk ((hk _ (by have:=blk_lt HZ0d.out;omega)).trans (blk_alloc (blk_new wd _) _));have HQ3e:=Aside0.mk ((hk _ (by have:=blk_lt HZ0d.out;omega)).trans (blk_new1 wd _ _));have HBe:=Aside0.mk (((HBd.out.alloc HBd.out.size _).alloc ((HBd.out.alloc HBd.out.size _).size) _).trans (hB.mono (Nat.le_of_eq HG0.out.symm)));clear hN hB hk)
  | fail)
 have n1 : ND we nNum none 0:=⟨Nat.le_refl _,C_none _ _⟩
 have n2 : ND we nVar (some ⟨wa.heap.size,0,none⟩) 1:=⟨Nat.le_refl _,C_one (c:=0) (A:=none) HQ1e.out n1⟩
 have n3 : ND we nType none 0:=⟨Nat.le_refl _,C_none _ _⟩
 have n4 : ND we nVars (some ⟨wd.heap.size,0,none⟩) 2:=⟨Nat.le_refl _,C_two (c:=0) (A:=none) (c' := 1) HQ2e.out n3 n2⟩
 have n5 : ND we nProg (some ⟨wd.heap.size + 1,0,none⟩) 1:=⟨Nat.le_refl _,C_one (c:=2) HQ3e.out n4⟩
 refine bodyPost_ret (results_cell_row rfl _ _ g0 25 (six nProg (some ⟨wd.heap.size + 1,0,none⟩) 1).toArray (0,0) _ rfl HN.out Tryz.underlying25 rfl (by kernel_rfl)) rfl ?_;exact ⟨_,_,rfl,n5,HBe.out⟩
set_option maxHeartbeats 8000000 in
set_option maxRecDepth 100000 in
theorem awake.calls (w : World) (hG : PremW w) : Calls Tryz.prog 10 #[] w (fun e w' => e = .returned (.bool true) ∧ Below w.heap.size w w'):=by
 have HG:=Aside0.mk hG;clear hG;go_enter Tryz.func10,Tryz.ntmps10
 go_wp2_with (first
  | (go_at_call 11;((refine (Print.prog A1 c1 _ HG1.out HN1.out).mono ?_);rintro e w2 ⟨rfl,hB⟩);have HB2:=Aside0.mk (below_then HB1.out HB1.out.size hB);clear hB)
  | (go_at_call 16;((refine (Size.prog A3 c3 _ HN3.out).mono ?_);rintro e w4 ⟨rfl,hB⟩);have HB4:=Aside0.mk (below_then HB3.out HB3.out.size hB);clear hB)
  | (go_at_call 25;have hc:=HB2.out;clear hc;((refine (own.calls _).mono ?_);rintro e w3 ⟨A3,c3,rfl,hn,hB⟩);have HB3:=Aside0.mk (below_then HB2.out HB2.out.size hB);have HN3:=Aside0.mk hn;clear hB hn)
  | (go_at_call 25;((refine (own.calls _).mono ?_);rintro e w1 ⟨A1,c1,rfl,hn,hB⟩);have HB1:=Aside0.mk hB;have HG1:=Aside0.mk (HG.out.below hB);have HN1:=Aside0.mk hn;clear hB hn)
  | fail)
 go_ret
 exact ⟨rfl,HB4.out⟩
end Go.Proofs.YtboojhadfhpdeaaGreatDoor.Q
namespace Go.Proofs.YtboojhadfhpdeaaGreatDoor.Q
open Go.RowKit
def cruciblelaw08_awake.f : Option Bool:=some true
theorem cruciblelaw08_awake.calls (r : Bool) (w : World) (hG : PremW w) (h : cruciblelaw08_awake.f = some r) : Calls Tryz.prog 10 #[] w fun e w' => e = .returned (.bool r) ∧ Below w.heap.size w w' := by
 obtain rfl:=Option.some.inj h;exact awake.calls w hG
end Go.Proofs.YtboojhadfhpdeaaGreatDoor.Q
namespace Go.Proofs.YtboojhadfhpdeaaGreatDoor.Q
open Go.RowKit Go.Proofs.YtboojhadfhpdeaaGreatDoorW.PrintWords Go.Proofs.YtboojhadfhpdeaaGreatDoorW.PrintLast Go.Proofs.YtboojhadfhpdeaaGreatDoorW.PrintMore
attribute [local go_sem] max2_int min2_int max_two min_two max_three min_three max_four min_four
set_option linter.unusedVariables false
set_option linter.unusedSimpArgs false
def crucibleref07_letter.f (a0 : Int) : Option (Bool):=if a0 ≥ 97 then (if a0 ≤ 122 then (some true) else (if a0 ≥ 65 then (if a0 ≤ 90 then (some true) else (some (a0 == 95))) else (some (a0 == 95)))) else (if a0 ≥ 65 then (if a0 ≤ 90 then (some true) else (some (a0 == 95))) else (some (a0 == 95)))
set_option maxHeartbeats 8000000 in
set_option maxRecDepth 100000 in
theorem crucibleref07_letter.calls (a0 : Int) (r : Bool) (w : World) (h : crucibleref07_letter.f a0 = some r) :
 Calls Tryz.prog 81 #[.int .u8 a0] w fun e w' => e = .returned (.bool r) ∧ Drawn0 w w' := by
 have H : (if a0 ≥ 97 then (if a0 ≤ 122 then (some true) else (if a0 ≥ 65 then (if a0 ≤ 90 then (some true) else (some (a0 == 95))) else (some (a0 == 95)))) else (if a0 ≥ 65 then (if a0 ≤ 90 then (some true) else (some (a0 == 95))) else (some (a0 == 95)))) = some r:=h;clear h;by_cases c2 : a0 ≥ 97
 · rw [if_pos c2] at H;have c2b0 : decide (97 ≤ a0) = true:=decide_eq_true c2;clear c2;by_cases c3 : a0 ≤ 122
   · rw [if_pos c3] at H;have c3b0 : decide (a0 ≤ 122) = true:=decide_eq_true c3;clear c3;obtain rfl:=Option.some.inj H;go_enter Tryz.func81,Tryz.ntmps81
     go_wp2
     go_ret
     exact ⟨by first|rfl|(simp;done)|(simp [*];done),by repeat (first|exact Drawn0.refl _|apply Drawn0.step)⟩
   · rw [if_neg c3] at H;have c3b0 : decide (a0 ≤ 122) = false:=decide_eq_false c3;clear c3;by_cases c4 : a0 ≥ 65
     · rw [if_pos c4] at H;have c4b0 : decide (65 ≤ a0) = true:=decide_eq_true c4;clear c4;by_cases c5 : a0 ≤ 90
       · rw [if_pos c5] at H;have c5b0 : decide (a0 ≤ 90) = true:=decide_eq_true c5;clear c5;obtain rfl:=Option.some.inj H;go_enter Tryz.func81,Tryz.ntmps81
         go_wp2
         go_ret
         exact ⟨by first|rfl|(simp;done)|(simp [*];done),by repeat (first|exact Drawn0.refl _|apply Drawn0.step)⟩
       · rw [if_neg c5] at H;have c5b0 : decide (a0 ≤ 90) = false:=decide_eq_false c5;clear c5;obtain rfl:=Option.some.inj H;go_enter Tryz.func81,Tryz.ntmps81
         go_wp2
         go_ret
         exact ⟨by first|rfl|(simp;done)|(simp [*];done),by repeat (first|exact Drawn0.refl _|apply Drawn0.step)⟩
     · rw [if_neg c4] at H;have c4b0 : decide (65 ≤ a0) = false:=decide_eq_false c4;clear c4;obtain rfl:=Option.some.inj H;go_enter Tryz.func81,Tryz.ntmps81
       go_wp2
       go_ret
       exact ⟨by first|rfl|(simp;done)|(simp [*];done),by repeat (first|exact Drawn0.refl _|apply Drawn0.step)⟩
 · rw [if_neg c2] at H;have c2b0 : decide (97 ≤ a0) = false:=decide_eq_false c2;clear c2;by_cases c6 : a0 ≥ 65
   · rw [if_pos c6] at H;have c6b0 : decide (65 ≤ a0) = true:=decide_eq_true c6;clear c6;by_cases c7 : a0 ≤ 90
     · rw [if_pos c7] at H;have c7b0 : decide (a0 ≤ 90) = true:=decide_eq_true c7;clear c7;obtain rfl:=Option.some.inj H;go_enter Tryz.func81,Tryz.ntmps81
       go_wp2
       go_ret
       exact ⟨by first|rfl|(simp;done)|(simp [*];done),by repeat (first|exact Drawn0.refl _|apply Drawn0.step)⟩
     · rw [if_neg c7] at H;have c7b0 : decide (a0 ≤ 90) = false:=decide_eq_false c7;clear c7;obtain rfl:=Option.some.inj H;go_enter Tryz.func81,Tryz.ntmps81
       go_wp2
       go_ret
       exact ⟨by first|rfl|(simp;done)|(simp [*];done),by repeat (first|exact Drawn0.refl _|apply Drawn0.step)⟩
   · rw [if_neg c6] at H;have c6b0 : decide (65 ≤ a0) = false:=decide_eq_false c6;clear c6;obtain rfl:=Option.some.inj H;go_enter Tryz.func81,Tryz.ntmps81
     go_wp2
     go_ret
     exact ⟨by first|rfl|(simp;done)|(simp [*];done),by repeat (first|exact Drawn0.refl _|apply Drawn0.step)⟩
end Go.Proofs.YtboojhadfhpdeaaGreatDoor.Q
namespace Go.Proofs.YtboojhadfhpdeaaGreatDoor.Q
open Go.RowKit Go.Proofs.YtboojhadfhpdeaaGreatDoorW.PrintWords Go.Proofs.YtboojhadfhpdeaaGreatDoorW.PrintLast Go.Proofs.YtboojhadfhpdeaaGreatDoorW.PrintMore
attribute [local go_sem] max2_int min2_int max_two min_two max_three min_three max_four min_four
set_option linter.unusedVariables false
set_option linter.unusedSimpArgs false
def crucibleref07_digit.f (a0 : Int) : Option (Bool):=if a0 ≥ 48 then (some (decide (a0 ≤ 57))) else (some false)
set_option maxHeartbeats 8000000 in
set_option maxRecDepth 100000 in
theorem crucibleref07_digit.calls (a0 : Int) (r : Bool) (w : World) (h : crucibleref07_digit.f a0 = some r) :
 Calls Tryz.prog 82 #[.int .u8 a0] w fun e w' => e = .returned (.bool r) ∧ Drawn0 w w' := by
 have H : (if a0 ≥ 48 then (some (decide (a0 ≤ 57))) else (some false)) = some r:=h;clear h;by_cases c2 : a0 ≥ 48
 · rw [if_pos c2] at H;have c2b0 : decide (48 ≤ a0) = true:=decide_eq_true c2;clear c2;obtain rfl:=Option.some.inj H;go_enter Tryz.func82,Tryz.ntmps82
   go_wp2
   go_ret
   exact ⟨by first|rfl|(simp;done)|(simp [*];done),by repeat (first|exact Drawn0.refl _|apply Drawn0.step)⟩
 · rw [if_neg c2] at H;have c2b0 : decide (48 ≤ a0) = false:=decide_eq_false c2;clear c2;obtain rfl:=Option.some.inj H;go_enter Tryz.func82,Tryz.ntmps82
   go_wp2
   go_ret
   exact ⟨by first|rfl|(simp;done)|(simp [*];done),by repeat (first|exact Drawn0.refl _|apply Drawn0.step)⟩
end Go.Proofs.YtboojhadfhpdeaaGreatDoor.Q
namespace Go.Proofs.YtboojhadfhpdeaaGreatDoor.Q
open Go.RowKit Go.Proofs.YtboojhadfhpdeaaGreatDoorW.PrintWords Go.Proofs.YtboojhadfhpdeaaGreatDoorW.PrintLast Go.Proofs.YtboojhadfhpdeaaGreatDoorW.PrintMore
attribute [local go_sem] max2_int min2_int max_two min_two max_three min_three max_four min_four
set_option linter.unusedVariables false
set_option linter.unusedSimpArgs false
def crucibleref07_Named.l0 : Nat → ByteArray → Int → Option (Bool)
 | 0,_,_ => none
 | k + 1,x0,x3 => if x3 < (x0.size : Int) then (if 0 ≤ x3 then ((crucibleref07_letter.f (bt x0 x3)).bind fun t107 => (if t107 = true then (crucibleref07_Named.l0 k x0 (wrap64 (x3 + 1))) else (if x3 = 0 then (some false) else ((crucibleref07_digit.f (bt x0 x3)).bind fun t108 => (if t108 = true then (crucibleref07_Named.l0 k x0 (wrap64 (x3 + 1))) else (some false)))))) else (none)) else (some (x0.toList != ([] : List UInt8)))
def crucibleref07_Named.f (k : Nat) (a0 : ByteArray) : Option (Bool):=crucibleref07_Named.l0 k a0 0
theorem crucibleref07_Named.mono_l : ∀ k,(∀ y0 y1,LeO (crucibleref07_Named.l0 k y0 y1) (crucibleref07_Named.l0 (k + 1) y0 y1))
 | 0 => fun _ _ r h => by simp [crucibleref07_Named.l0] at h
 | k + 1 => by
  have ih0:=crucibleref07_Named.mono_l k
  · intro y0 y1;unfold crucibleref07_Named.l0
    repeat' first
    | (with_reducible exact ih0 _ _)
    | (with_reducible exact LeO.refl _)
    | (with_reducible exact LeO.none _)
    | (with_reducible refine LeO.ite ?_ ?_)
    | (with_reducible refine LeO.bind ?_ (fun _ => ?_))
    | exact ih0 _ _
    | exact LeO.none _
    | refine LeO.ite ?_ ?_
    | refine LeO.bind ?_ (fun _ => ?_)
theorem crucibleref07_Named.mono : ∀ a0 k,LeO (crucibleref07_Named.f k a0) (crucibleref07_Named.f (k + 1) a0):=by
 intro a0 k;have ih0:=crucibleref07_Named.mono_l k;unfold crucibleref07_Named.f
 repeat' first
  | (with_reducible exact ih0 _ _)
  | (with_reducible exact LeO.refl _)
  | (with_reducible exact LeO.none _)
  | (with_reducible refine LeO.ite ?_ ?_)
  | (with_reducible refine LeO.bind ?_ (fun _ => ?_))
  | exact ih0 _ _
  | exact LeO.none _
  | refine LeO.ite ?_ ?_
  | refine LeO.bind ?_ (fun _ => ?_)
set_option maxHeartbeats 8000000 in
set_option maxRecDepth 100000 in
theorem crucibleref07_Named.calls (k : Nat) (a0 : ByteArray) (r : Bool) (w : World) (h : crucibleref07_Named.f k a0 = some r) :
 Calls Tryz.prog 47 #[.string a0] w fun e w' => e = .returned (.bool r) ∧ Drawn0 w w' := by
 have H : (crucibleref07_Named.l0 k a0 0) = some r:=h;clear h;have H' := Aside0.mk H;clear H;go_enter Tryz.func47,Tryz.ntmps47
 go_wp2
 go_loopg [3] k (fun kq v3 w' => ∃ (x3_1 : Int),v3 = .int .i64 x3_1 ∧ Aside0 (crucibleref07_Named.l0 kq a0 x3_1 = some r) ∧ Aside0 (kq ≤ k) ∧ Drawn0 w w')
 case atStart => exact ⟨(0),(by first|rfl|(simp;done)|(simp [*];done)),H',⟨Nat.le_refl _⟩,by repeat (first|exact Drawn0.refl _|apply Drawn0.step)⟩
 case round =>
  clear H';obtain ⟨x3_1,rfl,HA,HK1,⟨m1,rfl⟩⟩:=hrel;cases gk with
  | zero => exact absurd HA.out (by simp [crucibleref07_Named.l0])
  | succ k1 =>
   have H:=HA.out;clear HA;simp only [crucibleref07_Named.l0] at H;by_cases c2 : x3_1 < (a0.size : Int)
   · rw [if_pos c2] at H;have c2b0 : decide (x3_1 < (a0.size : Int)) = true:=decide_eq_true c2;clear c2;by_cases c3 : 0 ≤ x3_1
     · rw [if_pos c3] at H;have c3b0 : decide (0 ≤ x3_1) = true:=decide_eq_true c3;clear c3;replace H:=Option.bind_eq_some_iff.mp H;obtain ⟨t107,A50,H⟩:=H;replace H : (if t107 = true then (crucibleref07_Named.l0 k1 a0 (wrap64 (x3_1 + 1))) else (if x3_1 = 0 then (some false) else ((crucibleref07_digit.f (bt a0 x3_1)).bind fun t108 => (if t108 = true then (crucibleref07_Named.l0 k1 a0 (wrap64 (x3_1 + 1))) else (some false))))) = some r:=H;have A5:=Aside0.mk A50;clear A50;by_cases c6 : t107 = true
       · subst c6;have H1 : (crucibleref07_Named.l0 k1 a0 (wrap64 (x3_1 + 1))) = some r:=by rw [if_pos rfl] at H;exact H
         clear H;have H:=H1;clear H1;have H' := Aside0.mk H;clear H;have p4 : 0 ≤ (x3_1 : Int):=of_decide_eq_true (by first|(with_reducible assumption)|assumption);have q4 : x3_1 < (a0.size : Int):=of_decide_eq_true (by first|(with_reducible assumption)|assumption);have hx4:=bt_at a0 x3_1;replace p4:=eq_true p4;replace q4:=eq_true q4;go_wp2_with (first|((with_reducible refine gate_callee (f:=81) rfl ?_);refine goesL_ (some 13) rfl rfl Tryz.func81 (by kernel_rfl) rfl #[.int .u8 (bt a0 x3_1)] rfl (by (try simp only [List.map_toArray,List.map_cons,List.map_nil]);first|done|rfl|(simp only [List.length_drop,List.length_take];rfl)) ?_;(with_reducible refine (crucibleref07_letter.calls (bt a0 x3_1) true _ A5.out).mono ?_);rintro e w' ⟨rfl,⟨nd,rfl⟩⟩;refine ⟨_,rfl,?_⟩))
         go_roundg k1
         case measure => have:=HK1.out;omega
         case rel => exact ⟨(wrap64 (x3_1 + 1)),(by first|rfl|(simp;done)|(simp [*];done)),H',⟨by have:=HK1.out;omega⟩,by repeat (first|exact Drawn0.refl _|apply Drawn0.step)⟩
       · replace c6:=Bool.eq_false_iff.mpr c6;subst c6;have H1 : (if x3_1 = 0 then (some false) else ((crucibleref07_digit.f (bt a0 x3_1)).bind fun t108 => (if t108 = true then (crucibleref07_Named.l0 k1 a0 (wrap64 (x3_1 + 1))) else (some false)))) = some r:=by rw [if_neg (show ¬ (false = true) by decide)] at H;exact H
         clear H;have H:=H1;clear H1;by_cases c7 : x3_1 = 0
         · rw [if_pos c7] at H;have c7b0 : (x3_1 == 0) = true:=beq_iff_eq.mpr c7;have c7b1 : (x3_1 != 0) = false:=bne_eq_false_iff_eq.mpr c7;clear c7;obtain rfl:=Option.some.inj H;have p4 : 0 ≤ (x3_1 : Int):=of_decide_eq_true (by first|(with_reducible assumption)|assumption);have q4 : x3_1 < (a0.size : Int):=of_decide_eq_true (by first|(with_reducible assumption)|assumption);have hx4:=bt_at a0 x3_1;replace p4:=eq_true p4;replace q4:=eq_true q4;go_wp2_with (first|((with_reducible refine gate_callee (f:=81) rfl ?_);refine goesL_ (some 13) rfl rfl Tryz.func81 (by kernel_rfl) rfl #[.int .u8 (bt a0 x3_1)] rfl (by (try simp only [List.map_toArray,List.map_cons,List.map_nil]);first|done|rfl|(simp only [List.length_drop,List.length_take];rfl)) ?_;(with_reducible refine (crucibleref07_letter.calls (bt a0 x3_1) false _ A5.out).mono ?_);rintro e w' ⟨rfl,⟨nd,rfl⟩⟩;refine ⟨_,rfl,?_⟩))
           go_ret
           exact ⟨by first|rfl|(simp;done)|(simp [*];done),by repeat (first|exact Drawn0.refl _|apply Drawn0.step)⟩
         · rw [if_neg c7] at H;have c7b0 : (x3_1 == 0) = false:=beq_eq_false_iff_ne.mpr c7;have c7b1 : (x3_1 != 0) = true:=bne_iff_ne.mpr c7;replace H:=Option.bind_eq_some_iff.mp H;obtain ⟨t108,A90,H⟩:=H;replace H : (if t108 = true then (crucibleref07_Named.l0 k1 a0 (wrap64 (x3_1 + 1))) else (some false)) = some r:=H;have A9:=Aside0.mk A90;clear A90;by_cases c10 : t108 = true
           · subst c10;have H1 : (crucibleref07_Named.l0 k1 a0 (wrap64 (x3_1 + 1))) = some r:=by rw [if_pos rfl] at H;exact H
             clear H;have H:=H1;clear H1;have H' := Aside0.mk H;clear H;have p4 : 0 ≤ (x3_1 : Int):=of_decide_eq_true (by first|(with_reducible assumption)|assumption);have q4 : x3_1 < (a0.size : Int):=of_decide_eq_true (by first|(with_reducible assumption)|assumption);have hx4:=bt_at a0 x3_1;replace p4:=eq_true p4;replace q4:=eq_true q4;go_wp2_with (first|((with_reducible refine gate_callee (f:=81) rfl ?_);refine goesL_ (some 13) rfl rfl Tryz.func81 (by kernel_rfl) rfl #[.int .u8 (bt a0 x3_1)] rfl (by (try simp only [List.map_toArray,List.map_cons,List.map_nil]);first|done|rfl|(simp only [List.length_drop,List.length_take];rfl)) ?_;(with_reducible refine (crucibleref07_letter.calls (bt a0 x3_1) false _ A5.out).mono ?_);rintro e w' ⟨rfl,⟨nd,rfl⟩⟩;refine ⟨_,rfl,?_⟩;have p8 : 0 ≤ (x3_1 : Int):=of_decide_eq_true (by first|(with_reducible assumption)|assumption);have q8 : x3_1 < (a0.size : Int):=of_decide_eq_true (by first|(with_reducible assumption)|assumption);have hx8:=bt_at a0 x3_1;replace p8:=eq_true p8;replace q8:=eq_true q8)|(go_at_call 82;(with_reducible refine (crucibleref07_digit.calls (bt a0 x3_1) true _ A9.out).mono ?_);rintro e w' ⟨rfl,⟨nd,rfl⟩⟩))
             go_roundg k1
             case measure => have:=HK1.out;omega
             case rel => exact ⟨(wrap64 (x3_1 + 1)),(by first|rfl|(simp;done)|(simp [*];done)),H',⟨by have:=HK1.out;omega⟩,by repeat (first|exact Drawn0.refl _|apply Drawn0.step)⟩
           · replace c10:=Bool.eq_false_iff.mpr c10;subst c10;have H1 : (some false) = some r:=by rw [if_neg (show ¬ (false = true) by decide)] at H;exact H
             clear H;have H:=H1;clear H1;obtain rfl:=Option.some.inj H;have p4 : 0 ≤ (x3_1 : Int):=of_decide_eq_true (by first|(with_reducible assumption)|assumption);have q4 : x3_1 < (a0.size : Int):=of_decide_eq_true (by first|(with_reducible assumption)|assumption);have hx4:=bt_at a0 x3_1;replace p4:=eq_true p4;replace q4:=eq_true q4;go_wp2_with (first|((with_reducible refine gate_callee (f:=81) rfl ?_);refine goesL_ (some 13) rfl rfl Tryz.func81 (by kernel_rfl) rfl #[.int .u8 (bt a0 x3_1)] rfl (by (try simp only [List.map_toArray,List.map_cons,List.map_nil]);first|done|rfl|(simp only [List.length_drop,List.length_take];rfl)) ?_;(with_reducible refine (crucibleref07_letter.calls (bt a0 x3_1) false _ A5.out).mono ?_);rintro e w' ⟨rfl,⟨nd,rfl⟩⟩;refine ⟨_,rfl,?_⟩;have p8 : 0 ≤ (x3_1 : Int):=of_decide_eq_true (by first|(with_reducible assumption)|assumption);have q8 : x3_1 < (a0.size : Int):=of_decide_eq_true (by first|(with_reducible assumption)|assumption);have hx8:=bt_at a0 x3_1;replace p8:=eq_true p8;replace q8:=eq_true q8)|(go_at_call 82;(with_reducible refine (crucibleref07_digit.calls (bt a0 x3_1) false _ A9.out).mono ?_);rintro e w' ⟨rfl,⟨nd,rfl⟩⟩))
             go_ret
             exact ⟨by first|rfl|(simp;done)|(simp [*];done),by repeat (first|exact Drawn0.refl _|apply Drawn0.step)⟩
     · rw [if_neg c3] at H;exact absurd H (by simp)
   · rw [if_neg c2] at H;have c2b0 : decide (x3_1 < (a0.size : Int)) = false:=decide_eq_false c2;clear c2;obtain rfl:=Option.some.inj H;go_wp2
     go_ret
     exact ⟨by first|rfl|(cases h_ : a0.toList <;> rfl),by repeat (first|exact Drawn0.refl _|apply Drawn0.step)⟩
end Go.Proofs.YtboojhadfhpdeaaGreatDoor.Q
namespace Go.Proofs.YtboojhadfhpdeaaGreatDoor.Q
open Go.RowKit Go.Proofs.YtboojhadfhpdeaaGreatDoorW.PrintWords Go.Proofs.YtboojhadfhpdeaaGreatDoorW.PrintLast Go.Proofs.YtboojhadfhpdeaaGreatDoorW.PrintMore
attribute [local go_sem] max2_int min2_int max_two min_two max_three min_three max_four min_four
set_option linter.unusedVariables false
set_option linter.unusedSimpArgs false
def crucibleref07_Reserved.l0 : Nat → ByteArray → Int → Option (Bool)
 | 0,_,_ => none
 | k + 1,x0,x3 => if (wrap64 ((wrap64 (x3 + (x0.size : Int))) + 2)) ≤ 93 then (if 0 ≤ x3 then (if x3 < 93 then (if (bt (⟨#[32,98,114,101,97,107,32,99,104,97,114,32,99,111,110,116,105,110,117,101,32,100,111,32,101,108,115,101,32,102,111,114,32,103,101,116,98,121,116,101,32,105,102,32,105,110,116,32,112,117,116,98,121,116,101,32,114,101,116,117,114,110,32,115,105,122,101,111,102,32,115,116,114,117,99,116,32,117,105,110,116,32,118,111,105,100,32,119,104,105,108,101,32]⟩ : ByteArray) x3) = 32 then (if 0 ≤ (wrap64 (x3 + 1)) then (if (wrap64 (x3 + 1)) ≤ (wrap64 ((wrap64 (x3 + 1)) + (x0.size : Int))) then (if (wrap64 ((wrap64 (x3 + 1)) + (x0.size : Int))) ≤ 93 then (if ((⟨#[32,98,114,101,97,107,32,99,104,97,114,32,99,111,110,116,105,110,117,101,32,100,111,32,101,108,115,101,32,102,111,114,32,103,101,116,98,121,116,101,32,105,102,32,105,110,116,32,112,117,116,98,121,116,101,32,114,101,116,117,114,110,32,115,105,122,101,111,102,32,115,116,114,117,99,116,32,117,105,110,116,32,118,111,105,100,32,119,104,105,108,101,32]⟩ : ByteArray).extract ((wrap64 (x3 + 1)) : Int).toNat ((wrap64 ((wrap64 (x3 + 1)) + (x0.size : Int))) : Int).toNat).toList = x0.toList then (if 0 ≤ (wrap64 ((wrap64 (x3 + 1)) + (x0.size : Int))) then (if (wrap64 ((wrap64 (x3 + 1)) + (x0.size : Int))) < 93 then (if (bt (⟨#[32,98,114,101,97,107,32,99,104,97,114,32,99,111,110,116,105,110,117,101,32,100,111,32,101,108,115,101,32,102,111,114,32,103,101,116,98,121,116,101,32,105,102,32,105,110,116,32,112,117,116,98,121,116,101,32,114,101,116,117,114,110,32,115,105,122,101,111,102,32,115,116,114,117,99,116,32,117,105,110,116,32,118,111,105,100,32,119,104,105,108,101,32]⟩ : ByteArray) (wrap64 ((wrap64 (x3 + 1)) + (x0.size : Int)))) = 32 then (some true) else (crucibleref07_Reserved.l0 k x0 (wrap64 (x3 + 1)))) else (none)) else (none)) else (crucibleref07_Reserved.l0 k x0 (wrap64 (x3 + 1)))) else (none)) else (none)) else (none)) else (crucibleref07_Reserved.l0 k x0 (wrap64 (x3 + 1)))) else (none)) else (none)) else (some false)
def crucibleref07_Reserved.f (k : Nat) (a0 : ByteArray) : Option (Bool):=(crucibleref07_Named.f k a0).bind fun t109 => (if t109 = true then (crucibleref07_Reserved.l0 k a0 0) else (some false))
theorem crucibleref07_Reserved.mono_l : ∀ k,(∀ y0 y1,LeO (crucibleref07_Reserved.l0 k y0 y1) (crucibleref07_Reserved.l0 (k + 1) y0 y1))
 | 0 => fun _ _ r h => by simp [crucibleref07_Reserved.l0] at h
 | k + 1 => by
  have ih0:=crucibleref07_Reserved.mono_l k
  · intro y0 y1;unfold crucibleref07_Reserved.l0
    repeat' first
    | (with_reducible exact ih0 _ _)
    | (with_reducible exact crucibleref07_Named.mono _ _)
    | (with_reducible exact LeO.refl _)
    | (with_reducible exact LeO.none _)
    | (with_reducible refine LeO.ite ?_ ?_)
    | (with_reducible refine LeO.bind ?_ (fun _ => ?_))
    | exact ih0 _ _
    | exact crucibleref07_Named.mono _ _
    | exact LeO.none _
    | refine LeO.ite ?_ ?_
    | refine LeO.bind ?_ (fun _ => ?_)
theorem crucibleref07_Reserved.mono : ∀ a0 k,LeO (crucibleref07_Reserved.f k a0) (crucibleref07_Reserved.f (k + 1) a0):=by
 intro a0 k;have ih0:=crucibleref07_Reserved.mono_l k;unfold crucibleref07_Reserved.f
 repeat' first
  | (with_reducible exact ih0 _ _)
  | (with_reducible exact crucibleref07_Named.mono _ _)
  | (with_reducible exact LeO.refl _)
  | (with_reducible exact LeO.none _)
  | (with_reducible refine LeO.ite ?_ ?_)
  | (with_reducible refine LeO.bind ?_ (fun _ => ?_))
  | exact ih0 _ _
  | exact crucibleref07_Named.mono _ _
  | exact LeO.none _
  | refine LeO.ite ?_ ?_
  | refine LeO.bind ?_ (fun _ => ?_)
set_option maxHeartbeats 8000000 in
set_option maxRecDepth 100000 in
theorem crucibleref07_Reserved.calls (k : Nat) (a0 : ByteArray) (r : Bool) (w : World) (h : crucibleref07_Reserved.f k a0 = some r) :
 Calls Tryz.prog 48 #[.string a0] w fun e w' => e = .returned (.bool r) ∧ Drawn0 w w' := by
 have H : ((crucibleref07_Named.f k a0).bind fun t109 => (if t109 = true then (crucibleref07_Reserved.l0 k a0 0) else (some false))) = some r:=h;clear h;replace H:=Option.bind_eq_some_iff.mp H;obtain ⟨t109,A20,H⟩:=H;replace H : (if t109 = true then (crucibleref07_Reserved.l0 k a0 0) else (some false)) = some r:=H;have A2:=Aside0.mk A20;clear A20;by_cases c3 : t109 = true
 · subst c3;have H1 : (crucibleref07_Reserved.l0 k a0 0) = some r:=by rw [if_pos rfl] at H;exact H
   clear H;have H:=H1;clear H1;have H' := Aside0.mk H;clear H;go_enter Tryz.func48,Tryz.ntmps48
   go_wp2_with (first|((with_reducible refine gate_callee (f:=47) rfl ?_);refine goesL_ (some 5) rfl rfl Tryz.func47 (by kernel_rfl) rfl #[.string a0] rfl (by (try simp only [List.map_toArray,List.map_cons,List.map_nil]);first|done|rfl|(simp only [List.length_drop,List.length_take];rfl)) ?_;(with_reducible refine (crucibleref07_Named.calls k a0 true _ A2.out).mono ?_);rintro e w' ⟨rfl,⟨nd,rfl⟩⟩;refine ⟨_,rfl,?_⟩))
   go_loopg [3] k (fun kq v3 w' => ∃ (x3_1 : Int),v3 = .int .i64 x3_1 ∧ Aside0 (crucibleref07_Reserved.l0 kq a0 x3_1 = some r) ∧ Aside0 (kq ≤ k) ∧ Drawn0 w w')
   case atStart => exact ⟨(0),(by first|rfl|(simp;done)|(simp [*];done)),H',⟨Nat.le_refl _⟩,by repeat (first|exact Drawn0.refl _|apply Drawn0.step)⟩
   case round =>
    clear H';try clear p2
    try clear c3
    obtain ⟨x3_1,rfl,HA,HK1,⟨m1,rfl⟩⟩:=hrel;cases gk with
    | zero => exact absurd HA.out (by simp [crucibleref07_Reserved.l0])
    | succ k1 =>
     have H:=HA.out;clear HA;simp only [crucibleref07_Reserved.l0] at H;by_cases c4 : (wrap64 ((wrap64 (x3_1 + (a0.size : Int))) + 2)) ≤ 93
     · rw [if_pos c4] at H;have c4b0 : decide ((wrap64 ((wrap64 (x3_1 + (a0.size : Int))) + 2)) ≤ 93) = true:=decide_eq_true c4;clear c4;by_cases c5 : 0 ≤ x3_1
       · rw [if_pos c5] at H;have c5b0 : decide (0 ≤ x3_1) = true:=decide_eq_true c5;clear c5;by_cases c6 : x3_1 < 93
         · rw [if_pos c6] at H;have c6b0 : decide (x3_1 < 93) = true:=decide_eq_true c6;clear c6;by_cases c8 : (bt (⟨#[32,98,114,101,97,107,32,99,104,97,114,32,99,111,110,116,105,110,117,101,32,100,111,32,101,108,115,101,32,102,111,114,32,103,101,116,98,121,116,101,32,105,102,32,105,110,116,32,112,117,116,98,121,116,101,32,114,101,116,117,114,110,32,115,105,122,101,111,102,32,115,116,114,117,99,116,32,117,105,110,116,32,118,111,105,100,32,119,104,105,108,101,32]⟩ : ByteArray) x3_1) = 32
           · rw [if_pos c8] at H;have c8b0 : ((bt (⟨#[32,98,114,101,97,107,32,99,104,97,114,32,99,111,110,116,105,110,117,101,32,100,111,32,101,108,115,101,32,102,111,114,32,103,101,116,98,121,116,101,32,105,102,32,105,110,116,32,112,117,116,98,121,116,101,32,114,101,116,117,114,110,32,115,105,122,101,111,102,32,115,116,114,117,99,116,32,117,105,110,116,32,118,111,105,100,32,119,104,105,108,101,32]⟩ : ByteArray) x3_1) == 32) = true:=beq_iff_eq.mpr c8;have c8b1 : ((bt (⟨#[32,98,114,101,97,107,32,99,104,97,114,32,99,111,110,116,105,110,117,101,32,100,111,32,101,108,115,101,32,102,111,114,32,103,101,116,98,121,116,101,32,105,102,32,105,110,116,32,112,117,116,98,121,116,101,32,114,101,116,117,114,110,32,115,105,122,101,111,102,32,115,116,114,117,99,116,32,117,105,110,116,32,118,111,105,100,32,119,104,105,108,101,32]⟩ : ByteArray) x3_1) != 32) = false:=bne_eq_false_iff_eq.mpr c8;clear c8;obtain ⟨ji9,hji9⟩ : ∃ j_ : Int,(wrap64 (x3_1 + 1)) = j_:=⟨_,rfl⟩
             replace H : (if 0 ≤ (ji9) then (if (ji9) ≤ (wrap64 ((ji9) + (a0.size : Int))) then (if (wrap64 ((ji9) + (a0.size : Int))) ≤ 93 then (if ((⟨#[32,98,114,101,97,107,32,99,104,97,114,32,99,111,110,116,105,110,117,101,32,100,111,32,101,108,115,101,32,102,111,114,32,103,101,116,98,121,116,101,32,105,102,32,105,110,116,32,112,117,116,98,121,116,101,32,114,101,116,117,114,110,32,115,105,122,101,111,102,32,115,116,114,117,99,116,32,117,105,110,116,32,118,111,105,100,32,119,104,105,108,101,32]⟩ : ByteArray).extract ((ji9) : Int).toNat ((wrap64 ((ji9) + (a0.size : Int))) : Int).toNat).toList = a0.toList then (if 0 ≤ (wrap64 ((ji9) + (a0.size : Int))) then (if (wrap64 ((ji9) + (a0.size : Int))) < 93 then (if (bt (⟨#[32,98,114,101,97,107,32,99,104,97,114,32,99,111,110,116,105,110,117,101,32,100,111,32,101,108,115,101,32,102,111,114,32,103,101,116,98,121,116,101,32,105,102,32,105,110,116,32,112,117,116,98,121,116,101,32,114,101,116,117,114,110,32,115,105,122,101,111,102,32,115,116,114,117,99,116,32,117,105,110,116,32,118,111,105,100,32,119,104,105,108,101,32]⟩ : ByteArray) (wrap64 ((ji9) + (a0.size : Int)))) = 32 then (some true) else (crucibleref07_Reserved.l0 k1 a0 ji9)) else (none)) else (none)) else (crucibleref07_Reserved.l0 k1 a0 ji9)) else (none)) else (none)) else (none)) = some r:=by first|(rw [hji9] at H;exact H)|(simp only [hji9] at H ⊢;exact H)
             have hji9w : (IntKind.i64.wrap (x3_1 + 1)) = ji9:=(i64_w _).trans hji9;by_cases c10 : 0 ≤ (ji9)
             · rw [if_pos c10] at H;have c10b0:=eq_true c10;have c10b1 : decide (0 ≤ (ji9)) = true:=decide_eq_true c10;clear c10;by_cases c11 : (ji9) ≤ (wrap64 ((ji9) + (a0.size : Int)))
               · rw [if_pos c11] at H;have c11b0:=eq_true c11;have c11b1 : decide ((ji9) ≤ (wrap64 ((ji9) + (a0.size : Int)))) = true:=decide_eq_true c11;by_cases c12 : (wrap64 ((ji9) + (a0.size : Int))) ≤ 93
                 · rw [if_pos c12] at H;have c12b0:=eq_true c12;have c12b1 : decide ((wrap64 ((ji9) + (a0.size : Int))) ≤ 93) = true:=decide_eq_true c12;by_cases c13 : ((⟨#[32,98,114,101,97,107,32,99,104,97,114,32,99,111,110,116,105,110,117,101,32,100,111,32,101,108,115,101,32,102,111,114,32,103,101,116,98,121,116,101,32,105,102,32,105,110,116,32,112,117,116,98,121,116,101,32,114,101,116,117,114,110,32,115,105,122,101,111,102,32,115,116,114,117,99,116,32,117,105,110,116,32,118,111,105,100,32,119,104,105,108,101,32]⟩ : ByteArray).extract ((ji9) : Int).toNat ((wrap64 ((ji9) + (a0.size : Int))) : Int).toNat).toList = a0.toList
                   · rw [if_pos c13] at H;have c13b0 : (((⟨#[32,98,114,101,97,107,32,99,104,97,114,32,99,111,110,116,105,110,117,101,32,100,111,32,101,108,115,101,32,102,111,114,32,103,101,116,98,121,116,101,32,105,102,32,105,110,116,32,112,117,116,98,121,116,101,32,114,101,116,117,114,110,32,115,105,122,101,111,102,32,115,116,114,117,99,116,32,117,105,110,116,32,118,111,105,100,32,119,104,105,108,101,32]⟩ : ByteArray).extract ((ji9) : Int).toNat ((wrap64 ((ji9) + (a0.size : Int))) : Int).toNat).toList == a0.toList) = true:=beq_iff_eq.mpr c13;have c13b1 : (((⟨#[32,98,114,101,97,107,32,99,104,97,114,32,99,111,110,116,105,110,117,101,32,100,111,32,101,108,115,101,32,102,111,114,32,103,101,116,98,121,116,101,32,105,102,32,105,110,116,32,112,117,116,98,121,116,101,32,114,101,116,117,114,110,32,115,105,122,101,111,102,32,115,116,114,117,99,116,32,117,105,110,116,32,118,111,105,100,32,119,104,105,108,101,32]⟩ : ByteArray).extract ((ji9) : Int).toNat ((wrap64 ((ji9) + (a0.size : Int))) : Int).toNat).toList != a0.toList) = false:=bne_eq_false_iff_eq.mpr c13;clear c13;obtain ⟨ji14,hji14⟩ : ∃ j_ : Int,(wrap64 ((ji9) + (a0.size : Int))) = j_:=⟨_,rfl⟩
                     replace H : (if 0 ≤ (ji14) then (if (ji14) < 93 then (if (bt (⟨#[32,98,114,101,97,107,32,99,104,97,114,32,99,111,110,116,105,110,117,101,32,100,111,32,101,108,115,101,32,102,111,114,32,103,101,116,98,121,116,101,32,105,102,32,105,110,116,32,112,117,116,98,121,116,101,32,114,101,116,117,114,110,32,115,105,122,101,111,102,32,115,116,114,117,99,116,32,117,105,110,116,32,118,111,105,100,32,119,104,105,108,101,32]⟩ : ByteArray) (ji14)) = 32 then (some true) else (crucibleref07_Reserved.l0 k1 a0 ji9)) else (none)) else (none)) = some r:=by first|(rw [hji14] at H;exact H)|(simp only [hji14] at H ⊢;exact H)
                     (try rw [hji14] at c11b0);(try rw [hji14] at c11b1);(try rw [hji14] at c11);(try rw [hji14] at c12b0);(try rw [hji14] at c12b1);(try rw [hji14] at c12);(try rw [hji14] at c13b0);(try rw [hji14] at c13b1);have hji14w : (IntKind.i64.wrap ((ji9) + (a0.size : Int))) = ji14:=(i64_w _).trans hji14;by_cases c15 : 0 ≤ (ji14)
                     · rw [if_pos c15] at H;have c15b0 : decide (0 ≤ (ji14)) = true:=decide_eq_true c15;clear c15;by_cases c16 : (ji14) < 93
                       · rw [if_pos c16] at H;have c16b0 : decide ((ji14) < 93) = true:=decide_eq_true c16;clear c16;by_cases c18 : (bt (⟨#[32,98,114,101,97,107,32,99,104,97,114,32,99,111,110,116,105,110,117,101,32,100,111,32,101,108,115,101,32,102,111,114,32,103,101,116,98,121,116,101,32,105,102,32,105,110,116,32,112,117,116,98,121,116,101,32,114,101,116,117,114,110,32,115,105,122,101,111,102,32,115,116,114,117,99,116,32,117,105,110,116,32,118,111,105,100,32,119,104,105,108,101,32]⟩ : ByteArray) (ji14)) = 32
                         · rw [if_pos c18] at H;have c18b0 : ((bt (⟨#[32,98,114,101,97,107,32,99,104,97,114,32,99,111,110,116,105,110,117,101,32,100,111,32,101,108,115,101,32,102,111,114,32,103,101,116,98,121,116,101,32,105,102,32,105,110,116,32,112,117,116,98,121,116,101,32,114,101,116,117,114,110,32,115,105,122,101,111,102,32,115,116,114,117,99,116,32,117,105,110,116,32,118,111,105,100,32,119,104,105,108,101,32]⟩ : ByteArray) (ji14)) == 32) = true:=beq_iff_eq.mpr c18;have c18b1 : ((bt (⟨#[32,98,114,101,97,107,32,99,104,97,114,32,99,111,110,116,105,110,117,101,32,100,111,32,101,108,115,101,32,102,111,114,32,103,101,116,98,121,116,101,32,105,102,32,105,110,116,32,112,117,116,98,121,116,101,32,114,101,116,117,114,110,32,115,105,122,101,111,102,32,115,116,114,117,99,116,32,117,105,110,116,32,118,111,105,100,32,119,104,105,108,101,32]⟩ : ByteArray) (ji14)) != 32) = false:=bne_eq_false_iff_eq.mpr c18;clear c18;obtain rfl:=Option.some.inj H;have p7 : 0 ≤ (x3_1 : Int):=of_decide_eq_true (by first|(with_reducible assumption)|assumption);have q7 : x3_1 < (93 : Int):=of_decide_eq_true (by first|(with_reducible assumption)|assumption);have hx7:=bt_at (⟨#[32,98,114,101,97,107,32,99,104,97,114,32,99,111,110,116,105,110,117,101,32,100,111,32,101,108,115,101,32,102,111,114,32,103,101,116,98,121,116,101,32,105,102,32,105,110,116,32,112,117,116,98,121,116,101,32,114,101,116,117,114,110,32,115,105,122,101,111,102,32,115,116,114,117,99,116,32,117,105,110,116,32,118,111,105,100,32,119,104,105,108,101,32]⟩ : ByteArray) x3_1;replace p7:=eq_true p7;replace q7:=eq_true q7;have p17 : 0 ≤ ((ji14) : Int):=of_decide_eq_true (by first|(with_reducible assumption)|assumption);have q17 : (ji14) < (93 : Int):=of_decide_eq_true (by first|(with_reducible assumption)|assumption);have hx17:=bt_at (⟨#[32,98,114,101,97,107,32,99,104,97,114,32,99,111,110,116,105,110,117,101,32,100,111,32,101,108,115,101,32,102,111,114,32,103,101,116,98,121,116,101,32,105,102,32,105,110,116,32,112,117,116,98,121,116,101,32,114,101,116,117,114,110,32,115,105,122,101,111,102,32,115,116,114,117,99,116,32,117,105,110,116,32,118,111,105,100,32,119,104,105,108,101,32]⟩ : ByteArray) (ji14);replace p17:=eq_true p17;replace q17:=eq_true q17;go_wp2
                           go_ret
                           exact ⟨by first|rfl|(simp;done)|(simp only [← hji9,← hji14] <;> (first|rfl|simp))|(simp [*];done),by repeat (first|exact Drawn0.refl _|apply Drawn0.step)⟩
                         · rw [if_neg c18] at H;have c18b0 : ((bt (⟨#[32,98,114,101,97,107,32,99,104,97,114,32,99,111,110,116,105,110,117,101,32,100,111,32,101,108,115,101,32,102,111,114,32,103,101,116,98,121,116,101,32,105,102,32,105,110,116,32,112,117,116,98,121,116,101,32,114,101,116,117,114,110,32,115,105,122,101,111,102,32,115,116,114,117,99,116,32,117,105,110,116,32,118,111,105,100,32,119,104,105,108,101,32]⟩ : ByteArray) (ji14)) == 32) = false:=beq_eq_false_iff_ne.mpr c18;have c18b1 : ((bt (⟨#[32,98,114,101,97,107,32,99,104,97,114,32,99,111,110,116,105,110,117,101,32,100,111,32,101,108,115,101,32,102,111,114,32,103,101,116,98,121,116,101,32,105,102,32,105,110,116,32,112,117,116,98,121,116,101,32,114,101,116,117,114,110,32,115,105,122,101,111,102,32,115,116,114,117,99,116,32,117,105,110,116,32,118,111,105,100,32,119,104,105,108,101,32]⟩ : ByteArray) (ji14)) != 32) = true:=bne_iff_ne.mpr c18;have H' := Aside0.mk H;clear H;have p7 : 0 ≤ (x3_1 : Int):=of_decide_eq_true (by first|(with_reducible assumption)|assumption);have q7 : x3_1 < (93 : Int):=of_decide_eq_true (by first|(with_reducible assumption)|assumption);have hx7:=bt_at (⟨#[32,98,114,101,97,107,32,99,104,97,114,32,99,111,110,116,105,110,117,101,32,100,111,32,101,108,115,101,32,102,111,114,32,103,101,116,98,121,116,101,32,105,102,32,105,110,116,32,112,117,116,98,121,116,101,32,114,101,116,117,114,110,32,115,105,122,101,111,102,32,115,116,114,117,99,116,32,117,105,110,116,32,118,111,105,100,32,119,104,105,108,101,32]⟩ : ByteArray) x3_1;replace p7:=eq_true p7;replace q7:=eq_true q7;have p17 : 0 ≤ ((ji14) : Int):=of_decide_eq_true (by first|(with_reducible assumption)|assumption);have q17 : (ji14) < (93 : Int):=of_decide_eq_true (by first|(with_reducible assumption)|assumption);have hx17:=bt_at (⟨#[32,98,114,101,97,107,32,99,104,97,114,32,99,111,110,116,105,110,117,101,32,100,111,32,101,108,115,101,32,102,111,114,32,103,101,116,98,121,116,101,32,105,102,32,105,110,116,32,112,117,116,98,121,116,101,32,114,101,116,117,114,110,32,115,105,122,101,111,102,32,115,116,114,117,99,116,32,117,105,110,116,32,118,111,105,100,32,119,104,105,108,101,32]⟩ : ByteArray) (ji14);replace p17:=eq_true p17;replace q17:=eq_true q17;go_wp2
                           go_roundg k1
                           case measure => have:=HK1.out;omega
                           case rel => exact ⟨(ji9),(by first|rfl|(simp;done)|(simp only [← hji9] <;> (first|rfl|simp))|(simp [*];done)),H',⟨by have:=HK1.out;omega⟩,by repeat (first|exact Drawn0.refl _|apply Drawn0.step)⟩
                       · rw [if_neg c16] at H;exact absurd H (by simp)
                     · rw [if_neg c15] at H;exact absurd H (by simp)
                   · rw [if_neg c13] at H;have c13b0 : (((⟨#[32,98,114,101,97,107,32,99,104,97,114,32,99,111,110,116,105,110,117,101,32,100,111,32,101,108,115,101,32,102,111,114,32,103,101,116,98,121,116,101,32,105,102,32,105,110,116,32,112,117,116,98,121,116,101,32,114,101,116,117,114,110,32,115,105,122,101,111,102,32,115,116,114,117,99,116,32,117,105,110,116,32,118,111,105,100,32,119,104,105,108,101,32]⟩ : ByteArray).extract ((ji9) : Int).toNat ((wrap64 ((ji9) + (a0.size : Int))) : Int).toNat).toList == a0.toList) = false:=beq_eq_false_iff_ne.mpr c13;have c13b1 : (((⟨#[32,98,114,101,97,107,32,99,104,97,114,32,99,111,110,116,105,110,117,101,32,100,111,32,101,108,115,101,32,102,111,114,32,103,101,116,98,121,116,101,32,105,102,32,105,110,116,32,112,117,116,98,121,116,101,32,114,101,116,117,114,110,32,115,105,122,101,111,102,32,115,116,114,117,99,116,32,117,105,110,116,32,118,111,105,100,32,119,104,105,108,101,32]⟩ : ByteArray).extract ((ji9) : Int).toNat ((wrap64 ((ji9) + (a0.size : Int))) : Int).toNat).toList != a0.toList) = true:=bne_iff_ne.mpr c13;have H' := Aside0.mk H;clear H;have p7 : 0 ≤ (x3_1 : Int):=of_decide_eq_true (by first|(with_reducible assumption)|assumption);have q7 : x3_1 < (93 : Int):=of_decide_eq_true (by first|(with_reducible assumption)|assumption);have hx7:=bt_at (⟨#[32,98,114,101,97,107,32,99,104,97,114,32,99,111,110,116,105,110,117,101,32,100,111,32,101,108,115,101,32,102,111,114,32,103,101,116,98,121,116,101,32,105,102,32,105,110,116,32,112,117,116,98,121,116,101,32,114,101,116,117,114,110,32,115,105,122,101,111,102,32,115,116,114,117,99,116,32,117,105,110,116,32,118,111,105,100,32,119,104,105,108,101,32]⟩ : ByteArray) x3_1;replace p7:=eq_true p7;replace q7:=eq_true q7;go_wp2
                     go_roundg k1
                     case measure => have:=HK1.out;omega
                     case rel => exact ⟨(ji9),(by first|rfl|(simp;done)|(simp only [← hji9] <;> (first|rfl|simp))|(simp [*];done)),H',⟨by have:=HK1.out;omega⟩,by repeat (first|exact Drawn0.refl _|apply Drawn0.step)⟩
                 · rw [if_neg c12] at H;exact absurd H (by simp)
               · rw [if_neg c11] at H;exact absurd H (by simp)
             · rw [if_neg c10] at H;exact absurd H (by simp)
           · rw [if_neg c8] at H;have c8b0 : ((bt (⟨#[32,98,114,101,97,107,32,99,104,97,114,32,99,111,110,116,105,110,117,101,32,100,111,32,101,108,115,101,32,102,111,114,32,103,101,116,98,121,116,101,32,105,102,32,105,110,116,32,112,117,116,98,121,116,101,32,114,101,116,117,114,110,32,115,105,122,101,111,102,32,115,116,114,117,99,116,32,117,105,110,116,32,118,111,105,100,32,119,104,105,108,101,32]⟩ : ByteArray) x3_1) == 32) = false:=beq_eq_false_iff_ne.mpr c8;have c8b1 : ((bt (⟨#[32,98,114,101,97,107,32,99,104,97,114,32,99,111,110,116,105,110,117,101,32,100,111,32,101,108,115,101,32,102,111,114,32,103,101,116,98,121,116,101,32,105,102,32,105,110,116,32,112,117,116,98,121,116,101,32,114,101,116,117,114,110,32,115,105,122,101,111,102,32,115,116,114,117,99,116,32,117,105,110,116,32,118,111,105,100,32,119,104,105,108,101,32]⟩ : ByteArray) x3_1) != 32) = true:=bne_iff_ne.mpr c8;have H' := Aside0.mk H;clear H;have p7 : 0 ≤ (x3_1 : Int):=of_decide_eq_true (by first|(with_reducible assumption)|assumption);have q7 : x3_1 < (93 : Int):=of_decide_eq_true (by first|(with_reducible assumption)|assumption);have hx7:=bt_at (⟨#[32,98,114,101,97,107,32,99,104,97,114,32,99,111,110,116,105,110,117,101,32,100,111,32,101,108,115,101,32,102,111,114,32,103,101,116,98,121,116,101,32,105,102,32,105,110,116,32,112,117,116,98,121,116,101,32,114,101,116,117,114,110,32,115,105,122,101,111,102,32,115,116,114,117,99,116,32,117,105,110,116,32,118,111,105,100,32,119,104,105,108,101,32]⟩ : ByteArray) x3_1;replace p7:=eq_true p7;replace q7:=eq_true q7;go_wp2
             go_roundg k1
             case measure => have:=HK1.out;omega
             case rel => exact ⟨(wrap64 (x3_1 + 1)),(by first|rfl|(simp;done)|(simp [*];done)),H',⟨by have:=HK1.out;omega⟩,by repeat (first|exact Drawn0.refl _|apply Drawn0.step)⟩
         · rw [if_neg c6] at H;exact absurd H (by simp)
       · rw [if_neg c5] at H;exact absurd H (by simp)
     · rw [if_neg c4] at H;have c4b0 : decide ((wrap64 ((wrap64 (x3_1 + (a0.size : Int))) + 2)) ≤ 93) = false:=decide_eq_false c4;clear c4;obtain rfl:=Option.some.inj H;go_wp2
       go_ret
       exact ⟨by first|rfl|(simp;done)|(simp [*];done),by repeat (first|exact Drawn0.refl _|apply Drawn0.step)⟩
 · replace c3:=Bool.eq_false_iff.mpr c3;subst c3;have H1 : (some false) = some r:=by rw [if_neg (show ¬ (false = true) by decide)] at H;exact H
   clear H;have H:=H1;clear H1;obtain rfl:=Option.some.inj H;go_enter Tryz.func48,Tryz.ntmps48
   go_wp2_with (first|((with_reducible refine gate_callee (f:=47) rfl ?_);refine goesL_ (some 5) rfl rfl Tryz.func47 (by kernel_rfl) rfl #[.string a0] rfl (by (try simp only [List.map_toArray,List.map_cons,List.map_nil]);first|done|rfl|(simp only [List.length_drop,List.length_take];rfl)) ?_;(with_reducible refine (crucibleref07_Named.calls k a0 false _ A2.out).mono ?_);rintro e w' ⟨rfl,⟨nd,rfl⟩⟩;refine ⟨_,rfl,?_⟩))
   go_ret
   exact ⟨by first|rfl|(simp;done)|(simp [*];done),by repeat (first|exact Drawn0.refl _|apply Drawn0.step)⟩
end Go.Proofs.YtboojhadfhpdeaaGreatDoor.Q
namespace Go.Proofs.YtboojhadfhpdeaaGreatDoor.Lex
open Go.RowKit Go.Proofs.YtboojhadfhpdeaaGreatDoorW.PrintWords Go.Proofs.YtboojhadfhpdeaaGreatDoor.Q
set_option linter.unusedVariables false
set_option linter.unusedSimpArgs false
abbrev Bs:=List UInt8
def dig (c : UInt8) : Bool:=decide (48 ≤ c.toNat) && decide (c.toNat ≤ 57)
def let_ (c : UInt8) : Bool:=(decide (97 ≤ c.toNat) && decide (c.toNat ≤ 122)) || (decide (65 ≤ c.toNat) && decide (c.toNat ≤ 90)) || decide (c.toNat = 95)
def wi (c : UInt8) : Bool:=dig c || let_ c
def hexv (c : UInt8) : Nat :=
 if 48 ≤ c.toNat ∧ c.toNat ≤ 57 then c.toNat - 48
 else if 97 ≤ c.toNat ∧ c.toNat ≤ 102 then c.toNat - 97 + 10
 else if 65 ≤ c.toNat ∧ c.toNat ≤ 70 then c.toNat - 65 + 10
 else 99
def blank (c : UInt8) : Bool:=c == 32 || c == 9 || c == 10 || c == 13
def lineLen : Bs → Nat
 | [] => 0
 | c :: r => if c = 10 then 0 else lineLen r + 1
def comEnd : Bs → Option Nat
 | [] => none
 | c :: r => if List.isPrefixOf [42,47] (c :: r) = true then some 2 else (comEnd r).map (· + 1)
def gap (l : Bs) : Nat × Bool :=
 match l with
 | [] => (0,true)
 | c :: r =>
  if blank c = true then ((gap r).1 + 1,(gap r).2)
  else if c = 47 then
   match r with
   | [] => (0,true)
   | d :: q =>
    if d = 47 then ((gap (q.drop (lineLen q))).1 + (lineLen q + 2),(gap (q.drop (lineLen q))).2)
    else if d = 42 then
     match comEnd q with
     | none => (0,false)
     | some m => ((gap (q.drop m)).1 + (m + 2),(gap (q.drop m)).2)
    else (0,true)
  else (0,true)
termination_by l.length
decreasing_by all_goals simp_wf;(try omega)
structure Tk where
 kind : Nat
 text : Bs
 num : Nat
 uns : Bool
 len : Nat
def numVal (base : Nat) (ds : Bs) : Nat:=ds.foldl (fun v c => v * base + hexv c) 0
def isHex : Bs → Bool
 | c :: d :: _ => c == 48 && (d == 120 || d == 88)
 | _ => false
def isU : Bs → Bool
 | c :: _ => c == 117 || c == 85
 | [] => false
def headWi : Bs → Bool
 | c :: _ => wi c
 | [] => false
def numTok (s : Bs) : Option Tk :=
 let pre:=if isHex s then 2 else 0
 let base:=if isHex s then 16 else 10
 let ds:=(s.drop pre).takeWhile fun c => decide (hexv c < base)
 let v:=numVal base ds
 let e:=pre + ds.length
 let u:=isU (s.drop e)
 let e' := if u then e + 1 else e
 if ds = [] ∨ 4294967296 ≤ v ∨ (isHex s = false ∧ 1 < ds.length ∧ ds.head? = some 48) ∨ headWi (s.drop e') = true then none
 else some ⟨5,[],v,u || decide (2147483648 ≤ v),e'⟩
def esc (d : UInt8) : Option UInt8 :=
 if d = 110 then some 10 else if d = 116 then some 9 else if d = 114 then some 13 else if d = 48 then some 0
 else if d = 92 then some 92 else if d = 39 then some 39 else if d = 34 then some 34 else none
def unit (mark : UInt8) : Bs → Option (UInt8 × Nat)
 | [] => none
 | c :: r =>
  if c.toNat < 32 ∨ 126 < c.toNat ∨ c = mark then none
  else if c ≠ 92 then some (c,1)
  else match r with
   | [] => none
   | d :: q =>
    match esc d with
    | some x => some (x,2)
    | none =>
     if d = 120 then
      match q with
      | a :: b :: _ => if hexv a < 16 ∧ hexv b < 16 then some (UInt8.ofNat (hexv a * 16 + hexv b),4) else none
      | _ => none
     else none
theorem unit_le (mark : UInt8) (s : Bs) (b : UInt8) (n : Nat) (h : unit mark s = some (b,n)) : 1 ≤ n ∧ n ≤ s.length:=by
 unfold unit at h
 split at h
 · cases h
 · split at h
   · cases h
   · split at h
     · cases h;simp
     · split at h
       · cases h
       · split at h
         · cases h;simp
         · split at h
           · split at h
             · split at h
               · cases h;simp
               · cases h
             · cases h
           · cases h
def units (mark : UInt8) (s : Bs) : Option (Bs × Nat) :=
 match s with
 | [] => none
 | c :: r =>
  if c = mark then some ([],0)
  else match h : unit mark (c :: r) with
   | none => none
   | some (b,n) => (units mark ((c :: r).drop n)).map fun t => (b :: t.1,n + t.2)
termination_by s.length
decreasing_by
 have:=unit_le mark (c :: r) b n h
 simp_wf
 simp at this;omega
def quotTok : Bs → Option Tk
 | [] => none
 | c :: r =>
  match units c r with
  | none => none
  | some (t,n) => if c = 34 then some ⟨7,t,0,false,n + 2⟩ else if t.length = 1 then some ⟨6,[],(t.headD 0).toNat,false,n + 2⟩ else none
def wordsText : Bs:=[32,98,114,101,97,107,32,99,104,97,114,32,99,111,110,116,105,110,117,101,32,100,111,32,101,108,115,101,32,102,111,114,32,103,101,116,98,121,116,101,32,105,102,32,105,110,116,32,112,117,116,98,121,116,101,32,114,101,116,117,114,110,32,115,105,122,101,111,102,32,115,116,114,117,99,116,32,117,105,110,116,32,118,111,105,100,32,119,104,105,108,101,32]
def named : Bs → Bool
 | [] => false
 | c :: r => !dig c && (c :: r).all wi
def reserved (s : Bs) : Bool:=named s && Lib.contains wordsText ([32] ++ s ++ [32])
def nameTok (s : Bs) : Tk :=
 let w:=s.takeWhile wi
 ⟨if reserved w then 3 else 2,w,0,false,w.length⟩
def marks : List Bs:=[[60,60,61],[62,62,61],[45,62],[43,61],[45,61],[42,61],[47,61],[37,61],[38,61],[124,61],[94,61],[61,61],[33,61],[60,61],[62,61],[60,60],[62,62],[38,38],[124,124],[40],[41],[123],[125],[91],[93],[59],[44],[46],[61],[60],[62],[43],[45],[42],[47],[37],[38],[124],[94],[126],[33],[63],[58]]
def markTok (s : Bs) : Option Tk:=(marks.find? fun m => m.isPrefixOf s).map fun m => ⟨4,m,0,false,m.length⟩
def tok (s : Bs) : Option Tk :=
 match s with
 | [] => none
 | c :: _ => if dig c then numTok s else if wi c then some (nameTok s) else if c = 34 ∨ c = 39 then quotTok s else markTok s
inductive Ans where
 | fin (at_ : Nat)
 | bad (at_ : Nat)
 | tk (t : Tk) (pos : Nat)
def next (l : Bs) (i : Nat) : Ans :=
 let g:=gap (l.drop i)
 if g.2 = false then .bad (i + g.1)
 else if l.length ≤ i + g.1 then .fin (i + g.1)
 else match tok (l.drop (i + g.1)) with
  | none => .bad (i + g.1)
  | some t => .tk t (i + g.1)
section
variable {α β : Type} {r : α}
theorem ev_pos {c : Prop} [Decidable c] {f g : Nat → Option α} (h : c) (k : Ev f r) : Ev (fun n => if c then f n else g n) r:=Ev.congr (fun n => if_pos h) k
theorem ev_neg {c : Prop} [Decidable c] {f g : Nat → Option α} (h : ¬ c) (k : Ev g r) : Ev (fun n => if c then f n else g n) r:=Ev.congr (fun n => if_neg h) k
theorem ev_bindc {g : Option β} {b : β} {F : Nat → β → Option α} (h : g = some b) (k : Ev (fun n => F n b) r) : Ev (fun n => g.bind (F n)) r:=by
 subst h;exact k
end
theorem w1 (i : Nat) (h : i ≤ 4611686018427387904) : wrap64 ((i : Int) + 1) = ((i + 1 : Nat) : Int):=by unfold wrap64;omega
theorem wk (i k : Nat) (h : i ≤ 4611686018427387904) (hk : k ≤ 2305843009213693952) : wrap64 ((i : Int) + (k : Int)) = ((i + k : Nat) : Int):=by unfold wrap64;omega
def suf (s : ByteArray) (i : Nat) : Bs:=s.data.toList.drop i
theorem suf_len (s : ByteArray) (i : Nat) : (suf s i).length = s.size - i:=by unfold suf;rw [List.length_drop,← Lib.size_eq]
theorem suf_nil (s : ByteArray) (i : Nat) (h : s.size ≤ i) : suf s i = []:=by
 apply List.eq_nil_of_length_eq_zero;rw [suf_len];omega
theorem suf_at (s : ByteArray) (i : Nat) (h : i < s.size) : ∃ c,suf s i = c :: suf s (i + 1) ∧ bt s (i : Int) = (c.toNat : Int):=by
 have h1:=Lib.data_getElem? s i h;have h2 : i < s.data.toList.length:=by rw [← Lib.size_eq];exact h
 refine ⟨s[i],?_,?_⟩
 · unfold suf;rw [List.drop_eq_getElem_cons h2];rw [List.getElem?_eq_getElem h2] at h1;rw [Option.some.inj h1]
 · unfold bt;rw [dif_pos (by simpa using h)];rfl
theorem suf_drop (s : ByteArray) (i k : Nat) : (suf s i).drop k = suf s (i + k):=by unfold suf;rw [List.drop_drop]
theorem ext_suf (s : ByteArray) (i : Nat) : (s.extract ((i : Nat) : Int).toNat s.size).data.toList = suf s i:=by
 rw [Int.toNat_natCast];exact Lib.extract_to_end s i
theorem ext_size (s : ByteArray) (i : Nat) : (s.extract ((i : Nat) : Int).toNat s.size).size ≤ s.size:=by
 rw [Lib.size_eq,ext_suf,suf_len];omega
theorem dig_some (c : UInt8) : Ev (fun k => lexer_digit.f k (c.toNat : Int)) (hexv c : Int):=by
 have hc:=c.toNat_lt;unfold hexv;by_cases h1 : 48 ≤ c.toNat ∧ c.toNat ≤ 57
 · rw [if_pos h1];refine ev_pos (by omega) (Ev.step (fun k => by rw [lexer_digit.j0]) (ev_pos (by simp;omega) ?_));have : ((c.toNat : Int) - 48) % 256 = ((c.toNat - 48 : Nat) : Int):=by omega
   rw [this];exact Ev.now _
 · rw [if_neg h1];have key : Ev (fun k => lexer_digit.j0 k (c.toNat : Int) false) ((if 97 ≤ c.toNat ∧ c.toNat ≤ 102 then c.toNat - 97 + 10 else if 65 ≤ c.toNat ∧ c.toNat ≤ 70 then c.toNat - 65 + 10 else 99 : Nat) : Int):=by
    refine Ev.step (fun k => by rw [lexer_digit.j0]) (ev_neg (by simp) ?_);have low : ¬ (97 ≤ c.toNat ∧ c.toNat ≤ 102) → Ev (fun k => lexer_digit.j1 k (c.toNat : Int) false) ((if 97 ≤ c.toNat ∧ c.toNat ≤ 102 then c.toNat - 97 + 10 else if 65 ≤ c.toNat ∧ c.toNat ≤ 70 then c.toNat - 65 + 10 else 99 : Nat) : Int):=by
     intro h2;rw [if_neg h2];refine Ev.step (fun k => by rw [lexer_digit.j1]) (ev_neg (by simp) ?_);by_cases h3 : 65 ≤ c.toNat
     · refine ev_pos (by omega) ?_;by_cases h4 : c.toNat ≤ 70
       · refine ev_pos (by omega) ?_;rw [if_pos ⟨h3,h4⟩];have : ((c.toNat : Int) - 65) % 256 + 10 = ((c.toNat - 65 + 10 : Nat) : Int):=by omega
         rw [this];exact Ev.now _
       · refine ev_neg (by omega) ?_;rw [if_neg (by omega)];exact Ev.now _
     · refine ev_neg (by omega) ?_;rw [if_neg (by omega)];exact Ev.now _
    by_cases h2 : 97 ≤ c.toNat
    · refine ev_pos (by omega) ?_;by_cases h3 : c.toNat ≤ 102
      · rw [decide_eq_true (by omega),if_pos ⟨h2,h3⟩];refine Ev.step (fun k => by rw [lexer_digit.j1]) (ev_pos rfl ?_);have : ((c.toNat : Int) - 97) % 256 + 10 = ((c.toNat - 97 + 10 : Nat) : Int):=by omega
        rw [this];exact Ev.now _
      · rw [decide_eq_false (by omega)];exact low (by omega)
    · refine ev_neg (by omega) ?_;exact low (by omega)
   by_cases h2 : 48 ≤ c.toNat
   · refine ev_pos (by omega) ?_;rw [decide_eq_false (by omega)];exact key
   · refine ev_neg (by omega) ?_;exact key
theorem hexv_lt10 (c : UInt8) : hexv c < 10 ↔ dig c = true:=by
 unfold hexv dig;simp only [Bool.and_eq_true,decide_eq_true_eq]
 split
 · omega
 · split
   · omega
   · split <;> omega
theorem wi_some (c : UInt8) : lexer_within.f (c.toNat : Int) = some (wi c):=by
 have hc:=c.toNat_lt;have e : ((c.toNat : Int) == 95) = decide (c.toNat = 95):=by
  by_cases h : c.toNat = 95
  · simp [h]
  · rw [decide_eq_false h];simp;omega
 unfold lexer_within.f wi dig let_;rw [e]
 repeat' split
 all_goals refine congrArg some ?_
 all_goals rw [Bool.eq_iff_iff]
 all_goals simp only [Bool.or_eq_true,Bool.and_eq_true,decide_eq_true_eq,true_iff]
 all_goals omega
theorem let_some (c : UInt8) : crucibleref07_letter.f (c.toNat : Int) = some (let_ c):=by
 have hc:=c.toNat_lt;have e : ((c.toNat : Int) == 95) = decide (c.toNat = 95):=by
  by_cases h : c.toNat = 95
  · simp [h]
  · rw [decide_eq_false h];simp;omega
 unfold crucibleref07_letter.f let_;rw [e]
 repeat' split
 all_goals refine congrArg some ?_
 all_goals rw [Bool.eq_iff_iff]
 all_goals simp only [Bool.or_eq_true,Bool.and_eq_true,decide_eq_true_eq,true_iff]
 all_goals omega
theorem dig_ref (c : UInt8) : crucibleref07_digit.f (c.toNat : Int) = some (dig c):=by
 unfold crucibleref07_digit.f dig
 split
 all_goals refine congrArg some ?_
 all_goals rw [Bool.eq_iff_iff]
 all_goals simp only [Bool.and_eq_true,decide_eq_true_eq,Bool.false_eq_true,false_iff]
 all_goals omega
abbrev Sm (s : ByteArray) : Prop:=s.size ≤ 1152921504606846976
theorem prefix_short (a t : Bs) (h : a.length < t.length) : t.isPrefixOf a = false:=by
 rw [Bool.eq_false_iff];intro e;have:=(List.isPrefixOf_iff_prefix.1 e).length_le;omega
theorem let_wi (c : UInt8) : let_ c = (wi c && !dig c):=by
 unfold wi let_ dig;rw [Bool.eq_iff_iff];simp only [Bool.or_eq_true,Bool.and_eq_true,decide_eq_true_eq,Bool.not_eq_true',Bool.and_eq_false_iff,decide_eq_false_iff_not];omega
theorem named_all (s : ByteArray) (hs : Sm s) (d : Nat) : ∀ i : Nat,i ≤ s.size → s.size - i = d → Ev (fun k => lexer_Named.l0 k s (s.size : Int) (i : Int)) ((suf s i).all wi):=by
 unfold Sm at hs;induction d with
 | zero =>
  intro i hi hd;refine Ev.step (fun k => by rw [lexer_Named.l0]) (ev_neg (by omega) ?_);rw [suf_nil s i (by omega)];exact Ev.now _
 | succ d ih =>
  intro i hi hd;obtain ⟨c,hc,hb⟩:=suf_at s i (by omega);refine Ev.step (fun k => by rw [lexer_Named.l0]) (ev_pos (by omega) (ev_pos (by omega) (ev_pos (by omega) ?_)));rw [hb];refine ev_bindc (wi_some c) ?_;rw [hc,List.all_cons];cases hw : wi c with
  | true =>
   refine ev_pos rfl ?_;rw [w1 i (by omega),Bool.true_and];exact ih (i + 1) (by omega) (by omega)
  | false => exact ev_neg (by decide) (Ev.now _)
theorem nil_iff (s : ByteArray) : s.toList = [] ↔ s.size = 0:=by
 rw [Lib.toList_data,Lib.size_eq];exact List.eq_nil_iff_length_eq_zero
theorem suf0 (s : ByteArray) : suf s 0 = s.data.toList:=rfl
theorem lex_named (s : ByteArray) (hs : Sm s) : Ev (fun k => lexer_Named.f k s) (named s.data.toList):=by
 unfold lexer_Named.f;by_cases h0 : s.size = 0
 · refine ev_pos ((nil_iff s).2 h0) (Ev.step (fun k => by rw [lexer_Named.j0]) (ev_pos rfl ?_));rw [← suf0,suf_nil s 0 (by omega)];exact Ev.now _
 · refine ev_neg (fun h => h0 ((nil_iff s).1 h)) (ev_pos (by omega) ?_);obtain ⟨c,hc,hb⟩:=suf_at s 0 (by omega);rw [show (bt s 0) = (c.toNat : Int) from hb];refine Ev.bind (dig_some c) ?_;rw [← suf0,hc];have hn : named (c :: suf s (0 + 1)) = (!dig c && (suf s 0).all wi):=by rw [hc];rfl
   rw [hn];refine Ev.step (fun k => by rw [lexer_Named.j0]) ?_;have hd:=hexv_lt10 c;cases hg : dig c with
   | true =>
    have h1:=hd.2 hg;exact ev_pos (by simp;omega) (Ev.now _)
   | false =>
    have h1 : ¬ hexv c < 10:=fun h => by rw [hd.1 h] at hg;cases hg
    refine ev_neg (by simp;omega) ?_;exact named_all s hs s.size 0 (by omega) rfl
theorem ref_named_from (s : ByteArray) (hs : Sm s) (d : Nat) : ∀ i : Nat,1 ≤ i → i ≤ s.size → s.size - i = d → Ev (fun k => crucibleref07_Named.l0 k s (i : Int)) ((suf s i).all wi):=by
 unfold Sm at hs;induction d with
 | zero =>
  intro i h1 hi hd;refine Ev.step (fun k => by rw [crucibleref07_Named.l0]) (ev_neg (by omega) ?_);rw [suf_nil s i (by omega)];have : (s.toList != ([] : List UInt8)) = true:=by
   rw [bne_iff_ne];exact fun h => by have:=(nil_iff s).1 h;omega
  rw [this];exact Ev.now _
 | succ d ih =>
  intro i h1 hi hd;obtain ⟨c,hc,hb⟩:=suf_at s i (by omega);refine Ev.step (fun k => by rw [crucibleref07_Named.l0]) (ev_pos (by omega) (ev_pos (by omega) ?_));rw [hb];refine ev_bindc (let_some c) ?_;rw [hc,List.all_cons];have next:=ih (i + 1) (by omega) (by omega) (by omega)
  cases hl : let_ c with
  | true =>
   refine ev_pos rfl ?_;have hw : wi c = true:=by unfold wi;rw [hl,Bool.or_true]
   rw [w1 i (by omega),hw,Bool.true_and];exact next
  | false =>
   refine ev_neg (by decide) (ev_neg (by omega) (ev_bindc (dig_ref c) ?_));cases hg : dig c with
   | true =>
    refine ev_pos rfl ?_;have hw : wi c = true:=by unfold wi;rw [hg,Bool.true_or]
    rw [w1 i (by omega),hw,Bool.true_and];exact next
   | false =>
    have hw : wi c = false:=by unfold wi;rw [hg,hl];rfl
    rw [hw];exact ev_neg (by decide) (Ev.now _)
theorem ref_named (s : ByteArray) (hs : Sm s) : Ev (fun k => crucibleref07_Named.f k s) (named s.data.toList):=by
 unfold crucibleref07_Named.f;rw [← suf0];by_cases h0 : s.size = 0
 · refine Ev.step (fun k => by rw [crucibleref07_Named.l0]) (ev_neg (by omega) ?_);rw [suf_nil s 0 (by omega)];have : (s.toList != ([] : List UInt8)) = false:=by
    rw [(nil_iff s).2 h0];rfl
   rw [this];exact Ev.now _
 · obtain ⟨c,hc,hb⟩:=suf_at s 0 (by omega);refine Ev.step (fun k => by rw [crucibleref07_Named.l0]) (ev_pos (by omega) (ev_pos (by omega) ?_));rw [show (bt s 0) = (c.toNat : Int) from hb];refine ev_bindc (let_some c) ?_;rw [hc];have hn : named (c :: suf s (0 + 1)) = (let_ c && (suf s 1).all wi):=by
    show (!dig c && List.all (c :: suf s (0 + 1)) wi) = _
    rw [let_wi,List.all_cons,Nat.zero_add];cases dig c <;> cases wi c <;> rfl
   rw [hn];cases hl : let_ c with
   | true =>
    refine ev_pos rfl ?_;rw [Bool.true_and,show wrap64 (0 + 1) = ((1 : Nat) : Int) from w1 0 (by omega)];exact ref_named_from s hs (s.size - 1) 1 (by omega) (by omega) rfl
   | false => exact ev_neg (by decide) (ev_pos rfl (Ev.now _))
theorem bytes_app (a b : ByteArray) : (a ++ b).data.toList = a.data.toList ++ b.data.toList:=by
 rw [ByteArray.data_append,Array.toList_append]
def anyp (pat : Bs) : Bs → Bool
 | [] => pat.isEmpty
 | b :: l => pat.isPrefixOf (b :: l) || anyp pat l
theorem contains_anyp (pat : Bs) : ∀ l : Bs,Lib.contains l pat = anyp pat l
 | [] => by
  unfold Lib.contains Lib.index anyp;cases pat <;> rfl
 | b :: l => by
  have h:=contains_anyp pat l;have hg:=Lib.index_ge l pat;unfold Lib.contains at h ⊢;unfold Lib.index anyp;cases hp : pat.isPrefixOf (b :: l) with
  | true => rfl
  | false =>
   rw [if_neg (by decide),Bool.false_or,← h];by_cases h1 : Lib.index l pat = -1
   · rw [h1];rfl
   · have h3 : (Lib.index l pat == -1) = false:=by rw [beq_eq_false_iff_ne];exact h1
     rw [h3,if_neg (by decide)];rw [Bool.eq_iff_iff,decide_eq_true_iff,decide_eq_true_iff];omega
theorem anyp_short (pat : Bs) : ∀ l : Bs,l.length < pat.length → anyp pat l = false
 | [],h => by
  cases pat with
  | nil => simp at h
  | cons _ _ => rfl
 | b :: l,h => by
  unfold anyp;rw [prefix_short _ _ h,anyp_short pat l (by simp only [List.length_cons] at h;omega)];rfl
theorem lex_reserved (s : ByteArray) (hs : Sm s) : Ev (fun k => lexer_Reserved.f k s) (reserved s.data.toList):=by
 unfold lexer_Reserved.f reserved;refine Ev.bind (lex_named s hs) ?_;unfold Sm at hs;cases hn : named s.data.toList with
 | true =>
  have h1 : ((⟨#[32]⟩ : ByteArray) ++ s).size = 1 + s.size:=by rw [ByteArray.size_append];rfl
  refine ev_pos rfl (ev_pos (by omega) (ev_pos (by omega) ?_));refine ev_bindc (show strings_Contains.f _ _ = some (Lib.contains wordsText ([32] ++ s.data.toList ++ [32])) by
   unfold strings_Contains.f;rw [if_pos (by decide),bytes_app,bytes_app];rfl) ?_
  exact Ev.now _
 | false => exact ev_neg (by decide) (Ev.now _)
def wordsB : ByteArray:=⟨#[32,98,114,101,97,107,32,99,104,97,114,32,99,111,110,116,105,110,117,101,32,100,111,32,101,108,115,101,32,102,111,114,32,103,101,116,98,121,116,101,32,105,102,32,105,110,116,32,112,117,116,98,121,116,101,32,114,101,116,117,114,110,32,115,105,122,101,111,102,32,115,116,114,117,99,116,32,117,105,110,116,32,118,111,105,100,32,119,104,105,108,101,32]⟩
theorem wordsB_size : wordsB.size = 93:=rfl
theorem wordsB_list : wordsB.data.toList = wordsText:=rfl
theorem split_prefix (s : Bs) (c : UInt8) (t : Bs) : ([32] ++ s ++ [32]).isPrefixOf (c :: t) = true ↔ c = 32 ∧ t.take s.length = s ∧ (t.drop s.length).head? = some 32:=by
 rw [List.isPrefixOf_iff_prefix];constructor
 · rintro ⟨u,hu⟩;simp only [List.cons_append,List.nil_append,List.append_assoc,List.cons.injEq] at hu;obtain ⟨h1,h2⟩:=hu;subst h2;exact ⟨h1.symm,by simp,by simp⟩
 · rintro ⟨h1,h2,h3⟩;subst h1;cases hd : t.drop s.length with
   | nil => rw [hd] at h3;simp at h3
   | cons x u =>
    rw [hd] at h3;simp only [List.head?_cons,Option.some.injEq] at h3;subst h3;refine ⟨u,?_⟩;have:=List.take_append_drop s.length t;rw [h2,hd] at this;simp [← this]
theorem ref_reserved_from (s : ByteArray) (hs : Sm s) (d : Nat) : ∀ i : Nat,i ≤ 93 → 93 - i = d → Ev (fun k => crucibleref07_Reserved.l0 k s (i : Int)) (anyp ([32] ++ s.data.toList ++ [32]) (suf wordsB i)):=by
 unfold Sm at hs;have hp : ([32] ++ s.data.toList ++ [32] : Bs).length = s.size + 2:=by
  rw [List.length_append,List.length_append,← Lib.size_eq];simp only [List.length_cons,List.length_nil];omega
 have hl (i : Nat) : (suf wordsB i).length = 93 - i:=by rw [suf_len,wordsB_size]
 induction d with
 | zero =>
  intro i hi hd;have e1 : wrap64 (wrap64 ((i : Int) + (s.size : Int)) + 2) = ((i + s.size + 2 : Nat) : Int):=by unfold wrap64;omega
  refine Ev.step (fun k => by rw [crucibleref07_Reserved.l0]) (ev_neg (by rw [e1];omega) ?_);rw [anyp_short _ _ (by rw [hl,hp];omega)];exact Ev.now _
 | succ d ih =>
  intro i hi hd;have e1 : wrap64 (wrap64 ((i : Int) + (s.size : Int)) + 2) = ((i + s.size + 2 : Nat) : Int):=by unfold wrap64;omega
  refine Ev.step (fun k => by rw [crucibleref07_Reserved.l0]) ?_;by_cases hr : i + s.size + 2 ≤ 93
  · obtain ⟨c,hc,hb⟩:=suf_at wordsB i (by rw [wordsB_size];omega);have e2 : wrap64 (wrap64 ((i : Int) + 1) + (s.size : Int)) = ((i + 1 + s.size : Nat) : Int):=by unfold wrap64;omega
    have next:=ih (i + 1) (by omega) (by omega)
    have hsp:=split_prefix s.data.toList c (suf wordsB (i + 1));refine ev_pos (by rw [e1];omega) (ev_pos (by omega) (ev_pos (by omega) ?_));rw [show bt (⟨#[32,98,114,101,97,107,32,99,104,97,114,32,99,111,110,116,105,110,117,101,32,100,111,32,101,108,115,101,32,102,111,114,32,103,101,116,98,121,116,101,32,105,102,32,105,110,116,32,112,117,116,98,121,116,101,32,114,101,116,117,114,110,32,115,105,122,101,111,102,32,115,116,114,117,99,116,32,117,105,110,116,32,118,111,105,100,32,119,104,105,108,101,32]⟩ : ByteArray) (i : Int) = (c.toNat : Int) from hb];rw [hc];unfold anyp;by_cases h32 : c = 32
    · refine ev_pos (by rw [h32];rfl) ?_;rw [e2,w1 i (by omega)];refine ev_pos (by omega) (ev_pos (by omega) (ev_pos (by omega) ?_));have hx : ((wordsB.extract (((i + 1 : Nat) : Int)).toNat (((i + 1 + s.size : Nat) : Int)).toNat).toList = s.toList) ↔ (suf wordsB (i + 1)).take s.data.toList.length = s.data.toList:=by
       rw [Lib.toList_data,Lib.toList_data,Lib.extract_data,Int.toNat_natCast,Int.toNat_natCast,← Lib.size_eq,Nat.add_sub_cancel_left];rfl
      by_cases heq : (suf wordsB (i + 1)).take s.data.toList.length = s.data.toList
      · refine ev_pos (hx.2 heq) (ev_pos (by omega) (ev_pos (by omega) ?_));obtain ⟨c2,hc2,hb2⟩:=suf_at wordsB (i + 1 + s.size) (by rw [wordsB_size];omega);rw [show bt (⟨#[32,98,114,101,97,107,32,99,104,97,114,32,99,111,110,116,105,110,117,101,32,100,111,32,101,108,115,101,32,102,111,114,32,103,101,116,98,121,116,101,32,105,102,32,105,110,116,32,112,117,116,98,121,116,101,32,114,101,116,117,114,110,32,115,105,122,101,111,102,32,115,116,114,117,99,116,32,117,105,110,116,32,118,111,105,100,32,119,104,105,108,101,32]⟩ : ByteArray) ((i + 1 + s.size : Nat) : Int) = (c2.toNat : Int) from hb2];have hd2 : (suf wordsB (i + 1)).drop s.data.toList.length = c2 :: suf wordsB (i + 1 + s.size + 1):=by rw [← Lib.size_eq,suf_drop,hc2]
        by_cases h2 : c2 = 32
        · refine ev_pos (by rw [h2];rfl) ?_;rw [hsp.2 ⟨h32,heq,by rw [hd2,h2];rfl⟩,Bool.true_or];exact Ev.now _
        · refine ev_neg (fun e => h2 (UInt8.toNat_inj.1 (by have : (32 : UInt8).toNat = 32:=rfl;omega))) ?_;have : ([32] ++ s.data.toList ++ [32] : Bs).isPrefixOf (c :: suf wordsB (i + 1)) = false:=by
           rw [Bool.eq_false_iff];intro h;have h3:=(hsp.1 h).2.2;rw [hd2] at h3;simp only [List.head?_cons,Option.some.injEq] at h3;exact h2 h3
          rw [this,Bool.false_or];exact next
      · refine ev_neg (fun h => heq (hx.1 h)) ?_;have : ([32] ++ s.data.toList ++ [32] : Bs).isPrefixOf (c :: suf wordsB (i + 1)) = false:=by
         rw [Bool.eq_false_iff];exact fun h => heq (hsp.1 h).2.1
        rw [this,Bool.false_or];exact next
    · refine ev_neg (fun e => h32 (UInt8.toNat_inj.1 (by have : (32 : UInt8).toNat = 32:=rfl;omega))) ?_;have : ([32] ++ s.data.toList ++ [32] : Bs).isPrefixOf (c :: suf wordsB (i + 1)) = false:=by
       rw [Bool.eq_false_iff];exact fun h => h32 (hsp.1 h).1
      rw [this,Bool.false_or,w1 i (by omega)];exact next
  · refine ev_neg (by rw [e1];omega) ?_;rw [anyp_short _ _ (by rw [hl,hp];omega)];exact Ev.now _
theorem ref_reserved (s : ByteArray) (hs : Sm s) : Ev (fun k => crucibleref07_Reserved.f k s) (reserved s.data.toList):=by
 unfold crucibleref07_Reserved.f reserved;refine Ev.bind (ref_named s hs) ?_;cases hn : named s.data.toList with
 | true =>
  refine ev_pos rfl ?_;rw [Bool.true_and,contains_anyp,← wordsB_list];exact ref_reserved_from s hs 93 0 (by omega) rfl
 | false => exact ev_neg (by decide) (Ev.now _)
end Go.Proofs.YtboojhadfhpdeaaGreatDoor.Lex
namespace Go.Proofs.YtboojhadfhpdeaaGreatDoor.Q
open Go.RowKit Go.Proofs.YtboojhadfhpdeaaGreatDoorW.PrintWords Go.Proofs.YtboojhadfhpdeaaGreatDoorW.PrintLast Go.Proofs.YtboojhadfhpdeaaGreatDoorW.PrintMore
attribute [local go_sem] max2_int min2_int max_two min_two max_three min_three max_four min_four
set_option linter.unusedVariables false
set_option linter.unusedSimpArgs false
def crucibleref08_name.f (k : Nat) (a0 : ByteArray) : Option (Bool):=(crucibleref07_Named.f k a0).bind fun t110 => (if t110 = true then ((crucibleref07_Reserved.f k a0).bind fun t111 => (some (!t111))) else (some false))
theorem crucibleref08_name.mono : ∀ a0 k,LeO (crucibleref08_name.f k a0) (crucibleref08_name.f (k + 1) a0):=by
 intro a0 k;unfold crucibleref08_name.f
 repeat' first
  | (with_reducible exact crucibleref07_Named.mono _ _)
  | (with_reducible exact crucibleref07_Reserved.mono _ _)
  | (with_reducible exact LeO.refl _)
  | (with_reducible exact LeO.none _)
  | (with_reducible refine LeO.ite ?_ ?_)
  | (with_reducible refine LeO.bind ?_ (fun _ => ?_))
  | exact crucibleref07_Named.mono _ _
  | exact crucibleref07_Reserved.mono _ _
  | exact LeO.none _
  | refine LeO.ite ?_ ?_
  | refine LeO.bind ?_ (fun _ => ?_)
set_option maxHeartbeats 8000000 in
set_option maxRecDepth 100000 in
theorem crucibleref08_name.calls (k : Nat) (a0 : ByteArray) (r : Bool) (w : World) (h : crucibleref08_name.f k a0 = some r) :
 Calls Tryz.prog 34 #[.string a0] w fun e w' => e = .returned (.bool r) ∧ Drawn0 w w' := by
 have H : ((crucibleref07_Named.f k a0).bind fun t110 => (if t110 = true then ((crucibleref07_Reserved.f k a0).bind fun t111 => (some (!t111))) else (some false))) = some r:=h;clear h;replace H:=Option.bind_eq_some_iff.mp H;obtain ⟨t110,A20,H⟩:=H;replace H : (if t110 = true then ((crucibleref07_Reserved.f k a0).bind fun t111 => (some (!t111))) else (some false)) = some r:=H;have A2:=Aside0.mk A20;clear A20;by_cases c3 : t110 = true
 · subst c3;have H1 : ((crucibleref07_Reserved.f k a0).bind fun t111 => (some (!t111))) = some r:=by rw [if_pos rfl] at H;exact H
   clear H;have H:=H1;clear H1;replace H:=Option.bind_eq_some_iff.mp H;obtain ⟨t111,A40,H⟩:=H;replace H : (some (!t111)) = some r:=H;have A4:=Aside0.mk A40;clear A40;obtain rfl:=Option.some.inj H;go_enter Tryz.func34,Tryz.ntmps34
   go_wp2_with (first|((with_reducible refine gate_callee (f:=47) rfl ?_);refine goesL_ (some 4) rfl rfl Tryz.func47 (by kernel_rfl) rfl #[.string a0] rfl (by (try simp only [List.map_toArray,List.map_cons,List.map_nil]);first|done|rfl|(simp only [List.length_drop,List.length_take];rfl)) ?_;(with_reducible refine (crucibleref07_Named.calls k a0 true _ A2.out).mono ?_);rintro e w' ⟨rfl,⟨nd,rfl⟩⟩;refine ⟨_,rfl,?_⟩)|(go_at_call 48;(with_reducible refine (crucibleref07_Reserved.calls k a0 t111 _ A4.out).mono ?_);rintro e w' ⟨rfl,⟨nd,rfl⟩⟩))
   go_ret
   exact ⟨by first|rfl|(simp;done)|(simp [*];done),by repeat (first|exact Drawn0.refl _|apply Drawn0.step)⟩
 · replace c3:=Bool.eq_false_iff.mpr c3;subst c3;have H1 : (some false) = some r:=by rw [if_neg (show ¬ (false = true) by decide)] at H;exact H
   clear H;have H:=H1;clear H1;obtain rfl:=Option.some.inj H;go_enter Tryz.func34,Tryz.ntmps34
   go_wp2_with (first|((with_reducible refine gate_callee (f:=47) rfl ?_);refine goesL_ (some 4) rfl rfl Tryz.func47 (by kernel_rfl) rfl #[.string a0] rfl (by (try simp only [List.map_toArray,List.map_cons,List.map_nil]);first|done|rfl|(simp only [List.length_drop,List.length_take];rfl)) ?_;(with_reducible refine (crucibleref07_Named.calls k a0 false _ A2.out).mono ?_);rintro e w' ⟨rfl,⟨nd,rfl⟩⟩;refine ⟨_,rfl,?_⟩))
   go_ret
   exact ⟨by first|rfl|(simp;done)|(simp [*];done),by repeat (first|exact Drawn0.refl _|apply Drawn0.step)⟩
end Go.Proofs.YtboojhadfhpdeaaGreatDoor.Q
namespace Go.Proofs.YtboojhadfhpdeaaGreatDoor.Q
open Go.RowKit Go.Proofs.YtboojhadfhpdeaaGreatDoorW.PrintWords Go.Proofs.YtboojhadfhpdeaaGreatDoorW.PrintLast Go.Proofs.YtboojhadfhpdeaaGreatDoorW.PrintMore
attribute [local go_sem] max2_int min2_int max_two min_two max_three min_three max_four min_four
set_option linter.unusedVariables false
set_option linter.unusedSimpArgs false
mutual
def crucibleref08_sign.l0 : Nat → ByteArray → ByteArray → Int → Option (Bool)
 | 0,_,_,_ => none
 | k + 1,x0,x1,x5 => if x5 < (x1.size : Int) then (if 0 ≤ x5 then (if (bt x1 x5) = 32 then (some false) else (crucibleref08_sign.l0 k x0 x1 (wrap64 (x5 + 1)))) else (none)) else (crucibleref08_sign.l1 k x0 x1 0)
def crucibleref08_sign.l1 : Nat → ByteArray → ByteArray → Int → Option (Bool)
 | 0,_,_,_ => none
 | k + 1,x0,x1,x6 => if (wrap64 ((wrap64 (x6 + (x1.size : Int))) + 2)) ≤ (x0.size : Int) then (if 0 ≤ x6 then (if x6 < (x0.size : Int) then (if (bt x0 x6) = 32 then (if 0 ≤ (wrap64 (x6 + 1)) then (if (wrap64 (x6 + 1)) ≤ (wrap64 ((wrap64 (x6 + 1)) + (x1.size : Int))) then (if (wrap64 ((wrap64 (x6 + 1)) + (x1.size : Int))) ≤ (x0.size : Int) then (if (x0.extract ((wrap64 (x6 + 1)) : Int).toNat ((wrap64 ((wrap64 (x6 + 1)) + (x1.size : Int))) : Int).toNat).toList = x1.toList then (if 0 ≤ (wrap64 ((wrap64 (x6 + 1)) + (x1.size : Int))) then (if (wrap64 ((wrap64 (x6 + 1)) + (x1.size : Int))) < (x0.size : Int) then (if (bt x0 (wrap64 ((wrap64 (x6 + 1)) + (x1.size : Int)))) = 32 then (some true) else (crucibleref08_sign.l1 k x0 x1 (wrap64 (x6 + 1)))) else (none)) else (none)) else (crucibleref08_sign.l1 k x0 x1 (wrap64 (x6 + 1)))) else (none)) else (none)) else (none)) else (crucibleref08_sign.l1 k x0 x1 (wrap64 (x6 + 1)))) else (none)) else (none)) else (some false)
end
def crucibleref08_sign.f (k : Nat) (a0 : ByteArray) (a1 : ByteArray) : Option (Bool):=if a1.toList = ([] : List UInt8) then (some false) else (crucibleref08_sign.l0 k a0 a1 0)
theorem crucibleref08_sign.mono_l : ∀ k,(∀ y0 y1 y2,LeO (crucibleref08_sign.l0 k y0 y1 y2) (crucibleref08_sign.l0 (k + 1) y0 y1 y2)) ∧ (∀ y0 y1 y2,LeO (crucibleref08_sign.l1 k y0 y1 y2) (crucibleref08_sign.l1 (k + 1) y0 y1 y2))
 | 0 => ⟨fun _ _ _ r h => by simp [crucibleref08_sign.l0] at h,fun _ _ _ r h => by simp [crucibleref08_sign.l1] at h⟩
 | k + 1 => by
  obtain ⟨ih0,ih1⟩:=crucibleref08_sign.mono_l k;refine ⟨?_,?_⟩
  · intro y0 y1 y2;unfold crucibleref08_sign.l0
    repeat' first
    | (with_reducible exact ih0 _ _ _)
    | (with_reducible exact ih1 _ _ _)
    | (with_reducible exact LeO.refl _)
    | (with_reducible exact LeO.none _)
    | (with_reducible refine LeO.ite ?_ ?_)
    | (with_reducible refine LeO.bind ?_ (fun _ => ?_))
    | exact ih0 _ _ _
    | exact ih1 _ _ _
    | exact LeO.none _
    | refine LeO.ite ?_ ?_
    | refine LeO.bind ?_ (fun _ => ?_)
  · intro y0 y1 y2;unfold crucibleref08_sign.l1
    repeat' first
    | (with_reducible exact ih0 _ _ _)
    | (with_reducible exact ih1 _ _ _)
    | (with_reducible exact LeO.refl _)
    | (with_reducible exact LeO.none _)
    | (with_reducible refine LeO.ite ?_ ?_)
    | (with_reducible refine LeO.bind ?_ (fun _ => ?_))
    | exact ih0 _ _ _
    | exact ih1 _ _ _
    | exact LeO.none _
    | refine LeO.ite ?_ ?_
    | refine LeO.bind ?_ (fun _ => ?_)
theorem crucibleref08_sign.mono : ∀ a0 a1 k,LeO (crucibleref08_sign.f k a0 a1) (crucibleref08_sign.f (k + 1) a0 a1):=by
 intro a0 a1 k;obtain ⟨ih0,ih1⟩:=crucibleref08_sign.mono_l k;unfold crucibleref08_sign.f
 repeat' first
  | (with_reducible exact ih0 _ _ _)
  | (with_reducible exact ih1 _ _ _)
  | (with_reducible exact LeO.refl _)
  | (with_reducible exact LeO.none _)
  | (with_reducible refine LeO.ite ?_ ?_)
  | (with_reducible refine LeO.bind ?_ (fun _ => ?_))
  | exact ih0 _ _ _
  | exact ih1 _ _ _
  | exact LeO.none _
  | refine LeO.ite ?_ ?_
  | refine LeO.bind ?_ (fun _ => ?_)
set_option maxHeartbeats 8000000 in
set_option maxRecDepth 100000 in
theorem crucibleref08_sign.calls (k : Nat) (a0 : ByteArray) (a1 : ByteArray) (r : Bool) (w : World) (h : crucibleref08_sign.f k a0 a1 = some r) :
 Calls Tryz.prog 97 #[.string a0,.string a1] w fun e w' => e = .returned (.bool r) ∧ Drawn0 w w' := by
 have H : (if a1.toList = ([] : List UInt8) then (some false) else (crucibleref08_sign.l0 k a0 a1 0)) = some r:=h;clear h;by_cases c3 : a1.toList = ([] : List UInt8)
 · rw [if_pos c3] at H;have c3b0 : (a1.toList == ([] : List UInt8)) = true:=beq_iff_eq.mpr c3;have c3b1 : (a1.toList != ([] : List UInt8)) = false:=bne_eq_false_iff_eq.mpr c3;clear c3;obtain rfl:=Option.some.inj H;go_enter Tryz.func97,Tryz.ntmps97
   go_wp2
   go_ret
   exact ⟨by first|rfl|(simp;done)|(simp [*];done),by repeat (first|exact Drawn0.refl _|apply Drawn0.step)⟩
 · rw [if_neg c3] at H;have c3b0 : (a1.toList == ([] : List UInt8)) = false:=beq_eq_false_iff_ne.mpr c3;have c3b1 : (a1.toList != ([] : List UInt8)) = true:=bne_iff_ne.mpr c3;have H' := Aside0.mk H;clear H;go_enter Tryz.func97,Tryz.ntmps97
   go_wp2
   go_loopg [5] k (fun kq v5 w' => ∃ (x5_1 : Int),v5 = .int .i64 x5_1 ∧ Aside0 (crucibleref08_sign.l0 kq a0 a1 x5_1 = some r) ∧ Aside0 (kq ≤ k) ∧ Drawn0 w w')
   case atStart => exact ⟨(0),(by first|rfl|(simp;done)|(simp [*];done)),H',⟨Nat.le_refl _⟩,by repeat (first|exact Drawn0.refl _|apply Drawn0.step)⟩
   case round =>
    clear H';try clear p2
    try clear c3
    try clear c3b0
    try clear c3b1
    obtain ⟨x5_1,rfl,HA,HK1,⟨m1,rfl⟩⟩:=hrel;cases gk with
    | zero => exact absurd HA.out (by simp [crucibleref08_sign.l0])
    | succ k1 =>
     have H:=HA.out;clear HA;simp only [crucibleref08_sign.l0] at H;by_cases c4 : x5_1 < (a1.size : Int)
     · rw [if_pos c4] at H;have c4b0 : decide (x5_1 < (a1.size : Int)) = true:=decide_eq_true c4;clear c4;by_cases c5 : 0 ≤ x5_1
       · rw [if_pos c5] at H;have c5b0 : decide (0 ≤ x5_1) = true:=decide_eq_true c5;clear c5;by_cases c7 : (bt a1 x5_1) = 32
         · rw [if_pos c7] at H;have c7b0 : ((bt a1 x5_1) == 32) = true:=beq_iff_eq.mpr c7;have c7b1 : ((bt a1 x5_1) != 32) = false:=bne_eq_false_iff_eq.mpr c7;clear c7;obtain rfl:=Option.some.inj H;have p6 : 0 ≤ (x5_1 : Int):=of_decide_eq_true (by first|(with_reducible assumption)|assumption);have q6 : x5_1 < (a1.size : Int):=of_decide_eq_true (by first|(with_reducible assumption)|assumption);have hx6:=bt_at a1 x5_1;replace p6:=eq_true p6;replace q6:=eq_true q6;go_wp2
           go_ret
           exact ⟨by first|rfl|(simp;done)|(simp [*];done),by repeat (first|exact Drawn0.refl _|apply Drawn0.step)⟩
         · rw [if_neg c7] at H;have c7b0 : ((bt a1 x5_1) == 32) = false:=beq_eq_false_iff_ne.mpr c7;have c7b1 : ((bt a1 x5_1) != 32) = true:=bne_iff_ne.mpr c7;have H' := Aside0.mk H;clear H;have p6 : 0 ≤ (x5_1 : Int):=of_decide_eq_true (by first|(with_reducible assumption)|assumption);have q6 : x5_1 < (a1.size : Int):=of_decide_eq_true (by first|(with_reducible assumption)|assumption);have hx6:=bt_at a1 x5_1;replace p6:=eq_true p6;replace q6:=eq_true q6;go_wp2
           go_roundg k1
           case measure => have:=HK1.out;omega
           case rel => exact ⟨(wrap64 (x5_1 + 1)),(by first|rfl|(simp;done)|(simp [*];done)),H',⟨by have:=HK1.out;omega⟩,by repeat (first|exact Drawn0.refl _|apply Drawn0.step)⟩
       · rw [if_neg c5] at H;exact absurd H (by simp)
     · rw [if_neg c4] at H;have c4b0 : decide (x5_1 < (a1.size : Int)) = false:=decide_eq_false c4;clear c4;have H' := Aside0.mk H;clear H;go_wp2
       go_loopg [6] k1 (fun kq v6 w' => ∃ (x6_2 : Int),v6 = .int .i64 x6_2 ∧ Aside0 (crucibleref08_sign.l1 kq a0 a1 x6_2 = some r) ∧ Aside0 (kq ≤ k1) ∧ Drawn0 w w')
       case atStart => exact ⟨(0),(by first|rfl|(simp;done)|(simp [*];done)),H',⟨Nat.le_refl _⟩,by repeat (first|exact Drawn0.refl _|apply Drawn0.step)⟩
       case round =>
        clear H';try clear p2
        try clear c3
        try clear c3b0
        try clear c3b1
        try clear c4
        try clear c4b0
        try clear c5
        try clear c5b0
        try clear p6
        try clear q6
        try clear hx6
        try clear c7
        try clear c7b0
        try clear c7b1
        try clear p2
        try clear p6
        try clear q6
        obtain ⟨x6_2,rfl,HA,HK2,⟨m2,rfl⟩⟩:=hrel;cases gk with
        | zero => exact absurd HA.out (by simp [crucibleref08_sign.l1])
        | succ k2 =>
         have H:=HA.out;clear HA;simp only [crucibleref08_sign.l1] at H;by_cases c8 : (wrap64 ((wrap64 (x6_2 + (a1.size : Int))) + 2)) ≤ (a0.size : Int)
         · rw [if_pos c8] at H;have c8b0 : decide ((wrap64 ((wrap64 (x6_2 + (a1.size : Int))) + 2)) ≤ (a0.size : Int)) = true:=decide_eq_true c8;clear c8;by_cases c9 : 0 ≤ x6_2
           · rw [if_pos c9] at H;have c9b0 : decide (0 ≤ x6_2) = true:=decide_eq_true c9;clear c9;by_cases c10 : x6_2 < (a0.size : Int)
             · rw [if_pos c10] at H;have c10b0 : decide (x6_2 < (a0.size : Int)) = true:=decide_eq_true c10;clear c10;by_cases c12 : (bt a0 x6_2) = 32
               · rw [if_pos c12] at H;have c12b0 : ((bt a0 x6_2) == 32) = true:=beq_iff_eq.mpr c12;have c12b1 : ((bt a0 x6_2) != 32) = false:=bne_eq_false_iff_eq.mpr c12;clear c12;obtain ⟨ji13,hji13⟩ : ∃ j_ : Int,(wrap64 (x6_2 + 1)) = j_:=⟨_,rfl⟩
                 replace H : (if 0 ≤ (ji13) then (if (ji13) ≤ (wrap64 ((ji13) + (a1.size : Int))) then (if (wrap64 ((ji13) + (a1.size : Int))) ≤ (a0.size : Int) then (if (a0.extract ((ji13) : Int).toNat ((wrap64 ((ji13) + (a1.size : Int))) : Int).toNat).toList = a1.toList then (if 0 ≤ (wrap64 ((ji13) + (a1.size : Int))) then (if (wrap64 ((ji13) + (a1.size : Int))) < (a0.size : Int) then (if (bt a0 (wrap64 ((ji13) + (a1.size : Int)))) = 32 then (some true) else (crucibleref08_sign.l1 k2 a0 a1 ji13)) else (none)) else (none)) else (crucibleref08_sign.l1 k2 a0 a1 ji13)) else (none)) else (none)) else (none)) = some r:=by first|(rw [hji13] at H;exact H)|(simp only [hji13] at H ⊢;exact H)
                 have hji13w : (IntKind.i64.wrap (x6_2 + 1)) = ji13:=(i64_w _).trans hji13;by_cases c14 : 0 ≤ (ji13)
                 · rw [if_pos c14] at H;have c14b0:=eq_true c14;have c14b1 : decide (0 ≤ (ji13)) = true:=decide_eq_true c14;clear c14;by_cases c15 : (ji13) ≤ (wrap64 ((ji13) + (a1.size : Int)))
                   · rw [if_pos c15] at H;have c15b0:=eq_true c15;have c15b1 : decide ((ji13) ≤ (wrap64 ((ji13) + (a1.size : Int)))) = true:=decide_eq_true c15;by_cases c16 : (wrap64 ((ji13) + (a1.size : Int))) ≤ (a0.size : Int)
                     · rw [if_pos c16] at H;have c16b0:=eq_true c16;have c16b1 : decide ((wrap64 ((ji13) + (a1.size : Int))) ≤ (a0.size : Int)) = true:=decide_eq_true c16;by_cases c17 : (a0.extract ((ji13) : Int).toNat ((wrap64 ((ji13) + (a1.size : Int))) : Int).toNat).toList = a1.toList
                       · rw [if_pos c17] at H;have c17b0 : ((a0.extract ((ji13) : Int).toNat ((wrap64 ((ji13) + (a1.size : Int))) : Int).toNat).toList == a1.toList) = true:=beq_iff_eq.mpr c17;have c17b1 : ((a0.extract ((ji13) : Int).toNat ((wrap64 ((ji13) + (a1.size : Int))) : Int).toNat).toList != a1.toList) = false:=bne_eq_false_iff_eq.mpr c17;clear c17;obtain ⟨ji18,hji18⟩ : ∃ j_ : Int,(wrap64 ((ji13) + (a1.size : Int))) = j_:=⟨_,rfl⟩
                         replace H : (if 0 ≤ (ji18) then (if (ji18) < (a0.size : Int) then (if (bt a0 (ji18)) = 32 then (some true) else (crucibleref08_sign.l1 k2 a0 a1 ji13)) else (none)) else (none)) = some r:=by first|(rw [hji18] at H;exact H)|(simp only [hji18] at H ⊢;exact H)
                         (try rw [hji18] at c15b0);(try rw [hji18] at c15b1);(try rw [hji18] at c15);(try rw [hji18] at c16b0);(try rw [hji18] at c16b1);(try rw [hji18] at c16);(try rw [hji18] at c17b0);(try rw [hji18] at c17b1);have hji18w : (IntKind.i64.wrap ((ji13) + (a1.size : Int))) = ji18:=(i64_w _).trans hji18;by_cases c19 : 0 ≤ (ji18)
                         · rw [if_pos c19] at H;have c19b0 : decide (0 ≤ (ji18)) = true:=decide_eq_true c19;clear c19;by_cases c20 : (ji18) < (a0.size : Int)
                           · rw [if_pos c20] at H;have c20b0 : decide ((ji18) < (a0.size : Int)) = true:=decide_eq_true c20;clear c20;by_cases c22 : (bt a0 (ji18)) = 32
                             · rw [if_pos c22] at H;have c22b0 : ((bt a0 (ji18)) == 32) = true:=beq_iff_eq.mpr c22;have c22b1 : ((bt a0 (ji18)) != 32) = false:=bne_eq_false_iff_eq.mpr c22;clear c22;obtain rfl:=Option.some.inj H;have p11 : 0 ≤ (x6_2 : Int):=of_decide_eq_true (by first|(with_reducible assumption)|assumption);have q11 : x6_2 < (a0.size : Int):=of_decide_eq_true (by first|(with_reducible assumption)|assumption);have hx11:=bt_at a0 x6_2;replace p11:=eq_true p11;replace q11:=eq_true q11;have p21 : 0 ≤ ((ji18) : Int):=of_decide_eq_true (by first|(with_reducible assumption)|assumption);have q21 : (ji18) < (a0.size : Int):=of_decide_eq_true (by first|(with_reducible assumption)|assumption);have hx21:=bt_at a0 (ji18);replace p21:=eq_true p21;replace q21:=eq_true q21;go_wp2
                               go_ret
                               exact ⟨by first|rfl|(simp;done)|(simp only [← hji13,← hji18] <;> (first|rfl|simp))|(simp [*];done),by repeat (first|exact Drawn0.refl _|apply Drawn0.step)⟩
                             · rw [if_neg c22] at H;have c22b0 : ((bt a0 (ji18)) == 32) = false:=beq_eq_false_iff_ne.mpr c22;have c22b1 : ((bt a0 (ji18)) != 32) = true:=bne_iff_ne.mpr c22;have H' := Aside0.mk H;clear H;have p11 : 0 ≤ (x6_2 : Int):=of_decide_eq_true (by first|(with_reducible assumption)|assumption);have q11 : x6_2 < (a0.size : Int):=of_decide_eq_true (by first|(with_reducible assumption)|assumption);have hx11:=bt_at a0 x6_2;replace p11:=eq_true p11;replace q11:=eq_true q11;have p21 : 0 ≤ ((ji18) : Int):=of_decide_eq_true (by first|(with_reducible assumption)|assumption);have q21 : (ji18) < (a0.size : Int):=of_decide_eq_true (by first|(with_reducible assumption)|assumption);have hx21:=bt_at a0 (ji18);replace p21:=eq_true p21;replace q21:=eq_true q21;go_wp2
                               go_roundg k2
                               case measure => have:=HK1.out;have:=HK2.out;omega
                               case rel => exact ⟨(ji13),(by first|rfl|(simp;done)|(simp only [← hji13] <;> (first|rfl|simp))|(simp [*];done)),H',⟨by have:=HK1.out;have:=HK2.out;omega⟩,by repeat (first|exact Drawn0.refl _|apply Drawn0.step)⟩
                           · rw [if_neg c20] at H;exact absurd H (by simp)
                         · rw [if_neg c19] at H;exact absurd H (by simp)
                       · rw [if_neg c17] at H;have c17b0 : ((a0.extract ((ji13) : Int).toNat ((wrap64 ((ji13) + (a1.size : Int))) : Int).toNat).toList == a1.toList) = false:=beq_eq_false_iff_ne.mpr c17;have c17b1 : ((a0.extract ((ji13) : Int).toNat ((wrap64 ((ji13) + (a1.size : Int))) : Int).toNat).toList != a1.toList) = true:=bne_iff_ne.mpr c17;have H' := Aside0.mk H;clear H;have p11 : 0 ≤ (x6_2 : Int):=of_decide_eq_true (by first|(with_reducible assumption)|assumption);have q11 : x6_2 < (a0.size : Int):=of_decide_eq_true (by first|(with_reducible assumption)|assumption);have hx11:=bt_at a0 x6_2;replace p11:=eq_true p11;replace q11:=eq_true q11;go_wp2
                         go_roundg k2
                         case measure => have:=HK1.out;have:=HK2.out;omega
                         case rel => exact ⟨(ji13),(by first|rfl|(simp;done)|(simp only [← hji13] <;> (first|rfl|simp))|(simp [*];done)),H',⟨by have:=HK1.out;have:=HK2.out;omega⟩,by repeat (first|exact Drawn0.refl _|apply Drawn0.step)⟩
                     · rw [if_neg c16] at H;exact absurd H (by simp)
                   · rw [if_neg c15] at H;exact absurd H (by simp)
                 · rw [if_neg c14] at H;exact absurd H (by simp)
               · rw [if_neg c12] at H;have c12b0 : ((bt a0 x6_2) == 32) = false:=beq_eq_false_iff_ne.mpr c12;have c12b1 : ((bt a0 x6_2) != 32) = true:=bne_iff_ne.mpr c12;have H' := Aside0.mk H;clear H;have p11 : 0 ≤ (x6_2 : Int):=of_decide_eq_true (by first|(with_reducible assumption)|assumption);have q11 : x6_2 < (a0.size : Int):=of_decide_eq_true (by first|(with_reducible assumption)|assumption);have hx11:=bt_at a0 x6_2;replace p11:=eq_true p11;replace q11:=eq_true q11;go_wp2
                 go_roundg k2
                 case measure => have:=HK1.out;have:=HK2.out;omega
                 case rel => exact ⟨(wrap64 (x6_2 + 1)),(by first|rfl|(simp;done)|(simp [*];done)),H',⟨by have:=HK1.out;have:=HK2.out;omega⟩,by repeat (first|exact Drawn0.refl _|apply Drawn0.step)⟩
             · rw [if_neg c10] at H;exact absurd H (by simp)
           · rw [if_neg c9] at H;exact absurd H (by simp)
         · rw [if_neg c8] at H;have c8b0 : decide ((wrap64 ((wrap64 (x6_2 + (a1.size : Int))) + 2)) ≤ (a0.size : Int)) = false:=decide_eq_false c8;clear c8;obtain rfl:=Option.some.inj H;go_wp2
           go_ret
           exact ⟨by first|rfl|(simp;done)|(simp [*];done),by repeat (first|exact Drawn0.refl _|apply Drawn0.step)⟩
end Go.Proofs.YtboojhadfhpdeaaGreatDoor.Q
namespace Go.Proofs.YtboojhadfhpdeaaGreatDoor.Q
open Go.RowKit Go.Proofs.YtboojhadfhpdeaaGreatDoorW.PrintWords Go.Proofs.YtboojhadfhpdeaaGreatDoor.Lex
set_option linter.unusedVariables false
abbrev Sml (s : ByteArray) : Prop:=s.size ≤ 1048576
theorem Sml.sm {s : ByteArray} (h : Sml s) : Sm s:=by unfold Sml at h;unfold Sm;omega
def nmB (s : ByteArray) : Bool:=named s.data.toList && !reserved s.data.toList
theorem nm_ast (s : ByteArray) (hs : Sml s) : Ev (fun k => ast_name.f k s) (nmB s):=by
 unfold ast_name.f nmB;refine Ev.bind (lex_named s hs.sm) ?_;cases hn : named s.data.toList with
 | true =>
  refine ev_pos rfl (Ev.bind (lex_reserved s hs.sm) ?_);exact Ev.now _
 | false => exact ev_neg (by decide) (Ev.now _)
theorem nm_ref (s : ByteArray) (hs : Sml s) : Ev (fun k => crucibleref08_name.f k s) (nmB s):=by
 unfold crucibleref08_name.f nmB;refine Ev.bind (ref_named s hs.sm) ?_;cases hn : named s.data.toList with
 | true =>
  refine ev_pos rfl (Ev.bind (ref_reserved s hs.sm) ?_);exact Ev.now _
 | false => exact ev_neg (by decide) (Ev.now _)
def oneL (l w : Bs) : Bool:=!w.isEmpty && !w.contains 32 && anyp ([32] ++ w ++ [32]) l
theorem contains_one (w : Bs) : Lib.contains w [32] = w.contains 32:=by
 rw [contains_anyp];induction w with
 | nil => rfl
 | cons c t ih =>
  unfold anyp;rw [ih,List.contains_cons];congr 1;simp [List.isPrefixOf]
theorem one_ast (l s : ByteArray) (hl : l.size ≤ 1000) (hs : Sml s) : ast_one.f l s = some (oneL ([32] ++ l.data.toList ++ [32]) s.data.toList):=by
 unfold Sml at hs;unfold ast_one.f oneL;by_cases h0 : s.toList = []
 · rw [if_pos h0];rw [Lib.toList_data] at h0;rw [h0];rfl
 · rw [if_neg h0];rw [Lib.toList_data] at h0;have e0 : s.data.toList.isEmpty = false:=by cases h : s.data.toList with
    | nil => exact absurd h h0
    | cons _ _ => rfl
   rw [e0];rw [show strings_Contains.f s ⟨#[32]⟩ = some (Lib.contains s.data.toList [32]) from by unfold strings_Contains.f;rw [if_pos (by omega)],Option.bind_some,contains_one];cases hc : s.data.toList.contains 32 with
   | true => rw [if_pos rfl];rfl
   | false =>
    have a1 : ((⟨#[32]⟩ : ByteArray) ++ l).size = 1 + l.size:=by rw [ByteArray.size_append];rfl
    have a2 : ((⟨#[32]⟩ : ByteArray) ++ s).size = 1 + s.size:=by rw [ByteArray.size_append];rfl
    have a3 : (((⟨#[32]⟩ : ByteArray) ++ l) ++ (⟨#[32]⟩ : ByteArray)).size = 1 + l.size + 1:=by rw [ByteArray.size_append,a1];rfl
    rw [if_neg (by decide),if_pos (by omega),if_pos (by omega),if_pos (by omega),if_pos (by omega)];unfold strings_Contains.f;rw [if_pos (by omega),Option.bind_some,bytes_app,bytes_app,bytes_app,bytes_app,contains_anyp];rfl
theorem wrap_a (i n : Nat) (h : i ≤ 1000) (hn : n ≤ 1048576) : wrap64 (wrap64 ((i : Int) + (n : Int)) + 2) = ((i + n + 2 : Nat) : Int):=by unfold wrap64;omega
theorem wrap_b (i n : Nat) (h : i ≤ 1000) (hn : n ≤ 1048576) : wrap64 (wrap64 ((i : Int) + 1) + (n : Int)) = ((i + 1 + n : Nat) : Int):=by unfold wrap64;omega
section
variable (t s : ByteArray)
theorem sign_no (hs : Sml s) (hn : s.size ≠ 0 ∨ True) (d : Nat) : ∀ i : Nat,i ≤ s.size → s.size - i = d → (suf s i).contains 32 = true → Ev (fun k => crucibleref08_sign.l0 k t s (i : Int)) false:=by
 unfold Sml at hs;induction d with
 | zero =>
  intro i hi hd hc;rw [suf_nil s i (by omega)] at hc;cases hc
 | succ d ih =>
  intro i hi hd hc;obtain ⟨c,hc1,hb⟩:=suf_at s i (by omega);refine Ev.step (fun k => by rw [crucibleref08_sign.l0]) (ev_pos (by omega) (ev_pos (by omega) ?_));rw [hb];rw [hc1,List.contains_cons] at hc;by_cases h32 : c = 32
  · exact ev_pos (by rw [h32];rfl) (Ev.now _)
  · refine ev_neg (fun e => h32 (UInt8.toNat_inj.1 (by have : (32 : UInt8).toNat = 32:=rfl;omega))) ?_;rw [w1 i (by omega)];refine ih (i + 1) (by omega) (by omega) ?_;rw [show ((32 : UInt8) == c) = false from beq_eq_false_iff_ne.2 (fun e => h32 e.symm),Bool.false_or] at hc;exact hc
theorem sign_yes (hs : Sml s) (r : Bool) (d : Nat) : ∀ i : Nat,i ≤ s.size → s.size - i = d → (suf s i).contains 32 = false → Ev (fun k => crucibleref08_sign.l1 k t s 0) r → Ev (fun k => crucibleref08_sign.l0 k t s (i : Int)) r:=by
 unfold Sml at hs;induction d with
 | zero =>
  intro i hi hd hc h;exact Ev.step (fun k => by rw [crucibleref08_sign.l0]) (ev_neg (by omega) h)
 | succ d ih =>
  intro i hi hd hc h;obtain ⟨c,hc1,hb⟩:=suf_at s i (by omega);refine Ev.step (fun k => by rw [crucibleref08_sign.l0]) (ev_pos (by omega) (ev_pos (by omega) ?_));rw [hb];rw [hc1,List.contains_cons,Bool.or_eq_false_iff] at hc;have h32 : c ≠ 32:=fun e => by rw [e] at hc;exact absurd hc.1 (by decide)
  refine ev_neg (fun e => h32 (UInt8.toNat_inj.1 (by have : (32 : UInt8).toNat = 32:=rfl;omega))) ?_;rw [w1 i (by omega)];exact ih (i + 1) (by omega) (by omega) hc.2 h
theorem sign_from (ht : t.size ≤ 1000) (hs : Sml s) (d : Nat) : ∀ i : Nat,i ≤ t.size → t.size - i = d → Ev (fun k => crucibleref08_sign.l1 k t s (i : Int)) (anyp ([32] ++ s.data.toList ++ [32]) (suf t i)):=by
 unfold Sml at hs;have hp : ([32] ++ s.data.toList ++ [32] : Bs).length = s.size + 2:=by
  rw [List.length_append,List.length_append,← Lib.size_eq];simp only [List.length_cons,List.length_nil];omega
 have hl (i : Nat) : (suf t i).length = t.size - i:=suf_len t i;induction d with
 | zero =>
  intro i hi hd;have e1 : wrap64 (wrap64 ((i : Int) + (s.size : Int)) + 2) = ((i + s.size + 2 : Nat) : Int):=wrap_a i s.size (by omega) hs;refine Ev.step (fun k => by rw [crucibleref08_sign.l1]) (ev_neg (by rw [e1];omega) ?_);rw [anyp_short _ _ (by rw [hl,hp];omega)];exact Ev.now _
 | succ d ih =>
  intro i hi hd;have e1 : wrap64 (wrap64 ((i : Int) + (s.size : Int)) + 2) = ((i + s.size + 2 : Nat) : Int):=wrap_a i s.size (by omega) hs;refine Ev.step (fun k => by rw [crucibleref08_sign.l1]) ?_;by_cases hr : i + s.size + 2 ≤ t.size
  · obtain ⟨c,hc,hb⟩:=suf_at t i (by omega);have e2 : wrap64 (wrap64 ((i : Int) + 1) + (s.size : Int)) = ((i + 1 + s.size : Nat) : Int):=wrap_b i s.size (by omega) hs;have next:=ih (i + 1) (by omega) (by omega)
    have hsp:=split_prefix s.data.toList c (suf t (i + 1));refine ev_pos (by rw [e1];omega) (ev_pos (by omega) (ev_pos (by omega) ?_));rw [hb];rw [hc];unfold anyp;by_cases h32 : c = 32
    · refine ev_pos (by rw [h32];rfl) ?_;rw [e2,w1 i (by omega)];refine ev_pos (by omega) (ev_pos (by omega) (ev_pos (by omega) ?_));have hx : ((t.extract (((i + 1 : Nat) : Int)).toNat (((i + 1 + s.size : Nat) : Int)).toNat).toList = s.toList) ↔ (suf t (i + 1)).take s.data.toList.length = s.data.toList:=by
       rw [Lib.toList_data,Lib.toList_data,Lib.extract_data,Int.toNat_natCast,Int.toNat_natCast,← Lib.size_eq,Nat.add_sub_cancel_left];rfl
      by_cases heq : (suf t (i + 1)).take s.data.toList.length = s.data.toList
      · refine ev_pos (hx.2 heq) (ev_pos (by omega) (ev_pos (by omega) ?_));obtain ⟨c2,hc2,hb2⟩:=suf_at t (i + 1 + s.size) (by omega);rw [hb2];have hd2 : (suf t (i + 1)).drop s.data.toList.length = c2 :: suf t (i + 1 + s.size + 1):=by rw [← Lib.size_eq,suf_drop,hc2]
        by_cases h2 : c2 = 32
        · refine ev_pos (by rw [h2];rfl) ?_;rw [hsp.2 ⟨h32,heq,by rw [hd2,h2];rfl⟩,Bool.true_or];exact Ev.now _
        · refine ev_neg (fun e => h2 (UInt8.toNat_inj.1 (by have : (32 : UInt8).toNat = 32:=rfl;omega))) ?_;have : ([32] ++ s.data.toList ++ [32] : Bs).isPrefixOf (c :: suf t (i + 1)) = false:=by
           rw [Bool.eq_false_iff];intro h;have h3:=(hsp.1 h).2.2;rw [hd2] at h3;simp only [List.head?_cons,Option.some.injEq] at h3;exact h2 h3
          rw [this,Bool.false_or];exact next
      · refine ev_neg (fun h => heq (hx.1 h)) ?_;have : ([32] ++ s.data.toList ++ [32] : Bs).isPrefixOf (c :: suf t (i + 1)) = false:=by
         rw [Bool.eq_false_iff];exact fun h => heq (hsp.1 h).2.1
        rw [this,Bool.false_or];exact next
    · refine ev_neg (fun e => h32 (UInt8.toNat_inj.1 (by have : (32 : UInt8).toNat = 32:=rfl;omega))) ?_;have : ([32] ++ s.data.toList ++ [32] : Bs).isPrefixOf (c :: suf t (i + 1)) = false:=by
       rw [Bool.eq_false_iff];exact fun h => h32 (hsp.1 h).1
      rw [this,Bool.false_or,w1 i (by omega)];exact next
  · refine ev_neg (by rw [e1];omega) ?_;rw [anyp_short _ _ (by rw [hl,hp];omega)];exact Ev.now _
end
theorem sign_ref (t s : ByteArray) (ht : t.size ≤ 1000) (hs : Sml s) : Ev (fun k => crucibleref08_sign.f k t s) (oneL t.data.toList s.data.toList):=by
 unfold crucibleref08_sign.f oneL;by_cases h0 : s.toList = []
 · refine ev_pos h0 ?_;rw [Lib.toList_data] at h0;rw [h0];exact Ev.now _
 · refine ev_neg h0 ?_;rw [Lib.toList_data] at h0;have e0 : s.data.toList.isEmpty = false:=by cases h : s.data.toList with
    | nil => exact absurd h h0
    | cons _ _ => rfl
   rw [e0];cases hc : s.data.toList.contains 32 with
   | true => exact sign_no t s hs (Or.inr trivial) s.size 0 (by omega) rfl hc
   | false => exact sign_yes t s hs _ s.size 0 (by omega) rfl hc (sign_from t s ht hs t.size 0 (by omega) rfl)
end Go.Proofs.YtboojhadfhpdeaaGreatDoor.Q
namespace Go.Proofs.YtboojhadfhpdeaaGreatDoor.Q
open Go.RowKit Go.Proofs.YtboojhadfhpdeaaGreatDoorW.PrintWords Go.Proofs.YtboojhadfhpdeaaGreatDoorW.PrintLast Go.Proofs.YtboojhadfhpdeaaGreatDoorW.PrintMore
attribute [local go_sem] max2_int min2_int max_two min_two max_three min_three max_four min_four
set_option linter.unusedVariables false
set_option linter.unusedSimpArgs false
def crucibleref08_parts.f (a0_0 : Int) (a0_1 : ByteArray) (a0_2 : Int) (a0_3 : Bool) (l0_4 : List (S25)) (a0_5 : Int) (a1 : Bool) (a2 : Bool) (a3 : Bool) : Option (Bool):=if a1 = true then (if a2 = true then (if a3 = true then (some true) else (some (!a0_3))) else (if a0_2 = 0 then (if a3 = true then (some true) else (some (!a0_3))) else (some false))) else (if a0_1.toList = ([] : List UInt8) then (if a2 = true then (if a3 = true then (some true) else (some (!a0_3))) else (if a0_2 = 0 then (if a3 = true then (some true) else (some (!a0_3))) else (some false))) else (some false))
set_option maxHeartbeats 8000000 in
set_option maxRecDepth 100000 in
theorem crucibleref08_parts.calls (a0_0 : Int) (a0_1 : ByteArray) (a0_2 : Int) (a0_3 : Bool) (A0_4 : Option Addr) (c0_4 : Nat) (l0_4 : List (S25)) (a0_5 : Int) (a1 : Bool) (a2 : Bool) (a3 : Bool) (r : Bool) (w : World) (hr0_4 : Kd.C k25 w A0_4 l0_4.length l0_4) (hc0_4 : l0_4.length ≤ c0_4) (h : crucibleref08_parts.f a0_0 a0_1 a0_2 a0_3 l0_4 a0_5 a1 a2 a3 = some r) :
 Calls Tryz.prog 21 #[.agg #[.int .i64 a0_0,.string a0_1,.int .u32 a0_2,.bool a0_3,.slice A0_4 l0_4.length c0_4,.int .i64 a0_5],.bool a1,.bool a2,.bool a3] w fun e w' => e = .returned (.bool r) ∧ Below w.heap.size w w' := by
 have hu25:=Tryz.underlying25;have HR0_4:=Aside0.mk hr0_4;have HC0_4:=Aside0.mk hc0_4;clear hr0_4 hc0_4;have HB:=Aside0.mk (Below.refl w.heap.size w);have H : (if a1 = true then (if a2 = true then (if a3 = true then (some true) else (some (!a0_3))) else (if a0_2 = 0 then (if a3 = true then (some true) else (some (!a0_3))) else (some false))) else (if a0_1.toList = ([] : List UInt8) then (if a2 = true then (if a3 = true then (some true) else (some (!a0_3))) else (if a0_2 = 0 then (if a3 = true then (some true) else (some (!a0_3))) else (some false))) else (some false))) = some r:=h;clear h;by_cases c5 : a1 = true
 · subst c5;have H1 : (if a2 = true then (if a3 = true then (some true) else (some (!a0_3))) else (if a0_2 = 0 then (if a3 = true then (some true) else (some (!a0_3))) else (some false))) = some r:=by rw [if_pos rfl] at H;exact H
   clear H;have H:=H1;clear H1;by_cases c6 : a2 = true
   · subst c6;have H1 : (if a3 = true then (some true) else (some (!a0_3))) = some r:=by rw [if_pos rfl] at H;exact H
     clear H;have H:=H1;clear H1;by_cases c7 : a3 = true
     · subst c7;have H1 : (some true) = some r:=by rw [if_pos rfl] at H;exact H
       clear H;have H:=H1;clear H1;obtain rfl:=Option.some.inj H;go_enter Tryz.func21,Tryz.ntmps21
       go_wp2_with (first|((with_reducible refine gate_dst (N:=4) rfl ?_);refine box_event ?hg (N:=4) ?hd (cs:=#[.int .i64 a0_0,.string a0_1,.int .u32 a0_2,.bool a0_3,.slice A0_4 l0_4.length c0_4,.int .i64 a0_5]) (t:=25) ?hr ?_;(case hd => rfl);(case hg => rfl);(case hr => first|(go_simp;done)|(go_simp;rfl));intro gb106 hg w8 hbox hb;have n0_:=Aside0.mk (below_step (by repeat (first|(with_reducible first|exact HB.out|apply below_alloc|apply pw_below_drewN|apply below_drew1)|exact HB.out)) hb);have n1_:=Aside0.mk (hbox);have n2_:=Aside0.mk ((by rw [hg];exact (below_size (by repeat (first|(with_reducible first|exact HB.out|apply below_alloc|apply pw_below_drewN|apply below_drew1)|exact HB.out))) : w.heap.size ≤ gb106));have n3_:=Aside0.mk ((by rw [hg];exact (below_size (by repeat (first|(with_reducible first|exact HB.out|apply below_alloc|apply pw_below_drewN|apply below_drew1)|exact HB.out))) : w.heap.size ≤ gb106));clear HB;have HB:=n0_;have BK106:=n1_;have GW106:=n2_;have GE106:=n3_;clear n0_ n1_ n2_ n3_;clear hb hbox hg))
       go_ret
       exact ⟨by first|rfl|(simp [errW_none,errW_some] <;> rfl)|(simp [*,errW_none,errW_some] <;> rfl),by repeat (first|(with_reducible first|exact HB.out|apply below_alloc|apply pw_below_drewN|apply below_drew1|refine below_set ?_ GE106.out)|exact HB.out)⟩
     · replace c7:=Bool.eq_false_iff.mpr c7;subst c7;have H1 : (some (!a0_3)) = some r:=by rw [if_neg (show ¬ (false = true) by decide)] at H;exact H
       clear H;have H:=H1;clear H1;obtain rfl:=Option.some.inj H;go_enter Tryz.func21,Tryz.ntmps21
       go_wp2_with (first|((with_reducible refine gate_dst (N:=4) rfl ?_);refine box_event ?hg (N:=4) ?hd (cs:=#[.int .i64 a0_0,.string a0_1,.int .u32 a0_2,.bool a0_3,.slice A0_4 l0_4.length c0_4,.int .i64 a0_5]) (t:=25) ?hr ?_;(case hd => rfl);(case hg => rfl);(case hr => first|(go_simp;done)|(go_simp;rfl));intro gb106 hg w9 hbox hb;have n0_:=Aside0.mk (below_step (by repeat (first|(with_reducible first|exact HB.out|apply below_alloc|apply pw_below_drewN|apply below_drew1)|exact HB.out)) hb);have n1_:=Aside0.mk (hbox);have n2_:=Aside0.mk ((by rw [hg];exact (below_size (by repeat (first|(with_reducible first|exact HB.out|apply below_alloc|apply pw_below_drewN|apply below_drew1)|exact HB.out))) : w.heap.size ≤ gb106));have n3_:=Aside0.mk ((by rw [hg];exact (below_size (by repeat (first|(with_reducible first|exact HB.out|apply below_alloc|apply pw_below_drewN|apply below_drew1)|exact HB.out))) : w.heap.size ≤ gb106));clear HB;have HB:=n0_;have BK106:=n1_;have GW106:=n2_;have GE106:=n3_;clear n0_ n1_ n2_ n3_;clear hb hbox hg;have hcz10_0 : w9.cell? ⟨gb106,0,none⟩ = some (.int .i64 a0_0):=(blk_cell BK106.out 0).trans rfl;have hcz10_1 : w9.cell? ⟨gb106,1,none⟩ = some (.string a0_1):=(blk_cell BK106.out 1).trans rfl;have hcz10_2 : w9.cell? ⟨gb106,2,none⟩ = some (.int .u32 a0_2):=(blk_cell BK106.out 2).trans rfl;have hcz10_3 : w9.cell? ⟨gb106,3,none⟩ = some (.bool a0_3):=(blk_cell BK106.out 3).trans rfl;have hcz10_4 : w9.cell? ⟨gb106,4,none⟩ = some (.slice A0_4 l0_4.length c0_4):=(blk_cell BK106.out 4).trans rfl;have hcz10_5 : w9.cell? ⟨gb106,5,none⟩ = some (.int .i64 a0_5):=(blk_cell BK106.out 5).trans rfl;have hfz10_0:=blk_frozen BK106.out 0;have hfz10_1:=blk_frozen BK106.out 1;have hfz10_2:=blk_frozen BK106.out 2;have hfz10_3:=blk_frozen BK106.out 3;have hfz10_4:=blk_frozen BK106.out 4;have hfz10_5:=blk_frozen BK106.out 5))
       go_ret
       exact ⟨by first|rfl|(simp [errW_none,errW_some] <;> rfl)|(simp [*,errW_none,errW_some] <;> rfl),by repeat (first|(with_reducible first|exact HB.out|apply below_alloc|apply pw_below_drewN|apply below_drew1|refine below_set ?_ GE106.out)|exact HB.out)⟩
   · replace c6:=Bool.eq_false_iff.mpr c6;subst c6;have H1 : (if a0_2 = 0 then (if a3 = true then (some true) else (some (!a0_3))) else (some false)) = some r:=by rw [if_neg (show ¬ (false = true) by decide)] at H;exact H
     clear H;have H:=H1;clear H1;by_cases c11 : a0_2 = 0
     · rw [if_pos c11] at H;have c11b0 : (a0_2 == 0) = true:=beq_iff_eq.mpr c11;have c11b1 : (a0_2 != 0) = false:=bne_eq_false_iff_eq.mpr c11;clear c11;by_cases c12 : a3 = true
       · subst c12;have H1 : (some true) = some r:=by rw [if_pos rfl] at H;exact H
         clear H;have H:=H1;clear H1;obtain rfl:=Option.some.inj H;go_enter Tryz.func21,Tryz.ntmps21
         go_wp2_with (first|((with_reducible refine gate_dst (N:=4) rfl ?_);refine box_event ?hg (N:=4) ?hd (cs:=#[.int .i64 a0_0,.string a0_1,.int .u32 a0_2,.bool a0_3,.slice A0_4 l0_4.length c0_4,.int .i64 a0_5]) (t:=25) ?hr ?_;(case hd => rfl);(case hg => rfl);(case hr => first|(go_simp;done)|(go_simp;rfl));intro gb106 hg w13 hbox hb;have n0_:=Aside0.mk (below_step (by repeat (first|(with_reducible first|exact HB.out|apply below_alloc|apply pw_below_drewN|apply below_drew1)|exact HB.out)) hb);have n1_:=Aside0.mk (hbox);have n2_:=Aside0.mk ((by rw [hg];exact (below_size (by repeat (first|(with_reducible first|exact HB.out|apply below_alloc|apply pw_below_drewN|apply below_drew1)|exact HB.out))) : w.heap.size ≤ gb106));have n3_:=Aside0.mk ((by rw [hg];exact (below_size (by repeat (first|(with_reducible first|exact HB.out|apply below_alloc|apply pw_below_drewN|apply below_drew1)|exact HB.out))) : w.heap.size ≤ gb106));clear HB;have HB:=n0_;have BK106:=n1_;have GW106:=n2_;have GE106:=n3_;clear n0_ n1_ n2_ n3_;clear hb hbox hg;have hcz14_0 : w13.cell? ⟨gb106,0,none⟩ = some (.int .i64 a0_0):=(blk_cell BK106.out 0).trans rfl;have hcz14_1 : w13.cell? ⟨gb106,1,none⟩ = some (.string a0_1):=(blk_cell BK106.out 1).trans rfl;have hcz14_2 : w13.cell? ⟨gb106,2,none⟩ = some (.int .u32 a0_2):=(blk_cell BK106.out 2).trans rfl;have hcz14_3 : w13.cell? ⟨gb106,3,none⟩ = some (.bool a0_3):=(blk_cell BK106.out 3).trans rfl;have hcz14_4 : w13.cell? ⟨gb106,4,none⟩ = some (.slice A0_4 l0_4.length c0_4):=(blk_cell BK106.out 4).trans rfl;have hcz14_5 : w13.cell? ⟨gb106,5,none⟩ = some (.int .i64 a0_5):=(blk_cell BK106.out 5).trans rfl;have hfz14_0:=blk_frozen BK106.out 0;have hfz14_1:=blk_frozen BK106.out 1;have hfz14_2:=blk_frozen BK106.out 2;have hfz14_3:=blk_frozen BK106.out 3;have hfz14_4:=blk_frozen BK106.out 4;have hfz14_5:=blk_frozen BK106.out 5))
         go_ret
         exact ⟨by first|rfl|(simp [errW_none,errW_some] <;> rfl)|(simp [*,errW_none,errW_some] <;> rfl),by repeat (first|(with_reducible first|exact HB.out|apply below_alloc|apply pw_below_drewN|apply below_drew1|refine below_set ?_ GE106.out)|exact HB.out)⟩
       · replace c12:=Bool.eq_false_iff.mpr c12;subst c12;have H1 : (some (!a0_3)) = some r:=by rw [if_neg (show ¬ (false = true) by decide)] at H;exact H
         clear H;have H:=H1;clear H1;obtain rfl:=Option.some.inj H;go_enter Tryz.func21,Tryz.ntmps21
         go_wp2_with (first|((with_reducible refine gate_dst (N:=4) rfl ?_);refine box_event ?hg (N:=4) ?hd (cs:=#[.int .i64 a0_0,.string a0_1,.int .u32 a0_2,.bool a0_3,.slice A0_4 l0_4.length c0_4,.int .i64 a0_5]) (t:=25) ?hr ?_;(case hd => rfl);(case hg => rfl);(case hr => first|(go_simp;done)|(go_simp;rfl));intro gb106 hg w15 hbox hb;have n0_:=Aside0.mk (below_step (by repeat (first|(with_reducible first|exact HB.out|apply below_alloc|apply pw_below_drewN|apply below_drew1)|exact HB.out)) hb);have n1_:=Aside0.mk (hbox);have n2_:=Aside0.mk ((by rw [hg];exact (below_size (by repeat (first|(with_reducible first|exact HB.out|apply below_alloc|apply pw_below_drewN|apply below_drew1)|exact HB.out))) : w.heap.size ≤ gb106));have n3_:=Aside0.mk ((by rw [hg];exact (below_size (by repeat (first|(with_reducible first|exact HB.out|apply below_alloc|apply pw_below_drewN|apply below_drew1)|exact HB.out))) : w.heap.size ≤ gb106));clear HB;have HB:=n0_;have BK106:=n1_;have GW106:=n2_;have GE106:=n3_;clear n0_ n1_ n2_ n3_;clear hb hbox hg;have hcz16_0 : w15.cell? ⟨gb106,0,none⟩ = some (.int .i64 a0_0):=(blk_cell BK106.out 0).trans rfl;have hcz16_1 : w15.cell? ⟨gb106,1,none⟩ = some (.string a0_1):=(blk_cell BK106.out 1).trans rfl;have hcz16_2 : w15.cell? ⟨gb106,2,none⟩ = some (.int .u32 a0_2):=(blk_cell BK106.out 2).trans rfl;have hcz16_3 : w15.cell? ⟨gb106,3,none⟩ = some (.bool a0_3):=(blk_cell BK106.out 3).trans rfl;have hcz16_4 : w15.cell? ⟨gb106,4,none⟩ = some (.slice A0_4 l0_4.length c0_4):=(blk_cell BK106.out 4).trans rfl;have hcz16_5 : w15.cell? ⟨gb106,5,none⟩ = some (.int .i64 a0_5):=(blk_cell BK106.out 5).trans rfl;have hfz16_0:=blk_frozen BK106.out 0;have hfz16_1:=blk_frozen BK106.out 1;have hfz16_2:=blk_frozen BK106.out 2;have hfz16_3:=blk_frozen BK106.out 3;have hfz16_4:=blk_frozen BK106.out 4;have hfz16_5:=blk_frozen BK106.out 5))
         go_ret
         exact ⟨by first|rfl|(simp [errW_none,errW_some] <;> rfl)|(simp [*,errW_none,errW_some] <;> rfl),by repeat (first|(with_reducible first|exact HB.out|apply below_alloc|apply pw_below_drewN|apply below_drew1|refine below_set ?_ GE106.out)|exact HB.out)⟩
     · rw [if_neg c11] at H;have c11b0 : (a0_2 == 0) = false:=beq_eq_false_iff_ne.mpr c11;have c11b1 : (a0_2 != 0) = true:=bne_iff_ne.mpr c11;obtain rfl:=Option.some.inj H;go_enter Tryz.func21,Tryz.ntmps21
       go_wp2_with (first|((with_reducible refine gate_dst (N:=4) rfl ?_);refine box_event ?hg (N:=4) ?hd (cs:=#[.int .i64 a0_0,.string a0_1,.int .u32 a0_2,.bool a0_3,.slice A0_4 l0_4.length c0_4,.int .i64 a0_5]) (t:=25) ?hr ?_;(case hd => rfl);(case hg => rfl);(case hr => first|(go_simp;done)|(go_simp;rfl));intro gb106 hg w17 hbox hb;have n0_:=Aside0.mk (below_step (by repeat (first|(with_reducible first|exact HB.out|apply below_alloc|apply pw_below_drewN|apply below_drew1)|exact HB.out)) hb);have n1_:=Aside0.mk (hbox);have n2_:=Aside0.mk ((by rw [hg];exact (below_size (by repeat (first|(with_reducible first|exact HB.out|apply below_alloc|apply pw_below_drewN|apply below_drew1)|exact HB.out))) : w.heap.size ≤ gb106));have n3_:=Aside0.mk ((by rw [hg];exact (below_size (by repeat (first|(with_reducible first|exact HB.out|apply below_alloc|apply pw_below_drewN|apply below_drew1)|exact HB.out))) : w.heap.size ≤ gb106));clear HB;have HB:=n0_;have BK106:=n1_;have GW106:=n2_;have GE106:=n3_;clear n0_ n1_ n2_ n3_;clear hb hbox hg;have hcz18_0 : w17.cell? ⟨gb106,0,none⟩ = some (.int .i64 a0_0):=(blk_cell BK106.out 0).trans rfl;have hcz18_1 : w17.cell? ⟨gb106,1,none⟩ = some (.string a0_1):=(blk_cell BK106.out 1).trans rfl;have hcz18_2 : w17.cell? ⟨gb106,2,none⟩ = some (.int .u32 a0_2):=(blk_cell BK106.out 2).trans rfl;have hcz18_3 : w17.cell? ⟨gb106,3,none⟩ = some (.bool a0_3):=(blk_cell BK106.out 3).trans rfl;have hcz18_4 : w17.cell? ⟨gb106,4,none⟩ = some (.slice A0_4 l0_4.length c0_4):=(blk_cell BK106.out 4).trans rfl;have hcz18_5 : w17.cell? ⟨gb106,5,none⟩ = some (.int .i64 a0_5):=(blk_cell BK106.out 5).trans rfl;have hfz18_0:=blk_frozen BK106.out 0;have hfz18_1:=blk_frozen BK106.out 1;have hfz18_2:=blk_frozen BK106.out 2;have hfz18_3:=blk_frozen BK106.out 3;have hfz18_4:=blk_frozen BK106.out 4;have hfz18_5:=blk_frozen BK106.out 5))
       go_ret
       exact ⟨by first|rfl|(simp [errW_none,errW_some] <;> rfl)|(simp [*,errW_none,errW_some] <;> rfl),by repeat (first|(with_reducible first|exact HB.out|apply below_alloc|apply pw_below_drewN|apply below_drew1|refine below_set ?_ GE106.out)|exact HB.out)⟩
 · replace c5:=Bool.eq_false_iff.mpr c5;subst c5;have H1 : (if a0_1.toList = ([] : List UInt8) then (if a2 = true then (if a3 = true then (some true) else (some (!a0_3))) else (if a0_2 = 0 then (if a3 = true then (some true) else (some (!a0_3))) else (some false))) else (some false)) = some r:=by rw [if_neg (show ¬ (false = true) by decide)] at H;exact H
   clear H;have H:=H1;clear H1;by_cases c19 : a0_1.toList = ([] : List UInt8)
   · rw [if_pos c19] at H;have c19b0 : (a0_1.toList == ([] : List UInt8)) = true:=beq_iff_eq.mpr c19;have c19b1 : (a0_1.toList != ([] : List UInt8)) = false:=bne_eq_false_iff_eq.mpr c19;clear c19;by_cases c20 : a2 = true
     · subst c20;have H1 : (if a3 = true then (some true) else (some (!a0_3))) = some r:=by rw [if_pos rfl] at H;exact H
       clear H;have H:=H1;clear H1;by_cases c21 : a3 = true
       · subst c21;have H1 : (some true) = some r:=by rw [if_pos rfl] at H;exact H
         clear H;have H:=H1;clear H1;obtain rfl:=Option.some.inj H;go_enter Tryz.func21,Tryz.ntmps21
         go_wp2_with (first|((with_reducible refine gate_dst (N:=4) rfl ?_);refine box_event ?hg (N:=4) ?hd (cs:=#[.int .i64 a0_0,.string a0_1,.int .u32 a0_2,.bool a0_3,.slice A0_4 l0_4.length c0_4,.int .i64 a0_5]) (t:=25) ?hr ?_;(case hd => rfl);(case hg => rfl);(case hr => first|(go_simp;done)|(go_simp;rfl));intro gb106 hg w22 hbox hb;have n0_:=Aside0.mk (below_step (by repeat (first|(with_reducible first|exact HB.out|apply below_alloc|apply pw_below_drewN|apply below_drew1)|exact HB.out)) hb);have n1_:=Aside0.mk (hbox);have n2_:=Aside0.mk ((by rw [hg];exact (below_size (by repeat (first|(with_reducible first|exact HB.out|apply below_alloc|apply pw_below_drewN|apply below_drew1)|exact HB.out))) : w.heap.size ≤ gb106));have n3_:=Aside0.mk ((by rw [hg];exact (below_size (by repeat (first|(with_reducible first|exact HB.out|apply below_alloc|apply pw_below_drewN|apply below_drew1)|exact HB.out))) : w.heap.size ≤ gb106));clear HB;have HB:=n0_;have BK106:=n1_;have GW106:=n2_;have GE106:=n3_;clear n0_ n1_ n2_ n3_;clear hb hbox hg;have hcz23_0 : w22.cell? ⟨gb106,0,none⟩ = some (.int .i64 a0_0):=(blk_cell BK106.out 0).trans rfl;have hcz23_1 : w22.cell? ⟨gb106,1,none⟩ = some (.string a0_1):=(blk_cell BK106.out 1).trans rfl;have hcz23_2 : w22.cell? ⟨gb106,2,none⟩ = some (.int .u32 a0_2):=(blk_cell BK106.out 2).trans rfl;have hcz23_3 : w22.cell? ⟨gb106,3,none⟩ = some (.bool a0_3):=(blk_cell BK106.out 3).trans rfl;have hcz23_4 : w22.cell? ⟨gb106,4,none⟩ = some (.slice A0_4 l0_4.length c0_4):=(blk_cell BK106.out 4).trans rfl;have hcz23_5 : w22.cell? ⟨gb106,5,none⟩ = some (.int .i64 a0_5):=(blk_cell BK106.out 5).trans rfl;have hfz23_0:=blk_frozen BK106.out 0;have hfz23_1:=blk_frozen BK106.out 1;have hfz23_2:=blk_frozen BK106.out 2;have hfz23_3:=blk_frozen BK106.out 3;have hfz23_4:=blk_frozen BK106.out 4;have hfz23_5:=blk_frozen BK106.out 5))
         go_ret
         exact ⟨by first|rfl|(simp [errW_none,errW_some] <;> rfl)|(simp [*,errW_none,errW_some] <;> rfl),by repeat (first|(with_reducible first|exact HB.out|apply below_alloc|apply pw_below_drewN|apply below_drew1|refine below_set ?_ GE106.out)|exact HB.out)⟩
       · replace c21:=Bool.eq_false_iff.mpr c21;subst c21;have H1 : (some (!a0_3)) = some r:=by rw [if_neg (show ¬ (false = true) by decide)] at H;exact H
         clear H;have H:=H1;clear H1;obtain rfl:=Option.some.inj H;go_enter Tryz.func21,Tryz.ntmps21
         go_wp2_with (first|((with_reducible refine gate_dst (N:=4) rfl ?_);refine box_event ?hg (N:=4) ?hd (cs:=#[.int .i64 a0_0,.string a0_1,.int .u32 a0_2,.bool a0_3,.slice A0_4 l0_4.length c0_4,.int .i64 a0_5]) (t:=25) ?hr ?_;(case hd => rfl);(case hg => rfl);(case hr => first|(go_simp;done)|(go_simp;rfl));intro gb106 hg w24 hbox hb;have n0_:=Aside0.mk (below_step (by repeat (first|(with_reducible first|exact HB.out|apply below_alloc|apply pw_below_drewN|apply below_drew1)|exact HB.out)) hb);have n1_:=Aside0.mk (hbox);have n2_:=Aside0.mk ((by rw [hg];exact (below_size (by repeat (first|(with_reducible first|exact HB.out|apply below_alloc|apply pw_below_drewN|apply below_drew1)|exact HB.out))) : w.heap.size ≤ gb106));have n3_:=Aside0.mk ((by rw [hg];exact (below_size (by repeat (first|(with_reducible first|exact HB.out|apply below_alloc|apply pw_below_drewN|apply below_drew1)|exact HB.out))) : w.heap.size ≤ gb106));clear HB;have HB:=n0_;have BK106:=n1_;have GW106:=n2_;have GE106:=n3_;clear n0_ n1_ n2_ n3_;clear hb hbox hg;have hcz25_0 : w24.cell? ⟨gb106,0,none⟩ = some (.int .i64 a0_0):=(blk_cell BK106.out 0).trans rfl;have hcz25_1 : w24.cell? ⟨gb106,1,none⟩ = some (.string a0_1):=(blk_cell BK106.out 1).trans rfl;have hcz25_2 : w24.cell? ⟨gb106,2,none⟩ = some (.int .u32 a0_2):=(blk_cell BK106.out 2).trans rfl;have hcz25_3 : w24.cell? ⟨gb106,3,none⟩ = some (.bool a0_3):=(blk_cell BK106.out 3).trans rfl;have hcz25_4 : w24.cell? ⟨gb106,4,none⟩ = some (.slice A0_4 l0_4.length c0_4):=(blk_cell BK106.out 4).trans rfl;have hcz25_5 : w24.cell? ⟨gb106,5,none⟩ = some (.int .i64 a0_5):=(blk_cell BK106.out 5).trans rfl;have hfz25_0:=blk_frozen BK106.out 0;have hfz25_1:=blk_frozen BK106.out 1;have hfz25_2:=blk_frozen BK106.out 2;have hfz25_3:=blk_frozen BK106.out 3;have hfz25_4:=blk_frozen BK106.out 4;have hfz25_5:=blk_frozen BK106.out 5))
         go_ret
         exact ⟨by first|rfl|(simp [errW_none,errW_some] <;> rfl)|(simp [*,errW_none,errW_some] <;> rfl),by repeat (first|(with_reducible first|exact HB.out|apply below_alloc|apply pw_below_drewN|apply below_drew1|refine below_set ?_ GE106.out)|exact HB.out)⟩
     · replace c20:=Bool.eq_false_iff.mpr c20;subst c20;have H1 : (if a0_2 = 0 then (if a3 = true then (some true) else (some (!a0_3))) else (some false)) = some r:=by rw [if_neg (show ¬ (false = true) by decide)] at H;exact H
       clear H;have H:=H1;clear H1;by_cases c26 : a0_2 = 0
       · rw [if_pos c26] at H;have c26b0 : (a0_2 == 0) = true:=beq_iff_eq.mpr c26;have c26b1 : (a0_2 != 0) = false:=bne_eq_false_iff_eq.mpr c26;clear c26;by_cases c27 : a3 = true
         · subst c27;have H1 : (some true) = some r:=by rw [if_pos rfl] at H;exact H
           clear H;have H:=H1;clear H1;obtain rfl:=Option.some.inj H;go_enter Tryz.func21,Tryz.ntmps21
           go_wp2_with (first|((with_reducible refine gate_dst (N:=4) rfl ?_);refine box_event ?hg (N:=4) ?hd (cs:=#[.int .i64 a0_0,.string a0_1,.int .u32 a0_2,.bool a0_3,.slice A0_4 l0_4.length c0_4,.int .i64 a0_5]) (t:=25) ?hr ?_;(case hd => rfl);(case hg => rfl);(case hr => first|(go_simp;done)|(go_simp;rfl));intro gb106 hg w28 hbox hb;have n0_:=Aside0.mk (below_step (by repeat (first|(with_reducible first|exact HB.out|apply below_alloc|apply pw_below_drewN|apply below_drew1)|exact HB.out)) hb);have n1_:=Aside0.mk (hbox);have n2_:=Aside0.mk ((by rw [hg];exact (below_size (by repeat (first|(with_reducible first|exact HB.out|apply below_alloc|apply pw_below_drewN|apply below_drew1)|exact HB.out))) : w.heap.size ≤ gb106));have n3_:=Aside0.mk ((by rw [hg];exact (below_size (by repeat (first|(with_reducible first|exact HB.out|apply below_alloc|apply pw_below_drewN|apply below_drew1)|exact HB.out))) : w.heap.size ≤ gb106));clear HB;have HB:=n0_;have BK106:=n1_;have GW106:=n2_;have GE106:=n3_;clear n0_ n1_ n2_ n3_;clear hb hbox hg;have hcz29_0 : w28.cell? ⟨gb106,0,none⟩ = some (.int .i64 a0_0):=(blk_cell BK106.out 0).trans rfl;have hcz29_1 : w28.cell? ⟨gb106,1,none⟩ = some (.string a0_1):=(blk_cell BK106.out 1).trans rfl;have hcz29_2 : w28.cell? ⟨gb106,2,none⟩ = some (.int .u32 a0_2):=(blk_cell BK106.out 2).trans rfl;have hcz29_3 : w28.cell? ⟨gb106,3,none⟩ = some (.bool a0_3):=(blk_cell BK106.out 3).trans rfl;have hcz29_4 : w28.cell? ⟨gb106,4,none⟩ = some (.slice A0_4 l0_4.length c0_4):=(blk_cell BK106.out 4).trans rfl;have hcz29_5 : w28.cell? ⟨gb106,5,none⟩ = some (.int .i64 a0_5):=(blk_cell BK106.out 5).trans rfl;have hfz29_0:=blk_frozen BK106.out 0;have hfz29_1:=blk_frozen BK106.out 1;have hfz29_2:=blk_frozen BK106.out 2;have hfz29_3:=blk_frozen BK106.out 3;have hfz29_4:=blk_frozen BK106.out 4;have hfz29_5:=blk_frozen BK106.out 5))
           go_ret
           exact ⟨by first|rfl|(simp [errW_none,errW_some] <;> rfl)|(simp [*,errW_none,errW_some] <;> rfl),by repeat (first|(with_reducible first|exact HB.out|apply below_alloc|apply pw_below_drewN|apply below_drew1|refine below_set ?_ GE106.out)|exact HB.out)⟩
         · replace c27:=Bool.eq_false_iff.mpr c27;subst c27;have H1 : (some (!a0_3)) = some r:=by rw [if_neg (show ¬ (false = true) by decide)] at H;exact H
           clear H;have H:=H1;clear H1;obtain rfl:=Option.some.inj H;go_enter Tryz.func21,Tryz.ntmps21
           go_wp2_with (first|((with_reducible refine gate_dst (N:=4) rfl ?_);refine box_event ?hg (N:=4) ?hd (cs:=#[.int .i64 a0_0,.string a0_1,.int .u32 a0_2,.bool a0_3,.slice A0_4 l0_4.length c0_4,.int .i64 a0_5]) (t:=25) ?hr ?_;(case hd => rfl);(case hg => rfl);(case hr => first|(go_simp;done)|(go_simp;rfl));intro gb106 hg w30 hbox hb;have n0_:=Aside0.mk (below_step (by repeat (first|(with_reducible first|exact HB.out|apply below_alloc|apply pw_below_drewN|apply below_drew1)|exact HB.out)) hb);have n1_:=Aside0.mk (hbox);have n2_:=Aside0.mk ((by rw [hg];exact (below_size (by repeat (first|(with_reducible first|exact HB.out|apply below_alloc|apply pw_below_drewN|apply below_drew1)|exact HB.out))) : w.heap.size ≤ gb106));have n3_:=Aside0.mk ((by rw [hg];exact (below_size (by repeat (first|(with_reducible first|exact HB.out|apply below_alloc|apply pw_below_drewN|apply below_drew1)|exact HB.out))) : w.heap.size ≤ gb106));clear HB;have HB:=n0_;have BK106:=n1_;have GW106:=n2_;have GE106:=n3_;clear n0_ n1_ n2_ n3_;clear hb hbox hg;have hcz31_0 : w30.cell? ⟨gb106,0,none⟩ = some (.int .i64 a0_0):=(blk_cell BK106.out 0).trans rfl;have hcz31_1 : w30.cell? ⟨gb106,1,none⟩ = some (.string a0_1):=(blk_cell BK106.out 1).trans rfl;have hcz31_2 : w30.cell? ⟨gb106,2,none⟩ = some (.int .u32 a0_2):=(blk_cell BK106.out 2).trans rfl;have hcz31_3 : w30.cell? ⟨gb106,3,none⟩ = some (.bool a0_3):=(blk_cell BK106.out 3).trans rfl;have hcz31_4 : w30.cell? ⟨gb106,4,none⟩ = some (.slice A0_4 l0_4.length c0_4):=(blk_cell BK106.out 4).trans rfl;have hcz31_5 : w30.cell? ⟨gb106,5,none⟩ = some (.int .i64 a0_5):=(blk_cell BK106.out 5).trans rfl;have hfz31_0:=blk_frozen BK106.out 0;have hfz31_1:=blk_frozen BK106.out 1;have hfz31_2:=blk_frozen BK106.out 2;have hfz31_3:=blk_frozen BK106.out 3;have hfz31_4:=blk_frozen BK106.out 4;have hfz31_5:=blk_frozen BK106.out 5))
           go_ret
           exact ⟨by first|rfl|(simp [errW_none,errW_some] <;> rfl)|(simp [*,errW_none,errW_some] <;> rfl),by repeat (first|(with_reducible first|exact HB.out|apply below_alloc|apply pw_below_drewN|apply below_drew1|refine below_set ?_ GE106.out)|exact HB.out)⟩
       · rw [if_neg c26] at H;have c26b0 : (a0_2 == 0) = false:=beq_eq_false_iff_ne.mpr c26;have c26b1 : (a0_2 != 0) = true:=bne_iff_ne.mpr c26;obtain rfl:=Option.some.inj H;go_enter Tryz.func21,Tryz.ntmps21
         go_wp2_with (first|((with_reducible refine gate_dst (N:=4) rfl ?_);refine box_event ?hg (N:=4) ?hd (cs:=#[.int .i64 a0_0,.string a0_1,.int .u32 a0_2,.bool a0_3,.slice A0_4 l0_4.length c0_4,.int .i64 a0_5]) (t:=25) ?hr ?_;(case hd => rfl);(case hg => rfl);(case hr => first|(go_simp;done)|(go_simp;rfl));intro gb106 hg w32 hbox hb;have n0_:=Aside0.mk (below_step (by repeat (first|(with_reducible first|exact HB.out|apply below_alloc|apply pw_below_drewN|apply below_drew1)|exact HB.out)) hb);have n1_:=Aside0.mk (hbox);have n2_:=Aside0.mk ((by rw [hg];exact (below_size (by repeat (first|(with_reducible first|exact HB.out|apply below_alloc|apply pw_below_drewN|apply below_drew1)|exact HB.out))) : w.heap.size ≤ gb106));have n3_:=Aside0.mk ((by rw [hg];exact (below_size (by repeat (first|(with_reducible first|exact HB.out|apply below_alloc|apply pw_below_drewN|apply below_drew1)|exact HB.out))) : w.heap.size ≤ gb106));clear HB;have HB:=n0_;have BK106:=n1_;have GW106:=n2_;have GE106:=n3_;clear n0_ n1_ n2_ n3_;clear hb hbox hg;have hcz33_0 : w32.cell? ⟨gb106,0,none⟩ = some (.int .i64 a0_0):=(blk_cell BK106.out 0).trans rfl;have hcz33_1 : w32.cell? ⟨gb106,1,none⟩ = some (.string a0_1):=(blk_cell BK106.out 1).trans rfl;have hcz33_2 : w32.cell? ⟨gb106,2,none⟩ = some (.int .u32 a0_2):=(blk_cell BK106.out 2).trans rfl;have hcz33_3 : w32.cell? ⟨gb106,3,none⟩ = some (.bool a0_3):=(blk_cell BK106.out 3).trans rfl;have hcz33_4 : w32.cell? ⟨gb106,4,none⟩ = some (.slice A0_4 l0_4.length c0_4):=(blk_cell BK106.out 4).trans rfl;have hcz33_5 : w32.cell? ⟨gb106,5,none⟩ = some (.int .i64 a0_5):=(blk_cell BK106.out 5).trans rfl;have hfz33_0:=blk_frozen BK106.out 0;have hfz33_1:=blk_frozen BK106.out 1;have hfz33_2:=blk_frozen BK106.out 2;have hfz33_3:=blk_frozen BK106.out 3;have hfz33_4:=blk_frozen BK106.out 4;have hfz33_5:=blk_frozen BK106.out 5))
         go_ret
         exact ⟨by first|rfl|(simp [errW_none,errW_some] <;> rfl)|(simp [*,errW_none,errW_some] <;> rfl),by repeat (first|(with_reducible first|exact HB.out|apply below_alloc|apply pw_below_drewN|apply below_drew1|refine below_set ?_ GE106.out)|exact HB.out)⟩
   · rw [if_neg c19] at H;have c19b0 : (a0_1.toList == ([] : List UInt8)) = false:=beq_eq_false_iff_ne.mpr c19;have c19b1 : (a0_1.toList != ([] : List UInt8)) = true:=bne_iff_ne.mpr c19;obtain rfl:=Option.some.inj H;go_enter Tryz.func21,Tryz.ntmps21
     go_wp2_with (first|((with_reducible refine gate_dst (N:=4) rfl ?_);refine box_event ?hg (N:=4) ?hd (cs:=#[.int .i64 a0_0,.string a0_1,.int .u32 a0_2,.bool a0_3,.slice A0_4 l0_4.length c0_4,.int .i64 a0_5]) (t:=25) ?hr ?_;(case hd => rfl);(case hg => rfl);(case hr => first|(go_simp;done)|(go_simp;rfl));intro gb106 hg w34 hbox hb;have n0_:=Aside0.mk (below_step (by repeat (first|(with_reducible first|exact HB.out|apply below_alloc|apply pw_below_drewN|apply below_drew1)|exact HB.out)) hb);have n1_:=Aside0.mk (hbox);have n2_:=Aside0.mk ((by rw [hg];exact (below_size (by repeat (first|(with_reducible first|exact HB.out|apply below_alloc|apply pw_below_drewN|apply below_drew1)|exact HB.out))) : w.heap.size ≤ gb106));have n3_:=Aside0.mk ((by rw [hg];exact (below_size (by repeat (first|(with_reducible first|exact HB.out|apply below_alloc|apply pw_below_drewN|apply below_drew1)|exact HB.out))) : w.heap.size ≤ gb106));clear HB;have HB:=n0_;have BK106:=n1_;have GW106:=n2_;have GE106:=n3_;clear n0_ n1_ n2_ n3_;clear hb hbox hg;have hcz35_0 : w34.cell? ⟨gb106,0,none⟩ = some (.int .i64 a0_0):=(blk_cell BK106.out 0).trans rfl;have hcz35_1 : w34.cell? ⟨gb106,1,none⟩ = some (.string a0_1):=(blk_cell BK106.out 1).trans rfl;have hcz35_2 : w34.cell? ⟨gb106,2,none⟩ = some (.int .u32 a0_2):=(blk_cell BK106.out 2).trans rfl;have hcz35_3 : w34.cell? ⟨gb106,3,none⟩ = some (.bool a0_3):=(blk_cell BK106.out 3).trans rfl;have hcz35_4 : w34.cell? ⟨gb106,4,none⟩ = some (.slice A0_4 l0_4.length c0_4):=(blk_cell BK106.out 4).trans rfl;have hcz35_5 : w34.cell? ⟨gb106,5,none⟩ = some (.int .i64 a0_5):=(blk_cell BK106.out 5).trans rfl;have hfz35_0:=blk_frozen BK106.out 0;have hfz35_1:=blk_frozen BK106.out 1;have hfz35_2:=blk_frozen BK106.out 2;have hfz35_3:=blk_frozen BK106.out 3;have hfz35_4:=blk_frozen BK106.out 4;have hfz35_5:=blk_frozen BK106.out 5))
     go_ret
     exact ⟨by first|rfl|(simp [errW_none,errW_some] <;> rfl)|(simp [*,errW_none,errW_some] <;> rfl),by repeat (first|(with_reducible first|exact HB.out|apply below_alloc|apply pw_below_drewN|apply below_drew1|refine below_set ?_ GE106.out)|exact HB.out)⟩
end Go.Proofs.YtboojhadfhpdeaaGreatDoor.Q
namespace Go.Proofs.YtboojhadfhpdeaaGreatDoor.Q
open Go.RowKit Go.Proofs.YtboojhadfhpdeaaGreatDoorW.PrintWords Go.Proofs.YtboojhadfhpdeaaGreatDoorW.PrintLast Go.Proofs.YtboojhadfhpdeaaGreatDoorW.PrintMore
attribute [local go_sem] max2_int min2_int max_two min_two max_three min_three max_four min_four
set_option linter.unusedVariables false
set_option linter.unusedSimpArgs false
def crucibleref08_typed.j0 : Nat → Bool → Int → ByteArray → Int → Bool → List (S25) → Int → Option (Bool)
 | 0,_,_,_,_,_,_,_ => none
 | k + 1,x16,x113000,x113001,x113002,x113003,x113004,x113005 => if x16 = true then (some false) else (if (x113001.size : Int) > 7 then (if 0 ≤ 7 then (if 7 ≤ (x113001.size : Int) then (if (x113001.extract 0 7).toList = ([115,116,114,117,99,116,32] : List UInt8) then ((crucibleref08_name.f k (x113001.extract 7 x113001.size)).bind fun t114 => (some t114)) else (if x113001.toList = ([105,110,116] : List UInt8) then (some true) else (if x113001.toList = ([117,105,110,116] : List UInt8) then (some true) else (if x113001.toList = ([99,104,97,114] : List UInt8) then (some true) else (some (x113001.toList == ([118,111,105,100] : List UInt8))))))) else (none)) else (none)) else (if x113001.toList = ([105,110,116] : List UInt8) then (some true) else (if x113001.toList = ([117,105,110,116] : List UInt8) then (some true) else (if x113001.toList = ([99,104,97,114] : List UInt8) then (some true) else (some (x113001.toList == ([118,111,105,100] : List UInt8)))))))
def crucibleref08_typed.f (k : Nat) (a0_0 : Int) (a0_1 : ByteArray) (a0_2 : Int) (a0_3 : Bool) (l0_4 : List (S25)) (a0_5 : Int) : Option (Bool):=if a0_0 = 16 then ((crucibleref08_parts.f a0_0 a0_1 a0_2 a0_3 l0_4 a0_5 true false false).bind fun t113 => (if t113 = true then (crucibleref08_typed.j0 k (decide ((l0_4.length : Int) > 0)) a0_0 a0_1 a0_2 a0_3 l0_4 a0_5) else (crucibleref08_typed.j0 k true a0_0 a0_1 a0_2 a0_3 l0_4 a0_5))) else (crucibleref08_typed.j0 k true a0_0 a0_1 a0_2 a0_3 l0_4 a0_5)
theorem crucibleref08_typed.mono_l : ∀ k,(∀ y0 y1 y2 y3 y4 y5 y6,LeO (crucibleref08_typed.j0 k y0 y1 y2 y3 y4 y5 y6) (crucibleref08_typed.j0 (k + 1) y0 y1 y2 y3 y4 y5 y6))
 | 0 => fun _ _ _ _ _ _ _ r h => by simp [crucibleref08_typed.j0] at h
 | k + 1 => by
  have ih0:=crucibleref08_typed.mono_l k
  · intro y0 y1 y2 y3 y4 y5 y6;unfold crucibleref08_typed.j0
    repeat' first
    | (with_reducible exact ih0 _ _ _ _ _ _ _)
    | (with_reducible exact crucibleref08_name.mono _ _)
    | (with_reducible exact LeO.refl _)
    | (with_reducible exact LeO.none _)
    | (with_reducible refine LeO.ite ?_ ?_)
    | (with_reducible refine LeO.bind ?_ (fun _ => ?_))
    | exact ih0 _ _ _ _ _ _ _
    | exact crucibleref08_name.mono _ _
    | exact LeO.none _
    | refine LeO.ite ?_ ?_
    | refine LeO.bind ?_ (fun _ => ?_)
theorem crucibleref08_typed.mono : ∀ a0 a1 a2 a3 a4 a5 k,LeO (crucibleref08_typed.f k a0 a1 a2 a3 a4 a5) (crucibleref08_typed.f (k + 1) a0 a1 a2 a3 a4 a5):=by
 intro a0 a1 a2 a3 a4 a5 k;have ih0:=crucibleref08_typed.mono_l k;unfold crucibleref08_typed.f
 repeat' first
  | (with_reducible exact ih0 _ _ _ _ _ _ _)
  | (with_reducible exact crucibleref08_name.mono _ _)
  | (with_reducible exact LeO.refl _)
  | (with_reducible exact LeO.none _)
  | (with_reducible refine LeO.ite ?_ ?_)
  | (with_reducible refine LeO.bind ?_ (fun _ => ?_))
  | exact ih0 _ _ _ _ _ _ _
  | exact crucibleref08_name.mono _ _
  | exact LeO.none _
  | refine LeO.ite ?_ ?_
  | refine LeO.bind ?_ (fun _ => ?_)
set_option maxHeartbeats 8000000 in
set_option maxRecDepth 100000 in
theorem crucibleref08_typed.calls (k : Nat) (a0_0 : Int) (a0_1 : ByteArray) (a0_2 : Int) (a0_3 : Bool) (A0_4 : Option Addr) (c0_4 : Nat) (l0_4 : List (S25)) (a0_5 : Int) (r : Bool) (w : World) (hr0_4 : Kd.C k25 w A0_4 l0_4.length l0_4) (hc0_4 : l0_4.length ≤ c0_4) (h : crucibleref08_typed.f k a0_0 a0_1 a0_2 a0_3 l0_4 a0_5 = some r) :
 Calls Tryz.prog 35 #[.agg #[.int .i64 a0_0,.string a0_1,.int .u32 a0_2,.bool a0_3,.slice A0_4 l0_4.length c0_4,.int .i64 a0_5]] w fun e w' => e = .returned (.bool r) ∧ Below w.heap.size w w' := by
 have hu25:=Tryz.underlying25;have HR0_4:=Aside0.mk hr0_4;have HC0_4:=Aside0.mk hc0_4;clear hr0_4 hc0_4;have HB:=Aside0.mk (Below.refl w.heap.size w);have H : (if a0_0 = 16 then ((crucibleref08_parts.f a0_0 a0_1 a0_2 a0_3 l0_4 a0_5 true false false).bind fun t113 => (if t113 = true then (crucibleref08_typed.j0 k (decide ((l0_4.length : Int) > 0)) a0_0 a0_1 a0_2 a0_3 l0_4 a0_5) else (crucibleref08_typed.j0 k true a0_0 a0_1 a0_2 a0_3 l0_4 a0_5))) else (crucibleref08_typed.j0 k true a0_0 a0_1 a0_2 a0_3 l0_4 a0_5)) = some r:=h;clear h;have HC2:=Aside0.mk H;clear H;go_enter Tryz.func35,Tryz.ntmps35
 go_upto_region 1 with (first|((with_reducible refine gate_dst (N:=1) rfl ?_);(try (refine gate_guard (by rfl) ?_;dsimp only));refine box_event ?hg (N:=1) ?hd (cs:=#[.int .i64 a0_0,.string a0_1,.int .u32 a0_2,.bool a0_3,.slice A0_4 l0_4.length c0_4,.int .i64 a0_5]) (t:=25) ?hr ?_;(case hd => rfl);(case hg => rfl);(case hr => first|(go_simp;done)|(go_simp;rfl));intro gb112 hg w3 hbox hb;have n0_:=Aside0.mk (below_step (by repeat (first|(with_reducible first|exact HB.out|apply below_alloc|apply pw_below_drewN|apply below_drew1)|exact HB.out)) hb);have n1_:=Aside0.mk (hbox);have n2_:=Aside0.mk ((by rw [hg];exact (below_size (by repeat (first|(with_reducible first|exact HB.out|apply below_alloc|apply pw_below_drewN|apply below_drew1)|exact HB.out))) : w.heap.size ≤ gb112));have n3_:=Aside0.mk ((by rw [hg];exact (below_size (by repeat (first|(with_reducible first|exact HB.out|apply below_alloc|apply pw_below_drewN|apply below_drew1)|exact HB.out))) : w.heap.size ≤ gb112));clear HB;have HB:=n0_;have BK112:=n1_;have GW112:=n2_;have GE112:=n3_;clear n0_ n1_ n2_ n3_;clear hb hbox hg))
 (try simp only [Act.put,List.setIfInBounds_toArray,List.set_cons_zero,List.set_cons_succ]);go_cut [16] (fun v16 wc => ∃ (kq : Nat) (x16_1 : Bool),v16 = .bool x16_1 ∧ Aside0 (crucibleref08_typed.j0 kq x16_1 a0_0 a0_1 a0_2 a0_3 l0_4 a0_5 = some r) ∧ Aside0 (kq ≤ k) ∧ Aside0 (wc.heap[gb112]? = some (.cells #[.int .i64 a0_0,.string a0_1,.int .u32 a0_2,.bool a0_3,(.slice A0_4 l0_4.length c0_4),.int .i64 a0_5] 25 (0,0))) ∧ Aside0 (Below w.heap.size w wc))
 case first =>
  have H:=HC2.out;clear HC2;by_cases c4 : a0_0 = 16
  · rw [if_pos c4] at H;have c4b0 : (a0_0 == 16) = true:=beq_iff_eq.mpr c4;have c4b1 : (a0_0 != 16) = false:=bne_eq_false_iff_eq.mpr c4;clear c4;(first|rw [c4b0]|(simp only [i64_w,i32_w];rw [c4b0])|skip);replace H:=Option.bind_eq_some_iff.mp H;obtain ⟨t113,A50,H⟩:=H;replace H : (if t113 = true then (crucibleref08_typed.j0 k (decide ((l0_4.length : Int) > 0)) a0_0 a0_1 a0_2 a0_3 l0_4 a0_5) else (crucibleref08_typed.j0 k true a0_0 a0_1 a0_2 a0_3 l0_4 a0_5)) = some r:=H;have A5:=Aside0.mk A50;clear A50;by_cases c6 : t113 = true
    · subst c6;have H1 : (crucibleref08_typed.j0 k (decide ((l0_4.length : Int) > 0)) a0_0 a0_1 a0_2 a0_3 l0_4 a0_5) = some r:=by rw [if_pos rfl] at H;exact H
      clear H;have H:=H1;clear H1;have H' := Aside0.mk H;clear H;have hcz7_0 : w3.cell? ⟨gb112,0,none⟩ = some (.int .i64 a0_0):=(blk_cell BK112.out 0).trans rfl;have hcz7_1 : w3.cell? ⟨gb112,1,none⟩ = some (.string a0_1):=(blk_cell BK112.out 1).trans rfl;have hcz7_2 : w3.cell? ⟨gb112,2,none⟩ = some (.int .u32 a0_2):=(blk_cell BK112.out 2).trans rfl;have hcz7_3 : w3.cell? ⟨gb112,3,none⟩ = some (.bool a0_3):=(blk_cell BK112.out 3).trans rfl;have hcz7_4 : w3.cell? ⟨gb112,4,none⟩ = some (.slice A0_4 l0_4.length c0_4):=(blk_cell BK112.out 4).trans rfl;have hcz7_5 : w3.cell? ⟨gb112,5,none⟩ = some (.int .i64 a0_5):=(blk_cell BK112.out 5).trans rfl;have hfz7_0:=blk_frozen BK112.out 0;have hfz7_1:=blk_frozen BK112.out 1;have hfz7_2:=blk_frozen BK112.out 2;have hfz7_3:=blk_frozen BK112.out 3;have hfz7_4:=blk_frozen BK112.out 4;have hfz7_5:=blk_frozen BK112.out 5;go_wp2_with (first|(go_at_call 21;(with_reducible refine (crucibleref08_parts.calls a0_0 a0_1 a0_2 a0_3 _ _ l0_4 a0_5 true false false true _ ?side1 ?side2 A5.out).mono ?_);(case side1 => repeat (first|exact (Kd.C_below HR0_4.out HB.out)|(with_reducible refine Kd.C_alloc ?_ _)|(with_reducible refine Kd.C_drewN ?_ _)|(with_reducible refine Kd.C_drew ?_)));(case side2 => exact HC0_4.out);rintro e w8 ⟨rfl,hb⟩;have n0_:=Aside0.mk (blk_below (g:=gb112) (o:=.cells #[.int .i64 a0_0,.string a0_1,.int .u32 a0_2,.bool a0_3,.slice A0_4 l0_4.length c0_4,.int .i64 a0_5] 25 (0,0)) (by (with_reducible repeat (first|refine blk_drewN ?_ _|refine blk_drew ?_|refine blk_alloc ?_ _));exact BK112.out) hb);have n1_:=Aside0.mk (below_step (by repeat (first|(with_reducible first|exact HB.out|apply below_alloc|apply pw_below_drewN|apply below_drew1|refine below_set ?_ GE112.out)|exact HB.out)) hb);clear BK112;clear HB;have BK112:=n0_;have HB:=n1_;clear n0_ n1_;(try clear hb);(try clear hb2);(try clear hk);(try clear hi);have hcz9_0 : w8.cell? ⟨gb112,0,none⟩ = some (.int .i64 a0_0):=(blk_cell BK112.out 0).trans rfl;have hcz9_1 : w8.cell? ⟨gb112,1,none⟩ = some (.string a0_1):=(blk_cell BK112.out 1).trans rfl;have hcz9_2 : w8.cell? ⟨gb112,2,none⟩ = some (.int .u32 a0_2):=(blk_cell BK112.out 2).trans rfl;have hcz9_3 : w8.cell? ⟨gb112,3,none⟩ = some (.bool a0_3):=(blk_cell BK112.out 3).trans rfl;have hcz9_4 : w8.cell? ⟨gb112,4,none⟩ = some (.slice A0_4 l0_4.length c0_4):=(blk_cell BK112.out 4).trans rfl;have hcz9_5 : w8.cell? ⟨gb112,5,none⟩ = some (.int .i64 a0_5):=(blk_cell BK112.out 5).trans rfl;have hfz9_0:=blk_frozen BK112.out 0;have hfz9_1:=blk_frozen BK112.out 1;have hfz9_2:=blk_frozen BK112.out 2;have hfz9_3:=blk_frozen BK112.out 3;have hfz9_4:=blk_frozen BK112.out 4;have hfz9_5:=blk_frozen BK112.out 5))
      go_meet
      case rel => exact ⟨_,(decide ((l0_4.length : Int) > 0)),(by first|rfl|(simp;done)|(simp [*];done)),H',⟨by first|omega|exact Nat.le_refl _⟩,⟨by (with_reducible repeat (first|refine blk_drewN ?_ _|refine blk_drew ?_|refine blk_alloc ?_ _));exact BK112.out⟩,⟨by repeat (first|(with_reducible first|exact HB.out|apply below_alloc|apply pw_below_drewN|apply below_drew1|refine below_set ?_ GE112.out)|exact HB.out)⟩⟩
    · replace c6:=Bool.eq_false_iff.mpr c6;subst c6;have H1 : (crucibleref08_typed.j0 k true a0_0 a0_1 a0_2 a0_3 l0_4 a0_5) = some r:=by rw [if_neg (show ¬ (false = true) by decide)] at H;exact H
      clear H;have H:=H1;clear H1;have H' := Aside0.mk H;clear H;have hcz10_0 : w3.cell? ⟨gb112,0,none⟩ = some (.int .i64 a0_0):=(blk_cell BK112.out 0).trans rfl;have hcz10_1 : w3.cell? ⟨gb112,1,none⟩ = some (.string a0_1):=(blk_cell BK112.out 1).trans rfl;have hcz10_2 : w3.cell? ⟨gb112,2,none⟩ = some (.int .u32 a0_2):=(blk_cell BK112.out 2).trans rfl;have hcz10_3 : w3.cell? ⟨gb112,3,none⟩ = some (.bool a0_3):=(blk_cell BK112.out 3).trans rfl;have hcz10_4 : w3.cell? ⟨gb112,4,none⟩ = some (.slice A0_4 l0_4.length c0_4):=(blk_cell BK112.out 4).trans rfl;have hcz10_5 : w3.cell? ⟨gb112,5,none⟩ = some (.int .i64 a0_5):=(blk_cell BK112.out 5).trans rfl;have hfz10_0:=blk_frozen BK112.out 0;have hfz10_1:=blk_frozen BK112.out 1;have hfz10_2:=blk_frozen BK112.out 2;have hfz10_3:=blk_frozen BK112.out 3;have hfz10_4:=blk_frozen BK112.out 4;have hfz10_5:=blk_frozen BK112.out 5;go_wp2_with (first|(go_at_call 21;(with_reducible refine (crucibleref08_parts.calls a0_0 a0_1 a0_2 a0_3 _ _ l0_4 a0_5 true false false false _ ?side1 ?side2 A5.out).mono ?_);(case side1 => repeat (first|exact (Kd.C_below HR0_4.out HB.out)|(with_reducible refine Kd.C_alloc ?_ _)|(with_reducible refine Kd.C_drewN ?_ _)|(with_reducible refine Kd.C_drew ?_)));(case side2 => exact HC0_4.out);rintro e w11 ⟨rfl,hb⟩;have n0_:=Aside0.mk (blk_below (g:=gb112) (o:=.cells #[.int .i64 a0_0,.string a0_1,.int .u32 a0_2,.bool a0_3,.slice A0_4 l0_4.length c0_4,.int .i64 a0_5] 25 (0,0)) (by (with_reducible repeat (first|refine blk_drewN ?_ _|refine blk_drew ?_|refine blk_alloc ?_ _));exact BK112.out) hb);have n1_:=Aside0.mk (below_step (by repeat (first|(with_reducible first|exact HB.out|apply below_alloc|apply pw_below_drewN|apply below_drew1|refine below_set ?_ GE112.out)|exact HB.out)) hb);clear BK112;clear HB;have BK112:=n0_;have HB:=n1_;clear n0_ n1_;(try clear hb);(try clear hb2);(try clear hk);(try clear hi)))
      go_meet
      case rel => exact ⟨_,(true),(by first|rfl|(simp;done)|(simp [*];done)),H',⟨by first|omega|exact Nat.le_refl _⟩,⟨by (with_reducible repeat (first|refine blk_drewN ?_ _|refine blk_drew ?_|refine blk_alloc ?_ _));exact BK112.out⟩,⟨by repeat (first|(with_reducible first|exact HB.out|apply below_alloc|apply pw_below_drewN|apply below_drew1|refine below_set ?_ GE112.out)|exact HB.out)⟩⟩
  · rw [if_neg c4] at H;have c4b0 : (a0_0 == 16) = false:=beq_eq_false_iff_ne.mpr c4;have c4b1 : (a0_0 != 16) = true:=bne_iff_ne.mpr c4;(first|rw [c4b0]|(simp only [i64_w,i32_w];rw [c4b0])|skip);have H' := Aside0.mk H;clear H;have hcz12_0 : w3.cell? ⟨gb112,0,none⟩ = some (.int .i64 a0_0):=(blk_cell BK112.out 0).trans rfl;have hcz12_1 : w3.cell? ⟨gb112,1,none⟩ = some (.string a0_1):=(blk_cell BK112.out 1).trans rfl;have hcz12_2 : w3.cell? ⟨gb112,2,none⟩ = some (.int .u32 a0_2):=(blk_cell BK112.out 2).trans rfl;have hcz12_3 : w3.cell? ⟨gb112,3,none⟩ = some (.bool a0_3):=(blk_cell BK112.out 3).trans rfl;have hcz12_4 : w3.cell? ⟨gb112,4,none⟩ = some (.slice A0_4 l0_4.length c0_4):=(blk_cell BK112.out 4).trans rfl;have hcz12_5 : w3.cell? ⟨gb112,5,none⟩ = some (.int .i64 a0_5):=(blk_cell BK112.out 5).trans rfl;have hfz12_0:=blk_frozen BK112.out 0;have hfz12_1:=blk_frozen BK112.out 1;have hfz12_2:=blk_frozen BK112.out 2;have hfz12_3:=blk_frozen BK112.out 3;have hfz12_4:=blk_frozen BK112.out 4;have hfz12_5:=blk_frozen BK112.out 5;go_wp2
    go_meet
    case rel => exact ⟨_,(true),(by first|rfl|(simp;done)|(simp [*];done)),H',⟨by first|omega|exact Nat.le_refl _⟩,⟨by (with_reducible repeat (first|refine blk_drewN ?_ _|refine blk_drew ?_|refine blk_alloc ?_ _));exact BK112.out⟩,⟨by repeat (first|(with_reducible first|exact HB.out|apply below_alloc|apply pw_below_drewN|apply below_drew1|refine below_set ?_ GE112.out)|exact HB.out)⟩⟩
 case rest =>
  clear HC2;try clear p2
  try clear c3
  try clear c4
  try clear c4b0
  try clear c4b1
  try clear c6
  try clear hcz10_0
  try clear hcz10_1
  try clear hcz10_2
  try clear hcz10_3
  try clear hcz10_4
  try clear hcz10_5
  try clear hcz12_0
  try clear hcz12_1
  try clear hcz12_2
  try clear hcz12_3
  try clear hcz12_4
  try clear hcz12_5
  try clear hcz7_0
  try clear hcz7_1
  try clear hcz7_2
  try clear hcz7_3
  try clear hcz7_4
  try clear hcz7_5
  try clear hcz9_0
  try clear hcz9_1
  try clear hcz9_2
  try clear hcz9_3
  try clear hcz9_4
  try clear hcz9_5
  try clear hfz10_0
  try clear hfz10_1
  try clear hfz10_2
  try clear hfz10_3
  try clear hfz10_4
  try clear hfz10_5
  try clear hfz12_0
  try clear hfz12_1
  try clear hfz12_2
  try clear hfz12_3
  try clear hfz12_4
  try clear hfz12_5
  try clear hfz7_0
  try clear hfz7_1
  try clear hfz7_2
  try clear hfz7_3
  try clear hfz7_4
  try clear hfz7_5
  try clear hfz9_0
  try clear hfz9_1
  try clear hfz9_2
  try clear hfz9_3
  try clear hfz9_4
  try clear hfz9_5
  obtain ⟨kq,x16_1,rfl,HA,HJ1,BK112,HB⟩:=hcut;cases kq with
  | zero => exact absurd HA.out (by simp [crucibleref08_typed.j0])
  | succ kj1 =>
   have H:=HA.out;clear HA;simp only [crucibleref08_typed.j0] at H;by_cases c13 : x16_1 = true
   · subst c13;have H1 : (some false) = some r:=by rw [if_pos rfl] at H;exact H
     clear H;have H:=H1;clear H1;obtain rfl:=Option.some.inj H;go_wp2
     go_ret
     exact ⟨by first|rfl|(simp [errW_none,errW_some] <;> rfl)|(simp [*,errW_none,errW_some] <;> rfl),by repeat (first|(with_reducible first|exact HB.out|apply below_alloc|apply pw_below_drewN|apply below_drew1|refine below_set ?_ GE112.out)|exact HB.out)⟩
   · replace c13:=Bool.eq_false_iff.mpr c13;subst c13;have H1 : (if (a0_1.size : Int) > 7 then (if 0 ≤ 7 then (if 7 ≤ (a0_1.size : Int) then (if (a0_1.extract 0 7).toList = ([115,116,114,117,99,116,32] : List UInt8) then ((crucibleref08_name.f kj1 (a0_1.extract 7 a0_1.size)).bind fun t114 => (some t114)) else (if a0_1.toList = ([105,110,116] : List UInt8) then (some true) else (if a0_1.toList = ([117,105,110,116] : List UInt8) then (some true) else (if a0_1.toList = ([99,104,97,114] : List UInt8) then (some true) else (some (a0_1.toList == ([118,111,105,100] : List UInt8))))))) else (none)) else (none)) else (if a0_1.toList = ([105,110,116] : List UInt8) then (some true) else (if a0_1.toList = ([117,105,110,116] : List UInt8) then (some true) else (if a0_1.toList = ([99,104,97,114] : List UInt8) then (some true) else (some (a0_1.toList == ([118,111,105,100] : List UInt8))))))) = some r:=by rw [if_neg (show ¬ (false = true) by decide)] at H;exact H
     clear H;have H:=H1;clear H1;by_cases c14 : (a0_1.size : Int) > 7
     · rw [if_pos c14] at H;have c14b0 : decide (7 < (a0_1.size : Int)) = true:=decide_eq_true c14;have c14b1 : decide (7 < a0_1.size) = true:=decide_eq_true (by omega);clear c14;by_cases c15 : 0 ≤ 7
       · rw [if_pos c15] at H;have c15b0:=eq_true c15;have c15b1 : decide (0 ≤ 7) = true:=decide_eq_true c15;clear c15;by_cases c16 : 7 ≤ (a0_1.size : Int)
         · rw [if_pos c16] at H;have c16b0:=eq_true c16;have c16b1 : decide (7 ≤ (a0_1.size : Int)) = true:=decide_eq_true c16;clear c16;by_cases c17 : (a0_1.extract 0 7).toList = ([115,116,114,117,99,116,32] : List UInt8)
           · rw [if_pos c17] at H;have c17b0 : ((a0_1.extract 0 7).toList == ([115,116,114,117,99,116,32] : List UInt8)) = true:=beq_iff_eq.mpr c17;have c17b1 : ((a0_1.extract 0 7).toList != ([115,116,114,117,99,116,32] : List UInt8)) = false:=bne_eq_false_iff_eq.mpr c17;clear c17;have c18b0:=eq_true (of_decide_eq_true (by first|(with_reducible assumption)|assumption) : 7 ≤ (a0_1.size : Int));replace H:=Option.bind_eq_some_iff.mp H;obtain ⟨t114,A190,H⟩:=H;replace H : (some t114) = some r:=H;have A19:=Aside0.mk A190;clear A190;obtain rfl:=Option.some.inj H;have hcz20_0 : wc.cell? ⟨gb112,0,none⟩ = some (.int .i64 a0_0):=(blk_cell BK112.out 0).trans rfl;have hcz20_1 : wc.cell? ⟨gb112,1,none⟩ = some (.string a0_1):=(blk_cell BK112.out 1).trans rfl;have hcz20_2 : wc.cell? ⟨gb112,2,none⟩ = some (.int .u32 a0_2):=(blk_cell BK112.out 2).trans rfl;have hcz20_3 : wc.cell? ⟨gb112,3,none⟩ = some (.bool a0_3):=(blk_cell BK112.out 3).trans rfl;have hcz20_4 : wc.cell? ⟨gb112,4,none⟩ = some (.slice A0_4 l0_4.length c0_4):=(blk_cell BK112.out 4).trans rfl;have hcz20_5 : wc.cell? ⟨gb112,5,none⟩ = some (.int .i64 a0_5):=(blk_cell BK112.out 5).trans rfl;have hfz20_0:=blk_frozen BK112.out 0;have hfz20_1:=blk_frozen BK112.out 1;have hfz20_2:=blk_frozen BK112.out 2;have hfz20_3:=blk_frozen BK112.out 3;have hfz20_4:=blk_frozen BK112.out 4;have hfz20_5:=blk_frozen BK112.out 5;go_wp2_with (first|((with_reducible refine gate_callee (f:=34) rfl ?_);refine goesL_ (some 30) rfl rfl Tryz.func34 (by kernel_rfl) rfl #[.string (a0_1.extract 7 a0_1.size)] rfl (by (try simp only [List.map_toArray,List.map_cons,List.map_nil]);first|done|rfl|(simp only [List.length_drop,List.length_take];rfl)) ?_;(with_reducible refine (crucibleref08_name.calls kj1 (a0_1.extract 7 a0_1.size) t114 _ A19.out).mono ?_);rintro e w' ⟨rfl,⟨nd,rfl⟩⟩;refine ⟨_,rfl,?_⟩))
             go_ret
             exact ⟨by first|rfl|(simp [errW_none,errW_some] <;> rfl)|(simp [*,errW_none,errW_some] <;> rfl),by repeat (first|(with_reducible first|exact HB.out|apply below_alloc|apply pw_below_drewN|apply below_drew1|refine below_set ?_ GE112.out)|exact HB.out)⟩
           · rw [if_neg c17] at H;have c17b0 : ((a0_1.extract 0 7).toList == ([115,116,114,117,99,116,32] : List UInt8)) = false:=beq_eq_false_iff_ne.mpr c17;have c17b1 : ((a0_1.extract 0 7).toList != ([115,116,114,117,99,116,32] : List UInt8)) = true:=bne_iff_ne.mpr c17;by_cases c21 : a0_1.toList = ([105,110,116] : List UInt8)
             · rw [if_pos c21] at H;have c21b0 : (a0_1.toList == ([105,110,116] : List UInt8)) = true:=beq_iff_eq.mpr c21;have c21b1 : (a0_1.toList != ([105,110,116] : List UInt8)) = false:=bne_eq_false_iff_eq.mpr c21;clear c21;obtain rfl:=Option.some.inj H;have hcz22_0 : wc.cell? ⟨gb112,0,none⟩ = some (.int .i64 a0_0):=(blk_cell BK112.out 0).trans rfl;have hcz22_1 : wc.cell? ⟨gb112,1,none⟩ = some (.string a0_1):=(blk_cell BK112.out 1).trans rfl;have hcz22_2 : wc.cell? ⟨gb112,2,none⟩ = some (.int .u32 a0_2):=(blk_cell BK112.out 2).trans rfl;have hcz22_3 : wc.cell? ⟨gb112,3,none⟩ = some (.bool a0_3):=(blk_cell BK112.out 3).trans rfl;have hcz22_4 : wc.cell? ⟨gb112,4,none⟩ = some (.slice A0_4 l0_4.length c0_4):=(blk_cell BK112.out 4).trans rfl;have hcz22_5 : wc.cell? ⟨gb112,5,none⟩ = some (.int .i64 a0_5):=(blk_cell BK112.out 5).trans rfl;have hfz22_0:=blk_frozen BK112.out 0;have hfz22_1:=blk_frozen BK112.out 1;have hfz22_2:=blk_frozen BK112.out 2;have hfz22_3:=blk_frozen BK112.out 3;have hfz22_4:=blk_frozen BK112.out 4;have hfz22_5:=blk_frozen BK112.out 5;go_wp2
               go_ret
               exact ⟨by first|rfl|(simp [errW_none,errW_some] <;> rfl)|(simp [*,errW_none,errW_some] <;> rfl),by repeat (first|(with_reducible first|exact HB.out|apply below_alloc|apply pw_below_drewN|apply below_drew1|refine below_set ?_ GE112.out)|exact HB.out)⟩
             · rw [if_neg c21] at H;have c21b0 : (a0_1.toList == ([105,110,116] : List UInt8)) = false:=beq_eq_false_iff_ne.mpr c21;have c21b1 : (a0_1.toList != ([105,110,116] : List UInt8)) = true:=bne_iff_ne.mpr c21;by_cases c23 : a0_1.toList = ([117,105,110,116] : List UInt8)
               · rw [if_pos c23] at H;have c23b0 : (a0_1.toList == ([117,105,110,116] : List UInt8)) = true:=beq_iff_eq.mpr c23;have c23b1 : (a0_1.toList != ([117,105,110,116] : List UInt8)) = false:=bne_eq_false_iff_eq.mpr c23;clear c23;obtain rfl:=Option.some.inj H;have hcz24_0 : wc.cell? ⟨gb112,0,none⟩ = some (.int .i64 a0_0):=(blk_cell BK112.out 0).trans rfl;have hcz24_1 : wc.cell? ⟨gb112,1,none⟩ = some (.string a0_1):=(blk_cell BK112.out 1).trans rfl;have hcz24_2 : wc.cell? ⟨gb112,2,none⟩ = some (.int .u32 a0_2):=(blk_cell BK112.out 2).trans rfl;have hcz24_3 : wc.cell? ⟨gb112,3,none⟩ = some (.bool a0_3):=(blk_cell BK112.out 3).trans rfl;have hcz24_4 : wc.cell? ⟨gb112,4,none⟩ = some (.slice A0_4 l0_4.length c0_4):=(blk_cell BK112.out 4).trans rfl;have hcz24_5 : wc.cell? ⟨gb112,5,none⟩ = some (.int .i64 a0_5):=(blk_cell BK112.out 5).trans rfl;have hfz24_0:=blk_frozen BK112.out 0;have hfz24_1:=blk_frozen BK112.out 1;have hfz24_2:=blk_frozen BK112.out 2;have hfz24_3:=blk_frozen BK112.out 3;have hfz24_4:=blk_frozen BK112.out 4;have hfz24_5:=blk_frozen BK112.out 5;go_wp2
                 go_ret
                 exact ⟨by first|rfl|(simp [errW_none,errW_some] <;> rfl)|(simp [*,errW_none,errW_some] <;> rfl),by repeat (first|(with_reducible first|exact HB.out|apply below_alloc|apply pw_below_drewN|apply below_drew1|refine below_set ?_ GE112.out)|exact HB.out)⟩
               · rw [if_neg c23] at H;have c23b0 : (a0_1.toList == ([117,105,110,116] : List UInt8)) = false:=beq_eq_false_iff_ne.mpr c23;have c23b1 : (a0_1.toList != ([117,105,110,116] : List UInt8)) = true:=bne_iff_ne.mpr c23;by_cases c25 : a0_1.toList = ([99,104,97,114] : List UInt8)
                 · rw [if_pos c25] at H;have c25b0 : (a0_1.toList == ([99,104,97,114] : List UInt8)) = true:=beq_iff_eq.mpr c25;have c25b1 : (a0_1.toList != ([99,104,97,114] : List UInt8)) = false:=bne_eq_false_iff_eq.mpr c25;clear c25;obtain rfl:=Option.some.inj H;have hcz26_0 : wc.cell? ⟨gb112,0,none⟩ = some (.int .i64 a0_0):=(blk_cell BK112.out 0).trans rfl;have hcz26_1 : wc.cell? ⟨gb112,1,none⟩ = some (.string a0_1):=(blk_cell BK112.out 1).trans rfl;have hcz26_2 : wc.cell? ⟨gb112,2,none⟩ = some (.int .u32 a0_2):=(blk_cell BK112.out 2).trans rfl;have hcz26_3 : wc.cell? ⟨gb112,3,none⟩ = some (.bool a0_3):=(blk_cell BK112.out 3).trans rfl;have hcz26_4 : wc.cell? ⟨gb112,4,none⟩ = some (.slice A0_4 l0_4.length c0_4):=(blk_cell BK112.out 4).trans rfl;have hcz26_5 : wc.cell? ⟨gb112,5,none⟩ = some (.int .i64 a0_5):=(blk_cell BK112.out 5).trans rfl;have hfz26_0:=blk_frozen BK112.out 0;have hfz26_1:=blk_frozen BK112.out 1;have hfz26_2:=blk_frozen BK112.out 2;have hfz26_3:=blk_frozen BK112.out 3;have hfz26_4:=blk_frozen BK112.out 4;have hfz26_5:=blk_frozen BK112.out 5;go_wp2
                   go_ret
                   exact ⟨by first|rfl|(simp [errW_none,errW_some] <;> rfl)|(simp [*,errW_none,errW_some] <;> rfl),by repeat (first|(with_reducible first|exact HB.out|apply below_alloc|apply pw_below_drewN|apply below_drew1|refine below_set ?_ GE112.out)|exact HB.out)⟩
                 · rw [if_neg c25] at H;have c25b0 : (a0_1.toList == ([99,104,97,114] : List UInt8)) = false:=beq_eq_false_iff_ne.mpr c25;have c25b1 : (a0_1.toList != ([99,104,97,114] : List UInt8)) = true:=bne_iff_ne.mpr c25;obtain rfl:=Option.some.inj H;have hcz27_0 : wc.cell? ⟨gb112,0,none⟩ = some (.int .i64 a0_0):=(blk_cell BK112.out 0).trans rfl;have hcz27_1 : wc.cell? ⟨gb112,1,none⟩ = some (.string a0_1):=(blk_cell BK112.out 1).trans rfl;have hcz27_2 : wc.cell? ⟨gb112,2,none⟩ = some (.int .u32 a0_2):=(blk_cell BK112.out 2).trans rfl;have hcz27_3 : wc.cell? ⟨gb112,3,none⟩ = some (.bool a0_3):=(blk_cell BK112.out 3).trans rfl;have hcz27_4 : wc.cell? ⟨gb112,4,none⟩ = some (.slice A0_4 l0_4.length c0_4):=(blk_cell BK112.out 4).trans rfl;have hcz27_5 : wc.cell? ⟨gb112,5,none⟩ = some (.int .i64 a0_5):=(blk_cell BK112.out 5).trans rfl;have hfz27_0:=blk_frozen BK112.out 0;have hfz27_1:=blk_frozen BK112.out 1;have hfz27_2:=blk_frozen BK112.out 2;have hfz27_3:=blk_frozen BK112.out 3;have hfz27_4:=blk_frozen BK112.out 4;have hfz27_5:=blk_frozen BK112.out 5;go_wp2
                   go_ret
                   exact ⟨by first|rfl|(simp [errW_none,errW_some] <;> rfl)|(simp [*,errW_none,errW_some] <;> rfl),by repeat (first|(with_reducible first|exact HB.out|apply below_alloc|apply pw_below_drewN|apply below_drew1|refine below_set ?_ GE112.out)|exact HB.out)⟩
         · rw [if_neg c16] at H;exact absurd H (by simp)
       · rw [if_neg c15] at H;exact absurd H (by simp)
     · rw [if_neg c14] at H;have c14b0 : decide (7 < (a0_1.size : Int)) = false:=decide_eq_false c14;have c14b1 : decide (7 < a0_1.size) = false:=decide_eq_false (by omega);clear c14;by_cases c28 : a0_1.toList = ([105,110,116] : List UInt8)
       · rw [if_pos c28] at H;have c28b0 : (a0_1.toList == ([105,110,116] : List UInt8)) = true:=beq_iff_eq.mpr c28;have c28b1 : (a0_1.toList != ([105,110,116] : List UInt8)) = false:=bne_eq_false_iff_eq.mpr c28;clear c28;obtain rfl:=Option.some.inj H;have hcz29_0 : wc.cell? ⟨gb112,0,none⟩ = some (.int .i64 a0_0):=(blk_cell BK112.out 0).trans rfl;have hcz29_1 : wc.cell? ⟨gb112,1,none⟩ = some (.string a0_1):=(blk_cell BK112.out 1).trans rfl;have hcz29_2 : wc.cell? ⟨gb112,2,none⟩ = some (.int .u32 a0_2):=(blk_cell BK112.out 2).trans rfl;have hcz29_3 : wc.cell? ⟨gb112,3,none⟩ = some (.bool a0_3):=(blk_cell BK112.out 3).trans rfl;have hcz29_4 : wc.cell? ⟨gb112,4,none⟩ = some (.slice A0_4 l0_4.length c0_4):=(blk_cell BK112.out 4).trans rfl;have hcz29_5 : wc.cell? ⟨gb112,5,none⟩ = some (.int .i64 a0_5):=(blk_cell BK112.out 5).trans rfl;have hfz29_0:=blk_frozen BK112.out 0;have hfz29_1:=blk_frozen BK112.out 1;have hfz29_2:=blk_frozen BK112.out 2;have hfz29_3:=blk_frozen BK112.out 3;have hfz29_4:=blk_frozen BK112.out 4;have hfz29_5:=blk_frozen BK112.out 5;go_wp2
         go_ret
         exact ⟨by first|rfl|(simp [errW_none,errW_some] <;> rfl)|(simp [*,errW_none,errW_some] <;> rfl),by repeat (first|(with_reducible first|exact HB.out|apply below_alloc|apply pw_below_drewN|apply below_drew1|refine below_set ?_ GE112.out)|exact HB.out)⟩
       · rw [if_neg c28] at H;have c28b0 : (a0_1.toList == ([105,110,116] : List UInt8)) = false:=beq_eq_false_iff_ne.mpr c28;have c28b1 : (a0_1.toList != ([105,110,116] : List UInt8)) = true:=bne_iff_ne.mpr c28;by_cases c30 : a0_1.toList = ([117,105,110,116] : List UInt8)
         · rw [if_pos c30] at H;have c30b0 : (a0_1.toList == ([117,105,110,116] : List UInt8)) = true:=beq_iff_eq.mpr c30;have c30b1 : (a0_1.toList != ([117,105,110,116] : List UInt8)) = false:=bne_eq_false_iff_eq.mpr c30;clear c30;obtain rfl:=Option.some.inj H;have hcz31_0 : wc.cell? ⟨gb112,0,none⟩ = some (.int .i64 a0_0):=(blk_cell BK112.out 0).trans rfl;have hcz31_1 : wc.cell? ⟨gb112,1,none⟩ = some (.string a0_1):=(blk_cell BK112.out 1).trans rfl;have hcz31_2 : wc.cell? ⟨gb112,2,none⟩ = some (.int .u32 a0_2):=(blk_cell BK112.out 2).trans rfl;have hcz31_3 : wc.cell? ⟨gb112,3,none⟩ = some (.bool a0_3):=(blk_cell BK112.out 3).trans rfl;have hcz31_4 : wc.cell? ⟨gb112,4,none⟩ = some (.slice A0_4 l0_4.length c0_4):=(blk_cell BK112.out 4).trans rfl;have hcz31_5 : wc.cell? ⟨gb112,5,none⟩ = some (.int .i64 a0_5):=(blk_cell BK112.out 5).trans rfl;have hfz31_0:=blk_frozen BK112.out 0;have hfz31_1:=blk_frozen BK112.out 1;have hfz31_2:=blk_frozen BK112.out 2;have hfz31_3:=blk_frozen BK112.out 3;have hfz31_4:=blk_frozen BK112.out 4;have hfz31_5:=blk_frozen BK112.out 5;go_wp2
           go_ret
           exact ⟨by first|rfl|(simp [errW_none,errW_some] <;> rfl)|(simp [*,errW_none,errW_some] <;> rfl),by repeat (first|(with_reducible first|exact HB.out|apply below_alloc|apply pw_below_drewN|apply below_drew1|refine below_set ?_ GE112.out)|exact HB.out)⟩
         · rw [if_neg c30] at H;have c30b0 : (a0_1.toList == ([117,105,110,116] : List UInt8)) = false:=beq_eq_false_iff_ne.mpr c30;have c30b1 : (a0_1.toList != ([117,105,110,116] : List UInt8)) = true:=bne_iff_ne.mpr c30;by_cases c32 : a0_1.toList = ([99,104,97,114] : List UInt8)
           · rw [if_pos c32] at H;have c32b0 : (a0_1.toList == ([99,104,97,114] : List UInt8)) = true:=beq_iff_eq.mpr c32;have c32b1 : (a0_1.toList != ([99,104,97,114] : List UInt8)) = false:=bne_eq_false_iff_eq.mpr c32;clear c32;obtain rfl:=Option.some.inj H;have hcz33_0 : wc.cell? ⟨gb112,0,none⟩ = some (.int .i64 a0_0):=(blk_cell BK112.out 0).trans rfl;have hcz33_1 : wc.cell? ⟨gb112,1,none⟩ = some (.string a0_1):=(blk_cell BK112.out 1).trans rfl;have hcz33_2 : wc.cell? ⟨gb112,2,none⟩ = some (.int .u32 a0_2):=(blk_cell BK112.out 2).trans rfl;have hcz33_3 : wc.cell? ⟨gb112,3,none⟩ = some (.bool a0_3):=(blk_cell BK112.out 3).trans rfl;have hcz33_4 : wc.cell? ⟨gb112,4,none⟩ = some (.slice A0_4 l0_4.length c0_4):=(blk_cell BK112.out 4).trans rfl;have hcz33_5 : wc.cell? ⟨gb112,5,none⟩ = some (.int .i64 a0_5):=(blk_cell BK112.out 5).trans rfl;have hfz33_0:=blk_frozen BK112.out 0;have hfz33_1:=blk_frozen BK112.out 1;have hfz33_2:=blk_frozen BK112.out 2;have hfz33_3:=blk_frozen BK112.out 3;have hfz33_4:=blk_frozen BK112.out 4;have hfz33_5:=blk_frozen BK112.out 5;go_wp2
             go_ret
             exact ⟨by first|rfl|(simp [errW_none,errW_some] <;> rfl)|(simp [*,errW_none,errW_some] <;> rfl),by repeat (first|(with_reducible first|exact HB.out|apply below_alloc|apply pw_below_drewN|apply below_drew1|refine below_set ?_ GE112.out)|exact HB.out)⟩
           · rw [if_neg c32] at H;have c32b0 : (a0_1.toList == ([99,104,97,114] : List UInt8)) = false:=beq_eq_false_iff_ne.mpr c32;have c32b1 : (a0_1.toList != ([99,104,97,114] : List UInt8)) = true:=bne_iff_ne.mpr c32;obtain rfl:=Option.some.inj H;have hcz34_0 : wc.cell? ⟨gb112,0,none⟩ = some (.int .i64 a0_0):=(blk_cell BK112.out 0).trans rfl;have hcz34_1 : wc.cell? ⟨gb112,1,none⟩ = some (.string a0_1):=(blk_cell BK112.out 1).trans rfl;have hcz34_2 : wc.cell? ⟨gb112,2,none⟩ = some (.int .u32 a0_2):=(blk_cell BK112.out 2).trans rfl;have hcz34_3 : wc.cell? ⟨gb112,3,none⟩ = some (.bool a0_3):=(blk_cell BK112.out 3).trans rfl;have hcz34_4 : wc.cell? ⟨gb112,4,none⟩ = some (.slice A0_4 l0_4.length c0_4):=(blk_cell BK112.out 4).trans rfl;have hcz34_5 : wc.cell? ⟨gb112,5,none⟩ = some (.int .i64 a0_5):=(blk_cell BK112.out 5).trans rfl;have hfz34_0:=blk_frozen BK112.out 0;have hfz34_1:=blk_frozen BK112.out 1;have hfz34_2:=blk_frozen BK112.out 2;have hfz34_3:=blk_frozen BK112.out 3;have hfz34_4:=blk_frozen BK112.out 4;have hfz34_5:=blk_frozen BK112.out 5;go_wp2
             go_ret
             exact ⟨by first|rfl|(simp [errW_none,errW_some] <;> rfl)|(simp [*,errW_none,errW_some] <;> rfl),by repeat (first|(with_reducible first|exact HB.out|apply below_alloc|apply pw_below_drewN|apply below_drew1|refine below_set ?_ GE112.out)|exact HB.out)⟩
end Go.Proofs.YtboojhadfhpdeaaGreatDoor.Q
