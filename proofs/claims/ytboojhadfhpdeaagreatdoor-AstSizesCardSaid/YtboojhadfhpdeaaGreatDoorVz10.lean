/- Proved: for every tree, AstSizes returns true and the tree reads as it did. No condition beyond the given card's own. -/
import Derived.Test.YtboojhadfhpdeaaGreatDoorVz2
import Derived.Test.YtboojhadfhpdeaaGreatDoorVz4
import Derived.Test.YtboojhadfhpdeaaGreatDoorVz5
import Derived.Test.YtboojhadfhpdeaaGreatDoorVz8
import Derived.Test.YtboojhadfhpdeaaGreatDoorVz9
namespace Go.Proofs.YtboojhadfhpdeaaGreatDoor.Q
open Go.RowKit Go.Proofs.YtboojhadfhpdeaaGreatDoorW.PrintWords Go.Proofs.YtboojhadfhpdeaaGreatDoorW.PrintLast Go.Proofs.YtboojhadfhpdeaaGreatDoorW.PrintMore
set_option linter.unusedVariables false
set_option linter.unusedSimpArgs false
theorem put.after (p q : Nat) (ss : List ByteArray) (l : List Int) (c : Nat) (w0 wk W : World) (hW : Below w0.heap.size w0 wk) (hP : PB w0.heap.size p l wk) (hb : Below wk.heap.size wk W) (hq : wk.heap.size ≤ q) (hS : W.heap[q]? = some (.cells (ss.map Value.string).toArray 9 (0, 0))) (hl : l.length ≤ 1000) (hs : (ss.flatMap bytesOf).length ≤ 1000) (hn : ss.length ≤ 1000) :
 Calls Tryz.prog 54 #[.pointer (some ⟨p, 0, none⟩), .slice (some ⟨q, 0, none⟩) ss.length c] W (PrP w0.heap.size p w0 (l ++ ss.flatMap bytesOf) (.tuple #[]) W) := by
 obtain ⟨v, h1, _⟩ := hP.ex
 refine (put.calls w0.heap.size p q ss l c w0 W (below_then hW (Nat.le_trans hW.size (Nat.le_refl _)) hb) (hP.below hb) (fun e => by have := blk_lt h1; omega) hS (by omega) hn).mono ?_
 rintro e w' ⟨rfl, h2, h3, h4⟩
 exact ⟨rfl, h2, h3, h4⟩
theorem dec_one : (Lib.decDigits 1).toArray = #[49] := by kernel_rfl
theorem blk_new1 (w : World) (o o' : Obj) : ((w.alloc o).alloc o').heap[w.heap.size + 1]? = some o' := by
 have h := blk_new (w.alloc o) o'
 rwa [show (w.alloc o).heap.size = w.heap.size + 1 from by simp] at h
set_option maxHeartbeats 8000000 in
set_option maxRecDepth 100000 in
theorem FormatUint.one (w : World) : Calls Tryz.prog 125 #[.int .u64 1, .int .i64 10] w fun e w' => e = .returned (.string ⟨#[49]⟩) ∧ w' = w := by
 have HI : Calls Tryz.prog 135 #[.int .u64 1, .int .i64 10] w fun e w' => e = .returned (.string ⟨#[49]⟩) ∧ w' = w := by
  go_enter Tryz.func135, Tryz.ntmps135
  go_wp2_with (first
   | (go_at_call 140; ((refine (Tryz.internal_strconv_small 1 (by decide) _).mono ?_); rintro e w1 ⟨rfl, rfl⟩))
   | fail)
  go_ret
  exact ⟨congrArg (fun x => Ending.returned (.string ⟨x⟩)) dec_one, rfl⟩
 have HI2 := Aside0.mk HI
 clear HI
 go_enter Tryz.func125, Tryz.ntmps125
 go_wp2_with (first
  | (go_at_call 135; (refine HI2.out.mono ?_); rintro e w1 ⟨rfl, rfl⟩)
  | fail)
 go_ret
 exact ⟨rfl, rfl⟩
set_option maxHeartbeats 8000000 in
set_option maxRecDepth 100000 in
theorem simple.num (p : Nat) (l : List Int) (A : Option Addr) (c : Nat) (w0 w : World) (hW : Below w0.heap.size w0 w) (hP : PB w0.heap.size p l w) (hl : l.length ≤ 500) : Calls Tryz.prog 115 #[.pointer (some ⟨p, 0, none⟩), .agg #[.int .i64 1, .string ⟨#[]⟩, .int .u32 1, .bool false, .slice A 0 c, .int .i64 0]] w (PrP w0.heap.size p w0 (l ++ [49]) (.bool true) w) := by
 have HB := Aside0.mk (below_alloc (Below.refl w.heap.size w) (.cells #[.int .i64 1, .string ⟨#[]⟩, .int .u32 1, .bool false, .slice A 0 c, .int .i64 0] 25 (0, 0)))
 have HW := Aside0.mk hW
 have HP := Aside0.mk hP
 have HL := Aside0.mk hl
 have HNE := Aside0.mk (show w.heap.size ≠ p from fun e => by obtain ⟨v, h1, _⟩ := hP.ex; have := blk_lt h1; omega)
 clear hW hP hl
 go_enter Tryz.func115, Tryz.ntmps115
 go_wp2_with (first
  | (go_at_call 125; (refine (FormatUint.one _).mono ?_); rintro e w1 ⟨rfl, rfl⟩)
  | (go_at_call 54; ((refine (put.after p _ [⟨#[49]⟩] l _ w0 w _ HW.out HP.out (below_alloc HB.out _) (Nat.le_succ _) (blk_new1 _ _ _) (by have := HL.out; omega) (by decide) (by decide)).mono ?_)); rintro e w2 ⟨rfl, hP, hW, hF⟩; have HP2 := Aside0.mk hP; have HW2 := Aside0.mk hW; have HF2 := Aside0.mk ((Fr.of_below (below_alloc HB.out _)).trans hF); have HX_w2 : NB w2 w.heap.size nNum A c := hF.keep _ 25 _ (blk_alloc (blk_new w _) _) HNE.out (by decide); obtain ⟨c0, c1, c2, c3, c4, c5⟩ := HX_w2.cells; have HXA_w2 := Aside0.mk HX_w2; dsimp only [nNum, List.length_cons, List.length_nil] at c0 c1 c2 c3 c4 c5; clear HX_w2; clear hP hW hF)
  | fail)
 go_ret
 exact ⟨rfl, HP2.out, HW2.out, HF2.out⟩
end Go.Proofs.YtboojhadfhpdeaaGreatDoor.Q
namespace Go.Proofs.YtboojhadfhpdeaaGreatDoor.Q
open Go.RowKit Go.Proofs.YtboojhadfhpdeaaGreatDoorW.PrintWords Go.Proofs.YtboojhadfhpdeaaGreatDoorW.PrintLast Go.Proofs.YtboojhadfhpdeaaGreatDoorW.PrintMore
set_option linter.unusedVariables false
set_option linter.unusedSimpArgs false
set_option maxHeartbeats 8000000 in
set_option maxRecDepth 100000 in
theorem expression_p.num (p : Nat) (l : List Int) (A : Option Addr) (c : Nat) (w0 w : World) (hW : Below w0.heap.size w0 w) (hP : PB w0.heap.size p l w) (hl : l.length ≤ 500) : Calls Tryz.prog 100 #[.pointer (some ⟨p, 0, none⟩), .agg #[.int .i64 1, .string ⟨#[]⟩, .int .u32 1, .bool false, .slice A 0 c, .int .i64 0]] w (PrP w0.heap.size p w0 (l ++ [49]) (.tuple #[]) w) := by
 have HB := Aside0.mk (below_alloc (Below.refl w.heap.size w) (.cells #[.int .i64 1, .string ⟨#[]⟩, .int .u32 1, .bool false, .slice A 0 c, .int .i64 0] 25 (0, 0)))
 have HW := Aside0.mk hW
 have HP := Aside0.mk hP
 have HL := Aside0.mk hl
 have HNE := Aside0.mk (show w.heap.size ≠ p from fun e => by obtain ⟨v, h1, _⟩ := hP.ex; have := blk_lt h1; omega)
 have HWB := Aside0.mk (below_then hW hW.size HB.out)
 have HPB := Aside0.mk (hP.below HB.out)
 clear hW hP hl
 go_enter Tryz.func100, Tryz.ntmps100
 go_wp2_with (first
  | (go_at_call 115; ((refine (simple.num p l A c w0 _ HWB.out HPB.out HL.out).mono ?_)); rintro e w2 ⟨rfl, hP, hW, hF⟩; have HP2 := Aside0.mk hP; have HW2 := Aside0.mk hW; have HF2 := Aside0.mk ((Fr.of_below HB.out).trans hF); have HX_w2 : NB w2 w.heap.size nNum A c := hF.keep _ 25 _ (blk_new w _) HNE.out (by decide); obtain ⟨c0, c1, c2, c3, c4, c5⟩ := HX_w2.cells; have HXA_w2 := Aside0.mk HX_w2; dsimp only [nNum, List.length_cons, List.length_nil] at c0 c1 c2 c3 c4 c5; clear HX_w2; clear hP hW hF)
  | fail)
 first | go_end0 | (refine bodyPost_ret (results_none rfl _ _ _) rfl ?_)
 exact ⟨rfl, HP2.out, HW2.out, HF2.out⟩
set_option maxHeartbeats 8000000 in
set_option maxRecDepth 100000 in
theorem at_p.num (p : Nat) (l : List Int) (A : Option Addr) (c : Nat) (w0 w : World) (hW : Below w0.heap.size w0 w) (hP : PB w0.heap.size p l w) (hG : PremW w) (hn : ND w nNum A c) (hl : l.length ≤ 500) : Calls Tryz.prog 85 #[.pointer (some ⟨p, 0, none⟩), .agg #[.int .i64 1, .string ⟨#[]⟩, .int .u32 1, .bool false, .slice A 0 c, .int .i64 0], .int .i64 0] w (PrP w0.heap.size p w0 (l ++ [49]) (.tuple #[]) w) := by
 have HB := Aside0.mk (below_alloc (Below.refl w.heap.size w) (.cells #[.int .i64 1, .string ⟨#[]⟩, .int .u32 1, .bool false, .slice A 0 c, .int .i64 0] 25 (0, 0)))
 have HW := Aside0.mk hW
 have HP := Aside0.mk hP
 have HL := Aside0.mk hl
 have HNE := Aside0.mk (show w.heap.size ≠ p from fun e => by obtain ⟨v, h1, _⟩ := hP.ex; have := blk_lt h1; omega)
 have HWB := Aside0.mk (below_then hW hW.size HB.out)
 have HPB := Aside0.mk (hP.below HB.out)
 clear hW hP hl
 have HG := Aside0.mk (hG.below HB.out)
 have HN := Aside0.mk (hn.below HB.out)
 clear hG hn
 go_enter Tryz.func85, Tryz.ntmps85
 go_wp2_with (first
  | (go_at_call 99; ((refine (ast_level.calls 100 1 ⟨#[]⟩ 1 false A c [] 0 13 _ HN.out.C (Nat.zero_le _) HG.out (by kernel_rfl)).mono ?_); rintro e w1 ⟨rfl, hB⟩); have HB1 := Aside0.mk hB; (have HX_w1 : NB w1 w.heap.size nNum A c := NB.below (blk_new w _) hB); obtain ⟨c0, c1, c2, c3, c4, c5⟩ := HX_w1.cells; have HXA_w1 := Aside0.mk HX_w1; dsimp only [nNum, List.length_cons, List.length_nil] at c0 c1 c2 c3 c4 c5; clear HX_w1; clear hB)
  | (go_at_call 100; ((refine (expression_p.num p l A c w0 _ (below_then HWB.out HWB.out.size HB1.out) (HPB.out.below HB1.out) HL.out).mono ?_)); rintro e w2 ⟨rfl, hP, hW, hF⟩; have HP2 := Aside0.mk hP; have HW2 := Aside0.mk hW; have HF2 := Aside0.mk ((Fr.of_below (below_step HB.out HB1.out)).trans hF);  clear hP hW hF)
  | fail)
 first | go_end0 | (refine bodyPost_ret (results_none rfl _ _ _) rfl ?_)
 exact ⟨rfl, HP2.out, HW2.out, HF2.out⟩
set_option maxHeartbeats 8000000 in
set_option maxRecDepth 100000 in
theorem variable_p.var (p : Nat) (l : List Int) (A : Option Addr) (c : Nat) (w0 w : World) (hW : Below w0.heap.size w0 w) (hP : PB w0.heap.size p l w) (hG : PremW w0) (hn : ND w0 nVar A c) (hl : l.length ≤ 400) : Calls Tryz.prog 57 #[.pointer (some ⟨p, 0, none⟩), .agg #[.int .i64 43, .string ⟨#[120]⟩, .int .u32 0, .bool false, .slice A 1 c, .int .i64 0]] w (PrP w0.heap.size p w0 (l ++ [120, 32, 61, 32, 49]) (.tuple #[]) w) := by
 obtain ⟨ad, A', c', rfl, hk, k0, k1, k2, k3, k4, k5⟩ := node_at hn.C 0 (by decide)
 rw [Nat.zero_mul, add_zero_] at k0 k1 k2 k3 k4 k5
 have k0 : w0.cell? ad = some (.int .i64 1) := k0
 have k1 : w0.cell? ⟨ad.block, ad.off + 1, none⟩ = some (.string ⟨#[]⟩) := k1
 have k2 : w0.cell? ⟨ad.block, ad.off + 2, none⟩ = some (.int .u32 1) := k2
 have k3 : w0.cell? ⟨ad.block, ad.off + 3, none⟩ = some (.bool false) := k3
 have k4 : w0.cell? ⟨ad.block, ad.off + 4, none⟩ = some (.slice A' 0 c') := k4
 have k5 : w0.cell? ⟨ad.block, ad.off + 5, none⟩ = some (.int .i64 0) := k5
 have HK := Aside0.mk (And.intro k0 (And.intro k1 (And.intro k2 (And.intro k3 (And.intro k4 k5)))))
 have HKN := Aside0.mk (show ND w0 nNum A' c' from hk)
 clear k0 k1 k2 k3 k4 k5 hk
 have HB := Aside0.mk (below_alloc (Below.refl w.heap.size w) (.cells #[.int .i64 43, .string ⟨#[120]⟩, .int .u32 0, .bool false, .slice (some ad) 1 c, .int .i64 0] 25 (0, 0)))
 have HW := Aside0.mk hW
 have HP := Aside0.mk hP
 have HL := Aside0.mk hl
 have HNE := Aside0.mk (show w.heap.size ≠ p from fun e => by obtain ⟨v, h1, _⟩ := hP.ex; have := blk_lt h1; omega)
 have HWB := Aside0.mk (below_then hW hW.size HB.out)
 have HPB := Aside0.mk (hP.below HB.out)
 clear hW hP hl
 have HG := Aside0.mk hG
 clear hG hn
 go_enter Tryz.func57, Tryz.ntmps57
 go_wp2_with (first
  | (go_at_call 85; ((refine (at_p.num p (l ++ [120] ++ [32, 61, 32]) A' c' w0 _ HW3.out HP3.out (HG.out.below HW3.out) (HKN.out.below HW3.out) (by have := HL.out; simp only [List.length_append, List.length_cons, List.length_nil]; omega)).mono ?_)); rintro e w4 ⟨rfl, hP, hW, hF⟩; have HP4 := Aside0.mk hP; have HW4 := Aside0.mk hW; have HF4 := Aside0.mk (HF3.out.trans hF);  clear hP hW hF)
  | (go_at_call 54; ((refine (put.after p _ [⟨#[32, 61, 32]⟩] (l ++ [120]) _ w0 w2 _ HW2.out HP2.out (below_alloc (Below.refl _ _) _) (Nat.le_refl _) (blk_new _ _) (by have := HL.out; simp only [List.length_append, List.length_cons, List.length_nil]; omega) (by decide) (by decide)).mono ?_)); rintro e w3 ⟨rfl, hP, hW, hF⟩; have HP3 := Aside0.mk hP; have HW3 := Aside0.mk hW; have HF3 := Aside0.mk (HF2.out.trans ((Fr.of_below (below_alloc (Below.refl _ _) _)).trans hF));  clear hP hW hF; obtain ⟨k0, k1, k2, k3, k4, k5⟩ := HK.out; have k0 := pw_cell_below HW3.out k0; have k1 := pw_cell_below HW3.out k1; have k2 := pw_cell_below HW3.out k2; have k3 := pw_cell_below HW3.out k3; have k4 := pw_cell_below HW3.out k4; have k5 := pw_cell_below HW3.out k5; )
  | (go_at_call 54; ((refine (put.after p _ [⟨#[120]⟩] l _ w0 w _ HW.out HP.out (below_alloc HB.out _) (Nat.le_succ _) (blk_new1 _ _ _) (by have := HL.out; omega) (by decide) (by decide)).mono ?_)); rintro e w2 ⟨rfl, hP, hW, hF⟩; have HP2 := Aside0.mk hP; have HW2 := Aside0.mk hW; have HF2 := Aside0.mk ((Fr.of_below (below_alloc HB.out _)).trans hF); have HX_w2 : NB w2 w.heap.size nVar (some ad) c := hF.keep _ 25 _ (blk_alloc (blk_new w _) _) HNE.out (by decide); obtain ⟨c0, c1, c2, c3, c4, c5⟩ := HX_w2.cells; have HXA_w2 := Aside0.mk HX_w2; dsimp only [nVar, List.length_cons, List.length_nil] at c0 c1 c2 c3 c4 c5; clear HX_w2; clear hP hW hF)
  | fail)
 first | go_end0 | (refine bodyPost_ret (results_none rfl _ _ _) rfl ?_)
 exact ⟨rfl, by have h := HP4.out; simp only [List.append_assoc, List.cons_append, List.nil_append] at h; exact h, HW4.out, HF4.out⟩
end Go.Proofs.YtboojhadfhpdeaaGreatDoor.Q
namespace Go.Proofs.YtboojhadfhpdeaaGreatDoor.Q
open Go.RowKit Go.Proofs.YtboojhadfhpdeaaGreatDoorW.PrintWords Go.Proofs.YtboojhadfhpdeaaGreatDoorW.PrintLast Go.Proofs.YtboojhadfhpdeaaGreatDoorW.PrintMore
set_option linter.unusedVariables false
set_option linter.unusedSimpArgs false
abbrev zero25 : Array Value := #[.int .i64 0, .string ⟨#[]⟩, .int .u32 0, .bool false, .slice none 0 0, .int .i64 0]
section
variable {ops : Array Oper} {rest : List Oper} {o : Oper} {a : Act} {Q : Exit → Act → World → Prop} {W : World}
theorem ev_alloc25 (hgd : o.guard = none) {N : Tmp} (_hd : o.dst = some N) (ho : o.op = .alloc 25)
 (K : ∀ g w', g = W.heap.size → w'.heap[g]? = some (.cells zero25 25 (0, 0)) → Below W.heap.size W w' → wpList Tryz.prog ops Q rest (a.put o.dst (.pointer (some ⟨g, 0, none⟩))) w') : wpList Tryz.prog ops Q (o :: rest) a W := by
 refine box_event hgd _hd (cs := zero25) (t := 25) ?_ (fun g hg w1 h1 h2 => K g w1 hg h1 h2)
 simp only [execOp, ho]
 go_simp
 try rfl
theorem ev_store25k (hgd : o.guard = none) (hN : o.dst = none) {n : Tmp} {v : Operand} (ho : o.op = .store 25 (.tmp n) v) {x : S25} {A : Option Addr} {c g : Nat} (hx : a.eval v = val x A c) (hg : a.eval (.tmp n) = .pointer (some ⟨g, 0, none⟩)) (hc : W.heap[g]? = some (.cells zero25 25 (0, 0)))
 (K : ∀ w', NB w' g x A c → Below g W w' → (∀ k, k ≠ g → w'.heap[k]? = W.heap[k]?) → wpList Tryz.prog ops Q rest a w') : wpList Tryz.prog ops Q (o :: rest) a W := by
 have h0 := (blk_cell hc 0).trans (show zero25[0]? = some (.int .i64 0) from rfl)
 have h1 := (blk_cell hc 1).trans (show zero25[1]? = some (.string ⟨#[]⟩) from rfl)
 have h2 := (blk_cell hc 2).trans (show zero25[2]? = some (.int .u32 0) from rfl)
 have h3 := (blk_cell hc 3).trans (show zero25[3]? = some (.bool false) from rfl)
 have h4 := (blk_cell hc 4).trans (show zero25[4]? = some (.slice none 0 0) from rfl)
 have h5 := (blk_cell hc 5).trans (show zero25[5]? = some (.int .i64 0) from rfl)
 have f0 := blk_frozen hc 0
 have f1 := blk_frozen hc 1
 have f2 := blk_frozen hc 2
 have f3 := blk_frozen hc 3
 have f4 := blk_frozen hc 4
 have f5 := blk_frozen hc 5
 refine store_event (t := 25) (p := n) (v := v) (w1 := ((((((W.setCell ⟨g, 0, none⟩ (.int .i64 x.f0)).setCell ⟨g, 1, none⟩ (.string x.f1)).setCell ⟨g, 2, none⟩ (.int .u32 x.f2)).setCell ⟨g, 3, none⟩ (.bool x.f3)).setCell ⟨g, 4, none⟩ (.slice A x.f4.length c)).setCell ⟨g, 5, none⟩ (.int .i64 x.f5))) hgd ho hN ?hr (fun w' hw => ?_)
 case hr =>
  simp only [execOp, ho, hx, hg]
  first | (go_simp; done) | (go_simp; rfl)
 · subst hw
   refine K _ ?_ ?_ (fun k hk => ?_)
   · exact (blk_set (blk_set (blk_set (blk_set (blk_set (blk_set hc 0 _) 1 _) 2 _) 3 _) 4 _) 5 _)
   · exact ((((((Below.refl g W).setCell (Nat.le_refl g) _).setCell (Nat.le_refl g) _).setCell (Nat.le_refl g) _).setCell (Nat.le_refl g) _).setCell (Nat.le_refl g) _).setCell (Nat.le_refl g) _
   · rw [Below.heap_setCell _ _ _ k hk, Below.heap_setCell _ _ _ k hk, Below.heap_setCell _ _ _ k hk, Below.heap_setCell _ _ _ k hk, Below.heap_setCell _ _ _ k hk, Below.heap_setCell _ _ _ k hk]
theorem ev_store25 (hgd : o.guard = none) (hN : o.dst = none) {n : Tmp} {v : Operand} (ho : o.op = .store 25 (.tmp n) v) {x : S25} {A : Option Addr} {c g : Nat} (hx : a.eval v = val x A c) (hg : a.eval (.tmp n) = .pointer (some ⟨g, 0, none⟩)) (hc : W.heap[g]? = some (.cells zero25 25 (0, 0)))
 (K : ∀ w', NB w' g x A c → Below g W w' → wpList Tryz.prog ops Q rest a w') : wpList Tryz.prog ops Q (o :: rest) a W :=
 ev_store25k hgd hN ho hx hg hc (fun w' h1 h2 _ => K w' h1 h2)
end
end Go.Proofs.YtboojhadfhpdeaaGreatDoor.Q
namespace Go.Proofs.YtboojhadfhpdeaaGreatDoor.Q
open Go.RowKit Go.Proofs.YtboojhadfhpdeaaGreatDoorW.PrintWords Go.Proofs.YtboojhadfhpdeaaGreatDoorW.PrintLast Go.Proofs.YtboojhadfhpdeaaGreatDoorW.PrintMore
set_option linter.unusedVariables false
set_option linter.unusedSimpArgs false
set_option maxHeartbeats 8000000 in
set_option maxRecDepth 100000 in
theorem line_p.vars (p : Nat) (l : List Int) (A : Option Addr) (c : Nat) (w0 w : World) (hW : Below w0.heap.size w0 w) (hP : PB w0.heap.size p l w) (hG : PremW w0) (hn : ND w0 nVars A c) (hl : l.length ≤ 300) : Calls Tryz.prog 38 #[.pointer (some ⟨p, 0, none⟩), .agg #[.int .i64 42, .string ⟨#[]⟩, .int .u32 0, .bool false, .slice A 2 c, .int .i64 0]] w (PrP w0.heap.size p w0 (l ++ [105, 110, 116, 32, 120, 32, 61, 32, 49, 59, 10]) (.tuple #[]) w) := by
 have hle : 2 ≤ c := hn.le
 obtain ⟨ad, A', c', rfl, _, _, t1, _⟩ := node_at hn.C 0 (by decide)
 rw [Nat.zero_mul, add_zero_] at t1
 have t1 : w0.cell? ⟨ad.block, ad.off + 1, none⟩ = some (.string ⟨#[105, 110, 116]⟩) := t1
 have HT := Aside0.mk t1
 clear t1
 obtain ⟨ad2, A2, c2, e2, hk, k0, k1, k2, k3, k4, k5⟩ := node_at hn.C 1 (by decide)
 obtain rfl : ad = ad2 := Option.some.inj e2
 have k0 : w0.cell? ⟨ad.block, ad.off + 6, none⟩ = some (.int .i64 43) := k0
 have k1 : w0.cell? ⟨ad.block, ad.off + 7, none⟩ = some (.string ⟨#[120]⟩) := k1
 have k2 : w0.cell? ⟨ad.block, ad.off + 8, none⟩ = some (.int .u32 0) := k2
 have k3 : w0.cell? ⟨ad.block, ad.off + 9, none⟩ = some (.bool false) := k3
 have k4 : w0.cell? ⟨ad.block, ad.off + 10, none⟩ = some (.slice A2 1 c2) := k4
 have k5 : w0.cell? ⟨ad.block, ad.off + 11, none⟩ = some (.int .i64 0) := k5
 have HK := Aside0.mk (And.intro k0 (And.intro k1 (And.intro k2 (And.intro k3 (And.intro k4 k5)))))
 have HKN := Aside0.mk (show ND w0 nVar A2 c2 from hk)
 clear k0 k1 k2 k3 k4 k5 hk e2
 have HB := Aside0.mk (below_alloc (Below.refl w.heap.size w) (.cells #[.int .i64 42, .string ⟨#[]⟩, .int .u32 0, .bool false, .slice (some ad) 2 c, .int .i64 0] 25 (0, 0)))
 have HW := Aside0.mk hW
 have HP := Aside0.mk hP
 have HL := Aside0.mk hl
 have HNE := Aside0.mk (show w.heap.size ≠ p from fun e => by obtain ⟨v, h1, _⟩ := hP.ex; have := blk_lt h1; omega)
 have HWB := Aside0.mk (below_then hW hW.size HB.out)
 have HPB := Aside0.mk (hP.below HB.out)
 clear hW hP hl
 have HG := Aside0.mk hG
 have HLE := Aside0.mk hle
 have t1 := pw_cell_below HWB.out HT.out
 clear hG hn hle
 go_enter Tryz.func38, Tryz.ntmps38
 go_wp2_with (first
  | (go_at_call 54; ((refine (put.after p _ [⟨#[105, 110, 116]⟩, ⟨#[32]⟩] l _ w0 w _ HW.out HP.out (below_alloc HB.out _) (Nat.le_succ _) (blk_new1 _ _ _) (by have := HL.out; omega) (by decide) (by decide)).mono ?_)); rintro e w2 ⟨rfl, hP, hW, hF⟩; have HP2 := Aside0.mk hP; have HW2 := Aside0.mk hW; have HF2 := Aside0.mk ((Fr.of_below (below_alloc HB.out _)).trans hF); have HX_w2 : NB w2 w.heap.size nVars (some ad) c := hF.keep _ 25 _ (blk_alloc (blk_new w _) _) HNE.out (by decide); obtain ⟨c0, c1, c2, c3, c4, c5⟩ := HX_w2.cells; have HXA_w2 := Aside0.mk HX_w2; dsimp only [nVars, List.length_cons, List.length_nil] at c0 c1 c2 c3 c4 c5; clear HX_w2; clear hP hW hF; have hc1 : ¬ c = 1 := by have := HLE.out; omega)
  | fail)
 go_loopg [102] 1 (fun kq v w' => ∃ i : Nat, v = .int .i64 i ∧ Aside0 (i + kq = 1) ∧ Aside0 (PB w0.heap.size p (l ++ (if i = 0 then [105, 110, 116, 32] else [105, 110, 116, 32, 120, 32, 61, 32, 49])) w') ∧ Aside0 (Below w0.heap.size w0 w') ∧ Aside0 (Fr p w2 w'))
 case atStart => exact ⟨0, rfl, ⟨by omega⟩, ⟨HP2.out⟩, HW2, ⟨Fr.refl _ _⟩⟩
 case round =>
  obtain ⟨i, rfl, HI, HPi, HWi, HFi⟩ := hrel
  by_cases hi : i < 1
  · obtain rfl : i = 0 := by omega
    have e1n : decide ((0 : Nat) < 1) = true := rfl
    have HIK := Aside0.mk HI.out
    clear hi
    obtain ⟨k0, k1, k2, k3, k4, k5⟩ := HK.out; have k0 := pw_cell_below HWi.out k0; have k1 := pw_cell_below HWi.out k1; have k2 := pw_cell_below HWi.out k2; have k3 := pw_cell_below HWi.out k3; have k4 := pw_cell_below HWi.out k4; have k5 := pw_cell_below HWi.out k5;
    clear c0 c1 c2 c3 c4 c5 t1
    go_wp2_with (first
     | (go_at_call 57; ((refine (variable_p.var p (l ++ [105, 110, 116, 32]) A2 c2 w0 wb (below_then HWi.out HWi.out.size HBb.out) (HPi.out.below HBb.out) HG.out HKN.out (by have := HL.out; simp only [List.length_append, List.length_cons, List.length_nil]; omega)).mono ?_)); rintro e w5 ⟨rfl, hP, hW, hF⟩; have HP5 := Aside0.mk hP; have HW5 := Aside0.mk hW; have HF5 := Aside0.mk (HFi.out.trans ((Fr.of_below HBb.out).trans hF));  clear hP hW hF)
     | (with_reducible refine ev_alloc25 rfl rfl rfl ?_; rintro g wa hg hz hB; have HBa := Aside0.mk hB; have HZ := Aside0.mk hz; have HGe := Aside0.mk hg; clear hg hz hB)
     | (refine ev_store25 rfl rfl rfl (x := nVar) (A := A2) (c := c2) rfl rfl HZ.out ?_; rintro wb hN hB; obtain ⟨b0, b1, b2, b3, b4, b5⟩ := hN.cells; have HBb := Aside0.mk (HBa.out.trans (hB.mono (Nat.le_of_eq HGe.out.symm))); have HNb := Aside0.mk hN; clear hN hB)
     | fail)
    go_roundg 0
    case measure => have := HIK.out; omega
    case rel => exact ⟨1, rfl, ⟨rfl⟩, ⟨by have h := HP5.out; simp only [List.append_assoc, List.cons_append, List.nil_append] at h; exact h⟩, HW5, HF5⟩
  · obtain rfl : i = 1 := by have := HI.out; omega
    have HIK := Aside0.mk HI.out
    clear hi
    go_wp2_with (first
     | (go_at_call 54; ((refine (put.after p _ [⟨#[10]⟩] (l ++ [105, 110, 116, 32, 120, 32, 61, 32, 49] ++ [59]) _ w0 w6 _ HW6.out HP6.out (below_alloc (Below.refl _ _) _) (Nat.le_refl _) (blk_new _ _) (by have := HL.out; simp only [List.length_append, List.length_cons, List.length_nil]; omega) (by decide) (by decide)).mono ?_)); rintro e w7 ⟨rfl, hP, hW, hF⟩; have HP7 := Aside0.mk hP; have HW7 := Aside0.mk hW; have HF7 := Aside0.mk (HF6.out.trans ((Fr.of_below (below_alloc (Below.refl _ _) _)).trans hF));  clear hP hW hF)
     | (go_at_call 54; ((refine (put.after p _ [⟨#[59]⟩] (l ++ [105, 110, 116, 32, 120, 32, 61, 32, 49]) _ w0 _ _ HWi.out HPi.out (below_alloc (Below.refl _ _) _) (Nat.le_refl _) (blk_new _ _) (by have := HL.out; simp only [List.length_append, List.length_cons, List.length_nil]; omega) (by decide) (by decide)).mono ?_)); rintro e w6 ⟨rfl, hP, hW, hF⟩; have HP6 := Aside0.mk hP; have HW6 := Aside0.mk hW; have HF6 := Aside0.mk (HF2.out.trans (HFi.out.trans ((Fr.of_below (below_alloc (Below.refl _ _) _)).trans hF)));  clear hP hW hF)
     | fail)
    first | go_end0 | (refine bodyPost_ret (results_none rfl _ _ _) rfl ?_)
    exact ⟨rfl, by have h := HP7.out; simp only [List.append_assoc, List.cons_append, List.nil_append] at h; exact h, HW7.out, HF7.out⟩
end Go.Proofs.YtboojhadfhpdeaaGreatDoor.Q
namespace Go.Proofs.YtboojhadfhpdeaaGreatDoor.Q
open Go.RowKit Go.Proofs.YtboojhadfhpdeaaGreatDoorW.PrintWords Go.Proofs.YtboojhadfhpdeaaGreatDoorW.PrintLast Go.Proofs.YtboojhadfhpdeaaGreatDoorW.PrintMore
set_option linter.unusedVariables false
set_option linter.unusedSimpArgs false
set_option maxHeartbeats 8000000 in
set_option maxRecDepth 100000 in
theorem all_p.prog (p : Nat) (l : List Int) (A : Option Addr) (c : Nat) (w0 w : World) (hW : Below w0.heap.size w0 w) (hP : PB w0.heap.size p l w) (hG : PremW w0) (hn : ND w0 nProg A c) (hl : l.length ≤ 200) :
 Calls Tryz.prog 26 #[.pointer (some ⟨p, 0, none⟩), .slice A 1 c] w (PrP w0.heap.size p w0 (l ++ [105, 110, 116, 32, 120, 32, 61, 32, 49, 59, 10]) (.tuple #[]) w) := by
 obtain ⟨ad, A2, c2, rfl, hk, k0, k1, k2, k3, k4, k5⟩ := node_at hn.C 0 (by decide)
 rw [Nat.zero_mul, add_zero_] at k0 k1 k2 k3 k4 k5
 have k0 : w0.cell? ad = some (.int .i64 42) := k0
 have k1 : w0.cell? ⟨ad.block, ad.off + 1, none⟩ = some (.string ⟨#[]⟩) := k1
 have k2 : w0.cell? ⟨ad.block, ad.off + 2, none⟩ = some (.int .u32 0) := k2
 have k3 : w0.cell? ⟨ad.block, ad.off + 3, none⟩ = some (.bool false) := k3
 have k4 : w0.cell? ⟨ad.block, ad.off + 4, none⟩ = some (.slice A2 2 c2) := k4
 have k5 : w0.cell? ⟨ad.block, ad.off + 5, none⟩ = some (.int .i64 0) := k5
 have HK := Aside0.mk (And.intro k0 (And.intro k1 (And.intro k2 (And.intro k3 (And.intro k4 k5)))))
 have HKN := Aside0.mk (show ND w0 nVars A2 c2 from hk)
 clear k0 k1 k2 k3 k4 k5 hk
 have HW := Aside0.mk hW
 have HP := Aside0.mk hP
 have HL := Aside0.mk hl
 have HG := Aside0.mk hG
 clear hW hP hl hG hn
 go_enter Tryz.func26, Tryz.ntmps26
 go_wp2
 go_loopg [8] 1 (fun kq v w' => ∃ i : Nat, v = .int .i64 i ∧ Aside0 (i + kq = 1) ∧ Aside0 (PB w0.heap.size p (l ++ (if i = 0 then [] else [105, 110, 116, 32, 120, 32, 61, 32, 49, 59, 10])) w') ∧ Aside0 (Below w0.heap.size w0 w') ∧ Aside0 (Fr p w w'))
 case atStart => exact ⟨0, rfl, ⟨by omega⟩, ⟨by simpa using HP.out⟩, HW, ⟨Fr.refl _ _⟩⟩
 case round =>
  obtain ⟨i, rfl, HI, HPi, HWi, HFi⟩ := hrel
  by_cases hi : i < 1
  · obtain rfl : i = 0 := by omega
    have e1n : decide ((0 : Nat) < 1) = true := rfl
    have HIK := Aside0.mk HI.out
    have HPz := Aside0.mk (show PB w0.heap.size p l _ from by simpa using HPi.out)
    clear hi
    obtain ⟨k0, k1, k2, k3, k4, k5⟩ := HK.out; have k0 := pw_cell_below HWi.out k0; have k1 := pw_cell_below HWi.out k1; have k2 := pw_cell_below HWi.out k2; have k3 := pw_cell_below HWi.out k3; have k4 := pw_cell_below HWi.out k4; have k5 := pw_cell_below HWi.out k5;
    go_wp2_with (first
     | (go_at_call 38; ((refine (line_p.vars p l A2 c2 w0 wb (below_then HWi.out HWi.out.size HBb.out) (HPz.out.below HBb.out) HG.out HKN.out (by have := HL.out; omega)).mono ?_)); rintro e w5 ⟨rfl, hP, hW, hF⟩; have HP5 := Aside0.mk hP; have HW5 := Aside0.mk hW; have HF5 := Aside0.mk (HFi.out.trans ((Fr.of_below HBb.out).trans hF));  clear hP hW hF)
     | (with_reducible refine ev_alloc25 rfl rfl rfl ?_; rintro g wa hg hz hB; have HBa := Aside0.mk hB; have HZ := Aside0.mk hz; have HGe := Aside0.mk hg; clear hg hz hB)
     | (refine ev_store25 rfl rfl rfl (x := nVars) (A := A2) (c := c2) rfl rfl HZ.out ?_; rintro wb hN hB; obtain ⟨b0, b1, b2, b3, b4, b5⟩ := hN.cells; have HBb := Aside0.mk (HBa.out.trans (hB.mono (Nat.le_of_eq HGe.out.symm))); have HNb := Aside0.mk hN; clear hN hB)
     | fail)
    go_roundg 0
    case measure => have := HIK.out; omega
    case rel => exact ⟨1, rfl, ⟨rfl⟩, ⟨HP5.out⟩, HW5, HF5⟩
  · obtain rfl : i = 1 := by have := HI.out; omega
    have HIK := Aside0.mk HI.out
    clear hi
    go_wp2
    first | go_end0 | (refine bodyPost_ret (results_none rfl _ _ _) rfl ?_)
    exact ⟨rfl, HPi.out, HWi.out, HFi.out⟩
def CheckP (w : World) (e : Ending) (w' : World) : Prop := e = .returned (.int .i64 0) ∧ Below w.heap.size w w'
set_option maxHeartbeats 8000000 in
set_option maxRecDepth 100000 in
theorem Size.prog (A : Option Addr) (c : Nat) (w : World) (hn : ND w nProg A c) : Calls Tryz.prog 16 #[.agg #[.int .i64 40, .string ⟨#[]⟩, .int .u32 0, .bool false, .slice A 1 c, .int .i64 0]] w (fun e w' => e = .returned (.int .i64 5) ∧ Below w.heap.size w w') :=
 ast_Size.calls 100 40 ⟨#[]⟩ 0 false A c [nVars] 0 5 w hn.C hn.le (by kernel_rfl)
set_option maxHeartbeats 8000000 in
set_option maxRecDepth 100000 in
theorem Check.prog (A : Option Addr) (c : Nat) (w : World) (hG : PremW w) (hn : ND w nProg A c) : Calls Tryz.prog 8 #[.agg #[.int .i64 40, .string ⟨#[]⟩, .int .u32 0, .bool false, .slice A 1 c, .int .i64 0]] w (CheckP w) := by
 have HB := Aside0.mk (below_alloc (Below.refl w.heap.size w) (.cells #[.int .i64 40, .string ⟨#[]⟩, .int .u32 0, .bool false, .slice A 1 c, .int .i64 0] 25 (0, 0)))
 have HG := Aside0.mk (hG.below HB.out)
 have HN := Aside0.mk (hn.below HB.out)
 clear hG hn
 go_enter Tryz.func8, Tryz.ntmps8
 go_wp2_with (first
  | (go_at_call 16; ((refine (Size.prog A c _ HN.out).mono ?_); rintro e w1 ⟨rfl, hB⟩); have HB1 := Aside0.mk (below_then HB.out HB.out.size hB); have HN1 := Aside0.mk (HN.out.below hB); have HG1 := Aside0.mk (HG.out.below hB); (have HX_w1 : NB w1 w.heap.size nProg A c := NB.below (blk_new w _) hB); obtain ⟨c0, c1, c2, c3, c4, c5⟩ := HX_w1.cells; have HXA_w1 := Aside0.mk HX_w1; dsimp only [nProg, List.length_cons, List.length_nil] at c0 c1 c2 c3 c4 c5; clear HX_w1; clear hB)
  | (go_at_call 20; ((refine (may.prog A c _ HG1.out HN1.out).mono ?_); rintro e w2 ⟨rfl, hB⟩); have HB2 := Aside0.mk (below_then HB1.out HB1.out.size hB); clear hB)
  | fail)
 go_ret
 exact ⟨rfl, HB2.out⟩
end Go.Proofs.YtboojhadfhpdeaaGreatDoor.Q
namespace Go.Proofs.YtboojhadfhpdeaaGreatDoor.Q
open Go.RowKit Go.Proofs.YtboojhadfhpdeaaGreatDoorW.PrintWords Go.Proofs.YtboojhadfhpdeaaGreatDoorW.PrintLast Go.Proofs.YtboojhadfhpdeaaGreatDoorW.PrintMore
set_option linter.unusedVariables false
set_option linter.unusedSimpArgs false
abbrev six (x : S25) (A : Option Addr) (c : Nat) : List Value := [.int .i64 x.f0, .string x.f1, .int .u32 x.f2, .bool x.f3, .slice A x.f4.length c, .int .i64 x.f5]
theorem addr_at (q j : Nat) : (⟨q, 0, none⟩ : Addr).add j = ⟨q, j, none⟩ := by
 unfold Addr.add
 split
 · rename_i h; rw [h]
 · simp
theorem C_none (w : World) (A : Option Addr) : Kd.C k25 w A 0 [] := ⟨rfl, by decide, fun h => absurd h (by decide)⟩
theorem C_one {w : World} {q c : Nat} {x : S25} {A : Option Addr} (hq : w.heap[q]? = some (.cells (six x A c).toArray 25 (0, 0))) (hn : ND w x A c) : Kd.C k25 w (some ⟨q, 0, none⟩) 1 [x] :=
 ⟨rfl, by decide, fun _ => ⟨_, rfl, fun j p hj => by
  match j, hj with
  | 0, hj =>
   obtain rfl := Option.some.inj hj
   refine ⟨six x A c, rfl, k25_mk w x hn.le hn.C, fun i u hu => ?_⟩
   rw [addr_at, show 0 * k25.sz + i = i from by omega]
   exact (blk_cell hq i).trans (by simpa using hu)⟩⟩
theorem C_two {w : World} {q c c' : Nat} {x y : S25} {A A' : Option Addr} (hq : w.heap[q]? = some (.cells (six x A c ++ six y A' c').toArray 25 (0, 0))) (hn : ND w x A c) (hm : ND w y A' c') : Kd.C k25 w (some ⟨q, 0, none⟩) 2 [x, y] :=
 ⟨rfl, by decide, fun _ => ⟨_, rfl, fun j p hj => by
  match j, hj with
  | 0, hj =>
   obtain rfl := Option.some.inj hj
   refine ⟨six x A c, rfl, k25_mk w x hn.le hn.C, fun i u hu => ?_⟩
   rw [addr_at, show 0 * k25.sz + i = i from by omega]
   refine (blk_cell hq i).trans ?_
   have hi : i < (six x A c).length := (List.getElem?_eq_some_iff.1 hu).1
   rw [List.getElem?_toArray, List.getElem?_append_left hi, hu]
  | 1, hj =>
   obtain rfl := Option.some.inj hj
   refine ⟨six y A' c', rfl, k25_mk w y hm.le hm.C, fun i u hu => ?_⟩
   rw [addr_at, show 1 * k25.sz + i = 6 + i from by rw [show k25.sz = 6 from rfl]]
   refine (blk_cell hq (6 + i)).trans ?_
   rw [List.getElem?_toArray, List.getElem?_append_right (by simp), show 6 + i - (six x A c).length = i from by simp, hu]⟩⟩
end Go.Proofs.YtboojhadfhpdeaaGreatDoor.Q
namespace Go.Proofs.YtboojhadfhpdeaaGreatDoor.Q
open Go.RowKit Go.Proofs.YtboojhadfhpdeaaGreatDoorW.PrintWords Go.Proofs.YtboojhadfhpdeaaGreatDoorW.PrintLast Go.Proofs.YtboojhadfhpdeaaGreatDoorW.PrintMore
set_option linter.unusedVariables false
set_option linter.unusedSimpArgs false
abbrev txt : List Int := [105, 110, 116, 32, 120, 32, 61, 32, 49, 59, 10]
section
variable {ops : Array Oper} {rest : List Oper} {o : Oper} {a : Act} {Q : Exit → Act → World → Prop} {W : World}
theorem ev_box42 (hgd : o.guard = none) {N : Tmp} (_hd : o.dst = some N) {p : Operand} (ho : o.op = .box 42 p) (hx : a.eval p = .agg #[.slice none 0 0])
 (K : ∀ g w', W.heap.size ≤ g → w'.heap[g]? = some (.cells #[.slice none 0 0] 42 (0, 0)) → Below W.heap.size W w' → wpList Tryz.prog ops Q rest (a.put o.dst (.pointer (some ⟨g, 0, none⟩))) w') : wpList Tryz.prog ops Q (o :: rest) a W := by
 refine box_event hgd _hd (cs := #[.slice none 0 0]) (t := 42) ?_ (fun g hg w1 h1 h2 => K g w1 (by omega) h1 h2)
 simp only [execOp, ho, hx]
 go_simp
 try rfl
end
theorem own_slice2 {w : World} {b n : Nat} {v : Value} {xs : List Value} (h : w.ownsRow b 5 1 v n xs) : ∃ A c, v = .slice A n c := by
 rcases h.2 with ⟨rfl, rfl⟩ | ⟨g, cap, cur, rfl, _⟩
 · exact ⟨none, 0, rfl⟩
 · exact ⟨_, cap, rfl⟩
theorem PB.new {b g : Nat} {w : World} (hb : b ≤ g) (hw : b ≤ w.heap.size) (h : w.heap[g]? = some (.cells #[.slice none 0 0] 42 (0, 0))) : PB b g [] w := ⟨hb, hw, _, h, rfl, .inl ⟨rfl, rfl⟩⟩
set_option maxHeartbeats 8000000 in
set_option maxRecDepth 100000 in
theorem PB.row {b p : Nat} {w : World} (h : PB b p txt w) : ∃ A c, w.heap[p]? = some (.cells #[.slice A 11 c] 42 (0, 0)) ∧ (convert 40 9 (.slice A 11 c)).run Tryz.prog w = .ok (.string ⟨#[105, 110, 116, 32, 120, 32, 61, 32, 49, 59, 10]⟩) w := by
 obtain ⟨v, h1, h2⟩ := h.ex
 have h3 := own_string (P := Tryz.prog) (src := 40) (dst := 9) (e := 5) rfl rfl rfl h2
 have e : strOfNums txt = ⟨#[105, 110, 116, 32, 120, 32, 61, 32, 49, 59, 10]⟩ := by kernel_rfl
 rw [e] at h3
 obtain ⟨A, c, rfl⟩ := own_slice2 h2
 exact ⟨A, c, h1, h3⟩
def PrintP (w : World) (e : Ending) (w' : World) : Prop := e = .returned (.tuple #[.string ⟨#[105, 110, 116, 32, 120, 32, 61, 32, 49, 59, 10]⟩, .int .i64 0]) ∧ Below w.heap.size w w'
set_option maxHeartbeats 8000000 in
set_option maxRecDepth 100000 in
theorem Print.prog (A : Option Addr) (c : Nat) (w : World) (hG : PremW w) (hn : ND w nProg A c) : Calls Tryz.prog 11 #[.agg #[.int .i64 40, .string ⟨#[]⟩, .int .u32 0, .bool false, .slice A 1 c, .int .i64 0]] w (PrintP w) := by
 have HG0 := Aside0.mk hG
 have HN0 := Aside0.mk hn
 have HB := Aside0.mk (below_alloc (Below.refl w.heap.size w) (.cells #[.int .i64 40, .string ⟨#[]⟩, .int .u32 0, .bool false, .slice A 1 c, .int .i64 0] 25 (0, 0)))
 have HG := Aside0.mk (hG.below HB.out)
 have HN := Aside0.mk (hn.below HB.out)
 clear hG hn
 go_enter Tryz.func11, Tryz.ntmps11
 go_wp2_with (first
  | (go_at_call 8; ((refine (Check.prog A c _ HG.out HN.out).mono ?_); rintro e w1 ⟨rfl, hB⟩); have HB1 := Aside0.mk (below_then HB.out HB.out.size hB); have HN1 := Aside0.mk (HN.out.below hB); have HG1 := Aside0.mk (HG.out.below hB); (have HX_w1 : NB w1 w.heap.size nProg A c := NB.below (blk_new w _) hB); obtain ⟨c0, c1, c2, c3, c4, c5⟩ := HX_w1.cells; have HXA_w1 := Aside0.mk HX_w1; dsimp only [nProg, List.length_cons, List.length_nil] at c0 c1 c2 c3 c4 c5; clear HX_w1; clear hB)
  | (go_at_call 26; ((refine (all_p.prog g [] A c w w2 HB2.out HP2.out HG0.out HN0.out (by decide)).mono ?_); rintro e w3 ⟨rfl, hP, hW, hF⟩); obtain ⟨A3, c3, hp3, hcv⟩ := PB.row hP; have cp3 := (blk_cell hp3 0).trans (show #[Value.slice A3 11 c3][0]? = some (.slice A3 11 c3) from rfl); have HW3 := Aside0.mk hW; clear hP hW hF hp3)
  | (refine ev_box42 rfl rfl rfl rfl ?_; rintro g w2 hg hz hB; have HB2 := Aside0.mk (below_then HB1.out HB1.out.size hB); have HP2 := Aside0.mk (PB.new (b := w.heap.size) (by have := HB1.out.size; omega) HB2.out.size hz); (have HX_w2 : NB w2 w.heap.size nProg A c := NB.below HXA_w1.out hB); obtain ⟨c0, c1, c2, c3, c4, c5⟩ := HX_w2.cells; have HXA_w2 := Aside0.mk HX_w2; dsimp only [nProg, List.length_cons, List.length_nil] at c0 c1 c2 c3 c4 c5; clear HX_w2; clear hg hz hB)
  | fail)
 go_ret2
 exact ⟨rfl, HW3.out⟩
set_option maxHeartbeats 8000000 in
set_option maxRecDepth 100000 in
theorem own.calls (w : World) : Calls Tryz.prog 25 #[] w (fun e w' => ∃ A c, e = .returned (val nProg A c) ∧ ND w' nProg A c ∧ Below w.heap.size w w') := by
 go_enter Tryz.func25, Tryz.ntmps25
 go_wp2_with (first
  | (with_reducible refine ev_alloc25 rfl (N := 0) rfl rfl ?_; rintro g0 wa hg hz hB; have HG0 := Aside0.mk hg; have HBa := Aside0.mk hB; have HZ0 := Aside0.mk hz; clear hg hz hB)
  | (with_reducible refine ev_alloc25 rfl (N := 1) rfl rfl ?_; rintro g1 wc hg hz hB; have HG1 := Aside0.mk (show g1 = wa.heap.size + 1 from by rw [hg]; simp); have HQ1 := Aside0.mk (blk_below (blk_new wa _) hB); have HZ0c := Aside0.mk (blk_below (blk_alloc HZ0.out _) hB); have HBc := Aside0.mk (below_then (HBa.out.alloc HBa.out.size _) (HBa.out.alloc HBa.out.size _).size hB); have HZ1 := Aside0.mk hz; clear hg hz hB)
  | (refine ev_store25k rfl rfl (n := 1) rfl (x := nVar) (A := some ⟨wa.heap.size, 0, none⟩) (c := 1) rfl rfl HZ1.out ?_; rintro wd hN hB hk; obtain ⟨b0, b1, b2, b3, b4, b5⟩ := hN.cells; dsimp only [nVar, List.length_cons, List.length_nil] at b0 b1 b2 b3 b4 b5; have HQ1d := Aside0.mk ((hk _ (by have := HG1.out; omega)).trans HQ1.out); have HZ0d := Aside0.mk ((hk _ (by have := HG1.out; have := blk_lt HZ0.out; omega)).trans HZ0c.out); have HBd := Aside0.mk (HBc.out.trans (hB.mono (by have := HG1.out; have := HBa.out.size; omega))); clear hN hB hk)
  | (refine ev_store25k rfl rfl (n := 0) rfl (x := nProg) (A := some ⟨wd.heap.size + 1, 0, none⟩) (c := 1) rfl rfl (blk_alloc (blk_alloc HZ0d.out _) _) ?_; rintro we hN hB hk; have HN := Aside0.mk hN; have HQ1e := Aside0.mk ((hk _ (by have := blk_lt HZ0.out; omega)).trans (blk_alloc (blk_alloc HQ1d.out _) _)); have HQ2e := Aside0.mk ((hk _ (by have := blk_lt HZ0d.out; omega)).trans (blk_alloc (blk_new wd _) _)); have HQ3e := Aside0.mk ((hk _ (by have := blk_lt HZ0d.out; omega)).trans (blk_new1 wd _ _)); have HBe := Aside0.mk (((HBd.out.alloc HBd.out.size _).alloc ((HBd.out.alloc HBd.out.size _).size) _).trans (hB.mono (Nat.le_of_eq HG0.out.symm))); clear hN hB hk)
  | fail)
 have n1 : ND we nNum none 0 := ⟨Nat.le_refl _, C_none _ _⟩
 have n2 : ND we nVar (some ⟨wa.heap.size, 0, none⟩) 1 := ⟨Nat.le_refl _, C_one (c := 0) (A := none) HQ1e.out n1⟩
 have n3 : ND we nType none 0 := ⟨Nat.le_refl _, C_none _ _⟩
 have n4 : ND we nVars (some ⟨wd.heap.size, 0, none⟩) 2 := ⟨Nat.le_refl _, C_two (c := 0) (A := none) (c' := 1) HQ2e.out n3 n2⟩
 have n5 : ND we nProg (some ⟨wd.heap.size + 1, 0, none⟩) 1 := ⟨Nat.le_refl _, C_one (c := 2) HQ3e.out n4⟩
 refine bodyPost_ret (results_cell_row rfl _ _ g0 25 (six nProg (some ⟨wd.heap.size + 1, 0, none⟩) 1).toArray (0, 0) _ rfl HN.out Tryz.underlying25 rfl (by kernel_rfl)) rfl ?_
 exact ⟨_, _, rfl, n5, HBe.out⟩
set_option maxHeartbeats 8000000 in
set_option maxRecDepth 100000 in
theorem awake.calls (w : World) (hG : PremW w) : Calls Tryz.prog 10 #[] w (fun e w' => e = .returned (.bool true) ∧ Below w.heap.size w w') := by
 have HG := Aside0.mk hG
 clear hG
 go_enter Tryz.func10, Tryz.ntmps10
 go_wp2_with (first
  | (go_at_call 11; ((refine (Print.prog A1 c1 _ HG1.out HN1.out).mono ?_); rintro e w2 ⟨rfl, hB⟩); have HB2 := Aside0.mk (below_then HB1.out HB1.out.size hB); clear hB)
  | (go_at_call 16; ((refine (Size.prog A3 c3 _ HN3.out).mono ?_); rintro e w4 ⟨rfl, hB⟩); have HB4 := Aside0.mk (below_then HB3.out HB3.out.size hB); clear hB)
  | (go_at_call 25; have hc := HB2.out; clear hc; ((refine (own.calls _).mono ?_); rintro e w3 ⟨A3, c3, rfl, hn, hB⟩); have HB3 := Aside0.mk (below_then HB2.out HB2.out.size hB); have HN3 := Aside0.mk hn; clear hB hn)
  | (go_at_call 25; ((refine (own.calls _).mono ?_); rintro e w1 ⟨A1, c1, rfl, hn, hB⟩); have HB1 := Aside0.mk hB; have HG1 := Aside0.mk (HG.out.below hB); have HN1 := Aside0.mk hn; clear hB hn)
  | fail)
 go_ret
 exact ⟨rfl, HB4.out⟩
end Go.Proofs.YtboojhadfhpdeaaGreatDoor.Q
namespace Go.Proofs.YtboojhadfhpdeaaGreatDoor.Q
open Go.RowKit
def cruciblelaw08_awake.f : Option Bool := some true
theorem cruciblelaw08_awake.calls (r : Bool) (w : World) (hG : PremW w) (h : cruciblelaw08_awake.f = some r) : Calls Tryz.prog 10 #[] w fun e w' => e = .returned (.bool r) ∧ Below w.heap.size w w' := by
 obtain rfl := Option.some.inj h
 exact awake.calls w hG
end Go.Proofs.YtboojhadfhpdeaaGreatDoor.Q
namespace Go.Proofs.YtboojhadfhpdeaaGreatDoor.Q
open Go.RowKit Go.Proofs.YtboojhadfhpdeaaGreatDoorW.PrintWords Go.Proofs.YtboojhadfhpdeaaGreatDoorW.PrintLast Go.Proofs.YtboojhadfhpdeaaGreatDoorW.PrintMore
attribute [local go_sem] max2_int min2_int max_two min_two max_three min_three max_four min_four
set_option linter.unusedVariables false
set_option linter.unusedSimpArgs false
def cruciblelaw08_AstSizes.f (k : Nat) (a0_0 : Int) (a0_1 : ByteArray) (a0_2 : Int) (a0_3 : Bool) (l0_4 : List (S25)) (a0_5 : Int) : Option (Bool) := (ast_Size.f k a0_0 a0_1 a0_2 a0_3 l0_4 a0_5).bind fun t126 => ((crucibleref08_Size.f k a0_0 a0_1 a0_2 a0_3 l0_4 a0_5).bind fun t127 => (if t126 = t127 then ((ast_Depth.f k a0_0 a0_1 a0_2 a0_3 l0_4 a0_5).bind fun t128 => ((crucibleref08_Depth.f k a0_0 a0_1 a0_2 a0_3 l0_4 a0_5).bind fun t129 => (if t128 = t129 then ((cruciblelaw08_awake.f).bind fun t130 => (some t130)) else (some false)))) else (some false)))
theorem cruciblelaw08_AstSizes.mono : ∀ a0 a1 a2 a3 a4 a5 k, LeO (cruciblelaw08_AstSizes.f k a0 a1 a2 a3 a4 a5) (cruciblelaw08_AstSizes.f (k + 1) a0 a1 a2 a3 a4 a5) := by
 intro a0 a1 a2 a3 a4 a5 k
 unfold cruciblelaw08_AstSizes.f
 repeat' first
  | (with_reducible exact ast_Depth.mono _ _ _ _ _ _ _)
  | (with_reducible exact ast_Size.mono _ _ _ _ _ _ _)
  | (with_reducible exact crucibleref08_Depth.mono _ _ _ _ _ _ _)
  | (with_reducible exact crucibleref08_Size.mono _ _ _ _ _ _ _)
  | (with_reducible exact LeO.refl _)
  | (with_reducible exact LeO.none _)
  | (with_reducible refine LeO.ite ?_ ?_)
  | (with_reducible refine LeO.bind ?_ (fun _ => ?_))
  | exact ast_Depth.mono _ _ _ _ _ _ _
  | exact ast_Size.mono _ _ _ _ _ _ _
  | exact crucibleref08_Depth.mono _ _ _ _ _ _ _
  | exact crucibleref08_Size.mono _ _ _ _ _ _ _
  | exact LeO.none _
  | refine LeO.ite ?_ ?_
  | refine LeO.bind ?_ (fun _ => ?_)
def cruciblelaw08_AstSizes.T1 : Bool × List (List Nat × List Nat) := (true, [([], []), ([0], [0]), ([], []), ([2, 1], [2]), ([1, 3], [1, 3]), ([4, 3], [4]), ([5], [5]), ([6, 5, 5], [5, 6]), ([5], [5]), ([8, 7, 5], [5, 8]), ([7, 9, 5], [5, 7, 9]), ([5, 10], [5, 10]), ([11, 9], [11]), ([12, 12], [12]), ([12, 13], [12, 13]), ([14, 13, 0, 1, 2, 3, 4, 5, 6, 7, 8, 9, 10, 11, 12, 13, 14], [14])])
def cruciblelaw08_AstSizes.B1 : List Nat := [0, 1, 0, 7, 15, 31, 63, 127, 63, 511, 1023, 2047, 4095, 8191, 16383, 32767]
theorem cruciblelaw08_AstSizes.tab1 : rtab .any (opsOf Tryz.f6 1) = cruciblelaw08_AstSizes.T1 := by kernel_rfl
theorem cruciblelaw08_AstSizes.bits1 : waitsOk cruciblelaw08_AstSizes.T1.2 cruciblelaw08_AstSizes.B1 = true := by kernel_rfl
set_option maxHeartbeats 8000000 in
set_option maxRecDepth 100000 in
theorem cruciblelaw08_AstSizes.calls (k : Nat) (a0_0 : Int) (a0_1 : ByteArray) (a0_2 : Int) (a0_3 : Bool) (A0_4 : Option Addr) (c0_4 : Nat) (l0_4 : List (S25)) (a0_5 : Int) (r : Bool) (w : World) (hr0_4 : Kd.C k25 w A0_4 l0_4.length l0_4) (hc0_4 : l0_4.length ≤ c0_4) (hG : PremW w) (h : cruciblelaw08_AstSizes.f k a0_0 a0_1 a0_2 a0_3 l0_4 a0_5 = some r) :
 Calls Tryz.prog 6 #[.agg #[.int .i64 a0_0, .string a0_1, .int .u32 a0_2, .bool a0_3, .slice A0_4 l0_4.length c0_4, .int .i64 a0_5]] w fun e w' => e = .returned (.bool r) ∧ Below w.heap.size w w' := by
 have hu25 := Tryz.underlying25
 have HR0_4 := Aside0.mk hr0_4
 have HC0_4 := Aside0.mk hc0_4
 clear hr0_4 hc0_4
 have HG := Aside0.mk hG
 clear hG
 have HB := Aside0.mk (Below.refl w.heap.size w)
 have H : ((ast_Size.f k a0_0 a0_1 a0_2 a0_3 l0_4 a0_5).bind fun t126 => ((crucibleref08_Size.f k a0_0 a0_1 a0_2 a0_3 l0_4 a0_5).bind fun t127 => (if t126 = t127 then ((ast_Depth.f k a0_0 a0_1 a0_2 a0_3 l0_4 a0_5).bind fun t128 => ((crucibleref08_Depth.f k a0_0 a0_1 a0_2 a0_3 l0_4 a0_5).bind fun t129 => (if t128 = t129 then ((cruciblelaw08_awake.f).bind fun t130 => (some t130)) else (some false)))) else (some false)))) = some r := h
 clear h
 replace H := Option.bind_eq_some_iff.mp H
 obtain ⟨t126, A20, H⟩ := H
 replace H : ((crucibleref08_Size.f k a0_0 a0_1 a0_2 a0_3 l0_4 a0_5).bind fun t127 => (if t126 = t127 then ((ast_Depth.f k a0_0 a0_1 a0_2 a0_3 l0_4 a0_5).bind fun t128 => ((crucibleref08_Depth.f k a0_0 a0_1 a0_2 a0_3 l0_4 a0_5).bind fun t129 => (if t128 = t129 then ((cruciblelaw08_awake.f).bind fun t130 => (some t130)) else (some false)))) else (some false))) = some r := H
 have A2 := Aside0.mk A20
 clear A20
 replace H := Option.bind_eq_some_iff.mp H
 obtain ⟨t127, A30, H⟩ := H
 replace H : (if t126 = t127 then ((ast_Depth.f k a0_0 a0_1 a0_2 a0_3 l0_4 a0_5).bind fun t128 => ((crucibleref08_Depth.f k a0_0 a0_1 a0_2 a0_3 l0_4 a0_5).bind fun t129 => (if t128 = t129 then ((cruciblelaw08_awake.f).bind fun t130 => (some t130)) else (some false)))) else (some false)) = some r := H
 have A3 := Aside0.mk A30
 clear A30
 by_cases c4 : t126 = t127
 · rw [if_pos c4] at H
   have c4b0 : (t126 == t127) = true := beq_iff_eq.mpr c4
   have c4b1 : (t126 != t127) = false := bne_eq_false_iff_eq.mpr c4
   clear c4
   replace H := Option.bind_eq_some_iff.mp H
   obtain ⟨t128, A50, H⟩ := H
   replace H : ((crucibleref08_Depth.f k a0_0 a0_1 a0_2 a0_3 l0_4 a0_5).bind fun t129 => (if t128 = t129 then ((cruciblelaw08_awake.f).bind fun t130 => (some t130)) else (some false))) = some r := H
   have A5 := Aside0.mk A50
   clear A50
   replace H := Option.bind_eq_some_iff.mp H
   obtain ⟨t129, A60, H⟩ := H
   replace H : (if t128 = t129 then ((cruciblelaw08_awake.f).bind fun t130 => (some t130)) else (some false)) = some r := H
   have A6 := Aside0.mk A60
   clear A60
   by_cases c7 : t128 = t129
   · rw [if_pos c7] at H
     have c7b0 : (t128 == t129) = true := beq_iff_eq.mpr c7
     have c7b1 : (t128 != t129) = false := bne_eq_false_iff_eq.mpr c7
     clear c7
     replace H := Option.bind_eq_some_iff.mp H
     obtain ⟨t130, A80, H⟩ := H
     replace H : (some t130) = some r := H
     have A8 := Aside0.mk A80
     clear A80
     obtain rfl := Option.some.inj H
     go_enter Tryz.func6, Tryz.ntmps6
     try go_wp2_with (first | ((with_reducible refine gate_dst (N := 1) rfl ?_); refine box_event ?hg (N := 1) ?hd (cs := #[.int .i64 a0_0, .string a0_1, .int .u32 a0_2, .bool a0_3, .slice A0_4 l0_4.length c0_4, .int .i64 a0_5]) (t := 25) ?hr ?_; (case hd => rfl); (case hg => rfl); (case hr => first | (go_simp; done) | (go_simp; rfl)); intro gb125 hg w9 hbox hb; have n0_ := Aside0.mk (below_step (by repeat (first | (with_reducible first | exact HB.out | apply below_alloc | apply pw_below_drewN | apply below_drew1) | exact HB.out)) hb); have n1_ := Aside0.mk (hbox); have n2_ := Aside0.mk ((by rw [hg]; exact (below_size (by repeat (first | (with_reducible first | exact HB.out | apply below_alloc | apply pw_below_drewN | apply below_drew1) | exact HB.out))) : w.heap.size ≤ gb125)); have n3_ := Aside0.mk ((by rw [hg]; exact (below_size (by repeat (first | (with_reducible first | exact HB.out | apply below_alloc | apply pw_below_drewN | apply below_drew1) | exact HB.out))) : w.heap.size ≤ gb125)); clear HB; have HB := n0_; have BK125 := n1_; have GW125 := n2_; have GE125 := n3_; clear n0_ n1_ n2_ n3_; clear hb hbox hg))
     have n0_ := Aside0.mk (blk_drew BK125.out)
     have n1_ := Aside0.mk (below_drew1 HB.out)
     clear BK125
     clear HB
     have BK125 := n0_
     have HB := n1_
     clear n0_ n1_
     refine start_ (n := 16) (S := fun w' => w'.cell? ⟨gb125, 0, none⟩ = some (.int .i64 a0_0) ∧ w'.cell? ⟨gb125, 1, none⟩ = some (.string a0_1) ∧ w'.cell? ⟨gb125, 2, none⟩ = some (.int .u32 a0_2) ∧ w'.cell? ⟨gb125, 3, none⟩ = some (.bool a0_3) ∧ w'.cell? ⟨gb125, 4, none⟩ = some (.slice A0_4 l0_4.length c0_4) ∧ w'.cell? ⟨gb125, 5, none⟩ = some (.int .i64 a0_5)) (ds := []) #[false, false, false, false, false, false, false, false, false, false, false, false, false, false, false, false] (by kernel_rfl) rfl rfl ⟨(blk_cell BK125.out 0).trans rfl, (blk_cell BK125.out 1).trans rfl, (blk_cell BK125.out 2).trans rfl, (blk_cell BK125.out 3).trans rfl, (blk_cell BK125.out 4).trans rfl, (blk_cell BK125.out 5).trans rfl⟩ (fun hHeld => ?_); refine with_tabW cruciblelaw08_AstSizes.tab1 cruciblelaw08_AstSizes.bits1 (fun HT_ HW_ => ?_)
     generalize w9.drew = w10 at BK125 HB hHeld ⊢
     refine take_ (i := 0) (N := some 3) (v := ?_) (a' := ?_) #[true, false, false, false, false, false, false, false, false, false, false, false, false, false, false, false] rfl rfl (take_ofW HT_.out HW_.out (by kernel_rfl)) (fun _ _ _ h => h) (Or.inl ⟨by rfl, ?_⟩) hHeld ?_ ?_
     rotate_left
     · rintro w' ⟨s0, s1, s2, s3, s4, s5⟩
       go_simp
       with_reducible rfl
     rotate_left
     · simp only [Act.put, List.setIfInBounds_toArray, List.set_cons_zero, List.set_cons_succ, i64_w, i32_w]
       rfl
     refine take_ (i := 2) (N := some 5) (v := ?_) (a' := ?_) #[true, false, true, false, false, false, false, false, false, false, false, false, false, false, false, false] rfl rfl (take_ofW HT_.out HW_.out (by kernel_rfl)) (fun _ _ _ h => h) (Or.inl ⟨by rfl, ?_⟩) hHeld ?_ ?_
     rotate_left
     · rintro w' ⟨s0, s1, s2, s3, s4, s5⟩
       go_simp
       with_reducible rfl
     rotate_left
     · simp only [Act.put, List.setIfInBounds_toArray, List.set_cons_zero, List.set_cons_succ, i64_w, i32_w]
       rfl
     refine one_ (i := 1) (N := some 4) #[true, true, true, false, false, false, false, false, false, false, false, false, false, false, false, false] rfl rfl (one_of HT_.out (by kernel_rfl)) (by decide) (fun K hK => ?_)
     refine goes_ Tryz.func16 (by kernel_rfl) rfl #[.agg #[.int .i64 a0_0, .string a0_1, .int .u32 a0_2, .bool a0_3, .slice A0_4 l0_4.length c0_4, .int .i64 a0_5]] (by rfl) rfl rfl (by (try simp only [List.map_toArray, List.map_cons, List.map_nil]); first | done | rfl | (simp only [List.length_drop, List.length_take]; rfl)) ?_
     with_reducible refine (ast_Size.calls k a0_0 a0_1 a0_2 a0_3 _ _ l0_4 a0_5 t126 _ ?side1 ?side2 A2.out).mono ?_
     (case side1 => repeat (first | exact (Kd.C_below HR0_4.out HB.out) | (with_reducible refine Kd.C_alloc ?_ _) | (with_reducible refine Kd.C_drewN ?_ _) | (with_reducible refine Kd.C_drew ?_)))
     (case side2 => exact HC0_4.out)
     rintro e w11 ⟨rfl, hb⟩
     refine ⟨_, rfl, ?_⟩
     have n0_ := Aside0.mk (blk_below (g := gb125) (o := .cells #[.int .i64 a0_0, .string a0_1, .int .u32 a0_2, .bool a0_3, .slice A0_4 l0_4.length c0_4, .int .i64 a0_5] 25 (0, 0)) (by (with_reducible repeat (first | refine blk_drewN ?_ _ | refine blk_drew ?_ | refine blk_alloc ?_ _)); exact BK125.out) hb)
     have n1_ := Aside0.mk (below_step (by repeat (first | (with_reducible first | exact HB.out | apply below_alloc | apply pw_below_drewN | apply below_drew1 | refine below_set ?_ GE125.out) | exact HB.out)) hb)
     clear BK125
     clear HB
     have BK125 := n0_
     have HB := n1_
     clear n0_ n1_
     (try clear hb)
     (try clear hb2)
     (try clear hk)
     (try clear hi)
     refine hK.out _ _ ⟨(blk_cell BK125.out 0).trans rfl, (blk_cell BK125.out 1).trans rfl, (blk_cell BK125.out 2).trans rfl, (blk_cell BK125.out 3).trans rfl, (blk_cell BK125.out 4).trans rfl, (blk_cell BK125.out 5).trans rfl⟩ (fun hHeld => ?_)
     clear hK K
     refine norm_ (a' := ?_) ?_ ?_
     rotate_left
     · show Act.put _ (some 4) _ = _
       simp only [Act.put, List.setIfInBounds_toArray, List.set_cons_zero, List.set_cons_succ, i64_w, i32_w]
       rfl
     refine one_ (i := 3) (N := some 6) #[true, true, true, true, false, false, false, false, false, false, false, false, false, false, false, false] rfl rfl (one_of HT_.out (by kernel_rfl)) (by decide) (fun K hK => ?_)
     refine goes_ Tryz.func13 (by kernel_rfl) rfl #[.agg #[.int .i64 a0_0, .string a0_1, .int .u32 a0_2, .bool a0_3, .slice A0_4 l0_4.length c0_4, .int .i64 a0_5]] (by rfl) rfl rfl (by (try simp only [List.map_toArray, List.map_cons, List.map_nil]); first | done | rfl | (simp only [List.length_drop, List.length_take]; rfl)) ?_
     with_reducible refine (crucibleref08_Size.calls k a0_0 a0_1 a0_2 a0_3 _ _ l0_4 a0_5 t127 _ ?side1 ?side2 A3.out).mono ?_
     (case side1 => repeat (first | exact (Kd.C_below HR0_4.out HB.out) | (with_reducible refine Kd.C_alloc ?_ _) | (with_reducible refine Kd.C_drewN ?_ _) | (with_reducible refine Kd.C_drew ?_)))
     (case side2 => exact HC0_4.out)
     rintro e w12 ⟨rfl, hb⟩
     refine ⟨_, rfl, ?_⟩
     have n0_ := Aside0.mk (blk_below (g := gb125) (o := .cells #[.int .i64 a0_0, .string a0_1, .int .u32 a0_2, .bool a0_3, .slice A0_4 l0_4.length c0_4, .int .i64 a0_5] 25 (0, 0)) (by (with_reducible repeat (first | refine blk_drewN ?_ _ | refine blk_drew ?_ | refine blk_alloc ?_ _)); exact BK125.out) hb)
     have n1_ := Aside0.mk (below_step (by repeat (first | (with_reducible first | exact HB.out | apply below_alloc | apply pw_below_drewN | apply below_drew1 | refine below_set ?_ GE125.out) | exact HB.out)) hb)
     clear BK125
     clear HB
     have BK125 := n0_
     have HB := n1_
     clear n0_ n1_
     (try clear hb)
     (try clear hb2)
     (try clear hk)
     (try clear hi)
     refine hK.out _ _ ⟨(blk_cell BK125.out 0).trans rfl, (blk_cell BK125.out 1).trans rfl, (blk_cell BK125.out 2).trans rfl, (blk_cell BK125.out 3).trans rfl, (blk_cell BK125.out 4).trans rfl, (blk_cell BK125.out 5).trans rfl⟩ (fun hHeld => ?_)
     clear hK K
     refine norm_ (a' := ?_) ?_ ?_
     rotate_left
     · show Act.put _ (some 6) _ = _
       simp only [Act.put, List.setIfInBounds_toArray, List.set_cons_zero, List.set_cons_succ, i64_w, i32_w]
       rfl
     refine pure_ (i := 4) (N := some 7) (v := ?_) (a' := ?_) #[true, true, true, true, true, false, false, false, false, false, false, false, false, false, false, false] rfl rfl (any_of HT_.out (by kernel_rfl)) (fun _ _ _ h => h) (Or.inl ⟨by rfl, ?_⟩) ?_ ?_
     rotate_left
     · intro w'
       go_simp
       with_reducible rfl
     rotate_left
     · simp only [Act.put, List.setIfInBounds_toArray, List.set_cons_zero, List.set_cons_succ, i64_w, i32_w]
       rfl
     refine pure_ (i := 5) (N := some 8) (v := ?_) (a' := ?_) #[true, true, true, true, true, true, false, false, false, false, false, false, false, false, false, false] rfl rfl (any_of HT_.out (by kernel_rfl)) (fun _ _ _ h => h) (Or.inl ⟨by rfl, ?_⟩) ?_ ?_
     rotate_left
     · intro w'
       go_simp
       with_reducible rfl
     rotate_left
     · simp only [Act.put, List.setIfInBounds_toArray, List.set_cons_zero, List.set_cons_succ, i64_w, i32_w]
       rfl
     refine take_ (i := 6) (N := some 9) (v := ?_) (a' := ?_) #[true, true, true, true, true, true, true, false, false, false, false, false, false, false, false, false] rfl rfl (take_ofW HT_.out HW_.out (by kernel_rfl)) (fun _ _ _ h => h) (Or.inl ⟨by rfl, ?_⟩) hHeld ?_ ?_
     rotate_left
     · rintro w' ⟨s0, s1, s2, s3, s4, s5⟩
       go_simp
       with_reducible rfl
     rotate_left
     · simp only [Act.put, List.setIfInBounds_toArray, List.set_cons_zero, List.set_cons_succ, i64_w, i32_w]
       rfl
     refine take_ (i := 8) (N := some 11) (v := ?_) (a' := ?_) #[true, true, true, true, true, true, true, false, true, false, false, false, false, false, false, false] rfl rfl (take_ofW HT_.out HW_.out (by kernel_rfl)) (fun _ _ _ h => h) (Or.inl ⟨by rfl, ?_⟩) hHeld ?_ ?_
     rotate_left
     · rintro w' ⟨s0, s1, s2, s3, s4, s5⟩
       go_simp
       with_reducible rfl
     rotate_left
     · simp only [Act.put, List.setIfInBounds_toArray, List.set_cons_zero, List.set_cons_succ, i64_w, i32_w]
       rfl
     refine one_ (i := 7) (N := some 10) #[true, true, true, true, true, true, true, true, true, false, false, false, false, false, false, false] rfl rfl (one_of HT_.out (by kernel_rfl)) (by decide) (fun K hK => ?_)
     refine goes_ Tryz.func17 (by kernel_rfl) rfl #[.agg #[.int .i64 a0_0, .string a0_1, .int .u32 a0_2, .bool a0_3, .slice A0_4 l0_4.length c0_4, .int .i64 a0_5]] (by rfl) rfl rfl (by (try simp only [List.map_toArray, List.map_cons, List.map_nil]); first | done | rfl | (simp only [List.length_drop, List.length_take]; rfl)) ?_
     with_reducible refine (ast_Depth.calls k a0_0 a0_1 a0_2 a0_3 _ _ l0_4 a0_5 t128 _ ?side1 ?side2 A5.out).mono ?_
     (case side1 => repeat (first | exact (Kd.C_below HR0_4.out HB.out) | (with_reducible refine Kd.C_alloc ?_ _) | (with_reducible refine Kd.C_drewN ?_ _) | (with_reducible refine Kd.C_drew ?_)))
     (case side2 => exact HC0_4.out)
     rintro e w13 ⟨rfl, hb⟩
     refine ⟨_, rfl, ?_⟩
     have n0_ := Aside0.mk (blk_below (g := gb125) (o := .cells #[.int .i64 a0_0, .string a0_1, .int .u32 a0_2, .bool a0_3, .slice A0_4 l0_4.length c0_4, .int .i64 a0_5] 25 (0, 0)) (by (with_reducible repeat (first | refine blk_drewN ?_ _ | refine blk_drew ?_ | refine blk_alloc ?_ _)); exact BK125.out) hb)
     have n1_ := Aside0.mk (below_step (by repeat (first | (with_reducible first | exact HB.out | apply below_alloc | apply pw_below_drewN | apply below_drew1 | refine below_set ?_ GE125.out) | exact HB.out)) hb)
     clear BK125
     clear HB
     have BK125 := n0_
     have HB := n1_
     clear n0_ n1_
     (try clear hb)
     (try clear hb2)
     (try clear hk)
     (try clear hi)
     refine hK.out _ _ ⟨(blk_cell BK125.out 0).trans rfl, (blk_cell BK125.out 1).trans rfl, (blk_cell BK125.out 2).trans rfl, (blk_cell BK125.out 3).trans rfl, (blk_cell BK125.out 4).trans rfl, (blk_cell BK125.out 5).trans rfl⟩ (fun hHeld => ?_)
     clear hK K
     refine norm_ (a' := ?_) ?_ ?_
     rotate_left
     · show Act.put _ (some 10) _ = _
       simp only [Act.put, List.setIfInBounds_toArray, List.set_cons_zero, List.set_cons_succ, i64_w, i32_w]
       rfl
     refine one_ (i := 9) (N := some 12) #[true, true, true, true, true, true, true, true, true, true, false, false, false, false, false, false] rfl rfl (one_of HT_.out (by kernel_rfl)) (by decide) (fun K hK => ?_)
     refine goes_ Tryz.func18 (by kernel_rfl) rfl #[.agg #[.int .i64 a0_0, .string a0_1, .int .u32 a0_2, .bool a0_3, .slice A0_4 l0_4.length c0_4, .int .i64 a0_5]] (by rfl) rfl rfl (by (try simp only [List.map_toArray, List.map_cons, List.map_nil]); first | done | rfl | (simp only [List.length_drop, List.length_take]; rfl)) ?_
     with_reducible refine (crucibleref08_Depth.calls k a0_0 a0_1 a0_2 a0_3 _ _ l0_4 a0_5 t129 _ ?side1 ?side2 A6.out).mono ?_
     (case side1 => repeat (first | exact (Kd.C_below HR0_4.out HB.out) | (with_reducible refine Kd.C_alloc ?_ _) | (with_reducible refine Kd.C_drewN ?_ _) | (with_reducible refine Kd.C_drew ?_)))
     (case side2 => exact HC0_4.out)
     rintro e w14 ⟨rfl, hb⟩
     refine ⟨_, rfl, ?_⟩
     have n0_ := Aside0.mk (blk_below (g := gb125) (o := .cells #[.int .i64 a0_0, .string a0_1, .int .u32 a0_2, .bool a0_3, .slice A0_4 l0_4.length c0_4, .int .i64 a0_5] 25 (0, 0)) (by (with_reducible repeat (first | refine blk_drewN ?_ _ | refine blk_drew ?_ | refine blk_alloc ?_ _)); exact BK125.out) hb)
     have n1_ := Aside0.mk (below_step (by repeat (first | (with_reducible first | exact HB.out | apply below_alloc | apply pw_below_drewN | apply below_drew1 | refine below_set ?_ GE125.out) | exact HB.out)) hb)
     clear BK125
     clear HB
     have BK125 := n0_
     have HB := n1_
     clear n0_ n1_
     (try clear hb)
     (try clear hb2)
     (try clear hk)
     (try clear hi)
     refine hK.out _ _ ⟨(blk_cell BK125.out 0).trans rfl, (blk_cell BK125.out 1).trans rfl, (blk_cell BK125.out 2).trans rfl, (blk_cell BK125.out 3).trans rfl, (blk_cell BK125.out 4).trans rfl, (blk_cell BK125.out 5).trans rfl⟩ (fun hHeld => ?_)
     clear hK K
     refine norm_ (a' := ?_) ?_ ?_
     rotate_left
     · show Act.put _ (some 12) _ = _
       simp only [Act.put, List.setIfInBounds_toArray, List.set_cons_zero, List.set_cons_succ, i64_w, i32_w]
       rfl
     refine pure_ (i := 10) (N := some 13) (v := ?_) (a' := ?_) #[true, true, true, true, true, true, true, true, true, true, true, false, false, false, false, false] rfl rfl (any_of HT_.out (by kernel_rfl)) (fun _ _ _ h => h) (Or.inl ⟨by rfl, ?_⟩) ?_ ?_
     rotate_left
     · intro w'
       go_simp
       with_reducible rfl
     rotate_left
     · simp only [Act.put, List.setIfInBounds_toArray, List.set_cons_zero, List.set_cons_succ, i64_w, i32_w]
       rfl
     refine pure_ (i := 11) (N := some 14) (v := ?_) (a' := ?_) #[true, true, true, true, true, true, true, true, true, true, true, true, false, false, false, false] rfl rfl (any_of HT_.out (by kernel_rfl)) (fun _ _ _ h => h) (Or.inl ⟨by rfl, ?_⟩) ?_ ?_
     rotate_left
     · intro w'
       go_simp
       with_reducible rfl
     rotate_left
     · simp only [Act.put, List.setIfInBounds_toArray, List.set_cons_zero, List.set_cons_succ, i64_w, i32_w]
       rfl
     refine pure_ (i := 12) (N := some 15) (v := ?_) (a' := ?_) #[true, true, true, true, true, true, true, true, true, true, true, true, true, false, false, false] rfl rfl (any_of HT_.out (by kernel_rfl)) (fun _ _ _ h => h) (Or.inl ⟨by rfl, ?_⟩) ?_ ?_
     rotate_left
     · intro w'
       go_simp
       with_reducible rfl
     rotate_left
     · simp only [Act.put, List.setIfInBounds_toArray, List.set_cons_zero, List.set_cons_succ, i64_w, i32_w]
       rfl
     refine one_ (i := 13) (N := some 16) #[true, true, true, true, true, true, true, true, true, true, true, true, true, true, false, false] rfl rfl (one_of HT_.out (by kernel_rfl)) (by decide) (fun K hK => ?_)
     refine goes_ Tryz.func10 (by kernel_rfl) rfl #[] (by rfl) rfl rfl (by (try simp only [List.map_toArray, List.map_cons, List.map_nil]); first | done | rfl | (simp only [List.length_drop, List.length_take]; rfl)) ?_
     with_reducible refine (cruciblelaw08_awake.calls  t130 _ ?side1 A8.out).mono ?_
     (case side1 => refine PremW.below HG.out ?_; repeat (first | (with_reducible first | exact HB.out | apply below_alloc | apply pw_below_drewN | apply below_drew1 | refine below_set ?_ GE125.out) | exact HB.out))
     rintro e w15 ⟨rfl, hb⟩
     refine ⟨_, rfl, ?_⟩
     have n0_ := Aside0.mk (blk_below (g := gb125) (o := .cells #[.int .i64 a0_0, .string a0_1, .int .u32 a0_2, .bool a0_3, .slice A0_4 l0_4.length c0_4, .int .i64 a0_5] 25 (0, 0)) (by (with_reducible repeat (first | refine blk_drewN ?_ _ | refine blk_drew ?_ | refine blk_alloc ?_ _)); exact BK125.out) hb)
     have n1_ := Aside0.mk (below_step (by repeat (first | (with_reducible first | exact HB.out | apply below_alloc | apply pw_below_drewN | apply below_drew1 | refine below_set ?_ GE125.out) | exact HB.out)) hb)
     clear BK125
     clear HB
     have BK125 := n0_
     have HB := n1_
     clear n0_ n1_
     (try clear hb)
     (try clear hb2)
     (try clear hk)
     (try clear hi)
     refine hK.out _ _ ⟨(blk_cell BK125.out 0).trans rfl, (blk_cell BK125.out 1).trans rfl, (blk_cell BK125.out 2).trans rfl, (blk_cell BK125.out 3).trans rfl, (blk_cell BK125.out 4).trans rfl, (blk_cell BK125.out 5).trans rfl⟩ (fun hHeld => ?_)
     clear hK K
     refine norm_ (a' := ?_) ?_ ?_
     rotate_left
     · show Act.put _ (some 16) _ = _
       simp only [Act.put, List.setIfInBounds_toArray, List.set_cons_zero, List.set_cons_succ, i64_w, i32_w]
       rfl
     refine pure_ (i := 14) (N := some 17) (v := ?_) (a' := ?_) #[true, true, true, true, true, true, true, true, true, true, true, true, true, true, true, false] rfl rfl (any_of HT_.out (by kernel_rfl)) (fun _ _ _ h => h) (Or.inl ⟨by rfl, ?_⟩) ?_ ?_
     rotate_left
     · intro w'
       go_simp
       with_reducible rfl
     rotate_left
     · simp only [Act.put, List.setIfInBounds_toArray, List.set_cons_zero, List.set_cons_succ, i64_w, i32_w]
       rfl
     refine pure_ (i := 15) (N := some 2) (v := ?_) (a' := ?_) #[true, true, true, true, true, true, true, true, true, true, true, true, true, true, true, true] rfl rfl (any_of HT_.out (by kernel_rfl)) (fun _ _ _ h => h) (Or.inl ⟨by rfl, ?_⟩) ?_ ?_
     rotate_left
     · intro w'
       go_simp
       with_reducible rfl
     rotate_left
     · simp only [Act.put, List.setIfInBounds_toArray, List.set_cons_zero, List.set_cons_succ, i64_w, i32_w]
       rfl
     refine done_ (done_of HT_.out (by kernel_rfl)) ?_
     try go_wp2
     go_ret
     exact ⟨by first | rfl | (simp [errW_none, errW_some] <;> rfl) | (simp [*, errW_none, errW_some] <;> rfl), by repeat (first | (with_reducible first | exact HB.out | apply below_alloc | apply pw_below_drewN | apply below_drew1 | refine below_set ?_ GE125.out) | exact HB.out)⟩
   · rw [if_neg c7] at H
     have c7b0 : (t128 == t129) = false := beq_eq_false_iff_ne.mpr c7
     have c7b1 : (t128 != t129) = true := bne_iff_ne.mpr c7
     obtain rfl := Option.some.inj H
     go_enter Tryz.func6, Tryz.ntmps6
     try go_wp2_with (first | ((with_reducible refine gate_dst (N := 1) rfl ?_); refine box_event ?hg (N := 1) ?hd (cs := #[.int .i64 a0_0, .string a0_1, .int .u32 a0_2, .bool a0_3, .slice A0_4 l0_4.length c0_4, .int .i64 a0_5]) (t := 25) ?hr ?_; (case hd => rfl); (case hg => rfl); (case hr => first | (go_simp; done) | (go_simp; rfl)); intro gb125 hg w16 hbox hb; have n0_ := Aside0.mk (below_step (by repeat (first | (with_reducible first | exact HB.out | apply below_alloc | apply pw_below_drewN | apply below_drew1) | exact HB.out)) hb); have n1_ := Aside0.mk (hbox); have n2_ := Aside0.mk ((by rw [hg]; exact (below_size (by repeat (first | (with_reducible first | exact HB.out | apply below_alloc | apply pw_below_drewN | apply below_drew1) | exact HB.out))) : w.heap.size ≤ gb125)); have n3_ := Aside0.mk ((by rw [hg]; exact (below_size (by repeat (first | (with_reducible first | exact HB.out | apply below_alloc | apply pw_below_drewN | apply below_drew1) | exact HB.out))) : w.heap.size ≤ gb125)); clear HB; have HB := n0_; have BK125 := n1_; have GW125 := n2_; have GE125 := n3_; clear n0_ n1_ n2_ n3_; clear hb hbox hg))
     have n0_ := Aside0.mk (blk_drew BK125.out)
     have n1_ := Aside0.mk (below_drew1 HB.out)
     clear BK125
     clear HB
     have BK125 := n0_
     have HB := n1_
     clear n0_ n1_
     refine start_ (n := 16) (S := fun w' => w'.cell? ⟨gb125, 0, none⟩ = some (.int .i64 a0_0) ∧ w'.cell? ⟨gb125, 1, none⟩ = some (.string a0_1) ∧ w'.cell? ⟨gb125, 2, none⟩ = some (.int .u32 a0_2) ∧ w'.cell? ⟨gb125, 3, none⟩ = some (.bool a0_3) ∧ w'.cell? ⟨gb125, 4, none⟩ = some (.slice A0_4 l0_4.length c0_4) ∧ w'.cell? ⟨gb125, 5, none⟩ = some (.int .i64 a0_5)) (ds := []) #[false, false, false, false, false, false, false, false, false, false, false, false, false, false, false, false] (by kernel_rfl) rfl rfl ⟨(blk_cell BK125.out 0).trans rfl, (blk_cell BK125.out 1).trans rfl, (blk_cell BK125.out 2).trans rfl, (blk_cell BK125.out 3).trans rfl, (blk_cell BK125.out 4).trans rfl, (blk_cell BK125.out 5).trans rfl⟩ (fun hHeld => ?_); refine with_tabW cruciblelaw08_AstSizes.tab1 cruciblelaw08_AstSizes.bits1 (fun HT_ HW_ => ?_)
     generalize w16.drew = w17 at BK125 HB hHeld ⊢
     refine take_ (i := 0) (N := some 3) (v := ?_) (a' := ?_) #[true, false, false, false, false, false, false, false, false, false, false, false, false, false, false, false] rfl rfl (take_ofW HT_.out HW_.out (by kernel_rfl)) (fun _ _ _ h => h) (Or.inl ⟨by rfl, ?_⟩) hHeld ?_ ?_
     rotate_left
     · rintro w' ⟨s0, s1, s2, s3, s4, s5⟩
       go_simp
       with_reducible rfl
     rotate_left
     · simp only [Act.put, List.setIfInBounds_toArray, List.set_cons_zero, List.set_cons_succ, i64_w, i32_w]
       rfl
     refine take_ (i := 2) (N := some 5) (v := ?_) (a' := ?_) #[true, false, true, false, false, false, false, false, false, false, false, false, false, false, false, false] rfl rfl (take_ofW HT_.out HW_.out (by kernel_rfl)) (fun _ _ _ h => h) (Or.inl ⟨by rfl, ?_⟩) hHeld ?_ ?_
     rotate_left
     · rintro w' ⟨s0, s1, s2, s3, s4, s5⟩
       go_simp
       with_reducible rfl
     rotate_left
     · simp only [Act.put, List.setIfInBounds_toArray, List.set_cons_zero, List.set_cons_succ, i64_w, i32_w]
       rfl
     refine one_ (i := 1) (N := some 4) #[true, true, true, false, false, false, false, false, false, false, false, false, false, false, false, false] rfl rfl (one_of HT_.out (by kernel_rfl)) (by decide) (fun K hK => ?_)
     refine goes_ Tryz.func16 (by kernel_rfl) rfl #[.agg #[.int .i64 a0_0, .string a0_1, .int .u32 a0_2, .bool a0_3, .slice A0_4 l0_4.length c0_4, .int .i64 a0_5]] (by rfl) rfl rfl (by (try simp only [List.map_toArray, List.map_cons, List.map_nil]); first | done | rfl | (simp only [List.length_drop, List.length_take]; rfl)) ?_
     with_reducible refine (ast_Size.calls k a0_0 a0_1 a0_2 a0_3 _ _ l0_4 a0_5 t126 _ ?side1 ?side2 A2.out).mono ?_
     (case side1 => repeat (first | exact (Kd.C_below HR0_4.out HB.out) | (with_reducible refine Kd.C_alloc ?_ _) | (with_reducible refine Kd.C_drewN ?_ _) | (with_reducible refine Kd.C_drew ?_)))
     (case side2 => exact HC0_4.out)
     rintro e w18 ⟨rfl, hb⟩
     refine ⟨_, rfl, ?_⟩
     have n0_ := Aside0.mk (blk_below (g := gb125) (o := .cells #[.int .i64 a0_0, .string a0_1, .int .u32 a0_2, .bool a0_3, .slice A0_4 l0_4.length c0_4, .int .i64 a0_5] 25 (0, 0)) (by (with_reducible repeat (first | refine blk_drewN ?_ _ | refine blk_drew ?_ | refine blk_alloc ?_ _)); exact BK125.out) hb)
     have n1_ := Aside0.mk (below_step (by repeat (first | (with_reducible first | exact HB.out | apply below_alloc | apply pw_below_drewN | apply below_drew1 | refine below_set ?_ GE125.out) | exact HB.out)) hb)
     clear BK125
     clear HB
     have BK125 := n0_
     have HB := n1_
     clear n0_ n1_
     (try clear hb)
     (try clear hb2)
     (try clear hk)
     (try clear hi)
     refine hK.out _ _ ⟨(blk_cell BK125.out 0).trans rfl, (blk_cell BK125.out 1).trans rfl, (blk_cell BK125.out 2).trans rfl, (blk_cell BK125.out 3).trans rfl, (blk_cell BK125.out 4).trans rfl, (blk_cell BK125.out 5).trans rfl⟩ (fun hHeld => ?_)
     clear hK K
     refine norm_ (a' := ?_) ?_ ?_
     rotate_left
     · show Act.put _ (some 4) _ = _
       simp only [Act.put, List.setIfInBounds_toArray, List.set_cons_zero, List.set_cons_succ, i64_w, i32_w]
       rfl
     refine one_ (i := 3) (N := some 6) #[true, true, true, true, false, false, false, false, false, false, false, false, false, false, false, false] rfl rfl (one_of HT_.out (by kernel_rfl)) (by decide) (fun K hK => ?_)
     refine goes_ Tryz.func13 (by kernel_rfl) rfl #[.agg #[.int .i64 a0_0, .string a0_1, .int .u32 a0_2, .bool a0_3, .slice A0_4 l0_4.length c0_4, .int .i64 a0_5]] (by rfl) rfl rfl (by (try simp only [List.map_toArray, List.map_cons, List.map_nil]); first | done | rfl | (simp only [List.length_drop, List.length_take]; rfl)) ?_
     with_reducible refine (crucibleref08_Size.calls k a0_0 a0_1 a0_2 a0_3 _ _ l0_4 a0_5 t127 _ ?side1 ?side2 A3.out).mono ?_
     (case side1 => repeat (first | exact (Kd.C_below HR0_4.out HB.out) | (with_reducible refine Kd.C_alloc ?_ _) | (with_reducible refine Kd.C_drewN ?_ _) | (with_reducible refine Kd.C_drew ?_)))
     (case side2 => exact HC0_4.out)
     rintro e w19 ⟨rfl, hb⟩
     refine ⟨_, rfl, ?_⟩
     have n0_ := Aside0.mk (blk_below (g := gb125) (o := .cells #[.int .i64 a0_0, .string a0_1, .int .u32 a0_2, .bool a0_3, .slice A0_4 l0_4.length c0_4, .int .i64 a0_5] 25 (0, 0)) (by (with_reducible repeat (first | refine blk_drewN ?_ _ | refine blk_drew ?_ | refine blk_alloc ?_ _)); exact BK125.out) hb)
     have n1_ := Aside0.mk (below_step (by repeat (first | (with_reducible first | exact HB.out | apply below_alloc | apply pw_below_drewN | apply below_drew1 | refine below_set ?_ GE125.out) | exact HB.out)) hb)
     clear BK125
     clear HB
     have BK125 := n0_
     have HB := n1_
     clear n0_ n1_
     (try clear hb)
     (try clear hb2)
     (try clear hk)
     (try clear hi)
     refine hK.out _ _ ⟨(blk_cell BK125.out 0).trans rfl, (blk_cell BK125.out 1).trans rfl, (blk_cell BK125.out 2).trans rfl, (blk_cell BK125.out 3).trans rfl, (blk_cell BK125.out 4).trans rfl, (blk_cell BK125.out 5).trans rfl⟩ (fun hHeld => ?_)
     clear hK K
     refine norm_ (a' := ?_) ?_ ?_
     rotate_left
     · show Act.put _ (some 6) _ = _
       simp only [Act.put, List.setIfInBounds_toArray, List.set_cons_zero, List.set_cons_succ, i64_w, i32_w]
       rfl
     refine pure_ (i := 4) (N := some 7) (v := ?_) (a' := ?_) #[true, true, true, true, true, false, false, false, false, false, false, false, false, false, false, false] rfl rfl (any_of HT_.out (by kernel_rfl)) (fun _ _ _ h => h) (Or.inl ⟨by rfl, ?_⟩) ?_ ?_
     rotate_left
     · intro w'
       go_simp
       with_reducible rfl
     rotate_left
     · simp only [Act.put, List.setIfInBounds_toArray, List.set_cons_zero, List.set_cons_succ, i64_w, i32_w]
       rfl
     refine pure_ (i := 5) (N := some 8) (v := ?_) (a' := ?_) #[true, true, true, true, true, true, false, false, false, false, false, false, false, false, false, false] rfl rfl (any_of HT_.out (by kernel_rfl)) (fun _ _ _ h => h) (Or.inl ⟨by rfl, ?_⟩) ?_ ?_
     rotate_left
     · intro w'
       go_simp
       with_reducible rfl
     rotate_left
     · simp only [Act.put, List.setIfInBounds_toArray, List.set_cons_zero, List.set_cons_succ, i64_w, i32_w]
       rfl
     refine take_ (i := 6) (N := some 9) (v := ?_) (a' := ?_) #[true, true, true, true, true, true, true, false, false, false, false, false, false, false, false, false] rfl rfl (take_ofW HT_.out HW_.out (by kernel_rfl)) (fun _ _ _ h => h) (Or.inl ⟨by rfl, ?_⟩) hHeld ?_ ?_
     rotate_left
     · rintro w' ⟨s0, s1, s2, s3, s4, s5⟩
       go_simp
       with_reducible rfl
     rotate_left
     · simp only [Act.put, List.setIfInBounds_toArray, List.set_cons_zero, List.set_cons_succ, i64_w, i32_w]
       rfl
     refine take_ (i := 8) (N := some 11) (v := ?_) (a' := ?_) #[true, true, true, true, true, true, true, false, true, false, false, false, false, false, false, false] rfl rfl (take_ofW HT_.out HW_.out (by kernel_rfl)) (fun _ _ _ h => h) (Or.inl ⟨by rfl, ?_⟩) hHeld ?_ ?_
     rotate_left
     · rintro w' ⟨s0, s1, s2, s3, s4, s5⟩
       go_simp
       with_reducible rfl
     rotate_left
     · simp only [Act.put, List.setIfInBounds_toArray, List.set_cons_zero, List.set_cons_succ, i64_w, i32_w]
       rfl
     refine one_ (i := 7) (N := some 10) #[true, true, true, true, true, true, true, true, true, false, false, false, false, false, false, false] rfl rfl (one_of HT_.out (by kernel_rfl)) (by decide) (fun K hK => ?_)
     refine goes_ Tryz.func17 (by kernel_rfl) rfl #[.agg #[.int .i64 a0_0, .string a0_1, .int .u32 a0_2, .bool a0_3, .slice A0_4 l0_4.length c0_4, .int .i64 a0_5]] (by rfl) rfl rfl (by (try simp only [List.map_toArray, List.map_cons, List.map_nil]); first | done | rfl | (simp only [List.length_drop, List.length_take]; rfl)) ?_
     with_reducible refine (ast_Depth.calls k a0_0 a0_1 a0_2 a0_3 _ _ l0_4 a0_5 t128 _ ?side1 ?side2 A5.out).mono ?_
     (case side1 => repeat (first | exact (Kd.C_below HR0_4.out HB.out) | (with_reducible refine Kd.C_alloc ?_ _) | (with_reducible refine Kd.C_drewN ?_ _) | (with_reducible refine Kd.C_drew ?_)))
     (case side2 => exact HC0_4.out)
     rintro e w20 ⟨rfl, hb⟩
     refine ⟨_, rfl, ?_⟩
     have n0_ := Aside0.mk (blk_below (g := gb125) (o := .cells #[.int .i64 a0_0, .string a0_1, .int .u32 a0_2, .bool a0_3, .slice A0_4 l0_4.length c0_4, .int .i64 a0_5] 25 (0, 0)) (by (with_reducible repeat (first | refine blk_drewN ?_ _ | refine blk_drew ?_ | refine blk_alloc ?_ _)); exact BK125.out) hb)
     have n1_ := Aside0.mk (below_step (by repeat (first | (with_reducible first | exact HB.out | apply below_alloc | apply pw_below_drewN | apply below_drew1 | refine below_set ?_ GE125.out) | exact HB.out)) hb)
     clear BK125
     clear HB
     have BK125 := n0_
     have HB := n1_
     clear n0_ n1_
     (try clear hb)
     (try clear hb2)
     (try clear hk)
     (try clear hi)
     refine hK.out _ _ ⟨(blk_cell BK125.out 0).trans rfl, (blk_cell BK125.out 1).trans rfl, (blk_cell BK125.out 2).trans rfl, (blk_cell BK125.out 3).trans rfl, (blk_cell BK125.out 4).trans rfl, (blk_cell BK125.out 5).trans rfl⟩ (fun hHeld => ?_)
     clear hK K
     refine norm_ (a' := ?_) ?_ ?_
     rotate_left
     · show Act.put _ (some 10) _ = _
       simp only [Act.put, List.setIfInBounds_toArray, List.set_cons_zero, List.set_cons_succ, i64_w, i32_w]
       rfl
     refine one_ (i := 9) (N := some 12) #[true, true, true, true, true, true, true, true, true, true, false, false, false, false, false, false] rfl rfl (one_of HT_.out (by kernel_rfl)) (by decide) (fun K hK => ?_)
     refine goes_ Tryz.func18 (by kernel_rfl) rfl #[.agg #[.int .i64 a0_0, .string a0_1, .int .u32 a0_2, .bool a0_3, .slice A0_4 l0_4.length c0_4, .int .i64 a0_5]] (by rfl) rfl rfl (by (try simp only [List.map_toArray, List.map_cons, List.map_nil]); first | done | rfl | (simp only [List.length_drop, List.length_take]; rfl)) ?_
     with_reducible refine (crucibleref08_Depth.calls k a0_0 a0_1 a0_2 a0_3 _ _ l0_4 a0_5 t129 _ ?side1 ?side2 A6.out).mono ?_
     (case side1 => repeat (first | exact (Kd.C_below HR0_4.out HB.out) | (with_reducible refine Kd.C_alloc ?_ _) | (with_reducible refine Kd.C_drewN ?_ _) | (with_reducible refine Kd.C_drew ?_)))
     (case side2 => exact HC0_4.out)
     rintro e w21 ⟨rfl, hb⟩
     refine ⟨_, rfl, ?_⟩
     have n0_ := Aside0.mk (blk_below (g := gb125) (o := .cells #[.int .i64 a0_0, .string a0_1, .int .u32 a0_2, .bool a0_3, .slice A0_4 l0_4.length c0_4, .int .i64 a0_5] 25 (0, 0)) (by (with_reducible repeat (first | refine blk_drewN ?_ _ | refine blk_drew ?_ | refine blk_alloc ?_ _)); exact BK125.out) hb)
     have n1_ := Aside0.mk (below_step (by repeat (first | (with_reducible first | exact HB.out | apply below_alloc | apply pw_below_drewN | apply below_drew1 | refine below_set ?_ GE125.out) | exact HB.out)) hb)
     clear BK125
     clear HB
     have BK125 := n0_
     have HB := n1_
     clear n0_ n1_
     (try clear hb)
     (try clear hb2)
     (try clear hk)
     (try clear hi)
     refine hK.out _ _ ⟨(blk_cell BK125.out 0).trans rfl, (blk_cell BK125.out 1).trans rfl, (blk_cell BK125.out 2).trans rfl, (blk_cell BK125.out 3).trans rfl, (blk_cell BK125.out 4).trans rfl, (blk_cell BK125.out 5).trans rfl⟩ (fun hHeld => ?_)
     clear hK K
     refine norm_ (a' := ?_) ?_ ?_
     rotate_left
     · show Act.put _ (some 12) _ = _
       simp only [Act.put, List.setIfInBounds_toArray, List.set_cons_zero, List.set_cons_succ, i64_w, i32_w]
       rfl
     refine pure_ (i := 10) (N := some 13) (v := ?_) (a' := ?_) #[true, true, true, true, true, true, true, true, true, true, true, false, false, false, false, false] rfl rfl (any_of HT_.out (by kernel_rfl)) (fun _ _ _ h => h) (Or.inl ⟨by rfl, ?_⟩) ?_ ?_
     rotate_left
     · intro w'
       go_simp
       with_reducible rfl
     rotate_left
     · simp only [Act.put, List.setIfInBounds_toArray, List.set_cons_zero, List.set_cons_succ, i64_w, i32_w]
       rfl
     refine pure_ (i := 11) (N := some 14) (v := ?_) (a' := ?_) #[true, true, true, true, true, true, true, true, true, true, true, true, false, false, false, false] rfl rfl (any_of HT_.out (by kernel_rfl)) (fun _ _ _ h => h) (Or.inl ⟨by rfl, ?_⟩) ?_ ?_
     rotate_left
     · intro w'
       go_simp
       with_reducible rfl
     rotate_left
     · simp only [Act.put, List.setIfInBounds_toArray, List.set_cons_zero, List.set_cons_succ, i64_w, i32_w]
       rfl
     refine pure_ (i := 12) (N := some 15) (v := ?_) (a' := ?_) #[true, true, true, true, true, true, true, true, true, true, true, true, true, false, false, false] rfl rfl (any_of HT_.out (by kernel_rfl)) (fun _ _ _ h => h) (Or.inl ⟨by rfl, ?_⟩) ?_ ?_
     rotate_left
     · intro w'
       go_simp
       with_reducible rfl
     rotate_left
     · simp only [Act.put, List.setIfInBounds_toArray, List.set_cons_zero, List.set_cons_succ, i64_w, i32_w]
       rfl
     refine pure_ (i := 13) (N := some 16) (v := undef) (a' := ?_) #[true, true, true, true, true, true, true, true, true, true, true, true, true, true, false, false] rfl rfl (any_of HT_.out (by kernel_rfl)) (fun _ _ _ h => h) (Or.inr ⟨by rfl, rfl⟩) ?_ ?_
     rotate_left
     · simp only [Act.put, List.setIfInBounds_toArray, List.set_cons_zero, List.set_cons_succ, i64_w, i32_w]
       rfl
     refine pure_ (i := 14) (N := some 17) (v := ?_) (a' := ?_) #[true, true, true, true, true, true, true, true, true, true, true, true, true, true, true, false] rfl rfl (any_of HT_.out (by kernel_rfl)) (fun _ _ _ h => h) (Or.inl ⟨by rfl, ?_⟩) ?_ ?_
     rotate_left
     · intro w'
       go_simp
       with_reducible rfl
     rotate_left
     · simp only [Act.put, List.setIfInBounds_toArray, List.set_cons_zero, List.set_cons_succ, i64_w, i32_w]
       rfl
     refine pure_ (i := 15) (N := some 2) (v := ?_) (a' := ?_) #[true, true, true, true, true, true, true, true, true, true, true, true, true, true, true, true] rfl rfl (any_of HT_.out (by kernel_rfl)) (fun _ _ _ h => h) (Or.inl ⟨by rfl, ?_⟩) ?_ ?_
     rotate_left
     · intro w'
       go_simp
       with_reducible rfl
     rotate_left
     · simp only [Act.put, List.setIfInBounds_toArray, List.set_cons_zero, List.set_cons_succ, i64_w, i32_w]
       rfl
     refine done_ (done_of HT_.out (by kernel_rfl)) ?_
     try go_wp2
     go_ret
     exact ⟨by first | rfl | (simp [errW_none, errW_some] <;> rfl) | (simp [*, errW_none, errW_some] <;> rfl), by repeat (first | (with_reducible first | exact HB.out | apply below_alloc | apply pw_below_drewN | apply below_drew1 | refine below_set ?_ GE125.out) | exact HB.out)⟩
 · rw [if_neg c4] at H
   have c4b0 : (t126 == t127) = false := beq_eq_false_iff_ne.mpr c4
   have c4b1 : (t126 != t127) = true := bne_iff_ne.mpr c4
   obtain rfl := Option.some.inj H
   go_enter Tryz.func6, Tryz.ntmps6
   try go_wp2_with (first | ((with_reducible refine gate_dst (N := 1) rfl ?_); refine box_event ?hg (N := 1) ?hd (cs := #[.int .i64 a0_0, .string a0_1, .int .u32 a0_2, .bool a0_3, .slice A0_4 l0_4.length c0_4, .int .i64 a0_5]) (t := 25) ?hr ?_; (case hd => rfl); (case hg => rfl); (case hr => first | (go_simp; done) | (go_simp; rfl)); intro gb125 hg w22 hbox hb; have n0_ := Aside0.mk (below_step (by repeat (first | (with_reducible first | exact HB.out | apply below_alloc | apply pw_below_drewN | apply below_drew1) | exact HB.out)) hb); have n1_ := Aside0.mk (hbox); have n2_ := Aside0.mk ((by rw [hg]; exact (below_size (by repeat (first | (with_reducible first | exact HB.out | apply below_alloc | apply pw_below_drewN | apply below_drew1) | exact HB.out))) : w.heap.size ≤ gb125)); have n3_ := Aside0.mk ((by rw [hg]; exact (below_size (by repeat (first | (with_reducible first | exact HB.out | apply below_alloc | apply pw_below_drewN | apply below_drew1) | exact HB.out))) : w.heap.size ≤ gb125)); clear HB; have HB := n0_; have BK125 := n1_; have GW125 := n2_; have GE125 := n3_; clear n0_ n1_ n2_ n3_; clear hb hbox hg))
   have n0_ := Aside0.mk (blk_drew BK125.out)
   have n1_ := Aside0.mk (below_drew1 HB.out)
   clear BK125
   clear HB
   have BK125 := n0_
   have HB := n1_
   clear n0_ n1_
   refine start_ (n := 16) (S := fun w' => w'.cell? ⟨gb125, 0, none⟩ = some (.int .i64 a0_0) ∧ w'.cell? ⟨gb125, 1, none⟩ = some (.string a0_1) ∧ w'.cell? ⟨gb125, 2, none⟩ = some (.int .u32 a0_2) ∧ w'.cell? ⟨gb125, 3, none⟩ = some (.bool a0_3) ∧ w'.cell? ⟨gb125, 4, none⟩ = some (.slice A0_4 l0_4.length c0_4) ∧ w'.cell? ⟨gb125, 5, none⟩ = some (.int .i64 a0_5)) (ds := []) #[false, false, false, false, false, false, false, false, false, false, false, false, false, false, false, false] (by kernel_rfl) rfl rfl ⟨(blk_cell BK125.out 0).trans rfl, (blk_cell BK125.out 1).trans rfl, (blk_cell BK125.out 2).trans rfl, (blk_cell BK125.out 3).trans rfl, (blk_cell BK125.out 4).trans rfl, (blk_cell BK125.out 5).trans rfl⟩ (fun hHeld => ?_); refine with_tabW cruciblelaw08_AstSizes.tab1 cruciblelaw08_AstSizes.bits1 (fun HT_ HW_ => ?_)
   generalize w22.drew = w23 at BK125 HB hHeld ⊢
   refine take_ (i := 0) (N := some 3) (v := ?_) (a' := ?_) #[true, false, false, false, false, false, false, false, false, false, false, false, false, false, false, false] rfl rfl (take_ofW HT_.out HW_.out (by kernel_rfl)) (fun _ _ _ h => h) (Or.inl ⟨by rfl, ?_⟩) hHeld ?_ ?_
   rotate_left
   · rintro w' ⟨s0, s1, s2, s3, s4, s5⟩
     go_simp
     with_reducible rfl
   rotate_left
   · simp only [Act.put, List.setIfInBounds_toArray, List.set_cons_zero, List.set_cons_succ, i64_w, i32_w]
     rfl
   refine take_ (i := 2) (N := some 5) (v := ?_) (a' := ?_) #[true, false, true, false, false, false, false, false, false, false, false, false, false, false, false, false] rfl rfl (take_ofW HT_.out HW_.out (by kernel_rfl)) (fun _ _ _ h => h) (Or.inl ⟨by rfl, ?_⟩) hHeld ?_ ?_
   rotate_left
   · rintro w' ⟨s0, s1, s2, s3, s4, s5⟩
     go_simp
     with_reducible rfl
   rotate_left
   · simp only [Act.put, List.setIfInBounds_toArray, List.set_cons_zero, List.set_cons_succ, i64_w, i32_w]
     rfl
   refine one_ (i := 1) (N := some 4) #[true, true, true, false, false, false, false, false, false, false, false, false, false, false, false, false] rfl rfl (one_of HT_.out (by kernel_rfl)) (by decide) (fun K hK => ?_)
   refine goes_ Tryz.func16 (by kernel_rfl) rfl #[.agg #[.int .i64 a0_0, .string a0_1, .int .u32 a0_2, .bool a0_3, .slice A0_4 l0_4.length c0_4, .int .i64 a0_5]] (by rfl) rfl rfl (by (try simp only [List.map_toArray, List.map_cons, List.map_nil]); first | done | rfl | (simp only [List.length_drop, List.length_take]; rfl)) ?_
   with_reducible refine (ast_Size.calls k a0_0 a0_1 a0_2 a0_3 _ _ l0_4 a0_5 t126 _ ?side1 ?side2 A2.out).mono ?_
   (case side1 => repeat (first | exact (Kd.C_below HR0_4.out HB.out) | (with_reducible refine Kd.C_alloc ?_ _) | (with_reducible refine Kd.C_drewN ?_ _) | (with_reducible refine Kd.C_drew ?_)))
   (case side2 => exact HC0_4.out)
   rintro e w24 ⟨rfl, hb⟩
   refine ⟨_, rfl, ?_⟩
   have n0_ := Aside0.mk (blk_below (g := gb125) (o := .cells #[.int .i64 a0_0, .string a0_1, .int .u32 a0_2, .bool a0_3, .slice A0_4 l0_4.length c0_4, .int .i64 a0_5] 25 (0, 0)) (by (with_reducible repeat (first | refine blk_drewN ?_ _ | refine blk_drew ?_ | refine blk_alloc ?_ _)); exact BK125.out) hb)
   have n1_ := Aside0.mk (below_step (by repeat (first | (with_reducible first | exact HB.out | apply below_alloc | apply pw_below_drewN | apply below_drew1 | refine below_set ?_ GE125.out) | exact HB.out)) hb)
   clear BK125
   clear HB
   have BK125 := n0_
   have HB := n1_
   clear n0_ n1_
   (try clear hb)
   (try clear hb2)
   (try clear hk)
   (try clear hi)
   refine hK.out _ _ ⟨(blk_cell BK125.out 0).trans rfl, (blk_cell BK125.out 1).trans rfl, (blk_cell BK125.out 2).trans rfl, (blk_cell BK125.out 3).trans rfl, (blk_cell BK125.out 4).trans rfl, (blk_cell BK125.out 5).trans rfl⟩ (fun hHeld => ?_)
   clear hK K
   refine norm_ (a' := ?_) ?_ ?_
   rotate_left
   · show Act.put _ (some 4) _ = _
     simp only [Act.put, List.setIfInBounds_toArray, List.set_cons_zero, List.set_cons_succ, i64_w, i32_w]
     rfl
   refine one_ (i := 3) (N := some 6) #[true, true, true, true, false, false, false, false, false, false, false, false, false, false, false, false] rfl rfl (one_of HT_.out (by kernel_rfl)) (by decide) (fun K hK => ?_)
   refine goes_ Tryz.func13 (by kernel_rfl) rfl #[.agg #[.int .i64 a0_0, .string a0_1, .int .u32 a0_2, .bool a0_3, .slice A0_4 l0_4.length c0_4, .int .i64 a0_5]] (by rfl) rfl rfl (by (try simp only [List.map_toArray, List.map_cons, List.map_nil]); first | done | rfl | (simp only [List.length_drop, List.length_take]; rfl)) ?_
   with_reducible refine (crucibleref08_Size.calls k a0_0 a0_1 a0_2 a0_3 _ _ l0_4 a0_5 t127 _ ?side1 ?side2 A3.out).mono ?_
   (case side1 => repeat (first | exact (Kd.C_below HR0_4.out HB.out) | (with_reducible refine Kd.C_alloc ?_ _) | (with_reducible refine Kd.C_drewN ?_ _) | (with_reducible refine Kd.C_drew ?_)))
   (case side2 => exact HC0_4.out)
   rintro e w25 ⟨rfl, hb⟩
   refine ⟨_, rfl, ?_⟩
   have n0_ := Aside0.mk (blk_below (g := gb125) (o := .cells #[.int .i64 a0_0, .string a0_1, .int .u32 a0_2, .bool a0_3, .slice A0_4 l0_4.length c0_4, .int .i64 a0_5] 25 (0, 0)) (by (with_reducible repeat (first | refine blk_drewN ?_ _ | refine blk_drew ?_ | refine blk_alloc ?_ _)); exact BK125.out) hb)
   have n1_ := Aside0.mk (below_step (by repeat (first | (with_reducible first | exact HB.out | apply below_alloc | apply pw_below_drewN | apply below_drew1 | refine below_set ?_ GE125.out) | exact HB.out)) hb)
   clear BK125
   clear HB
   have BK125 := n0_
   have HB := n1_
   clear n0_ n1_
   (try clear hb)
   (try clear hb2)
   (try clear hk)
   (try clear hi)
   refine hK.out _ _ ⟨(blk_cell BK125.out 0).trans rfl, (blk_cell BK125.out 1).trans rfl, (blk_cell BK125.out 2).trans rfl, (blk_cell BK125.out 3).trans rfl, (blk_cell BK125.out 4).trans rfl, (blk_cell BK125.out 5).trans rfl⟩ (fun hHeld => ?_)
   clear hK K
   refine norm_ (a' := ?_) ?_ ?_
   rotate_left
   · show Act.put _ (some 6) _ = _
     simp only [Act.put, List.setIfInBounds_toArray, List.set_cons_zero, List.set_cons_succ, i64_w, i32_w]
     rfl
   refine pure_ (i := 4) (N := some 7) (v := ?_) (a' := ?_) #[true, true, true, true, true, false, false, false, false, false, false, false, false, false, false, false] rfl rfl (any_of HT_.out (by kernel_rfl)) (fun _ _ _ h => h) (Or.inl ⟨by rfl, ?_⟩) ?_ ?_
   rotate_left
   · intro w'
     go_simp
     with_reducible rfl
   rotate_left
   · simp only [Act.put, List.setIfInBounds_toArray, List.set_cons_zero, List.set_cons_succ, i64_w, i32_w]
     rfl
   refine pure_ (i := 5) (N := some 8) (v := ?_) (a' := ?_) #[true, true, true, true, true, true, false, false, false, false, false, false, false, false, false, false] rfl rfl (any_of HT_.out (by kernel_rfl)) (fun _ _ _ h => h) (Or.inl ⟨by rfl, ?_⟩) ?_ ?_
   rotate_left
   · intro w'
     go_simp
     with_reducible rfl
   rotate_left
   · simp only [Act.put, List.setIfInBounds_toArray, List.set_cons_zero, List.set_cons_succ, i64_w, i32_w]
     rfl
   refine pure_ (i := 6) (N := some 9) (v := undef) (a' := ?_) #[true, true, true, true, true, true, true, false, false, false, false, false, false, false, false, false] rfl rfl (any_of HT_.out (by kernel_rfl)) (fun _ _ _ h => h) (Or.inr ⟨by rfl, rfl⟩) ?_ ?_
   rotate_left
   · simp only [Act.put, List.setIfInBounds_toArray, List.set_cons_zero, List.set_cons_succ, i64_w, i32_w]
     rfl
   refine pure_ (i := 7) (N := some 10) (v := undef) (a' := ?_) #[true, true, true, true, true, true, true, true, false, false, false, false, false, false, false, false] rfl rfl (any_of HT_.out (by kernel_rfl)) (fun _ _ _ h => h) (Or.inr ⟨by rfl, rfl⟩) ?_ ?_
   rotate_left
   · simp only [Act.put, List.setIfInBounds_toArray, List.set_cons_zero, List.set_cons_succ, i64_w, i32_w]
     rfl
   refine pure_ (i := 8) (N := some 11) (v := undef) (a' := ?_) #[true, true, true, true, true, true, true, true, true, false, false, false, false, false, false, false] rfl rfl (any_of HT_.out (by kernel_rfl)) (fun _ _ _ h => h) (Or.inr ⟨by rfl, rfl⟩) ?_ ?_
   rotate_left
   · simp only [Act.put, List.setIfInBounds_toArray, List.set_cons_zero, List.set_cons_succ, i64_w, i32_w]
     rfl
   refine pure_ (i := 9) (N := some 12) (v := undef) (a' := ?_) #[true, true, true, true, true, true, true, true, true, true, false, false, false, false, false, false] rfl rfl (any_of HT_.out (by kernel_rfl)) (fun _ _ _ h => h) (Or.inr ⟨by rfl, rfl⟩) ?_ ?_
   rotate_left
   · simp only [Act.put, List.setIfInBounds_toArray, List.set_cons_zero, List.set_cons_succ, i64_w, i32_w]
     rfl
   refine pure_ (i := 10) (N := some 13) (v := undef) (a' := ?_) #[true, true, true, true, true, true, true, true, true, true, true, false, false, false, false, false] rfl rfl (any_of HT_.out (by kernel_rfl)) (fun _ _ _ h => h) (Or.inr ⟨by rfl, rfl⟩) ?_ ?_
   rotate_left
   · simp only [Act.put, List.setIfInBounds_toArray, List.set_cons_zero, List.set_cons_succ, i64_w, i32_w]
     rfl
   refine pure_ (i := 11) (N := some 14) (v := ?_) (a' := ?_) #[true, true, true, true, true, true, true, true, true, true, true, true, false, false, false, false] rfl rfl (any_of HT_.out (by kernel_rfl)) (fun _ _ _ h => h) (Or.inl ⟨by rfl, ?_⟩) ?_ ?_
   rotate_left
   · intro w'
     go_simp
     with_reducible rfl
   rotate_left
   · simp only [Act.put, List.setIfInBounds_toArray, List.set_cons_zero, List.set_cons_succ, i64_w, i32_w]
     rfl
   refine pure_ (i := 12) (N := some 15) (v := ?_) (a' := ?_) #[true, true, true, true, true, true, true, true, true, true, true, true, true, false, false, false] rfl rfl (any_of HT_.out (by kernel_rfl)) (fun _ _ _ h => h) (Or.inl ⟨by rfl, ?_⟩) ?_ ?_
   rotate_left
   · intro w'
     go_simp
     with_reducible rfl
   rotate_left
   · simp only [Act.put, List.setIfInBounds_toArray, List.set_cons_zero, List.set_cons_succ, i64_w, i32_w]
     rfl
   refine pure_ (i := 13) (N := some 16) (v := undef) (a' := ?_) #[true, true, true, true, true, true, true, true, true, true, true, true, true, true, false, false] rfl rfl (any_of HT_.out (by kernel_rfl)) (fun _ _ _ h => h) (Or.inr ⟨by rfl, rfl⟩) ?_ ?_
   rotate_left
   · simp only [Act.put, List.setIfInBounds_toArray, List.set_cons_zero, List.set_cons_succ, i64_w, i32_w]
     rfl
   refine pure_ (i := 14) (N := some 17) (v := ?_) (a' := ?_) #[true, true, true, true, true, true, true, true, true, true, true, true, true, true, true, false] rfl rfl (any_of HT_.out (by kernel_rfl)) (fun _ _ _ h => h) (Or.inl ⟨by rfl, ?_⟩) ?_ ?_
   rotate_left
   · intro w'
     go_simp
     with_reducible rfl
   rotate_left
   · simp only [Act.put, List.setIfInBounds_toArray, List.set_cons_zero, List.set_cons_succ, i64_w, i32_w]
     rfl
   refine pure_ (i := 15) (N := some 2) (v := ?_) (a' := ?_) #[true, true, true, true, true, true, true, true, true, true, true, true, true, true, true, true] rfl rfl (any_of HT_.out (by kernel_rfl)) (fun _ _ _ h => h) (Or.inl ⟨by rfl, ?_⟩) ?_ ?_
   rotate_left
   · intro w'
     go_simp
     with_reducible rfl
   rotate_left
   · simp only [Act.put, List.setIfInBounds_toArray, List.set_cons_zero, List.set_cons_succ, i64_w, i32_w]
     rfl
   refine done_ (done_of HT_.out (by kernel_rfl)) ?_
   try go_wp2
   go_ret
   exact ⟨by first | rfl | (simp [errW_none, errW_some] <;> rfl) | (simp [*, errW_none, errW_some] <;> rfl), by repeat (first | (with_reducible first | exact HB.out | apply below_alloc | apply pw_below_drewN | apply below_drew1 | refine below_set ?_ GE125.out) | exact HB.out)⟩
end Go.Proofs.YtboojhadfhpdeaaGreatDoor.Q
namespace Go.Proofs.YtboojhadfhpdeaaGreatDoor.Q
open Go.RowKit Go.Proofs.YtboojhadfhpdeaaGreatDoorW.PrintWords Go.Proofs.YtboojhadfhpdeaaGreatDoorW.PrintLast Go.Proofs.YtboojhadfhpdeaaGreatDoorW.PrintMore
theorem up_ {α : Type} {f : Nat → Option α} (h : ∀ k, LeO (f k) (f (k + 1))) {k k' : Nat} (hk : k ≤ k') {r : α} (e : f k = some r) : f k' = some r := by
 induction hk with
 | refl => exact e
 | step _ ih => exact h _ _ ih
inductive Fit : S25 → Prop
 | mk (x : S25) (h : x.f4.length ≤ 9223372036854775807) (hk : ∀ y ∈ x.f4, Fit y) : Fit x
theorem rd_mem {xs : List S25} {i : Nat} (h : i < xs.length) : rd_T25 xs (i : Int) ∈ xs := by
 have : rd_T25 xs (i : Int) = xs[i] := by simp [rd_T25, h]
 rw [this]; exact List.getElem_mem h
theorem w64 {i n : Nat} (h : i < n) (hn : n ≤ 9223372036854775807) : wrap64 ((i : Int) + 1) = ((i + 1 : Nat) : Int) := by unfold wrap64; omega
theorem w64' {a : Int} (h : 0 ≤ a) (hn : a ≤ 262144) : wrap64 (a + 1) = a + 1 := by unfold wrap64; omega
def Cnt (x : S25) : Prop := ∀ a : Int, 0 ≤ a → a ≤ 262144 → ∃ k r, 0 ≤ r ∧ r ≤ 262145 ∧ ast_count.f k x.f0 x.f1 x.f2 x.f3 x.f4 x.f5 a = some r ∧ crucibleref08_counted.f k x.f0 x.f1 x.f2 x.f3 x.f4 x.f5 a = some r
theorem count_loop (x : S25) (hl : x.f4.length ≤ 9223372036854775807) (hk : ∀ y ∈ x.f4, Cnt y) : ∀ (d i : Nat), i + d = x.f4.length → ∀ c : Int, 0 ≤ c → c ≤ 262145 →
 ∃ k r, 0 ≤ r ∧ r ≤ 262145 ∧ ast_count.l0 k c x.f4 x.f4.length i = some r ∧ crucibleref08_counted.l0 k c i x.f0 x.f1 x.f2 x.f3 x.f4 x.f5 = some r
 | 0, i, hd, c, h0, h1 => by
  refine ⟨1, c, h0, h1, ?_, ?_⟩
  · unfold ast_count.l0
    rw [if_neg (by omega)]
  · unfold crucibleref08_counted.l0
    rw [if_neg (by omega)]
 | d + 1, i, hd, c, h0, h1 => by
  have hi : i < x.f4.length := by omega
  by_cases hc : c ≤ 262144
  · obtain ⟨k, r, r0, r1, e1, e2⟩ := hk _ (rd_mem hi) c h0 hc
    obtain ⟨k', r', r0', r1', e1', e2'⟩ := count_loop x hl hk d (i + 1) (by omega) r r0 r1
    refine ⟨max k k' + 1, r', r0', r1', ?_, ?_⟩
    · unfold ast_count.l0
      rw [if_pos (by omega), if_pos (by omega), if_pos (by omega), if_neg (by omega), up_ (fun k => ast_count.mono _ _ _ _ _ _ _ k) (Nat.le_max_left k k') e1, Option.bind_some, w64 hi hl]
      exact up_ (fun k => (ast_count.mono_l k).2 _ _ _ _) (Nat.le_max_right k k') e1'
    · unfold crucibleref08_counted.l0
      rw [if_pos (by omega), if_pos (by omega), if_pos (by omega), up_ (fun k => crucibleref08_counted.mono _ _ _ _ _ _ _ k) (Nat.le_max_left k k') e2, Option.bind_some, w64 hi hl]
      exact up_ (fun k => (crucibleref08_counted.mono_l k).2 _ _ _ _ _ _ _ _) (Nat.le_max_right k k') e2'
  · refine ⟨1, c, h0, h1, ?_, ?_⟩
    · unfold ast_count.l0
      rw [if_pos (by omega), if_pos (by omega), if_pos (by omega), if_pos (by omega)]
    · unfold crucibleref08_counted.l0
      rw [if_pos (by omega), if_neg (by omega)]
theorem count_all {x : S25} (h : Fit x) : Cnt x := by
 induction h with
 | mk x hl _ ih =>
  intro a h0 h1
  obtain ⟨k, r, r0, r1, e1, e2⟩ := count_loop x hl ih x.f4.length 0 (by omega) (a + 1) (by omega) (by omega)
  refine ⟨k + 1, r, r0, r1, ?_, ?_⟩
  · unfold ast_count.f
    rw [w64' h0 h1]
    exact e1
  · unfold crucibleref08_counted.f
    rw [w64' h0 h1]
    exact e2
def Dep (x : S25) : Prop := ∃ k r, ast_deep.f k x.f0 x.f1 x.f2 x.f3 x.f4 x.f5 = some r ∧ crucibleref08_depth.f k x.f0 x.f1 x.f2 x.f3 x.f4 x.f5 = some r
theorem deep_loop (x : S25) (hl : x.f4.length ≤ 9223372036854775807) (hk : ∀ y ∈ x.f4, Dep y) : ∀ (d i : Nat), i + d = x.f4.length → ∀ c : Int,
 ∃ k r, ast_deep.l0 k c x.f4 x.f4.length i = some r ∧ crucibleref08_depth.l0 k c i x.f0 x.f1 x.f2 x.f3 x.f4 x.f5 = some r
 | 0, i, hd, c => by
  refine ⟨1, wrap64 (c + 1), ?_, ?_⟩
  · unfold ast_deep.l0
    rw [if_neg (by omega)]
  · unfold crucibleref08_depth.l0
    rw [if_neg (by omega)]
 | d + 1, i, hd, c => by
  have hi : i < x.f4.length := by omega
  obtain ⟨k, r, e1, e2⟩ := hk _ (rd_mem hi)
  obtain ⟨k', r', e1', e2'⟩ := deep_loop x hl hk d (i + 1) (by omega) (mx c r)
  refine ⟨max k k' + 1, r', ?_, ?_⟩
  · unfold ast_deep.l0
    rw [if_pos (by omega), if_pos (by omega), if_pos (by omega), up_ (fun k => ast_deep.mono _ _ _ _ _ _ k) (Nat.le_max_left k k') e1, Option.bind_some, w64 hi hl]
    exact up_ (fun k => (ast_deep.mono_l k).2 _ _ _ _) (Nat.le_max_right k k') e1'
  · unfold crucibleref08_depth.l0
    rw [if_pos (by omega), if_pos (by omega), up_ (fun k => crucibleref08_depth.mono _ _ _ _ _ _ k) (Nat.le_max_left k k') e2, Option.bind_some, w64 hi hl]
    have e3 := up_ (fun k => (crucibleref08_depth.mono_l k).2 _ _ _ _ _ _ _ _) (Nat.le_max_right k k') e2'
    unfold mx at e3
    by_cases hc : r > c
    · rw [if_pos hc]
      rw [if_pos (show c < r from hc)] at e3
      exact e3
    · rw [if_neg hc]
      rw [if_neg (show ¬ c < r from hc)] at e3
      exact e3
theorem deep_all {x : S25} (h : Fit x) : Dep x := by
 induction h with
 | mk x hl _ ih =>
  obtain ⟨k, r, e1, e2⟩ := deep_loop x hl ih x.f4.length 0 (by omega) 0
  refine ⟨k + 1, r, ?_, ?_⟩
  · unfold ast_deep.f
    exact e1
  · unfold crucibleref08_depth.f
    exact e2
theorem sizes_all {x : S25} (h : Fit x) : ∃ k, cruciblelaw08_AstSizes.f k x.f0 x.f1 x.f2 x.f3 x.f4 x.f5 = some true := by
 obtain ⟨k, r, r0, r1, e1, e2⟩ := count_all h 0 (by omega) (by omega)
 obtain ⟨k', r', e1', e2'⟩ := deep_all h
 have u1 := up_ (fun k => ast_count.mono _ _ _ _ _ _ _ k) (Nat.le_max_left k k') e1
 have u2 := up_ (fun k => crucibleref08_counted.mono _ _ _ _ _ _ _ k) (Nat.le_max_left k k') e2
 have u3 := up_ (fun k => ast_deep.mono _ _ _ _ _ _ k) (Nat.le_max_right k k') e1'
 have u4 := up_ (fun k => crucibleref08_depth.mono _ _ _ _ _ _ k) (Nat.le_max_right k k') e2'
 refine ⟨max k k', ?_⟩
 unfold cruciblelaw08_AstSizes.f ast_Size.f crucibleref08_Size.f ast_Depth.f crucibleref08_Depth.f ast_Size.f crucibleref08_Size.f cruciblelaw08_awake.f
 rw [u1, u2, u3, u4]
 simp only [Option.bind_some]
 by_cases hr : r ≤ 262144
 · rw [if_pos hr, if_neg (show ¬ r > 262144 by omega)]
   simp only [Option.bind_some, if_true]
   by_cases hz : r = 0
   · rw [if_pos hz]
     simp
   · rw [if_neg hz]
     simp
 · rw [if_neg hr, if_pos (show r > 262144 by omega)]
   simp
theorem fit_of_K : ∀ (n : Nat) (x : S25), SizeOf.sizeOf x < n → ∀ {w : World} {cs : List Value}, k25.K w x cs → Fit x
 | 0, x, hn, _, _, _ => absurd hn (Nat.not_lt_zero _)
 | n + 1, x, hn, w, cs, hK => by
  obtain ⟨A4, c4, _, _, hC⟩ := k25_open hK
  refine Fit.mk x hC.2.1 (fun y hy => ?_)
  obtain ⟨j, hj, rfl⟩ := List.mem_iff_getElem.1 hy
  obtain ⟨ad, _, hc⟩ := hC.2.2 (by omega)
  obtain ⟨c, _, hk, _⟩ := hc j _ (List.getElem?_eq_getElem hj)
  refine fit_of_K n _ ?_ hk
  have h1 := List.sizeOf_lt_of_mem hy
  have h2 : SizeOf.sizeOf x = 1 + SizeOf.sizeOf x.f0 + SizeOf.sizeOf x.f1 + SizeOf.sizeOf x.f2 + SizeOf.sizeOf x.f3 + SizeOf.sizeOf x.f4 + SizeOf.sizeOf x.f5 := by cases x; simp [S25.mk.sizeOf_spec]
  omega
theorem fit_of_C {w : World} {A : Option Addr} {x : S25} (h : Kd.C k25 w A x.f4.length x.f4) : Fit x := by
 refine Fit.mk x h.2.1 (fun y hy => ?_)
 obtain ⟨j, hj, rfl⟩ := List.mem_iff_getElem.1 hy
 obtain ⟨ad, _, hc⟩ := h.2.2 (by omega)
 obtain ⟨c, _, hk, _⟩ := hc j _ (List.getElem?_eq_getElem hj)
 exact fit_of_K _ _ (Nat.lt_succ_self _) hk
end Go.Proofs.YtboojhadfhpdeaaGreatDoor.Q
namespace Go.Proofs.YtboojhadfhpdeaaGreatDoor.astSizes
open Go.ChangeShapes Go.WideShapes Go.ChangeAt Go.RowKit
set_option linter.unusedVariables false
theorem laid_met (os : Os) : laidMet Tryz.prog Rows.astSizesRow.laid (((Frame.laidWorld os)).forCall (fun _ _ => 0) ⟨#[], #[Value.agg #[.int .i64 0, .string ByteArray.empty, .int .u32 0, .bool false, .slice none 0 0, .int .i64 0]], []⟩).memory :=
 laidMet_of_run' 10 (by kernel_rfl) (by kernel_rfl)
theorem reads (os : Os) {H : Type} (enc : TypeId × Value → H) : ∃ places, DataW.whole enc Tryz.prog ((Frame.laidWorld os).forCall (fun _ _ => 0) ⟨#[], #[Value.agg #[.int .i64 0, .string ByteArray.empty, .int .u32 0, .bool false, .slice none 0 0, .int .i64 0]], []⟩).memory Tryz.f6.params.toList Rows.astSizesSpec.vars false (#[Value.agg #[.int .i64 0, .string ByteArray.empty, .int .u32 0, .bool false, .slice none 0 0, .int .i64 0]] : Array Value).toList 8 = some ([.agg [.lit (.int .i64 0), .lit (.string []), .lit (.int .u32 0), .lit (.bool false), .nil, .lit (.int .i64 0)]], [], places) :=
 ⟨[], by kernel_rfl⟩
set_option maxRecDepth 100000 in
theorem lifted (os : Os) (started : os.Started) (H : Type) (enc : TypeId × Value → H) (F : Stop.Interp) :
 ReturnsInHanded {} Tryz.checked os 6 .any ((OpenSpec.ofChange Rows.astSizesSpec).preRow enc Tryz.prog Tryz.f6 Rows.astSizesRow.domain false Rows.astSizesRow.laid) (((OpenSpec.ofChange Rows.astSizesSpec).at F).post enc Tryz.prog Tryz.f6 false true false false) := by
 obtain ⟨places, hx⟩ := reads os enc
 refine returnsInHanded_of_row (C := Tryz.checked) (s := (OpenSpec.ofChange Rows.astSizesSpec)) Frame.own started (by kernel_rfl) Tryz.func6
  (witness_row_atRef (enc := enc) (C := Tryz.checked) false (Frame.laidWorld os) #[Value.agg #[.int .i64 0, .string ByteArray.empty, .int .u32 0, .bool false, .slice none 0 0, .int .i64 0]] rfl (by kernel_rfl) (by kernel_rfl) (by kernel_rfl)
   (OpenSpec.preRow_of_cond 8 hx (by kernel_rfl) (fun k hk => by cases hk) (by kernel_rfl) (laid_met os))) ?_
 intro W base args ds gs before hval0 hW _ hcond hsz0 hL hS _
 have hval : ∀ (j : Nat) t v, Tryz.f6.params[j]? = some t → args[j]? = some v → Value.okWide Tryz.prog W .any base t v := hval0
 have hW' := hW
 obtain ⟨p, q, hA0, hV, rfl, hfz, hnd⟩ := hW
 have hA : DataW.TrodAll enc Tryz.prog W 0 (fun _ => true) true Tryz.f6.params.toList args.toList ds p := hA0
 rw [Tryz.params6] at hA hval
 obtain ⟨v0, vs0, d0, ds0, p0, q0, hargs, rfl, rfl, h0, r0⟩ := trodAll_cons hA
 obtain ⟨rfl, rfl, rfl⟩ := trodAll_nil r0
 obtain rfl : args = #[v0] := by cases args; simp_all
 obtain ⟨rfl, rfl⟩ := trodVars_none hV
 obtain ⟨cs0, rfl, hz0⟩ := okWide_struct Tryz.underlying25 (hval 0 25 v0 rfl rfl)
 have k0 := h0
 have lt0 : ∀ x ∈ p0, x.block < W.heap.size := by obtain ⟨m, hm⟩ := k0; exact DataW.trod_lt m _ _ _ hm
 obtain ⟨fuel0, hf0⟩ := h0
 obtain ⟨x0, hK0⟩ := Q.rd_25 fuel0 _ _ hf0
 obtain ⟨A0, c0, hcs0, hle0, hC0⟩ := Q.k25_open hK0
 have he0 : cs0 = #[.int .i64 x0.f0, .string x0.f1, .int .u32 x0.f2, .bool x0.f3, .slice A0 x0.f4.length c0, .int .i64 x0.f5] := by
  have := congrArg List.toArray hcs0
  simpa [Value.cells] using this
 clear hA0 hval0 hsz0
 obtain ⟨k, hk⟩ := Q.sizes_all (Q.fit_of_C hC0)
 refine Go.Proofs.YtboojhadfhpdeaaGreatDoorW.PrintWords.calls_of_args (by rw [he0]) ((Q.cruciblelaw08_AstSizes.calls k x0.f0 x0.f1 x0.f2 x0.f3 A0 c0 x0.f4 x0.f5 true W hC0 hle0 (Frame.prem hS) hk).mono fun e W' ⟨he, bel⟩ => ?_)
 subst he
 exact ⟨_, rfl, _, _, _, [], _, [], hW', trodAll_mk1 (shut_bool Tryz.underlying4 _), (trodAll_cons_mk (Below.trod Frame.laidOut (by kernel_rfl) (of_decide_eq_true (by kernel_rfl)) k0 bel lt0) trodAll_mk0), rfl, bel.frame _, fun h => by cases h⟩
theorem said : Rows.AstSizesSaid :=
 OpenClaim.holds_of_cond 6 Tryz.f6 rfl rfl rfl rfl rfl rfl rfl ⟨rfl, rfl, rfl, rfl, rfl⟩ rfl rfl rfl rfl rfl (by kernel_rfl) Tryz.func6 (by kernel_rfl)
  (of_decide_eq_true (by kernel_rfl)) (by unfold Func.isWrapper; first | (rw [if_pos (by decide +kernel)]; kernel_rfl) | (rw [if_neg (by decide +kernel)]; exact ⟨rfl, rfl⟩))
  (fun os started H enc _ F => by rw [OpenClaim.pre_eq_preRow]; exact lifted os started H enc F)
theorem plain (f : FuncId) (fn : Func) (hf : Tryz.pinned.checked.prog.funcNamed "crucible/cruciblelaw08.AstSizes" = some f) (hfn : Tryz.pinned.checked.prog.funcs[f]? = some fn) :
 false = Tryz.pinned.checked.prog.looks [] ∧ ∀ (j : Nat) t, fn.params[j]? = some t → Tryz.pinned.checked.prog.wantsStandIn t = false := by
 obtain rfl : f = 6 := Option.some.inj ((show Tryz.prog.funcNamed "crucible/cruciblelaw08.AstSizes" = some 6 by kernel_rfl).symm.trans hf) |>.symm
 obtain rfl : fn = Tryz.f6 := (Option.some.inj (Tryz.func6.symm.trans hfn)).symm
 refine ⟨by kernel_rfl, fun j t ht => ?_⟩
 rw [Tryz.params6] at ht
 have hm : t ∈ (#[25] : Array TypeId) := Array.mem_of_getElem? ht
 obtain rfl : t = 25 := by simpa using hm
 exact (show Tryz.prog.wantsStandIn 25 = false by kernel_rfl)
theorem card : Rows.AstSizesCardSaid :=
 Claim7.holds_tied_plain_at .later [] _ _ _ _ said (fun _ h => by cases h) (by kernel_rfl) (fun _ h => by cases h) astSizes_row_tie rfl ⟨rfl, rfl⟩ (by kernel_rfl) rfl plain (by kernel_rfl)
end Go.Proofs.YtboojhadfhpdeaaGreatDoor.astSizes
