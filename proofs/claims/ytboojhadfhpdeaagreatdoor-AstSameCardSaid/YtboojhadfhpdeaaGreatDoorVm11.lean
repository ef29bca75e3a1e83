/- A part of the proof, made small by a program: A6, A7, A8, A9, B1, B2, B3, B4, C2. -/
import Derived.Test.YtboojhadfhpdeaaGreatDoorVm4
import Derived.Test.YtboojhadfhpdeaaGreatDoorVm5
import Derived.Test.YtboojhadfhpdeaaGreatDoorVm9
import Derived.Test.YtboojhadfhpdeaaGreatDoorVm10
namespace Go.Proofs.YtboojhadfhpdeaaGreatDoor.Q
open Go.RowKit Go.Proofs.YtboojhadfhpdeaaGreatDoorW.PrintWords Go.Proofs.YtboojhadfhpdeaaGreatDoorW.PrintLast Go.Proofs.YtboojhadfhpdeaaGreatDoorW.PrintMore
set_option linter.unusedVariables false
set_option linter.unusedSimpArgs false
theorem put.after (p q : Nat) (ss : List ByteArray) (l : List Int) (c : Nat) (w0 wk W : World) (hW : Below w0.heap.size w0 wk) (hP : PB w0.heap.size p l wk) (hb : Below wk.heap.size wk W) (hq : wk.heap.size ≤ q) (hS : W.heap[q]? = some (.cells (ss.map Value.string).toArray 9 (0, 0))) (hl : l.length ≤ 1000) (hs : (ss.flatMap bytesOf).length ≤ 1000) (hn : ss.length ≤ 1000) :
 Calls Tryz.prog 54 #[.pointer (some ⟨p, 0, none⟩), .slice (some ⟨q, 0, none⟩) ss.length c] W (PrP w0.heap.size p w0 (l ++ ss.flatMap bytesOf) (.tuple #[]) W) := by
 obtain ⟨v, h1, _⟩ := hP.ex
 refine (put.calls w0.heap.size p q ss l c w0 W (below_then hW (Nat.le_trans hW.size (Nat.le_refl _)) hb) (hP.below hb) (fun e => by have := blk_lt h1; omega) hS (by omega) hn).mono ?_
 rintro e w' ⟨rfl, h2, h3, h4⟩
 exact ⟨rfl, h2, h3, h4⟩
theorem dec_one : (Lib.decDigits 1).toArray = #[49] := by kernel_rfl
theorem blk_new1 (w : World) (o o' : Obj) : ((w.alloc o).alloc o').heap[w.heap.size + 1]? = some o' := by
 have h := blk_new (w.alloc o) o'
 rwa [show (w.alloc o).heap.size = w.heap.size + 1 from by simp] at h
set_option maxHeartbeats 8000000 in
set_option maxRecDepth 100000 in
theorem FormatUint.one (w : World) : Calls Tryz.prog 125 #[.int .u64 1, .int .i64 10] w fun e w' => e = .returned (.string ⟨#[49]⟩) ∧ w' = w := by
 have HI : Calls Tryz.prog 135 #[.int .u64 1, .int .i64 10] w fun e w' => e = .returned (.string ⟨#[49]⟩) ∧ w' = w := by
  go_enter Tryz.func135, Tryz.ntmps135
  go_wp2_with (first
   | (go_at_call 140; ((refine (Tryz.internal_strconv_small 1 (by decide) _).mono ?_); rintro e w1 ⟨rfl, rfl⟩))
   | fail)
  go_ret
  exact ⟨congrArg (fun x => Ending.returned (.string ⟨x⟩)) dec_one, rfl⟩
 have HI2 := Aside0.mk HI
 clear HI
 go_enter Tryz.func125, Tryz.ntmps125
 go_wp2_with (first
  | (go_at_call 135; (refine HI2.out.mono ?_); rintro e w1 ⟨rfl, rfl⟩)
  | fail)
 go_ret
 exact ⟨rfl, rfl⟩
set_option maxHeartbeats 8000000 in
set_option maxRecDepth 100000 in
theorem simple.num (p : Nat) (l : List Int) (A : Option Addr) (c : Nat) (w0 w : World) (hW : Below w0.heap.size w0 w) (hP : PB w0.heap.size p l w) (hl : l.length ≤ 500) : Calls Tryz.prog 115 #[.pointer (some ⟨p, 0, none⟩), .agg #[.int .i64 1, .string ⟨#[]⟩, .int .u32 1, .bool false, .slice A 0 c, .int .i64 0]] w (PrP w0.heap.size p w0 (l ++ [49]) (.bool true) w) := by
 have HB := Aside0.mk (below_alloc (Below.refl w.heap.size w) (.cells #[.int .i64 1, .string ⟨#[]⟩, .int .u32 1, .bool false, .slice A 0 c, .int .i64 0] 25 (0, 0)))
 have HW := Aside0.mk hW
 have HP := Aside0.mk hP
 have HL := Aside0.mk hl
 have HNE := Aside0.mk (show w.heap.size ≠ p from fun e => by obtain ⟨v, h1, _⟩ := hP.ex; have := blk_lt h1; omega)
 clear hW hP hl
 go_enter Tryz.func115, Tryz.ntmps115
 go_wp2_with (first
  | (go_at_call 125; (refine (FormatUint.one _).mono ?_); rintro e w1 ⟨rfl, rfl⟩)
  | (go_at_call 54; ((refine (put.after p _ [⟨#[49]⟩] l _ w0 w _ HW.out HP.out (below_alloc HB.out _) (Nat.le_succ _) (blk_new1 _ _ _) (by have := HL.out; omega) (by decide) (by decide)).mono ?_)); rintro e w2 ⟨rfl, hP, hW, hF⟩; have HP2 := Aside0.mk hP; have HW2 := Aside0.mk hW; have HF2 := Aside0.mk ((Fr.of_below (below_alloc HB.out _)).trans hF); have HX_w2 : NB w2 w.heap.size nNum A c := hF.keep _ 25 _ (blk_alloc (blk_new w _) _) HNE.out (by decide); obtain ⟨c0, c1, c2, c3, c4, c5⟩ := HX_w2.cells; have HXA_w2 := Aside0.mk HX_w2; dsimp only [nNum, List.length_cons, List.length_nil] at c0 c1 c2 c3 c4 c5; clear HX_w2; clear hP hW hF)
  | fail)
 go_ret
 exact ⟨rfl, HP2.out, HW2.out, HF2.out⟩
end Go.Proofs.YtboojhadfhpdeaaGreatDoor.Q
namespace Go.Proofs.YtboojhadfhpdeaaGreatDoor.Q
open Go.RowKit Go.Proofs.YtboojhadfhpdeaaGreatDoorW.PrintWords Go.Proofs.YtboojhadfhpdeaaGreatDoorW.PrintLast Go.Proofs.YtboojhadfhpdeaaGreatDoorW.PrintMore
set_option linter.unusedVariables false
set_option linter.unusedSimpArgs false
set_option maxHeartbeats 8000000 in
set_option maxRecDepth 100000 in
theorem expression_p.num (p : Nat) (l : List Int) (A : Option Addr) (c : Nat) (w0 w : World) (hW : Below w0.heap.size w0 w) (hP : PB w0.heap.size p l w) (hl : l.length ≤ 500) : Calls Tryz.prog 100 #[.pointer (some ⟨p, 0, none⟩), .agg #[.int .i64 1, .string ⟨#[]⟩, .int .u32 1, .bool false, .slice A 0 c, .int .i64 0]] w (PrP w0.heap.size p w0 (l ++ [49]) (.tuple #[]) w) := by
 have HB := Aside0.mk (below_alloc (Below.refl w.heap.size w) (.cells #[.int .i64 1, .string ⟨#[]⟩, .int .u32 1, .bool false, .slice A 0 c, .int .i64 0] 25 (0, 0)))
 have HW := Aside0.mk hW
 have HP := Aside0.mk hP
 have HL := Aside0.mk hl
 have HNE := Aside0.mk (show w.heap.size ≠ p from fun e => by obtain ⟨v, h1, _⟩ := hP.ex; have := blk_lt h1; omega)
 have HWB := Aside0.mk (below_then hW hW.size HB.out)
 have HPB := Aside0.mk (hP.below HB.out)
 clear hW hP hl
 go_enter Tryz.func100, Tryz.ntmps100
 go_wp2_with (first
  | (go_at_call 115; ((refine (simple.num p l A c w0 _ HWB.out HPB.out HL.out).mono ?_)); rintro e w2 ⟨rfl, hP, hW, hF⟩; have HP2 := Aside0.mk hP; have HW2 := Aside0.mk hW; have HF2 := Aside0.mk ((Fr.of_below HB.out).trans hF); have HX_w2 : NB w2 w.heap.size nNum A c := hF.keep _ 25 _ (blk_new w _) HNE.out (by decide); obtain ⟨c0, c1, c2, c3, c4, c5⟩ := HX_w2.cells; have HXA_w2 := Aside0.mk HX_w2; dsimp only [nNum, List.length_cons, List.length_nil] at c0 c1 c2 c3 c4 c5; clear HX_w2; clear hP hW hF)
  | fail)
 first | go_end0 | (refine bodyPost_ret (results_none rfl _ _ _) rfl ?_)
 exact ⟨rfl, HP2.out, HW2.out, HF2.out⟩
set_option maxHeartbeats 8000000 in
set_option maxRecDepth 100000 in
theorem at_p.num (p : Nat) (l : List Int) (A : Option Addr) (c : Nat) (w0 w : World) (hW : Below w0.heap.size w0 w) (hP : PB w0.heap.size p l w) (hG : PremW w) (hn : ND w nNum A c) (hl : l.length ≤ 500) : Calls Tryz.prog 85 #[.pointer (some ⟨p, 0, none⟩), .agg #[.int .i64 1, .string ⟨#[]⟩, .int .u32 1, .bool false, .slice A 0 c, .int .i64 0], .int .i64 0] w (PrP w0.heap.size p w0 (l ++ [49]) (.tuple #[]) w) := by
 have HB := Aside0.mk (below_alloc (Below.refl w.heap.size w) (.cells #[.int .i64 1, .string ⟨#[]⟩, .int .u32 1, .bool false, .slice A 0 c, .int .i64 0] 25 (0, 0)))
 have HW := Aside0.mk hW
 have HP := Aside0.mk hP
 have HL := Aside0.mk hl
 have HNE := Aside0.mk (show w.heap.size ≠ p from fun e => by obtain ⟨v, h1, _⟩ := hP.ex; have := blk_lt h1; omega)
 have HWB := Aside0.mk (below_then hW hW.size HB.out)
 have HPB := Aside0.mk (hP.below HB.out)
 clear hW hP hl
 have HG := Aside0.mk (hG.below HB.out)
 have HN := Aside0.mk (hn.below HB.out)
 clear hG hn
 go_enter Tryz.func85, Tryz.ntmps85
 go_wp2_with (first
  | (go_at_call 99; ((refine (ast_level.calls 100 1 ⟨#[]⟩ 1 false A c [] 0 13 _ HN.out.C (Nat.zero_le _) HG.out (by kernel_rfl)).mono ?_); rintro e w1 ⟨rfl, hB⟩); have HB1 := Aside0.mk hB; (have HX_w1 : NB w1 w.heap.size nNum A c := NB.below (blk_new w _) hB); obtain ⟨c0, c1, c2, c3, c4, c5⟩ := HX_w1.cells; have HXA_w1 := Aside0.mk HX_w1; dsimp only [nNum, List.length_cons, List.length_nil] at c0 c1 c2 c3 c4 c5; clear HX_w1; clear hB)
  | (go_at_call 100; ((refine (expression_p.num p l A c w0 _ (below_then HWB.out HWB.out.size HB1.out) (HPB.out.below HB1.out) HL.out).mono ?_)); rintro e w2 ⟨rfl, hP, hW, hF⟩; have HP2 := Aside0.mk hP; have HW2 := Aside0.mk hW; have HF2 := Aside0.mk ((Fr.of_below (below_step HB.out HB1.out)).trans hF);  clear hP hW hF)
  | fail)
 first | go_end0 | (refine bodyPost_ret (results_none rfl _ _ _) rfl ?_)
 exact ⟨rfl, HP2.out, HW2.out, HF2.out⟩
set_option maxHeartbeats 8000000 in
set_option maxRecDepth 100000 in
theorem variable_p.var (p : Nat) (l : List Int) (A : Option Addr) (c : Nat) (w0 w : World) (hW : Below w0.heap.size w0 w) (hP : PB w0.heap.size p l w) (hG : PremW w0) (hn : ND w0 nVar A c) (hl : l.length ≤ 400) : Calls Tryz.prog 57 #[.pointer (some ⟨p, 0, none⟩), .agg #[.int .i64 43, .string ⟨#[120]⟩, .int .u32 0, .bool false, .slice A 1 c, .int .i64 0]] w (PrP w0.heap.size p w0 (l ++ [120, 32, 61, 32, 49]) (.tuple #[]) w) := by
 obtain ⟨ad, A', c', rfl, hk, k0, k1, k2, k3, k4, k5⟩ := node_at hn.C 0 (by decide)
 rw [Nat.zero_mul, add_zero_] at k0 k1 k2 k3 k4 k5
 have k0 : w0.cell? ad = some (.int .i64 1) := k0
 have k1 : w0.cell? ⟨ad.block, ad.off + 1, none⟩ = some (.string ⟨#[]⟩) := k1
 have k2 : w0.cell? ⟨ad.block, ad.off + 2, none⟩ = some (.int .u32 1) := k2
 have k3 : w0.cell? ⟨ad.block, ad.off + 3, none⟩ = some (.bool false) := k3
 have k4 : w0.cell? ⟨ad.block, ad.off + 4, none⟩ = some (.slice A' 0 c') := k4
 have k5 : w0.cell? ⟨ad.block, ad.off + 5, none⟩ = some (.int .i64 0) := k5
 have HK := Aside0.mk (And.intro k0 (And.intro k1 (And.intro k2 (And.intro k3 (And.intro k4 k5)))))
 have HKN := Aside0.mk (show ND w0 nNum A' c' from hk)
 clear k0 k1 k2 k3 k4 k5 hk
 have HB := Aside0.mk (below_alloc (Below.refl w.heap.size w) (.cells #[.int .i64 43, .string ⟨#[120]⟩, .int .u32 0, .bool false, .slice (some ad) 1 c, .int .i64 0] 25 (0, 0)))
 have HW := Aside0.mk hW
 have HP := Aside0.mk hP
 have HL := Aside0.mk hl
 have HNE := Aside0.mk (show w.heap.size ≠ p from fun e => by obtain ⟨v, h1, _⟩ := hP.ex; have := blk_lt h1; omega)
 have HWB := Aside0.mk (below_then hW hW.size HB.out)
 have HPB := Aside0.mk (hP.below HB.out)
 clear hW hP hl
 have HG := Aside0.mk hG
 clear hG hn
 go_enter Tryz.func57, Tryz.ntmps57
 go_wp2_with (first
  | (go_at_call 85; ((refine (at_p.num p (l ++ [120] ++ [32, 61, 32]) A' c' w0 _ HW3.out HP3.out (HG.out.below HW3.out) (HKN.out.below HW3.out) (by have := HL.out; simp only [List.length_append, List.length_cons, List.length_nil]; omega)).mono ?_)); rintro e w4 ⟨rfl, hP, hW, hF⟩; have HP4 := Aside0.mk hP; have HW4 := Aside0.mk hW; have HF4 := Aside0.mk (HF3.out.trans hF);  clear hP hW hF)
  | (go_at_call 54; ((refine (put.after p _ [⟨#[32, 61, 32]⟩] (l ++ [120]) _ w0 w2 _ HW2.out HP2.out (below_alloc (Below.refl _ _) _) (Nat.le_refl _) (blk_new _ _) (by have := HL.out; simp only [List.length_append, List.length_cons, List.length_nil]; omega) (by decide) (by decide)).mono ?_)); rintro e w3 ⟨rfl, hP, hW, hF⟩; have HP3 := Aside0.mk hP; have HW3 := Aside0.mk hW; have HF3 := Aside0.mk (HF2.out.trans ((Fr.of_below (below_alloc (Below.refl _ _) _)).trans hF));  clear hP hW hF; obtain ⟨k0, k1, k2, k3, k4, k5⟩ := HK.out; have k0 := pw_cell_below HW3.out k0; have k1 := pw_cell_below HW3.out k1; have k2 := pw_cell_below HW3.out k2; have k3 := pw_cell_below HW3.out k3; have k4 := pw_cell_below HW3.out k4; have k5 := pw_cell_below HW3.out k5; )
  | (go_at_call 54; ((refine (put.after p _ [⟨#[120]⟩] l _ w0 w _ HW.out HP.out (below_alloc HB.out _) (Nat.le_succ _) (blk_new1 _ _ _) (by have := HL.out; omega) (by decide) (by decide)).mono ?_)); rintro e w2 ⟨rfl, hP, hW, hF⟩; have HP2 := Aside0.mk hP; have HW2 := Aside0.mk hW; have HF2 := Aside0.mk ((Fr.of_below (below_alloc HB.out _)).trans hF); have HX_w2 : NB w2 w.heap.size nVar (some ad) c := hF.keep _ 25 _ (blk_alloc (blk_new w _) _) HNE.out (by decide); obtain ⟨c0, c1, c2, c3, c4, c5⟩ := HX_w2.cells; have HXA_w2 := Aside0.mk HX_w2; dsimp only [nVar, List.length_cons, List.length_nil] at c0 c1 c2 c3 c4 c5; clear HX_w2; clear hP hW hF)
  | fail)
 first | go_end0 | (refine bodyPost_ret (results_none rfl _ _ _) rfl ?_)
 exact ⟨rfl, by have h := HP4.out; simp only [List.append_assoc, List.cons_append, List.nil_append] at h; exact h, HW4.out, HF4.out⟩
end Go.Proofs.YtboojhadfhpdeaaGreatDoor.Q
namespace Go.Proofs.YtboojhadfhpdeaaGreatDoor.Q
open Go.RowKit Go.Proofs.YtboojhadfhpdeaaGreatDoorW.PrintWords Go.Proofs.YtboojhadfhpdeaaGreatDoorW.PrintLast Go.Proofs.YtboojhadfhpdeaaGreatDoorW.PrintMore
set_option linter.unusedVariables false
set_option linter.unusedSimpArgs false
abbrev zero25 : Array Value := #[.int .i64 0, .string ⟨#[]⟩, .int .u32 0, .bool false, .slice none 0 0, .int .i64 0]
section
variable {ops : Array Oper} {rest : List Oper} {o : Oper} {a : Act} {Q : Exit → Act → World → Prop} {W : World}
theorem ev_alloc25 (hgd : o.guard = none) {N : Tmp} (_hd : o.dst = some N) (ho : o.op = .alloc 25)
 (K : ∀ g w', g = W.heap.size → w'.heap[g]? = some (.cells zero25 25 (0, 0)) → Below W.heap.size W w' → wpList Tryz.prog ops Q rest (a.put o.dst (.pointer (some ⟨g, 0, none⟩))) w') : wpList Tryz.prog ops Q (o :: rest) a W := by
 refine box_event hgd _hd (cs := zero25) (t := 25) ?_ (fun g hg w1 h1 h2 => K g w1 hg h1 h2)
 simp only [execOp, ho]
 go_simp
 try rfl
theorem ev_store25k (hgd : o.guard = none) (hN : o.dst = none) {n : Tmp} {v : Operand} (ho : o.op = .store 25 (.tmp n) v) {x : S25} {A : Option Addr} {c g : Nat} (hx : a.eval v = val x A c) (hg : a.eval (.tmp n) = .pointer (some ⟨g, 0, none⟩)) (hc : W.heap[g]? = some (.cells zero25 25 (0, 0)))
 (K : ∀ w', NB w' g x A c → Below g W w' → (∀ k, k ≠ g → w'.heap[k]? = W.heap[k]?) → wpList Tryz.prog ops Q rest a w') : wpList Tryz.prog ops Q (o :: rest) a W := by
 have h0 := (blk_cell hc 0).trans (show zero25[0]? = some (.int .i64 0) from rfl)
 have h1 := (blk_cell hc 1).trans (show zero25[1]? = some (.string ⟨#[]⟩) from rfl)
 have h2 := (blk_cell hc 2).trans (show zero25[2]? = some (.int .u32 0) from rfl)
 have h3 := (blk_cell hc 3).trans (show zero25[3]? = some (.bool false) from rfl)
 have h4 := (blk_cell hc 4).trans (show zero25[4]? = some (.slice none 0 0) from rfl)
 have h5 := (blk_cell hc 5).trans (show zero25[5]? = some (.int .i64 0) from rfl)
 have f0 := blk_frozen hc 0
 have f1 := blk_frozen hc 1
 have f2 := blk_frozen hc 2
 have f3 := blk_frozen hc 3
 have f4 := blk_frozen hc 4
 have f5 := blk_frozen hc 5
 refine store_event (t := 25) (p := n) (v := v) (w1 := ((((((W.setCell ⟨g, 0, none⟩ (.int .i64 x.f0)).setCell ⟨g, 1, none⟩ (.string x.f1)).setCell ⟨g, 2, none⟩ (.int .u32 x.f2)).setCell ⟨g, 3, none⟩ (.bool x.f3)).setCell ⟨g, 4, none⟩ (.slice A x.f4.length c)).setCell ⟨g, 5, none⟩ (.int .i64 x.f5))) hgd ho hN ?hr (fun w' hw => ?_)
 case hr =>
  simp only [execOp, ho, hx, hg]
  first | (go_simp; done) | (go_simp; rfl)
 · subst hw
   refine K _ ?_ ?_ (fun k hk => ?_)
   · exact (blk_set (blk_set (blk_set (blk_set (blk_set (blk_set hc 0 _) 1 _) 2 _) 3 _) 4 _) 5 _)
   · exact ((((((Below.refl g W).setCell (Nat.le_refl g) _).setCell (Nat.le_refl g) _).setCell (Nat.le_refl g) _).setCell (Nat.le_refl g) _).setCell (Nat.le_refl g) _).setCell (Nat.le_refl g) _
   · rw [Below.heap_setCell _ _ _ k hk, Below.heap_setCell _ _ _ k hk, Below.heap_setCell _ _ _ k hk, Below.heap_setCell _ _ _ k hk, Below.heap_setCell _ _ _ k hk, Below.heap_setCell _ _ _ k hk]
theorem ev_store25 (hgd : o.guard = none) (hN : o.dst = none) {n : Tmp} {v : Operand} (ho : o.op = .store 25 (.tmp n) v) {x : S25} {A : Option Addr} {c g : Nat} (hx : a.eval v = val x A c) (hg : a.eval (.tmp n) = .pointer (some ⟨g, 0, none⟩)) (hc : W.heap[g]? = some (.cells zero25 25 (0, 0)))
 (K : ∀ w', NB w' g x A c → Below g W w' → wpList Tryz.prog ops Q rest a w') : wpList Tryz.prog ops Q (o :: rest) a W :=
 ev_store25k hgd hN ho hx hg hc (fun w' h1 h2 _ => K w' h1 h2)
end
end Go.Proofs.YtboojhadfhpdeaaGreatDoor.Q
namespace Go.Proofs.YtboojhadfhpdeaaGreatDoor.Q
open Go.RowKit Go.Proofs.YtboojhadfhpdeaaGreatDoorW.PrintWords Go.Proofs.YtboojhadfhpdeaaGreatDoorW.PrintLast Go.Proofs.YtboojhadfhpdeaaGreatDoorW.PrintMore
set_option linter.unusedVariables false
set_option linter.unusedSimpArgs false
set_option maxHeartbeats 8000000 in
set_option maxRecDepth 100000 in
theorem line_p.vars (p : Nat) (l : List Int) (A : Option Addr) (c : Nat) (w0 w : World) (hW : Below w0.heap.size w0 w) (hP : PB w0.heap.size p l w) (hG : PremW w0) (hn : ND w0 nVars A c) (hl : l.length ≤ 300) : Calls Tryz.prog 38 #[.pointer (some ⟨p, 0, none⟩), .agg #[.int .i64 42, .string ⟨#[]⟩, .int .u32 0, .bool false, .slice A 2 c, .int .i64 0]] w (PrP w0.heap.size p w0 (l ++ [105, 110, 116, 32, 120, 32, 61, 32, 49, 59, 10]) (.tuple #[]) w) := by
 have hle : 2 ≤ c := hn.le
 obtain ⟨ad, A', c', rfl, _, _, t1, _⟩ := node_at hn.C 0 (by decide)
 rw [Nat.zero_mul, add_zero_] at t1
 have t1 : w0.cell? ⟨ad.block, ad.off + 1, none⟩ = some (.string ⟨#[105, 110, 116]⟩) := t1
 have HT := Aside0.mk t1
 clear t1
 obtain ⟨ad2, A2, c2, e2, hk, k0, k1, k2, k3, k4, k5⟩ := node_at hn.C 1 (by decide)
 obtain rfl : ad = ad2 := Option.some.inj e2
 have k0 : w0.cell? ⟨ad.block, ad.off + 6, none⟩ = some (.int .i64 43) := k0
 have k1 : w0.cell? ⟨ad.block, ad.off + 7, none⟩ = some (.string ⟨#[120]⟩) := k1
 have k2 : w0.cell? ⟨ad.block, ad.off + 8, none⟩ = some (.int .u32 0) := k2
 have k3 : w0.cell? ⟨ad.block, ad.off + 9, none⟩ = some (.bool false) := k3
 have k4 : w0.cell? ⟨ad.block, ad.off + 10, none⟩ = some (.slice A2 1 c2) := k4
 have k5 : w0.cell? ⟨ad.block, ad.off + 11, none⟩ = some (.int .i64 0) := k5
 have HK := Aside0.mk (And.intro k0 (And.intro k1 (And.intro k2 (And.intro k3 (And.intro k4 k5)))))
 have HKN := Aside0.mk (show ND w0 nVar A2 c2 from hk)
 clear k0 k1 k2 k3 k4 k5 hk e2
 have HB := Aside0.mk (below_alloc (Below.refl w.heap.size w) (.cells #[.int .i64 42, .string ⟨#[]⟩, .int .u32 0, .bool false, .slice (some ad) 2 c, .int .i64 0] 25 (0, 0)))
 have HW := Aside0.mk hW
 have HP := Aside0.mk hP
 have HL := Aside0.mk hl
 have HNE := Aside0.mk (show w.heap.size ≠ p from fun e => by obtain ⟨v, h1, _⟩ := hP.ex; have := blk_lt h1; omega)
 have HWB := Aside0.mk (below_then hW hW.size HB.out)
 have HPB := Aside0.mk (hP.below HB.out)
 clear hW hP hl
 have HG := Aside0.mk hG
 have HLE := Aside0.mk hle
 have t1 := pw_cell_below HWB.out HT.out
 clear hG hn hle
 go_enter Tryz.func38, Tryz.ntmps38
 go_wp2_with (first
  | (go_at_call 54; ((refine (put.after p _ [⟨#[105, 110, 116]⟩, ⟨#[32]⟩] l _ w0 w _ HW.out HP.out (below_alloc HB.out _) (Nat.le_succ _) (blk_new1 _ _ _) (by have := HL.out; omega) (by decide) (by decide)).mono ?_)); rintro e w2 ⟨rfl, hP, hW, hF⟩; have HP2 := Aside0.mk hP; have HW2 := Aside0.mk hW; have HF2 := Aside0.mk ((Fr.of_below (below_alloc HB.out _)).trans hF); have HX_w2 : NB w2 w.heap.size nVars (some ad) c := hF.keep _ 25 _ (blk_alloc (blk_new w _) _) HNE.out (by decide); obtain ⟨c0, c1, c2, c3, c4, c5⟩ := HX_w2.cells; have HXA_w2 := Aside0.mk HX_w2; dsimp only [nVars, List.length_cons, List.length_nil] at c0 c1 c2 c3 c4 c5; clear HX_w2; clear hP hW hF; have hc1 : ¬ c = 1 := by have := HLE.out; omega)
  | fail)
 go_loopg [102] 1 (fun kq v w' => ∃ i : Nat, v = .int .i64 i ∧ Aside0 (i + kq = 1) ∧ Aside0 (PB w0.heap.size p (l ++ (if i = 0 then [105, 110, 116, 32] else [105, 110, 116, 32, 120, 32, 61, 32, 49])) w') ∧ Aside0 (Below w0.heap.size w0 w') ∧ Aside0 (Fr p w2 w'))
 case atStart => exact ⟨0, rfl, ⟨by omega⟩, ⟨HP2.out⟩, HW2, ⟨Fr.refl _ _⟩⟩
 case round =>
  obtain ⟨i, rfl, HI, HPi, HWi, HFi⟩ := hrel
  by_cases hi : i < 1
  · obtain rfl : i = 0 := by omega
    have e1n : decide ((0 : Nat) < 1) = true := rfl
    have HIK := Aside0.mk HI.out
    clear hi
    obtain ⟨k0, k1, k2, k3, k4, k5⟩ := HK.out; have k0 := pw_cell_below HWi.out k0; have k1 := pw_cell_below HWi.out k1; have k2 := pw_cell_below HWi.out k2; have k3 := pw_cell_below HWi.out k3; have k4 := pw_cell_below HWi.out k4; have k5 := pw_cell_below HWi.out k5;
    clear c0 c1 c2 c3 c4 c5 t1
    go_wp2_with (first
     | (go_at_call 57; ((refine (variable_p.var p (l ++ [105, 110, 116, 32]) A2 c2 w0 wb (below_then HWi.out HWi.out.size HBb.out) (HPi.out.below HBb.out) HG.out HKN.out (by have := HL.out; simp only [List.length_append, List.length_cons, List.length_nil]; omega)).mono ?_)); rintro e w5 ⟨rfl, hP, hW, hF⟩; have HP5 := Aside0.mk hP; have HW5 := Aside0.mk hW; have HF5 := Aside0.mk (HFi.out.trans ((Fr.of_below HBb.out).trans hF));  clear hP hW hF)
     | (with_reducible refine ev_alloc25 rfl rfl rfl ?_; rintro g wa hg hz hB; have HBa := Aside0.mk hB; have HZ := Aside0.mk hz; have HGe := Aside0.mk hg; clear hg hz hB)
     | (refine ev_store25 rfl rfl rfl (x := nVar) (A := A2) (c := c2) rfl rfl HZ.out ?_; rintro wb hN hB; obtain ⟨b0, b1, b2, b3, b4, b5⟩ := hN.cells; have HBb := Aside0.mk (HBa.out.trans (hB.mono (Nat.le_of_eq HGe.out.symm))); have HNb := Aside0.mk hN; clear hN hB)
     | fail)
    go_roundg 0
    case measure => have := HIK.out; omega
    case rel => exact ⟨1, rfl, ⟨rfl⟩, ⟨by have h := HP5.out; simp only [List.append_assoc, List.cons_append, List.nil_append] at h; exact h⟩, HW5, HF5⟩
  · obtain rfl : i = 1 := by have := HI.out; omega
    have HIK := Aside0.mk HI.out
    clear hi
    go_wp2_with (first
     | (go_at_call 54; ((refine (put.after p _ [⟨#[10]⟩] (l ++ [105, 110, 116, 32, 120, 32, 61, 32, 49] ++ [59]) _ w0 w6 _ HW6.out HP6.out (below_alloc (Below.refl _ _) _) (Nat.le_refl _) (blk_new _ _) (by have := HL.out; simp only [List.length_append, List.length_cons, List.length_nil]; omega) (by decide) (by decide)).mono ?_)); rintro e w7 ⟨rfl, hP, hW, hF⟩; have HP7 := Aside0.mk hP; have HW7 := Aside0.mk hW; have HF7 := Aside0.mk (HF6.out.trans ((Fr.of_below (below_alloc (Below.refl _ _) _)).trans hF));  clear hP hW hF)
     | (go_at_call 54; ((refine (put.after p _ [⟨#[59]⟩] (l ++ [105, 110, 116, 32, 120, 32, 61, 32, 49]) _ w0 _ _ HWi.out HPi.out (below_alloc (Below.refl _ _) _) (Nat.le_refl _) (blk_new _ _) (by have := HL.out; simp only [List.length_append, List.length_cons, List.length_nil]; omega) (by decide) (by decide)).mono ?_)); rintro e w6 ⟨rfl, hP, hW, hF⟩; have HP6 := Aside0.mk hP; have HW6 := Aside0.mk hW; have HF6 := Aside0.mk (HF2.out.trans (HFi.out.trans ((Fr.of_below (below_alloc (Below.refl _ _) _)).trans hF)));  clear hP hW hF)
     | fail)
    first | go_end0 | (refine bodyPost_ret (results_none rfl _ _ _) rfl ?_)
    exact ⟨rfl, by have h := HP7.out; simp only [List.append_assoc, List.cons_append, List.nil_append] at h; exact h, HW7.out, HF7.out⟩
end Go.Proofs.YtboojhadfhpdeaaGreatDoor.Q
namespace Go.Proofs.YtboojhadfhpdeaaGreatDoor.Q
open Go.RowKit Go.Proofs.YtboojhadfhpdeaaGreatDoorW.PrintWords Go.Proofs.YtboojhadfhpdeaaGreatDoorW.PrintLast Go.Proofs.YtboojhadfhpdeaaGreatDoorW.PrintMore
set_option linter.unusedVariables false
set_option linter.unusedSimpArgs false
set_option maxHeartbeats 8000000 in
set_option maxRecDepth 100000 in
theorem all_p.prog (p : Nat) (l : List Int) (A : Option Addr) (c : Nat) (w0 w : World) (hW : Below w0.heap.size w0 w) (hP : PB w0.heap.size p l w) (hG : PremW w0) (hn : ND w0 nProg A c) (hl : l.length ≤ 200) :
 Calls Tryz.prog 26 #[.pointer (some ⟨p, 0, none⟩), .slice A 1 c] w (PrP w0.heap.size p w0 (l ++ [105, 110, 116, 32, 120, 32, 61, 32, 49, 59, 10]) (.tuple #[]) w) := by
 obtain ⟨ad, A2, c2, rfl, hk, k0, k1, k2, k3, k4, k5⟩ := node_at hn.C 0 (by decide)
 rw [Nat.zero_mul, add_zero_] at k0 k1 k2 k3 k4 k5
 have k0 : w0.cell? ad = some (.int .i64 42) := k0
 have k1 : w0.cell? ⟨ad.block, ad.off + 1, none⟩ = some (.string ⟨#[]⟩) := k1
 have k2 : w0.cell? ⟨ad.block, ad.off + 2, none⟩ = some (.int .u32 0) := k2
 have k3 : w0.cell? ⟨ad.block, ad.off + 3, none⟩ = some (.bool false) := k3
 have k4 : w0.cell? ⟨ad.block, ad.off + 4, none⟩ = some (.slice A2 2 c2) := k4
 have k5 : w0.cell? ⟨ad.block, ad.off + 5, none⟩ = some (.int .i64 0) := k5
 have HK := Aside0.mk (And.intro k0 (And.intro k1 (And.intro k2 (And.intro k3 (And.intro k4 k5)))))
 have HKN := Aside0.mk (show ND w0 nVars A2 c2 from hk)
 clear k0 k1 k2 k3 k4 k5 hk
 have HW := Aside0.mk hW
 have HP := Aside0.mk hP
 have HL := Aside0.mk hl
 have HG := Aside0.mk hG
 clear hW hP hl hG hn
 go_enter Tryz.func26, Tryz.ntmps26
 go_wp2
 go_loopg [8] 1 (fun kq v w' => ∃ i : Nat, v = .int .i64 i ∧ Aside0 (i + kq = 1) ∧ Aside0 (PB w0.heap.size p (l ++ (if i = 0 then [] else [105, 110, 116, 32, 120, 32, 61, 32, 49, 59, 10])) w') ∧ Aside0 (Below w0.heap.size w0 w') ∧ Aside0 (Fr p w w'))
 case atStart => exact ⟨0, rfl, ⟨by omega⟩, ⟨by simpa using HP.out⟩, HW, ⟨Fr.refl _ _⟩⟩
 case round =>
  obtain ⟨i, rfl, HI, HPi, HWi, HFi⟩ := hrel
  by_cases hi : i < 1
  · obtain rfl : i = 0 := by omega
    have e1n : decide ((0 : Nat) < 1) = true := rfl
    have HIK := Aside0.mk HI.out
    have HPz := Aside0.mk (show PB w0.heap.size p l _ from by simpa using HPi.out)
    clear hi
    obtain ⟨k0, k1, k2, k3, k4, k5⟩ := HK.out; have k0 := pw_cell_below HWi.out k0; have k1 := pw_cell_below HWi.out k1; have k2 := pw_cell_below HWi.out k2; have k3 := pw_cell_below HWi.out k3; have k4 := pw_cell_below HWi.out k4; have k5 := pw_cell_below HWi.out k5;
    go_wp2_with (first
     | (go_at_call 38; ((refine (line_p.vars p l A2 c2 w0 wb (below_then HWi.out HWi.out.size HBb.out) (HPz.out.below HBb.out) HG.out HKN.out (by have := HL.out; omega)).mono ?_)); rintro e w5 ⟨rfl, hP, hW, hF⟩; have HP5 := Aside0.mk hP; have HW5 := Aside0.mk hW; have HF5 := Aside0.mk (HFi.out.trans ((Fr.of_below HBb.out).trans hF));  clear hP hW hF)
     | (with_reducible refine ev_alloc25 rfl rfl rfl ?_; rintro g wa hg hz hB; have HBa := Aside0.mk hB; have HZ := Aside0.mk hz; have HGe := Aside0.mk hg; clear hg hz hB)
     | (refine ev_store25 rfl rfl rfl (x := nVars) (A := A2) (c := c2) rfl rfl HZ.out ?_; rintro wb hN hB; obtain ⟨b0, b1, b2, b3, b4, b5⟩ := hN.cells; have HBb := Aside0.mk (HBa.out.trans (hB.mono (Nat.le_of_eq HGe.out.symm))); have HNb := Aside0.mk hN; clear hN hB)
     | fail)
    go_roundg 0
    case measure => have := HIK.out; omega
    case rel => exact ⟨1, rfl, ⟨rfl⟩, ⟨HP5.out⟩, HW5, HF5⟩
  · obtain rfl : i = 1 := by have := HI.out; omega
    have HIK := Aside0.mk HI.out
    clear hi
    go_wp2
    first | go_end0 | (refine bodyPost_ret (results_none rfl _ _ _) rfl ?_)
    exact ⟨rfl, HPi.out, HWi.out, HFi.out⟩
def CheckP (w : World) (e : Ending) (w' : World) : Prop := e = .returned (.int .i64 0) ∧ Below w.heap.size w w'
set_option maxHeartbeats 8000000 in
set_option maxRecDepth 100000 in
theorem Size.prog (A : Option Addr) (c : Nat) (w : World) (hn : ND w nProg A c) : Calls Tryz.prog 16 #[.agg #[.int .i64 40, .string ⟨#[]⟩, .int .u32 0, .bool false, .slice A 1 c, .int .i64 0]] w (fun e w' => e = .returned (.int .i64 5) ∧ Below w.heap.size w w') :=
 ast_Size.calls 100 40 ⟨#[]⟩ 0 false A c [nVars] 0 5 w hn.C hn.le (by kernel_rfl)
set_option maxHeartbeats 8000000 in
set_option maxRecDepth 100000 in
theorem Check.prog (A : Option Addr) (c : Nat) (w : World) (hG : PremW w) (hn : ND w nProg A c) : Calls Tryz.prog 8 #[.agg #[.int .i64 40, .string ⟨#[]⟩, .int .u32 0, .bool false, .slice A 1 c, .int .i64 0]] w (CheckP w) := by
 have HB := Aside0.mk (below_alloc (Below.refl w.heap.size w) (.cells #[.int .i64 40, .string ⟨#[]⟩, .int .u32 0, .bool false, .slice A 1 c, .int .i64 0] 25 (0, 0)))
 have HG := Aside0.mk (hG.below HB.out)
 have HN := Aside0.mk (hn.below HB.out)
 clear hG hn
 go_enter Tryz.func8, Tryz.ntmps8
 go_wp2_with (first
  | (go_at_call 16; ((refine (Size.prog A c _ HN.out).mono ?_); rintro e w1 ⟨rfl, hB⟩); have HB1 := Aside0.mk (below_then HB.out HB.out.size hB); have HN1 := Aside0.mk (HN.out.below hB); have HG1 := Aside0.mk (HG.out.below hB); (have HX_w1 : NB w1 w.heap.size nProg A c := NB.below (blk_new w _) hB); obtain ⟨c0, c1, c2, c3, c4, c5⟩ := HX_w1.cells; have HXA_w1 := Aside0.mk HX_w1; dsimp only [nProg, List.length_cons, List.length_nil] at c0 c1 c2 c3 c4 c5; clear HX_w1; clear hB)
  | (go_at_call 20; ((refine (may.prog A c _ HG1.out HN1.out).mono ?_); rintro e w2 ⟨rfl, hB⟩); have HB2 := Aside0.mk (below_then HB1.out HB1.out.size hB); clear hB)
  | fail)
 go_ret
 exact ⟨rfl, HB2.out⟩
end Go.Proofs.YtboojhadfhpdeaaGreatDoor.Q
namespace Go.Proofs.YtboojhadfhpdeaaGreatDoor.Q
open Go.RowKit Go.Proofs.YtboojhadfhpdeaaGreatDoorW.PrintWords Go.Proofs.YtboojhadfhpdeaaGreatDoorW.PrintLast Go.Proofs.YtboojhadfhpdeaaGreatDoorW.PrintMore
set_option linter.unusedVariables false
set_option linter.unusedSimpArgs false
abbrev six (x : S25) (A : Option Addr) (c : Nat) : List Value := [.int .i64 x.f0, .string x.f1, .int .u32 x.f2, .bool x.f3, .slice A x.f4.length c, .int .i64 x.f5]
theorem addr_at (q j : Nat) : (⟨q, 0, none⟩ : Addr).add j = ⟨q, j, none⟩ := by
 unfold Addr.add
 split
 · rename_i h; rw [h]
 · simp
theorem C_none (w : World) (A : Option Addr) : Kd.C k25 w A 0 [] := ⟨rfl, by decide, fun h => absurd h (by decide)⟩
theorem C_one {w : World} {q c : Nat} {x : S25} {A : Option Addr} (hq : w.heap[q]? = some (.cells (six x A c).toArray 25 (0, 0))) (hn : ND w x A c) : Kd.C k25 w (some ⟨q, 0, none⟩) 1 [x] :=
 ⟨rfl, by decide, fun _ => ⟨_, rfl, fun j p hj => by
  match j, hj with
  | 0, hj =>
   obtain rfl := Option.some.inj hj
   refine ⟨six x A c, rfl, k25_mk w x hn.le hn.C, fun i u hu => ?_⟩
   rw [addr_at, show 0 * k25.sz + i = i from by omega]
   exact (blk_cell hq i).trans (by simpa using hu)⟩⟩
theorem C_two {w : World} {q c c' : Nat} {x y : S25} {A A' : Option Addr} (hq : w.heap[q]? = some (.cells (six x A c ++ six y A' c').toArray 25 (0, 0))) (hn : ND w x A c) (hm : ND w y A' c') : Kd.C k25 w (some ⟨q, 0, none⟩) 2 [x, y] :=
 ⟨rfl, by decide, fun _ => ⟨_, rfl, fun j p hj => by
  match j, hj with
  | 0, hj =>
   obtain rfl := Option.some.inj hj
   refine ⟨six x A c, rfl, k25_mk w x hn.le hn.C, fun i u hu => ?_⟩
   rw [addr_at, show 0 * k25.sz + i = i from by omega]
   refine (blk_cell hq i).trans ?_
   have hi : i < (six x A c).length := (List.getElem?_eq_some_iff.1 hu).1
   rw [List.getElem?_toArray, List.getElem?_append_left hi, hu]
  | 1, hj =>
   obtain rfl := Option.some.inj hj
   refine ⟨six y A' c', rfl, k25_mk w y hm.le hm.C, fun i u hu => ?_⟩
   rw [addr_at, show 1 * k25.sz + i = 6 + i from by rw [show k25.sz = 6 from rfl]]
   refine (blk_cell hq (6 + i)).trans ?_
   rw [List.getElem?_toArray, List.getElem?_append_right (by simp), show 6 + i - (six x A c).length = i from by simp, hu]⟩⟩
end Go.Proofs.YtboojhadfhpdeaaGreatDoor.Q
namespace Go.Proofs.YtboojhadfhpdeaaGreatDoor.Q
open Go.RowKit Go.Proofs.YtboojhadfhpdeaaGreatDoorW.PrintWords Go.Proofs.YtboojhadfhpdeaaGreatDoorW.PrintLast Go.Proofs.YtboojhadfhpdeaaGreatDoorW.PrintMore
set_option linter.unusedVariables false
set_option linter.unusedSimpArgs false
abbrev txt : List Int := [105, 110, 116, 32, 120, 32, 61, 32, 49, 59, 10]
section
variable {ops : Array Oper} {rest : List Oper} {o : Oper} {a : Act} {Q : Exit → Act → World → Prop} {W : World}
theorem ev_box42 (hgd : o.guard = none) {N : Tmp} (_hd : o.dst = some N) {p : Operand} (ho : o.op = .box 42 p) (hx : a.eval p = .agg #[.slice none 0 0])
 (K : ∀ g w', W.heap.size ≤ g → w'.heap[g]? = some (.cells #[.slice none 0 0] 42 (0, 0)) → Below W.heap.size W w' → wpList Tryz.prog ops Q rest (a.put o.dst (.pointer (some ⟨g, 0, none⟩))) w') : wpList Tryz.prog ops Q (o :: rest) a W := by
 refine box_event hgd _hd (cs := #[.slice none 0 0]) (t := 42) ?_ (fun g hg w1 h1 h2 => K g w1 (by omega) h1 h2)
 simp only [execOp, ho, hx]
 go_simp
 try rfl
end
theorem own_slice2 {w : World} {b n : Nat} {v : Value} {xs : List Value} (h : w.ownsRow b 5 1 v n xs) : ∃ A c, v = .slice A n c := by
 rcases h.2 with ⟨rfl, rfl⟩ | ⟨g, cap, cur, rfl, _⟩
 · exact ⟨none, 0, rfl⟩
 · exact ⟨_, cap, rfl⟩
theorem PB.new {b g : Nat} {w : World} (hb : b ≤ g) (hw : b ≤ w.heap.size) (h : w.heap[g]? = some (.cells #[.slice none 0 0] 42 (0, 0))) : PB b g [] w := ⟨hb, hw, _, h, rfl, .inl ⟨rfl, rfl⟩⟩
set_option maxHeartbeats 8000000 in
set_option maxRecDepth 100000 in
theorem PB.row {b p : Nat} {w : World} (h : PB b p txt w) : ∃ A c, w.heap[p]? = some (.cells #[.slice A 11 c] 42 (0, 0)) ∧ (convert 40 9 (.slice A 11 c)).run Tryz.prog w = .ok (.string ⟨#[105, 110, 116, 32, 120, 32, 61, 32, 49, 59, 10]⟩) w := by
 obtain ⟨v, h1, h2⟩ := h.ex
 have h3 := own_string (P := Tryz.prog) (src := 40) (dst := 9) (e := 5) rfl rfl rfl h2
 have e : strOfNums txt = ⟨#[105, 110, 116, 32, 120, 32, 61, 32, 49, 59, 10]⟩ := by kernel_rfl
 rw [e] at h3
 obtain ⟨A, c, rfl⟩ := own_slice2 h2
 exact ⟨A, c, h1, h3⟩
def PrintP (w : World) (e : Ending) (w' : World) : Prop := e = .returned (.tuple #[.string ⟨#[105, 110, 116, 32, 120, 32, 61, 32, 49, 59, 10]⟩, .int .i64 0]) ∧ Below w.heap.size w w'
set_option maxHeartbeats 8000000 in
set_option maxRecDepth 100000 in
theorem Print.prog (A : Option Addr) (c : Nat) (w : World) (hG : PremW w) (hn : ND w nProg A c) : Calls Tryz.prog 11 #[.agg #[.int .i64 40, .string ⟨#[]⟩, .int .u32 0, .bool false, .slice A 1 c, .int .i64 0]] w (PrintP w) := by
 have HG0 := Aside0.mk hG
 have HN0 := Aside0.mk hn
 have HB := Aside0.mk (below_alloc (Below.refl w.heap.size w) (.cells #[.int .i64 40, .string ⟨#[]⟩, .int .u32 0, .bool false, .slice A 1 c, .int .i64 0] 25 (0, 0)))
 have HG := Aside0.mk (hG.below HB.out)
 have HN := Aside0.mk (hn.below HB.out)
 clear hG hn
 go_enter Tryz.func11, Tryz.ntmps11
 go_wp2_with (first
  | (go_at_call 8; ((refine (Check.prog A c _ HG.out HN.out).mono ?_); rintro e w1 ⟨rfl, hB⟩); have HB1 := Aside0.mk (below_then HB.out HB.out.size hB); have HN1 := Aside0.mk (HN.out.below hB); have HG1 := Aside0.mk (HG.out.below hB); (have HX_w1 : NB w1 w.heap.size nProg A c := NB.below (blk_new w _) hB); obtain ⟨c0, c1, c2, c3, c4, c5⟩ := HX_w1.cells; have HXA_w1 := Aside0.mk HX_w1; dsimp only [nProg, List.length_cons, List.length_nil] at c0 c1 c2 c3 c4 c5; clear HX_w1; clear hB)
  | (go_at_call 26; ((refine (all_p.prog g [] A c w w2 HB2.out HP2.out HG0.out HN0.out (by decide)).mono ?_); rintro e w3 ⟨rfl, hP, hW, hF⟩); obtain ⟨A3, c3, hp3, hcv⟩ := PB.row hP; have cp3 := (blk_cell hp3 0).trans (show #[Value.slice A3 11 c3][0]? = some (.slice A3 11 c3) from rfl); have HW3 := Aside0.mk hW; clear hP hW hF hp3)
  | (refine ev_box42 rfl rfl rfl rfl ?_; rintro g w2 hg hz hB; have HB2 := Aside0.mk (below_then HB1.out HB1.out.size hB); have HP2 := Aside0.mk (PB.new (b := w.heap.size) (by have := HB1.out.size; omega) HB2.out.size hz); (have HX_w2 : NB w2 w.heap.size nProg A c := NB.below HXA_w1.out hB); obtain ⟨c0, c1, c2, c3, c4, c5⟩ := HX_w2.cells; have HXA_w2 := Aside0.mk HX_w2; dsimp only [nProg, List.length_cons, List.length_nil] at c0 c1 c2 c3 c4 c5; clear HX_w2; clear hg hz hB)
  | fail)
 go_ret2
 exact ⟨rfl, HW3.out⟩
set_option maxHeartbeats 8000000 in
set_option maxRecDepth 100000 in
theorem own.calls (w : World) : Calls Tryz.prog 25 #[] w (fun e w' => ∃ A c, e = .returned (val nProg A c) ∧ ND w' nProg A c ∧ Below w.heap.size w w') := by
 go_enter Tryz.func25, Tryz.ntmps25
 go_wp2_with (first
  | (with_reducible refine ev_alloc25 rfl (N := 0) rfl rfl ?_; rintro g0 wa hg hz hB; have HG0 := Aside0.mk hg; have HBa := Aside0.mk hB; have HZ0 := Aside0.mk hz; clear hg hz hB)
  | (with_reducible refine ev_alloc25 rfl (N := 1) rfl rfl ?_; rintro g1 wc hg hz hB; have HG1 := Aside0.mk (show g1 = wa.heap.size + 1 from by rw [hg]; simp); have HQ1 := Aside0.mk (blk_below (blk_new wa _) hB); have HZ0c := Aside0.mk (blk_below (blk_alloc HZ0.out _) hB); have HBc := Aside0.mk (below_then (HBa.out.alloc HBa.out.size _) (HBa.out.alloc HBa.out.size _).size hB); have HZ1 := Aside0.mk hz; clear hg hz hB)
  | (refine ev_store25k rfl rfl (n := 1) rfl (x := nVar) (A := some ⟨wa.heap.size, 0, none⟩) (c := 1) rfl rfl HZ1.out ?_; rintro wd hN hB hk; obtain ⟨b0, b1, b2, b3, b4, b5⟩ := hN.cells; dsimp only [nVar, List.length_cons, List.length_nil] at b0 b1 b2 b3 b4 b5; have HQ1d := Aside0.mk ((hk _ (by have := HG1.out; omega)).trans HQ1.out); have HZ0d := Aside0.mk ((hk _ (by have := HG1.out; have := blk_lt HZ0.out; omega)).trans HZ0c.out); have HBd := Aside0.mk (HBc.out.trans (hB.mono (by have := HG1.out; have := HBa.out.size; omega))); clear hN hB hk)
  | (refine ev_store25k rfl rfl (n := 0) rfl (x := nProg) (A := some ⟨wd.heap.size + 1, 0, none⟩) (c := 1) rfl rfl (blk_alloc (blk_alloc HZ0d.out _) _) ?_; rintro we hN hB hk; have HN := Aside0.mk hN; have HQ1e := Aside0.mk ((hk _ (by have := blk_lt HZ0.out; omega)).trans (blk_alloc (blk_alloc HQ1d.out _) _)); have HQ2e := Aside0.mk ((hk _ (by have := blk_lt HZ0d.out; omega)).trans (blk_alloc (blk_new wd _) _)); have HQ3e := Aside0.mk ((hk _ (by have := blk_lt HZ0d.out; omega)).trans (blk_new1 wd _ _)); have HBe := Aside0.mk (((HBd.out.alloc HBd.out.size _).alloc ((HBd.out.alloc HBd.out.size _).size) _).trans (hB.mono (Nat.le_of_eq HG0.out.symm))); clear hN hB hk)
  | fail)
 have n1 : ND we nNum none 0 := ⟨Nat.le_refl _, C_none _ _⟩
 have n2 : ND we nVar (some ⟨wa.heap.size, 0, none⟩) 1 := ⟨Nat.le_refl _, C_one (c := 0) (A := none) HQ1e.out n1⟩
 have n3 : ND we nType none 0 := ⟨Nat.le_refl _, C_none _ _⟩
 have n4 : ND we nVars (some ⟨wd.heap.size, 0, none⟩) 2 := ⟨Nat.le_refl _, C_two (c := 0) (A := none) (c' := 1) HQ2e.out n3 n2⟩
 have n5 : ND we nProg (some ⟨wd.heap.size + 1, 0, none⟩) 1 := ⟨Nat.le_refl _, C_one (c := 2) HQ3e.out n4⟩
 refine bodyPost_ret (results_cell_row rfl _ _ g0 25 (six nProg (some ⟨wd.heap.size + 1, 0, none⟩) 1).toArray (0, 0) _ rfl HN.out Tryz.underlying25 rfl (by kernel_rfl)) rfl ?_
 exact ⟨_, _, rfl, n5, HBe.out⟩
set_option maxHeartbeats 8000000 in
set_option maxRecDepth 100000 in
theorem awake.calls (w : World) (hG : PremW w) : Calls Tryz.prog 10 #[] w (fun e w' => e = .returned (.bool true) ∧ Below w.heap.size w w') := by
 have HG := Aside0.mk hG
 clear hG
 go_enter Tryz.func10, Tryz.ntmps10
 go_wp2_with (first
  | (go_at_call 11; ((refine (Print.prog A1 c1 _ HG1.out HN1.out).mono ?_); rintro e w2 ⟨rfl, hB⟩); have HB2 := Aside0.mk (below_then HB1.out HB1.out.size hB); clear hB)
  | (go_at_call 16; ((refine (Size.prog A3 c3 _ HN3.out).mono ?_); rintro e w4 ⟨rfl, hB⟩); have HB4 := Aside0.mk (below_then HB3.out HB3.out.size hB); clear hB)
  | (go_at_call 25; have hc := HB2.out; clear hc; ((refine (own.calls _).mono ?_); rintro e w3 ⟨A3, c3, rfl, hn, hB⟩); have HB3 := Aside0.mk (below_then HB2.out HB2.out.size hB); have HN3 := Aside0.mk hn; clear hB hn)
  | (go_at_call 25; ((refine (own.calls _).mono ?_); rintro e w1 ⟨A1, c1, rfl, hn, hB⟩); have HB1 := Aside0.mk hB; have HG1 := Aside0.mk (HG.out.below hB); have HN1 := Aside0.mk hn; clear hB hn)
  | fail)
 go_ret
 exact ⟨rfl, HB4.out⟩
end Go.Proofs.YtboojhadfhpdeaaGreatDoor.Q
namespace Go.Proofs.YtboojhadfhpdeaaGreatDoor.Q
open Go.RowKit
def cruciblelaw08_awake.f : Option Bool := some true
theorem cruciblelaw08_awake.calls (r : Bool) (w : World) (hG : PremW w) (h : cruciblelaw08_awake.f = some r) : Calls Tryz.prog 10 #[] w fun e w' => e = .returned (.bool r) ∧ Below w.heap.size w w' := by
 obtain rfl := Option.some.inj h
 exact awake.calls w hG
end Go.Proofs.YtboojhadfhpdeaaGreatDoor.Q
namespace Go.Proofs.YtboojhadfhpdeaaGreatDoor.Q
open Go.RowKit Go.Proofs.YtboojhadfhpdeaaGreatDoorW.PrintWords Go.Proofs.YtboojhadfhpdeaaGreatDoorW.PrintLast Go.Proofs.YtboojhadfhpdeaaGreatDoorW.PrintMore
attribute [local go_sem] max2_int min2_int max_two min_two max_three min_three max_four min_four
set_option linter.unusedVariables false
set_option linter.unusedSimpArgs false
def cruciblelaw08_AstSame.j0 : Nat → Bool → Int → ByteArray → Int → Bool → List (S25) → Int → Int → ByteArray → Int → Bool → List (S25) → Int → Option (Bool)
 | 0, _, _, _, _, _, _, _, _, _, _, _, _, _ => none
 | k + 1, x12, x142000, x142001, x142002, x142003, x142004, x142005, x143000, x143001, x143002, x143003, x143004, x143005 => if x12 = true then ((cruciblelaw08_awake.f).bind fun t145 => (some t145)) else ((ast_Same.f k x142000 x142001 x142002 x142003 x142004 x142005 x143000 x143001 x143002 x143003 x143004 x143005).bind fun t146 => ((crucibleref08_Same.f k x142000 x142001 x142002 x142003 x142004 x142005 x143000 x143001 x143002 x143003 x143004 x143005).bind fun t147 => (if (t146 == t147) = true then ((ast_Same.f k x143000 x143001 x143002 x143003 x143004 x143005 x142000 x142001 x142002 x142003 x142004 x142005).bind fun t148 => ((crucibleref08_Same.f k x142000 x142001 x142002 x142003 x142004 x142005 x143000 x143001 x143002 x143003 x143004 x143005).bind fun t149 => (if (t148 == t149) = true then ((ast_Same.f k x142000 x142001 x142002 x142003 x142004 x142005 x142000 x142001 x142002 x142003 x142004 x142005).bind fun t150 => (if t150 = true then ((cruciblelaw08_awake.f).bind fun t151 => (some t151)) else (some false))) else (some false)))) else (some false))))
def cruciblelaw08_AstSame.f (k : Nat) (a0_0 : Int) (a0_1 : ByteArray) (a0_2 : Int) (a0_3 : Bool) (l0_4 : List (S25)) (a0_5 : Int) (a1_0 : Int) (a1_1 : ByteArray) (a1_2 : Int) (a1_3 : Bool) (l1_4 : List (S25)) (a1_5 : Int) : Option (Bool) := (crucibleref08_Size.f k a0_0 a0_1 a0_2 a0_3 l0_4 a0_5).bind fun t143 => (if t143 = 0 then (cruciblelaw08_AstSame.j0 k true a0_0 a0_1 a0_2 a0_3 l0_4 a0_5 a1_0 a1_1 a1_2 a1_3 l1_4 a1_5) else ((crucibleref08_Size.f k a1_0 a1_1 a1_2 a1_3 l1_4 a1_5).bind fun t144 => (cruciblelaw08_AstSame.j0 k (t144 == 0) a0_0 a0_1 a0_2 a0_3 l0_4 a0_5 a1_0 a1_1 a1_2 a1_3 l1_4 a1_5)))
theorem cruciblelaw08_AstSame.mono_l : ∀ k, (∀ y0 y1 y2 y3 y4 y5 y6 y7 y8 y9 y10 y11 y12, LeO (cruciblelaw08_AstSame.j0 k y0 y1 y2 y3 y4 y5 y6 y7 y8 y9 y10 y11 y12) (cruciblelaw08_AstSame.j0 (k + 1) y0 y1 y2 y3 y4 y5 y6 y7 y8 y9 y10 y11 y12))
 | 0 => fun _ _ _ _ _ _ _ _ _ _ _ _ _ r h => by simp [cruciblelaw08_AstSame.j0] at h
 | k + 1 => by
  have ih0 := cruciblelaw08_AstSame.mono_l k
  · intro y0 y1 y2 y3 y4 y5 y6 y7 y8 y9 y10 y11 y12
    unfold cruciblelaw08_AstSame.j0
    repeat' first
    | (with_reducible exact ih0 _ _ _ _ _ _ _ _ _ _ _ _ _)
    | (with_reducible exact ast_Same.mono _ _ _ _ _ _ _ _ _ _ _ _ _)
    | (with_reducible exact crucibleref08_Same.mono _ _ _ _ _ _ _ _ _ _ _ _ _)
    | (with_reducible exact crucibleref08_Size.mono _ _ _ _ _ _ _)
    | (with_reducible exact LeO.refl _)
    | (with_reducible exact LeO.none _)
    | (with_reducible refine LeO.ite ?_ ?_)
    | (with_reducible refine LeO.bind ?_ (fun _ => ?_))
    | exact ih0 _ _ _ _ _ _ _ _ _ _ _ _ _
    | exact ast_Same.mono _ _ _ _ _ _ _ _ _ _ _ _ _
    | exact crucibleref08_Same.mono _ _ _ _ _ _ _ _ _ _ _ _ _
    | exact crucibleref08_Size.mono _ _ _ _ _ _ _
    | exact LeO.none _
    | refine LeO.ite ?_ ?_
    | refine LeO.bind ?_ (fun _ => ?_)
theorem cruciblelaw08_AstSame.mono : ∀ a0 a1 a2 a3 a4 a5 a6 a7 a8 a9 a10 a11 k, LeO (cruciblelaw08_AstSame.f k a0 a1 a2 a3 a4 a5 a6 a7 a8 a9 a10 a11) (cruciblelaw08_AstSame.f (k + 1) a0 a1 a2 a3 a4 a5 a6 a7 a8 a9 a10 a11) := by
 intro a0 a1 a2 a3 a4 a5 a6 a7 a8 a9 a10 a11 k
 have ih0 := cruciblelaw08_AstSame.mono_l k
 unfold cruciblelaw08_AstSame.f
 repeat' first
  | (with_reducible exact ih0 _ _ _ _ _ _ _ _ _ _ _ _ _)
  | (with_reducible exact ast_Same.mono _ _ _ _ _ _ _ _ _ _ _ _ _)
  | (with_reducible exact crucibleref08_Same.mono _ _ _ _ _ _ _ _ _ _ _ _ _)
  | (with_reducible exact crucibleref08_Size.mono _ _ _ _ _ _ _)
  | (with_reducible exact LeO.refl _)
  | (with_reducible exact LeO.none _)
  | (with_reducible refine LeO.ite ?_ ?_)
  | (with_reducible refine LeO.bind ?_ (fun _ => ?_))
  | exact ih0 _ _ _ _ _ _ _ _ _ _ _ _ _
  | exact ast_Same.mono _ _ _ _ _ _ _ _ _ _ _ _ _
  | exact crucibleref08_Same.mono _ _ _ _ _ _ _ _ _ _ _ _ _
  | exact crucibleref08_Size.mono _ _ _ _ _ _ _
  | exact LeO.none _
  | refine LeO.ite ?_ ?_
  | refine LeO.bind ?_ (fun _ => ?_)
def cruciblelaw08_AstSame.T3 : Bool × List (List Nat × List Nat) := (true, [([], []), ([], []), ([0, 1], [0, 1]), ([], []), ([], []), ([3, 4, 2], [3, 4]), ([2, 5], [2, 5]), ([6, 5], [6]), ([7], [7]), ([7], [7]), ([8, 9, 7, 7], [7, 8, 9]), ([7], [7]), ([7], [7]), ([11, 12, 10, 7], [7, 11, 12]), ([10, 13, 7], [7, 10, 13]), ([7, 14], [7, 14]), ([15, 13], [15]), ([16], [16]), ([16], [16]), ([17, 18, 16, 16], [16, 17, 18]), ([16, 19], [16, 19]), ([20, 19], [20]), ([21, 21], [21]), ([21, 22], [21, 22]), ([23, 22, 0, 1, 2, 3, 4, 5, 6, 7, 8, 9, 10, 11, 12, 13, 14, 15, 16, 17, 18, 19, 20, 21, 22, 23], [23])])
def cruciblelaw08_AstSame.B3 : List Nat := [0, 0, 3, 0, 0, 31, 63, 127, 255, 255, 1023, 255, 255, 8191, 16383, 32767, 65535, 131071, 131071, 524287, 1048575, 2097151, 4194303, 8388607, 16777215]
theorem cruciblelaw08_AstSame.tab3 : rtab .any (opsOf Tryz.f5 3) = cruciblelaw08_AstSame.T3 := by kernel_rfl
theorem cruciblelaw08_AstSame.bits3 : waitsOk cruciblelaw08_AstSame.T3.2 cruciblelaw08_AstSame.B3 = true := by kernel_rfl
set_option maxHeartbeats 8000000 in
set_option maxRecDepth 100000 in
theorem cruciblelaw08_AstSame.calls (k : Nat) (a0_0 : Int) (a0_1 : ByteArray) (a0_2 : Int) (a0_3 : Bool) (A0_4 : Option Addr) (c0_4 : Nat) (l0_4 : List (S25)) (a0_5 : Int) (a1_0 : Int) (a1_1 : ByteArray) (a1_2 : Int) (a1_3 : Bool) (A1_4 : Option Addr) (c1_4 : Nat) (l1_4 : List (S25)) (a1_5 : Int) (r : Bool) (w : World) (hr0_4 : Kd.C k25 w A0_4 l0_4.length l0_4) (hc0_4 : l0_4.length ≤ c0_4) (hr1_4 : Kd.C k25 w A1_4 l1_4.length l1_4) (hc1_4 : l1_4.length ≤ c1_4) (hG : PremW w) (h : cruciblelaw08_AstSame.f k a0_0 a0_1 a0_2 a0_3 l0_4 a0_5 a1_0 a1_1 a1_2 a1_3 l1_4 a1_5 = some r) :
 Calls Tryz.prog 5 #[.agg #[.int .i64 a0_0, .string a0_1, .int .u32 a0_2, .bool a0_3, .slice A0_4 l0_4.length c0_4, .int .i64 a0_5], .agg #[.int .i64 a1_0, .string a1_1, .int .u32 a1_2, .bool a1_3, .slice A1_4 l1_4.length c1_4, .int .i64 a1_5]] w fun e w' => e = .returned (.bool r) ∧ Below w.heap.size w w' := by
 have hu25 := Tryz.underlying25
 have HR0_4 := Aside0.mk hr0_4
 have HC0_4 := Aside0.mk hc0_4
 clear hr0_4 hc0_4
 have HR1_4 := Aside0.mk hr1_4
 have HC1_4 := Aside0.mk hc1_4
 clear hr1_4 hc1_4
 have HG := Aside0.mk hG
 clear hG
 have HB := Aside0.mk (Below.refl w.heap.size w)
 have H : ((crucibleref08_Size.f k a0_0 a0_1 a0_2 a0_3 l0_4 a0_5).bind fun t143 => (if t143 = 0 then (cruciblelaw08_AstSame.j0 k true a0_0 a0_1 a0_2 a0_3 l0_4 a0_5 a1_0 a1_1 a1_2 a1_3 l1_4 a1_5) else ((crucibleref08_Size.f k a1_0 a1_1 a1_2 a1_3 l1_4 a1_5).bind fun t144 => (cruciblelaw08_AstSame.j0 k (t144 == 0) a0_0 a0_1 a0_2 a0_3 l0_4 a0_5 a1_0 a1_1 a1_2 a1_3 l1_4 a1_5)))) = some r := h
 clear h
 have HC3 := Aside0.mk H
 clear H
 go_enter Tryz.func5, Tryz.ntmps5
 go_upto_region 1 with (first | ((with_reducible refine gate_dst (N := 2) rfl ?_); refine box_event ?hg (N := 2) ?hd (cs := #[.int .i64 a0_0, .string a0_1, .int .u32 a0_2, .bool a0_3, .slice A0_4 l0_4.length c0_4, .int .i64 a0_5]) (t := 25) ?hr ?_; (case hd => rfl); (case hg => rfl); (case hr => first | (go_simp; done) | (go_simp; rfl)); intro gb141 hg w4 hbox hb; have n0_ := Aside0.mk (below_step (by repeat (first | (with_reducible first | exact HB.out | apply below_alloc | apply pw_below_drewN | apply below_drew1) | exact HB.out)) hb); have n1_ := Aside0.mk (hbox); have n2_ := Aside0.mk ((by rw [hg]; exact (below_size (by repeat (first | (with_reducible first | exact HB.out | apply below_alloc | apply pw_below_drewN | apply below_drew1) | exact HB.out))) : w.heap.size ≤ gb141)); have n3_ := Aside0.mk ((by rw [hg]; exact (below_size (by repeat (first | (with_reducible first | exact HB.out | apply below_alloc | apply pw_below_drewN | apply below_drew1) | exact HB.out))) : w.heap.size ≤ gb141)); clear HB; have HB := n0_; have BK141 := n1_; have GW141 := n2_; have GE141 := n3_; clear n0_ n1_ n2_ n3_; clear hb hbox hg) | ((with_reducible refine gate_dst (N := 3) rfl ?_); refine box_event ?hg (N := 3) ?hd (cs := #[.int .i64 a1_0, .string a1_1, .int .u32 a1_2, .bool a1_3, .slice A1_4 l1_4.length c1_4, .int .i64 a1_5]) (t := 25) ?hr ?_; (case hd => rfl); (case hg => rfl); (case hr => first | (go_simp; done) | (go_simp; rfl)); intro gb142 hg w5 hbox hb; have n0_ := Aside0.mk (blk_below (g := gb141) (o := .cells #[.int .i64 a0_0, .string a0_1, .int .u32 a0_2, .bool a0_3, .slice A0_4 l0_4.length c0_4, .int .i64 a0_5] 25 (0, 0)) (by (with_reducible repeat (first | refine blk_drewN ?_ _ | refine blk_drew ?_ | refine blk_alloc ?_ _)); exact BK141.out) hb); have n1_ := Aside0.mk (below_step (by repeat (first | (with_reducible first | exact HB.out | apply below_alloc | apply pw_below_drewN | apply below_drew1 | refine below_set ?_ GE141.out) | exact HB.out)) hb); have n2_ := Aside0.mk (hbox); have n3_ := Aside0.mk ((by rw [hg]; exact (below_size (by repeat (first | (with_reducible first | exact HB.out | apply below_alloc | apply pw_below_drewN | apply below_drew1 | refine below_set ?_ GE141.out) | exact HB.out))) : w.heap.size ≤ gb142)); have n4_ := Aside0.mk ((by rw [hg]; exact (below_size (by repeat (first | (with_reducible first | exact HB.out | apply below_alloc | apply pw_below_drewN | apply below_drew1 | refine below_set ?_ GE141.out) | exact HB.out))) : w.heap.size ≤ gb142)); have n5_ := Aside0.mk ((by rw [hg]; exact Nat.ne_of_lt (blk_lt (g := gb141) (o := .cells #[.int .i64 a0_0, .string a0_1, .int .u32 a0_2, .bool a0_3, .slice A0_4 l0_4.length c0_4, .int .i64 a0_5] 25 (0, 0)) (by (with_reducible repeat (first | refine blk_drewN ?_ _ | refine blk_drew ?_ | refine blk_alloc ?_ _)); exact BK141.out)) : gb141 ≠ gb142)); have n6_ := Aside0.mk ((by rw [hg]; exact Nat.ne_of_gt (blk_lt (g := gb141) (o := .cells #[.int .i64 a0_0, .string a0_1, .int .u32 a0_2, .bool a0_3, .slice A0_4 l0_4.length c0_4, .int .i64 a0_5] 25 (0, 0)) (by (with_reducible repeat (first | refine blk_drewN ?_ _ | refine blk_drew ?_ | refine blk_alloc ?_ _)); exact BK141.out)) : gb142 ≠ gb141)); clear BK141; clear HB; have BK141 := n0_; have HB := n1_; have BK142 := n2_; have GW142 := n3_; have GE142 := n4_; have NB141_142 := n5_; have NB142_141 := n6_; clear n0_ n1_ n2_ n3_ n4_ n5_ n6_; clear hb hbox hg))
 (try simp only [Act.put, List.setIfInBounds_toArray, List.set_cons_zero, List.set_cons_succ])
 go_cut [12] (fun v12 wc => ∃ (kq : Nat) (x12_2 : Bool), v12 = .bool x12_2 ∧ Aside0 (cruciblelaw08_AstSame.j0 kq x12_2 a0_0 a0_1 a0_2 a0_3 l0_4 a0_5 a1_0 a1_1 a1_2 a1_3 l1_4 a1_5 = some r) ∧ Aside0 (kq ≤ k) ∧ Aside0 (wc.heap[gb141]? = some (.cells #[.int .i64 a0_0, .string a0_1, .int .u32 a0_2, .bool a0_3, (.slice A0_4 l0_4.length c0_4), .int .i64 a0_5] 25 (0, 0))) ∧ Aside0 (wc.heap[gb142]? = some (.cells #[.int .i64 a1_0, .string a1_1, .int .u32 a1_2, .bool a1_3, (.slice A1_4 l1_4.length c1_4), .int .i64 a1_5] 25 (0, 0))) ∧ Aside0 (Below w.heap.size w wc))
 case first =>
  have H := HC3.out
  clear HC3
  replace H := Option.bind_eq_some_iff.mp H
  obtain ⟨t143, A60, H⟩ := H
  replace H : (if t143 = 0 then (cruciblelaw08_AstSame.j0 k true a0_0 a0_1 a0_2 a0_3 l0_4 a0_5 a1_0 a1_1 a1_2 a1_3 l1_4 a1_5) else ((crucibleref08_Size.f k a1_0 a1_1 a1_2 a1_3 l1_4 a1_5).bind fun t144 => (cruciblelaw08_AstSame.j0 k (t144 == 0) a0_0 a0_1 a0_2 a0_3 l0_4 a0_5 a1_0 a1_1 a1_2 a1_3 l1_4 a1_5))) = some r := H
  have A6 := Aside0.mk A60
  clear A60
  by_cases c7 : t143 = 0
  · rw [if_pos c7] at H
    have c7b0 : (t143 == 0) = true := beq_iff_eq.mpr c7
    have c7b1 : (t143 != 0) = false := bne_eq_false_iff_eq.mpr c7
    clear c7
    (first | rw [c7b0] | (simp only [i64_w, i32_w]; rw [c7b0]) | skip)
    have H' := Aside0.mk H
    clear H
    have hnb8 := NB141_142.out
    have hnc8 := NB142_141.out
    have hcz9_0 : w5.cell? ⟨gb141, 0, none⟩ = some (.int .i64 a0_0) := (blk_cell BK141.out 0).trans rfl
    have hcz9_1 : w5.cell? ⟨gb141, 1, none⟩ = some (.string a0_1) := (blk_cell BK141.out 1).trans rfl
    have hcz9_2 : w5.cell? ⟨gb141, 2, none⟩ = some (.int .u32 a0_2) := (blk_cell BK141.out 2).trans rfl
    have hcz9_3 : w5.cell? ⟨gb141, 3, none⟩ = some (.bool a0_3) := (blk_cell BK141.out 3).trans rfl
    have hcz9_4 : w5.cell? ⟨gb141, 4, none⟩ = some (.slice A0_4 l0_4.length c0_4) := (blk_cell BK141.out 4).trans rfl
    have hcz9_5 : w5.cell? ⟨gb141, 5, none⟩ = some (.int .i64 a0_5) := (blk_cell BK141.out 5).trans rfl
    have hfz9_0 := blk_frozen BK141.out 0
    have hfz9_1 := blk_frozen BK141.out 1
    have hfz9_2 := blk_frozen BK141.out 2
    have hfz9_3 := blk_frozen BK141.out 3
    have hfz9_4 := blk_frozen BK141.out 4
    have hfz9_5 := blk_frozen BK141.out 5
    go_wp2_with (first | ((with_reducible refine gate_callee (f := 13) rfl ?_); refine goesL_ (some 6) rfl rfl Tryz.func13 (by kernel_rfl) rfl #[.agg #[.int .i64 a0_0, .string a0_1, .int .u32 a0_2, .bool a0_3, .slice A0_4 l0_4.length c0_4, .int .i64 a0_5]] rfl (by (try simp only [List.map_toArray, List.map_cons, List.map_nil]); first | done | rfl | (simp only [List.length_drop, List.length_take]; rfl)) ?_; (with_reducible refine (crucibleref08_Size.calls k a0_0 a0_1 a0_2 a0_3 _ _ l0_4 a0_5 t143 _ ?side1 ?side2 A6.out).mono ?_); (case side1 => repeat (first | exact (Kd.C_below HR0_4.out HB.out) | (with_reducible refine Kd.C_alloc ?_ _) | (with_reducible refine Kd.C_drewN ?_ _) | (with_reducible refine Kd.C_drew ?_))); (case side2 => exact HC0_4.out); rintro e w10 ⟨rfl, hb⟩; refine ⟨_, rfl, ?_⟩; have n0_ := Aside0.mk (blk_below (g := gb141) (o := .cells #[.int .i64 a0_0, .string a0_1, .int .u32 a0_2, .bool a0_3, .slice A0_4 l0_4.length c0_4, .int .i64 a0_5] 25 (0, 0)) (by (with_reducible repeat (first | refine blk_drewN ?_ _ | refine blk_drew ?_ | refine blk_alloc ?_ _)); exact BK141.out) hb); have n1_ := Aside0.mk (blk_below (g := gb142) (o := .cells #[.int .i64 a1_0, .string a1_1, .int .u32 a1_2, .bool a1_3, .slice A1_4 l1_4.length c1_4, .int .i64 a1_5] 25 (0, 0)) (by (with_reducible repeat (first | refine blk_drewN ?_ _ | refine blk_drew ?_ | refine blk_alloc ?_ _)); exact BK142.out) hb); have n2_ := Aside0.mk (below_step (by repeat (first | (with_reducible first | exact HB.out | apply below_alloc | apply pw_below_drewN | apply below_drew1 | refine below_set ?_ GE141.out | refine below_set ?_ GE142.out) | exact HB.out)) hb); clear BK141; clear BK142; clear HB; have BK141 := n0_; have BK142 := n1_; have HB := n2_; clear n0_ n1_ n2_; (try clear hb); (try clear hb2); (try clear hk); (try clear hi)))
    go_meet
    case rel => exact ⟨_, (true), (by first | rfl | (simp; done) | (simp [*]; done)), H', ⟨by first | omega | exact Nat.le_refl _⟩, ⟨by (with_reducible repeat (first | refine blk_drewN ?_ _ | refine blk_drew ?_ | refine blk_alloc ?_ _)); exact BK141.out⟩, ⟨by (with_reducible repeat (first | refine blk_drewN ?_ _ | refine blk_drew ?_ | refine blk_alloc ?_ _)); exact BK142.out⟩, ⟨by repeat (first | (with_reducible first | exact HB.out | apply below_alloc | apply pw_below_drewN | apply below_drew1 | refine below_set ?_ GE141.out | refine below_set ?_ GE142.out) | exact HB.out)⟩⟩
  · rw [if_neg c7] at H
    have c7b0 : (t143 == 0) = false := beq_eq_false_iff_ne.mpr c7
    have c7b1 : (t143 != 0) = true := bne_iff_ne.mpr c7
    (first | rw [c7b0] | (simp only [i64_w, i32_w]; rw [c7b0]) | skip)
    replace H := Option.bind_eq_some_iff.mp H
    obtain ⟨t144, A110, H⟩ := H
    replace H : (cruciblelaw08_AstSame.j0 k (t144 == 0) a0_0 a0_1 a0_2 a0_3 l0_4 a0_5 a1_0 a1_1 a1_2 a1_3 l1_4 a1_5) = some r := H
    have A11 := Aside0.mk A110
    clear A110
    have H' := Aside0.mk H
    clear H
    have hnb12 := NB141_142.out
    have hnc12 := NB142_141.out
    have hcz13_0 : w5.cell? ⟨gb141, 0, none⟩ = some (.int .i64 a0_0) := (blk_cell BK141.out 0).trans rfl
    have hcz13_1 : w5.cell? ⟨gb141, 1, none⟩ = some (.string a0_1) := (blk_cell BK141.out 1).trans rfl
    have hcz13_2 : w5.cell? ⟨gb141, 2, none⟩ = some (.int .u32 a0_2) := (blk_cell BK141.out 2).trans rfl
    have hcz13_3 : w5.cell? ⟨gb141, 3, none⟩ = some (.bool a0_3) := (blk_cell BK141.out 3).trans rfl
    have hcz13_4 : w5.cell? ⟨gb141, 4, none⟩ = some (.slice A0_4 l0_4.length c0_4) := (blk_cell BK141.out 4).trans rfl
    have hcz13_5 : w5.cell? ⟨gb141, 5, none⟩ = some (.int .i64 a0_5) := (blk_cell BK141.out 5).trans rfl
    have hfz13_0 := blk_frozen BK141.out 0
    have hfz13_1 := blk_frozen BK141.out 1
    have hfz13_2 := blk_frozen BK141.out 2
    have hfz13_3 := blk_frozen BK141.out 3
    have hfz13_4 := blk_frozen BK141.out 4
    have hfz13_5 := blk_frozen BK141.out 5
    go_wp2_with (first | ((with_reducible refine gate_callee (f := 13) rfl ?_); refine goesL_ (some 6) rfl rfl Tryz.func13 (by kernel_rfl) rfl #[.agg #[.int .i64 a0_0, .string a0_1, .int .u32 a0_2, .bool a0_3, .slice A0_4 l0_4.length c0_4, .int .i64 a0_5]] rfl (by (try simp only [List.map_toArray, List.map_cons, List.map_nil]); first | done | rfl | (simp only [List.length_drop, List.length_take]; rfl)) ?_; (with_reducible refine (crucibleref08_Size.calls k a0_0 a0_1 a0_2 a0_3 _ _ l0_4 a0_5 t143 _ ?side1 ?side2 A6.out).mono ?_); (case side1 => repeat (first | exact (Kd.C_below HR0_4.out HB.out) | (with_reducible refine Kd.C_alloc ?_ _) | (with_reducible refine Kd.C_drewN ?_ _) | (with_reducible refine Kd.C_drew ?_))); (case side2 => exact HC0_4.out); rintro e w14 ⟨rfl, hb⟩; refine ⟨_, rfl, ?_⟩; have n0_ := Aside0.mk (blk_below (g := gb141) (o := .cells #[.int .i64 a0_0, .string a0_1, .int .u32 a0_2, .bool a0_3, .slice A0_4 l0_4.length c0_4, .int .i64 a0_5] 25 (0, 0)) (by (with_reducible repeat (first | refine blk_drewN ?_ _ | refine blk_drew ?_ | refine blk_alloc ?_ _)); exact BK141.out) hb); have n1_ := Aside0.mk (blk_below (g := gb142) (o := .cells #[.int .i64 a1_0, .string a1_1, .int .u32 a1_2, .bool a1_3, .slice A1_4 l1_4.length c1_4, .int .i64 a1_5] 25 (0, 0)) (by (with_reducible repeat (first | refine blk_drewN ?_ _ | refine blk_drew ?_ | refine blk_alloc ?_ _)); exact BK142.out) hb); have n2_ := Aside0.mk (below_step (by repeat (first | (with_reducible first | exact HB.out | apply below_alloc | apply pw_below_drewN | apply below_drew1 | refine below_set ?_ GE141.out | refine below_set ?_ GE142.out) | exact HB.out)) hb); clear BK141; clear BK142; clear HB; have BK141 := n0_; have BK142 := n1_; have HB := n2_; clear n0_ n1_ n2_; (try clear hb); (try clear hb2); (try clear hk); (try clear hi); have hcz15_0 : w14.cell? ⟨gb142, 0, none⟩ = some (.int .i64 a1_0) := (blk_cell BK142.out 0).trans rfl; have hcz15_1 : w14.cell? ⟨gb142, 1, none⟩ = some (.string a1_1) := (blk_cell BK142.out 1).trans rfl; have hcz15_2 : w14.cell? ⟨gb142, 2, none⟩ = some (.int .u32 a1_2) := (blk_cell BK142.out 2).trans rfl; have hcz15_3 : w14.cell? ⟨gb142, 3, none⟩ = some (.bool a1_3) := (blk_cell BK142.out 3).trans rfl; have hcz15_4 : w14.cell? ⟨gb142, 4, none⟩ = some (.slice A1_4 l1_4.length c1_4) := (blk_cell BK142.out 4).trans rfl; have hcz15_5 : w14.cell? ⟨gb142, 5, none⟩ = some (.int .i64 a1_5) := (blk_cell BK142.out 5).trans rfl; have hfz15_0 := blk_frozen BK142.out 0; have hfz15_1 := blk_frozen BK142.out 1; have hfz15_2 := blk_frozen BK142.out 2; have hfz15_3 := blk_frozen BK142.out 3; have hfz15_4 := blk_frozen BK142.out 4; have hfz15_5 := blk_frozen BK142.out 5) | (go_at_call 13; (with_reducible refine (crucibleref08_Size.calls k a1_0 a1_1 a1_2 a1_3 _ _ l1_4 a1_5 t144 _ ?side1 ?side2 A11.out).mono ?_); (case side1 => repeat (first | exact (Kd.C_below HR1_4.out HB.out) | (with_reducible refine Kd.C_alloc ?_ _) | (with_reducible refine Kd.C_drewN ?_ _) | (with_reducible refine Kd.C_drew ?_))); (case side2 => exact HC1_4.out); rintro e w16 ⟨rfl, hb⟩; have n0_ := Aside0.mk (blk_below (g := gb141) (o := .cells #[.int .i64 a0_0, .string a0_1, .int .u32 a0_2, .bool a0_3, .slice A0_4 l0_4.length c0_4, .int .i64 a0_5] 25 (0, 0)) (by (with_reducible repeat (first | refine blk_drewN ?_ _ | refine blk_drew ?_ | refine blk_alloc ?_ _)); exact BK141.out) hb); have n1_ := Aside0.mk (blk_below (g := gb142) (o := .cells #[.int .i64 a1_0, .string a1_1, .int .u32 a1_2, .bool a1_3, .slice A1_4 l1_4.length c1_4, .int .i64 a1_5] 25 (0, 0)) (by (with_reducible repeat (first | refine blk_drewN ?_ _ | refine blk_drew ?_ | refine blk_alloc ?_ _)); exact BK142.out) hb); have n2_ := Aside0.mk (below_step (by repeat (first | (with_reducible first | exact HB.out | apply below_alloc | apply pw_below_drewN | apply below_drew1 | refine below_set ?_ GE141.out | refine below_set ?_ GE142.out) | exact HB.out)) hb); clear BK141; clear BK142; clear HB; have BK141 := n0_; have BK142 := n1_; have HB := n2_; clear n0_ n1_ n2_; (try clear hb); (try clear hb2); (try clear hk); (try clear hi)))
    go_meet
    case rel => exact ⟨_, ((t144 == 0)), (by first | rfl | (simp; done) | (simp [*]; done)), H', ⟨by first | omega | exact Nat.le_refl _⟩, ⟨by (with_reducible repeat (first | refine blk_drewN ?_ _ | refine blk_drew ?_ | refine blk_alloc ?_ _)); exact BK141.out⟩, ⟨by (with_reducible repeat (first | refine blk_drewN ?_ _ | refine blk_drew ?_ | refine blk_alloc ?_ _)); exact BK142.out⟩, ⟨by repeat (first | (with_reducible first | exact HB.out | apply below_alloc | apply pw_below_drewN | apply below_drew1 | refine below_set ?_ GE141.out | refine below_set ?_ GE142.out) | exact HB.out)⟩⟩
 case rest =>
  clear HC3
  try clear c1
  try clear p2
  try clear c5
  try clear c7
  try clear c7b0
  try clear c7b1
  try clear c8
  try clear c12
  try clear c13
  try clear hcz13_0
  try clear hcz13_1
  try clear hcz13_2
  try clear hcz13_3
  try clear hcz13_4
  try clear hcz13_5
  try clear hcz15_0
  try clear hcz15_1
  try clear hcz15_2
  try clear hcz15_3
  try clear hcz15_4
  try clear hcz15_5
  try clear hcz9_0
  try clear hcz9_1
  try clear hcz9_2
  try clear hcz9_3
  try clear hcz9_4
  try clear hcz9_5
  try clear hfz13_0
  try clear hfz13_1
  try clear hfz13_2
  try clear hfz13_3
  try clear hfz13_4
  try clear hfz13_5
  try clear hfz15_0
  try clear hfz15_1
  try clear hfz15_2
  try clear hfz15_3
  try clear hfz15_4
  try clear hfz15_5
  try clear hfz9_0
  try clear hfz9_1
  try clear hfz9_2
  try clear hfz9_3
  try clear hfz9_4
  try clear hfz9_5
  obtain ⟨kq, x12_2, rfl, HA, HJ2, BK141, BK142, HB⟩ := hcut
  cases kq with
  | zero => exact absurd HA.out (by simp [cruciblelaw08_AstSame.j0])
  | succ kj2 =>
   have H := HA.out
   clear HA
   simp only [cruciblelaw08_AstSame.j0] at H
   by_cases c17 : x12_2 = true
   · subst c17
     have H1 : ((cruciblelaw08_awake.f).bind fun t145 => (some t145)) = some r := by rw [if_pos rfl] at H; exact H
     clear H
     have H := H1
     clear H1
     replace H := Option.bind_eq_some_iff.mp H
     obtain ⟨t145, A180, H⟩ := H
     replace H : (some t145) = some r := H
     have A18 := Aside0.mk A180
     clear A180
     obtain rfl := Option.some.inj H
     go_wp2_with (first | ((with_reducible refine gate_callee (f := 10) rfl ?_); refine goesL_ (some 13) rfl rfl Tryz.func10 (by kernel_rfl) rfl #[] rfl (by (try simp only [List.map_toArray, List.map_cons, List.map_nil]); first | done | rfl | (simp only [List.length_drop, List.length_take]; rfl)) ?_; (with_reducible refine (cruciblelaw08_awake.calls  t145 _ ?side1 A18.out).mono ?_); (case side1 => refine PremW.below HG.out ?_; repeat (first | (with_reducible first | exact HB.out | apply below_alloc | apply pw_below_drewN | apply below_drew1 | refine below_set ?_ GE141.out | refine below_set ?_ GE142.out) | exact HB.out)); rintro e w19 ⟨rfl, hb⟩; refine ⟨_, rfl, ?_⟩; have n0_ := Aside0.mk (blk_below (g := gb141) (o := .cells #[.int .i64 a0_0, .string a0_1, .int .u32 a0_2, .bool a0_3, .slice A0_4 l0_4.length c0_4, .int .i64 a0_5] 25 (0, 0)) (by (with_reducible repeat (first | refine blk_drewN ?_ _ | refine blk_drew ?_ | refine blk_alloc ?_ _)); exact BK141.out) hb); have n1_ := Aside0.mk (blk_below (g := gb142) (o := .cells #[.int .i64 a1_0, .string a1_1, .int .u32 a1_2, .bool a1_3, .slice A1_4 l1_4.length c1_4, .int .i64 a1_5] 25 (0, 0)) (by (with_reducible repeat (first | refine blk_drewN ?_ _ | refine blk_drew ?_ | refine blk_alloc ?_ _)); exact BK142.out) hb); have n2_ := Aside0.mk (below_step (by repeat (first | (with_reducible first | exact HB.out | apply below_alloc | apply pw_below_drewN | apply below_drew1 | refine below_set ?_ GE141.out | refine below_set ?_ GE142.out) | exact HB.out)) hb); clear BK141; clear BK142; clear HB; have BK141 := n0_; have BK142 := n1_; have HB := n2_; clear n0_ n1_ n2_; (try clear hb); (try clear hb2); (try clear hk); (try clear hi)))
     go_ret
     exact ⟨by first | rfl | (simp [errW_none, errW_some] <;> rfl) | (simp [*, errW_none, errW_some] <;> rfl), by repeat (first | (with_reducible first | exact HB.out | apply below_alloc | apply pw_below_drewN | apply below_drew1 | refine below_set ?_ GE141.out | refine below_set ?_ GE142.out) | exact HB.out)⟩
   · replace c17 := Bool.eq_false_iff.mpr c17
     subst c17
     have H1 : ((ast_Same.f kj2 a0_0 a0_1 a0_2 a0_3 l0_4 a0_5 a1_0 a1_1 a1_2 a1_3 l1_4 a1_5).bind fun t146 => ((crucibleref08_Same.f kj2 a0_0 a0_1 a0_2 a0_3 l0_4 a0_5 a1_0 a1_1 a1_2 a1_3 l1_4 a1_5).bind fun t147 => (if (t146 == t147) = true then ((ast_Same.f kj2 a1_0 a1_1 a1_2 a1_3 l1_4 a1_5 a0_0 a0_1 a0_2 a0_3 l0_4 a0_5).bind fun t148 => ((crucibleref08_Same.f kj2 a0_0 a0_1 a0_2 a0_3 l0_4 a0_5 a1_0 a1_1 a1_2 a1_3 l1_4 a1_5).bind fun t149 => (if (t148 == t149) = true then ((ast_Same.f kj2 a0_0 a0_1 a0_2 a0_3 l0_4 a0_5 a0_0 a0_1 a0_2 a0_3 l0_4 a0_5).bind fun t150 => (if t150 = true then ((cruciblelaw08_awake.f).bind fun t151 => (some t151)) else (some false))) else (some false)))) else (some false)))) = some r := by rw [if_neg (show ¬ (false = true) by decide)] at H; exact H
     clear H
     have H := H1
     clear H1
     replace H := Option.bind_eq_some_iff.mp H
     obtain ⟨t146, A200, H⟩ := H
     replace H : ((crucibleref08_Same.f kj2 a0_0 a0_1 a0_2 a0_3 l0_4 a0_5 a1_0 a1_1 a1_2 a1_3 l1_4 a1_5).bind fun t147 => (if (t146 == t147) = true then ((ast_Same.f kj2 a1_0 a1_1 a1_2 a1_3 l1_4 a1_5 a0_0 a0_1 a0_2 a0_3 l0_4 a0_5).bind fun t148 => ((crucibleref08_Same.f kj2 a0_0 a0_1 a0_2 a0_3 l0_4 a0_5 a1_0 a1_1 a1_2 a1_3 l1_4 a1_5).bind fun t149 => (if (t148 == t149) = true then ((ast_Same.f kj2 a0_0 a0_1 a0_2 a0_3 l0_4 a0_5 a0_0 a0_1 a0_2 a0_3 l0_4 a0_5).bind fun t150 => (if t150 = true then ((cruciblelaw08_awake.f).bind fun t151 => (some t151)) else (some false))) else (some false)))) else (some false))) = some r := H
     have A20 := Aside0.mk A200
     clear A200
     replace H := Option.bind_eq_some_iff.mp H
     obtain ⟨t147, A210, H⟩ := H
     replace H : (if (t146 == t147) = true then ((ast_Same.f kj2 a1_0 a1_1 a1_2 a1_3 l1_4 a1_5 a0_0 a0_1 a0_2 a0_3 l0_4 a0_5).bind fun t148 => ((crucibleref08_Same.f kj2 a0_0 a0_1 a0_2 a0_3 l0_4 a0_5 a1_0 a1_1 a1_2 a1_3 l1_4 a1_5).bind fun t149 => (if (t148 == t149) = true then ((ast_Same.f kj2 a0_0 a0_1 a0_2 a0_3 l0_4 a0_5 a0_0 a0_1 a0_2 a0_3 l0_4 a0_5).bind fun t150 => (if t150 = true then ((cruciblelaw08_awake.f).bind fun t151 => (some t151)) else (some false))) else (some false)))) else (some false)) = some r := H
     have A21 := Aside0.mk A210
     clear A210
     by_cases c22 : (t146 == t147) = true
     · rw [if_pos c22] at H
       have c22b0 : (t146 == t147) = true := c22
       (try (have c22b1 : decide (t146 = t147) = true := by simpa using c22))
       (try (have c22b2 : (t146 == t147) = true := by simpa using c22))
       clear c22
       replace H := Option.bind_eq_some_iff.mp H
       obtain ⟨t148, A230, H⟩ := H
       replace H : ((crucibleref08_Same.f kj2 a0_0 a0_1 a0_2 a0_3 l0_4 a0_5 a1_0 a1_1 a1_2 a1_3 l1_4 a1_5).bind fun t149 => (if (t148 == t149) = true then ((ast_Same.f kj2 a0_0 a0_1 a0_2 a0_3 l0_4 a0_5 a0_0 a0_1 a0_2 a0_3 l0_4 a0_5).bind fun t150 => (if t150 = true then ((cruciblelaw08_awake.f).bind fun t151 => (some t151)) else (some false))) else (some false))) = some r := H
       have A23 := Aside0.mk A230
       clear A230
       replace H := Option.bind_eq_some_iff.mp H
       obtain ⟨t149, A240, H⟩ := H
       replace H : (if (t148 == t149) = true then ((ast_Same.f kj2 a0_0 a0_1 a0_2 a0_3 l0_4 a0_5 a0_0 a0_1 a0_2 a0_3 l0_4 a0_5).bind fun t150 => (if t150 = true then ((cruciblelaw08_awake.f).bind fun t151 => (some t151)) else (some false))) else (some false)) = some r := H
       have A24 := Aside0.mk A240
       clear A240
       by_cases c25 : (t148 == t149) = true
       · rw [if_pos c25] at H
         have c25b0 : (t148 == t149) = true := c25
         (try (have c25b1 : decide (t148 = t149) = true := by simpa using c25))
         (try (have c25b2 : (t148 == t149) = true := by simpa using c25))
         clear c25
         replace H := Option.bind_eq_some_iff.mp H
         obtain ⟨t150, A260, H⟩ := H
         replace H : (if t150 = true then ((cruciblelaw08_awake.f).bind fun t151 => (some t151)) else (some false)) = some r := H
         have A26 := Aside0.mk A260
         clear A260
         by_cases c27 : t150 = true
         · subst c27
           have H1 : ((cruciblelaw08_awake.f).bind fun t151 => (some t151)) = some r := by rw [if_pos rfl] at H; exact H
           clear H
           have H := H1
           clear H1
           replace H := Option.bind_eq_some_iff.mp H
           obtain ⟨t151, A280, H⟩ := H
           replace H : (some t151) = some r := H
           have A28 := Aside0.mk A280
           clear A280
           obtain rfl := Option.some.inj H
           try go_wp2
           have n0_ := Aside0.mk (blk_drew BK141.out)
           have n1_ := Aside0.mk (blk_drew BK142.out)
           have n2_ := Aside0.mk (below_drew1 HB.out)
           clear BK141
           clear BK142
           clear HB
           have BK141 := n0_
           have BK142 := n1_
           have HB := n2_
           clear n0_ n1_ n2_
           refine start_ (n := 25) (S := fun w' => w'.cell? ⟨gb141, 0, none⟩ = some (.int .i64 a0_0) ∧ w'.cell? ⟨gb141, 1, none⟩ = some (.string a0_1) ∧ w'.cell? ⟨gb141, 2, none⟩ = some (.int .u32 a0_2) ∧ w'.cell? ⟨gb141, 3, none⟩ = some (.bool a0_3) ∧ w'.cell? ⟨gb141, 4, none⟩ = some (.slice A0_4 l0_4.length c0_4) ∧ w'.cell? ⟨gb141, 5, none⟩ = some (.int .i64 a0_5) ∧ w'.cell? ⟨gb142, 0, none⟩ = some (.int .i64 a1_0) ∧ w'.cell? ⟨gb142, 1, none⟩ = some (.string a1_1) ∧ w'.cell? ⟨gb142, 2, none⟩ = some (.int .u32 a1_2) ∧ w'.cell? ⟨gb142, 3, none⟩ = some (.bool a1_3) ∧ w'.cell? ⟨gb142, 4, none⟩ = some (.slice A1_4 l1_4.length c1_4) ∧ w'.cell? ⟨gb142, 5, none⟩ = some (.int .i64 a1_5)) (ds := []) #[false, false, false, false, false, false, false, false, false, false, false, false, false, false, false, false, false, false, false, false, false, false, false, false, false] (by kernel_rfl) rfl rfl ⟨(blk_cell BK141.out 0).trans rfl, (blk_cell BK141.out 1).trans rfl, (blk_cell BK141.out 2).trans rfl, (blk_cell BK141.out 3).trans rfl, (blk_cell BK141.out 4).trans rfl, (blk_cell BK141.out 5).trans rfl, (blk_cell BK142.out 0).trans rfl, (blk_cell BK142.out 1).trans rfl, (blk_cell BK142.out 2).trans rfl, (blk_cell BK142.out 3).trans rfl, (blk_cell BK142.out 4).trans rfl, (blk_cell BK142.out 5).trans rfl⟩ (fun hHeld => ?_); refine with_tabW cruciblelaw08_AstSame.tab3 cruciblelaw08_AstSame.bits3 (fun HT_ HW_ => ?_)
           generalize wc.drew = w29 at BK141 BK142 HB hHeld ⊢
           refine take_ (i := 0) (N := some 14) (v := ?_) (a' := ?_) #[true, false, false, false, false, false, false, false, false, false, false, false, false, false, false, false, false, false, false, false, false, false, false, false, false] rfl rfl (take_ofW HT_.out HW_.out (by kernel_rfl)) (fun _ _ _ h => h) (Or.inl ⟨by rfl, ?_⟩) hHeld ?_ ?_
           rotate_left
           · rintro w' ⟨s0, s1, s2, s3, s4, s5, s6, s7, s8, s9, s10, s11⟩
             go_simp
             with_reducible rfl
           rotate_left
           · simp only [Act.put, List.setIfInBounds_toArray, List.set_cons_zero, List.set_cons_succ, i64_w, i32_w]
             rfl
           refine take_ (i := 1) (N := some 15) (v := ?_) (a' := ?_) #[true, true, false, false, false, false, false, false, false, false, false, false, false, false, false, false, false, false, false, false, false, false, false, false, false] rfl rfl (take_ofW HT_.out HW_.out (by kernel_rfl)) (fun _ _ _ h => h) (Or.inl ⟨by rfl, ?_⟩) hHeld ?_ ?_
           rotate_left
           · rintro w' ⟨s0, s1, s2, s3, s4, s5, s6, s7, s8, s9, s10, s11⟩
             go_simp
             with_reducible rfl
           rotate_left
           · simp only [Act.put, List.setIfInBounds_toArray, List.set_cons_zero, List.set_cons_succ, i64_w, i32_w]
             rfl
           refine take_ (i := 3) (N := some 17) (v := ?_) (a' := ?_) #[true, true, false, true, false, false, false, false, false, false, false, false, false, false, false, false, false, false, false, false, false, false, false, false, false] rfl rfl (take_ofW HT_.out HW_.out (by kernel_rfl)) (fun _ _ _ h => h) (Or.inl ⟨by rfl, ?_⟩) hHeld ?_ ?_
           rotate_left
           · rintro w' ⟨s0, s1, s2, s3, s4, s5, s6, s7, s8, s9, s10, s11⟩
             go_simp
             with_reducible rfl
           rotate_left
           · simp only [Act.put, List.setIfInBounds_toArray, List.set_cons_zero, List.set_cons_succ, i64_w, i32_w]
             rfl
           refine take_ (i := 4) (N := some 18) (v := ?_) (a' := ?_) #[true, true, false, true, true, false, false, false, false, false, false, false, false, false, false, false, false, false, false, false, false, false, false, false, false] rfl rfl (take_ofW HT_.out HW_.out (by kernel_rfl)) (fun _ _ _ h => h) (Or.inl ⟨by rfl, ?_⟩) hHeld ?_ ?_
           rotate_left
           · rintro w' ⟨s0, s1, s2, s3, s4, s5, s6, s7, s8, s9, s10, s11⟩
             go_simp
             with_reducible rfl
           rotate_left
           · simp only [Act.put, List.setIfInBounds_toArray, List.set_cons_zero, List.set_cons_succ, i64_w, i32_w]
             rfl
           refine one_ (i := 2) (N := some 16) #[true, true, true, true, true, false, false, false, false, false, false, false, false, false, false, false, false, false, false, false, false, false, false, false, false] rfl rfl (one_of HT_.out (by kernel_rfl)) (by decide) (fun K hK => ?_)
           refine goes_ Tryz.func14 (by kernel_rfl) rfl #[.agg #[.int .i64 a0_0, .string a0_1, .int .u32 a0_2, .bool a0_3, .slice A0_4 l0_4.length c0_4, .int .i64 a0_5], .agg #[.int .i64 a1_0, .string a1_1, .int .u32 a1_2, .bool a1_3, .slice A1_4 l1_4.length c1_4, .int .i64 a1_5]] (by rfl) rfl rfl (by (try simp only [List.map_toArray, List.map_cons, List.map_nil]); first | done | rfl | (simp only [List.length_drop, List.length_take]; rfl)) ?_
           with_reducible refine (ast_Same.calls kj2 a0_0 a0_1 a0_2 a0_3 _ _ l0_4 a0_5 a1_0 a1_1 a1_2 a1_3 _ _ l1_4 a1_5 t146 _ ?side1 ?side2 ?side3 ?side4 A20.out).mono ?_
           (case side1 => repeat (first | exact (Kd.C_below HR0_4.out HB.out) | (with_reducible refine Kd.C_alloc ?_ _) | (with_reducible refine Kd.C_drewN ?_ _) | (with_reducible refine Kd.C_drew ?_)))
           (case side2 => exact HC0_4.out)
           (case side3 => repeat (first | exact (Kd.C_below HR1_4.out HB.out) | (with_reducible refine Kd.C_alloc ?_ _) | (with_reducible refine Kd.C_drewN ?_ _) | (with_reducible refine Kd.C_drew ?_)))
           (case side4 => exact HC1_4.out)
           rintro e w30 ⟨rfl, hb⟩
           refine ⟨_, rfl, ?_⟩
           have n0_ := Aside0.mk (blk_below (g := gb141) (o := .cells #[.int .i64 a0_0, .string a0_1, .int .u32 a0_2, .bool a0_3, .slice A0_4 l0_4.length c0_4, .int .i64 a0_5] 25 (0, 0)) (by (with_reducible repeat (first | refine blk_drewN ?_ _ | refine blk_drew ?_ | refine blk_alloc ?_ _)); exact BK141.out) hb)
           have n1_ := Aside0.mk (blk_below (g := gb142) (o := .cells #[.int .i64 a1_0, .string a1_1, .int .u32 a1_2, .bool a1_3, .slice A1_4 l1_4.length c1_4, .int .i64 a1_5] 25 (0, 0)) (by (with_reducible repeat (first | refine blk_drewN ?_ _ | refine blk_drew ?_ | refine blk_alloc ?_ _)); exact BK142.out) hb)
           have n2_ := Aside0.mk (below_step (by repeat (first | (with_reducible first | exact HB.out | apply below_alloc | apply pw_below_drewN | apply below_drew1 | refine below_set ?_ GE141.out | refine below_set ?_ GE142.out) | exact HB.out)) hb)
           clear BK141
           clear BK142
           clear HB
           have BK141 := n0_
           have BK142 := n1_
           have HB := n2_
           clear n0_ n1_ n2_
           (try clear hb)
           (try clear hb2)
           (try clear hk)
           (try clear hi)
           refine hK.out _ _ ⟨(blk_cell BK141.out 0).trans rfl, (blk_cell BK141.out 1).trans rfl, (blk_cell BK141.out 2).trans rfl, (blk_cell BK141.out 3).trans rfl, (blk_cell BK141.out 4).trans rfl, (blk_cell BK141.out 5).trans rfl, (blk_cell BK142.out 0).trans rfl, (blk_cell BK142.out 1).trans rfl, (blk_cell BK142.out 2).trans rfl, (blk_cell BK142.out 3).trans rfl, (blk_cell BK142.out 4).trans rfl, (blk_cell BK142.out 5).trans rfl⟩ (fun hHeld => ?_)
           clear hK K
           refine norm_ (a' := ?_) ?_ ?_
           rotate_left
           · show Act.put _ (some 16) _ = _
             simp only [Act.put, List.setIfInBounds_toArray, List.set_cons_zero, List.set_cons_succ, i64_w, i32_w]
             rfl
           refine one_ (i := 5) (N := some 19) #[true, true, true, true, true, true, false, false, false, false, false, false, false, false, false, false, false, false, false, false, false, false, false, false, false] rfl rfl (one_of HT_.out (by kernel_rfl)) (by decide) (fun K hK => ?_)
           refine goes_ Tryz.func15 (by kernel_rfl) rfl #[.agg #[.int .i64 a0_0, .string a0_1, .int .u32 a0_2, .bool a0_3, .slice A0_4 l0_4.length c0_4, .int .i64 a0_5], .agg #[.int .i64 a1_0, .string a1_1, .int .u32 a1_2, .bool a1_3, .slice A1_4 l1_4.length c1_4, .int .i64 a1_5]] (by rfl) rfl rfl (by (try simp only [List.map_toArray, List.map_cons, List.map_nil]); first | done | rfl | (simp only [List.length_drop, List.length_take]; rfl)) ?_
           with_reducible refine (crucibleref08_Same.calls kj2 a0_0 a0_1 a0_2 a0_3 _ _ l0_4 a0_5 a1_0 a1_1 a1_2 a1_3 _ _ l1_4 a1_5 t147 _ ?side1 ?side2 ?side3 ?side4 A21.out).mono ?_
           (case side1 => repeat (first | exact (Kd.C_below HR0_4.out HB.out) | (with_reducible refine Kd.C_alloc ?_ _) | (with_reducible refine Kd.C_drewN ?_ _) | (with_reducible refine Kd.C_drew ?_)))
           (case side2 => exact HC0_4.out)
           (case side3 => repeat (first | exact (Kd.C_below HR1_4.out HB.out) | (with_reducible refine Kd.C_alloc ?_ _) | (with_reducible refine Kd.C_drewN ?_ _) | (with_reducible refine Kd.C_drew ?_)))
           (case side4 => exact HC1_4.out)
           rintro e w31 ⟨rfl, hb⟩
           refine ⟨_, rfl, ?_⟩
           have n0_ := Aside0.mk (blk_below (g := gb141) (o := .cells #[.int .i64 a0_0, .string a0_1, .int .u32 a0_2, .bool a0_3, .slice A0_4 l0_4.length c0_4, .int .i64 a0_5] 25 (0, 0)) (by (with_reducible repeat (first | refine blk_drewN ?_ _ | refine blk_drew ?_ | refine blk_alloc ?_ _)); exact BK141.out) hb)
           have n1_ := Aside0.mk (blk_below (g := gb142) (o := .cells #[.int .i64 a1_0, .string a1_1, .int .u32 a1_2, .bool a1_3, .slice A1_4 l1_4.length c1_4, .int .i64 a1_5] 25 (0, 0)) (by (with_reducible repeat (first | refine blk_drewN ?_ _ | refine blk_drew ?_ | refine blk_alloc ?_ _)); exact BK142.out) hb)
           have n2_ := Aside0.mk (below_step (by repeat (first | (with_reducible first | exact HB.out | apply below_alloc | apply pw_below_drewN | apply below_drew1 | refine below_set ?_ GE141.out | refine below_set ?_ GE142.out) | exact HB.out)) hb)
           clear BK141
           clear BK142
           clear HB
           have BK141 := n0_
           have BK142 := n1_
           have HB := n2_
           clear n0_ n1_ n2_
           (try clear hb)
           (try clear hb2)
           (try clear hk)
           (try clear hi)
           refine hK.out _ _ ⟨(blk_cell BK141.out 0).trans rfl, (blk_cell BK141.out 1).trans rfl, (blk_cell BK141.out 2).trans rfl, (blk_cell BK141.out 3).trans rfl, (blk_cell BK141.out 4).trans rfl, (blk_cell BK141.out 5).trans rfl, (blk_cell BK142.out 0).trans rfl, (blk_cell BK142.out 1).trans rfl, (blk_cell BK142.out 2).trans rfl, (blk_cell BK142.out 3).trans rfl, (blk_cell BK142.out 4).trans rfl, (blk_cell BK142.out 5).trans rfl⟩ (fun hHeld => ?_)
           clear hK K
           refine norm_ (a' := ?_) ?_ ?_
           rotate_left
           · show Act.put _ (some 19) _ = _
             simp only [Act.put, List.setIfInBounds_toArray, List.set_cons_zero, List.set_cons_succ, i64_w, i32_w]
             rfl
           refine pure_ (i := 6) (N := some 20) (v := ?_) (a' := ?_) #[true, true, true, true, true, true, true, false, false, false, false, false, false, false, false, false, false, false, false, false, false, false, false, false, false] rfl rfl (any_of HT_.out (by kernel_rfl)) (fun _ _ _ h => h) (Or.inl ⟨by rfl, ?_⟩) ?_ ?_
           rotate_left
           · intro w'
             go_simp
             with_reducible rfl
           rotate_left
           · simp only [Act.put, List.setIfInBounds_toArray, List.set_cons_zero, List.set_cons_succ, i64_w, i32_w]
             rfl
           refine pure_ (i := 7) (N := some 21) (v := ?_) (a' := ?_) #[true, true, true, true, true, true, true, true, false, false, false, false, false, false, false, false, false, false, false, false, false, false, false, false, false] rfl rfl (any_of HT_.out (by kernel_rfl)) (fun _ _ _ h => h) (Or.inl ⟨by rfl, ?_⟩) ?_ ?_
           rotate_left
           · intro w'
             go_simp
             with_reducible rfl
           rotate_left
           · simp only [Act.put, List.setIfInBounds_toArray, List.set_cons_zero, List.set_cons_succ, i64_w, i32_w]
             rfl
           refine take_ (i := 8) (N := some 22) (v := ?_) (a' := ?_) #[true, true, true, true, true, true, true, true, true, false, false, false, false, false, false, false, false, false, false, false, false, false, false, false, false] rfl rfl (take_ofW HT_.out HW_.out (by kernel_rfl)) (fun _ _ _ h => h) (Or.inl ⟨by rfl, ?_⟩) hHeld ?_ ?_
           rotate_left
           · rintro w' ⟨s0, s1, s2, s3, s4, s5, s6, s7, s8, s9, s10, s11⟩
             go_simp
             with_reducible rfl
           rotate_left
           · simp only [Act.put, List.setIfInBounds_toArray, List.set_cons_zero, List.set_cons_succ, i64_w, i32_w]
             rfl
           refine take_ (i := 9) (N := some 23) (v := ?_) (a' := ?_) #[true, true, true, true, true, true, true, true, true, true, false, false, false, false, false, false, false, false, false, false, false, false, false, false, false] rfl rfl (take_ofW HT_.out HW_.out (by kernel_rfl)) (fun _ _ _ h => h) (Or.inl ⟨by rfl, ?_⟩) hHeld ?_ ?_
           rotate_left
           · rintro w' ⟨s0, s1, s2, s3, s4, s5, s6, s7, s8, s9, s10, s11⟩
             go_simp
             with_reducible rfl
           rotate_left
           · simp only [Act.put, List.setIfInBounds_toArray, List.set_cons_zero, List.set_cons_succ, i64_w, i32_w]
             rfl
           refine take_ (i := 11) (N := some 25) (v := ?_) (a' := ?_) #[true, true, true, true, true, true, true, true, true, true, false, true, false, false, false, false, false, false, false, false, false, false, false, false, false] rfl rfl (take_ofW HT_.out HW_.out (by kernel_rfl)) (fun _ _ _ h => h) (Or.inl ⟨by rfl, ?_⟩) hHeld ?_ ?_
           rotate_left
           · rintro w' ⟨s0, s1, s2, s3, s4, s5, s6, s7, s8, s9, s10, s11⟩
             go_simp
             with_reducible rfl
           rotate_left
           · simp only [Act.put, List.setIfInBounds_toArray, List.set_cons_zero, List.set_cons_succ, i64_w, i32_w]
             rfl
           refine take_ (i := 12) (N := some 26) (v := ?_) (a' := ?_) #[true, true, true, true, true, true, true, true, true, true, false, true, true, false, false, false, false, false, false, false, false, false, false, false, false] rfl rfl (take_ofW HT_.out HW_.out (by kernel_rfl)) (fun _ _ _ h => h) (Or.inl ⟨by rfl, ?_⟩) hHeld ?_ ?_
           rotate_left
           · rintro w' ⟨s0, s1, s2, s3, s4, s5, s6, s7, s8, s9, s10, s11⟩
             go_simp
             with_reducible rfl
           rotate_left
           · simp only [Act.put, List.setIfInBounds_toArray, List.set_cons_zero, List.set_cons_succ, i64_w, i32_w]
             rfl
           refine one_ (i := 10) (N := some 24) #[true, true, true, true, true, true, true, true, true, true, true, true, true, false, false, false, false, false, false, false, false, false, false, false, false] rfl rfl (one_of HT_.out (by kernel_rfl)) (by decide) (fun K hK => ?_)
           refine goes_ Tryz.func14 (by kernel_rfl) rfl #[.agg #[.int .i64 a1_0, .string a1_1, .int .u32 a1_2, .bool a1_3, .slice A1_4 l1_4.length c1_4, .int .i64 a1_5], .agg #[.int .i64 a0_0, .string a0_1, .int .u32 a0_2, .bool a0_3, .slice A0_4 l0_4.length c0_4, .int .i64 a0_5]] (by rfl) rfl rfl (by (try simp only [List.map_toArray, List.map_cons, List.map_nil]); first | done | rfl | (simp only [List.length_drop, List.length_take]; rfl)) ?_
           with_reducible refine (ast_Same.calls kj2 a1_0 a1_1 a1_2 a1_3 _ _ l1_4 a1_5 a0_0 a0_1 a0_2 a0_3 _ _ l0_4 a0_5 t148 _ ?side1 ?side2 ?side3 ?side4 A23.out).mono ?_
           (case side1 => repeat (first | exact (Kd.C_below HR1_4.out HB.out) | (with_reducible refine Kd.C_alloc ?_ _) | (with_reducible refine Kd.C_drewN ?_ _) | (with_reducible refine Kd.C_drew ?_)))
           (case side2 => exact HC1_4.out)
           (case side3 => repeat (first | exact (Kd.C_below HR0_4.out HB.out) | (with_reducible refine Kd.C_alloc ?_ _) | (with_reducible refine Kd.C_drewN ?_ _) | (with_reducible refine Kd.C_drew ?_)))
           (case side4 => exact HC0_4.out)
           rintro e w32 ⟨rfl, hb⟩
           refine ⟨_, rfl, ?_⟩
           have n0_ := Aside0.mk (blk_below (g := gb141) (o := .cells #[.int .i64 a0_0, .string a0_1, .int .u32 a0_2, .bool a0_3, .slice A0_4 l0_4.length c0_4, .int .i64 a0_5] 25 (0, 0)) (by (with_reducible repeat (first | refine blk_drewN ?_ _ | refine blk_drew ?_ | refine blk_alloc ?_ _)); exact BK141.out) hb)
           have n1_ := Aside0.mk (blk_below (g := gb142) (o := .cells #[.int .i64 a1_0, .string a1_1, .int .u32 a1_2, .bool a1_3, .slice A1_4 l1_4.length c1_4, .int .i64 a1_5] 25 (0, 0)) (by (with_reducible repeat (first | refine blk_drewN ?_ _ | refine blk_drew ?_ | refine blk_alloc ?_ _)); exact BK142.out) hb)
           have n2_ := Aside0.mk (below_step (by repeat (first | (with_reducible first | exact HB.out | apply below_alloc | apply pw_below_drewN | apply below_drew1 | refine below_set ?_ GE141.out | refine below_set ?_ GE142.out) | exact HB.out)) hb)
           clear BK141
           clear BK142
           clear HB
           have BK141 := n0_
           have BK142 := n1_
           have HB := n2_
           clear n0_ n1_ n2_
           (try clear hb)
           (try clear hb2)
           (try clear hk)
           (try clear hi)
           refine hK.out _ _ ⟨(blk_cell BK141.out 0).trans rfl, (blk_cell BK141.out 1).trans rfl, (blk_cell BK141.out 2).trans rfl, (blk_cell BK141.out 3).trans rfl, (blk_cell BK141.out 4).trans rfl, (blk_cell BK141.out 5).trans rfl, (blk_cell BK142.out 0).trans rfl, (blk_cell BK142.out 1).trans rfl, (blk_cell BK142.out 2).trans rfl, (blk_cell BK142.out 3).trans rfl, (blk_cell BK142.out 4).trans rfl, (blk_cell BK142.out 5).trans rfl⟩ (fun hHeld => ?_)
           clear hK K
           refine norm_ (a' := ?_) ?_ ?_
           rotate_left
           · show Act.put _ (some 24) _ = _
             simp only [Act.put, List.setIfInBounds_toArray, List.set_cons_zero, List.set_cons_succ, i64_w, i32_w]
             rfl
           refine one_ (i := 13) (N := some 27) #[true, true, true, true, true, true, true, true, true, true, true, true, true, true, false, false, false, false, false, false, false, false, false, false, false] rfl rfl (one_of HT_.out (by kernel_rfl)) (by decide) (fun K hK => ?_)
           refine goes_ Tryz.func15 (by kernel_rfl) rfl #[.agg #[.int .i64 a0_0, .string a0_1, .int .u32 a0_2, .bool a0_3, .slice A0_4 l0_4.length c0_4, .int .i64 a0_5], .agg #[.int .i64 a1_0, .string a1_1, .int .u32 a1_2, .bool a1_3, .slice A1_4 l1_4.length c1_4, .int .i64 a1_5]] (by rfl) rfl rfl (by (try simp only [List.map_toArray, List.map_cons, List.map_nil]); first | done | rfl | (simp only [List.length_drop, List.length_take]; rfl)) ?_
           with_reducible refine (crucibleref08_Same.calls kj2 a0_0 a0_1 a0_2 a0_3 _ _ l0_4 a0_5 a1_0 a1_1 a1_2 a1_3 _ _ l1_4 a1_5 t149 _ ?side1 ?side2 ?side3 ?side4 A24.out).mono ?_
           (case side1 => repeat (first | exact (Kd.C_below HR0_4.out HB.out) | (with_reducible refine Kd.C_alloc ?_ _) | (with_reducible refine Kd.C_drewN ?_ _) | (with_reducible refine Kd.C_drew ?_)))
           (case side2 => exact HC0_4.out)
           (case side3 => repeat (first | exact (Kd.C_below HR1_4.out HB.out) | (with_reducible refine Kd.C_alloc ?_ _) | (with_reducible refine Kd.C_drewN ?_ _) | (with_reducible refine Kd.C_drew ?_)))
           (case side4 => exact HC1_4.out)
           rintro e w33 ⟨rfl, hb⟩
           refine ⟨_, rfl, ?_⟩
           have n0_ := Aside0.mk (blk_below (g := gb141) (o := .cells #[.int .i64 a0_0, .string a0_1, .int .u32 a0_2, .bool a0_3, .slice A0_4 l0_4.length c0_4, .int .i64 a0_5] 25 (0, 0)) (by (with_reducible repeat (first | refine blk_drewN ?_ _ | refine blk_drew ?_ | refine blk_alloc ?_ _)); exact BK141.out) hb)
           have n1_ := Aside0.mk (blk_below (g := gb142) (o := .cells #[.int .i64 a1_0, .string a1_1, .int .u32 a1_2, .bool a1_3, .slice A1_4 l1_4.length c1_4, .int .i64 a1_5] 25 (0, 0)) (by (with_reducible repeat (first | refine blk_drewN ?_ _ | refine blk_drew ?_ | refine blk_alloc ?_ _)); exact BK142.out) hb)
           have n2_ := Aside0.mk (below_step (by repeat (first | (with_reducible first | exact HB.out | apply below_alloc | apply pw_below_drewN | apply below_drew1 | refine below_set ?_ GE141.out | refine below_set ?_ GE142.out) | exact HB.out)) hb)
           clear BK141
           clear BK142
           clear HB
           have BK141 := n0_
           have BK142 := n1_
           have HB := n2_
           clear n0_ n1_ n2_
           (try clear hb)
           (try clear hb2)
           (try clear hk)
           (try clear hi)
           refine hK.out _ _ ⟨(blk_cell BK141.out 0).trans rfl, (blk_cell BK141.out 1).trans rfl, (blk_cell BK141.out 2).trans rfl, (blk_cell BK141.out 3).trans rfl, (blk_cell BK141.out 4).trans rfl, (blk_cell BK141.out 5).trans rfl, (blk_cell BK142.out 0).trans rfl, (blk_cell BK142.out 1).trans rfl, (blk_cell BK142.out 2).trans rfl, (blk_cell BK142.out 3).trans rfl, (blk_cell BK142.out 4).trans rfl, (blk_cell BK142.out 5).trans rfl⟩ (fun hHeld => ?_)
           clear hK K
           refine norm_ (a' := ?_) ?_ ?_
           rotate_left
           · show Act.put _ (some 27) _ = _
             simp only [Act.put, List.setIfInBounds_toArray, List.set_cons_zero, List.set_cons_succ, i64_w, i32_w]
             rfl
           refine pure_ (i := 14) (N := some 28) (v := ?_) (a' := ?_) #[true, true, true, true, true, true, true, true, true, true, true, true, true, true, true, false, false, false, false, false, false, false, false, false, false] rfl rfl (any_of HT_.out (by kernel_rfl)) (fun _ _ _ h => h) (Or.inl ⟨by rfl, ?_⟩) ?_ ?_
           rotate_left
           · intro w'
             go_simp
             with_reducible rfl
           rotate_left
           · simp only [Act.put, List.setIfInBounds_toArray, List.set_cons_zero, List.set_cons_succ, i64_w, i32_w]
             rfl
           refine pure_ (i := 15) (N := some 29) (v := ?_) (a' := ?_) #[true, true, true, true, true, true, true, true, true, true, true, true, true, true, true, true, false, false, false, false, false, false, false, false, false] rfl rfl (any_of HT_.out (by kernel_rfl)) (fun _ _ _ h => h) (Or.inl ⟨by rfl, ?_⟩) ?_ ?_
           rotate_left
           · intro w'
             go_simp
             with_reducible rfl
           rotate_left
           · simp only [Act.put, List.setIfInBounds_toArray, List.set_cons_zero, List.set_cons_succ, i64_w, i32_w]
             rfl
           refine pure_ (i := 16) (N := some 30) (v := ?_) (a' := ?_) #[true, true, true, true, true, true, true, true, true, true, true, true, true, true, true, true, true, false, false, false, false, false, false, false, false] rfl rfl (any_of HT_.out (by kernel_rfl)) (fun _ _ _ h => h) (Or.inl ⟨by rfl, ?_⟩) ?_ ?_
           rotate_left
           · intro w'
             go_simp
             with_reducible rfl
           rotate_left
           · simp only [Act.put, List.setIfInBounds_toArray, List.set_cons_zero, List.set_cons_succ, i64_w, i32_w]
             rfl
           refine take_ (i := 17) (N := some 31) (v := ?_) (a' := ?_) #[true, true, true, true, true, true, true, true, true, true, true, true, true, true, true, true, true, true, false, false, false, false, false, false, false] rfl rfl (take_ofW HT_.out HW_.out (by kernel_rfl)) (fun _ _ _ h => h) (Or.inl ⟨by rfl, ?_⟩) hHeld ?_ ?_
           rotate_left
           · rintro w' ⟨s0, s1, s2, s3, s4, s5, s6, s7, s8, s9, s10, s11⟩
             go_simp
             with_reducible rfl
           rotate_left
           · simp only [Act.put, List.setIfInBounds_toArray, List.set_cons_zero, List.set_cons_succ, i64_w, i32_w]
             rfl
           refine take_ (i := 18) (N := some 32) (v := ?_) (a' := ?_) #[true, true, true, true, true, true, true, true, true, true, true, true, true, true, true, true, true, true, true, false, false, false, false, false, false] rfl rfl (take_ofW HT_.out HW_.out (by kernel_rfl)) (fun _ _ _ h => h) (Or.inl ⟨by rfl, ?_⟩) hHeld ?_ ?_
           rotate_left
           · rintro w' ⟨s0, s1, s2, s3, s4, s5, s6, s7, s8, s9, s10, s11⟩
             go_simp
             with_reducible rfl
           rotate_left
           · simp only [Act.put, List.setIfInBounds_toArray, List.set_cons_zero, List.set_cons_succ, i64_w, i32_w]
             rfl
           refine one_ (i := 19) (N := some 33) #[true, true, true, true, true, true, true, true, true, true, true, true, true, true, true, true, true, true, true, true, false, false, false, false, false] rfl rfl (one_of HT_.out (by kernel_rfl)) (by decide) (fun K hK => ?_)
           refine goes_ Tryz.func14 (by kernel_rfl) rfl #[.agg #[.int .i64 a0_0, .string a0_1, .int .u32 a0_2, .bool a0_3, .slice A0_4 l0_4.length c0_4, .int .i64 a0_5], .agg #[.int .i64 a0_0, .string a0_1, .int .u32 a0_2, .bool a0_3, .slice A0_4 l0_4.length c0_4, .int .i64 a0_5]] (by rfl) rfl rfl (by (try simp only [List.map_toArray, List.map_cons, List.map_nil]); first | done | rfl | (simp only [List.length_drop, List.length_take]; rfl)) ?_
           with_reducible refine (ast_Same.calls kj2 a0_0 a0_1 a0_2 a0_3 _ _ l0_4 a0_5 a0_0 a0_1 a0_2 a0_3 _ _ l0_4 a0_5 true _ ?side1 ?side2 ?side3 ?side4 A26.out).mono ?_
           (case side1 => repeat (first | exact (Kd.C_below HR0_4.out HB.out) | (with_reducible refine Kd.C_alloc ?_ _) | (with_reducible refine Kd.C_drewN ?_ _) | (with_reducible refine Kd.C_drew ?_)))
           (case side2 => exact HC0_4.out)
           (case side3 => repeat (first | exact (Kd.C_below HR0_4.out HB.out) | (with_reducible refine Kd.C_alloc ?_ _) | (with_reducible refine Kd.C_drewN ?_ _) | (with_reducible refine Kd.C_drew ?_)))
           (case side4 => exact HC0_4.out)
           rintro e w34 ⟨rfl, hb⟩
           refine ⟨_, rfl, ?_⟩
           have n0_ := Aside0.mk (blk_below (g := gb141) (o := .cells #[.int .i64 a0_0, .string a0_1, .int .u32 a0_2, .bool a0_3, .slice A0_4 l0_4.length c0_4, .int .i64 a0_5] 25 (0, 0)) (by (with_reducible repeat (first | refine blk_drewN ?_ _ | refine blk_drew ?_ | refine blk_alloc ?_ _)); exact BK141.out) hb)
           have n1_ := Aside0.mk (blk_below (g := gb142) (o := .cells #[.int .i64 a1_0, .string a1_1, .int .u32 a1_2, .bool a1_3, .slice A1_4 l1_4.length c1_4, .int .i64 a1_5] 25 (0, 0)) (by (with_reducible repeat (first | refine blk_drewN ?_ _ | refine blk_drew ?_ | refine blk_alloc ?_ _)); exact BK142.out) hb)
           have n2_ := Aside0.mk (below_step (by repeat (first | (with_reducible first | exact HB.out | apply below_alloc | apply pw_below_drewN | apply below_drew1 | refine below_set ?_ GE141.out | refine below_set ?_ GE142.out) | exact HB.out)) hb)
           clear BK141
           clear BK142
           clear HB
           have BK141 := n0_
           have BK142 := n1_
           have HB := n2_
           clear n0_ n1_ n2_
           (try clear hb)
           (try clear hb2)
           (try clear hk)
           (try clear hi)
           refine hK.out _ _ ⟨(blk_cell BK141.out 0).trans rfl, (blk_cell BK141.out 1).trans rfl, (blk_cell BK141.out 2).trans rfl, (blk_cell BK141.out 3).trans rfl, (blk_cell BK141.out 4).trans rfl, (blk_cell BK141.out 5).trans rfl, (blk_cell BK142.out 0).trans rfl, (blk_cell BK142.out 1).trans rfl, (blk_cell BK142.out 2).trans rfl, (blk_cell BK142.out 3).trans rfl, (blk_cell BK142.out 4).trans rfl, (blk_cell BK142.out 5).trans rfl⟩ (fun hHeld => ?_)
           clear hK K
           refine norm_ (a' := ?_) ?_ ?_
           rotate_left
           · show Act.put _ (some 33) _ = _
             simp only [Act.put, List.setIfInBounds_toArray, List.set_cons_zero, List.set_cons_succ, i64_w, i32_w]
             rfl
           refine pure_ (i := 20) (N := some 34) (v := ?_) (a' := ?_) #[true, true, true, true, true, true, true, true, true, true, true, true, true, true, true, true, true, true, true, true, true, false, false, false, false] rfl rfl (any_of HT_.out (by kernel_rfl)) (fun _ _ _ h => h) (Or.inl ⟨by rfl, ?_⟩) ?_ ?_
           rotate_left
           · intro w'
             go_simp
             with_reducible rfl
           rotate_left
           · simp only [Act.put, List.setIfInBounds_toArray, List.set_cons_zero, List.set_cons_succ, i64_w, i32_w]
             rfl
           refine pure_ (i := 21) (N := some 35) (v := ?_) (a' := ?_) #[true, true, true, true, true, true, true, true, true, true, true, true, true, true, true, true, true, true, true, true, true, true, false, false, false] rfl rfl (any_of HT_.out (by kernel_rfl)) (fun _ _ _ h => h) (Or.inl ⟨by rfl, ?_⟩) ?_ ?_
           rotate_left
           · intro w'
             go_simp
             with_reducible rfl
           rotate_left
           · simp only [Act.put, List.setIfInBounds_toArray, List.set_cons_zero, List.set_cons_succ, i64_w, i32_w]
             rfl
           refine one_ (i := 22) (N := some 36) #[true, true, true, true, true, true, true, true, true, true, true, true, true, true, true, true, true, true, true, true, true, true, true, false, false] rfl rfl (one_of HT_.out (by kernel_rfl)) (by decide) (fun K hK => ?_)
           refine goes_ Tryz.func10 (by kernel_rfl) rfl #[] (by rfl) rfl rfl (by (try simp only [List.map_toArray, List.map_cons, List.map_nil]); first | done | rfl | (simp only [List.length_drop, List.length_take]; rfl)) ?_
           with_reducible refine (cruciblelaw08_awake.calls  t151 _ ?side1 A28.out).mono ?_
           (case side1 => refine PremW.below HG.out ?_; repeat (first | (with_reducible first | exact HB.out | apply below_alloc | apply pw_below_drewN | apply below_drew1 | refine below_set ?_ GE141.out | refine below_set ?_ GE142.out) | exact HB.out))
           rintro e w35 ⟨rfl, hb⟩
           refine ⟨_, rfl, ?_⟩
           have n0_ := Aside0.mk (blk_below (g := gb141) (o := .cells #[.int .i64 a0_0, .string a0_1, .int .u32 a0_2, .bool a0_3, .slice A0_4 l0_4.length c0_4, .int .i64 a0_5] 25 (0, 0)) (by (with_reducible repeat (first | refine blk_drewN ?_ _ | refine blk_drew ?_ | refine blk_alloc ?_ _)); exact BK141.out) hb)
           have n1_ := Aside0.mk (blk_below (g := gb142) (o := .cells #[.int .i64 a1_0, .string a1_1, .int .u32 a1_2, .bool a1_3, .slice A1_4 l1_4.length c1_4, .int .i64 a1_5] 25 (0, 0)) (by (with_reducible repeat (first | refine blk_drewN ?_ _ | refine blk_drew ?_ | refine blk_alloc ?_ _)); exact BK142.out) hb)
           have n2_ := Aside0.mk (below_step (by repeat (first | (with_reducible first | exact HB.out | apply below_alloc | apply pw_below_drewN | apply below_drew1 | refine below_set ?_ GE141.out | refine below_set ?_ GE142.out) | exact HB.out)) hb)
           clear BK141
           clear BK142
           clear HB
           have BK141 := n0_
           have BK142 := n1_
           have HB := n2_
           clear n0_ n1_ n2_
           (try clear hb)
           (try clear hb2)
           (try clear hk)
           (try clear hi)
           refine hK.out _ _ ⟨(blk_cell BK141.out 0).trans rfl, (blk_cell BK141.out 1).trans rfl, (blk_cell BK141.out 2).trans rfl, (blk_cell BK141.out 3).trans rfl, (blk_cell BK141.out 4).trans rfl, (blk_cell BK141.out 5).trans rfl, (blk_cell BK142.out 0).trans rfl, (blk_cell BK142.out 1).trans rfl, (blk_cell BK142.out 2).trans rfl, (blk_cell BK142.out 3).trans rfl, (blk_cell BK142.out 4).trans rfl, (blk_cell BK142.out 5).trans rfl⟩ (fun hHeld => ?_)
           clear hK K
           refine norm_ (a' := ?_) ?_ ?_
           rotate_left
           · show Act.put _ (some 36) _ = _
             simp only [Act.put, List.setIfInBounds_toArray, List.set_cons_zero, List.set_cons_succ, i64_w, i32_w]
             rfl
           refine pure_ (i := 23) (N := some 37) (v := ?_) (a' := ?_) #[true, true, true, true, true, true, true, true, true, true, true, true, true, true, true, true, true, true, true, true, true, true, true, true, false] rfl rfl (any_of HT_.out (by kernel_rfl)) (fun _ _ _ h => h) (Or.inl ⟨by rfl, ?_⟩) ?_ ?_
           rotate_left
           · intro w'
             go_simp
             with_reducible rfl
           rotate_left
           · simp only [Act.put, List.setIfInBounds_toArray, List.set_cons_zero, List.set_cons_succ, i64_w, i32_w]
             rfl
           refine pure_ (i := 24) (N := some 4) (v := ?_) (a' := ?_) #[true, true, true, true, true, true, true, true, true, true, true, true, true, true, true, true, true, true, true, true, true, true, true, true, true] rfl rfl (any_of HT_.out (by kernel_rfl)) (fun _ _ _ h => h) (Or.inl ⟨by rfl, ?_⟩) ?_ ?_
           rotate_left
           · intro w'
             go_simp
             with_reducible rfl
           rotate_left
           · simp only [Act.put, List.setIfInBounds_toArray, List.set_cons_zero, List.set_cons_succ, i64_w, i32_w]
             rfl
           refine done_ (done_of HT_.out (by kernel_rfl)) ?_
           try go_wp2
           go_ret
           exact ⟨by first | rfl | (simp [errW_none, errW_some] <;> rfl) | (simp [*, errW_none, errW_some] <;> rfl), by repeat (first | (with_reducible first | exact HB.out | apply below_alloc | apply pw_below_drewN | apply below_drew1 | refine below_set ?_ GE141.out | refine below_set ?_ GE142.out) | exact HB.out)⟩
         · replace c27 := Bool.eq_false_iff.mpr c27
           subst c27
           have H1 : (some false) = some r := by rw [if_neg (show ¬ (false = true) by decide)] at H; exact H
           clear H
           have H := H1
           clear H1
           obtain rfl := Option.some.inj H
           try go_wp2
           have n0_ := Aside0.mk (blk_drew BK141.out)
           have n1_ := Aside0.mk (blk_drew BK142.out)
           have n2_ := Aside0.mk (below_drew1 HB.out)
           clear BK141
           clear BK142
           clear HB
           have BK141 := n0_
           have BK142 := n1_
           have HB := n2_
           clear n0_ n1_ n2_
           refine start_ (n := 25) (S := fun w' => w'.cell? ⟨gb141, 0, none⟩ = some (.int .i64 a0_0) ∧ w'.cell? ⟨gb141, 1, none⟩ = some (.string a0_1) ∧ w'.cell? ⟨gb141, 2, none⟩ = some (.int .u32 a0_2) ∧ w'.cell? ⟨gb141, 3, none⟩ = some (.bool a0_3) ∧ w'.cell? ⟨gb141, 4, none⟩ = some (.slice A0_4 l0_4.length c0_4) ∧ w'.cell? ⟨gb141, 5, none⟩ = some (.int .i64 a0_5) ∧ w'.cell? ⟨gb142, 0, none⟩ = some (.int .i64 a1_0) ∧ w'.cell? ⟨gb142, 1, none⟩ = some (.string a1_1) ∧ w'.cell? ⟨gb142, 2, none⟩ = some (.int .u32 a1_2) ∧ w'.cell? ⟨gb142, 3, none⟩ = some (.bool a1_3) ∧ w'.cell? ⟨gb142, 4, none⟩ = some (.slice A1_4 l1_4.length c1_4) ∧ w'.cell? ⟨gb142, 5, none⟩ = some (.int .i64 a1_5)) (ds := []) #[false, false, false, false, false, false, false, false, false, false, false, false, false, false, false, false, false, false, false, false, false, false, false, false, false] (by kernel_rfl) rfl rfl ⟨(blk_cell BK141.out 0).trans rfl, (blk_cell BK141.out 1).trans rfl, (blk_cell BK141.out 2).trans rfl, (blk_cell BK141.out 3).trans rfl, (blk_cell BK141.out 4).trans rfl, (blk_cell BK141.out 5).trans rfl, (blk_cell BK142.out 0).trans rfl, (blk_cell BK142.out 1).trans rfl, (blk_cell BK142.out 2).trans rfl, (blk_cell BK142.out 3).trans rfl, (blk_cell BK142.out 4).trans rfl, (blk_cell BK142.out 5).trans rfl⟩ (fun hHeld => ?_); refine with_tabW cruciblelaw08_AstSame.tab3 cruciblelaw08_AstSame.bits3 (fun HT_ HW_ => ?_)
           generalize wc.drew = w36 at BK141 BK142 HB hHeld ⊢
           refine take_ (i := 0) (N := some 14) (v := ?_) (a' := ?_) #[true, false, false, false, false, false, false, false, false, false, false, false, false, false, false, false, false, false, false, false, false, false, false, false, false] rfl rfl (take_ofW HT_.out HW_.out (by kernel_rfl)) (fun _ _ _ h => h) (Or.inl ⟨by rfl, ?_⟩) hHeld ?_ ?_
           rotate_left
           · rintro w' ⟨s0, s1, s2, s3, s4, s5, s6, s7, s8, s9, s10, s11⟩
             go_simp
             with_reducible rfl
           rotate_left
           · simp only [Act.put, List.setIfInBounds_toArray, List.set_cons_zero, List.set_cons_succ, i64_w, i32_w]
             rfl
           refine take_ (i := 1) (N := some 15) (v := ?_) (a' := ?_) #[true, true, false, false, false, false, false, false, false, false, false, false, false, false, false, false, false, false, false, false, false, false, false, false, false] rfl rfl (take_ofW HT_.out HW_.out (by kernel_rfl)) (fun _ _ _ h => h) (Or.inl ⟨by rfl, ?_⟩) hHeld ?_ ?_
           rotate_left
           · rintro w' ⟨s0, s1, s2, s3, s4, s5, s6, s7, s8, s9, s10, s11⟩
             go_simp
             with_reducible rfl
           rotate_left
           · simp only [Act.put, List.setIfInBounds_toArray, List.set_cons_zero, List.set_cons_succ, i64_w, i32_w]
             rfl
           refine take_ (i := 3) (N := some 17) (v := ?_) (a' := ?_) #[true, true, false, true, false, false, false, false, false, false, false, false, false, false, false, false, false, false, false, false, false, false, false, false, false] rfl rfl (take_ofW HT_.out HW_.out (by kernel_rfl)) (fun _ _ _ h => h) (Or.inl ⟨by rfl, ?_⟩) hHeld ?_ ?_
           rotate_left
           · rintro w' ⟨s0, s1, s2, s3, s4, s5, s6, s7, s8, s9, s10, s11⟩
             go_simp
             with_reducible rfl
           rotate_left
           · simp only [Act.put, List.setIfInBounds_toArray, List.set_cons_zero, List.set_cons_succ, i64_w, i32_w]
             rfl
           refine take_ (i := 4) (N := some 18) (v := ?_) (a' := ?_) #[true, true, false, true, true, false, false, false, false, false, false, false, false, false, false, false, false, false, false, false, false, false, false, false, false] rfl rfl (take_ofW HT_.out HW_.out (by kernel_rfl)) (fun _ _ _ h => h) (Or.inl ⟨by rfl, ?_⟩) hHeld ?_ ?_
           rotate_left
           · rintro w' ⟨s0, s1, s2, s3, s4, s5, s6, s7, s8, s9, s10, s11⟩
             go_simp
             with_reducible rfl
           rotate_left
           · simp only [Act.put, List.setIfInBounds_toArray, List.set_cons_zero, List.set_cons_succ, i64_w, i32_w]
             rfl
           refine one_ (i := 2) (N := some 16) #[true, true, true, true, true, false, false, false, false, false, false, false, false, false, false, false, false, false, false, false, false, false, false, false, false] rfl rfl (one_of HT_.out (by kernel_rfl)) (by decide) (fun K hK => ?_)
           refine goes_ Tryz.func14 (by kernel_rfl) rfl #[.agg #[.int .i64 a0_0, .string a0_1, .int .u32 a0_2, .bool a0_3, .slice A0_4 l0_4.length c0_4, .int .i64 a0_5], .agg #[.int .i64 a1_0, .string a1_1, .int .u32 a1_2, .bool a1_3, .slice A1_4 l1_4.length c1_4, .int .i64 a1_5]] (by rfl) rfl rfl (by (try simp only [List.map_toArray, List.map_cons, List.map_nil]); first | done | rfl | (simp only [List.length_drop, List.length_take]; rfl)) ?_
           with_reducible refine (ast_Same.calls kj2 a0_0 a0_1 a0_2 a0_3 _ _ l0_4 a0_5 a1_0 a1_1 a1_2 a1_3 _ _ l1_4 a1_5 t146 _ ?side1 ?side2 ?side3 ?side4 A20.out).mono ?_
           (case side1 => repeat (first | exact (Kd.C_below HR0_4.out HB.out) | (with_reducible refine Kd.C_alloc ?_ _) | (with_reducible refine Kd.C_drewN ?_ _) | (with_reducible refine Kd.C_drew ?_)))
           (case side2 => exact HC0_4.out)
           (case side3 => repeat (first | exact (Kd.C_below HR1_4.out HB.out) | (with_reducible refine Kd.C_alloc ?_ _) | (with_reducible refine Kd.C_drewN ?_ _) | (with_reducible refine Kd.C_drew ?_)))
           (case side4 => exact HC1_4.out)
           rintro e w37 ⟨rfl, hb⟩
           refine ⟨_, rfl, ?_⟩
           have n0_ := Aside0.mk (blk_below (g := gb141) (o := .cells #[.int .i64 a0_0, .string a0_1, .int .u32 a0_2, .bool a0_3, .slice A0_4 l0_4.length c0_4, .int .i64 a0_5] 25 (0, 0)) (by (with_reducible repeat (first | refine blk_drewN ?_ _ | refine blk_drew ?_ | refine blk_alloc ?_ _)); exact BK141.out) hb)
           have n1_ := Aside0.mk (blk_below (g := gb142) (o := .cells #[.int .i64 a1_0, .string a1_1, .int .u32 a1_2, .bool a1_3, .slice A1_4 l1_4.length c1_4, .int .i64 a1_5] 25 (0, 0)) (by (with_reducible repeat (first | refine blk_drewN ?_ _ | refine blk_drew ?_ | refine blk_alloc ?_ _)); exact BK142.out) hb)
           have n2_ := Aside0.mk (below_step (by repeat (first | (with_reducible first | exact HB.out | apply below_alloc | apply pw_below_drewN | apply below_drew1 | refine below_set ?_ GE141.out | refine below_set ?_ GE142.out) | exact HB.out)) hb)
           clear BK141
           clear BK142
           clear HB
           have BK141 := n0_
           have BK142 := n1_
           have HB := n2_
           clear n0_ n1_ n2_
           (try clear hb)
           (try clear hb2)
           (try clear hk)
           (try clear hi)
           refine hK.out _ _ ⟨(blk_cell BK141.out 0).trans rfl, (blk_cell BK141.out 1).trans rfl, (blk_cell BK141.out 2).trans rfl, (blk_cell BK141.out 3).trans rfl, (blk_cell BK141.out 4).trans rfl, (blk_cell BK141.out 5).trans rfl, (blk_cell BK142.out 0).trans rfl, (blk_cell BK142.out 1).trans rfl, (blk_cell BK142.out 2).trans rfl, (blk_cell BK142.out 3).trans rfl, (blk_cell BK142.out 4).trans rfl, (blk_cell BK142.out 5).trans rfl⟩ (fun hHeld => ?_)
           clear hK K
           refine norm_ (a' := ?_) ?_ ?_
           rotate_left
           · show Act.put _ (some 16) _ = _
             simp only [Act.put, List.setIfInBounds_toArray, List.set_cons_zero, List.set_cons_succ, i64_w, i32_w]
             rfl
           refine one_ (i := 5) (N := some 19) #[true, true, true, true, true, true, false, false, false, false, false, false, false, false, false, false, false, false, false, false, false, false, false, false, false] rfl rfl (one_of HT_.out (by kernel_rfl)) (by decide) (fun K hK => ?_)
           refine goes_ Tryz.func15 (by kernel_rfl) rfl #[.agg #[.int .i64 a0_0, .string a0_1, .int .u32 a0_2, .bool a0_3, .slice A0_4 l0_4.length c0_4, .int .i64 a0_5], .agg #[.int .i64 a1_0, .string a1_1, .int .u32 a1_2, .bool a1_3, .slice A1_4 l1_4.length c1_4, .int .i64 a1_5]] (by rfl) rfl rfl (by (try simp only [List.map_toArray, List.map_cons, List.map_nil]); first | done | rfl | (simp only [List.length_drop, List.length_take]; rfl)) ?_
           with_reducible refine (crucibleref08_Same.calls kj2 a0_0 a0_1 a0_2 a0_3 _ _ l0_4 a0_5 a1_0 a1_1 a1_2 a1_3 _ _ l1_4 a1_5 t147 _ ?side1 ?side2 ?side3 ?side4 A21.out).mono ?_
           (case side1 => repeat (first | exact (Kd.C_below HR0_4.out HB.out) | (with_reducible refine Kd.C_alloc ?_ _) | (with_reducible refine Kd.C_drewN ?_ _) | (with_reducible refine Kd.C_drew ?_)))
           (case side2 => exact HC0_4.out)
           (case side3 => repeat (first | exact (Kd.C_below HR1_4.out HB.out) | (with_reducible refine Kd.C_alloc ?_ _) | (with_reducible refine Kd.C_drewN ?_ _) | (with_reducible refine Kd.C_drew ?_)))
           (case side4 => exact HC1_4.out)
           rintro e w38 ⟨rfl, hb⟩
           refine ⟨_, rfl, ?_⟩
           have n0_ := Aside0.mk (blk_below (g := gb141) (o := .cells #[.int .i64 a0_0, .string a0_1, .int .u32 a0_2, .bool a0_3, .slice A0_4 l0_4.length c0_4, .int .i64 a0_5] 25 (0, 0)) (by (with_reducible repeat (first | refine blk_drewN ?_ _ | refine blk_drew ?_ | refine blk_alloc ?_ _)); exact BK141.out) hb)
           have n1_ := Aside0.mk (blk_below (g := gb142) (o := .cells #[.int .i64 a1_0, .string a1_1, .int .u32 a1_2, .bool a1_3, .slice A1_4 l1_4.length c1_4, .int .i64 a1_5] 25 (0, 0)) (by (with_reducible repeat (first | refine blk_drewN ?_ _ | refine blk_drew ?_ | refine blk_alloc ?_ _)); exact BK142.out) hb)
           have n2_ := Aside0.mk (below_step (by repeat (first | (with_reducible first | exact HB.out | apply below_alloc | apply pw_below_drewN | apply below_drew1 | refine below_set ?_ GE141.out | refine below_set ?_ GE142.out) | exact HB.out)) hb)
           clear BK141
           clear BK142
           clear HB
           have BK141 := n0_
           have BK142 := n1_
           have HB := n2_
           clear n0_ n1_ n2_
           (try clear hb)
           (try clear hb2)
           (try clear hk)
           (try clear hi)
           refine hK.out _ _ ⟨(blk_cell BK141.out 0).trans rfl, (blk_cell BK141.out 1).trans rfl, (blk_cell BK141.out 2).trans rfl, (blk_cell BK141.out 3).trans rfl, (blk_cell BK141.out 4).trans rfl, (blk_cell BK141.out 5).trans rfl, (blk_cell BK142.out 0).trans rfl, (blk_cell BK142.out 1).trans rfl, (blk_cell BK142.out 2).trans rfl, (blk_cell BK142.out 3).trans rfl, (blk_cell BK142.out 4).trans rfl, (blk_cell BK142.out 5).trans rfl⟩ (fun hHeld => ?_)
           clear hK K
           refine norm_ (a' := ?_) ?_ ?_
           rotate_left
           · show Act.put _ (some 19) _ = _
             simp only [Act.put, List.setIfInBounds_toArray, List.set_cons_zero, List.set_cons_succ, i64_w, i32_w]
             rfl
           refine pure_ (i := 6) (N := some 20) (v := ?_) (a' := ?_) #[true, true, true, true, true, true, true, false, false, false, false, false, false, false, false, false, false, false, false, false, false, false, false, false, false] rfl rfl (any_of HT_.out (by kernel_rfl)) (fun _ _ _ h => h) (Or.inl ⟨by rfl, ?_⟩) ?_ ?_
           rotate_left
           · intro w'
             go_simp
             with_reducible rfl
           rotate_left
           · simp only [Act.put, List.setIfInBounds_toArray, List.set_cons_zero, List.set_cons_succ, i64_w, i32_w]
             rfl
           refine pure_ (i := 7) (N := some 21) (v := ?_) (a' := ?_) #[true, true, true, true, true, true, true, true, false, false, false, false, false, false, false, false, false, false, false, false, false, false, false, false, false] rfl rfl (any_of HT_.out (by kernel_rfl)) (fun _ _ _ h => h) (Or.inl ⟨by rfl, ?_⟩) ?_ ?_
           rotate_left
           · intro w'
             go_simp
             with_reducible rfl
           rotate_left
           · simp only [Act.put, List.setIfInBounds_toArray, List.set_cons_zero, List.set_cons_succ, i64_w, i32_w]
             rfl
           refine take_ (i := 8) (N := some 22) (v := ?_) (a' := ?_) #[true, true, true, true, true, true, true, true, true, false, false, false, false, false, false, false, false, false, false, false, false, false, false, false, false] rfl rfl (take_ofW HT_.out HW_.out (by kernel_rfl)) (fun _ _ _ h => h) (Or.inl ⟨by rfl, ?_⟩) hHeld ?_ ?_
           rotate_left
           · rintro w' ⟨s0, s1, s2, s3, s4, s5, s6, s7, s8, s9, s10, s11⟩
             go_simp
             with_reducible rfl
           rotate_left
           · simp only [Act.put, List.setIfInBounds_toArray, List.set_cons_zero, List.set_cons_succ, i64_w, i32_w]
             rfl
           refine take_ (i := 9) (N := some 23) (v := ?_) (a' := ?_) #[true, true, true, true, true, true, true, true, true, true, false, false, false, false, false, false, false, false, false, false, false, false, false, false, false] rfl rfl (take_ofW HT_.out HW_.out (by kernel_rfl)) (fun _ _ _ h => h) (Or.inl ⟨by rfl, ?_⟩) hHeld ?_ ?_
           rotate_left
           · rintro w' ⟨s0, s1, s2, s3, s4, s5, s6, s7, s8, s9, s10, s11⟩
             go_simp
             with_reducible rfl
           rotate_left
           · simp only [Act.put, List.setIfInBounds_toArray, List.set_cons_zero, List.set_cons_succ, i64_w, i32_w]
             rfl
           refine take_ (i := 11) (N := some 25) (v := ?_) (a' := ?_) #[true, true, true, true, true, true, true, true, true, true, false, true, false, false, false, false, false, false, false, false, false, false, false, false, false] rfl rfl (take_ofW HT_.out HW_.out (by kernel_rfl)) (fun _ _ _ h => h) (Or.inl ⟨by rfl, ?_⟩) hHeld ?_ ?_
           rotate_left
           · rintro w' ⟨s0, s1, s2, s3, s4, s5, s6, s7, s8, s9, s10, s11⟩
             go_simp
             with_reducible rfl
           rotate_left
           · simp only [Act.put, List.setIfInBounds_toArray, List.set_cons_zero, List.set_cons_succ, i64_w, i32_w]
             rfl
           refine take_ (i := 12) (N := some 26) (v := ?_) (a' := ?_) #[true, true, true, true, true, true, true, true, true, true, false, true, true, false, false, false, false, false, false, false, false, false, false, false, false] rfl rfl (take_ofW HT_.out HW_.out (by kernel_rfl)) (fun _ _ _ h => h) (Or.inl ⟨by rfl, ?_⟩) hHeld ?_ ?_
           rotate_left
           · rintro w' ⟨s0, s1, s2, s3, s4, s5, s6, s7, s8, s9, s10, s11⟩
             go_simp
             with_reducible rfl
           rotate_left
           · simp only [Act.put, List.setIfInBounds_toArray, List.set_cons_zero, List.set_cons_succ, i64_w, i32_w]
             rfl
           refine one_ (i := 10) (N := some 24) #[true, true, true, true, true, true, true, true, true, true, true, true, true, false, false, false, false, false, false, false, false, false, false, false, false] rfl rfl (one_of HT_.out (by kernel_rfl)) (by decide) (fun K hK => ?_)
           refine goes_ Tryz.func14 (by kernel_rfl) rfl #[.agg #[.int .i64 a1_0, .string a1_1, .int .u32 a1_2, .bool a1_3, .slice A1_4 l1_4.length c1_4, .int .i64 a1_5], .agg #[.int .i64 a0_0, .string a0_1, .int .u32 a0_2, .bool a0_3, .slice A0_4 l0_4.length c0_4, .int .i64 a0_5]] (by rfl) rfl rfl (by (try simp only [List.map_toArray, List.map_cons, List.map_nil]); first | done | rfl | (simp only [List.length_drop, List.length_take]; rfl)) ?_
           with_reducible refine (ast_Same.calls kj2 a1_0 a1_1 a1_2 a1_3 _ _ l1_4 a1_5 a0_0 a0_1 a0_2 a0_3 _ _ l0_4 a0_5 t148 _ ?side1 ?side2 ?side3 ?side4 A23.out).mono ?_
           (case side1 => repeat (first | exact (Kd.C_below HR1_4.out HB.out) | (with_reducible refine Kd.C_alloc ?_ _) | (with_reducible refine Kd.C_drewN ?_ _) | (with_reducible refine Kd.C_drew ?_)))
           (case side2 => exact HC1_4.out)
           (case side3 => repeat (first | exact (Kd.C_below HR0_4.out HB.out) | (with_reducible refine Kd.C_alloc ?_ _) | (with_reducible refine Kd.C_drewN ?_ _) | (with_reducible refine Kd.C_drew ?_)))
           (case side4 => exact HC0_4.out)
           rintro e w39 ⟨rfl, hb⟩
           refine ⟨_, rfl, ?_⟩
           have n0_ := Aside0.mk (blk_below (g := gb141) (o := .cells #[.int .i64 a0_0, .string a0_1, .int .u32 a0_2, .bool a0_3, .slice A0_4 l0_4.length c0_4, .int .i64 a0_5] 25 (0, 0)) (by (with_reducible repeat (first | refine blk_drewN ?_ _ | refine blk_drew ?_ | refine blk_alloc ?_ _)); exact BK141.out) hb)
           have n1_ := Aside0.mk (blk_below (g := gb142) (o := .cells #[.int .i64 a1_0, .string a1_1, .int .u32 a1_2, .bool a1_3, .slice A1_4 l1_4.length c1_4, .int .i64 a1_5] 25 (0, 0)) (by (with_reducible repeat (first | refine blk_drewN ?_ _ | refine blk_drew ?_ | refine blk_alloc ?_ _)); exact BK142.out) hb)
           have n2_ := Aside0.mk (below_step (by repeat (first | (with_reducible first | exact HB.out | apply below_alloc | apply pw_below_drewN | apply below_drew1 | refine below_set ?_ GE141.out | refine below_set ?_ GE142.out) | exact HB.out)) hb)
           clear BK141
           clear BK142
           clear HB
           have BK141 := n0_
           have BK142 := n1_
           have HB := n2_
           clear n0_ n1_ n2_
           (try clear hb)
           (try clear hb2)
           (try clear hk)
           (try clear hi)
           refine hK.out _ _ ⟨(blk_cell BK141.out 0).trans rfl, (blk_cell BK141.out 1).trans rfl, (blk_cell BK141.out 2).trans rfl, (blk_cell BK141.out 3).trans rfl, (blk_cell BK141.out 4).trans rfl, (blk_cell BK141.out 5).trans rfl, (blk_cell BK142.out 0).trans rfl, (blk_cell BK142.out 1).trans rfl, (blk_cell BK142.out 2).trans rfl, (blk_cell BK142.out 3).trans rfl, (blk_cell BK142.out 4).trans rfl, (blk_cell BK142.out 5).trans rfl⟩ (fun hHeld => ?_)
           clear hK K
           refine norm_ (a' := ?_) ?_ ?_
           rotate_left
           · show Act.put _ (some 24) _ = _
             simp only [Act.put, List.setIfInBounds_toArray, List.set_cons_zero, List.set_cons_succ, i64_w, i32_w]
             rfl
           refine one_ (i := 13) (N := some 27) #[true, true, true, true, true, true, true, true, true, true, true, true, true, true, false, false, false, false, false, false, false, false, false, false, false] rfl rfl (one_of HT_.out (by kernel_rfl)) (by decide) (fun K hK => ?_)
           refine goes_ Tryz.func15 (by kernel_rfl) rfl #[.agg #[.int .i64 a0_0, .string a0_1, .int .u32 a0_2, .bool a0_3, .slice A0_4 l0_4.length c0_4, .int .i64 a0_5], .agg #[.int .i64 a1_0, .string a1_1, .int .u32 a1_2, .bool a1_3, .slice A1_4 l1_4.length c1_4, .int .i64 a1_5]] (by rfl) rfl rfl (by (try simp only [List.map_toArray, List.map_cons, List.map_nil]); first | done | rfl | (simp only [List.length_drop, List.length_take]; rfl)) ?_
           with_reducible refine (crucibleref08_Same.calls kj2 a0_0 a0_1 a0_2 a0_3 _ _ l0_4 a0_5 a1_0 a1_1 a1_2 a1_3 _ _ l1_4 a1_5 t149 _ ?side1 ?side2 ?side3 ?side4 A24.out).mono ?_
           (case side1 => repeat (first | exact (Kd.C_below HR0_4.out HB.out) | (with_reducible refine Kd.C_alloc ?_ _) | (with_reducible refine Kd.C_drewN ?_ _) | (with_reducible refine Kd.C_drew ?_)))
           (case side2 => exact HC0_4.out)
           (case side3 => repeat (first | exact (Kd.C_below HR1_4.out HB.out) | (with_reducible refine Kd.C_alloc ?_ _) | (with_reducible refine Kd.C_drewN ?_ _) | (with_reducible refine Kd.C_drew ?_)))
           (case side4 => exact HC1_4.out)
           rintro e w40 ⟨rfl, hb⟩
           refine ⟨_, rfl, ?_⟩
           have n0_ := Aside0.mk (blk_below (g := gb141) (o := .cells #[.int .i64 a0_0, .string a0_1, .int .u32 a0_2, .bool a0_3, .slice A0_4 l0_4.length c0_4, .int .i64 a0_5] 25 (0, 0)) (by (with_reducible repeat (first | refine blk_drewN ?_ _ | refine blk_drew ?_ | refine blk_alloc ?_ _)); exact BK141.out) hb)
           have n1_ := Aside0.mk (blk_below (g := gb142) (o := .cells #[.int .i64 a1_0, .string a1_1, .int .u32 a1_2, .bool a1_3, .slice A1_4 l1_4.length c1_4, .int .i64 a1_5] 25 (0, 0)) (by (with_reducible repeat (first | refine blk_drewN ?_ _ | refine blk_drew ?_ | refine blk_alloc ?_ _)); exact BK142.out) hb)
           have n2_ := Aside0.mk (below_step (by repeat (first | (with_reducible first | exact HB.out | apply below_alloc | apply pw_below_drewN | apply below_drew1 | refine below_set ?_ GE141.out | refine below_set ?_ GE142.out) | exact HB.out)) hb)
           clear BK141
           clear BK142
           clear HB
           have BK141 := n0_
           have BK142 := n1_
           have HB := n2_
           clear n0_ n1_ n2_
           (try clear hb)
           (try clear hb2)
           (try clear hk)
           (try clear hi)
           refine hK.out _ _ ⟨(blk_cell BK141.out 0).trans rfl, (blk_cell BK141.out 1).trans rfl, (blk_cell BK141.out 2).trans rfl, (blk_cell BK141.out 3).trans rfl, (blk_cell BK141.out 4).trans rfl, (blk_cell BK141.out 5).trans rfl, (blk_cell BK142.out 0).trans rfl, (blk_cell BK142.out 1).trans rfl, (blk_cell BK142.out 2).trans rfl, (blk_cell BK142.out 3).trans rfl, (blk_cell BK142.out 4).trans rfl, (blk_cell BK142.out 5).trans rfl⟩ (fun hHeld => ?_)
           clear hK K
           refine norm_ (a' := ?_) ?_ ?_
           rotate_left
           · show Act.put _ (some 27) _ = _
             simp only [Act.put, List.setIfInBounds_toArray, List.set_cons_zero, List.set_cons_succ, i64_w, i32_w]
             rfl
           refine pure_ (i := 14) (N := some 28) (v := ?_) (a' := ?_) #[true, true, true, true, true, true, true, true, true, true, true, true, true, true, true, false, false, false, false, false, false, false, false, false, false] rfl rfl (any_of HT_.out (by kernel_rfl)) (fun _ _ _ h => h) (Or.inl ⟨by rfl, ?_⟩) ?_ ?_
           rotate_left
           · intro w'
             go_simp
             with_reducible rfl
           rotate_left
           · simp only [Act.put, List.setIfInBounds_toArray, List.set_cons_zero, List.set_cons_succ, i64_w, i32_w]
             rfl
           refine pure_ (i := 15) (N := some 29) (v := ?_) (a' := ?_) #[true, true, true, true, true, true, true, true, true, true, true, true, true, true, true, true, false, false, false, false, false, false, false, false, false] rfl rfl (any_of HT_.out (by kernel_rfl)) (fun _ _ _ h => h) (Or.inl ⟨by rfl, ?_⟩) ?_ ?_
           rotate_left
           · intro w'
             go_simp
             with_reducible rfl
           rotate_left
           · simp only [Act.put, List.setIfInBounds_toArray, List.set_cons_zero, List.set_cons_succ, i64_w, i32_w]
             rfl
           refine pure_ (i := 16) (N := some 30) (v := ?_) (a' := ?_) #[true, true, true, true, true, true, true, true, true, true, true, true, true, true, true, true, true, false, false, false, false, false, false, false, false] rfl rfl (any_of HT_.out (by kernel_rfl)) (fun _ _ _ h => h) (Or.inl ⟨by rfl, ?_⟩) ?_ ?_
           rotate_left
           · intro w'
             go_simp
             with_reducible rfl
           rotate_left
           · simp only [Act.put, List.setIfInBounds_toArray, List.set_cons_zero, List.set_cons_succ, i64_w, i32_w]
             rfl
           refine take_ (i := 17) (N := some 31) (v := ?_) (a' := ?_) #[true, true, true, true, true, true, true, true, true, true, true, true, true, true, true, true, true, true, false, false, false, false, false, false, false] rfl rfl (take_ofW HT_.out HW_.out (by kernel_rfl)) (fun _ _ _ h => h) (Or.inl ⟨by rfl, ?_⟩) hHeld ?_ ?_
           rotate_left
           · rintro w' ⟨s0, s1, s2, s3, s4, s5, s6, s7, s8, s9, s10, s11⟩
             go_simp
             with_reducible rfl
           rotate_left
           · simp only [Act.put, List.setIfInBounds_toArray, List.set_cons_zero, List.set_cons_succ, i64_w, i32_w]
             rfl
           refine take_ (i := 18) (N := some 32) (v := ?_) (a' := ?_) #[true, true, true, true, true, true, true, true, true, true, true, true, true, true, true, true, true, true, true, false, false, false, false, false, false] rfl rfl (take_ofW HT_.out HW_.out (by kernel_rfl)) (fun _ _ _ h => h) (Or.inl ⟨by rfl, ?_⟩) hHeld ?_ ?_
           rotate_left
           · rintro w' ⟨s0, s1, s2, s3, s4, s5, s6, s7, s8, s9, s10, s11⟩
             go_simp
             with_reducible rfl
           rotate_left
           · simp only [Act.put, List.setIfInBounds_toArray, List.set_cons_zero, List.set_cons_succ, i64_w, i32_w]
             rfl
           refine one_ (i := 19) (N := some 33) #[true, true, true, true, true, true, true, true, true, true, true, true, true, true, true, true, true, true, true, true, false, false, false, false, false] rfl rfl (one_of HT_.out (by kernel_rfl)) (by decide) (fun K hK => ?_)
           refine goes_ Tryz.func14 (by kernel_rfl) rfl #[.agg #[.int .i64 a0_0, .string a0_1, .int .u32 a0_2, .bool a0_3, .slice A0_4 l0_4.length c0_4, .int .i64 a0_5], .agg #[.int .i64 a0_0, .string a0_1, .int .u32 a0_2, .bool a0_3, .slice A0_4 l0_4.length c0_4, .int .i64 a0_5]] (by rfl) rfl rfl (by (try simp only [List.map_toArray, List.map_cons, List.map_nil]); first | done | rfl | (simp only [List.length_drop, List.length_take]; rfl)) ?_
           with_reducible refine (ast_Same.calls kj2 a0_0 a0_1 a0_2 a0_3 _ _ l0_4 a0_5 a0_0 a0_1 a0_2 a0_3 _ _ l0_4 a0_5 false _ ?side1 ?side2 ?side3 ?side4 A26.out).mono ?_
           (case side1 => repeat (first | exact (Kd.C_below HR0_4.out HB.out) | (with_reducible refine Kd.C_alloc ?_ _) | (with_reducible refine Kd.C_drewN ?_ _) | (with_reducible refine Kd.C_drew ?_)))
           (case side2 => exact HC0_4.out)
           (case side3 => repeat (first | exact (Kd.C_below HR0_4.out HB.out) | (with_reducible refine Kd.C_alloc ?_ _) | (with_reducible refine Kd.C_drewN ?_ _) | (with_reducible refine Kd.C_drew ?_)))
           (case side4 => exact HC0_4.out)
           rintro e w41 ⟨rfl, hb⟩
           refine ⟨_, rfl, ?_⟩
           have n0_ := Aside0.mk (blk_below (g := gb141) (o := .cells #[.int .i64 a0_0, .string a0_1, .int .u32 a0_2, .bool a0_3, .slice A0_4 l0_4.length c0_4, .int .i64 a0_5] 25 (0, 0)) (by (with_reducible repeat (first | refine blk_drewN ?_ _ | refine blk_drew ?_ | refine blk_alloc ?_ _)); exact BK141.out) hb)
           have n1_ := Aside0.mk (blk_below (g := gb142) (o := .cells #[.int .i64 a1_0, .string a1_1, .int .u32 a1_2, .bool a1_3, .slice A1_4 l1_4.length c1_4, .int .i64 a1_5] 25 (0, 0)) (by (with_reducible repeat (first | refine blk_drewN ?_ _ | refine blk_drew ?_ | refine blk_alloc ?_ _)); exact BK142.out) hb)
           have n2_ := Aside0.mk (below_step (by repeat (first | (with_reducible first | exact HB.out | apply below_alloc | apply pw_below_drewN | apply below_drew1 | refine below_set ?_ GE141.out | refine below_set ?_ GE142.out) | exact HB.out)) hb)
           clear BK141
           clear BK142
           clear HB
           have BK141 := n0_
           have BK142 := n1_
           have HB := n2_
           clear n0_ n1_ n2_
           (try clear hb)
           (try clear hb2)
           (try clear hk)
           (try clear hi)
           refine hK.out _ _ ⟨(blk_cell BK141.out 0).trans rfl, (blk_cell BK141.out 1).trans rfl, (blk_cell BK141.out 2).trans rfl, (blk_cell BK141.out 3).trans rfl, (blk_cell BK141.out 4).trans rfl, (blk_cell BK141.out 5).trans rfl, (blk_cell BK142.out 0).trans rfl, (blk_cell BK142.out 1).trans rfl, (blk_cell BK142.out 2).trans rfl, (blk_cell BK142.out 3).trans rfl, (blk_cell BK142.out 4).trans rfl, (blk_cell BK142.out 5).trans rfl⟩ (fun hHeld => ?_)
           clear hK K
           refine norm_ (a' := ?_) ?_ ?_
           rotate_left
           · show Act.put _ (some 33) _ = _
             simp only [Act.put, List.setIfInBounds_toArray, List.set_cons_zero, List.set_cons_succ, i64_w, i32_w]
             rfl
           refine pure_ (i := 20) (N := some 34) (v := ?_) (a' := ?_) #[true, true, true, true, true, true, true, true, true, true, true, true, true, true, true, true, true, true, true, true, true, false, false, false, false] rfl rfl (any_of HT_.out (by kernel_rfl)) (fun _ _ _ h => h) (Or.inl ⟨by rfl, ?_⟩) ?_ ?_
           rotate_left
           · intro w'
             go_simp
             with_reducible rfl
           rotate_left
           · simp only [Act.put, List.setIfInBounds_toArray, List.set_cons_zero, List.set_cons_succ, i64_w, i32_w]
             rfl
           refine pure_ (i := 21) (N := some 35) (v := ?_) (a' := ?_) #[true, true, true, true, true, true, true, true, true, true, true, true, true, true, true, true, true, true, true, true, true, true, false, false, false] rfl rfl (any_of HT_.out (by kernel_rfl)) (fun _ _ _ h => h) (Or.inl ⟨by rfl, ?_⟩) ?_ ?_
           rotate_left
           · intro w'
             go_simp
             with_reducible rfl
           rotate_left
           · simp only [Act.put, List.setIfInBounds_toArray, List.set_cons_zero, List.set_cons_succ, i64_w, i32_w]
             rfl
           refine pure_ (i := 22) (N := some 36) (v := undef) (a' := ?_) #[true, true, true, true, true, true, true, true, true, true, true, true, true, true, true, true, true, true, true, true, true, true, true, false, false] rfl rfl (any_of HT_.out (by kernel_rfl)) (fun _ _ _ h => h) (Or.inr ⟨by rfl, rfl⟩) ?_ ?_
           rotate_left
           · simp only [Act.put, List.setIfInBounds_toArray, List.set_cons_zero, List.set_cons_succ, i64_w, i32_w]
             rfl
           refine pure_ (i := 23) (N := some 37) (v := ?_) (a' := ?_) #[true, true, true, true, true, true, true, true, true, true, true, true, true, true, true, true, true, true, true, true, true, true, true, true, false] rfl rfl (any_of HT_.out (by kernel_rfl)) (fun _ _ _ h => h) (Or.inl ⟨by rfl, ?_⟩) ?_ ?_
           rotate_left
           · intro w'
             go_simp
             with_reducible rfl
           rotate_left
           · simp only [Act.put, List.setIfInBounds_toArray, List.set_cons_zero, List.set_cons_succ, i64_w, i32_w]
             rfl
           refine pure_ (i := 24) (N := some 4) (v := ?_) (a' := ?_) #[true, true, true, true, true, true, true, true, true, true, true, true, true, true, true, true, true, true, true, true, true, true, true, true, true] rfl rfl (any_of HT_.out (by kernel_rfl)) (fun _ _ _ h => h) (Or.inl ⟨by rfl, ?_⟩) ?_ ?_
           rotate_left
           · intro w'
             go_simp
             with_reducible rfl
           rotate_left
           · simp only [Act.put, List.setIfInBounds_toArray, List.set_cons_zero, List.set_cons_succ, i64_w, i32_w]
             rfl
           refine done_ (done_of HT_.out (by kernel_rfl)) ?_
           try go_wp2
           go_ret
           exact ⟨by first | rfl | (simp [errW_none, errW_some] <;> rfl) | (simp [*, errW_none, errW_some] <;> rfl), by repeat (first | (with_reducible first | exact HB.out | apply below_alloc | apply pw_below_drewN | apply below_drew1 | refine below_set ?_ GE141.out | refine below_set ?_ GE142.out) | exact HB.out)⟩
       · rw [if_neg c25] at H
         have c25b0 : (t148 == t149) = false := by simpa using c25
         (try (have c25b1 : decide (t148 = t149) = false := by simpa using c25))
         (try (have c25b2 : (t148 == t149) = false := by simpa using c25))
         (try (have c25b3 : ¬ (t148 = t149) := by simpa using c25))
         clear c25
         obtain rfl := Option.some.inj H
         try go_wp2
         have n0_ := Aside0.mk (blk_drew BK141.out)
         have n1_ := Aside0.mk (blk_drew BK142.out)
         have n2_ := Aside0.mk (below_drew1 HB.out)
         clear BK141
         clear BK142
         clear HB
         have BK141 := n0_
         have BK142 := n1_
         have HB := n2_
         clear n0_ n1_ n2_
         refine start_ (n := 25) (S := fun w' => w'.cell? ⟨gb141, 0, none⟩ = some (.int .i64 a0_0) ∧ w'.cell? ⟨gb141, 1, none⟩ = some (.string a0_1) ∧ w'.cell? ⟨gb141, 2, none⟩ = some (.int .u32 a0_2) ∧ w'.cell? ⟨gb141, 3, none⟩ = some (.bool a0_3) ∧ w'.cell? ⟨gb141, 4, none⟩ = some (.slice A0_4 l0_4.length c0_4) ∧ w'.cell? ⟨gb141, 5, none⟩ = some (.int .i64 a0_5) ∧ w'.cell? ⟨gb142, 0, none⟩ = some (.int .i64 a1_0) ∧ w'.cell? ⟨gb142, 1, none⟩ = some (.string a1_1) ∧ w'.cell? ⟨gb142, 2, none⟩ = some (.int .u32 a1_2) ∧ w'.cell? ⟨gb142, 3, none⟩ = some (.bool a1_3) ∧ w'.cell? ⟨gb142, 4, none⟩ = some (.slice A1_4 l1_4.length c1_4) ∧ w'.cell? ⟨gb142, 5, none⟩ = some (.int .i64 a1_5)) (ds := []) #[false, false, false, false, false, false, false, false, false, false, false, false, false, false, false, false, false, false, false, false, false, false, false, false, false] (by kernel_rfl) rfl rfl ⟨(blk_cell BK141.out 0).trans rfl, (blk_cell BK141.out 1).trans rfl, (blk_cell BK141.out 2).trans rfl, (blk_cell BK141.out 3).trans rfl, (blk_cell BK141.out 4).trans rfl, (blk_cell BK141.out 5).trans rfl, (blk_cell BK142.out 0).trans rfl, (blk_cell BK142.out 1).trans rfl, (blk_cell BK142.out 2).trans rfl, (blk_cell BK142.out 3).trans rfl, (blk_cell BK142.out 4).trans rfl, (blk_cell BK142.out 5).trans rfl⟩ (fun hHeld => ?_); refine with_tabW cruciblelaw08_AstSame.tab3 cruciblelaw08_AstSame.bits3 (fun HT_ HW_ => ?_)
         generalize wc.drew = w42 at BK141 BK142 HB hHeld ⊢
         refine take_ (i := 0) (N := some 14) (v := ?_) (a' := ?_) #[true, false, false, false, false, false, false, false, false, false, false, false, false, false, false, false, false, false, false, false, false, false, false, false, false] rfl rfl (take_ofW HT_.out HW_.out (by kernel_rfl)) (fun _ _ _ h => h) (Or.inl ⟨by rfl, ?_⟩) hHeld ?_ ?_
         rotate_left
         · rintro w' ⟨s0, s1, s2, s3, s4, s5, s6, s7, s8, s9, s10, s11⟩
           go_simp
           with_reducible rfl
         rotate_left
         · simp only [Act.put, List.setIfInBounds_toArray, List.set_cons_zero, List.set_cons_succ, i64_w, i32_w]
           rfl
         refine take_ (i := 1) (N := some 15) (v := ?_) (a' := ?_) #[true, true, false, false, false, false, false, false, false, false, false, false, false, false, false, false, false, false, false, false, false, false, false, false, false] rfl rfl (take_ofW HT_.out HW_.out (by kernel_rfl)) (fun _ _ _ h => h) (Or.inl ⟨by rfl, ?_⟩) hHeld ?_ ?_
         rotate_left
         · rintro w' ⟨s0, s1, s2, s3, s4, s5, s6, s7, s8, s9, s10, s11⟩
           go_simp
           with_reducible rfl
         rotate_left
         · simp only [Act.put, List.setIfInBounds_toArray, List.set_cons_zero, List.set_cons_succ, i64_w, i32_w]
           rfl
         refine take_ (i := 3) (N := some 17) (v := ?_) (a' := ?_) #[true, true, false, true, false, false, false, false, false, false, false, false, false, false, false, false, false, false, false, false, false, false, false, false, false] rfl rfl (take_ofW HT_.out HW_.out (by kernel_rfl)) (fun _ _ _ h => h) (Or.inl ⟨by rfl, ?_⟩) hHeld ?_ ?_
         rotate_left
         · rintro w' ⟨s0, s1, s2, s3, s4, s5, s6, s7, s8, s9, s10, s11⟩
           go_simp
           with_reducible rfl
         rotate_left
         · simp only [Act.put, List.setIfInBounds_toArray, List.set_cons_zero, List.set_cons_succ, i64_w, i32_w]
           rfl
         refine take_ (i := 4) (N := some 18) (v := ?_) (a' := ?_) #[true, true, false, true, true, false, false, false, false, false, false, false, false, false, false, false, false, false, false, false, false, false, false, false, false] rfl rfl (take_ofW HT_.out HW_.out (by kernel_rfl)) (fun _ _ _ h => h) (Or.inl ⟨by rfl, ?_⟩) hHeld ?_ ?_
         rotate_left
         · rintro w' ⟨s0, s1, s2, s3, s4, s5, s6, s7, s8, s9, s10, s11⟩
           go_simp
           with_reducible rfl
         rotate_left
         · simp only [Act.put, List.setIfInBounds_toArray, List.set_cons_zero, List.set_cons_succ, i64_w, i32_w]
           rfl
         refine one_ (i := 2) (N := some 16) #[true, true, true, true, true, false, false, false, false, false, false, false, false, false, false, false, false, false, false, false, false, false, false, false, false] rfl rfl (one_of HT_.out (by kernel_rfl)) (by decide) (fun K hK => ?_)
         refine goes_ Tryz.func14 (by kernel_rfl) rfl #[.agg #[.int .i64 a0_0, .string a0_1, .int .u32 a0_2, .bool a0_3, .slice A0_4 l0_4.length c0_4, .int .i64 a0_5], .agg #[.int .i64 a1_0, .string a1_1, .int .u32 a1_2, .bool a1_3, .slice A1_4 l1_4.length c1_4, .int .i64 a1_5]] (by rfl) rfl rfl (by (try simp only [List.map_toArray, List.map_cons, List.map_nil]); first | done | rfl | (simp only [List.length_drop, List.length_take]; rfl)) ?_
         with_reducible refine (ast_Same.calls kj2 a0_0 a0_1 a0_2 a0_3 _ _ l0_4 a0_5 a1_0 a1_1 a1_2 a1_3 _ _ l1_4 a1_5 t146 _ ?side1 ?side2 ?side3 ?side4 A20.out).mono ?_
         (case side1 => repeat (first | exact (Kd.C_below HR0_4.out HB.out) | (with_reducible refine Kd.C_alloc ?_ _) | (with_reducible refine Kd.C_drewN ?_ _) | (with_reducible refine Kd.C_drew ?_)))
         (case side2 => exact HC0_4.out)
         (case side3 => repeat (first | exact (Kd.C_below HR1_4.out HB.out) | (with_reducible refine Kd.C_alloc ?_ _) | (with_reducible refine Kd.C_drewN ?_ _) | (with_reducible refine Kd.C_drew ?_)))
         (case side4 => exact HC1_4.out)
         rintro e w43 ⟨rfl, hb⟩
         refine ⟨_, rfl, ?_⟩
         have n0_ := Aside0.mk (blk_below (g := gb141) (o := .cells #[.int .i64 a0_0, .string a0_1, .int .u32 a0_2, .bool a0_3, .slice A0_4 l0_4.length c0_4, .int .i64 a0_5] 25 (0, 0)) (by (with_reducible repeat (first | refine blk_drewN ?_ _ | refine blk_drew ?_ | refine blk_alloc ?_ _)); exact BK141.out) hb)
         have n1_ := Aside0.mk (blk_below (g := gb142) (o := .cells #[.int .i64 a1_0, .string a1_1, .int .u32 a1_2, .bool a1_3, .slice A1_4 l1_4.length c1_4, .int .i64 a1_5] 25 (0, 0)) (by (with_reducible repeat (first | refine blk_drewN ?_ _ | refine blk_drew ?_ | refine blk_alloc ?_ _)); exact BK142.out) hb)
         have n2_ := Aside0.mk (below_step (by repeat (first | (with_reducible first | exact HB.out | apply below_alloc | apply pw_below_drewN | apply below_drew1 | refine below_set ?_ GE141.out | refine below_set ?_ GE142.out) | exact HB.out)) hb)
         clear BK141
         clear BK142
         clear HB
         have BK141 := n0_
         have BK142 := n1_
         have HB := n2_
         clear n0_ n1_ n2_
         (try clear hb)
         (try clear hb2)
         (try clear hk)
         (try clear hi)
         refine hK.out _ _ ⟨(blk_cell BK141.out 0).trans rfl, (blk_cell BK141.out 1).trans rfl, (blk_cell BK141.out 2).trans rfl, (blk_cell BK141.out 3).trans rfl, (blk_cell BK141.out 4).trans rfl, (blk_cell BK141.out 5).trans rfl, (blk_cell BK142.out 0).trans rfl, (blk_cell BK142.out 1).trans rfl, (blk_cell BK142.out 2).trans rfl, (blk_cell BK142.out 3).trans rfl, (blk_cell BK142.out 4).trans rfl, (blk_cell BK142.out 5).trans rfl⟩ (fun hHeld => ?_)
         clear hK K
         refine norm_ (a' := ?_) ?_ ?_
         rotate_left
         · show Act.put _ (some 16) _ = _
           simp only [Act.put, List.setIfInBounds_toArray, List.set_cons_zero, List.set_cons_succ, i64_w, i32_w]
           rfl
         refine one_ (i := 5) (N := some 19) #[true, true, true, true, true, true, false, false, false, false, false, false, false, false, false, false, false, false, false, false, false, false, false, false, false] rfl rfl (one_of HT_.out (by kernel_rfl)) (by decide) (fun K hK => ?_)
         refine goes_ Tryz.func15 (by kernel_rfl) rfl #[.agg #[.int .i64 a0_0, .string a0_1, .int .u32 a0_2, .bool a0_3, .slice A0_4 l0_4.length c0_4, .int .i64 a0_5], .agg #[.int .i64 a1_0, .string a1_1, .int .u32 a1_2, .bool a1_3, .slice A1_4 l1_4.length c1_4, .int .i64 a1_5]] (by rfl) rfl rfl (by (try simp only [List.map_toArray, List.map_cons, List.map_nil]); first | done | rfl | (simp only [List.length_drop, List.length_take]; rfl)) ?_
         with_reducible refine (crucibleref08_Same.calls kj2 a0_0 a0_1 a0_2 a0_3 _ _ l0_4 a0_5 a1_0 a1_1 a1_2 a1_3 _ _ l1_4 a1_5 t147 _ ?side1 ?side2 ?side3 ?side4 A21.out).mono ?_
         (case side1 => repeat (first | exact (Kd.C_below HR0_4.out HB.out) | (with_reducible refine Kd.C_alloc ?_ _) | (with_reducible refine Kd.C_drewN ?_ _) | (with_reducible refine Kd.C_drew ?_)))
         (case side2 => exact HC0_4.out)
         (case side3 => repeat (first | exact (Kd.C_below HR1_4.out HB.out) | (with_reducible refine Kd.C_alloc ?_ _) | (with_reducible refine Kd.C_drewN ?_ _) | (with_reducible refine Kd.C_drew ?_)))
         (case side4 => exact HC1_4.out)
         rintro e w44 ⟨rfl, hb⟩
         refine ⟨_, rfl, ?_⟩
         have n0_ := Aside0.mk (blk_below (g := gb141) (o := .cells #[.int .i64 a0_0, .string a0_1, .int .u32 a0_2, .bool a0_3, .slice A0_4 l0_4.length c0_4, .int .i64 a0_5] 25 (0, 0)) (by (with_reducible repeat (first | refine blk_drewN ?_ _ | refine blk_drew ?_ | refine blk_alloc ?_ _)); exact BK141.out) hb)
         have n1_ := Aside0.mk (blk_below (g := gb142) (o := .cells #[.int .i64 a1_0, .string a1_1, .int .u32 a1_2, .bool a1_3, .slice A1_4 l1_4.length c1_4, .int .i64 a1_5] 25 (0, 0)) (by (with_reducible repeat (first | refine blk_drewN ?_ _ | refine blk_drew ?_ | refine blk_alloc ?_ _)); exact BK142.out) hb)
         have n2_ := Aside0.mk (below_step (by repeat (first | (with_reducible first | exact HB.out | apply below_alloc | apply pw_below_drewN | apply below_drew1 | refine below_set ?_ GE141.out | refine below_set ?_ GE142.out) | exact HB.out)) hb)
         clear BK141
         clear BK142
         clear HB
         have BK141 := n0_
         have BK142 := n1_
         have HB := n2_
         clear n0_ n1_ n2_
         (try clear hb)
         (try clear hb2)
         (try clear hk)
         (try clear hi)
         refine hK.out _ _ ⟨(blk_cell BK141.out 0).trans rfl, (blk_cell BK141.out 1).trans rfl, (blk_cell BK141.out 2).trans rfl, (blk_cell BK141.out 3).trans rfl, (blk_cell BK141.out 4).trans rfl, (blk_cell BK141.out 5).trans rfl, (blk_cell BK142.out 0).trans rfl, (blk_cell BK142.out 1).trans rfl, (blk_cell BK142.out 2).trans rfl, (blk_cell BK142.out 3).trans rfl, (blk_cell BK142.out 4).trans rfl, (blk_cell BK142.out 5).trans rfl⟩ (fun hHeld => ?_)
         clear hK K
         refine norm_ (a' := ?_) ?_ ?_
         rotate_left
         · show Act.put _ (some 19) _ = _
           simp only [Act.put, List.setIfInBounds_toArray, List.set_cons_zero, List.set_cons_succ, i64_w, i32_w]
           rfl
         refine pure_ (i := 6) (N := some 20) (v := ?_) (a' := ?_) #[true, true, true, true, true, true, true, false, false, false, false, false, false, false, false, false, false, false, false, false, false, false, false, false, false] rfl rfl (any_of HT_.out (by kernel_rfl)) (fun _ _ _ h => h) (Or.inl ⟨by rfl, ?_⟩) ?_ ?_
         rotate_left
         · intro w'
           go_simp
           with_reducible rfl
         rotate_left
         · simp only [Act.put, List.setIfInBounds_toArray, List.set_cons_zero, List.set_cons_succ, i64_w, i32_w]
           rfl
         refine pure_ (i := 7) (N := some 21) (v := ?_) (a' := ?_) #[true, true, true, true, true, true, true, true, false, false, false, false, false, false, false, false, false, false, false, false, false, false, false, false, false] rfl rfl (any_of HT_.out (by kernel_rfl)) (fun _ _ _ h => h) (Or.inl ⟨by rfl, ?_⟩) ?_ ?_
         rotate_left
         · intro w'
           go_simp
           with_reducible rfl
         rotate_left
         · simp only [Act.put, List.setIfInBounds_toArray, List.set_cons_zero, List.set_cons_succ, i64_w, i32_w]
           rfl
         refine take_ (i := 8) (N := some 22) (v := ?_) (a' := ?_) #[true, true, true, true, true, true, true, true, true, false, false, false, false, false, false, false, false, false, false, false, false, false, false, false, false] rfl rfl (take_ofW HT_.out HW_.out (by kernel_rfl)) (fun _ _ _ h => h) (Or.inl ⟨by rfl, ?_⟩) hHeld ?_ ?_
         rotate_left
         · rintro w' ⟨s0, s1, s2, s3, s4, s5, s6, s7, s8, s9, s10, s11⟩
           go_simp
           with_reducible rfl
         rotate_left
         · simp only [Act.put, List.setIfInBounds_toArray, List.set_cons_zero, List.set_cons_succ, i64_w, i32_w]
           rfl
         refine take_ (i := 9) (N := some 23) (v := ?_) (a' := ?_) #[true, true, true, true, true, true, true, true, true, true, false, false, false, false, false, false, false, false, false, false, false, false, false, false, false] rfl rfl (take_ofW HT_.out HW_.out (by kernel_rfl)) (fun _ _ _ h => h) (Or.inl ⟨by rfl, ?_⟩) hHeld ?_ ?_
         rotate_left
         · rintro w' ⟨s0, s1, s2, s3, s4, s5, s6, s7, s8, s9, s10, s11⟩
           go_simp
           with_reducible rfl
         rotate_left
         · simp only [Act.put, List.setIfInBounds_toArray, List.set_cons_zero, List.set_cons_succ, i64_w, i32_w]
           rfl
         refine take_ (i := 11) (N := some 25) (v := ?_) (a' := ?_) #[true, true, true, true, true, true, true, true, true, true, false, true, false, false, false, false, false, false, false, false, false, false, false, false, false] rfl rfl (take_ofW HT_.out HW_.out (by kernel_rfl)) (fun _ _ _ h => h) (Or.inl ⟨by rfl, ?_⟩) hHeld ?_ ?_
         rotate_left
         · rintro w' ⟨s0, s1, s2, s3, s4, s5, s6, s7, s8, s9, s10, s11⟩
           go_simp
           with_reducible rfl
         rotate_left
         · simp only [Act.put, List.setIfInBounds_toArray, List.set_cons_zero, List.set_cons_succ, i64_w, i32_w]
           rfl
         refine take_ (i := 12) (N := some 26) (v := ?_) (a' := ?_) #[true, true, true, true, true, true, true, true, true, true, false, true, true, false, false, false, false, false, false, false, false, false, false, false, false] rfl rfl (take_ofW HT_.out HW_.out (by kernel_rfl)) (fun _ _ _ h => h) (Or.inl ⟨by rfl, ?_⟩) hHeld ?_ ?_
         rotate_left
         · rintro w' ⟨s0, s1, s2, s3, s4, s5, s6, s7, s8, s9, s10, s11⟩
           go_simp
           with_reducible rfl
         rotate_left
         · simp only [Act.put, List.setIfInBounds_toArray, List.set_cons_zero, List.set_cons_succ, i64_w, i32_w]
           rfl
         refine one_ (i := 10) (N := some 24) #[true, true, true, true, true, true, true, true, true, true, true, true, true, false, false, false, false, false, false, false, false, false, false, false, false] rfl rfl (one_of HT_.out (by kernel_rfl)) (by decide) (fun K hK => ?_)
         refine goes_ Tryz.func14 (by kernel_rfl) rfl #[.agg #[.int .i64 a1_0, .string a1_1, .int .u32 a1_2, .bool a1_3, .slice A1_4 l1_4.length c1_4, .int .i64 a1_5], .agg #[.int .i64 a0_0, .string a0_1, .int .u32 a0_2, .bool a0_3, .slice A0_4 l0_4.length c0_4, .int .i64 a0_5]] (by rfl) rfl rfl (by (try simp only [List.map_toArray, List.map_cons, List.map_nil]); first | done | rfl | (simp only [List.length_drop, List.length_take]; rfl)) ?_
         with_reducible refine (ast_Same.calls kj2 a1_0 a1_1 a1_2 a1_3 _ _ l1_4 a1_5 a0_0 a0_1 a0_2 a0_3 _ _ l0_4 a0_5 t148 _ ?side1 ?side2 ?side3 ?side4 A23.out).mono ?_
         (case side1 => repeat (first | exact (Kd.C_below HR1_4.out HB.out) | (with_reducible refine Kd.C_alloc ?_ _) | (with_reducible refine Kd.C_drewN ?_ _) | (with_reducible refine Kd.C_drew ?_)))
         (case side2 => exact HC1_4.out)
         (case side3 => repeat (first | exact (Kd.C_below HR0_4.out HB.out) | (with_reducible refine Kd.C_alloc ?_ _) | (with_reducible refine Kd.C_drewN ?_ _) | (with_reducible refine Kd.C_drew ?_)))
         (case side4 => exact HC0_4.out)
         rintro e w45 ⟨rfl, hb⟩
         refine ⟨_, rfl, ?_⟩
         have n0_ := Aside0.mk (blk_below (g := gb141) (o := .cells #[.int .i64 a0_0, .string a0_1, .int .u32 a0_2, .bool a0_3, .slice A0_4 l0_4.length c0_4, .int .i64 a0_5] 25 (0, 0)) (by (with_reducible repeat (first | refine blk_drewN ?_ _ | refine blk_drew ?_ | refine blk_alloc ?_ _)); exact BK141.out) hb)
         have n1_ := Aside0.mk (blk_below (g := gb142) (o := .cells #[.int .i64 a1_0, .string a1_1, .int .u32 a1_2, .bool a1_3, .slice A1_4 l1_4.length c1_4, .int .i64 a1_5] 25 (0, 0)) (by (with_reducible repeat (first | refine blk_drewN ?_ _ | refine blk_drew ?_ | refine blk_alloc ?_ _)); exact BK142.out) hb)
         have n2_ := Aside0.mk (below_step (by repeat (first | (with_reducible first | exact HB.out | apply below_alloc | apply pw_below_drewN | apply below_drew1 | refine below_set ?_ GE141.out | refine below_set ?_ GE142.out) | exact HB.out)) hb)
         clear BK141
         clear BK142
         clear HB
         have BK141 := n0_
         have BK142 := n1_
         have HB := n2_
         clear n0_ n1_ n2_
         (try clear hb)
         (try clear hb2)
         (try clear hk)
         (try clear hi)
         refine hK.out _ _ ⟨(blk_cell BK141.out 0).trans rfl, (blk_cell BK141.out 1).trans rfl, (blk_cell BK141.out 2).trans rfl, (blk_cell BK141.out 3).trans rfl, (blk_cell BK141.out 4).trans rfl, (blk_cell BK141.out 5).trans rfl, (blk_cell BK142.out 0).trans rfl, (blk_cell BK142.out 1).trans rfl, (blk_cell BK142.out 2).trans rfl, (blk_cell BK142.out 3).trans rfl, (blk_cell BK142.out 4).trans rfl, (blk_cell BK142.out 5).trans rfl⟩ (fun hHeld => ?_)
         clear hK K
         refine norm_ (a' := ?_) ?_ ?_
         rotate_left
         · show Act.put _ (some 24) _ = _
           simp only [Act.put, List.setIfInBounds_toArray, List.set_cons_zero, List.set_cons_succ, i64_w, i32_w]
           rfl
         refine one_ (i := 13) (N := some 27) #[true, true, true, true, true, true, true, true, true, true, true, true, true, true, false, false, false, false, false, false, false, false, false, false, false] rfl rfl (one_of HT_.out (by kernel_rfl)) (by decide) (fun K hK => ?_)
         refine goes_ Tryz.func15 (by kernel_rfl) rfl #[.agg #[.int .i64 a0_0, .string a0_1, .int .u32 a0_2, .bool a0_3, .slice A0_4 l0_4.length c0_4, .int .i64 a0_5], .agg #[.int .i64 a1_0, .string a1_1, .int .u32 a1_2, .bool a1_3, .slice A1_4 l1_4.length c1_4, .int .i64 a1_5]] (by rfl) rfl rfl (by (try simp only [List.map_toArray, List.map_cons, List.map_nil]); first | done | rfl | (simp only [List.length_drop, List.length_take]; rfl)) ?_
         with_reducible refine (crucibleref08_Same.calls kj2 a0_0 a0_1 a0_2 a0_3 _ _ l0_4 a0_5 a1_0 a1_1 a1_2 a1_3 _ _ l1_4 a1_5 t149 _ ?side1 ?side2 ?side3 ?side4 A24.out).mono ?_
         (case side1 => repeat (first | exact (Kd.C_below HR0_4.out HB.out) | (with_reducible refine Kd.C_alloc ?_ _) | (with_reducible refine Kd.C_drewN ?_ _) | (with_reducible refine Kd.C_drew ?_)))
         (case side2 => exact HC0_4.out)
         (case side3 => repeat (first | exact (Kd.C_below HR1_4.out HB.out) | (with_reducible refine Kd.C_alloc ?_ _) | (with_reducible refine Kd.C_drewN ?_ _) | (with_reducible refine Kd.C_drew ?_)))
         (case side4 => exact HC1_4.out)
         rintro e w46 ⟨rfl, hb⟩
         refine ⟨_, rfl, ?_⟩
         have n0_ := Aside0.mk (blk_below (g := gb141) (o := .cells #[.int .i64 a0_0, .string a0_1, .int .u32 a0_2, .bool a0_3, .slice A0_4 l0_4.length c0_4, .int .i64 a0_5] 25 (0, 0)) (by (with_reducible repeat (first | refine blk_drewN ?_ _ | refine blk_drew ?_ | refine blk_alloc ?_ _)); exact BK141.out) hb)
         have n1_ := Aside0.mk (blk_below (g := gb142) (o := .cells #[.int .i64 a1_0, .string a1_1, .int .u32 a1_2, .bool a1_3, .slice A1_4 l1_4.length c1_4, .int .i64 a1_5] 25 (0, 0)) (by (with_reducible repeat (first | refine blk_drewN ?_ _ | refine blk_drew ?_ | refine blk_alloc ?_ _)); exact BK142.out) hb)
         have n2_ := Aside0.mk (below_step (by repeat (first | (with_reducible first | exact HB.out | apply below_alloc | apply pw_below_drewN | apply below_drew1 | refine below_set ?_ GE141.out | refine below_set ?_ GE142.out) | exact HB.out)) hb)
         clear BK141
         clear BK142
         clear HB
         have BK141 := n0_
         have BK142 := n1_
         have HB := n2_
         clear n0_ n1_ n2_
         (try clear hb)
         (try clear hb2)
         (try clear hk)
         (try clear hi)
         refine hK.out _ _ ⟨(blk_cell BK141.out 0).trans rfl, (blk_cell BK141.out 1).trans rfl, (blk_cell BK141.out 2).trans rfl, (blk_cell BK141.out 3).trans rfl, (blk_cell BK141.out 4).trans rfl, (blk_cell BK141.out 5).trans rfl, (blk_cell BK142.out 0).trans rfl, (blk_cell BK142.out 1).trans rfl, (blk_cell BK142.out 2).trans rfl, (blk_cell BK142.out 3).trans rfl, (blk_cell BK142.out 4).trans rfl, (blk_cell BK142.out 5).trans rfl⟩ (fun hHeld => ?_)
         clear hK K
         refine norm_ (a' := ?_) ?_ ?_
         rotate_left
         · show Act.put _ (some 27) _ = _
           simp only [Act.put, List.setIfInBounds_toArray, List.set_cons_zero, List.set_cons_succ, i64_w, i32_w]
           rfl
         refine pure_ (i := 14) (N := some 28) (v := ?_) (a' := ?_) #[true, true, true, true, true, true, true, true, true, true, true, true, true, true, true, false, false, false, false, false, false, false, false, false, false] rfl rfl (any_of HT_.out (by kernel_rfl)) (fun _ _ _ h => h) (Or.inl ⟨by rfl, ?_⟩) ?_ ?_
         rotate_left
         · intro w'
           go_simp
           with_reducible rfl
         rotate_left
         · simp only [Act.put, List.setIfInBounds_toArray, List.set_cons_zero, List.set_cons_succ, i64_w, i32_w]
           rfl
         refine pure_ (i := 15) (N := some 29) (v := ?_) (a' := ?_) #[true, true, true, true, true, true, true, true, true, true, true, true, true, true, true, true, false, false, false, false, false, false, false, false, false] rfl rfl (any_of HT_.out (by kernel_rfl)) (fun _ _ _ h => h) (Or.inl ⟨by rfl, ?_⟩) ?_ ?_
         rotate_left
         · intro w'
           go_simp
           with_reducible rfl
         rotate_left
         · simp only [Act.put, List.setIfInBounds_toArray, List.set_cons_zero, List.set_cons_succ, i64_w, i32_w]
           rfl
         refine pure_ (i := 16) (N := some 30) (v := ?_) (a' := ?_) #[true, true, true, true, true, true, true, true, true, true, true, true, true, true, true, true, true, false, false, false, false, false, false, false, false] rfl rfl (any_of HT_.out (by kernel_rfl)) (fun _ _ _ h => h) (Or.inl ⟨by rfl, ?_⟩) ?_ ?_
         rotate_left
         · intro w'
           go_simp
           with_reducible rfl
         rotate_left
         · simp only [Act.put, List.setIfInBounds_toArray, List.set_cons_zero, List.set_cons_succ, i64_w, i32_w]
           rfl
         refine pure_ (i := 17) (N := some 31) (v := undef) (a' := ?_) #[true, true, true, true, true, true, true, true, true, true, true, true, true, true, true, true, true, true, false, false, false, false, false, false, false] rfl rfl (any_of HT_.out (by kernel_rfl)) (fun _ _ _ h => h) (Or.inr ⟨by rfl, rfl⟩) ?_ ?_
         rotate_left
         · simp only [Act.put, List.setIfInBounds_toArray, List.set_cons_zero, List.set_cons_succ, i64_w, i32_w]
           rfl
         refine pure_ (i := 18) (N := some 32) (v := undef) (a' := ?_) #[true, true, true, true, true, true, true, true, true, true, true, true, true, true, true, true, true, true, true, false, false, false, false, false, false] rfl rfl (any_of HT_.out (by kernel_rfl)) (fun _ _ _ h => h) (Or.inr ⟨by rfl, rfl⟩) ?_ ?_
         rotate_left
         · simp only [Act.put, List.setIfInBounds_toArray, List.set_cons_zero, List.set_cons_succ, i64_w, i32_w]
           rfl
         refine pure_ (i := 19) (N := some 33) (v := undef) (a' := ?_) #[true, true, true, true, true, true, true, true, true, true, true, true, true, true, true, true, true, true, true, true, false, false, false, false, false] rfl rfl (any_of HT_.out (by kernel_rfl)) (fun _ _ _ h => h) (Or.inr ⟨by rfl, rfl⟩) ?_ ?_
         rotate_left
         · simp only [Act.put, List.setIfInBounds_toArray, List.set_cons_zero, List.set_cons_succ, i64_w, i32_w]
           rfl
         refine pure_ (i := 20) (N := some 34) (v := ?_) (a' := ?_) #[true, true, true, true, true, true, true, true, true, true, true, true, true, true, true, true, true, true, true, true, true, false, false, false, false] rfl rfl (any_of HT_.out (by kernel_rfl)) (fun _ _ _ h => h) (Or.inl ⟨by rfl, ?_⟩) ?_ ?_
         rotate_left
         · intro w'
           go_simp
           with_reducible rfl
         rotate_left
         · simp only [Act.put, List.setIfInBounds_toArray, List.set_cons_zero, List.set_cons_succ, i64_w, i32_w]
           rfl
         refine pure_ (i := 21) (N := some 35) (v := ?_) (a' := ?_) #[true, true, true, true, true, true, true, true, true, true, true, true, true, true, true, true, true, true, true, true, true, true, false, false, false] rfl rfl (any_of HT_.out (by kernel_rfl)) (fun _ _ _ h => h) (Or.inl ⟨by rfl, ?_⟩) ?_ ?_
         rotate_left
         · intro w'
           go_simp
           with_reducible rfl
         rotate_left
         · simp only [Act.put, List.setIfInBounds_toArray, List.set_cons_zero, List.set_cons_succ, i64_w, i32_w]
           rfl
         refine pure_ (i := 22) (N := some 36) (v := undef) (a' := ?_) #[true, true, true, true, true, true, true, true, true, true, true, true, true, true, true, true, true, true, true, true, true, true, true, false, false] rfl rfl (any_of HT_.out (by kernel_rfl)) (fun _ _ _ h => h) (Or.inr ⟨by rfl, rfl⟩) ?_ ?_
         rotate_left
         · simp only [Act.put, List.setIfInBounds_toArray, List.set_cons_zero, List.set_cons_succ, i64_w, i32_w]
           rfl
         refine pure_ (i := 23) (N := some 37) (v := ?_) (a' := ?_) #[true, true, true, true, true, true, true, true, true, true, true, true, true, true, true, true, true, true, true, true, true, true, true, true, false] rfl rfl (any_of HT_.out (by kernel_rfl)) (fun _ _ _ h => h) (Or.inl ⟨by rfl, ?_⟩) ?_ ?_
         rotate_left
         · intro w'
           go_simp
           with_reducible rfl
         rotate_left
         · simp only [Act.put, List.setIfInBounds_toArray, List.set_cons_zero, List.set_cons_succ, i64_w, i32_w]
           rfl
         refine pure_ (i := 24) (N := some 4) (v := ?_) (a' := ?_) #[true, true, true, true, true, true, true, true, true, true, true, true, true, true, true, true, true, true, true, true, true, true, true, true, true] rfl rfl (any_of HT_.out (by kernel_rfl)) (fun _ _ _ h => h) (Or.inl ⟨by rfl, ?_⟩) ?_ ?_
         rotate_left
         · intro w'
           go_simp
           with_reducible rfl
         rotate_left
         · simp only [Act.put, List.setIfInBounds_toArray, List.set_cons_zero, List.set_cons_succ, i64_w, i32_w]
           rfl
         refine done_ (done_of HT_.out (by kernel_rfl)) ?_
         try go_wp2
         go_ret
         exact ⟨by first | rfl | (simp [errW_none, errW_some] <;> rfl) | (simp [*, errW_none, errW_some] <;> rfl), by repeat (first | (with_reducible first | exact HB.out | apply below_alloc | apply pw_below_drewN | apply below_drew1 | refine below_set ?_ GE141.out | refine below_set ?_ GE142.out) | exact HB.out)⟩
     · rw [if_neg c22] at H
       have c22b0 : (t146 == t147) = false := by simpa using c22
       (try (have c22b1 : decide (t146 = t147) = false := by simpa using c22))
       (try (have c22b2 : (t146 == t147) = false := by simpa using c22))
       (try (have c22b3 : ¬ (t146 = t147) := by simpa using c22))
       clear c22
       obtain rfl := Option.some.inj H
       try go_wp2
       have n0_ := Aside0.mk (blk_drew BK141.out)
       have n1_ := Aside0.mk (blk_drew BK142.out)
       have n2_ := Aside0.mk (below_drew1 HB.out)
       clear BK141
       clear BK142
       clear HB
       have BK141 := n0_
       have BK142 := n1_
       have HB := n2_
       clear n0_ n1_ n2_
       refine start_ (n := 25) (S := fun w' => w'.cell? ⟨gb141, 0, none⟩ = some (.int .i64 a0_0) ∧ w'.cell? ⟨gb141, 1, none⟩ = some (.string a0_1) ∧ w'.cell? ⟨gb141, 2, none⟩ = some (.int .u32 a0_2) ∧ w'.cell? ⟨gb141, 3, none⟩ = some (.bool a0_3) ∧ w'.cell? ⟨gb141, 4, none⟩ = some (.slice A0_4 l0_4.length c0_4) ∧ w'.cell? ⟨gb141, 5, none⟩ = some (.int .i64 a0_5) ∧ w'.cell? ⟨gb142, 0, none⟩ = some (.int .i64 a1_0) ∧ w'.cell? ⟨gb142, 1, none⟩ = some (.string a1_1) ∧ w'.cell? ⟨gb142, 2, none⟩ = some (.int .u32 a1_2) ∧ w'.cell? ⟨gb142, 3, none⟩ = some (.bool a1_3) ∧ w'.cell? ⟨gb142, 4, none⟩ = some (.slice A1_4 l1_4.length c1_4) ∧ w'.cell? ⟨gb142, 5, none⟩ = some (.int .i64 a1_5)) (ds := []) #[false, false, false, false, false, false, false, false, false, false, false, false, false, false, false, false, false, false, false, false, false, false, false, false, false] (by kernel_rfl) rfl rfl ⟨(blk_cell BK141.out 0).trans rfl, (blk_cell BK141.out 1).trans rfl, (blk_cell BK141.out 2).trans rfl, (blk_cell BK141.out 3).trans rfl, (blk_cell BK141.out 4).trans rfl, (blk_cell BK141.out 5).trans rfl, (blk_cell BK142.out 0).trans rfl, (blk_cell BK142.out 1).trans rfl, (blk_cell BK142.out 2).trans rfl, (blk_cell BK142.out 3).trans rfl, (blk_cell BK142.out 4).trans rfl, (blk_cell BK142.out 5).trans rfl⟩ (fun hHeld => ?_); refine with_tabW cruciblelaw08_AstSame.tab3 cruciblelaw08_AstSame.bits3 (fun HT_ HW_ => ?_)
       generalize wc.drew = w47 at BK141 BK142 HB hHeld ⊢
       refine take_ (i := 0) (N := some 14) (v := ?_) (a' := ?_) #[true, false, false, false, false, false, false, false, false, false, false, false, false, false, false, false, false, false, false, false, false, false, false, false, false] rfl rfl (take_ofW HT_.out HW_.out (by kernel_rfl)) (fun _ _ _ h => h) (Or.inl ⟨by rfl, ?_⟩) hHeld ?_ ?_
       rotate_left
       · rintro w' ⟨s0, s1, s2, s3, s4, s5, s6, s7, s8, s9, s10, s11⟩
         go_simp
         with_reducible rfl
       rotate_left
       · simp only [Act.put, List.setIfInBounds_toArray, List.set_cons_zero, List.set_cons_succ, i64_w, i32_w]
         rfl
       refine take_ (i := 1) (N := some 15) (v := ?_) (a' := ?_) #[true, true, false, false, false, false, false, false, false, false, false, false, false, false, false, false, false, false, false, false, false, false, false, false, false] rfl rfl (take_ofW HT_.out HW_.out (by kernel_rfl)) (fun _ _ _ h => h) (Or.inl ⟨by rfl, ?_⟩) hHeld ?_ ?_
       rotate_left
       · rintro w' ⟨s0, s1, s2, s3, s4, s5, s6, s7, s8, s9, s10, s11⟩
         go_simp
         with_reducible rfl
       rotate_left
       · simp only [Act.put, List.setIfInBounds_toArray, List.set_cons_zero, List.set_cons_succ, i64_w, i32_w]
         rfl
       refine take_ (i := 3) (N := some 17) (v := ?_) (a' := ?_) #[true, true, false, true, false, false, false, false, false, false, false, false, false, false, false, false, false, false, false, false, false, false, false, false, false] rfl rfl (take_ofW HT_.out HW_.out (by kernel_rfl)) (fun _ _ _ h => h) (Or.inl ⟨by rfl, ?_⟩) hHeld ?_ ?_
       rotate_left
       · rintro w' ⟨s0, s1, s2, s3, s4, s5, s6, s7, s8, s9, s10, s11⟩
         go_simp
         with_reducible rfl
       rotate_left
       · simp only [Act.put, List.setIfInBounds_toArray, List.set_cons_zero, List.set_cons_succ, i64_w, i32_w]
         rfl
       refine take_ (i := 4) (N := some 18) (v := ?_) (a' := ?_) #[true, true, false, true, true, false, false, false, false, false, false, false, false, false, false, false, false, false, false, false, false, false, false, false, false] rfl rfl (take_ofW HT_.out HW_.out (by kernel_rfl)) (fun _ _ _ h => h) (Or.inl ⟨by rfl, ?_⟩) hHeld ?_ ?_
       rotate_left
       · rintro w' ⟨s0, s1, s2, s3, s4, s5, s6, s7, s8, s9, s10, s11⟩
         go_simp
         with_reducible rfl
       rotate_left
       · simp only [Act.put, List.setIfInBounds_toArray, List.set_cons_zero, List.set_cons_succ, i64_w, i32_w]
         rfl
       refine one_ (i := 2) (N := some 16) #[true, true, true, true, true, false, false, false, false, false, false, false, false, false, false, false, false, false, false, false, false, false, false, false, false] rfl rfl (one_of HT_.out (by kernel_rfl)) (by decide) (fun K hK => ?_)
       refine goes_ Tryz.func14 (by kernel_rfl) rfl #[.agg #[.int .i64 a0_0, .string a0_1, .int .u32 a0_2, .bool a0_3, .slice A0_4 l0_4.length c0_4, .int .i64 a0_5], .agg #[.int .i64 a1_0, .string a1_1, .int .u32 a1_2, .bool a1_3, .slice A1_4 l1_4.length c1_4, .int .i64 a1_5]] (by rfl) rfl rfl (by (try simp only [List.map_toArray, List.map_cons, List.map_nil]); first | done | rfl | (simp only [List.length_drop, List.length_take]; rfl)) ?_
       with_reducible refine (ast_Same.calls kj2 a0_0 a0_1 a0_2 a0_3 _ _ l0_4 a0_5 a1_0 a1_1 a1_2 a1_3 _ _ l1_4 a1_5 t146 _ ?side1 ?side2 ?side3 ?side4 A20.out).mono ?_
       (case side1 => repeat (first | exact (Kd.C_below HR0_4.out HB.out) | (with_reducible refine Kd.C_alloc ?_ _) | (with_reducible refine Kd.C_drewN ?_ _) | (with_reducible refine Kd.C_drew ?_)))
       (case side2 => exact HC0_4.out)
       (case side3 => repeat (first | exact (Kd.C_below HR1_4.out HB.out) | (with_reducible refine Kd.C_alloc ?_ _) | (with_reducible refine Kd.C_drewN ?_ _) | (with_reducible refine Kd.C_drew ?_)))
       (case side4 => exact HC1_4.out)
       rintro e w48 ⟨rfl, hb⟩
       refine ⟨_, rfl, ?_⟩
       have n0_ := Aside0.mk (blk_below (g := gb141) (o := .cells #[.int .i64 a0_0, .string a0_1, .int .u32 a0_2, .bool a0_3, .slice A0_4 l0_4.length c0_4, .int .i64 a0_5] 25 (0, 0)) (by (with_reducible repeat (first | refine blk_drewN ?_ _ | refine blk_drew ?_ | refine blk_alloc ?_ _)); exact BK141.out) hb)
       have n1_ := Aside0.mk (blk_below (g := gb142) (o := .cells #[.int .i64 a1_0, .string a1_1, .int .u32 a1_2, .bool a1_3, .slice A1_4 l1_4.length c1_4, .int .i64 a1_5] 25 (0, 0)) (by (with_reducible repeat (first | refine blk_drewN ?_ _ | refine blk_drew ?_ | refine blk_alloc ?_ _)); exact BK142.out) hb)
       have n2_ := Aside0.mk (below_step (by repeat (first | (with_reducible first | exact HB.out | apply below_alloc | apply pw_below_drewN | apply below_drew1 | refine below_set ?_ GE141.out | refine below_set ?_ GE142.out) | exact HB.out)) hb)
       clear BK141
       clear BK142
       clear HB
       have BK141 := n0_
       have BK142 := n1_
       have HB := n2_
       clear n0_ n1_ n2_
       (try clear hb)
       (try clear hb2)
       (try clear hk)
       (try clear hi)
       refine hK.out _ _ ⟨(blk_cell BK141.out 0).trans rfl, (blk_cell BK141.out 1).trans rfl, (blk_cell BK141.out 2).trans rfl, (blk_cell BK141.out 3).trans rfl, (blk_cell BK141.out 4).trans rfl, (blk_cell BK141.out 5).trans rfl, (blk_cell BK142.out 0).trans rfl, (blk_cell BK142.out 1).trans rfl, (blk_cell BK142.out 2).trans rfl, (blk_cell BK142.out 3).trans rfl, (blk_cell BK142.out 4).trans rfl, (blk_cell BK142.out 5).trans rfl⟩ (fun hHeld => ?_)
       clear hK K
       refine norm_ (a' := ?_) ?_ ?_
       rotate_left
       · show Act.put _ (some 16) _ = _
         simp only [Act.put, List.setIfInBounds_toArray, List.set_cons_zero, List.set_cons_succ, i64_w, i32_w]
         rfl
       refine one_ (i := 5) (N := some 19) #[true, true, true, true, true, true, false, false, false, false, false, false, false, false, false, false, false, false, false, false, false, false, false, false, false] rfl rfl (one_of HT_.out (by kernel_rfl)) (by decide) (fun K hK => ?_)
       refine goes_ Tryz.func15 (by kernel_rfl) rfl #[.agg #[.int .i64 a0_0, .string a0_1, .int .u32 a0_2, .bool a0_3, .slice A0_4 l0_4.length c0_4, .int .i64 a0_5], .agg #[.int .i64 a1_0, .string a1_1, .int .u32 a1_2, .bool a1_3, .slice A1_4 l1_4.length c1_4, .int .i64 a1_5]] (by rfl) rfl rfl (by (try simp only [List.map_toArray, List.map_cons, List.map_nil]); first | done | rfl | (simp only [List.length_drop, List.length_take]; rfl)) ?_
       with_reducible refine (crucibleref08_Same.calls kj2 a0_0 a0_1 a0_2 a0_3 _ _ l0_4 a0_5 a1_0 a1_1 a1_2 a1_3 _ _ l1_4 a1_5 t147 _ ?side1 ?side2 ?side3 ?side4 A21.out).mono ?_
       (case side1 => repeat (first | exact (Kd.C_below HR0_4.out HB.out) | (with_reducible refine Kd.C_alloc ?_ _) | (with_reducible refine Kd.C_drewN ?_ _) | (with_reducible refine Kd.C_drew ?_)))
       (case side2 => exact HC0_4.out)
       (case side3 => repeat (first | exact (Kd.C_below HR1_4.out HB.out) | (with_reducible refine Kd.C_alloc ?_ _) | (with_reducible refine Kd.C_drewN ?_ _) | (with_reducible refine Kd.C_drew ?_)))
       (case side4 => exact HC1_4.out)
       rintro e w49 ⟨rfl, hb⟩
       refine ⟨_, rfl, ?_⟩
       have n0_ := Aside0.mk (blk_below (g := gb141) (o := .cells #[.int .i64 a0_0, .string a0_1, .int .u32 a0_2, .bool a0_3, .slice A0_4 l0_4.length c0_4, .int .i64 a0_5] 25 (0, 0)) (by (with_reducible repeat (first | refine blk_drewN ?_ _ | refine blk_drew ?_ | refine blk_alloc ?_ _)); exact BK141.out) hb)
       have n1_ := Aside0.mk (blk_below (g := gb142) (o := .cells #[.int .i64 a1_0, .string a1_1, .int .u32 a1_2, .bool a1_3, .slice A1_4 l1_4.length c1_4, .int .i64 a1_5] 25 (0, 0)) (by (with_reducible repeat (first | refine blk_drewN ?_ _ | refine blk_drew ?_ | refine blk_alloc ?_ _)); exact BK142.out) hb)
       have n2_ := Aside0.mk (below_step (by repeat (first | (with_reducible first | exact HB.out | apply below_alloc | apply pw_below_drewN | apply below_drew1 | refine below_set ?_ GE141.out | refine below_set ?_ GE142.out) | exact HB.out)) hb)
       clear BK141
       clear BK142
       clear HB
       have BK141 := n0_
       have BK142 := n1_
       have HB := n2_
       clear n0_ n1_ n2_
       (try clear hb)
       (try clear hb2)
       (try clear hk)
       (try clear hi)
       refine hK.out _ _ ⟨(blk_cell BK141.out 0).trans rfl, (blk_cell BK141.out 1).trans rfl, (blk_cell BK141.out 2).trans rfl, (blk_cell BK141.out 3).trans rfl, (blk_cell BK141.out 4).trans rfl, (blk_cell BK141.out 5).trans rfl, (blk_cell BK142.out 0).trans rfl, (blk_cell BK142.out 1).trans rfl, (blk_cell BK142.out 2).trans rfl, (blk_cell BK142.out 3).trans rfl, (blk_cell BK142.out 4).trans rfl, (blk_cell BK142.out 5).trans rfl⟩ (fun hHeld => ?_)
       clear hK K
       refine norm_ (a' := ?_) ?_ ?_
       rotate_left
       · show Act.put _ (some 19) _ = _
         simp only [Act.put, List.setIfInBounds_toArray, List.set_cons_zero, List.set_cons_succ, i64_w, i32_w]
         rfl
       refine pure_ (i := 6) (N := some 20) (v := ?_) (a' := ?_) #[true, true, true, true, true, true, true, false, false, false, false, false, false, false, false, false, false, false, false, false, false, false, false, false, false] rfl rfl (any_of HT_.out (by kernel_rfl)) (fun _ _ _ h => h) (Or.inl ⟨by rfl, ?_⟩) ?_ ?_
       rotate_left
       · intro w'
         go_simp
         with_reducible rfl
       rotate_left
       · simp only [Act.put, List.setIfInBounds_toArray, List.set_cons_zero, List.set_cons_succ, i64_w, i32_w]
         rfl
       refine pure_ (i := 7) (N := some 21) (v := ?_) (a' := ?_) #[true, true, true, true, true, true, true, true, false, false, false, false, false, false, false, false, false, false, false, false, false, false, false, false, false] rfl rfl (any_of HT_.out (by kernel_rfl)) (fun _ _ _ h => h) (Or.inl ⟨by rfl, ?_⟩) ?_ ?_
       rotate_left
       · intro w'
         go_simp
         with_reducible rfl
       rotate_left
       · simp only [Act.put, List.setIfInBounds_toArray, List.set_cons_zero, List.set_cons_succ, i64_w, i32_w]
         rfl
       refine pure_ (i := 8) (N := some 22) (v := undef) (a' := ?_) #[true, true, true, true, true, true, true, true, true, false, false, false, false, false, false, false, false, false, false, false, false, false, false, false, false] rfl rfl (any_of HT_.out (by kernel_rfl)) (fun _ _ _ h => h) (Or.inr ⟨by rfl, rfl⟩) ?_ ?_
       rotate_left
       · simp only [Act.put, List.setIfInBounds_toArray, List.set_cons_zero, List.set_cons_succ, i64_w, i32_w]
         rfl
       refine pure_ (i := 9) (N := some 23) (v := undef) (a' := ?_) #[true, true, true, true, true, true, true, true, true, true, false, false, false, false, false, false, false, false, false, false, false, false, false, false, false] rfl rfl (any_of HT_.out (by kernel_rfl)) (fun _ _ _ h => h) (Or.inr ⟨by rfl, rfl⟩) ?_ ?_
       rotate_left
       · simp only [Act.put, List.setIfInBounds_toArray, List.set_cons_zero, List.set_cons_succ, i64_w, i32_w]
         rfl
       refine pure_ (i := 10) (N := some 24) (v := undef) (a' := ?_) #[true, true, true, true, true, true, true, true, true, true, true, false, false, false, false, false, false, false, false, false, false, false, false, false, false] rfl rfl (any_of HT_.out (by kernel_rfl)) (fun _ _ _ h => h) (Or.inr ⟨by rfl, rfl⟩) ?_ ?_
       rotate_left
       · simp only [Act.put, List.setIfInBounds_toArray, List.set_cons_zero, List.set_cons_succ, i64_w, i32_w]
         rfl
       refine pure_ (i := 11) (N := some 25) (v := undef) (a' := ?_) #[true, true, true, true, true, true, true, true, true, true, true, true, false, false, false, false, false, false, false, false, false, false, false, false, false] rfl rfl (any_of HT_.out (by kernel_rfl)) (fun _ _ _ h => h) (Or.inr ⟨by rfl, rfl⟩) ?_ ?_
       rotate_left
       · simp only [Act.put, List.setIfInBounds_toArray, List.set_cons_zero, List.set_cons_succ, i64_w, i32_w]
         rfl
       refine pure_ (i := 12) (N := some 26) (v := undef) (a' := ?_) #[true, true, true, true, true, true, true, true, true, true, true, true, true, false, false, false, false, false, false, false, false, false, false, false, false] rfl rfl (any_of HT_.out (by kernel_rfl)) (fun _ _ _ h => h) (Or.inr ⟨by rfl, rfl⟩) ?_ ?_
       rotate_left
       · simp only [Act.put, List.setIfInBounds_toArray, List.set_cons_zero, List.set_cons_succ, i64_w, i32_w]
         rfl
       refine pure_ (i := 13) (N := some 27) (v := undef) (a' := ?_) #[true, true, true, true, true, true, true, true, true, true, true, true, true, true, false, false, false, false, false, false, false, false, false, false, false] rfl rfl (any_of HT_.out (by kernel_rfl)) (fun _ _ _ h => h) (Or.inr ⟨by rfl, rfl⟩) ?_ ?_
       rotate_left
       · simp only [Act.put, List.setIfInBounds_toArray, List.set_cons_zero, List.set_cons_succ, i64_w, i32_w]
         rfl
       refine pure_ (i := 14) (N := some 28) (v := undef) (a' := ?_) #[true, true, true, true, true, true, true, true, true, true, true, true, true, true, true, false, false, false, false, false, false, false, false, false, false] rfl rfl (any_of HT_.out (by kernel_rfl)) (fun _ _ _ h => h) (Or.inr ⟨by rfl, rfl⟩) ?_ ?_
       rotate_left
       · simp only [Act.put, List.setIfInBounds_toArray, List.set_cons_zero, List.set_cons_succ, i64_w, i32_w]
         rfl
       refine pure_ (i := 15) (N := some 29) (v := ?_) (a' := ?_) #[true, true, true, true, true, true, true, true, true, true, true, true, true, true, true, true, false, false, false, false, false, false, false, false, false] rfl rfl (any_of HT_.out (by kernel_rfl)) (fun _ _ _ h => h) (Or.inl ⟨by rfl, ?_⟩) ?_ ?_
       rotate_left
       · intro w'
         go_simp
         with_reducible rfl
       rotate_left
       · simp only [Act.put, List.setIfInBounds_toArray, List.set_cons_zero, List.set_cons_succ, i64_w, i32_w]
         rfl
       refine pure_ (i := 16) (N := some 30) (v := ?_) (a' := ?_) #[true, true, true, true, true, true, true, true, true, true, true, true, true, true, true, true, true, false, false, false, false, false, false, false, false] rfl rfl (any_of HT_.out (by kernel_rfl)) (fun _ _ _ h => h) (Or.inl ⟨by rfl, ?_⟩) ?_ ?_
       rotate_left
       · intro w'
         go_simp
         with_reducible rfl
       rotate_left
       · simp only [Act.put, List.setIfInBounds_toArray, List.set_cons_zero, List.set_cons_succ, i64_w, i32_w]
         rfl
       refine pure_ (i := 17) (N := some 31) (v := undef) (a' := ?_) #[true, true, true, true, true, true, true, true, true, true, true, true, true, true, true, true, true, true, false, false, false, false, false, false, false] rfl rfl (any_of HT_.out (by kernel_rfl)) (fun _ _ _ h => h) (Or.inr ⟨by rfl, rfl⟩) ?_ ?_
       rotate_left
       · simp only [Act.put, List.setIfInBounds_toArray, List.set_cons_zero, List.set_cons_succ, i64_w, i32_w]
         rfl
       refine pure_ (i := 18) (N := some 32) (v := undef) (a' := ?_) #[true, true, true, true, true, true, true, true, true, true, true, true, true, true, true, true, true, true, true, false, false, false, false, false, false] rfl rfl (any_of HT_.out (by kernel_rfl)) (fun _ _ _ h => h) (Or.inr ⟨by rfl, rfl⟩) ?_ ?_
       rotate_left
       · simp only [Act.put, List.setIfInBounds_toArray, List.set_cons_zero, List.set_cons_succ, i64_w, i32_w]
         rfl
       refine pure_ (i := 19) (N := some 33) (v := undef) (a' := ?_) #[true, true, true, true, true, true, true, true, true, true, true, true, true, true, true, true, true, true, true, true, false, false, false, false, false] rfl rfl (any_of HT_.out (by kernel_rfl)) (fun _ _ _ h => h) (Or.inr ⟨by rfl, rfl⟩) ?_ ?_
       rotate_left
       · simp only [Act.put, List.setIfInBounds_toArray, List.set_cons_zero, List.set_cons_succ, i64_w, i32_w]
         rfl
       refine pure_ (i := 20) (N := some 34) (v := ?_) (a' := ?_) #[true, true, true, true, true, true, true, true, true, true, true, true, true, true, true, true, true, true, true, true, true, false, false, false, false] rfl rfl (any_of HT_.out (by kernel_rfl)) (fun _ _ _ h => h) (Or.inl ⟨by rfl, ?_⟩) ?_ ?_
       rotate_left
       · intro w'
         go_simp
         with_reducible rfl
       rotate_left
       · simp only [Act.put, List.setIfInBounds_toArray, List.set_cons_zero, List.set_cons_succ, i64_w, i32_w]
         rfl
       refine pure_ (i := 21) (N := some 35) (v := ?_) (a' := ?_) #[true, true, true, true, true, true, true, true, true, true, true, true, true, true, true, true, true, true, true, true, true, true, false, false, false] rfl rfl (any_of HT_.out (by kernel_rfl)) (fun _ _ _ h => h) (Or.inl ⟨by rfl, ?_⟩) ?_ ?_
       rotate_left
       · intro w'
         go_simp
         with_reducible rfl
       rotate_left
       · simp only [Act.put, List.setIfInBounds_toArray, List.set_cons_zero, List.set_cons_succ, i64_w, i32_w]
         rfl
       refine pure_ (i := 22) (N := some 36) (v := undef) (a' := ?_) #[true, true, true, true, true, true, true, true, true, true, true, true, true, true, true, true, true, true, true, true, true, true, true, false, false] rfl rfl (any_of HT_.out (by kernel_rfl)) (fun _ _ _ h => h) (Or.inr ⟨by rfl, rfl⟩) ?_ ?_
       rotate_left
       · simp only [Act.put, List.setIfInBounds_toArray, List.set_cons_zero, List.set_cons_succ, i64_w, i32_w]
         rfl
       refine pure_ (i := 23) (N := some 37) (v := ?_) (a' := ?_) #[true, true, true, true, true, true, true, true, true, true, true, true, true, true, true, true, true, true, true, true, true, true, true, true, false] rfl rfl (any_of HT_.out (by kernel_rfl)) (fun _ _ _ h => h) (Or.inl ⟨by rfl, ?_⟩) ?_ ?_
       rotate_left
       · intro w'
         go_simp
         with_reducible rfl
       rotate_left
       · simp only [Act.put, List.setIfInBounds_toArray, List.set_cons_zero, List.set_cons_succ, i64_w, i32_w]
         rfl
       refine pure_ (i := 24) (N := some 4) (v := ?_) (a' := ?_) #[true, true, true, true, true, true, true, true, true, true, true, true, true, true, true, true, true, true, true, true, true, true, true, true, true] rfl rfl (any_of HT_.out (by kernel_rfl)) (fun _ _ _ h => h) (Or.inl ⟨by rfl, ?_⟩) ?_ ?_
       rotate_left
       · intro w'
         go_simp
         with_reducible rfl
       rotate_left
       · simp only [Act.put, List.setIfInBounds_toArray, List.set_cons_zero, List.set_cons_succ, i64_w, i32_w]
         rfl
       refine done_ (done_of HT_.out (by kernel_rfl)) ?_
       try go_wp2
       go_ret
       exact ⟨by first | rfl | (simp [errW_none, errW_some] <;> rfl) | (simp [*, errW_none, errW_some] <;> rfl), by repeat (first | (with_reducible first | exact HB.out | apply below_alloc | apply pw_below_drewN | apply below_drew1 | refine below_set ?_ GE141.out | refine below_set ?_ GE142.out) | exact HB.out)⟩
end Go.Proofs.YtboojhadfhpdeaaGreatDoor.Q
