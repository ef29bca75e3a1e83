/- A part of the proof, made small by a program: A4, A5. -/
import Derived.Test.YtboojhadfhpdeaaGreatDoorVq5
import Derived.Test.YtboojhadfhpdeaaGreatDoorVq12
set_option linter.unusedVariables false
set_option linter.unusedSimpArgs false
set_option maxHeartbeats 8000000
set_option maxRecDepth 100000
namespace Go.Proofs.YtboojhadfhpdeaaGreatDoor.Q
open Go.RowKit Go.Proofs.YtboojhadfhpdeaaGreatDoorW.PrintWords Go.Proofs.YtboojhadfhpdeaaGreatDoorW.PrintLast Go.Proofs.YtboojhadfhpdeaaGreatDoorW.PrintMore
theorem itself.num (A : Option Addr) (c : Nat) (w : World) (hG : dG w) (hn : ND w uU A c) : Calls Tryz.prog 32 #[.agg #[.int .i64 1,.string ⟨#[]⟩,.int .u32 1,.bool false,.slice A 0 c,.int .i64 0]] w (fB true w):=by
 have HB:=ah.mk (au (Below.refl w.heap.size w) (.cells #[.int .i64 1,.string ⟨#[]⟩,.int .u32 1,.bool false,.slice A 0 c,.int .i64 0] 25 (0,0)));have HG:=ah.mk (hG.below HB.out);have HN:=ah.mk (hn.below HB.out);clear hG hn;go_enter Tryz.func32,Tryz.ntmps32
 go_wp2_with (first
  | (go_at_call 40;((refine (expression.num A c _ HN.out).mono ?_);rintro e w1 ⟨rfl,hB⟩);have HB1:=ah.mk (bQ HB.out HB.out.size hB);have pW:=ah.mk (HN.out.below hB);have BL:=ah.mk (HG.out.below hB);(have gq : NB w1 w.heap.size uU A c:=NB.below (eP w _) hB);obtain ⟨c0,c1,c2,c3,c4,c5⟩:=gq.cells;have lW:=ah.mk gq;dsimp only [uU,List.length_cons,List.length_nil] at c0 c1 c2 c3 c4 c5;clear gq;clear hB)
  | (go_at_call 41;((refine (expressions.num A c _).mono ?_);rintro e w2 ⟨rfl,hB⟩);have HB2:=ah.mk (bQ HB1.out HB1.out.size hB);clear hB)
  | fail)
 go_ret
 exact ⟨rfl,HB2.out⟩
theorem itself.type (A : Option Addr) (c : Nat) (w : World) (hG : dG w) (hn : ND w nType A c) : Calls Tryz.prog 32 #[.agg #[.int .i64 16,.string ⟨#[105,110,116]⟩,.int .u32 0,.bool false,.slice A 0 c,.int .i64 0]] w (fB true w):=by
 have HB:=ah.mk (au (Below.refl w.heap.size w) (.cells #[.int .i64 16,.string ⟨#[105,110,116]⟩,.int .u32 0,.bool false,.slice A 0 c,.int .i64 0] 25 (0,0)));have HG:=ah.mk (hG.below HB.out);have HN:=ah.mk (hn.below HB.out);clear hG hn;go_enter Tryz.func32,Tryz.ntmps32
 go_wp2_with (first
  | (go_at_call 40;((refine (expression.type A c _ HN.out).mono ?_);rintro e w1 ⟨rfl,hB⟩);have HB1:=ah.mk (bQ HB.out HB.out.size hB);have pW:=ah.mk (HN.out.below hB);have BL:=ah.mk (HG.out.below hB);(have gq : NB w1 w.heap.size nType A c:=NB.below (eP w _) hB);obtain ⟨c0,c1,c2,c3,c4,c5⟩:=gq.cells;have lW:=ah.mk gq;dsimp only [nType,List.length_cons,List.length_nil] at c0 c1 c2 c3 c4 c5;clear gq;clear hB)
  | (go_at_call 41;((refine (expressions.type A c _ BL.out).mono ?_);rintro e w2 ⟨rfl,hB⟩);have HB2:=ah.mk (bQ HB1.out HB1.out.size hB);clear hB)
  | fail)
 go_ret
 exact ⟨rfl,HB2.out⟩
theorem itself.var (A : Option Addr) (c : Nat) (w : World) (hG : dG w) (hn : ND w nZ A c) : Calls Tryz.prog 32 #[.agg #[.int .i64 43,.string ⟨#[120]⟩,.int .u32 0,.bool false,.slice A 1 c,.int .i64 0]] w (fB true w):=by
 have HB:=ah.mk (au (Below.refl w.heap.size w) (.cells #[.int .i64 43,.string ⟨#[120]⟩,.int .u32 0,.bool false,.slice A 1 c,.int .i64 0] 25 (0,0)));have HG:=ah.mk (hG.below HB.out);have HN:=ah.mk (hn.below HB.out);clear hG hn;go_enter Tryz.func32,Tryz.ntmps32
 go_wp2_with (first
  | (go_at_call 40;((refine (expression.var A c _ HN.out).mono ?_);rintro e w1 ⟨rfl,hB⟩);have HB1:=ah.mk (bQ HB.out HB.out.size hB);have pW:=ah.mk (HN.out.below hB);have BL:=ah.mk (HG.out.below hB);(have gq : NB w1 w.heap.size nZ A c:=NB.below (eP w _) hB);obtain ⟨c0,c1,c2,c3,c4,c5⟩:=gq.cells;have lW:=ah.mk gq;dsimp only [nZ,List.length_cons,List.length_nil] at c0 c1 c2 c3 c4 c5;clear gq;clear hB)
  | (go_at_call 42;((refine (statement.var A c _ pW.out).mono ?_);rintro e w2 ⟨rfl,hB⟩);have HB2:=ah.mk (bQ HB1.out HB1.out.size hB);have HN2:=ah.mk (pW.out.below hB);have HG2:=ah.mk (BL.out.below hB);(have lu : NB w2 w.heap.size nZ A c:=NB.below lW.out hB);obtain ⟨c0,c1,c2,c3,c4,c5⟩:=lu.cells;have yg:=ah.mk lu;dsimp only [nZ,List.length_cons,List.length_nil] at c0 c1 c2 c3 c4 c5;clear lu;clear hB)
  | (go_at_call 44;((refine (declarations.var A c _ HG2.out HN2.out).mono ?_);rintro e w3 ⟨rfl,hB⟩);have HB3:=ah.mk (bQ HB2.out HB2.out.size hB);clear hB)
  | fail)
 go_ret
 exact ⟨rfl,HB3.out⟩
theorem itself.vars (A : Option Addr) (c : Nat) (w : World) (hG : dG w) (hn : ND w l7 A c) : Calls Tryz.prog 32 #[.agg #[.int .i64 42,.string ⟨#[]⟩,.int .u32 0,.bool false,.slice A 2 c,.int .i64 0]] w (fB true w):=by
 have HB:=ah.mk (au (Below.refl w.heap.size w) (.cells #[.int .i64 42,.string ⟨#[]⟩,.int .u32 0,.bool false,.slice A 2 c,.int .i64 0] 25 (0,0)));have HG:=ah.mk (hG.below HB.out);have HN:=ah.mk (hn.below HB.out);clear hG hn;go_enter Tryz.func32,Tryz.ntmps32
 go_wp2_with (first
  | (go_at_call 40;((refine (expression.vars A c _ HN.out).mono ?_);rintro e w1 ⟨rfl,hB⟩);have HB1:=ah.mk (bQ HB.out HB.out.size hB);have pW:=ah.mk (HN.out.below hB);have BL:=ah.mk (HG.out.below hB);(have gq : NB w1 w.heap.size l7 A c:=NB.below (eP w _) hB);obtain ⟨c0,c1,c2,c3,c4,c5⟩:=gq.cells;have lW:=ah.mk gq;dsimp only [l7,List.length_cons,List.length_nil] at c0 c1 c2 c3 c4 c5;clear gq;clear hB)
  | (go_at_call 42;((refine (statement.vars A c _ pW.out).mono ?_);rintro e w2 ⟨rfl,hB⟩);have HB2:=ah.mk (bQ HB1.out HB1.out.size hB);have HN2:=ah.mk (pW.out.below hB);have HG2:=ah.mk (BL.out.below hB);(have lu : NB w2 w.heap.size l7 A c:=NB.below lW.out hB);obtain ⟨c0,c1,c2,c3,c4,c5⟩:=lu.cells;have yg:=ah.mk lu;dsimp only [l7,List.length_cons,List.length_nil] at c0 c1 c2 c3 c4 c5;clear lu;clear hB)
  | (go_at_call 44;((refine (declarations.vars A c _ HG2.out HN2.out).mono ?_);rintro e w3 ⟨rfl,hB⟩);have HB3:=ah.mk (bQ HB2.out HB2.out.size hB);clear hB)
  | fail)
 go_ret
 exact ⟨rfl,HB3.out⟩
theorem itself.prog (A : Option Addr) (c : Nat) (w : World) (hG : dG w) (hn : ND w lM A c) : Calls Tryz.prog 32 #[.agg #[.int .i64 40,.string ⟨#[]⟩,.int .u32 0,.bool false,.slice A 1 c,.int .i64 0]] w (fB true w):=by
 have HB:=ah.mk (au (Below.refl w.heap.size w) (.cells #[.int .i64 40,.string ⟨#[]⟩,.int .u32 0,.bool false,.slice A 1 c,.int .i64 0] 25 (0,0)));have HG:=ah.mk (hG.below HB.out);have HN:=ah.mk (hn.below HB.out);clear hG hn;go_enter Tryz.func32,Tryz.ntmps32
 go_wp2_with (first
  | (go_at_call 40;((refine (expression.prog A c _ HN.out).mono ?_);rintro e w1 ⟨rfl,hB⟩);have HB1:=ah.mk (bQ HB.out HB.out.size hB);have pW:=ah.mk (HN.out.below hB);have BL:=ah.mk (HG.out.below hB);(have gq : NB w1 w.heap.size lM A c:=NB.below (eP w _) hB);obtain ⟨c0,c1,c2,c3,c4,c5⟩:=gq.cells;have lW:=ah.mk gq;dsimp only [lM,List.length_cons,List.length_nil] at c0 c1 c2 c3 c4 c5;clear gq;clear hB)
  | (go_at_call 42;((refine (statement.prog A c _ pW.out).mono ?_);rintro e w2 ⟨rfl,hB⟩);have HB2:=ah.mk (bQ HB1.out HB1.out.size hB);have HN2:=ah.mk (pW.out.below hB);have HG2:=ah.mk (BL.out.below hB);(have lu : NB w2 w.heap.size lM A c:=NB.below lW.out hB);obtain ⟨c0,c1,c2,c3,c4,c5⟩:=lu.cells;have yg:=ah.mk lu;dsimp only [lM,List.length_cons,List.length_nil] at c0 c1 c2 c3 c4 c5;clear lu;clear hB)
  | (go_at_call 44;((refine (declarations.prog A c _ HG2.out HN2.out).mono ?_);rintro e w3 ⟨rfl,hB⟩);have HB3:=ah.mk (bQ HB2.out HB2.out.size hB);clear hB)
  | fail)
 go_ret
 exact ⟨rfl,HB3.out⟩
theorem may.num (A : Option Addr) (c : Nat) (w : World) (hG : dG w) (hn : ND w uU A c) : Calls Tryz.prog 20 #[.agg #[.int .i64 1,.string ⟨#[]⟩,.int .u32 1,.bool false,.slice A 0 c,.int .i64 0]] w (fB true w):=by
 have HB:=ah.mk (au (Below.refl w.heap.size w) (.cells #[.int .i64 1,.string ⟨#[]⟩,.int .u32 1,.bool false,.slice A 0 c,.int .i64 0] 25 (0,0)));have HG:=ah.mk (hG.below HB.out);have HN:=ah.mk (hn.below HB.out);clear hG hn;have HE:=ah.mk (show Enters Tryz.prog 20 from enters_of Tryz.func20 (by kernel_rfl) rfl);go_enter Tryz.func20,Tryz.ntmps20
 go_wp2_with (first
  | (go_at_call 32;((refine (itself.num A c _ HG.out HN.out).mono ?_);rintro e w1 ⟨rfl,hB⟩);have HB1:=ah.mk (bQ HB.out HB.out.size hB);have pW:=ah.mk (HN.out.below hB);have BL:=ah.mk (HG.out.below hB);(have gq : NB w1 w.heap.size uU A c:=NB.below (eP w _) hB);obtain ⟨c0,c1,c2,c3,c4,c5⟩:=gq.cells;have lW:=ah.mk gq;dsimp only [uU,List.length_cons,List.length_nil] at c0 c1 c2 c3 c4 c5;clear gq;clear hB)
  | (go_at_call 33;((refine (every.none A c _ pW.out.C 20 #[] HE.out).mono ?_);rintro e w2 ⟨rfl,hB⟩);have HB2:=ah.mk (bQ HB1.out HB1.out.size hB);clear hB)
  | fail)
 go_ret
 exact ⟨rfl,HB2.out⟩
theorem wM.num (w : World) (hG : dG w) : Asks 20 #[] (fun _ => true) [uU] w :=
 AY (fun W A c hW hn => may.num A c W (hG.below hW) hn)
theorem may.type (A : Option Addr) (c : Nat) (w : World) (hG : dG w) (hn : ND w nType A c) : Calls Tryz.prog 20 #[.agg #[.int .i64 16,.string ⟨#[105,110,116]⟩,.int .u32 0,.bool false,.slice A 0 c,.int .i64 0]] w (fB true w):=by
 have HB:=ah.mk (au (Below.refl w.heap.size w) (.cells #[.int .i64 16,.string ⟨#[105,110,116]⟩,.int .u32 0,.bool false,.slice A 0 c,.int .i64 0] 25 (0,0)));have HG:=ah.mk (hG.below HB.out);have HN:=ah.mk (hn.below HB.out);clear hG hn;have HE:=ah.mk (show Enters Tryz.prog 20 from enters_of Tryz.func20 (by kernel_rfl) rfl);go_enter Tryz.func20,Tryz.ntmps20
 go_wp2_with (first
  | (go_at_call 32;((refine (itself.type A c _ HG.out HN.out).mono ?_);rintro e w1 ⟨rfl,hB⟩);have HB1:=ah.mk (bQ HB.out HB.out.size hB);have pW:=ah.mk (HN.out.below hB);have BL:=ah.mk (HG.out.below hB);(have gq : NB w1 w.heap.size nType A c:=NB.below (eP w _) hB);obtain ⟨c0,c1,c2,c3,c4,c5⟩:=gq.cells;have lW:=ah.mk gq;dsimp only [nType,List.length_cons,List.length_nil] at c0 c1 c2 c3 c4 c5;clear gq;clear hB)
  | (go_at_call 33;((refine (every.none A c _ pW.out.C 20 #[] HE.out).mono ?_);rintro e w2 ⟨rfl,hB⟩);have HB2:=ah.mk (bQ HB1.out HB1.out.size hB);clear hB)
  | fail)
 go_ret
 exact ⟨rfl,HB2.out⟩
theorem may.var (A : Option Addr) (c : Nat) (w : World) (hG : dG w) (hn : ND w nZ A c) : Calls Tryz.prog 20 #[.agg #[.int .i64 43,.string ⟨#[120]⟩,.int .u32 0,.bool false,.slice A 1 c,.int .i64 0]] w (fB true w):=by
 have HB:=ah.mk (au (Below.refl w.heap.size w) (.cells #[.int .i64 43,.string ⟨#[120]⟩,.int .u32 0,.bool false,.slice A 1 c,.int .i64 0] 25 (0,0)));have HG:=ah.mk (hG.below HB.out);have HN:=ah.mk (hn.below HB.out);clear hG hn;have HE:=ah.mk (show Enters Tryz.prog 20 from enters_of Tryz.func20 (by kernel_rfl) rfl);go_enter Tryz.func20,Tryz.ntmps20
 go_wp2_with (first
  | (go_at_call 32;((refine (itself.var A c _ HG.out HN.out).mono ?_);rintro e w1 ⟨rfl,hB⟩);have HB1:=ah.mk (bQ HB.out HB.out.size hB);have pW:=ah.mk (HN.out.below hB);have BL:=ah.mk (HG.out.below hB);(have gq : NB w1 w.heap.size nZ A c:=NB.below (eP w _) hB);obtain ⟨c0,c1,c2,c3,c4,c5⟩:=gq.cells;have lW:=ah.mk gq;dsimp only [nZ,List.length_cons,List.length_nil] at c0 c1 c2 c3 c4 c5;clear gq;clear hB)
  | (go_at_call 33;((refine (every.one uU A c _ pW.out.C 20 #[] HE.out (wM.num _ BL.out)).mono ?_);rintro e w2 ⟨rfl,hB⟩);have HB2:=ah.mk (bQ HB1.out HB1.out.size hB);clear hB)
  | fail)
 go_ret
 exact ⟨rfl,HB2.out⟩
theorem wM.two (w : World) (hG : dG w) : Asks 20 #[] (fun _ => true) [nType,nZ] w:=fun x hx W A c hW hn => by
 rw [Array.append_empty];rcases List.mem_cons.1 hx with rfl|hx
 · exact may.type A c W (hG.below hW) hn
 · obtain rfl:=List.mem_singleton.1 hx;exact may.var A c W (hG.below hW) hn
theorem may.vars (A : Option Addr) (c : Nat) (w : World) (hG : dG w) (hn : ND w l7 A c) : Calls Tryz.prog 20 #[.agg #[.int .i64 42,.string ⟨#[]⟩,.int .u32 0,.bool false,.slice A 2 c,.int .i64 0]] w (fB true w):=by
 have HB:=ah.mk (au (Below.refl w.heap.size w) (.cells #[.int .i64 42,.string ⟨#[]⟩,.int .u32 0,.bool false,.slice A 2 c,.int .i64 0] 25 (0,0)));have HG:=ah.mk (hG.below HB.out);have HN:=ah.mk (hn.below HB.out);clear hG hn;have HE:=ah.mk (show Enters Tryz.prog 20 from enters_of Tryz.func20 (by kernel_rfl) rfl);go_enter Tryz.func20,Tryz.ntmps20
 go_wp2_with (first
  | (go_at_call 32;((refine (itself.vars A c _ HG.out HN.out).mono ?_);rintro e w1 ⟨rfl,hB⟩);have HB1:=ah.mk (bQ HB.out HB.out.size hB);have pW:=ah.mk (HN.out.below hB);have BL:=ah.mk (HG.out.below hB);(have gq : NB w1 w.heap.size l7 A c:=NB.below (eP w _) hB);obtain ⟨c0,c1,c2,c3,c4,c5⟩:=gq.cells;have lW:=ah.mk gq;dsimp only [l7,List.length_cons,List.length_nil] at c0 c1 c2 c3 c4 c5;clear gq;clear hB)
  | (go_at_call 33;((refine (every.two nType nZ A c _ pW.out.C 20 #[] HE.out (wM.two _ BL.out)).mono ?_);rintro e w2 ⟨rfl,hB⟩);have HB2:=ah.mk (bQ HB1.out HB1.out.size hB);clear hB)
  | fail)
 go_ret
 exact ⟨rfl,HB2.out⟩
theorem wM.vars (w : World) (hG : dG w) : Asks 20 #[] (fun _ => true) [l7] w :=
 AY (fun W A c hW hn => may.vars A c W (hG.below hW) hn)
theorem may.prog (A : Option Addr) (c : Nat) (w : World) (hG : dG w) (hn : ND w lM A c) : Calls Tryz.prog 20 #[.agg #[.int .i64 40,.string ⟨#[]⟩,.int .u32 0,.bool false,.slice A 1 c,.int .i64 0]] w (fB true w):=by
 have HB:=ah.mk (au (Below.refl w.heap.size w) (.cells #[.int .i64 40,.string ⟨#[]⟩,.int .u32 0,.bool false,.slice A 1 c,.int .i64 0] 25 (0,0)));have HG:=ah.mk (hG.below HB.out);have HN:=ah.mk (hn.below HB.out);clear hG hn;have HE:=ah.mk (show Enters Tryz.prog 20 from enters_of Tryz.func20 (by kernel_rfl) rfl);go_enter Tryz.func20,Tryz.ntmps20
 go_wp2_with (first
  | (go_at_call 32;((refine (itself.prog A c _ HG.out HN.out).mono ?_);rintro e w1 ⟨rfl,hB⟩);have HB1:=ah.mk (bQ HB.out HB.out.size hB);have pW:=ah.mk (HN.out.below hB);have BL:=ah.mk (HG.out.below hB);(have gq : NB w1 w.heap.size lM A c:=NB.below (eP w _) hB);obtain ⟨c0,c1,c2,c3,c4,c5⟩:=gq.cells;have lW:=ah.mk gq;dsimp only [lM,List.length_cons,List.length_nil] at c0 c1 c2 c3 c4 c5;clear gq;clear hB)
  | (go_at_call 33;((refine (every.one l7 A c _ pW.out.C 20 #[] HE.out (wM.vars _ BL.out)).mono ?_);rintro e w2 ⟨rfl,hB⟩);have HB2:=ah.mk (bQ HB1.out HB1.out.size hB);clear hB)
  | fail)
 go_ret
 exact ⟨rfl,HB2.out⟩
structure PB (b p : Nat) (l : List Int) (w : World) : Prop where
 hp : b ≤ p
 hb : b ≤ w.heap.size
 ex : ∃ v,w.heap[p]? = some (.cells #[v] 42 (0,0)) ∧ w.ownsRow b 5 1 v l.length (nums .u8 l)
structure Fr (p : Nat) (w w' : World) : Prop where
 size : w.heap.size ≤ w'.heap.size
 keep : ∀ (k : Nat) (t : TypeId) (cs : Array Value),w.heap[k]? = some (.cells cs t (0,0)) → k ≠ p → t ≠ 5 → w'.heap[k]? = some (.cells cs t (0,0))
theorem Fr.refl (p : Nat) (w : World) : Fr p w w:=⟨Nat.le_refl _,fun _ _ _ h _ _ => h⟩
theorem Fr.trans {p : Nat} {a b c : World} (h : Fr p a b) (k : Fr p b c) : Fr p a c:=⟨Nat.le_trans h.size k.size,fun i t cs hi hp ht => k.keep i t cs (h.keep i t cs hi hp ht) hp ht⟩
theorem Fr.of_below {p : Nat} {w w' : World} (h : Below w.heap.size w w') : Fr p w w' := ⟨h.size,fun k t cs hk _ _ => bI hk h⟩
def PrP (b p : Nat) (w0 : World) (l : List Int) (r : Value) (w : World) (e : Ending) (w' : World) : Prop:=e = .returned r ∧ PB b p l w' ∧ Below b w0 w' ∧ Fr p w w'
theorem qy {w : World} {b n : Nat} {v : Value} {xs : List Value} (h : w.ownsRow b 5 1 v n xs) {k : Nat} (hk : v.ownBlock = some k) : b ≤ k ∧ ∃ cur,w.heap[k]? = some (.cells cur 5 (0,0)):=by
 obtain ⟨_,h2⟩:=h;rcases h2 with ⟨rfl,_⟩ | ⟨g,cap,cur,rfl,hbg,hg,_⟩
 · cases hk
 · cases hk;exact ⟨hbg,cur,hg⟩
theorem Af {w : World} {b n : Nat} {v : Value} {xs : List Value} (h : w.ownsRow b 5 1 v n xs) : ∃ A m c,v = .slice A m c:=by
 obtain ⟨_,h2⟩:=h;rcases h2 with ⟨rfl,rfl⟩ | ⟨g,cap,cur,rfl,_⟩
 · exact ⟨none,0,0,rfl⟩
 · exact ⟨_,_,_,rfl⟩
theorem PB.below {b p : Nat} {l : List Int} {w w' : World} (h : PB b p l w) (hB : Below w.heap.size w w') : PB b p l w' := by
 obtain ⟨v,h1,h2⟩:=h.ex;refine ⟨h.hp,Nat.le_trans h.hb hB.size,v,bI h1 hB,uK h2 (fun k hk => ?_)⟩;obtain ⟨_,cur,hc⟩:=qy h2 hk;exact hB.block k (jl hc)
theorem PB.put {b p : Nat} {l l' : List Int} {w0 W w1 : World} {v v1 : Value} (hp : b ≤ p) (hb : b ≤ W.heap.size) (h1 : W.heap[p]? = some (.cells #[v] 42 (0,0))) (h2 : W.ownsRow b 5 1 v l.length (nums .u8 l)) (ho : w1.ownsRow b 5 1 v1 l'.length (nums .u8 l')) (hB : Below b w0 w1) (hg : W.grownBy w1 v.ownBlock) :
 w1.heap[p]? = some (.cells #[v] 42 (0,0)) ∧ PB b p l' (w1.setCell ⟨p,0,none⟩ v1) ∧ Below b w0 (w1.setCell ⟨p,0,none⟩ v1) ∧ Fr p W (w1.setCell ⟨p,0,none⟩ v1):=by
 have hsz : (w1.setCell ⟨p,0,none⟩ v1).heap.size = w1.heap.size:=by simp [World.setCell]
 have hne : ∀ k t cs,W.heap[k]? = some (.cells cs t (0,0)) → t ≠ 5 → some k ≠ v.ownBlock:=fun k t cs hk ht he => by
  obtain ⟨_,cur,hc⟩:=qy h2 he.symm;rw [hk] at hc;injection hc with hc
  injection hc with _ ht'
  exact ht ht'
 have hp1:=rW h1 hg (hne p 42 _ h1 (by decide));refine ⟨hp1,⟨hp,by rw [hsz];exact Nat.le_trans hb hg.size,v1,qx hp1 0 v1,uK ho (fun k hk => ?_)⟩,hB.setCell hp v1,⟨by rw [hsz];exact hg.size,fun k t cs hk hkp ht => ?_⟩⟩
 · obtain ⟨_,cur,hc⟩:=qy ho hk;exact Below.heap_setCell w1 _ v1 k (fun e => blk_ne hc hp1 (by decide) e)
 · exact (Below.heap_setCell w1 _ v1 k hkp).trans (rW hk hg (hne k t cs hk ht))
theorem put.calls (b p q : Nat) (ss : List ByteArray) (l : List Int) (c : Nat) (w0 w : World) (hW : Below b w0 w) (hP : PB b p l w) (hqp : q ≠ p) (hS : w.heap[q]? = some (.cells (ss.map Value.string).toArray 9 (0,0))) (hl : l.length + (ss.flatMap bytesOf).length ≤ 140737488355328) (hn : ss.length ≤ 1000) :
 Calls Tryz.prog 54 #[.pointer (some ⟨p,0,none⟩),.slice (some ⟨q,0,none⟩) ss.length c] w (PrP b p w0 (l ++ ss.flatMap bytesOf) (.tuple #[]) w):=by
 have HW:=ah.mk hW;have HP0:=ah.mk hP;have HS0:=ah.mk hS;have HL:=ah.mk hl;have HQ:=ah.mk hqp;have HN:=ah.mk hn;clear hW hP hS hl hqp hn;go_enter Tryz.func54,Tryz.ntmps54
 go_wp2
 go_loopg [8] ss.length (fun kq v w' => ∃ i : Nat,v = .int .i64 i ∧ ah (i + kq = ss.length) ∧ ah (PB b p (l ++ (ss.take i).flatMap bytesOf) w') ∧ ah (Below b w0 w') ∧ ah (Fr p w w'))
 case atStart => exact ⟨0,rfl,⟨by omega⟩,⟨by simpa using HP0.out⟩,HW,⟨Fr.refl _ _⟩⟩
 case round =>
  obtain ⟨i,rfl,HI,HP,HB,HF⟩:=hrel;by_cases hi : i < ss.length
  · have EP : decide (i < ss.length) = true:=decide_eq_true hi;have e1 : decide ((i : Int) < (ss.length : Int)) = true:=decide_eq_true (by omega);have p1 : (0 : Int) ≤ (i : Int):=by omega
    have q1 : (i : Int) < (ss.length : Int):=by omega
    have qg:=ah.mk hi;have w3 : wrap64 ((i : Int) + 1) = (i : Int) + 1:=by have:=HN.out;unfold wrap64;omega
    have w4 : IntKind.i64.wrap ((i : Int) + 1) = (i : Int) + 1:=(bW _).trans w3;have hq:=HF.out.keep q 9 _ HS0.out HQ.out (by decide);obtain ⟨y,hy⟩ : ∃ y,ss[i]? = some y:=⟨_,List.getElem?_eq_getElem hi⟩
    have HTK:=ah.mk (show ss.take (i + 1) = ss.take i ++ [y] from by
     rw [List.take_succ_eq_append_getElem hi];rw [List.getElem?_eq_getElem hi] at hy;rw [Option.some.inj hy])
    have HLE:=ah.mk (show (l ++ (ss.take i).flatMap bytesOf).length + y.size ≤ 140737488355328 from by
     have h1:=HL.out;have h2 : ss.flatMap bytesOf = (ss.take (i + 1)).flatMap bytesOf ++ (ss.drop (i + 1)).flatMap bytesOf:=by rw [← List.flatMap_append,List.take_append_drop]
     rw [h2,HTK.out,List.flatMap_append] at h1;simp only [List.length_append,List.flatMap_cons,List.flatMap_nil,List.append_nil,bytesOf_length] at h1 ⊢;omega)
    have cs:=(ak hq i).trans (show ((ss.map Value.string).toArray)[i]? = some (Value.string y) by simp [hy]);obtain ⟨v,hp,hown⟩:=HP.out.ex;have cp:=(ak hp 0).trans (show #[v][0]? = some v from rfl);have HPP:=ah.mk hp;have HOWN:=ah.mk hown;clear hi hq hp hown hy;go_wp2_with (first
     | (at_builtin;refine Ag b rfl _ _ 40 9 5 rfl rfl rfl (by kernel_rfl) v (l ++ (ss.take i).flatMap bytesOf) y rfl rfl HOWN.out HB.out HP.out.hb HLE.out ?_;intro v1 w1 ho hb hg;obtain ⟨A1,m1,c1,rfl⟩:=Af ho;obtain ⟨hp1,hPB,hBB,hFF⟩:=PB.put (l' := (l ++ (ss.take i).flatMap bytesOf) ++ bytesOf y) HP.out.hp HP.out.hb HPP.out HOWN.out ho hb hg;have cp1:=(ak hp1 0).trans (show #[v][0]? = some v from rfl);have fz1:=ay hp1 0;have HP1:=ah.mk hPB;have HB1:=ah.mk hBB;have HF1:=ah.mk (HF.out.trans hFF);clear hp1 hPB hBB hFF ho hb hg)
     | fail)
    go_roundg (ss.length - (i + 1))
    case measure => have:=HI.out;have:=qg.out;omega
    case rel => exact ⟨i + 1,by (try simp only [w4,w3]);rfl,⟨by have:=HI.out;have:=qg.out;omega⟩,⟨by rw [HTK.out,List.flatMap_append];simpa using HP1.out⟩,HB1,HF1⟩
  · have EP : decide (i < ss.length) = false:=decide_eq_false hi;have e1 : decide ((i : Int) < (ss.length : Int)) = false:=decide_eq_false (by omega);have HX:=ah.mk (show ss.take i = ss from by
     rw [show i = ss.length from by have:=HI.out;omega,List.take_length])
    clear hi HI;go_wp2
    go_end0
    exact ⟨rfl,by rw [← HX.out];simpa using HP.out,HB.out,HF.out⟩
end Go.Proofs.YtboojhadfhpdeaaGreatDoor.Q
