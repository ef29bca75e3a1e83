/- A part of the proof, made small by a program: A2, A3, A4, A5. -/
import Derived.Deep.RegionWith
import Derived.Test.YtboojhadfhpdeaaGreatDoorVc4
import Derived.Test.YtboojhadfhpdeaaGreatDoorVc5
namespace Go.Proofs.YtboojhadfhpdeaaGreatDoor.Q
open Go.RowKit Go.Proofs.YtboojhadfhpdeaaGreatDoorW.PrintWords Go.Proofs.YtboojhadfhpdeaaGreatDoorW.PrintLast Go.Proofs.YtboojhadfhpdeaaGreatDoorW.PrintMore
set_option linter.unusedVariables false
set_option linter.unusedSimpArgs false
abbrev nNum : S25:=⟨1,⟨#[]⟩,1,false,[],0⟩
abbrev nVar : S25:=⟨43,⟨#[120]⟩,0,false,[nNum],0⟩
abbrev nType : S25:=⟨16,⟨#[105,110,116]⟩,0,false,[],0⟩
abbrev nVars : S25:=⟨42,⟨#[]⟩,0,false,[nType,nVar],0⟩
abbrev nProg : S25:=⟨40,⟨#[]⟩,0,false,[nVars],0⟩
theorem expression.of (n : S25) (r : Bool) (h : ast_expression.f n.f0 n.f1 n.f2 n.f3 n.f4 n.f5 = some r) (A : Option Addr) (c : Nat) (w : World) (hn : ND w n A c) : Calls Tryz.prog 40 #[val n A c] w (AllP r w):=ast_expression.calls _ _ _ _ A c _ _ r w hn.C hn.le h
theorem statement.of (n : S25) (r : Bool) (h : ast_statement.f n.f0 n.f1 n.f2 n.f3 n.f4 n.f5 = some r) (A : Option Addr) (c : Nat) (w : World) (hn : ND w n A c) : Calls Tryz.prog 42 #[val n A c] w (AllP r w):=ast_statement.calls _ _ _ _ A c _ _ r w hn.C hn.le h
theorem variable.of (n : S25) (r : Bool) (h : ast_variable.f n.f0 n.f1 n.f2 n.f3 n.f4 n.f5 = some r) (A : Option Addr) (c : Nat) (w : World) (hn : ND w n A c) : Calls Tryz.prog 78 #[val n A c] w (AllP r w):=ast_variable.calls _ _ _ _ A c _ _ r w hn.C hn.le h
theorem ND.alloc {w : World} {x : S25} {A : Option Addr} {c : Nat} (h : ND w x A c) (o : Obj) : ND (w.alloc o) x A c:=h.below (below_alloc (Below.refl _ _) o)
theorem AllP.mk {b : Bool} {w w' : World} {e : Ending} (h : e = .returned (.bool b)) (hb : Below w.heap.size w w') : AllP b w e w' := ⟨h,hb⟩
theorem expression.num (A : Option Addr) (c : Nat) (w : World) (hn : ND w nNum A c) : Calls Tryz.prog 40 #[.agg #[.int .i64 1,.string ⟨#[]⟩,.int .u32 1,.bool false,.slice A 0 c,.int .i64 0]] w (AllP true w):=expression.of nNum true (by kernel_rfl) A c w hn
theorem expression.var (A : Option Addr) (c : Nat) (w : World) (hn : ND w nVar A c) : Calls Tryz.prog 40 #[.agg #[.int .i64 43,.string ⟨#[120]⟩,.int .u32 0,.bool false,.slice A 1 c,.int .i64 0]] w (AllP false w):=expression.of nVar false (by kernel_rfl) A c w hn
theorem expression.type (A : Option Addr) (c : Nat) (w : World) (hn : ND w nType A c) : Calls Tryz.prog 40 #[.agg #[.int .i64 16,.string ⟨#[105,110,116]⟩,.int .u32 0,.bool false,.slice A 0 c,.int .i64 0]] w (AllP false w):=expression.of nType false (by kernel_rfl) A c w hn
theorem expression.vars (A : Option Addr) (c : Nat) (w : World) (hn : ND w nVars A c) : Calls Tryz.prog 40 #[.agg #[.int .i64 42,.string ⟨#[]⟩,.int .u32 0,.bool false,.slice A 2 c,.int .i64 0]] w (AllP false w):=expression.of nVars false (by kernel_rfl) A c w hn
theorem expression.prog (A : Option Addr) (c : Nat) (w : World) (hn : ND w nProg A c) : Calls Tryz.prog 40 #[.agg #[.int .i64 40,.string ⟨#[]⟩,.int .u32 0,.bool false,.slice A 1 c,.int .i64 0]] w (AllP false w):=expression.of nProg false (by kernel_rfl) A c w hn
theorem statement.var (A : Option Addr) (c : Nat) (w : World) (hn : ND w nVar A c) : Calls Tryz.prog 42 #[.agg #[.int .i64 43,.string ⟨#[120]⟩,.int .u32 0,.bool false,.slice A 1 c,.int .i64 0]] w (AllP false w):=statement.of nVar false (by kernel_rfl) A c w hn
theorem statement.vars (A : Option Addr) (c : Nat) (w : World) (hn : ND w nVars A c) : Calls Tryz.prog 42 #[.agg #[.int .i64 42,.string ⟨#[]⟩,.int .u32 0,.bool false,.slice A 2 c,.int .i64 0]] w (AllP false w):=statement.of nVars false (by kernel_rfl) A c w hn
theorem statement.prog (A : Option Addr) (c : Nat) (w : World) (hn : ND w nProg A c) : Calls Tryz.prog 42 #[.agg #[.int .i64 40,.string ⟨#[]⟩,.int .u32 0,.bool false,.slice A 1 c,.int .i64 0]] w (AllP false w):=statement.of nProg false (by kernel_rfl) A c w hn
theorem variable.var (A : Option Addr) (c : Nat) (w : World) (hn : ND w nVar A c) : Calls Tryz.prog 78 #[.agg #[.int .i64 43,.string ⟨#[120]⟩,.int .u32 0,.bool false,.slice A 1 c,.int .i64 0]] w (AllP true w):=variable.of nVar true (by kernel_rfl) A c w hn
set_option maxHeartbeats 8000000 in
set_option maxRecDepth 100000 in
theorem expressions.num (A : Option Addr) (c : Nat) (w : World) : Calls Tryz.prog 41 #[.agg #[.int .i64 1,.string ⟨#[]⟩,.int .u32 1,.bool false,.slice A 0 c,.int .i64 0]] w (AllP true w):=by
 go_enter Tryz.func41,Tryz.ntmps41
 go_wp2
 go_ret
 exact ⟨rfl,below_alloc (Below.refl _ _) _⟩
set_option maxHeartbeats 8000000 in
set_option maxRecDepth 100000 in
theorem expressions.type (A : Option Addr) (c : Nat) (w : World) (hG : PremW w) : Calls Tryz.prog 41 #[.agg #[.int .i64 16,.string ⟨#[105,110,116]⟩,.int .u32 0,.bool false,.slice A 0 c,.int .i64 0]] w (AllP true w):=by
 have HB:=Aside0.mk (below_alloc (Below.refl w.heap.size w) (.cells #[.int .i64 16,.string ⟨#[105,110,116]⟩,.int .u32 0,.bool false,.slice A 0 c,.int .i64 0] 25 (0,0)));have HG:=Aside0.mk (hG.below HB.out);clear hG;go_enter Tryz.func41,Tryz.ntmps41
 go_wp2_with (first
  | (go_at_call 72;((refine (ast_typed.calls 100 _ true _ HG.out (by kernel_rfl)).mono ?_);rintro e w1 ⟨rfl,hB⟩);have HB1:=Aside0.mk (below_then HB.out HB.out.size hB);(have HX_w1 : NB w1 w.heap.size nType A c:=NB.below (blk_new w _) hB);obtain ⟨c0,c1,c2,c3,c4,c5⟩:=HX_w1.cells;have HXA_w1:=Aside0.mk HX_w1;dsimp only [nType,List.length_cons,List.length_nil] at c0 c1 c2 c3 c4 c5;clear HX_w1;clear hB)
  | fail)
 go_ret
 exact ⟨rfl,HB1.out⟩
set_option maxHeartbeats 8000000 in
set_option maxRecDepth 100000 in
theorem declaration1.vars (A : Option Addr) (c : Nat) (w : World) : Calls Tryz.prog 76 #[.agg #[.int .i64 42,.string ⟨#[]⟩,.int .u32 0,.bool false,.slice A 2 c,.int .i64 0]] w (AllP true w):=by
 go_enter Tryz.func76,Tryz.ntmps76
 go_wp2
 go_ret
 exact ⟨rfl,below_alloc (Below.refl _ _) _⟩
set_option maxHeartbeats 8000000 in
set_option maxRecDepth 100000 in
theorem of1.var (A : Option Addr) (c : Nat) (w : World) (q : Nat) (hq : w.heap[q]? = some (.cells #[.int .i64 43] 3 (0,0))) : Calls Tryz.prog 94 #[.agg #[.int .i64 43,.string ⟨#[120]⟩,.int .u32 0,.bool false,.slice A 1 c,.int .i64 0],.pointer (some ⟨q,0,none⟩)] w (AllP true w):=by
 have HB:=Aside0.mk (below_alloc (Below.refl w.heap.size w) (.cells #[.int .i64 43,.string ⟨#[120]⟩,.int .u32 0,.bool false,.slice A 1 c,.int .i64 0] 25 (0,0)));have hx:=(blk_cell (blk_below hq HB.out) 0).trans rfl;have HQ:=Aside0.mk hq;clear hq;go_enter Tryz.func94,Tryz.ntmps94
 go_wp2
 go_ret
 exact ⟨rfl,HB.out⟩
theorem asks_one {g : FuncId} {caps : Array Value} {n : S25} {w : World} (h : ∀ (W : World) (A : Option Addr) (c : Nat),Below w.heap.size w W → ND W n A c → Calls Tryz.prog g (#[val n A c] ++ caps) W (AllP true W)) : Asks g caps (fun _ => true) [n] w :=
 fun x hx W A c hW hn => by
  obtain rfl:=List.mem_singleton.1 hx;exact h W A c hW hn
def OfP (w : World) (e : Ending) (w' : World) : Prop:=∃ q,e = .returned (.func (.func 94) #[] #[.pointer (some ⟨q,0,none⟩)]) ∧ w'.heap[q]? = some (.cells #[.int .i64 43] 3 (0,0)) ∧ Below w.heap.size w w'
set_option maxHeartbeats 8000000 in
set_option maxRecDepth 100000 in
theorem of.calls (w : World) : Calls Tryz.prog 70 #[.int .i64 43] w (OfP w):=by
 go_enter Tryz.func70,Tryz.ntmps70
 go_wp2
 go_ret
 exact ⟨w.heap.size,rfl,blk_new w _,below_alloc (Below.refl _ _) _⟩
set_option maxHeartbeats 8000000 in
set_option maxRecDepth 100000 in
theorem declarations.var (A : Option Addr) (c : Nat) (w : World) (hG : PremW w) (hn : ND w nVar A c) : Calls Tryz.prog 44 #[.agg #[.int .i64 43,.string ⟨#[120]⟩,.int .u32 0,.bool false,.slice A 1 c,.int .i64 0]] w (AllP true w):=by
 have HB:=Aside0.mk (below_alloc (Below.refl w.heap.size w) (.cells #[.int .i64 43,.string ⟨#[120]⟩,.int .u32 0,.bool false,.slice A 1 c,.int .i64 0] 25 (0,0)));have HG:=Aside0.mk (hG.below HB.out);have HN:=Aside0.mk (hn.below HB.out);clear hG hn;go_enter Tryz.func44,Tryz.ntmps44
 go_wp2_with (first
  | (go_at_call 66;((refine (ast_name.calls 100 _ true _ HG.out (by kernel_rfl)).mono ?_);rintro e w1 ⟨rfl,hB⟩);have HB1:=Aside0.mk (below_then HB.out HB.out.size hB);have HN1:=Aside0.mk (HN.out.below hB);(have HX_w1 : NB w1 w.heap.size nVar A c:=NB.below (blk_new w _) hB);obtain ⟨c0,c1,c2,c3,c4,c5⟩:=HX_w1.cells;have HXA_w1:=Aside0.mk HX_w1;dsimp only [nVar,List.length_cons,List.length_nil] at c0 c1 c2 c3 c4 c5;clear HX_w1;clear hB)
  | (go_at_call 78;((refine (variable.var A c _ HN1.out).mono ?_);rintro e w2 ⟨rfl,hB⟩);have HB2:=Aside0.mk (below_then HB1.out HB1.out.size hB);clear hB)
  | fail)
 go_ret
 exact ⟨rfl,HB2.out⟩
end Go.Proofs.YtboojhadfhpdeaaGreatDoor.Q
namespace Go.Proofs.YtboojhadfhpdeaaGreatDoor.Q
open Go.RowKit Go.Proofs.YtboojhadfhpdeaaGreatDoorW.PrintWords Go.Proofs.YtboojhadfhpdeaaGreatDoorW.PrintLast Go.Proofs.YtboojhadfhpdeaaGreatDoorW.PrintMore
set_option linter.unusedVariables false
set_option linter.unusedSimpArgs false
def forcedB (ops : Array Oper) (T : Array Bool) : Nat → Nat → Array Bool → Bool
 | 0,_,listed => decide (listed = T)
 | f + 1,k,listed => decide (Region.ready .any ops listed = [k]) && forcedB ops T f (k + 1) (listed.setIfInBounds k true)
theorem wpAny_forced {P : Program} {ops : Array Oper} {Q : Exit → Act → World → Prop} {T : Array Bool} {g : Nat} {w : World} : ∀ (l : List Oper) (k : Nat) (listed : Array Bool) (a : Act),(∀ j,j < l.length → l[j]? = ops[k + j]?) → forcedB ops T l.length k listed = true →
 wpStill P ops w (fun a' => wpAny P .any ops Q g T a' w) l a → wpAny P .any ops Q (l.length + g) listed a w
 | [],k,listed,a,_,hB,h => by
  have e : listed = T:=of_decide_eq_true hB;subst e;have h' : wpAny P .any ops Q g listed a w:=h
  simpa using h'
 | o :: l,k,listed,a,hl,hB,h => by
  have h0 : ops[k]? = some o:=by simpa using (hl 0 (by simp)).symm
  simp only [forcedB,List.length_cons,Bool.and_eq_true,decide_eq_true_eq] at hB;have hs : stOp P ops w k (wpStill P ops w (fun a' => wpAny P .any ops Q g T a' w) l) a:=by unfold stOp;simp only [h0];exact h
  rw [show (o :: l).length + g = (l.length + g) + 1 by simp;omega];refine ⟨fun hc => (by rw [hB.1] at hc;cases hc),fun i hi => ?_⟩;rw [hB.1] at hi;obtain rfl : i = k:=by simpa using hi
  exact wpOp_of_stOp (fun a' h' => wpAny_forced l (i + 1) _ a' (fun j hj => by have:=hl (j + 1) (by simp;omega);simpa [Nat.add_assoc,Nat.add_comm 1 j] using this) hB.2 h') hs
theorem region_forced {id : Nat} {l : List Oper} {Q : Exit → Act → World → Prop} {a : Act} {W : World} (n : Nat) (T : Array Bool) (hm : Tryz.prog.follows .mixedOrders = true) (hB : forcedB l.toArray T n 0 (Array.replicate l.length false) = true) (hn : n ≤ l.length)
 (h : ∀ w6,Below W.heap.size W w6 → W.heap.size = w6.heap.size → wpStill Tryz.prog l.toArray w6 (fun a' => wpAny Tryz.prog .any l.toArray Q (l.length - n) T a' w6) (l.take n) a) : (Code.region id l.toArray true).wp Tryz.prog Q a W:=by
 refine wp_region_any hm ?_;have e : (l.take n).length = n:=by simp;omega
 have h1:=wpAny_forced (Q:=Q) (T:=T) (g:=l.length - n) (l.take n) 0 (Array.replicate l.length false) a (fun j hj => by
  rw [e] at hj;simp [hj]) (by rw [e];exact hB) (h W.drew (Below.refl _ _).drew rfl)
 rw [e,show n + (l.length - n) = l.length by omega] at h1
 simpa using h1
theorem add_zero_ (ad : Addr) : ad.add 0 = ad:=by simp [Addr.add]
theorem asks_bare {g : FuncId} {n : S25} {w : World} (h : ∀ (W : World) (A : Option Addr) (c : Nat),Below w.heap.size w W → ND W n A c → Calls Tryz.prog g #[val n A c] W (AllP true W)) : Asks g #[] (fun _ => true) [n] w :=
 asks_one (fun W A c hW hn => by rw [Array.append_empty];exact h W A c hW hn)
theorem of1.asks (q : Nat) (w : World) (hq : w.heap[q]? = some (.cells #[.int .i64 43] 3 (0,0))) : Asks 94 #[.pointer (some ⟨q,0,none⟩)] (fun _ => true) [nVar] w :=
 asks_one (fun W A c hW _ => of1.var A c W q (blk_below hq hW))
theorem every.list (xs : List S25) (A : Option Addr) (c : Nat) (w : World) (hC : Kd.C k25 w A xs.length xs) (g : FuncId) (caps : Array Value) (hent : Enters Tryz.prog g) (h : Asks g caps (fun _ => true) xs w) :
 Calls Tryz.prog 33 #[.slice A xs.length c,.func (.func g) #[] caps] w (AllP true w):=by
 have e:=every.calls xs A c w hC g caps (fun _ => true) hent h
 rwa [show xs.all (fun _ => true) = true from by simp] at e
theorem every.none (A : Option Addr) (c : Nat) (w : World) (hC : Kd.C k25 w A 0 []) (g : FuncId) (caps : Array Value) (hent : Enters Tryz.prog g) : Calls Tryz.prog 33 #[.slice A 0 c,.func (.func g) #[] caps] w (AllP true w) :=
 every.list [] A c w hC g caps hent (fun x hx => by cases hx)
theorem every.one (n : S25) (A : Option Addr) (c : Nat) (w : World) (hC : Kd.C k25 w A 1 [n]) (g : FuncId) (caps : Array Value) (hent : Enters Tryz.prog g) (h : Asks g caps (fun _ => true) [n] w) :
 Calls Tryz.prog 33 #[.slice A 1 c,.func (.func g) #[] caps] w (AllP true w):=every.list [n] A c w hC g caps hent h
theorem every.two (n m : S25) (A : Option Addr) (c : Nat) (w : World) (hC : Kd.C k25 w A 2 [n,m]) (g : FuncId) (caps : Array Value) (hent : Enters Tryz.prog g) (h : Asks g caps (fun _ => true) [n,m] w) :
 Calls Tryz.prog 33 #[.slice A 2 c,.func (.func g) #[] caps] w (AllP true w):=every.list [n,m] A c w hC g caps hent h
set_option maxHeartbeats 8000000 in
set_option maxRecDepth 100000 in
theorem declarations.prog (A : Option Addr) (c : Nat) (w : World) (hG : PremW w) (hn : ND w nProg A c) : Calls Tryz.prog 44 #[.agg #[.int .i64 40,.string ⟨#[]⟩,.int .u32 0,.bool false,.slice A 1 c,.int .i64 0]] w (AllP true w):=by
 have HB:=Aside0.mk (below_alloc (Below.refl w.heap.size w) (.cells #[.int .i64 40,.string ⟨#[]⟩,.int .u32 0,.bool false,.slice A 1 c,.int .i64 0] 25 (0,0)));have HG:=Aside0.mk (hG.below HB.out);have HN:=Aside0.mk (hn.below HB.out);have HE:=Aside0.mk (show Enters Tryz.prog 76 from enters_of Tryz.func76 (by kernel_rfl) rfl);clear hG hn;go_enter Tryz.func44,Tryz.ntmps44
 go_wp2_with (first
  | (go_at_call 66;((refine (ast_name.calls 100 _ false _ HG.out (by kernel_rfl)).mono ?_);rintro e w1 ⟨rfl,hB⟩);have HB1:=Aside0.mk (below_then HB.out HB.out.size hB);have HN1:=Aside0.mk (HN.out.below hB);(have HX_w1 : NB w1 w.heap.size nProg A c:=NB.below (blk_new w _) hB);obtain ⟨c0,c1,c2,c3,c4,c5⟩:=HX_w1.cells;have HXA_w1:=Aside0.mk HX_w1;dsimp only [nProg,List.length_cons,List.length_nil] at c0 c1 c2 c3 c4 c5;clear HX_w1;clear hB)
  | (go_at_call 33;((refine (every.one nVars A c _ HN1.out.C 76 #[] HE.out (asks_bare (fun W A c _ hn => declaration1.vars A c W))).mono ?_);rintro e w2 ⟨rfl,hB⟩);have HB2:=Aside0.mk (below_then HB1.out HB1.out.size hB);clear hB)
  | fail)
 go_ret
 exact ⟨rfl,HB2.out⟩
set_option maxHeartbeats 8000000 in
set_option maxRecDepth 100000 in
theorem declarations.vars (A : Option Addr) (c : Nat) (w : World) (hG : PremW w) (hn : ND w nVars A c) : Calls Tryz.prog 44 #[.agg #[.int .i64 42,.string ⟨#[]⟩,.int .u32 0,.bool false,.slice A 2 c,.int .i64 0]] w (AllP true w):=by
 have hle : 2 ≤ c:=hn.le;obtain ⟨ad,A',c',rfl,_,k0,_⟩:=node_at hn.C 0 (by decide);rw [Nat.zero_mul,add_zero_] at k0;have HB:=Aside0.mk (below_alloc (Below.refl w.heap.size w) (.cells #[.int .i64 42,.string ⟨#[]⟩,.int .u32 0,.bool false,.slice (some ad) 2 c,.int .i64 0] 25 (0,0)));have HG:=Aside0.mk (hG.below HB.out);have HN:=Aside0.mk (hn.below HB.out);have HK0:=Aside0.mk (pw_cell_below HB.out k0);have HLE:=Aside0.mk hle;have HE:=Aside0.mk (show Enters Tryz.prog 94 from enters_of Tryz.func94 (by kernel_rfl) rfl);clear hG hn k0 hle;go_enter Tryz.func44,Tryz.ntmps44
 go_wp2_with (first
  | (go_at_call 66;((refine (ast_name.calls 100 _ false _ HG.out (by kernel_rfl)).mono ?_);rintro e w1 ⟨rfl,hB⟩);have HB1:=Aside0.mk (below_then HB.out HB.out.size hB);have HN1:=Aside0.mk (HN.out.below hB);have HK1:=Aside0.mk (pw_cell_below hB HK0.out);(have HX_w1 : NB w1 w.heap.size nVars (some ad) c:=NB.below (blk_new w _) hB);obtain ⟨c0,c1,c2,c3,c4,c5⟩:=HX_w1.cells;have HXA_w1:=Aside0.mk HX_w1;dsimp only [nVars,List.length_cons,List.length_nil] at c0 c1 c2 c3 c4 c5;clear HX_w1;clear hB)
  | fail)
 have k0:=HK1.out;have HS1:=Aside0.mk (show Kd.C k25 w1 (some ⟨ad.block,ad.off + 6,none⟩) 1 [nVar] from by
  have h1:=Kd.C_drop (m:=1) HN1.out.C (by decide) HLE.out;rw [if_neg (by have:=HLE.out;omega)] at h1;exact h1)
 refine region_forced 20 (#[true,true,true,true,true,true,true,true,true,true,true,true,true,true,true,true,true,true,true,true,false,false,false,false,false,false,false]) (by kernel_rfl) (by kernel_rfl) (by decide) (fun w6 h6 h6' => ?_);have HW6:=Aside0.mk (And.intro h6 h6');clear c0 c1 c2 c3 c4 c5 k0;have HX6 : NB w6 w.heap.size nVars (some ad) c:=NB.below HXA_w1.out h6;obtain ⟨c0,c1,c2,c3,c4,c5⟩:=HX6.cells;dsimp only [nVars,List.length_cons,List.length_nil] at c0 c1 c2 c3 c4 c5;have k0 : w6.cell? ad = some (.int .i64 16):=pw_cell_below h6 HK1.out;have hc1 : ¬ c = 1:=by have:=HLE.out;omega
 clear HX6 h6 h6';simp only [List.take_succ_cons,List.take_zero];repeat still_step
 refine wpStill_nil ?_;refine wpAny_ready (rs:=[20]) (by kernel_rfl) (by simp) (AllReady.cons rfl (fun K hK => ?_) AllReady.nil);go_simp;refine hK _ _ ?_;clear hK K;refine wpAny_ready (rs:=[21,23]) (by kernel_rfl) (by simp) (AllReady.cons rfl (fun K hK => ?_) (AllReady.cons rfl (fun K hK => ?_) AllReady.nil))
 · go_simp;refine hK _ _ ?_;clear hK K;refine wpAny_ready (rs:=[22,23]) (by kernel_rfl) (by simp) (AllReady.cons rfl (fun K hK => ?_) (AllReady.cons rfl (fun K hK => ?_) AllReady.nil))
   · go_simp;refine hK _ _ ?_;clear hK K;refine wpAny_ready (rs:=[23]) (by kernel_rfl) (by simp) (AllReady.cons rfl (fun K hK => ?_) AllReady.nil);go_simp;go_wp2_with (first
      | (go_at_call 70;refine (of.calls _).mono ?_;rintro e w2 ⟨q,rfl,hq,hB⟩;have HB2:=Aside0.mk (below_then HB1.out HB1.out.size (below_then HW6.out.1 (Nat.le_of_eq HW6.out.2) hB));have HQ:=Aside0.mk hq;have HS2:=Aside0.mk (Kd.C_below (Kd.C_below HS1.out HW6.out.1) hB);clear hq hB)
      | fail)
     refine wpAny_ready (rs:=[24]) (by kernel_rfl) (by simp) (AllReady.cons rfl (fun K hK => ?_) AllReady.nil);go_simp;go_wp2_with (first
      | (go_at_call 33;refine (every.one nVar (some ⟨ad.block,ad.off + 6,none⟩) _ _ HS2.out 94 #[.pointer (some ⟨q,0,none⟩)] HE.out (of1.asks q _ HQ.out)).mono ?_;rintro e w3 ⟨rfl,hB⟩;have HB3:=Aside0.mk (below_then HB2.out HB2.out.size hB);clear hB)
      | fail)
     refine wpAny_ready (rs:=[25]) (by kernel_rfl) (by simp) (AllReady.cons rfl (fun K hK => ?_) AllReady.nil);go_simp;refine hK _ _ ?_;clear hK K;refine wpAny_ready (rs:=[26]) (by kernel_rfl) (by simp) (AllReady.cons rfl (fun K hK => ?_) AllReady.nil);go_simp;refine hK _ _ ?_;clear hK K;refine wpAny_done (by kernel_rfl) ?_ _;go_wp2
     go_ret
     exact ⟨rfl,HB3.out⟩
   · go_simp;go_wp2_with (first
      | (go_at_call 70;refine (of.calls _).mono ?_;rintro e w2 ⟨q,rfl,hq,hB⟩;have HB2:=Aside0.mk (below_then HB1.out HB1.out.size (below_then HW6.out.1 (Nat.le_of_eq HW6.out.2) hB));have HQ:=Aside0.mk hq;have HS2:=Aside0.mk (Kd.C_below (Kd.C_below HS1.out HW6.out.1) hB);clear hq hB)
      | fail)
     refine wpAny_ready (rs:=[22]) (by kernel_rfl) (by simp) (AllReady.cons rfl (fun K hK => ?_) AllReady.nil);go_simp;refine hK _ _ ?_;clear hK K;refine wpAny_ready (rs:=[24]) (by kernel_rfl) (by simp) (AllReady.cons rfl (fun K hK => ?_) AllReady.nil);go_simp;go_wp2_with (first
      | (go_at_call 33;refine (every.one nVar (some ⟨ad.block,ad.off + 6,none⟩) _ _ HS2.out 94 #[.pointer (some ⟨q,0,none⟩)] HE.out (of1.asks q _ HQ.out)).mono ?_;rintro e w3 ⟨rfl,hB⟩;have HB3:=Aside0.mk (below_then HB2.out HB2.out.size hB);clear hB)
      | fail)
     refine wpAny_ready (rs:=[25]) (by kernel_rfl) (by simp) (AllReady.cons rfl (fun K hK => ?_) AllReady.nil);go_simp;refine hK _ _ ?_;clear hK K;refine wpAny_ready (rs:=[26]) (by kernel_rfl) (by simp) (AllReady.cons rfl (fun K hK => ?_) AllReady.nil);go_simp;refine hK _ _ ?_;clear hK K;refine wpAny_done (by kernel_rfl) ?_ _;go_wp2
     go_ret
     exact ⟨rfl,HB3.out⟩
 · go_simp;go_wp2_with (first
    | (go_at_call 70;refine (of.calls _).mono ?_;rintro e w2 ⟨q,rfl,hq,hB⟩;have HB2:=Aside0.mk (below_then HB1.out HB1.out.size (below_then HW6.out.1 (Nat.le_of_eq HW6.out.2) hB));have HQ:=Aside0.mk hq;have HS2:=Aside0.mk (Kd.C_below (Kd.C_below HS1.out HW6.out.1) hB);clear hq hB)
    | fail)
   refine wpAny_ready (rs:=[21]) (by kernel_rfl) (by simp) (AllReady.cons rfl (fun K hK => ?_) AllReady.nil);go_simp;refine hK _ _ ?_;clear hK K;refine wpAny_ready (rs:=[22]) (by kernel_rfl) (by simp) (AllReady.cons rfl (fun K hK => ?_) AllReady.nil);go_simp;refine hK _ _ ?_;clear hK K;refine wpAny_ready (rs:=[24]) (by kernel_rfl) (by simp) (AllReady.cons rfl (fun K hK => ?_) AllReady.nil);go_simp;go_wp2_with (first
    | (go_at_call 33;refine (every.one nVar (some ⟨ad.block,ad.off + 6,none⟩) _ _ HS2.out 94 #[.pointer (some ⟨q,0,none⟩)] HE.out (of1.asks q _ HQ.out)).mono ?_;rintro e w3 ⟨rfl,hB⟩;have HB3:=Aside0.mk (below_then HB2.out HB2.out.size hB);clear hB)
    | fail)
   refine wpAny_ready (rs:=[25]) (by kernel_rfl) (by simp) (AllReady.cons rfl (fun K hK => ?_) AllReady.nil);go_simp;refine hK _ _ ?_;clear hK K;refine wpAny_ready (rs:=[26]) (by kernel_rfl) (by simp) (AllReady.cons rfl (fun K hK => ?_) AllReady.nil);go_simp;refine hK _ _ ?_;clear hK K;refine wpAny_done (by kernel_rfl) ?_ _;go_wp2
   go_ret
   exact ⟨rfl,HB3.out⟩
end Go.Proofs.YtboojhadfhpdeaaGreatDoor.Q
namespace Go.Proofs.YtboojhadfhpdeaaGreatDoor.Q
open Go.RowKit Go.Proofs.YtboojhadfhpdeaaGreatDoorW.PrintWords Go.Proofs.YtboojhadfhpdeaaGreatDoorW.PrintLast Go.Proofs.YtboojhadfhpdeaaGreatDoorW.PrintMore
set_option linter.unusedVariables false
set_option linter.unusedSimpArgs false
set_option maxHeartbeats 8000000 in
set_option maxRecDepth 100000 in
theorem itself.num (A : Option Addr) (c : Nat) (w : World) (hG : PremW w) (hn : ND w nNum A c) : Calls Tryz.prog 32 #[.agg #[.int .i64 1,.string ⟨#[]⟩,.int .u32 1,.bool false,.slice A 0 c,.int .i64 0]] w (AllP true w):=by
 have HB:=Aside0.mk (below_alloc (Below.refl w.heap.size w) (.cells #[.int .i64 1,.string ⟨#[]⟩,.int .u32 1,.bool false,.slice A 0 c,.int .i64 0] 25 (0,0)));have HG:=Aside0.mk (hG.below HB.out);have HN:=Aside0.mk (hn.below HB.out);clear hG hn;go_enter Tryz.func32,Tryz.ntmps32
 go_wp2_with (first
  | (go_at_call 40;((refine (expression.num A c _ HN.out).mono ?_);rintro e w1 ⟨rfl,hB⟩);have HB1:=Aside0.mk (below_then HB.out HB.out.size hB);have HN1:=Aside0.mk (HN.out.below hB);have HG1:=Aside0.mk (HG.out.below hB);(have HX_w1 : NB w1 w.heap.size nNum A c:=NB.below (blk_new w _) hB);obtain ⟨c0,c1,c2,c3,c4,c5⟩:=HX_w1.cells;have HXA_w1:=Aside0.mk HX_w1;dsimp only [nNum,List.length_cons,List.length_nil] at c0 c1 c2 c3 c4 c5;clear HX_w1;clear hB)
  | (go_at_call 41;((refine (expressions.num A c _).mono ?_);rintro e w2 ⟨rfl,hB⟩);have HB2:=Aside0.mk (below_then HB1.out HB1.out.size hB);clear hB)
  | fail)
 go_ret
 exact ⟨rfl,HB2.out⟩
set_option maxHeartbeats 8000000 in
set_option maxRecDepth 100000 in
theorem itself.type (A : Option Addr) (c : Nat) (w : World) (hG : PremW w) (hn : ND w nType A c) : Calls Tryz.prog 32 #[.agg #[.int .i64 16,.string ⟨#[105,110,116]⟩,.int .u32 0,.bool false,.slice A 0 c,.int .i64 0]] w (AllP true w):=by
 have HB:=Aside0.mk (below_alloc (Below.refl w.heap.size w) (.cells #[.int .i64 16,.string ⟨#[105,110,116]⟩,.int .u32 0,.bool false,.slice A 0 c,.int .i64 0] 25 (0,0)));have HG:=Aside0.mk (hG.below HB.out);have HN:=Aside0.mk (hn.below HB.out);clear hG hn;go_enter Tryz.func32,Tryz.ntmps32
 go_wp2_with (first
  | (go_at_call 40;((refine (expression.type A c _ HN.out).mono ?_);rintro e w1 ⟨rfl,hB⟩);have HB1:=Aside0.mk (below_then HB.out HB.out.size hB);have HN1:=Aside0.mk (HN.out.below hB);have HG1:=Aside0.mk (HG.out.below hB);(have HX_w1 : NB w1 w.heap.size nType A c:=NB.below (blk_new w _) hB);obtain ⟨c0,c1,c2,c3,c4,c5⟩:=HX_w1.cells;have HXA_w1:=Aside0.mk HX_w1;dsimp only [nType,List.length_cons,List.length_nil] at c0 c1 c2 c3 c4 c5;clear HX_w1;clear hB)
  | (go_at_call 41;((refine (expressions.type A c _ HG1.out).mono ?_);rintro e w2 ⟨rfl,hB⟩);have HB2:=Aside0.mk (below_then HB1.out HB1.out.size hB);clear hB)
  | fail)
 go_ret
 exact ⟨rfl,HB2.out⟩
set_option maxHeartbeats 8000000 in
set_option maxRecDepth 100000 in
theorem itself.var (A : Option Addr) (c : Nat) (w : World) (hG : PremW w) (hn : ND w nVar A c) : Calls Tryz.prog 32 #[.agg #[.int .i64 43,.string ⟨#[120]⟩,.int .u32 0,.bool false,.slice A 1 c,.int .i64 0]] w (AllP true w):=by
 have HB:=Aside0.mk (below_alloc (Below.refl w.heap.size w) (.cells #[.int .i64 43,.string ⟨#[120]⟩,.int .u32 0,.bool false,.slice A 1 c,.int .i64 0] 25 (0,0)));have HG:=Aside0.mk (hG.below HB.out);have HN:=Aside0.mk (hn.below HB.out);clear hG hn;go_enter Tryz.func32,Tryz.ntmps32
 go_wp2_with (first
  | (go_at_call 40;((refine (expression.var A c _ HN.out).mono ?_);rintro e w1 ⟨rfl,hB⟩);have HB1:=Aside0.mk (below_then HB.out HB.out.size hB);have HN1:=Aside0.mk (HN.out.below hB);have HG1:=Aside0.mk (HG.out.below hB);(have HX_w1 : NB w1 w.heap.size nVar A c:=NB.below (blk_new w _) hB);obtain ⟨c0,c1,c2,c3,c4,c5⟩:=HX_w1.cells;have HXA_w1:=Aside0.mk HX_w1;dsimp only [nVar,List.length_cons,List.length_nil] at c0 c1 c2 c3 c4 c5;clear HX_w1;clear hB)
  | (go_at_call 42;((refine (statement.var A c _ HN1.out).mono ?_);rintro e w2 ⟨rfl,hB⟩);have HB2:=Aside0.mk (below_then HB1.out HB1.out.size hB);have HN2:=Aside0.mk (HN1.out.below hB);have HG2:=Aside0.mk (HG1.out.below hB);(have HX_w2 : NB w2 w.heap.size nVar A c:=NB.below HXA_w1.out hB);obtain ⟨c0,c1,c2,c3,c4,c5⟩:=HX_w2.cells;have HXA_w2:=Aside0.mk HX_w2;dsimp only [nVar,List.length_cons,List.length_nil] at c0 c1 c2 c3 c4 c5;clear HX_w2;clear hB)
  | (go_at_call 44;((refine (declarations.var A c _ HG2.out HN2.out).mono ?_);rintro e w3 ⟨rfl,hB⟩);have HB3:=Aside0.mk (below_then HB2.out HB2.out.size hB);clear hB)
  | fail)
 go_ret
 exact ⟨rfl,HB3.out⟩
set_option maxHeartbeats 8000000 in
set_option maxRecDepth 100000 in
theorem itself.vars (A : Option Addr) (c : Nat) (w : World) (hG : PremW w) (hn : ND w nVars A c) : Calls Tryz.prog 32 #[.agg #[.int .i64 42,.string ⟨#[]⟩,.int .u32 0,.bool false,.slice A 2 c,.int .i64 0]] w (AllP true w):=by
 have HB:=Aside0.mk (below_alloc (Below.refl w.heap.size w) (.cells #[.int .i64 42,.string ⟨#[]⟩,.int .u32 0,.bool false,.slice A 2 c,.int .i64 0] 25 (0,0)));have HG:=Aside0.mk (hG.below HB.out);have HN:=Aside0.mk (hn.below HB.out);clear hG hn;go_enter Tryz.func32,Tryz.ntmps32
 go_wp2_with (first
  | (go_at_call 40;((refine (expression.vars A c _ HN.out).mono ?_);rintro e w1 ⟨rfl,hB⟩);have HB1:=Aside0.mk (below_then HB.out HB.out.size hB);have HN1:=Aside0.mk (HN.out.below hB);have HG1:=Aside0.mk (HG.out.below hB);(have HX_w1 : NB w1 w.heap.size nVars A c:=NB.below (blk_new w _) hB);obtain ⟨c0,c1,c2,c3,c4,c5⟩:=HX_w1.cells;have HXA_w1:=Aside0.mk HX_w1;dsimp only [nVars,List.length_cons,List.length_nil] at c0 c1 c2 c3 c4 c5;clear HX_w1;clear hB)
  | (go_at_call 42;((refine (statement.vars A c _ HN1.out).mono ?_);rintro e w2 ⟨rfl,hB⟩);have HB2:=Aside0.mk (below_then HB1.out HB1.out.size hB);have HN2:=Aside0.mk (HN1.out.below hB);have HG2:=Aside0.mk (HG1.out.below hB);(have HX_w2 : NB w2 w.heap.size nVars A c:=NB.below HXA_w1.out hB);obtain ⟨c0,c1,c2,c3,c4,c5⟩:=HX_w2.cells;have HXA_w2:=Aside0.mk HX_w2;dsimp only [nVars,List.length_cons,List.length_nil] at c0 c1 c2 c3 c4 c5;clear HX_w2;clear hB)
  | (go_at_call 44;((refine (declarations.vars A c _ HG2.out HN2.out).mono ?_);rintro e w3 ⟨rfl,hB⟩);have HB3:=Aside0.mk (below_then HB2.out HB2.out.size hB);clear hB)
  | fail)
 go_ret
 exact ⟨rfl,HB3.out⟩
set_option maxHeartbeats 8000000 in
set_option maxRecDepth 100000 in
theorem itself.prog (A : Option Addr) (c : Nat) (w : World) (hG : PremW w) (hn : ND w nProg A c) : Calls Tryz.prog 32 #[.agg #[.int .i64 40,.string ⟨#[]⟩,.int .u32 0,.bool false,.slice A 1 c,.int .i64 0]] w (AllP true w):=by
 have HB:=Aside0.mk (below_alloc (Below.refl w.heap.size w) (.cells #[.int .i64 40,.string ⟨#[]⟩,.int .u32 0,.bool false,.slice A 1 c,.int .i64 0] 25 (0,0)));have HG:=Aside0.mk (hG.below HB.out);have HN:=Aside0.mk (hn.below HB.out);clear hG hn;go_enter Tryz.func32,Tryz.ntmps32
 go_wp2_with (first
  | (go_at_call 40;((refine (expression.prog A c _ HN.out).mono ?_);rintro e w1 ⟨rfl,hB⟩);have HB1:=Aside0.mk (below_then HB.out HB.out.size hB);have HN1:=Aside0.mk (HN.out.below hB);have HG1:=Aside0.mk (HG.out.below hB);(have HX_w1 : NB w1 w.heap.size nProg A c:=NB.below (blk_new w _) hB);obtain ⟨c0,c1,c2,c3,c4,c5⟩:=HX_w1.cells;have HXA_w1:=Aside0.mk HX_w1;dsimp only [nProg,List.length_cons,List.length_nil] at c0 c1 c2 c3 c4 c5;clear HX_w1;clear hB)
  | (go_at_call 42;((refine (statement.prog A c _ HN1.out).mono ?_);rintro e w2 ⟨rfl,hB⟩);have HB2:=Aside0.mk (below_then HB1.out HB1.out.size hB);have HN2:=Aside0.mk (HN1.out.below hB);have HG2:=Aside0.mk (HG1.out.below hB);(have HX_w2 : NB w2 w.heap.size nProg A c:=NB.below HXA_w1.out hB);obtain ⟨c0,c1,c2,c3,c4,c5⟩:=HX_w2.cells;have HXA_w2:=Aside0.mk HX_w2;dsimp only [nProg,List.length_cons,List.length_nil] at c0 c1 c2 c3 c4 c5;clear HX_w2;clear hB)
  | (go_at_call 44;((refine (declarations.prog A c _ HG2.out HN2.out).mono ?_);rintro e w3 ⟨rfl,hB⟩);have HB3:=Aside0.mk (below_then HB2.out HB2.out.size hB);clear hB)
  | fail)
 go_ret
 exact ⟨rfl,HB3.out⟩
set_option maxHeartbeats 8000000 in
set_option maxRecDepth 100000 in
theorem may.num (A : Option Addr) (c : Nat) (w : World) (hG : PremW w) (hn : ND w nNum A c) : Calls Tryz.prog 20 #[.agg #[.int .i64 1,.string ⟨#[]⟩,.int .u32 1,.bool false,.slice A 0 c,.int .i64 0]] w (AllP true w):=by
 have HB:=Aside0.mk (below_alloc (Below.refl w.heap.size w) (.cells #[.int .i64 1,.string ⟨#[]⟩,.int .u32 1,.bool false,.slice A 0 c,.int .i64 0] 25 (0,0)));have HG:=Aside0.mk (hG.below HB.out);have HN:=Aside0.mk (hn.below HB.out);clear hG hn;have HE:=Aside0.mk (show Enters Tryz.prog 20 from enters_of Tryz.func20 (by kernel_rfl) rfl);go_enter Tryz.func20,Tryz.ntmps20
 go_wp2_with (first
  | (go_at_call 32;((refine (itself.num A c _ HG.out HN.out).mono ?_);rintro e w1 ⟨rfl,hB⟩);have HB1:=Aside0.mk (below_then HB.out HB.out.size hB);have HN1:=Aside0.mk (HN.out.below hB);have HG1:=Aside0.mk (HG.out.below hB);(have HX_w1 : NB w1 w.heap.size nNum A c:=NB.below (blk_new w _) hB);obtain ⟨c0,c1,c2,c3,c4,c5⟩:=HX_w1.cells;have HXA_w1:=Aside0.mk HX_w1;dsimp only [nNum,List.length_cons,List.length_nil] at c0 c1 c2 c3 c4 c5;clear HX_w1;clear hB)
  | (go_at_call 33;((refine (every.none A c _ HN1.out.C 20 #[] HE.out).mono ?_);rintro e w2 ⟨rfl,hB⟩);have HB2:=Aside0.mk (below_then HB1.out HB1.out.size hB);clear hB)
  | fail)
 go_ret
 exact ⟨rfl,HB2.out⟩
theorem may_asks.num (w : World) (hG : PremW w) : Asks 20 #[] (fun _ => true) [nNum] w :=
 asks_bare (fun W A c hW hn => may.num A c W (hG.below hW) hn)
set_option maxHeartbeats 8000000 in
set_option maxRecDepth 100000 in
theorem may.type (A : Option Addr) (c : Nat) (w : World) (hG : PremW w) (hn : ND w nType A c) : Calls Tryz.prog 20 #[.agg #[.int .i64 16,.string ⟨#[105,110,116]⟩,.int .u32 0,.bool false,.slice A 0 c,.int .i64 0]] w (AllP true w):=by
 have HB:=Aside0.mk (below_alloc (Below.refl w.heap.size w) (.cells #[.int .i64 16,.string ⟨#[105,110,116]⟩,.int .u32 0,.bool false,.slice A 0 c,.int .i64 0] 25 (0,0)));have HG:=Aside0.mk (hG.below HB.out);have HN:=Aside0.mk (hn.below HB.out);clear hG hn;have HE:=Aside0.mk (show Enters Tryz.prog 20 from enters_of Tryz.func20 (by kernel_rfl) rfl);go_enter Tryz.func20,Tryz.ntmps20
 go_wp2_with (first
  | (go_at_call 32;((refine (itself.type A c _ HG.out HN.out).mono ?_);rintro e w1 ⟨rfl,hB⟩);have HB1:=Aside0.mk (below_then HB.out HB.out.size hB);have HN1:=Aside0.mk (HN.out.below hB);have HG1:=Aside0.mk (HG.out.below hB);(have HX_w1 : NB w1 w.heap.size nType A c:=NB.below (blk_new w _) hB);obtain ⟨c0,c1,c2,c3,c4,c5⟩:=HX_w1.cells;have HXA_w1:=Aside0.mk HX_w1;dsimp only [nType,List.length_cons,List.length_nil] at c0 c1 c2 c3 c4 c5;clear HX_w1;clear hB)
  | (go_at_call 33;((refine (every.none A c _ HN1.out.C 20 #[] HE.out).mono ?_);rintro e w2 ⟨rfl,hB⟩);have HB2:=Aside0.mk (below_then HB1.out HB1.out.size hB);clear hB)
  | fail)
 go_ret
 exact ⟨rfl,HB2.out⟩
set_option maxHeartbeats 8000000 in
set_option maxRecDepth 100000 in
theorem may.var (A : Option Addr) (c : Nat) (w : World) (hG : PremW w) (hn : ND w nVar A c) : Calls Tryz.prog 20 #[.agg #[.int .i64 43,.string ⟨#[120]⟩,.int .u32 0,.bool false,.slice A 1 c,.int .i64 0]] w (AllP true w):=by
 have HB:=Aside0.mk (below_alloc (Below.refl w.heap.size w) (.cells #[.int .i64 43,.string ⟨#[120]⟩,.int .u32 0,.bool false,.slice A 1 c,.int .i64 0] 25 (0,0)));have HG:=Aside0.mk (hG.below HB.out);have HN:=Aside0.mk (hn.below HB.out);clear hG hn;have HE:=Aside0.mk (show Enters Tryz.prog 20 from enters_of Tryz.func20 (by kernel_rfl) rfl);go_enter Tryz.func20,Tryz.ntmps20
 go_wp2_with (first
  | (go_at_call 32;((refine (itself.var A c _ HG.out HN.out).mono ?_);rintro e w1 ⟨rfl,hB⟩);have HB1:=Aside0.mk (below_then HB.out HB.out.size hB);have HN1:=Aside0.mk (HN.out.below hB);have HG1:=Aside0.mk (HG.out.below hB);(have HX_w1 : NB w1 w.heap.size nVar A c:=NB.below (blk_new w _) hB);obtain ⟨c0,c1,c2,c3,c4,c5⟩:=HX_w1.cells;have HXA_w1:=Aside0.mk HX_w1;dsimp only [nVar,List.length_cons,List.length_nil] at c0 c1 c2 c3 c4 c5;clear HX_w1;clear hB)
  | (go_at_call 33;((refine (every.one nNum A c _ HN1.out.C 20 #[] HE.out (may_asks.num _ HG1.out)).mono ?_);rintro e w2 ⟨rfl,hB⟩);have HB2:=Aside0.mk (below_then HB1.out HB1.out.size hB);clear hB)
  | fail)
 go_ret
 exact ⟨rfl,HB2.out⟩
theorem may_asks.two (w : World) (hG : PremW w) : Asks 20 #[] (fun _ => true) [nType,nVar] w:=fun x hx W A c hW hn => by
 rw [Array.append_empty];rcases List.mem_cons.1 hx with rfl|hx
 · exact may.type A c W (hG.below hW) hn
 · obtain rfl:=List.mem_singleton.1 hx;exact may.var A c W (hG.below hW) hn
set_option maxHeartbeats 8000000 in
set_option maxRecDepth 100000 in
theorem may.vars (A : Option Addr) (c : Nat) (w : World) (hG : PremW w) (hn : ND w nVars A c) : Calls Tryz.prog 20 #[.agg #[.int .i64 42,.string ⟨#[]⟩,.int .u32 0,.bool false,.slice A 2 c,.int .i64 0]] w (AllP true w):=by
 have HB:=Aside0.mk (below_alloc (Below.refl w.heap.size w) (.cells #[.int .i64 42,.string ⟨#[]⟩,.int .u32 0,.bool false,.slice A 2 c,.int .i64 0] 25 (0,0)));have HG:=Aside0.mk (hG.below HB.out);have HN:=Aside0.mk (hn.below HB.out);clear hG hn;have HE:=Aside0.mk (show Enters Tryz.prog 20 from enters_of Tryz.func20 (by kernel_rfl) rfl);go_enter Tryz.func20,Tryz.ntmps20
 go_wp2_with (first
  | (go_at_call 32;((refine (itself.vars A c _ HG.out HN.out).mono ?_);rintro e w1 ⟨rfl,hB⟩);have HB1:=Aside0.mk (below_then HB.out HB.out.size hB);have HN1:=Aside0.mk (HN.out.below hB);have HG1:=Aside0.mk (HG.out.below hB);(have HX_w1 : NB w1 w.heap.size nVars A c:=NB.below (blk_new w _) hB);obtain ⟨c0,c1,c2,c3,c4,c5⟩:=HX_w1.cells;have HXA_w1:=Aside0.mk HX_w1;dsimp only [nVars,List.length_cons,List.length_nil] at c0 c1 c2 c3 c4 c5;clear HX_w1;clear hB)
  | (go_at_call 33;((refine (every.two nType nVar A c _ HN1.out.C 20 #[] HE.out (may_asks.two _ HG1.out)).mono ?_);rintro e w2 ⟨rfl,hB⟩);have HB2:=Aside0.mk (below_then HB1.out HB1.out.size hB);clear hB)
  | fail)
 go_ret
 exact ⟨rfl,HB2.out⟩
theorem may_asks.vars (w : World) (hG : PremW w) : Asks 20 #[] (fun _ => true) [nVars] w :=
 asks_bare (fun W A c hW hn => may.vars A c W (hG.below hW) hn)
set_option maxHeartbeats 8000000 in
set_option maxRecDepth 100000 in
theorem may.prog (A : Option Addr) (c : Nat) (w : World) (hG : PremW w) (hn : ND w nProg A c) : Calls Tryz.prog 20 #[.agg #[.int .i64 40,.string ⟨#[]⟩,.int .u32 0,.bool false,.slice A 1 c,.int .i64 0]] w (AllP true w):=by
 have HB:=Aside0.mk (below_alloc (Below.refl w.heap.size w) (.cells #[.int .i64 40,.string ⟨#[]⟩,.int .u32 0,.bool false,.slice A 1 c,.int .i64 0] 25 (0,0)));have HG:=Aside0.mk (hG.below HB.out);have HN:=Aside0.mk (hn.below HB.out);clear hG hn;have HE:=Aside0.mk (show Enters Tryz.prog 20 from enters_of Tryz.func20 (by kernel_rfl) rfl);go_enter Tryz.func20,Tryz.ntmps20
 go_wp2_with (first
  | (go_at_call 32;((refine (itself.prog A c _ HG.out HN.out).mono ?_);rintro e w1 ⟨rfl,hB⟩);have HB1:=Aside0.mk (below_then HB.out HB.out.size hB);have HN1:=Aside0.mk (HN.out.below hB);have HG1:=Aside0.mk (HG.out.below hB);(have HX_w1 : NB w1 w.heap.size nProg A c:=NB.below (blk_new w _) hB);obtain ⟨c0,c1,c2,c3,c4,c5⟩:=HX_w1.cells;have HXA_w1:=Aside0.mk HX_w1;dsimp only [nProg,List.length_cons,List.length_nil] at c0 c1 c2 c3 c4 c5;clear HX_w1;clear hB)
  | (go_at_call 33;((refine (every.one nVars A c _ HN1.out.C 20 #[] HE.out (may_asks.vars _ HG1.out)).mono ?_);rintro e w2 ⟨rfl,hB⟩);have HB2:=Aside0.mk (below_then HB1.out HB1.out.size hB);clear hB)
  | fail)
 go_ret
 exact ⟨rfl,HB2.out⟩
end Go.Proofs.YtboojhadfhpdeaaGreatDoor.Q
namespace Go.Proofs.YtboojhadfhpdeaaGreatDoor.Q
open Go.RowKit Go.Proofs.YtboojhadfhpdeaaGreatDoorW.PrintWords Go.Proofs.YtboojhadfhpdeaaGreatDoorW.PrintLast Go.Proofs.YtboojhadfhpdeaaGreatDoorW.PrintMore
set_option linter.unusedVariables false
set_option linter.unusedSimpArgs false
structure PB (b p : Nat) (l : List Int) (w : World) : Prop where
 hp : b ≤ p
 hb : b ≤ w.heap.size
 ex : ∃ v,w.heap[p]? = some (.cells #[v] 42 (0,0)) ∧ w.ownsRow b 5 1 v l.length (nums .u8 l)
structure Fr (p : Nat) (w w' : World) : Prop where
 size : w.heap.size ≤ w'.heap.size
 keep : ∀ (k : Nat) (t : TypeId) (cs : Array Value),w.heap[k]? = some (.cells cs t (0,0)) → k ≠ p → t ≠ 5 → w'.heap[k]? = some (.cells cs t (0,0))
theorem Fr.refl (p : Nat) (w : World) : Fr p w w:=⟨Nat.le_refl _,fun _ _ _ h _ _ => h⟩
theorem Fr.trans {p : Nat} {a b c : World} (h : Fr p a b) (k : Fr p b c) : Fr p a c:=⟨Nat.le_trans h.size k.size,fun i t cs hi hp ht => k.keep i t cs (h.keep i t cs hi hp ht) hp ht⟩
theorem Fr.of_below {p : Nat} {w w' : World} (h : Below w.heap.size w w') : Fr p w w' := ⟨h.size,fun k t cs hk _ _ => blk_below hk h⟩
def PrP (b p : Nat) (w0 : World) (l : List Int) (r : Value) (w : World) (e : Ending) (w' : World) : Prop:=e = .returned r ∧ PB b p l w' ∧ Below b w0 w' ∧ Fr p w w'
theorem own_blk {w : World} {b n : Nat} {v : Value} {xs : List Value} (h : w.ownsRow b 5 1 v n xs) {k : Nat} (hk : v.ownBlock = some k) : b ≤ k ∧ ∃ cur,w.heap[k]? = some (.cells cur 5 (0,0)):=by
 obtain ⟨_,h2⟩:=h;rcases h2 with ⟨rfl,_⟩ | ⟨g,cap,cur,rfl,hbg,hg,_⟩
 · cases hk
 · cases hk;exact ⟨hbg,cur,hg⟩
theorem own_slice {w : World} {b n : Nat} {v : Value} {xs : List Value} (h : w.ownsRow b 5 1 v n xs) : ∃ A m c,v = .slice A m c:=by
 obtain ⟨_,h2⟩:=h;rcases h2 with ⟨rfl,rfl⟩ | ⟨g,cap,cur,rfl,_⟩
 · exact ⟨none,0,0,rfl⟩
 · exact ⟨_,_,_,rfl⟩
theorem PB.below {b p : Nat} {l : List Int} {w w' : World} (h : PB b p l w) (hB : Below w.heap.size w w') : PB b p l w' := by
 obtain ⟨v,h1,h2⟩:=h.ex;refine ⟨h.hp,Nat.le_trans h.hb hB.size,v,blk_below h1 hB,own_move h2 (fun k hk => ?_)⟩;obtain ⟨_,cur,hc⟩:=own_blk h2 hk;exact hB.block k (blk_lt hc)
theorem PB.put {b p : Nat} {l l' : List Int} {w0 W w1 : World} {v v1 : Value} (hp : b ≤ p) (hb : b ≤ W.heap.size) (h1 : W.heap[p]? = some (.cells #[v] 42 (0,0))) (h2 : W.ownsRow b 5 1 v l.length (nums .u8 l)) (ho : w1.ownsRow b 5 1 v1 l'.length (nums .u8 l')) (hB : Below b w0 w1) (hg : W.grownBy w1 v.ownBlock) :
 w1.heap[p]? = some (.cells #[v] 42 (0,0)) ∧ PB b p l' (w1.setCell ⟨p,0,none⟩ v1) ∧ Below b w0 (w1.setCell ⟨p,0,none⟩ v1) ∧ Fr p W (w1.setCell ⟨p,0,none⟩ v1):=by
 have hsz : (w1.setCell ⟨p,0,none⟩ v1).heap.size = w1.heap.size:=by simp [World.setCell]
 have hne : ∀ k t cs,W.heap[k]? = some (.cells cs t (0,0)) → t ≠ 5 → some k ≠ v.ownBlock:=fun k t cs hk ht he => by
  obtain ⟨_,cur,hc⟩:=own_blk h2 he.symm;rw [hk] at hc;injection hc with hc
  injection hc with _ ht'
  exact ht ht'
 have hp1:=blk_grown h1 hg (hne p 42 _ h1 (by decide));refine ⟨hp1,⟨hp,by rw [hsz];exact Nat.le_trans hb hg.size,v1,blk_set hp1 0 v1,own_move ho (fun k hk => ?_)⟩,hB.setCell hp v1,⟨by rw [hsz];exact hg.size,fun k t cs hk hkp ht => ?_⟩⟩
 · obtain ⟨_,cur,hc⟩:=own_blk ho hk;exact Below.heap_setCell w1 _ v1 k (fun e => blk_ne hc hp1 (by decide) e)
 · exact (Below.heap_setCell w1 _ v1 k hkp).trans (blk_grown hk hg (hne k t cs hk ht))
set_option maxHeartbeats 8000000 in
set_option maxRecDepth 100000 in
theorem put.calls (b p q : Nat) (ss : List ByteArray) (l : List Int) (c : Nat) (w0 w : World) (hW : Below b w0 w) (hP : PB b p l w) (hqp : q ≠ p) (hS : w.heap[q]? = some (.cells (ss.map Value.string).toArray 9 (0,0))) (hl : l.length + (ss.flatMap bytesOf).length ≤ 140737488355328) (hn : ss.length ≤ 1000) :
 Calls Tryz.prog 54 #[.pointer (some ⟨p,0,none⟩),.slice (some ⟨q,0,none⟩) ss.length c] w (PrP b p w0 (l ++ ss.flatMap bytesOf) (.tuple #[]) w):=by
 have HW:=Aside0.mk hW;have HP0:=Aside0.mk hP;have HS0:=Aside0.mk hS;have HL:=Aside0.mk hl;have HQ:=Aside0.mk hqp;have HN:=Aside0.mk hn;clear hW hP hS hl hqp hn;go_enter Tryz.func54,Tryz.ntmps54
 go_wp2
 go_loopg [8] ss.length (fun kq v w' => ∃ i : Nat,v = .int .i64 i ∧ Aside0 (i + kq = ss.length) ∧ Aside0 (PB b p (l ++ (ss.take i).flatMap bytesOf) w') ∧ Aside0 (Below b w0 w') ∧ Aside0 (Fr p w w'))
 case atStart => exact ⟨0,rfl,⟨by omega⟩,⟨by simpa using HP0.out⟩,HW,⟨Fr.refl _ _⟩⟩
 case round =>
  obtain ⟨i,rfl,HI,HP,HB,HF⟩:=hrel;by_cases hi : i < ss.length
  · have e1n : decide (i < ss.length) = true:=decide_eq_true hi;have e1 : decide ((i : Int) < (ss.length : Int)) = true:=decide_eq_true (by omega);have p1 : (0 : Int) ≤ (i : Int):=by omega
    have q1 : (i : Int) < (ss.length : Int):=by omega
    have HIL:=Aside0.mk hi;have w3 : wrap64 ((i : Int) + 1) = (i : Int) + 1:=by have:=HN.out;unfold wrap64;omega
    have w4 : IntKind.i64.wrap ((i : Int) + 1) = (i : Int) + 1:=(i64_w _).trans w3;have hq:=HF.out.keep q 9 _ HS0.out HQ.out (by decide);obtain ⟨y,hy⟩ : ∃ y,ss[i]? = some y:=⟨_,List.getElem?_eq_getElem hi⟩
    have HTK:=Aside0.mk (show ss.take (i + 1) = ss.take i ++ [y] from by
     rw [List.take_succ_eq_append_getElem hi];rw [List.getElem?_eq_getElem hi] at hy;rw [Option.some.inj hy])
    have HLE:=Aside0.mk (show (l ++ (ss.take i).flatMap bytesOf).length + y.size ≤ 140737488355328 from by
     have h1:=HL.out;have h2 : ss.flatMap bytesOf = (ss.take (i + 1)).flatMap bytesOf ++ (ss.drop (i + 1)).flatMap bytesOf:=by rw [← List.flatMap_append,List.take_append_drop]
     rw [h2,HTK.out,List.flatMap_append] at h1;simp only [List.length_append,List.flatMap_cons,List.flatMap_nil,List.append_nil,bytesOf_length] at h1 ⊢;omega)
    have cs:=(blk_cell hq i).trans (show ((ss.map Value.string).toArray)[i]? = some (Value.string y) by simp [hy]);obtain ⟨v,hp,hown⟩:=HP.out.ex;have cp:=(blk_cell hp 0).trans (show #[v][0]? = some v from rfl);have HPP:=Aside0.mk hp;have HOWN:=Aside0.mk hown;clear hi hq hp hown hy;go_wp2_with (first
     | (at_builtin;refine print_append_str b rfl _ _ 40 9 5 rfl rfl rfl (by kernel_rfl) v (l ++ (ss.take i).flatMap bytesOf) y rfl rfl HOWN.out HB.out HP.out.hb HLE.out ?_;intro v1 w1 ho hb hg;obtain ⟨A1,m1,c1,rfl⟩:=own_slice ho;obtain ⟨hp1,hPB,hBB,hFF⟩:=PB.put (l' := (l ++ (ss.take i).flatMap bytesOf) ++ bytesOf y) HP.out.hp HP.out.hb HPP.out HOWN.out ho hb hg;have cp1:=(blk_cell hp1 0).trans (show #[v][0]? = some v from rfl);have fz1:=blk_frozen hp1 0;have HP1:=Aside0.mk hPB;have HB1:=Aside0.mk hBB;have HF1:=Aside0.mk (HF.out.trans hFF);clear hp1 hPB hBB hFF ho hb hg)
     | fail)
    go_roundg (ss.length - (i + 1))
    case measure => have:=HI.out;have:=HIL.out;omega
    case rel => exact ⟨i + 1,by (try simp only [w4,w3]);rfl,⟨by have:=HI.out;have:=HIL.out;omega⟩,⟨by rw [HTK.out,List.flatMap_append];simpa using HP1.out⟩,HB1,HF1⟩
  · have e1n : decide (i < ss.length) = false:=decide_eq_false hi;have e1 : decide ((i : Int) < (ss.length : Int)) = false:=decide_eq_false (by omega);have HX:=Aside0.mk (show ss.take i = ss from by
     rw [show i = ss.length from by have:=HI.out;omega,List.take_length])
    clear hi HI;go_wp2
    go_end0
    exact ⟨rfl,by rw [← HX.out];simpa using HP.out,HB.out,HF.out⟩
end Go.Proofs.YtboojhadfhpdeaaGreatDoor.Q
