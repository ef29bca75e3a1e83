/- A part of the proof, made small by a program: A2, A3, F1. -/
import Derived.Deep.RegionWith
import Derived.Test.YtboojhadfhpdeaaGreatDoorVq5
import Derived.Test.YtboojhadfhpdeaaGreatDoorVq9
import Derived.Test.YtboojhadfhpdeaaGreatDoorVq10
import Derived.Test.YtboojhadfhpdeaaGreatDoorVq11
set_option linter.unusedVariables false
set_option linter.unusedSimpArgs false
set_option maxHeartbeats 8000000
set_option maxRecDepth 100000
namespace Go.Proofs.YtboojhadfhpdeaaGreatDoor.Q
open Go.RowKit Go.Proofs.YtboojhadfhpdeaaGreatDoorW.PrintWords Go.Proofs.YtboojhadfhpdeaaGreatDoorW.PrintLast Go.Proofs.YtboojhadfhpdeaaGreatDoorW.PrintMore
abbrev uU : bn:=⟨1,⟨#[]⟩,1,false,[],0⟩
abbrev nZ : bn:=⟨43,⟨#[120]⟩,0,false,[uU],0⟩
abbrev nType : bn:=⟨16,⟨#[105,110,116]⟩,0,false,[],0⟩
abbrev l7 : bn:=⟨42,⟨#[]⟩,0,false,[nType,nZ],0⟩
abbrev lM : bn:=⟨40,⟨#[]⟩,0,false,[l7],0⟩
theorem expression.of (n : bn) (r : Bool) (h : fC.f n.f0 n.f1 n.f2 n.f3 n.f4 n.f5 = some r) (A : Option Addr) (c : Nat) (w : World) (hn : ND w n A c) : Calls Tryz.prog 40 #[val n A c] w (fB r w):=fC.calls _ _ _ _ A c _ _ r w hn.C hn.le h
theorem statement.of (n : bn) (r : Bool) (h : nK.f n.f0 n.f1 n.f2 n.f3 n.f4 n.f5 = some r) (A : Option Addr) (c : Nat) (w : World) (hn : ND w n A c) : Calls Tryz.prog 42 #[val n A c] w (fB r w):=nK.calls _ _ _ _ A c _ _ r w hn.C hn.le h
theorem variable.of (n : bn) (r : Bool) (h : nU.f n.f0 n.f1 n.f2 n.f3 n.f4 n.f5 = some r) (A : Option Addr) (c : Nat) (w : World) (hn : ND w n A c) : Calls Tryz.prog 78 #[val n A c] w (fB r w):=nU.calls _ _ _ _ A c _ _ r w hn.C hn.le h
theorem ND.alloc {w : World} {x : bn} {A : Option Addr} {c : Nat} (h : ND w x A c) (o : Obj) : ND (w.alloc o) x A c:=h.below (au (Below.refl _ _) o)
theorem fB.mk {b : Bool} {w w' : World} {e : Ending} (h : e = .returned (.bool b)) (hb : Below w.heap.size w w') : fB b w e w' := ⟨h,hb⟩
theorem expression.num (A : Option Addr) (c : Nat) (w : World) (hn : ND w uU A c) : Calls Tryz.prog 40 #[.agg #[.int .i64 1,.string ⟨#[]⟩,.int .u32 1,.bool false,.slice A 0 c,.int .i64 0]] w (fB true w):=expression.of uU true (by kernel_rfl) A c w hn
theorem expression.var (A : Option Addr) (c : Nat) (w : World) (hn : ND w nZ A c) : Calls Tryz.prog 40 #[.agg #[.int .i64 43,.string ⟨#[120]⟩,.int .u32 0,.bool false,.slice A 1 c,.int .i64 0]] w (fB false w):=expression.of nZ false (by kernel_rfl) A c w hn
theorem expression.type (A : Option Addr) (c : Nat) (w : World) (hn : ND w nType A c) : Calls Tryz.prog 40 #[.agg #[.int .i64 16,.string ⟨#[105,110,116]⟩,.int .u32 0,.bool false,.slice A 0 c,.int .i64 0]] w (fB false w):=expression.of nType false (by kernel_rfl) A c w hn
theorem expression.vars (A : Option Addr) (c : Nat) (w : World) (hn : ND w l7 A c) : Calls Tryz.prog 40 #[.agg #[.int .i64 42,.string ⟨#[]⟩,.int .u32 0,.bool false,.slice A 2 c,.int .i64 0]] w (fB false w):=expression.of l7 false (by kernel_rfl) A c w hn
theorem expression.prog (A : Option Addr) (c : Nat) (w : World) (hn : ND w lM A c) : Calls Tryz.prog 40 #[.agg #[.int .i64 40,.string ⟨#[]⟩,.int .u32 0,.bool false,.slice A 1 c,.int .i64 0]] w (fB false w):=expression.of lM false (by kernel_rfl) A c w hn
theorem statement.var (A : Option Addr) (c : Nat) (w : World) (hn : ND w nZ A c) : Calls Tryz.prog 42 #[.agg #[.int .i64 43,.string ⟨#[120]⟩,.int .u32 0,.bool false,.slice A 1 c,.int .i64 0]] w (fB false w):=statement.of nZ false (by kernel_rfl) A c w hn
theorem statement.vars (A : Option Addr) (c : Nat) (w : World) (hn : ND w l7 A c) : Calls Tryz.prog 42 #[.agg #[.int .i64 42,.string ⟨#[]⟩,.int .u32 0,.bool false,.slice A 2 c,.int .i64 0]] w (fB false w):=statement.of l7 false (by kernel_rfl) A c w hn
theorem statement.prog (A : Option Addr) (c : Nat) (w : World) (hn : ND w lM A c) : Calls Tryz.prog 42 #[.agg #[.int .i64 40,.string ⟨#[]⟩,.int .u32 0,.bool false,.slice A 1 c,.int .i64 0]] w (fB false w):=statement.of lM false (by kernel_rfl) A c w hn
theorem variable.var (A : Option Addr) (c : Nat) (w : World) (hn : ND w nZ A c) : Calls Tryz.prog 78 #[.agg #[.int .i64 43,.string ⟨#[120]⟩,.int .u32 0,.bool false,.slice A 1 c,.int .i64 0]] w (fB true w):=variable.of nZ true (by kernel_rfl) A c w hn
theorem expressions.num (A : Option Addr) (c : Nat) (w : World) : Calls Tryz.prog 41 #[.agg #[.int .i64 1,.string ⟨#[]⟩,.int .u32 1,.bool false,.slice A 0 c,.int .i64 0]] w (fB true w):=by
 go_enter Tryz.func41,Tryz.ntmps41
 go_wp2
 go_ret
 exact ⟨rfl,au (Below.refl _ _) _⟩
theorem expressions.type (A : Option Addr) (c : Nat) (w : World) (hG : dG w) : Calls Tryz.prog 41 #[.agg #[.int .i64 16,.string ⟨#[105,110,116]⟩,.int .u32 0,.bool false,.slice A 0 c,.int .i64 0]] w (fB true w):=by
 have HB:=ah.mk (au (Below.refl w.heap.size w) (.cells #[.int .i64 16,.string ⟨#[105,110,116]⟩,.int .u32 0,.bool false,.slice A 0 c,.int .i64 0] 25 (0,0)));have HG:=ah.mk (hG.below HB.out);clear hG;go_enter Tryz.func41,Tryz.ntmps41
 go_wp2_with (first
  | (go_at_call 72;((refine (nJ.calls 100 _ true _ HG.out (by kernel_rfl)).mono ?_);rintro e w1 ⟨rfl,hB⟩);have HB1:=ah.mk (bQ HB.out HB.out.size hB);(have gq : NB w1 w.heap.size nType A c:=NB.below (eP w _) hB);obtain ⟨c0,c1,c2,c3,c4,c5⟩:=gq.cells;have lW:=ah.mk gq;dsimp only [nType,List.length_cons,List.length_nil] at c0 c1 c2 c3 c4 c5;clear gq;clear hB)
  | fail)
 go_ret
 exact ⟨rfl,HB1.out⟩
theorem I8.vars (A : Option Addr) (c : Nat) (w : World) : Calls Tryz.prog 76 #[.agg #[.int .i64 42,.string ⟨#[]⟩,.int .u32 0,.bool false,.slice A 2 c,.int .i64 0]] w (fB true w):=by
 go_enter Tryz.func76,Tryz.ntmps76
 go_wp2
 go_ret
 exact ⟨rfl,au (Below.refl _ _) _⟩
theorem of1.var (A : Option Addr) (c : Nat) (w : World) (q : Nat) (hq : w.heap[q]? = some (.cells #[.int .i64 43] 3 (0,0))) : Calls Tryz.prog 94 #[.agg #[.int .i64 43,.string ⟨#[120]⟩,.int .u32 0,.bool false,.slice A 1 c,.int .i64 0],.pointer (some ⟨q,0,none⟩)] w (fB true w):=by
 have HB:=ah.mk (au (Below.refl w.heap.size w) (.cells #[.int .i64 43,.string ⟨#[120]⟩,.int .u32 0,.bool false,.slice A 1 c,.int .i64 0] 25 (0,0)));have hx:=(ak (bI hq HB.out) 0).trans rfl;have HQ:=ah.mk hq;clear hq;go_enter Tryz.func94,Tryz.ntmps94
 go_wp2
 go_ret
 exact ⟨rfl,HB.out⟩
theorem Kt {g : FuncId} {caps : Array Value} {n : bn} {w : World} (h : ∀ (W : World) (A : Option Addr) (c : Nat),Below w.heap.size w W → ND W n A c → Calls Tryz.prog g (#[val n A c] ++ caps) W (fB true W)) : Asks g caps (fun _ => true) [n] w :=
 fun x hx W A c hW hn => by
  obtain rfl:=List.mem_singleton.1 hx;exact h W A c hW hn
def OfP (w : World) (e : Ending) (w' : World) : Prop:=∃ q,e = .returned (.func (.func 94) #[] #[.pointer (some ⟨q,0,none⟩)]) ∧ w'.heap[q]? = some (.cells #[.int .i64 43] 3 (0,0)) ∧ Below w.heap.size w w'
theorem of.calls (w : World) : Calls Tryz.prog 70 #[.int .i64 43] w (OfP w):=by
 go_enter Tryz.func70,Tryz.ntmps70
 go_wp2
 go_ret
 exact ⟨w.heap.size,rfl,eP w _,au (Below.refl _ _) _⟩
theorem declarations.var (A : Option Addr) (c : Nat) (w : World) (hG : dG w) (hn : ND w nZ A c) : Calls Tryz.prog 44 #[.agg #[.int .i64 43,.string ⟨#[120]⟩,.int .u32 0,.bool false,.slice A 1 c,.int .i64 0]] w (fB true w):=by
 have HB:=ah.mk (au (Below.refl w.heap.size w) (.cells #[.int .i64 43,.string ⟨#[120]⟩,.int .u32 0,.bool false,.slice A 1 c,.int .i64 0] 25 (0,0)));have HG:=ah.mk (hG.below HB.out);have HN:=ah.mk (hn.below HB.out);clear hG hn;go_enter Tryz.func44,Tryz.ntmps44
 go_wp2_with (first
  | (go_at_call 66;((refine (jK.calls 100 _ true _ HG.out (by kernel_rfl)).mono ?_);rintro e w1 ⟨rfl,hB⟩);have HB1:=ah.mk (bQ HB.out HB.out.size hB);have pW:=ah.mk (HN.out.below hB);(have gq : NB w1 w.heap.size nZ A c:=NB.below (eP w _) hB);obtain ⟨c0,c1,c2,c3,c4,c5⟩:=gq.cells;have lW:=ah.mk gq;dsimp only [nZ,List.length_cons,List.length_nil] at c0 c1 c2 c3 c4 c5;clear gq;clear hB)
  | (go_at_call 78;((refine (variable.var A c _ pW.out).mono ?_);rintro e w2 ⟨rfl,hB⟩);have HB2:=ah.mk (bQ HB1.out HB1.out.size hB);clear hB)
  | fail)
 go_ret
 exact ⟨rfl,HB2.out⟩
def Ci (ops : Array Oper) (T : Array Bool) : Nat → Nat → Array Bool → Bool
 | 0,_,listed => decide (listed = T)
 | f + 1,k,listed => decide (Region.ready .any ops listed = [k]) && Ci ops T f (k + 1) (listed.setIfInBounds k true)
theorem zH {P : Program} {ops : Array Oper} {Q : Exit → Act → World → Prop} {T : Array Bool} {g : Nat} {w : World} : ∀ (l : List Oper) (k : Nat) (listed : Array Bool) (a : Act),(∀ j,j < l.length → l[j]? = ops[k + j]?) → Ci ops T l.length k listed = true →
 wpStill P ops w (fun a' => wpAny P .any ops Q g T a' w) l a → wpAny P .any ops Q (l.length + g) listed a w
 | [],k,listed,a,_,hB,h => by
  have e : listed = T:=of_decide_eq_true hB;subst e;have h' : wpAny P .any ops Q g listed a w:=h
  simpa using h'
 | o :: l,k,listed,a,hl,hB,h => by
  have h0 : ops[k]? = some o:=by simpa using (hl 0 (by simp)).symm
  simp only [Ci,List.length_cons,Bool.and_eq_true,decide_eq_true_eq] at hB;have hs : stOp P ops w k (wpStill P ops w (fun a' => wpAny P .any ops Q g T a' w) l) a:=by unfold stOp;simp only [h0];exact h
  rw [show (o :: l).length + g = (l.length + g) + 1 by simp;omega];refine ⟨fun hc => (by rw [hB.1] at hc;cases hc),fun i hi => ?_⟩;rw [hB.1] at hi;obtain rfl : i = k:=by simpa using hi
  exact wpOp_of_stOp (fun a' h' => zH l (i + 1) _ a' (fun j hj => by have:=hl (j + 1) (by simp;omega);simpa [Nat.add_assoc,Nat.add_comm 1 j] using this) hB.2 h') hs
theorem ES {id : Nat} {l : List Oper} {Q : Exit → Act → World → Prop} {a : Act} {W : World} (n : Nat) (T : Array Bool) (hm : Tryz.prog.follows .mixedOrders = true) (hB : Ci l.toArray T n 0 (Array.replicate l.length false) = true) (hn : n ≤ l.length)
 (h : ∀ w6,Below W.heap.size W w6 → W.heap.size = w6.heap.size → wpStill Tryz.prog l.toArray w6 (fun a' => wpAny Tryz.prog .any l.toArray Q (l.length - n) T a' w6) (l.take n) a) : (Code.region id l.toArray true).wp Tryz.prog Q a W:=by
 refine wp_region_any hm ?_;have e : (l.take n).length = n:=by simp;omega
 have h1:=zH (Q:=Q) (T:=T) (g:=l.length - n) (l.take n) 0 (Array.replicate l.length false) a (fun j hj => by
  rw [e] at hj;simp [hj]) (by rw [e];exact hB) (h W.drew (Below.refl _ _).drew rfl)
 rw [e,show n + (l.length - n) = l.length by omega] at h1
 simpa using h1
theorem nM (ad : Addr) : ad.add 0 = ad:=by simp [Addr.add]
theorem AY {g : FuncId} {n : bn} {w : World} (h : ∀ (W : World) (A : Option Addr) (c : Nat),Below w.heap.size w W → ND W n A c → Calls Tryz.prog g #[val n A c] W (fB true W)) : Asks g #[] (fun _ => true) [n] w :=
 Kt (fun W A c hW hn => by rw [Array.append_empty];exact h W A c hW hn)
theorem of1.asks (q : Nat) (w : World) (hq : w.heap[q]? = some (.cells #[.int .i64 43] 3 (0,0))) : Asks 94 #[.pointer (some ⟨q,0,none⟩)] (fun _ => true) [nZ] w :=
 Kt (fun W A c hW _ => of1.var A c W q (bI hq hW))
theorem every.list (xs : List bn) (A : Option Addr) (c : Nat) (w : World) (hC : Kd.C k25 w A xs.length xs) (g : FuncId) (caps : Array Value) (hent : Enters Tryz.prog g) (h : Asks g caps (fun _ => true) xs w) :
 Calls Tryz.prog 33 #[.slice A xs.length c,.func (.func g) #[] caps] w (fB true w):=by
 have e:=every.calls xs A c w hC g caps (fun _ => true) hent h
 rwa [show xs.all (fun _ => true) = true from by simp] at e
theorem every.none (A : Option Addr) (c : Nat) (w : World) (hC : Kd.C k25 w A 0 []) (g : FuncId) (caps : Array Value) (hent : Enters Tryz.prog g) : Calls Tryz.prog 33 #[.slice A 0 c,.func (.func g) #[] caps] w (fB true w) :=
 every.list [] A c w hC g caps hent (fun x hx => by cases hx)
theorem every.one (n : bn) (A : Option Addr) (c : Nat) (w : World) (hC : Kd.C k25 w A 1 [n]) (g : FuncId) (caps : Array Value) (hent : Enters Tryz.prog g) (h : Asks g caps (fun _ => true) [n] w) :
 Calls Tryz.prog 33 #[.slice A 1 c,.func (.func g) #[] caps] w (fB true w):=every.list [n] A c w hC g caps hent h
theorem every.two (n m : bn) (A : Option Addr) (c : Nat) (w : World) (hC : Kd.C k25 w A 2 [n,m]) (g : FuncId) (caps : Array Value) (hent : Enters Tryz.prog g) (h : Asks g caps (fun _ => true) [n,m] w) :
 Calls Tryz.prog 33 #[.slice A 2 c,.func (.func g) #[] caps] w (fB true w):=every.list [n,m] A c w hC g caps hent h
theorem declarations.prog (A : Option Addr) (c : Nat) (w : World) (hG : dG w) (hn : ND w lM A c) : Calls Tryz.prog 44 #[.agg #[.int .i64 40,.string ⟨#[]⟩,.int .u32 0,.bool false,.slice A 1 c,.int .i64 0]] w (fB true w):=by
 have HB:=ah.mk (au (Below.refl w.heap.size w) (.cells #[.int .i64 40,.string ⟨#[]⟩,.int .u32 0,.bool false,.slice A 1 c,.int .i64 0] 25 (0,0)));have HG:=ah.mk (hG.below HB.out);have HN:=ah.mk (hn.below HB.out);have HE:=ah.mk (show Enters Tryz.prog 76 from enters_of Tryz.func76 (by kernel_rfl) rfl);clear hG hn;go_enter Tryz.func44,Tryz.ntmps44
 go_wp2_with (first
  | (go_at_call 66;((refine (jK.calls 100 _ false _ HG.out (by kernel_rfl)).mono ?_);rintro e w1 ⟨rfl,hB⟩);have HB1:=ah.mk (bQ HB.out HB.out.size hB);have pW:=ah.mk (HN.out.below hB);(have gq : NB w1 w.heap.size lM A c:=NB.below (eP w _) hB);obtain ⟨c0,c1,c2,c3,c4,c5⟩:=gq.cells;have lW:=ah.mk gq;dsimp only [lM,List.length_cons,List.length_nil] at c0 c1 c2 c3 c4 c5;clear gq;clear hB)
  | (go_at_call 33;((refine (every.one l7 A c _ pW.out.C 76 #[] HE.out (AY (fun W A c _ hn => I8.vars A c W))).mono ?_);rintro e w2 ⟨rfl,hB⟩);have HB2:=ah.mk (bQ HB1.out HB1.out.size hB);clear hB)
  | fail)
 go_ret
 exact ⟨rfl,HB2.out⟩
theorem declarations.vars (A : Option Addr) (c : Nat) (w : World) (hG : dG w) (hn : ND w l7 A c) : Calls Tryz.prog 44 #[.agg #[.int .i64 42,.string ⟨#[]⟩,.int .u32 0,.bool false,.slice A 2 c,.int .i64 0]] w (fB true w):=by
 have hle : 2 ≤ c:=hn.le;obtain ⟨ad,A',c',rfl,_,k0,_⟩:=jo hn.C 0 (by decide);rw [Nat.zero_mul,nM] at k0;have HB:=ah.mk (au (Below.refl w.heap.size w) (.cells #[.int .i64 42,.string ⟨#[]⟩,.int .u32 0,.bool false,.slice (some ad) 2 c,.int .i64 0] 25 (0,0)));have HG:=ah.mk (hG.below HB.out);have HN:=ah.mk (hn.below HB.out);have jq:=ah.mk (bf HB.out k0);have HLE:=ah.mk hle;have HE:=ah.mk (show Enters Tryz.prog 94 from enters_of Tryz.func94 (by kernel_rfl) rfl);clear hG hn k0 hle;go_enter Tryz.func44,Tryz.ntmps44
 go_wp2_with (first
  | (go_at_call 66;((refine (jK.calls 100 _ false _ HG.out (by kernel_rfl)).mono ?_);rintro e w1 ⟨rfl,hB⟩);have HB1:=ah.mk (bQ HB.out HB.out.size hB);have pW:=ah.mk (HN.out.below hB);have jm:=ah.mk (bf hB jq.out);(have gq : NB w1 w.heap.size l7 (some ad) c:=NB.below (eP w _) hB);obtain ⟨c0,c1,c2,c3,c4,c5⟩:=gq.cells;have lW:=ah.mk gq;dsimp only [l7,List.length_cons,List.length_nil] at c0 c1 c2 c3 c4 c5;clear gq;clear hB)
  | fail)
 have k0:=jm.out;have HS1:=ah.mk (show Kd.C k25 w1 (some ⟨ad.block,ad.off + 6,none⟩) 1 [nZ] from by
  have h1:=Kd.xU (m:=1) pW.out.C (by decide) HLE.out;rw [if_neg (by have:=HLE.out;omega)] at h1;exact h1)
 refine ES 20 (#[true,true,true,true,true,true,true,true,true,true,true,true,true,true,true,true,true,true,true,true,false,false,false,false,false,false,false]) (by kernel_rfl) (by kernel_rfl) (by decide) (fun w6 h6 h6' => ?_);have HW6:=ah.mk (And.intro h6 h6');clear c0 c1 c2 c3 c4 c5 k0;have HX6 : NB w6 w.heap.size l7 (some ad) c:=NB.below lW.out h6;obtain ⟨c0,c1,c2,c3,c4,c5⟩:=HX6.cells;dsimp only [l7,List.length_cons,List.length_nil] at c0 c1 c2 c3 c4 c5;have k0 : w6.cell? ad = some (.int .i64 16):=bf h6 jm.out;have hc1 : ¬ c = 1:=by have:=HLE.out;omega
 clear HX6 h6 h6';simp only [List.take_succ_cons,List.take_zero];repeat still_step
 refine wpStill_nil ?_;refine wpAny_ready (rs:=[20]) (by kernel_rfl) (by simp) (AllReady.cons rfl (fun K hK => ?_) AllReady.nil);go_simp;refine hK _ _ ?_;clear hK K;refine wpAny_ready (rs:=[21,23]) (by kernel_rfl) (by simp) (AllReady.cons rfl (fun K hK => ?_) (AllReady.cons rfl (fun K hK => ?_) AllReady.nil))
 · go_simp;refine hK _ _ ?_;clear hK K;refine wpAny_ready (rs:=[22,23]) (by kernel_rfl) (by simp) (AllReady.cons rfl (fun K hK => ?_) (AllReady.cons rfl (fun K hK => ?_) AllReady.nil))
   · go_simp;refine hK _ _ ?_;clear hK K;refine wpAny_ready (rs:=[23]) (by kernel_rfl) (by simp) (AllReady.cons rfl (fun K hK => ?_) AllReady.nil);go_simp;go_wp2_with (first
      | (go_at_call 70;refine (of.calls _).mono ?_;rintro e w2 ⟨q,rfl,hq,hB⟩;have HB2:=ah.mk (bQ HB1.out HB1.out.size (bQ HW6.out.1 (Nat.le_of_eq HW6.out.2) hB));have HQ:=ah.mk hq;have HS2:=ah.mk (Kd.dP (Kd.dP HS1.out HW6.out.1) hB);clear hq hB)
      | fail)
     refine wpAny_ready (rs:=[24]) (by kernel_rfl) (by simp) (AllReady.cons rfl (fun K hK => ?_) AllReady.nil);go_simp;go_wp2_with (first
      | (go_at_call 33;refine (every.one nZ (some ⟨ad.block,ad.off + 6,none⟩) _ _ HS2.out 94 #[.pointer (some ⟨q,0,none⟩)] HE.out (of1.asks q _ HQ.out)).mono ?_;rintro e w3 ⟨rfl,hB⟩;have HB3:=ah.mk (bQ HB2.out HB2.out.size hB);clear hB)
      | fail)
     refine wpAny_ready (rs:=[25]) (by kernel_rfl) (by simp) (AllReady.cons rfl (fun K hK => ?_) AllReady.nil);go_simp;refine hK _ _ ?_;clear hK K;refine wpAny_ready (rs:=[26]) (by kernel_rfl) (by simp) (AllReady.cons rfl (fun K hK => ?_) AllReady.nil);go_simp;refine hK _ _ ?_;clear hK K;refine wpAny_done (by kernel_rfl) ?_ _;go_wp2
     go_ret
     exact ⟨rfl,HB3.out⟩
   · go_simp;go_wp2_with (first
      | (go_at_call 70;refine (of.calls _).mono ?_;rintro e w2 ⟨q,rfl,hq,hB⟩;have HB2:=ah.mk (bQ HB1.out HB1.out.size (bQ HW6.out.1 (Nat.le_of_eq HW6.out.2) hB));have HQ:=ah.mk hq;have HS2:=ah.mk (Kd.dP (Kd.dP HS1.out HW6.out.1) hB);clear hq hB)
      | fail)
     refine wpAny_ready (rs:=[22]) (by kernel_rfl) (by simp) (AllReady.cons rfl (fun K hK => ?_) AllReady.nil);go_simp;refine hK _ _ ?_;clear hK K;refine wpAny_ready (rs:=[24]) (by kernel_rfl) (by simp) (AllReady.cons rfl (fun K hK => ?_) AllReady.nil);go_simp;go_wp2_with (first
      | (go_at_call 33;refine (every.one nZ (some ⟨ad.block,ad.off + 6,none⟩) _ _ HS2.out 94 #[.pointer (some ⟨q,0,none⟩)] HE.out (of1.asks q _ HQ.out)).mono ?_;rintro e w3 ⟨rfl,hB⟩;have HB3:=ah.mk (bQ HB2.out HB2.out.size hB);clear hB)
      | fail)
     refine wpAny_ready (rs:=[25]) (by kernel_rfl) (by simp) (AllReady.cons rfl (fun K hK => ?_) AllReady.nil);go_simp;refine hK _ _ ?_;clear hK K;refine wpAny_ready (rs:=[26]) (by kernel_rfl) (by simp) (AllReady.cons rfl (fun K hK => ?_) AllReady.nil);go_simp;refine hK _ _ ?_;clear hK K;refine wpAny_done (by kernel_rfl) ?_ _;go_wp2
     go_ret
     exact ⟨rfl,HB3.out⟩
 · go_simp;go_wp2_with (first
    | (go_at_call 70;refine (of.calls _).mono ?_;rintro e w2 ⟨q,rfl,hq,hB⟩;have HB2:=ah.mk (bQ HB1.out HB1.out.size (bQ HW6.out.1 (Nat.le_of_eq HW6.out.2) hB));have HQ:=ah.mk hq;have HS2:=ah.mk (Kd.dP (Kd.dP HS1.out HW6.out.1) hB);clear hq hB)
    | fail)
   refine wpAny_ready (rs:=[21]) (by kernel_rfl) (by simp) (AllReady.cons rfl (fun K hK => ?_) AllReady.nil);go_simp;refine hK _ _ ?_;clear hK K;refine wpAny_ready (rs:=[22]) (by kernel_rfl) (by simp) (AllReady.cons rfl (fun K hK => ?_) AllReady.nil);go_simp;refine hK _ _ ?_;clear hK K;refine wpAny_ready (rs:=[24]) (by kernel_rfl) (by simp) (AllReady.cons rfl (fun K hK => ?_) AllReady.nil);go_simp;go_wp2_with (first
    | (go_at_call 33;refine (every.one nZ (some ⟨ad.block,ad.off + 6,none⟩) _ _ HS2.out 94 #[.pointer (some ⟨q,0,none⟩)] HE.out (of1.asks q _ HQ.out)).mono ?_;rintro e w3 ⟨rfl,hB⟩;have HB3:=ah.mk (bQ HB2.out HB2.out.size hB);clear hB)
    | fail)
   refine wpAny_ready (rs:=[25]) (by kernel_rfl) (by simp) (AllReady.cons rfl (fun K hK => ?_) AllReady.nil);go_simp;refine hK _ _ ?_;clear hK K;refine wpAny_ready (rs:=[26]) (by kernel_rfl) (by simp) (AllReady.cons rfl (fun K hK => ?_) AllReady.nil);go_simp;refine hK _ _ ?_;clear hK K;refine wpAny_done (by kernel_rfl) ?_ _;go_wp2
   go_ret
   exact ⟨rfl,HB3.out⟩
def FnAsk (w : World) (f : Value) (p : bn → Bool) (x : bn) : Prop :=
 ∃ g caps,f = .func (.func g) #[] caps ∧ Enters Tryz.prog g ∧ ∀ (W : World) (A : Option Addr) (c : Nat),Below w.heap.size w W → ND W x A c → Calls Tryz.prog g (#[val x A c] ++ caps) W fun e W' => e = .returned (.bool (p x)) ∧ Below W.heap.size W W'
def zI (ps : List (bn → Bool)) (i : Nat) : bn → Bool:=ps.getD i (fun _ => false)
def oD (ps : List (bn → Bool)) (xs : List bn) (i : Nat) : Bool:=(List.range i).all fun j => zI ps j (nd xs j)
theorem I9 (ps : List (bn → Bool)) (xs : List bn) (i : Nat) : oD ps xs (i + 1) = (oD ps xs i && zI ps i (nd xs i)):=by
 simp [oD,List.range_succ]
theorem ET {ps : List (bn → Bool)} {xs : List bn} {i n : Nat} (h : i < n) (hp : zI ps i (nd xs i) = false) : oD ps xs n = false:=by
 cases e : oD ps xs n with
 | false => rfl
 | true =>
  have h1:=List.all_eq_true.1 e i (List.mem_range.2 h);rw [hp] at h1;cases h1
def fG (ps : List (bn → Bool)) (xs : List bn) : Bool:=decide (xs.length = ps.length) && oD ps xs ps.length
theorem shape.calls (xs : List bn) (A : Option Addr) (c : Nat) (w : World) (hC : Kd.C k25 w A xs.length xs) (q cap : Nat) (fs : List Value) (ps : List (bn → Bool)) (hn : fs.length = ps.length) (h4 : ps.length ≤ 8)
 (hq : w.heap[q]? = some (.cells fs.toArray 29 (0,0))) (h : ∀ (i : Nat) (f : Value),fs[i]? = some f → i < xs.length → FnAsk w f (zI ps i) (nd xs i)) :
 Calls Tryz.prog 67 #[.slice A xs.length c,.slice (some ⟨q,0,none⟩) ps.length cap] w (fB (fG ps xs) w):=by
 have HC:=ah.mk hC;have HA:=ah.mk h;have HN:=ah.mk hC.2.1;have HL:=ah.mk hn;have H4:=ah.mk h4;have HQ:=ah.mk hq;by_cases hlen : xs.length = ps.length
 · have HLEN:=ah.mk hlen;have e2 : decide ((xs.length : Int) ≠ (ps.length : Int)) = false:=decide_eq_false (by omega);have e3 : ((xs.length : Int) = (ps.length : Int)):=by omega
   clear hC h hn h4 hq hlen;go_enter Tryz.func67,Tryz.ntmps67
   go_wp2
   go_loopg [14] ps.length (fun kq v w' => ∃ i : Nat,v = .int .i64 i ∧ ah (i + kq = ps.length) ∧ ah (oD ps xs i = true) ∧ ah (Below w.heap.size w w'))
   case atStart => exact ⟨0,rfl,⟨by omega⟩,⟨rfl⟩,⟨Below.refl _ _⟩⟩
   case round =>
    obtain ⟨i,rfl,HI,HP,HB⟩:=hrel;by_cases hi : i < ps.length
    · have EP : decide (i < ps.length) = true:=decide_eq_true hi;have e1 : decide ((i : Int) < (ps.length : Int)) = true:=decide_eq_true (by omega);have p1 : (0 : Int) ≤ (i : Int):=by omega
      have q1 : (i : Int) < (ps.length : Int):=by omega
      have q2 : (i : Int) < (xs.length : Int):=by have:=HLEN.out;omega
      have hix : i < xs.length:=by have:=HLEN.out;omega
      have HC2:=ah.mk (Kd.dP HC.out HB.out);obtain ⟨ad,A',c',rfl,hnd,c0,c1,c2,c3,c4,c5⟩:=jo HC2.out i hix;have hif : i < fs.length:=by have:=HL.out;omega
      obtain ⟨g,caps,hf,hent,hask⟩:=HA.out i _ (List.getElem?_eq_getElem hif) hix;have cf:=(ak (bI HQ.out HB.out) i).trans (show fs.toArray[i]? = some (.func (.func g) #[] caps) from by rw [← hf];simp [hif]);have HND:=ah.mk hnd;have qg:=ah.mk hi;have HASK:=ah.mk (hask _ A' c' HB.out HND.out);clear hi hnd hix hif hf hask;unfold Enters at hent;have w3 : wrap64 ((i : Int) + 1) = (i : Int) + 1:=by have:=H4.out;have:=qg.out;unfold wrap64;omega
      have w4 : IntKind.i64.wrap ((i : Int) + 1) = (i : Int) + 1:=(bW _).trans w3;go_wp2_with fail
      refine HASK.out.mono ?_;rintro e w3 ⟨rfl,hB⟩;have HB3:=ah.mk (bQ HB.out HB.out.size hB);clear hB c0 c1 c2 c3 c4 c5 cf;cases hp : zI ps i (nd xs i) with
      | true =>
       have HPT:=ah.mk hp;clear hp;go_wp2
       go_roundg (ps.length - (i + 1))
       case measure => have:=HI.out;have:=qg.out;omega
       case rel => exact ⟨i + 1,by (try simp only [w4,w3]);rfl,⟨by have:=HI.out;have:=qg.out;omega⟩,⟨by rw [I9,HP.out,HPT.out];rfl⟩,HB3⟩
      | false =>
       have HPT:=ah.mk hp;clear hp;go_wp2
       go_ret
       exact ⟨by rw [show fG ps xs = false from by unfold fG;rw [ET qg.out HPT.out];simp];rfl,HB3.out⟩
    · have EP : decide (i < ps.length) = false:=decide_eq_false hi;have e1 : decide ((i : Int) < (ps.length : Int)) = false:=decide_eq_false (by omega);have HX:=ah.mk (show fG ps xs = true from by
       have h1:=HP.out;rw [show i = ps.length from by have:=HI.out;omega] at h1;unfold fG;rw [h1,decide_eq_true HLEN.out];rfl)
      clear hi HI HP;go_wp2
      go_ret
      exact ⟨by rw [HX.out];rfl,HB.out⟩
 · have e2 : decide ((xs.length : Int) ≠ (ps.length : Int)) = true:=decide_eq_true (by omega);have e3 : ¬ ((xs.length : Int) = (ps.length : Int)):=by omega
   have HX:=ah.mk (show fG ps xs = false by simp [fG,hlen]);clear hC h hn h4 hq hlen;go_enter Tryz.func67,Tryz.ntmps67
   go_wp2
   go_ret
   exact ⟨by rw [HX.out];rfl,Below.refl _ _⟩
end Go.Proofs.YtboojhadfhpdeaaGreatDoor.Q
