/- A part of the proof, made small by a program: A2, A3, A4, A5. -/
import Derived.Deep.RegionWith
import Derived.Test.YtboojhadfhpdeaaGreatDoorVp4
import Derived.Test.YtboojhadfhpdeaaGreatDoorVp5
set_option linter.unusedVariables false
set_option linter.unusedSimpArgs false
set_option maxHeartbeats 8000000
set_option maxRecDepth 100000
namespace Go.Proofs.YtboojhadfhpdeaaGreatDoor.Q
open Go.RowKit Go.Proofs.YtboojhadfhpdeaaGreatDoorW.PrintWords Go.Proofs.YtboojhadfhpdeaaGreatDoorW.PrintLast Go.Proofs.YtboojhadfhpdeaaGreatDoorW.PrintMore
abbrev qI : ak:=⟨1,⟨#[]⟩,1,false,[],0⟩
abbrev lu : ak:=⟨43,⟨#[120]⟩,0,false,[qI],0⟩
abbrev nType : ak:=⟨16,⟨#[105,110,116]⟩,0,false,[],0⟩
abbrev jI : ak:=⟨42,⟨#[]⟩,0,false,[nType,lu],0⟩
abbrev jv : ak:=⟨40,⟨#[]⟩,0,false,[jI],0⟩
theorem expression.of (n : ak) (r : Bool) (h : dn.f n.f0 n.f1 n.f2 n.f3 n.f4 n.f5 = some r) (A : Option Addr) (c : Nat) (w : World) (hn : ND w n A c) : Calls Tryz.prog 40 #[val n A c] w (bg r w):=dn.calls _ _ _ _ A c _ _ r w hn.C hn.le h
theorem statement.of (n : ak) (r : Bool) (h : kF.f n.f0 n.f1 n.f2 n.f3 n.f4 n.f5 = some r) (A : Option Addr) (c : Nat) (w : World) (hn : ND w n A c) : Calls Tryz.prog 42 #[val n A c] w (bg r w):=kF.calls _ _ _ _ A c _ _ r w hn.C hn.le h
theorem variable.of (n : ak) (r : Bool) (h : kV.f n.f0 n.f1 n.f2 n.f3 n.f4 n.f5 = some r) (A : Option Addr) (c : Nat) (w : World) (hn : ND w n A c) : Calls Tryz.prog 78 #[val n A c] w (bg r w):=kV.calls _ _ _ _ A c _ _ r w hn.C hn.le h
theorem expression.num (A : Option Addr) (c : Nat) (w : World) (hn : ND w qI A c) : Calls Tryz.prog 40 #[.agg #[.int .i64 1,.string ⟨#[]⟩,.int .u32 1,.bool false,.slice A 0 c,.int .i64 0]] w (bg true w):=expression.of qI true (by kernel_rfl) A c w hn
theorem expression.var (A : Option Addr) (c : Nat) (w : World) (hn : ND w lu A c) : Calls Tryz.prog 40 #[.agg #[.int .i64 43,.string ⟨#[120]⟩,.int .u32 0,.bool false,.slice A 1 c,.int .i64 0]] w (bg false w):=expression.of lu false (by kernel_rfl) A c w hn
theorem expression.type (A : Option Addr) (c : Nat) (w : World) (hn : ND w nType A c) : Calls Tryz.prog 40 #[.agg #[.int .i64 16,.string ⟨#[105,110,116]⟩,.int .u32 0,.bool false,.slice A 0 c,.int .i64 0]] w (bg false w):=expression.of nType false (by kernel_rfl) A c w hn
theorem expression.vars (A : Option Addr) (c : Nat) (w : World) (hn : ND w jI A c) : Calls Tryz.prog 40 #[.agg #[.int .i64 42,.string ⟨#[]⟩,.int .u32 0,.bool false,.slice A 2 c,.int .i64 0]] w (bg false w):=expression.of jI false (by kernel_rfl) A c w hn
theorem expression.prog (A : Option Addr) (c : Nat) (w : World) (hn : ND w jv A c) : Calls Tryz.prog 40 #[.agg #[.int .i64 40,.string ⟨#[]⟩,.int .u32 0,.bool false,.slice A 1 c,.int .i64 0]] w (bg false w):=expression.of jv false (by kernel_rfl) A c w hn
theorem statement.var (A : Option Addr) (c : Nat) (w : World) (hn : ND w lu A c) : Calls Tryz.prog 42 #[.agg #[.int .i64 43,.string ⟨#[120]⟩,.int .u32 0,.bool false,.slice A 1 c,.int .i64 0]] w (bg false w):=statement.of lu false (by kernel_rfl) A c w hn
theorem statement.vars (A : Option Addr) (c : Nat) (w : World) (hn : ND w jI A c) : Calls Tryz.prog 42 #[.agg #[.int .i64 42,.string ⟨#[]⟩,.int .u32 0,.bool false,.slice A 2 c,.int .i64 0]] w (bg false w):=statement.of jI false (by kernel_rfl) A c w hn
theorem statement.prog (A : Option Addr) (c : Nat) (w : World) (hn : ND w jv A c) : Calls Tryz.prog 42 #[.agg #[.int .i64 40,.string ⟨#[]⟩,.int .u32 0,.bool false,.slice A 1 c,.int .i64 0]] w (bg false w):=statement.of jv false (by kernel_rfl) A c w hn
theorem variable.var (A : Option Addr) (c : Nat) (w : World) (hn : ND w lu A c) : Calls Tryz.prog 78 #[.agg #[.int .i64 43,.string ⟨#[120]⟩,.int .u32 0,.bool false,.slice A 1 c,.int .i64 0]] w (bg true w):=variable.of lu true (by kernel_rfl) A c w hn
theorem expressions.num (A : Option Addr) (c : Nat) (w : World) : Calls Tryz.prog 41 #[.agg #[.int .i64 1,.string ⟨#[]⟩,.int .u32 1,.bool false,.slice A 0 c,.int .i64 0]] w (bg true w):=by
 go_enter Tryz.func41,Tryz.ntmps41
 go_wp2
 go_ret
 exact ⟨rfl,Z7 (Below.refl _ _) _⟩
theorem expressions.type (A : Option Addr) (c : Nat) (w : World) (hG : aH w) : Calls Tryz.prog 41 #[.agg #[.int .i64 16,.string ⟨#[105,110,116]⟩,.int .u32 0,.bool false,.slice A 0 c,.int .i64 0]] w (bg true w):=by
 have HB:=Am (Z7 (Below.refl w.heap.size w) (.cells #[.int .i64 16,.string ⟨#[105,110,116]⟩,.int .u32 0,.bool false,.slice A 0 c,.int .i64 0] 25 (0,0)));have HG:=Am (hG.below HB.out);clear hG;go_enter Tryz.func41,Tryz.ntmps41
 go_wp2_with (first
  | (go_at_call 72;((refine (oq.calls 100 _ true _ HG.out (by kernel_rfl)).mono ?_);rintro e w1 ⟨rfl,hB⟩);have HB1:=Am (aJ HB.out HB.out.size hB);(have dR : NB w1 w.heap.size nType A c:=NB.below (cO w _) hB);obtain ⟨c0,c1,c2,c3,c4,c5⟩:=dR.cells;have jE:=Am dR;dsimp only [nType,List.length_cons,List.length_nil] at c0 c1 c2 c3 c4 c5;clear dR;clear hB)
  | fail)
 go_ret
 exact ⟨rfl,HB1.out⟩
theorem DU.vars (A : Option Addr) (c : Nat) (w : World) : Calls Tryz.prog 76 #[.agg #[.int .i64 42,.string ⟨#[]⟩,.int .u32 0,.bool false,.slice A 2 c,.int .i64 0]] w (bg true w):=by
 go_enter Tryz.func76,Tryz.ntmps76
 go_wp2
 go_ret
 exact ⟨rfl,Z7 (Below.refl _ _) _⟩
theorem of1.var (A : Option Addr) (c : Nat) (w : World) (q : Nat) (hq : w.heap[q]? = some (.cells #[.int .i64 43] 3 (0,0))) : Calls Tryz.prog 94 #[.agg #[.int .i64 43,.string ⟨#[120]⟩,.int .u32 0,.bool false,.slice A 1 c,.int .i64 0],.pointer (some ⟨q,0,none⟩)] w (bg true w):=by
 have HB:=Am (Z7 (Below.refl w.heap.size w) (.cells #[.int .i64 43,.string ⟨#[120]⟩,.int .u32 0,.bool false,.slice A 1 c,.int .i64 0] 25 (0,0)));have hx:=(Z5 (o7 hq HB.out) 0).trans rfl;have HQ:=Am hq;clear hq;go_enter Tryz.func94,Tryz.ntmps94
 go_wp2
 go_ret
 exact ⟨rfl,HB.out⟩
theorem Fj {g : FuncId} {caps : Array Value} {n : ak} {w : World} (h : ∀ (W : World) (A : Option Addr) (c : Nat),Below w.heap.size w W → ND W n A c → Calls Tryz.prog g (#[val n A c] ++ caps) W (bg true W)) : Asks g caps (fun _ => true) [n] w :=
 fun x hx W A c hW hn => by
  obtain rfl:=List.mem_singleton.1 hx;exact h W A c hW hn
def OfP (w : World) (e : Ending) (w' : World) : Prop:=∃ q,e = .returned (.func (.func 94) #[] #[.pointer (some ⟨q,0,none⟩)]) ∧ w'.heap[q]? = some (.cells #[.int .i64 43] 3 (0,0)) ∧ Below w.heap.size w w'
theorem of.calls (w : World) : Calls Tryz.prog 70 #[.int .i64 43] w (OfP w):=by
 go_enter Tryz.func70,Tryz.ntmps70
 go_wp2
 go_ret
 exact ⟨w.heap.size,rfl,cO w _,Z7 (Below.refl _ _) _⟩
theorem declarations.var (A : Option Addr) (c : Nat) (w : World) (hG : aH w) (hn : ND w lu A c) : Calls Tryz.prog 44 #[.agg #[.int .i64 43,.string ⟨#[120]⟩,.int .u32 0,.bool false,.slice A 1 c,.int .i64 0]] w (bg true w):=by
 have HB:=Am (Z7 (Below.refl w.heap.size w) (.cells #[.int .i64 43,.string ⟨#[120]⟩,.int .u32 0,.bool false,.slice A 1 c,.int .i64 0] 25 (0,0)));have HG:=Am (hG.below HB.out);have HN:=Am (hn.below HB.out);clear hG hn;go_enter Tryz.func44,Tryz.ntmps44
 go_wp2_with (first
  | (go_at_call 66;((refine (jB.calls 100 _ true _ HG.out (by kernel_rfl)).mono ?_);rintro e w1 ⟨rfl,hB⟩);have HB1:=Am (aJ HB.out HB.out.size hB);have iO:=Am (HN.out.below hB);(have dR : NB w1 w.heap.size lu A c:=NB.below (cO w _) hB);obtain ⟨c0,c1,c2,c3,c4,c5⟩:=dR.cells;have jE:=Am dR;dsimp only [lu,List.length_cons,List.length_nil] at c0 c1 c2 c3 c4 c5;clear dR;clear hB)
  | (go_at_call 78;((refine (variable.var A c _ iO.out).mono ?_);rintro e w2 ⟨rfl,hB⟩);have HB2:=Am (aJ HB1.out HB1.out.size hB);clear hB)
  | fail)
 go_ret
 exact ⟨rfl,HB2.out⟩
def zK (ops : Array Oper) (T : Array Bool) : Nat → Nat → Array Bool → Bool
 | 0,_,listed => decide (listed = T)
 | f + 1,k,listed => decide (Region.ready .any ops listed = [k]) && zK ops T f (k + 1) (listed.setIfInBounds k true)
theorem xk {P : Program} {ops : Array Oper} {Q : Exit → Act → World → Prop} {T : Array Bool} {g : Nat} {w : World} : ∀ (l : List Oper) (k : Nat) (listed : Array Bool) (a : Act),(∀ j,j < l.length → l[j]? = ops[k + j]?) → zK ops T l.length k listed = true →
 wpStill P ops w (fun a' => wpAny P .any ops Q g T a' w) l a → wpAny P .any ops Q (l.length + g) listed a w
 | [],k,listed,a,_,hB,h => by
  have e : listed = T:=of_decide_eq_true hB;subst e;have h' : wpAny P .any ops Q g listed a w:=h
  simpa using h'
 | o :: l,k,listed,a,hl,hB,h => by
  have h0 : ops[k]? = some o:=by simpa using (hl 0 (by simp)).symm
  simp only [zK,List.length_cons,Bool.and_eq_true,decide_eq_true_eq] at hB;have hs : stOp P ops w k (wpStill P ops w (fun a' => wpAny P .any ops Q g T a' w) l) a:=by unfold stOp;simp only [h0];exact h
  rw [show (o :: l).length + g = (l.length + g) + 1 by simp;omega];refine ⟨fun hc => (by rw [hB.1] at hc;cases hc),fun i hi => ?_⟩;rw [hB.1] at hi;obtain rfl : i = k:=by simpa using hi
  exact wpOp_of_stOp (fun a' h' => xk l (i + 1) _ a' (fun j hj => by have:=hl (j + 1) (by simp;omega);simpa [Nat.add_assoc,Nat.add_comm 1 j] using this) hB.2 h') hs
theorem Bv {id : Nat} {l : List Oper} {Q : Exit → Act → World → Prop} {a : Act} {W : World} (n : Nat) (T : Array Bool) (hm : Tryz.prog.follows .mixedOrders = true) (hB : zK l.toArray T n 0 (Array.replicate l.length false) = true) (hn : n ≤ l.length)
 (h : ∀ w6,Below W.heap.size W w6 → W.heap.size = w6.heap.size → wpStill Tryz.prog l.toArray w6 (fun a' => wpAny Tryz.prog .any l.toArray Q (l.length - n) T a' w6) (l.take n) a) : (Code.region id l.toArray true).wp Tryz.prog Q a W:=by
 refine wp_region_any hm ?_;have e : (l.take n).length = n:=by simp;omega
 have h1:=xk (Q:=Q) (T:=T) (g:=l.length - n) (l.take n) 0 (Array.replicate l.length false) a (fun j hj => by
  rw [e] at hj;simp [hj]) (by rw [e];exact hB) (h W.drew (Below.refl _ _).drew rfl)
 rw [e,show n + (l.length - n) = l.length by omega] at h1
 simpa using h1
theorem kG (ad : Addr) : ad.add 0 = ad:=by simp [Addr.add]
theorem yH {g : FuncId} {n : ak} {w : World} (h : ∀ (W : World) (A : Option Addr) (c : Nat),Below w.heap.size w W → ND W n A c → Calls Tryz.prog g #[val n A c] W (bg true W)) : Asks g #[] (fun _ => true) [n] w :=
 Fj (fun W A c hW hn => by rw [Array.append_empty];exact h W A c hW hn)
theorem of1.asks (q : Nat) (w : World) (hq : w.heap[q]? = some (.cells #[.int .i64 43] 3 (0,0))) : Asks 94 #[.pointer (some ⟨q,0,none⟩)] (fun _ => true) [lu] w :=
 Fj (fun W A c hW _ => of1.var A c W q (o7 hq hW))
theorem every.list (xs : List ak) (A : Option Addr) (c : Nat) (w : World) (hC : Kd.C k25 w A xs.length xs) (g : FuncId) (caps : Array Value) (hent : Enters Tryz.prog g) (h : Asks g caps (fun _ => true) xs w) :
 Calls Tryz.prog 33 #[.slice A xs.length c,.func (.func g) #[] caps] w (bg true w):=by
 have e:=every.calls xs A c w hC g caps (fun _ => true) hent h
 rwa [show xs.all (fun _ => true) = true from by simp] at e
theorem every.none (A : Option Addr) (c : Nat) (w : World) (hC : Kd.C k25 w A 0 []) (g : FuncId) (caps : Array Value) (hent : Enters Tryz.prog g) : Calls Tryz.prog 33 #[.slice A 0 c,.func (.func g) #[] caps] w (bg true w) :=
 every.list [] A c w hC g caps hent (fun x hx => by cases hx)
theorem every.one (n : ak) (A : Option Addr) (c : Nat) (w : World) (hC : Kd.C k25 w A 1 [n]) (g : FuncId) (caps : Array Value) (hent : Enters Tryz.prog g) (h : Asks g caps (fun _ => true) [n] w) :
 Calls Tryz.prog 33 #[.slice A 1 c,.func (.func g) #[] caps] w (bg true w):=every.list [n] A c w hC g caps hent h
theorem every.two (n m : ak) (A : Option Addr) (c : Nat) (w : World) (hC : Kd.C k25 w A 2 [n,m]) (g : FuncId) (caps : Array Value) (hent : Enters Tryz.prog g) (h : Asks g caps (fun _ => true) [n,m] w) :
 Calls Tryz.prog 33 #[.slice A 2 c,.func (.func g) #[] caps] w (bg true w):=every.list [n,m] A c w hC g caps hent h
theorem declarations.prog (A : Option Addr) (c : Nat) (w : World) (hG : aH w) (hn : ND w jv A c) : Calls Tryz.prog 44 #[.agg #[.int .i64 40,.string ⟨#[]⟩,.int .u32 0,.bool false,.slice A 1 c,.int .i64 0]] w (bg true w):=by
 have HB:=Am (Z7 (Below.refl w.heap.size w) (.cells #[.int .i64 40,.string ⟨#[]⟩,.int .u32 0,.bool false,.slice A 1 c,.int .i64 0] 25 (0,0)));have HG:=Am (hG.below HB.out);have HN:=Am (hn.below HB.out);have HE:=Am (show Enters Tryz.prog 76 from enters_of Tryz.func76 (by kernel_rfl) rfl);clear hG hn;go_enter Tryz.func44,Tryz.ntmps44
 go_wp2_with (first
  | (go_at_call 66;((refine (jB.calls 100 _ false _ HG.out (by kernel_rfl)).mono ?_);rintro e w1 ⟨rfl,hB⟩);have HB1:=Am (aJ HB.out HB.out.size hB);have iO:=Am (HN.out.below hB);(have dR : NB w1 w.heap.size jv A c:=NB.below (cO w _) hB);obtain ⟨c0,c1,c2,c3,c4,c5⟩:=dR.cells;have jE:=Am dR;dsimp only [jv,List.length_cons,List.length_nil] at c0 c1 c2 c3 c4 c5;clear dR;clear hB)
  | (go_at_call 33;((refine (every.one jI A c _ iO.out.C 76 #[] HE.out (yH (fun W A c _ hn => DU.vars A c W))).mono ?_);rintro e w2 ⟨rfl,hB⟩);have HB2:=Am (aJ HB1.out HB1.out.size hB);clear hB)
  | fail)
 go_ret
 exact ⟨rfl,HB2.out⟩
theorem declarations.vars (A : Option Addr) (c : Nat) (w : World) (hG : aH w) (hn : ND w jI A c) : Calls Tryz.prog 44 #[.agg #[.int .i64 42,.string ⟨#[]⟩,.int .u32 0,.bool false,.slice A 2 c,.int .i64 0]] w (bg true w):=by
 have hle : 2 ≤ c:=hn.le;obtain ⟨ad,A',c',rfl,_,k0,_⟩:=fG hn.C 0 (by decide);rw [Nat.zero_mul,kG] at k0;have HB:=Am (Z7 (Below.refl w.heap.size w) (.cells #[.int .i64 42,.string ⟨#[]⟩,.int .u32 0,.bool false,.slice (some ad) 2 c,.int .i64 0] 25 (0,0)));have HG:=Am (hG.below HB.out);have HN:=Am (hn.below HB.out);have dD:=Am (kC HB.out k0);have HLE:=Am hle;have HE:=Am (show Enters Tryz.prog 94 from enters_of Tryz.func94 (by kernel_rfl) rfl);clear hG hn k0 hle;go_enter Tryz.func44,Tryz.ntmps44
 go_wp2_with (first
  | (go_at_call 66;((refine (jB.calls 100 _ false _ HG.out (by kernel_rfl)).mono ?_);rintro e w1 ⟨rfl,hB⟩);have HB1:=Am (aJ HB.out HB.out.size hB);have iO:=Am (HN.out.below hB);have dN:=Am (kC hB dD.out);(have dR : NB w1 w.heap.size jI (some ad) c:=NB.below (cO w _) hB);obtain ⟨c0,c1,c2,c3,c4,c5⟩:=dR.cells;have jE:=Am dR;dsimp only [jI,List.length_cons,List.length_nil] at c0 c1 c2 c3 c4 c5;clear dR;clear hB)
  | fail)
 have k0:=dN.out;have HS1:=Am (show Kd.C k25 w1 (some ⟨ad.block,ad.off + 6,none⟩) 1 [lu] from by
  have h1:=Kd.vg (m:=1) iO.out.C (by decide) HLE.out;rw [if_neg (by have:=HLE.out;omega)] at h1;exact h1)
 refine Bv 20 (#[true,true,true,true,true,true,true,true,true,true,true,true,true,true,true,true,true,true,true,true,false,false,false,false,false,false,false]) (by kernel_rfl) (by kernel_rfl) (by decide) (fun w6 h6 h6' => ?_);have HW6:=Am (And.intro h6 h6');clear c0 c1 c2 c3 c4 c5 k0;have HX6 : NB w6 w.heap.size jI (some ad) c:=NB.below jE.out h6;obtain ⟨c0,c1,c2,c3,c4,c5⟩:=HX6.cells;dsimp only [jI,List.length_cons,List.length_nil] at c0 c1 c2 c3 c4 c5;have k0 : w6.cell? ad = some (.int .i64 16):=kC h6 dN.out;have hc1 : ¬ c = 1:=by have:=HLE.out;omega
 clear HX6 h6 h6';simp only [List.take_succ_cons,List.take_zero];repeat still_step
 refine wpStill_nil ?_;refine wpAny_ready (rs:=[20]) (by kernel_rfl) (by simp) (AllReady.cons rfl (fun K hK => ?_) AllReady.nil);go_simp;refine hK _ _ ?_;clear hK K;refine wpAny_ready (rs:=[21,23]) (by kernel_rfl) (by simp) (AllReady.cons rfl (fun K hK => ?_) (AllReady.cons rfl (fun K hK => ?_) AllReady.nil))
 · go_simp;refine hK _ _ ?_;clear hK K;refine wpAny_ready (rs:=[22,23]) (by kernel_rfl) (by simp) (AllReady.cons rfl (fun K hK => ?_) (AllReady.cons rfl (fun K hK => ?_) AllReady.nil))
   · go_simp;refine hK _ _ ?_;clear hK K;refine wpAny_ready (rs:=[23]) (by kernel_rfl) (by simp) (AllReady.cons rfl (fun K hK => ?_) AllReady.nil);go_simp;go_wp2_with (first
      | (go_at_call 70;refine (of.calls _).mono ?_;rintro e w2 ⟨q,rfl,hq,hB⟩;have HB2:=Am (aJ HB1.out HB1.out.size (aJ HW6.out.1 (Nat.le_of_eq HW6.out.2) hB));have HQ:=Am hq;have HS2:=Am (Kd.dV (Kd.dV HS1.out HW6.out.1) hB);clear hq hB)
      | fail)
     refine wpAny_ready (rs:=[24]) (by kernel_rfl) (by simp) (AllReady.cons rfl (fun K hK => ?_) AllReady.nil);go_simp;go_wp2_with (first
      | (go_at_call 33;refine (every.one lu (some ⟨ad.block,ad.off + 6,none⟩) _ _ HS2.out 94 #[.pointer (some ⟨q,0,none⟩)] HE.out (of1.asks q _ HQ.out)).mono ?_;rintro e w3 ⟨rfl,hB⟩;have HB3:=Am (aJ HB2.out HB2.out.size hB);clear hB)
      | fail)
     refine wpAny_ready (rs:=[25]) (by kernel_rfl) (by simp) (AllReady.cons rfl (fun K hK => ?_) AllReady.nil);go_simp;refine hK _ _ ?_;clear hK K;refine wpAny_ready (rs:=[26]) (by kernel_rfl) (by simp) (AllReady.cons rfl (fun K hK => ?_) AllReady.nil);go_simp;refine hK _ _ ?_;clear hK K;refine wpAny_done (by kernel_rfl) ?_ _;go_wp2
     go_ret
     exact ⟨rfl,HB3.out⟩
   · go_simp;go_wp2_with (first
      | (go_at_call 70;refine (of.calls _).mono ?_;rintro e w2 ⟨q,rfl,hq,hB⟩;have HB2:=Am (aJ HB1.out HB1.out.size (aJ HW6.out.1 (Nat.le_of_eq HW6.out.2) hB));have HQ:=Am hq;have HS2:=Am (Kd.dV (Kd.dV HS1.out HW6.out.1) hB);clear hq hB)
      | fail)
     refine wpAny_ready (rs:=[22]) (by kernel_rfl) (by simp) (AllReady.cons rfl (fun K hK => ?_) AllReady.nil);go_simp;refine hK _ _ ?_;clear hK K;refine wpAny_ready (rs:=[24]) (by kernel_rfl) (by simp) (AllReady.cons rfl (fun K hK => ?_) AllReady.nil);go_simp;go_wp2_with (first
      | (go_at_call 33;refine (every.one lu (some ⟨ad.block,ad.off + 6,none⟩) _ _ HS2.out 94 #[.pointer (some ⟨q,0,none⟩)] HE.out (of1.asks q _ HQ.out)).mono ?_;rintro e w3 ⟨rfl,hB⟩;have HB3:=Am (aJ HB2.out HB2.out.size hB);clear hB)
      | fail)
     refine wpAny_ready (rs:=[25]) (by kernel_rfl) (by simp) (AllReady.cons rfl (fun K hK => ?_) AllReady.nil);go_simp;refine hK _ _ ?_;clear hK K;refine wpAny_ready (rs:=[26]) (by kernel_rfl) (by simp) (AllReady.cons rfl (fun K hK => ?_) AllReady.nil);go_simp;refine hK _ _ ?_;clear hK K;refine wpAny_done (by kernel_rfl) ?_ _;go_wp2
     go_ret
     exact ⟨rfl,HB3.out⟩
 · go_simp;go_wp2_with (first
    | (go_at_call 70;refine (of.calls _).mono ?_;rintro e w2 ⟨q,rfl,hq,hB⟩;have HB2:=Am (aJ HB1.out HB1.out.size (aJ HW6.out.1 (Nat.le_of_eq HW6.out.2) hB));have HQ:=Am hq;have HS2:=Am (Kd.dV (Kd.dV HS1.out HW6.out.1) hB);clear hq hB)
    | fail)
   refine wpAny_ready (rs:=[21]) (by kernel_rfl) (by simp) (AllReady.cons rfl (fun K hK => ?_) AllReady.nil);go_simp;refine hK _ _ ?_;clear hK K;refine wpAny_ready (rs:=[22]) (by kernel_rfl) (by simp) (AllReady.cons rfl (fun K hK => ?_) AllReady.nil);go_simp;refine hK _ _ ?_;clear hK K;refine wpAny_ready (rs:=[24]) (by kernel_rfl) (by simp) (AllReady.cons rfl (fun K hK => ?_) AllReady.nil);go_simp;go_wp2_with (first
    | (go_at_call 33;refine (every.one lu (some ⟨ad.block,ad.off + 6,none⟩) _ _ HS2.out 94 #[.pointer (some ⟨q,0,none⟩)] HE.out (of1.asks q _ HQ.out)).mono ?_;rintro e w3 ⟨rfl,hB⟩;have HB3:=Am (aJ HB2.out HB2.out.size hB);clear hB)
    | fail)
   refine wpAny_ready (rs:=[25]) (by kernel_rfl) (by simp) (AllReady.cons rfl (fun K hK => ?_) AllReady.nil);go_simp;refine hK _ _ ?_;clear hK K;refine wpAny_ready (rs:=[26]) (by kernel_rfl) (by simp) (AllReady.cons rfl (fun K hK => ?_) AllReady.nil);go_simp;refine hK _ _ ?_;clear hK K;refine wpAny_done (by kernel_rfl) ?_ _;go_wp2
   go_ret
   exact ⟨rfl,HB3.out⟩
theorem itself.num (A : Option Addr) (c : Nat) (w : World) (hG : aH w) (hn : ND w qI A c) : Calls Tryz.prog 32 #[.agg #[.int .i64 1,.string ⟨#[]⟩,.int .u32 1,.bool false,.slice A 0 c,.int .i64 0]] w (bg true w):=by
 have HB:=Am (Z7 (Below.refl w.heap.size w) (.cells #[.int .i64 1,.string ⟨#[]⟩,.int .u32 1,.bool false,.slice A 0 c,.int .i64 0] 25 (0,0)));have HG:=Am (hG.below HB.out);have HN:=Am (hn.below HB.out);clear hG hn;go_enter Tryz.func32,Tryz.ntmps32
 go_wp2_with (first
  | (go_at_call 40;((refine (expression.num A c _ HN.out).mono ?_);rintro e w1 ⟨rfl,hB⟩);have HB1:=Am (aJ HB.out HB.out.size hB);have iO:=Am (HN.out.below hB);have zB:=Am (HG.out.below hB);(have dR : NB w1 w.heap.size qI A c:=NB.below (cO w _) hB);obtain ⟨c0,c1,c2,c3,c4,c5⟩:=dR.cells;have jE:=Am dR;dsimp only [qI,List.length_cons,List.length_nil] at c0 c1 c2 c3 c4 c5;clear dR;clear hB)
  | (go_at_call 41;((refine (expressions.num A c _).mono ?_);rintro e w2 ⟨rfl,hB⟩);have HB2:=Am (aJ HB1.out HB1.out.size hB);clear hB)
  | fail)
 go_ret
 exact ⟨rfl,HB2.out⟩
theorem itself.type (A : Option Addr) (c : Nat) (w : World) (hG : aH w) (hn : ND w nType A c) : Calls Tryz.prog 32 #[.agg #[.int .i64 16,.string ⟨#[105,110,116]⟩,.int .u32 0,.bool false,.slice A 0 c,.int .i64 0]] w (bg true w):=by
 have HB:=Am (Z7 (Below.refl w.heap.size w) (.cells #[.int .i64 16,.string ⟨#[105,110,116]⟩,.int .u32 0,.bool false,.slice A 0 c,.int .i64 0] 25 (0,0)));have HG:=Am (hG.below HB.out);have HN:=Am (hn.below HB.out);clear hG hn;go_enter Tryz.func32,Tryz.ntmps32
 go_wp2_with (first
  | (go_at_call 40;((refine (expression.type A c _ HN.out).mono ?_);rintro e w1 ⟨rfl,hB⟩);have HB1:=Am (aJ HB.out HB.out.size hB);have iO:=Am (HN.out.below hB);have zB:=Am (HG.out.below hB);(have dR : NB w1 w.heap.size nType A c:=NB.below (cO w _) hB);obtain ⟨c0,c1,c2,c3,c4,c5⟩:=dR.cells;have jE:=Am dR;dsimp only [nType,List.length_cons,List.length_nil] at c0 c1 c2 c3 c4 c5;clear dR;clear hB)
  | (go_at_call 41;((refine (expressions.type A c _ zB.out).mono ?_);rintro e w2 ⟨rfl,hB⟩);have HB2:=Am (aJ HB1.out HB1.out.size hB);clear hB)
  | fail)
 go_ret
 exact ⟨rfl,HB2.out⟩
theorem itself.var (A : Option Addr) (c : Nat) (w : World) (hG : aH w) (hn : ND w lu A c) : Calls Tryz.prog 32 #[.agg #[.int .i64 43,.string ⟨#[120]⟩,.int .u32 0,.bool false,.slice A 1 c,.int .i64 0]] w (bg true w):=by
 have HB:=Am (Z7 (Below.refl w.heap.size w) (.cells #[.int .i64 43,.string ⟨#[120]⟩,.int .u32 0,.bool false,.slice A 1 c,.int .i64 0] 25 (0,0)));have HG:=Am (hG.below HB.out);have HN:=Am (hn.below HB.out);clear hG hn;go_enter Tryz.func32,Tryz.ntmps32
 go_wp2_with (first
  | (go_at_call 40;((refine (expression.var A c _ HN.out).mono ?_);rintro e w1 ⟨rfl,hB⟩);have HB1:=Am (aJ HB.out HB.out.size hB);have iO:=Am (HN.out.below hB);have zB:=Am (HG.out.below hB);(have dR : NB w1 w.heap.size lu A c:=NB.below (cO w _) hB);obtain ⟨c0,c1,c2,c3,c4,c5⟩:=dR.cells;have jE:=Am dR;dsimp only [lu,List.length_cons,List.length_nil] at c0 c1 c2 c3 c4 c5;clear dR;clear hB)
  | (go_at_call 42;((refine (statement.var A c _ iO.out).mono ?_);rintro e w2 ⟨rfl,hB⟩);have HB2:=Am (aJ HB1.out HB1.out.size hB);have Bd:=Am (iO.out.below hB);have HG2:=Am (zB.out.below hB);(have jh : NB w2 w.heap.size lu A c:=NB.below jE.out hB);obtain ⟨c0,c1,c2,c3,c4,c5⟩:=jh.cells;have vH:=Am jh;dsimp only [lu,List.length_cons,List.length_nil] at c0 c1 c2 c3 c4 c5;clear jh;clear hB)
  | (go_at_call 44;((refine (declarations.var A c _ HG2.out Bd.out).mono ?_);rintro e w3 ⟨rfl,hB⟩);have HB3:=Am (aJ HB2.out HB2.out.size hB);clear hB)
  | fail)
 go_ret
 exact ⟨rfl,HB3.out⟩
theorem itself.vars (A : Option Addr) (c : Nat) (w : World) (hG : aH w) (hn : ND w jI A c) : Calls Tryz.prog 32 #[.agg #[.int .i64 42,.string ⟨#[]⟩,.int .u32 0,.bool false,.slice A 2 c,.int .i64 0]] w (bg true w):=by
 have HB:=Am (Z7 (Below.refl w.heap.size w) (.cells #[.int .i64 42,.string ⟨#[]⟩,.int .u32 0,.bool false,.slice A 2 c,.int .i64 0] 25 (0,0)));have HG:=Am (hG.below HB.out);have HN:=Am (hn.below HB.out);clear hG hn;go_enter Tryz.func32,Tryz.ntmps32
 go_wp2_with (first
  | (go_at_call 40;((refine (expression.vars A c _ HN.out).mono ?_);rintro e w1 ⟨rfl,hB⟩);have HB1:=Am (aJ HB.out HB.out.size hB);have iO:=Am (HN.out.below hB);have zB:=Am (HG.out.below hB);(have dR : NB w1 w.heap.size jI A c:=NB.below (cO w _) hB);obtain ⟨c0,c1,c2,c3,c4,c5⟩:=dR.cells;have jE:=Am dR;dsimp only [jI,List.length_cons,List.length_nil] at c0 c1 c2 c3 c4 c5;clear dR;clear hB)
  | (go_at_call 42;((refine (statement.vars A c _ iO.out).mono ?_);rintro e w2 ⟨rfl,hB⟩);have HB2:=Am (aJ HB1.out HB1.out.size hB);have Bd:=Am (iO.out.below hB);have HG2:=Am (zB.out.below hB);(have jh : NB w2 w.heap.size jI A c:=NB.below jE.out hB);obtain ⟨c0,c1,c2,c3,c4,c5⟩:=jh.cells;have vH:=Am jh;dsimp only [jI,List.length_cons,List.length_nil] at c0 c1 c2 c3 c4 c5;clear jh;clear hB)
  | (go_at_call 44;((refine (declarations.vars A c _ HG2.out Bd.out).mono ?_);rintro e w3 ⟨rfl,hB⟩);have HB3:=Am (aJ HB2.out HB2.out.size hB);clear hB)
  | fail)
 go_ret
 exact ⟨rfl,HB3.out⟩
theorem itself.prog (A : Option Addr) (c : Nat) (w : World) (hG : aH w) (hn : ND w jv A c) : Calls Tryz.prog 32 #[.agg #[.int .i64 40,.string ⟨#[]⟩,.int .u32 0,.bool false,.slice A 1 c,.int .i64 0]] w (bg true w):=by
 have HB:=Am (Z7 (Below.refl w.heap.size w) (.cells #[.int .i64 40,.string ⟨#[]⟩,.int .u32 0,.bool false,.slice A 1 c,.int .i64 0] 25 (0,0)));have HG:=Am (hG.below HB.out);have HN:=Am (hn.below HB.out);clear hG hn;go_enter Tryz.func32,Tryz.ntmps32
 go_wp2_with (first
  | (go_at_call 40;((refine (expression.prog A c _ HN.out).mono ?_);rintro e w1 ⟨rfl,hB⟩);have HB1:=Am (aJ HB.out HB.out.size hB);have iO:=Am (HN.out.below hB);have zB:=Am (HG.out.below hB);(have dR : NB w1 w.heap.size jv A c:=NB.below (cO w _) hB);obtain ⟨c0,c1,c2,c3,c4,c5⟩:=dR.cells;have jE:=Am dR;dsimp only [jv,List.length_cons,List.length_nil] at c0 c1 c2 c3 c4 c5;clear dR;clear hB)
  | (go_at_call 42;((refine (statement.prog A c _ iO.out).mono ?_);rintro e w2 ⟨rfl,hB⟩);have HB2:=Am (aJ HB1.out HB1.out.size hB);have Bd:=Am (iO.out.below hB);have HG2:=Am (zB.out.below hB);(have jh : NB w2 w.heap.size jv A c:=NB.below jE.out hB);obtain ⟨c0,c1,c2,c3,c4,c5⟩:=jh.cells;have vH:=Am jh;dsimp only [jv,List.length_cons,List.length_nil] at c0 c1 c2 c3 c4 c5;clear jh;clear hB)
  | (go_at_call 44;((refine (declarations.prog A c _ HG2.out Bd.out).mono ?_);rintro e w3 ⟨rfl,hB⟩);have HB3:=Am (aJ HB2.out HB2.out.size hB);clear hB)
  | fail)
 go_ret
 exact ⟨rfl,HB3.out⟩
theorem may.num (A : Option Addr) (c : Nat) (w : World) (hG : aH w) (hn : ND w qI A c) : Calls Tryz.prog 20 #[.agg #[.int .i64 1,.string ⟨#[]⟩,.int .u32 1,.bool false,.slice A 0 c,.int .i64 0]] w (bg true w):=by
 have HB:=Am (Z7 (Below.refl w.heap.size w) (.cells #[.int .i64 1,.string ⟨#[]⟩,.int .u32 1,.bool false,.slice A 0 c,.int .i64 0] 25 (0,0)));have HG:=Am (hG.below HB.out);have HN:=Am (hn.below HB.out);clear hG hn;have HE:=Am (show Enters Tryz.prog 20 from enters_of Tryz.func20 (by kernel_rfl) rfl);go_enter Tryz.func20,Tryz.ntmps20
 go_wp2_with (first
  | (go_at_call 32;((refine (itself.num A c _ HG.out HN.out).mono ?_);rintro e w1 ⟨rfl,hB⟩);have HB1:=Am (aJ HB.out HB.out.size hB);have iO:=Am (HN.out.below hB);have zB:=Am (HG.out.below hB);(have dR : NB w1 w.heap.size qI A c:=NB.below (cO w _) hB);obtain ⟨c0,c1,c2,c3,c4,c5⟩:=dR.cells;have jE:=Am dR;dsimp only [qI,List.length_cons,List.length_nil] at c0 c1 c2 c3 c4 c5;clear dR;clear hB)
  | (go_at_call 33;((refine (every.none A c _ iO.out.C 20 #[] HE.out).mono ?_);rintro e w2 ⟨rfl,hB⟩);have HB2:=Am (aJ HB1.out HB1.out.size hB);clear hB)
  | fail)
 go_ret
 exact ⟨rfl,HB2.out⟩
theorem tJ.num (w : World) (hG : aH w) : Asks 20 #[] (fun _ => true) [qI] w :=
 yH (fun W A c hW hn => may.num A c W (hG.below hW) hn)
theorem may.type (A : Option Addr) (c : Nat) (w : World) (hG : aH w) (hn : ND w nType A c) : Calls Tryz.prog 20 #[.agg #[.int .i64 16,.string ⟨#[105,110,116]⟩,.int .u32 0,.bool false,.slice A 0 c,.int .i64 0]] w (bg true w):=by
 have HB:=Am (Z7 (Below.refl w.heap.size w) (.cells #[.int .i64 16,.string ⟨#[105,110,116]⟩,.int .u32 0,.bool false,.slice A 0 c,.int .i64 0] 25 (0,0)));have HG:=Am (hG.below HB.out);have HN:=Am (hn.below HB.out);clear hG hn;have HE:=Am (show Enters Tryz.prog 20 from enters_of Tryz.func20 (by kernel_rfl) rfl);go_enter Tryz.func20,Tryz.ntmps20
 go_wp2_with (first
  | (go_at_call 32;((refine (itself.type A c _ HG.out HN.out).mono ?_);rintro e w1 ⟨rfl,hB⟩);have HB1:=Am (aJ HB.out HB.out.size hB);have iO:=Am (HN.out.below hB);have zB:=Am (HG.out.below hB);(have dR : NB w1 w.heap.size nType A c:=NB.below (cO w _) hB);obtain ⟨c0,c1,c2,c3,c4,c5⟩:=dR.cells;have jE:=Am dR;dsimp only [nType,List.length_cons,List.length_nil] at c0 c1 c2 c3 c4 c5;clear dR;clear hB)
  | (go_at_call 33;((refine (every.none A c _ iO.out.C 20 #[] HE.out).mono ?_);rintro e w2 ⟨rfl,hB⟩);have HB2:=Am (aJ HB1.out HB1.out.size hB);clear hB)
  | fail)
 go_ret
 exact ⟨rfl,HB2.out⟩
theorem may.var (A : Option Addr) (c : Nat) (w : World) (hG : aH w) (hn : ND w lu A c) : Calls Tryz.prog 20 #[.agg #[.int .i64 43,.string ⟨#[120]⟩,.int .u32 0,.bool false,.slice A 1 c,.int .i64 0]] w (bg true w):=by
 have HB:=Am (Z7 (Below.refl w.heap.size w) (.cells #[.int .i64 43,.string ⟨#[120]⟩,.int .u32 0,.bool false,.slice A 1 c,.int .i64 0] 25 (0,0)));have HG:=Am (hG.below HB.out);have HN:=Am (hn.below HB.out);clear hG hn;have HE:=Am (show Enters Tryz.prog 20 from enters_of Tryz.func20 (by kernel_rfl) rfl);go_enter Tryz.func20,Tryz.ntmps20
 go_wp2_with (first
  | (go_at_call 32;((refine (itself.var A c _ HG.out HN.out).mono ?_);rintro e w1 ⟨rfl,hB⟩);have HB1:=Am (aJ HB.out HB.out.size hB);have iO:=Am (HN.out.below hB);have zB:=Am (HG.out.below hB);(have dR : NB w1 w.heap.size lu A c:=NB.below (cO w _) hB);obtain ⟨c0,c1,c2,c3,c4,c5⟩:=dR.cells;have jE:=Am dR;dsimp only [lu,List.length_cons,List.length_nil] at c0 c1 c2 c3 c4 c5;clear dR;clear hB)
  | (go_at_call 33;((refine (every.one qI A c _ iO.out.C 20 #[] HE.out (tJ.num _ zB.out)).mono ?_);rintro e w2 ⟨rfl,hB⟩);have HB2:=Am (aJ HB1.out HB1.out.size hB);clear hB)
  | fail)
 go_ret
 exact ⟨rfl,HB2.out⟩
theorem tJ.two (w : World) (hG : aH w) : Asks 20 #[] (fun _ => true) [nType,lu] w:=fun x hx W A c hW hn => by
 rw [Array.append_empty];rcases List.mem_cons.1 hx with rfl|hx
 · exact may.type A c W (hG.below hW) hn
 · obtain rfl:=List.mem_singleton.1 hx;exact may.var A c W (hG.below hW) hn
theorem may.vars (A : Option Addr) (c : Nat) (w : World) (hG : aH w) (hn : ND w jI A c) : Calls Tryz.prog 20 #[.agg #[.int .i64 42,.string ⟨#[]⟩,.int .u32 0,.bool false,.slice A 2 c,.int .i64 0]] w (bg true w):=by
 have HB:=Am (Z7 (Below.refl w.heap.size w) (.cells #[.int .i64 42,.string ⟨#[]⟩,.int .u32 0,.bool false,.slice A 2 c,.int .i64 0] 25 (0,0)));have HG:=Am (hG.below HB.out);have HN:=Am (hn.below HB.out);clear hG hn;have HE:=Am (show Enters Tryz.prog 20 from enters_of Tryz.func20 (by kernel_rfl) rfl);go_enter Tryz.func20,Tryz.ntmps20
 go_wp2_with (first
  | (go_at_call 32;((refine (itself.vars A c _ HG.out HN.out).mono ?_);rintro e w1 ⟨rfl,hB⟩);have HB1:=Am (aJ HB.out HB.out.size hB);have iO:=Am (HN.out.below hB);have zB:=Am (HG.out.below hB);(have dR : NB w1 w.heap.size jI A c:=NB.below (cO w _) hB);obtain ⟨c0,c1,c2,c3,c4,c5⟩:=dR.cells;have jE:=Am dR;dsimp only [jI,List.length_cons,List.length_nil] at c0 c1 c2 c3 c4 c5;clear dR;clear hB)
  | (go_at_call 33;((refine (every.two nType lu A c _ iO.out.C 20 #[] HE.out (tJ.two _ zB.out)).mono ?_);rintro e w2 ⟨rfl,hB⟩);have HB2:=Am (aJ HB1.out HB1.out.size hB);clear hB)
  | fail)
 go_ret
 exact ⟨rfl,HB2.out⟩
theorem tJ.vars (w : World) (hG : aH w) : Asks 20 #[] (fun _ => true) [jI] w :=
 yH (fun W A c hW hn => may.vars A c W (hG.below hW) hn)
theorem may.prog (A : Option Addr) (c : Nat) (w : World) (hG : aH w) (hn : ND w jv A c) : Calls Tryz.prog 20 #[.agg #[.int .i64 40,.string ⟨#[]⟩,.int .u32 0,.bool false,.slice A 1 c,.int .i64 0]] w (bg true w):=by
 have HB:=Am (Z7 (Below.refl w.heap.size w) (.cells #[.int .i64 40,.string ⟨#[]⟩,.int .u32 0,.bool false,.slice A 1 c,.int .i64 0] 25 (0,0)));have HG:=Am (hG.below HB.out);have HN:=Am (hn.below HB.out);clear hG hn;have HE:=Am (show Enters Tryz.prog 20 from enters_of Tryz.func20 (by kernel_rfl) rfl);go_enter Tryz.func20,Tryz.ntmps20
 go_wp2_with (first
  | (go_at_call 32;((refine (itself.prog A c _ HG.out HN.out).mono ?_);rintro e w1 ⟨rfl,hB⟩);have HB1:=Am (aJ HB.out HB.out.size hB);have iO:=Am (HN.out.below hB);have zB:=Am (HG.out.below hB);(have dR : NB w1 w.heap.size jv A c:=NB.below (cO w _) hB);obtain ⟨c0,c1,c2,c3,c4,c5⟩:=dR.cells;have jE:=Am dR;dsimp only [jv,List.length_cons,List.length_nil] at c0 c1 c2 c3 c4 c5;clear dR;clear hB)
  | (go_at_call 33;((refine (every.one jI A c _ iO.out.C 20 #[] HE.out (tJ.vars _ zB.out)).mono ?_);rintro e w2 ⟨rfl,hB⟩);have HB2:=Am (aJ HB1.out HB1.out.size hB);clear hB)
  | fail)
 go_ret
 exact ⟨rfl,HB2.out⟩
structure PB (b p : Nat) (l : List Int) (w : World) : Prop where
 hp : b ≤ p
 hb : b ≤ w.heap.size
 ex : ∃ v,w.heap[p]? = some (.cells #[v] 42 (0,0)) ∧ w.ownsRow b 5 1 v l.length (nums .u8 l)
structure Fr (p : Nat) (w w' : World) : Prop where
 size : w.heap.size ≤ w'.heap.size
 keep : ∀ (k : Nat) (t : TypeId) (cs : Array Value),w.heap[k]? = some (.cells cs t (0,0)) → k ≠ p → t ≠ 5 → w'.heap[k]? = some (.cells cs t (0,0))
theorem Fr.refl (p : Nat) (w : World) : Fr p w w:=⟨Nat.le_refl _,fun _ _ _ h _ _ => h⟩
theorem Fr.trans {p : Nat} {a b c : World} (h : Fr p a b) (k : Fr p b c) : Fr p a c:=⟨Nat.le_trans h.size k.size,fun i t cs hi hp ht => k.keep i t cs (h.keep i t cs hi hp ht) hp ht⟩
theorem Fr.of_below {p : Nat} {w w' : World} (h : Below w.heap.size w w') : Fr p w w' := ⟨h.size,fun k t cs hk _ _ => o7 hk h⟩
def PrP (b p : Nat) (w0 : World) (l : List Int) (r : Value) (w : World) (e : Ending) (w' : World) : Prop:=e = .returned r ∧ PB b p l w' ∧ Below b w0 w' ∧ Fr p w w'
theorem qc {w : World} {b n : Nat} {v : Value} {xs : List Value} (h : w.ownsRow b 5 1 v n xs) {k : Nat} (hk : v.ownBlock = some k) : b ≤ k ∧ ∃ cur,w.heap[k]? = some (.cells cur 5 (0,0)):=by
 obtain ⟨_,h2⟩:=h;rcases h2 with ⟨rfl,_⟩ | ⟨g,cap,cur,rfl,hbg,hg,_⟩
 · cases hk
 · cases hk;exact ⟨hbg,cur,hg⟩
theorem yI {w : World} {b n : Nat} {v : Value} {xs : List Value} (h : w.ownsRow b 5 1 v n xs) : ∃ A m c,v = .slice A m c:=by
 obtain ⟨_,h2⟩:=h;rcases h2 with ⟨rfl,rfl⟩ | ⟨g,cap,cur,rfl,_⟩
 · exact ⟨none,0,0,rfl⟩
 · exact ⟨_,_,_,rfl⟩
theorem PB.below {b p : Nat} {l : List Int} {w w' : World} (h : PB b p l w) (hB : Below w.heap.size w w') : PB b p l w' := by
 obtain ⟨v,h1,h2⟩:=h.ex;refine ⟨h.hp,Nat.le_trans h.hb hB.size,v,o7 h1 hB,qG h2 (fun k hk => ?_)⟩;obtain ⟨_,cur,hc⟩:=qc h2 hk;exact hB.block k (jf hc)
theorem PB.put {b p : Nat} {l l' : List Int} {w0 W w1 : World} {v v1 : Value} (hp : b ≤ p) (hb : b ≤ W.heap.size) (h1 : W.heap[p]? = some (.cells #[v] 42 (0,0))) (h2 : W.ownsRow b 5 1 v l.length (nums .u8 l)) (ho : w1.ownsRow b 5 1 v1 l'.length (nums .u8 l')) (hB : Below b w0 w1) (hg : W.grownBy w1 v.ownBlock) :
 w1.heap[p]? = some (.cells #[v] 42 (0,0)) ∧ PB b p l' (w1.setCell ⟨p,0,none⟩ v1) ∧ Below b w0 (w1.setCell ⟨p,0,none⟩ v1) ∧ Fr p W (w1.setCell ⟨p,0,none⟩ v1):=by
 have hsz : (w1.setCell ⟨p,0,none⟩ v1).heap.size = w1.heap.size:=by simp [World.setCell]
 have hne : ∀ k t cs,W.heap[k]? = some (.cells cs t (0,0)) → t ≠ 5 → some k ≠ v.ownBlock:=fun k t cs hk ht he => by
  obtain ⟨_,cur,hc⟩:=qc h2 he.symm;rw [hk] at hc;injection hc with hc
  injection hc with _ ht'
  exact ht ht'
 have hp1:=Z89 h1 hg (hne p 42 _ h1 (by decide));refine ⟨hp1,⟨hp,by rw [hsz];exact Nat.le_trans hb hg.size,v1,nC hp1 0 v1,qG ho (fun k hk => ?_)⟩,hB.setCell hp v1,⟨by rw [hsz];exact hg.size,fun k t cs hk hkp ht => ?_⟩⟩
 · obtain ⟨_,cur,hc⟩:=qc ho hk;exact Below.heap_setCell w1 _ v1 k (fun e => blk_ne hc hp1 (by decide) e)
 · exact (Below.heap_setCell w1 _ v1 k hkp).trans (Z89 hk hg (hne k t cs hk ht))
theorem put.calls (b p q : Nat) (ss : List ByteArray) (l : List Int) (c : Nat) (w0 w : World) (hW : Below b w0 w) (hP : PB b p l w) (hqp : q ≠ p) (hS : w.heap[q]? = some (.cells (ss.map Value.string).toArray 9 (0,0))) (hl : l.length + (ss.flatMap bytesOf).length ≤ 140737488355328) (hn : ss.length ≤ 1000) :
 Calls Tryz.prog 54 #[.pointer (some ⟨p,0,none⟩),.slice (some ⟨q,0,none⟩) ss.length c] w (PrP b p w0 (l ++ ss.flatMap bytesOf) (.tuple #[]) w):=by
 have HW:=Am hW;have HP0:=Am hP;have HS0:=Am hS;have HL:=Am hl;have HQ:=Am hqp;have HN:=Am hn;clear hW hP hS hl hqp hn;go_enter Tryz.func54,Tryz.ntmps54
 go_wp2
 go_loopg [8] ss.length (fun kq v w' => ∃ i : Nat,v = .int .i64 i ∧ Ad (i + kq = ss.length) ∧ Ad (PB b p (l ++ (ss.take i).flatMap bytesOf) w') ∧ Ad (Below b w0 w') ∧ Ad (Fr p w w'))
 case atStart => exact ⟨0,rfl,⟨by omega⟩,⟨by simpa using HP0.out⟩,HW,⟨Fr.refl _ _⟩⟩
 case round =>
  obtain ⟨i,rfl,HI,HP,HB,HF⟩:=hrel;by_cases hi : i < ss.length
  · have qp : decide (i < ss.length) = true:=decide_eq_true hi;have e1 : decide ((i : Int) < (ss.length : Int)) = true:=decide_eq_true (by omega);have p1 : (0 : Int) ≤ (i : Int):=by omega
    have q1 : (i : Int) < (ss.length : Int):=by omega
    have gZ:=Am hi;have w3 : wrap64 ((i : Int) + 1) = (i : Int) + 1:=by have:=HN.out;unfold wrap64;omega
    have w4 : IntKind.i64.wrap ((i : Int) + 1) = (i : Int) + 1:=(bY _).trans w3;have hq:=HF.out.keep q 9 _ HS0.out HQ.out (by decide);obtain ⟨y,hy⟩ : ∃ y,ss[i]? = some y:=⟨_,List.getElem?_eq_getElem hi⟩
    have HTK:=Am (show ss.take (i + 1) = ss.take i ++ [y] from by
     rw [List.take_succ_eq_append_getElem hi];rw [List.getElem?_eq_getElem hi] at hy;rw [Option.some.inj hy])
    have HLE:=Am (show (l ++ (ss.take i).flatMap bytesOf).length + y.size ≤ 140737488355328 from by
     have h1:=HL.out;have h2 : ss.flatMap bytesOf = (ss.take (i + 1)).flatMap bytesOf ++ (ss.drop (i + 1)).flatMap bytesOf:=by rw [← List.flatMap_append,List.take_append_drop]
     rw [h2,HTK.out,List.flatMap_append] at h1;simp only [List.length_append,List.flatMap_cons,List.flatMap_nil,List.append_nil,bytesOf_length] at h1 ⊢;omega)
    have cs:=(Z5 hq i).trans (show ((ss.map Value.string).toArray)[i]? = some (Value.string y) by simp [hy]);obtain ⟨v,hp,hown⟩:=HP.out.ex;have cp:=(Z5 hp 0).trans (show #[v][0]? = some v from rfl);have HPP:=Am hp;have HOWN:=Am hown;clear hi hq hp hown hy;go_wp2_with (first
     | (at_builtin;refine qF b rfl _ _ 40 9 5 rfl rfl rfl (by kernel_rfl) v (l ++ (ss.take i).flatMap bytesOf) y rfl rfl HOWN.out HB.out HP.out.hb HLE.out ?_;intro v1 w1 ho hb hg;obtain ⟨A1,m1,c1,rfl⟩:=yI ho;obtain ⟨hp1,hPB,hBB,hFF⟩:=PB.put (l' := (l ++ (ss.take i).flatMap bytesOf) ++ bytesOf y) HP.out.hp HP.out.hb HPP.out HOWN.out ho hb hg;have cp1:=(Z5 hp1 0).trans (show #[v][0]? = some v from rfl);have fz1:=Z2 hp1 0;have HP1:=Am hPB;have HB1:=Am hBB;have HF1:=Am (HF.out.trans hFF);clear hp1 hPB hBB hFF ho hb hg)
     | fail)
    go_roundg (ss.length - (i + 1))
    case measure => have:=HI.out;have:=gZ.out;omega
    case rel => exact ⟨i + 1,by (try simp only [w4,w3]);rfl,⟨by have:=HI.out;have:=gZ.out;omega⟩,⟨by rw [HTK.out,List.flatMap_append];simpa using HP1.out⟩,HB1,HF1⟩
  · have qp : decide (i < ss.length) = false:=decide_eq_false hi;have e1 : decide ((i : Int) < (ss.length : Int)) = false:=decide_eq_false (by omega);have HX:=Am (show ss.take i = ss from by
     rw [show i = ss.length from by have:=HI.out;omega,List.take_length])
    clear hi HI;go_wp2
    go_end0
    exact ⟨rfl,by rw [← HX.out];simpa using HP.out,HB.out,HF.out⟩
end Go.Proofs.YtboojhadfhpdeaaGreatDoor.Q
