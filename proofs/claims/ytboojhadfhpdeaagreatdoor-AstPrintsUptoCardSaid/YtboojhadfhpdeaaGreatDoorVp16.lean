/- A part of the proof, made small by a program: F2, F3, F4, F5, F6, H0, UF, U0, H1, H2, H3, H4, H5, H6, H7, H8. -/
import Derived.Lib.AppendIntMem
import Derived.Shelf.LaysM
import Derived.Shelf.Strconv.Itoa2
import Derived.Test.YtboojhadfhpdeaaGreatDoorVp5
import Derived.Test.YtboojhadfhpdeaaGreatDoorVp8
import Derived.Test.YtboojhadfhpdeaaGreatDoorVp14
import Derived.Test.YtboojhadfhpdeaaGreatDoorVp15
set_option linter.unusedVariables false
set_option linter.unusedSimpArgs false
set_option maxHeartbeats 8000000
set_option maxRecDepth 100000
namespace Go.Proofs.YtboojhadfhpdeaaGreatDoor.Q
open Go.RowKit Go.Proofs.YtboojhadfhpdeaaGreatDoorW.PrintWords Go.Proofs.YtboojhadfhpdeaaGreatDoorW.PrintLast Go.Proofs.YtboojhadfhpdeaaGreatDoorW.PrintMore
def gQ (x : ak) : Bool:=decide (1 ≤ x.f0) && decide (x.f0 ≤ 15)
def isS (x : ak) : Bool:=decide (x.f0 = 47) || (decide (48 ≤ x.f0) && decide (x.f0 ≤ 56))
def EH (x : ak) : Bool:=decide (x.f0 = 4) || decide (x.f0 = 5) || decide (x.f0 = 6) || decide (x.f0 = 7)
def BD (x : ak) : Bool:=decide (x.f0 = 56) || gQ x
theorem Jz (x : ak) : dn.f x.f0 x.f1 x.f2 x.f3 x.f4 x.f5 = some (gQ x):=by
 unfold dn.f gQ;by_cases h : x.f0 ≥ 1
 · rw [if_pos h,decide_eq_true (show 1 ≤ x.f0 from h)];rfl
 · rw [if_neg h,decide_eq_false (show ¬ 1 ≤ x.f0 from h)];rfl
theorem isS_f (x : ak) : kF.f x.f0 x.f1 x.f2 x.f3 x.f4 x.f5 = some (isS x):=by
 unfold kF.f isS;by_cases h0 : x.f0 = 47
 · rw [if_pos h0,decide_eq_true h0];rfl
 · rw [if_neg h0,decide_eq_false h0];by_cases h : x.f0 ≥ 48
   · rw [if_pos h,decide_eq_true (show 48 ≤ x.f0 from h)];rfl
   · rw [if_neg h,decide_eq_false (show ¬ 48 ≤ x.f0 from h)];rfl
theorem isP_f (x : ak) : qM.f x.f0 x.f1 x.f2 x.f3 x.f4 x.f5 = some (EH x):=by
 unfold qM.f EH;by_cases h4 : x.f0 = 4 <;> by_cases h5 : x.f0 = 5 <;> by_cases h6 : x.f0 = 6 <;> by_cases h7 : x.f0 = 7 <;> simp [h4,h5,h6,h7]
theorem isN_f (x : ak) : iq.f x.f0 x.f1 x.f2 x.f3 x.f4 x.f5 = some (BD x):=by
 unfold iq.f BD;by_cases h : x.f0 = 56
 · rw [if_pos h,decide_eq_true h];rfl
 · rw [if_neg h,decide_eq_false h,Jz];rfl
section
variable {x : ak} {A : Option Addr} {c : Nat} {w : World}
theorem expression.all (hn : ND w x A c) : Calls Tryz.prog 40 #[val x A c] w (bg (gQ x) w):=expression.of x _ (Jz x) A c w hn
theorem statement.all (hn : ND w x A c) : Calls Tryz.prog 42 #[val x A c] w (bg (isS x) w):=statement.of x _ (isS_f x) A c w hn
theorem place.all (hn : ND w x A c) : Calls Tryz.prog 69 #[val x A c] w (bg (EH x) w):=qM.calls _ _ _ _ A c _ _ _ w hn.C hn.le (isP_f x)
theorem perhaps.all (hn : ND w x A c) : Calls Tryz.prog 75 #[val x A c] w (bg (BD x) w):=iq.calls _ _ _ _ A c _ _ _ w hn.C hn.le (isN_f x)
theorem D7.all (hn : ND w x A c) : Calls Tryz.prog 71 #[val x A c] w (bg (decide (x.f0 = 16) || gQ x) w):=by
 have HB:=Am (Z7 (Below.refl w.heap.size w) (.cells #[.int .i64 x.f0,.string x.f1,.int .u32 x.f2,.bool x.f3,.slice A x.f4.length c,.int .i64 x.f5] 25 (0,0)));have HN:=Am (hn.below HB.out);clear hn;by_cases h : x.f0 = 16
 · have hb : (x.f0 == 16) = true:=by simp [h]
   go_enter Tryz.func71,Tryz.ntmps71
   go_wp2_with fail
   go_ret
   exact ⟨by rw [decide_eq_true h];rfl,Z7 (Below.refl _ _) _⟩
 · have hb : (x.f0 == 16) = false:=by simp [h]
   go_enter Tryz.func71,Tryz.ntmps71
   go_wp2_with (first
    | (go_at_call 40;((refine (expression.all HN.out).mono ?_);rintro e w1 ⟨rfl,hB⟩);have HB1:=Am (aJ HB.out HB.out.size hB);clear hB)
    | fail)
   go_ret
   exact ⟨by rw [decide_eq_false h];rfl,HB1.out⟩
end
section
variable {x : ak} {A : Option Addr} {c : Nat} {w : World}
theorem FB.all (hn : ND w x A c) : Calls Tryz.prog 73 #[val x A c] w (bg (isS x || decide (x.f0 = 42)) w):=by
 have HB:=Am (Z7 (Below.refl w.heap.size w) (.cells #[.int .i64 x.f0,.string x.f1,.int .u32 x.f2,.bool x.f3,.slice A x.f4.length c,.int .i64 x.f5] 25 (0,0)));have HN:=Am (hn.below HB.out);have HX:=Am (show NB (w.alloc (.cells #[.int .i64 x.f0,.string x.f1,.int .u32 x.f2,.bool x.f3,.slice A x.f4.length c,.int .i64 x.f5] 25 (0,0))) w.heap.size x A c from cO w _);clear hn;cases hs : isS x with
 | true =>
  have HS:=Am hs;clear hs;go_enter Tryz.func73,Tryz.ntmps73
  go_wp2_with (first
   | (go_at_call 42;((refine (statement.all HN.out).mono ?_);rw [HS.out];rintro e w1 ⟨rfl,hB⟩);have HB1:=Am (aJ HB.out HB.out.size hB);clear hB)
   | fail)
  go_ret
  exact ⟨rfl,HB1.out⟩
 | false =>
  have HS:=Am hs;clear hs;by_cases h : x.f0 = 42;all_goals have HH:=Am h
  all_goals clear h
  · go_enter Tryz.func73,Tryz.ntmps73
    go_wp2_with (first
     | (go_at_call 42;((refine (statement.all HN.out).mono ?_);rw [HS.out];rintro e w1 ⟨rfl,hB⟩);have HB1:=Am (aJ HB.out HB.out.size hB);obtain ⟨c0,c1,c2,c3,c4,c5⟩:=(HX.out.below hB).cells;clear hB;have h:=HH.out;have hb : (x.f0 == 42) = true:=by simp [h])
     | fail)
    go_ret
    exact ⟨by rw [decide_eq_true HH.out];first|rfl|simp [HH.out],HB1.out⟩
  · go_enter Tryz.func73,Tryz.ntmps73
    go_wp2_with (first
     | (go_at_call 42;((refine (statement.all HN.out).mono ?_);rw [HS.out];rintro e w1 ⟨rfl,hB⟩);have HB1:=Am (aJ HB.out HB.out.size hB);obtain ⟨c0,c1,c2,c3,c4,c5⟩:=(HX.out.below hB).cells;clear hB;have h:=HH.out;have hb : (x.f0 == 42) = false:=by simp [h])
     | fail)
    go_ret
    exact ⟨by rw [decide_eq_false HH.out];first|rfl|simp [HH.out],HB1.out⟩
theorem BF.all (hn : ND w x A c) : Calls Tryz.prog 76 #[val x A c] w (bg (decide (x.f0 = 41) || decide (x.f0 = 42) || decide (x.f0 = 45)) w):=by
 clear hn;by_cases h1 : x.f0 = 41
 · have b1 : (x.f0 == 41) = true:=by simp [h1]
   go_enter Tryz.func76,Tryz.ntmps76
   go_wp2
   go_ret
   exact ⟨by simp [h1],Z7 (Below.refl _ _) _⟩
 · have b1 : (x.f0 == 41) = false:=by simp [h1]
   by_cases h2 : x.f0 = 42
   · have b2 : (x.f0 == 42) = true:=by simp [h2]
     go_enter Tryz.func76,Tryz.ntmps76
     go_wp2
     go_ret
     exact ⟨by simp [h2],Z7 (Below.refl _ _) _⟩
   · have b2 : (x.f0 == 42) = false:=by simp [h2]
     have HH:=Am (And.intro h1 h2);go_enter Tryz.func76,Tryz.ntmps76
     go_wp2
     go_ret
     exact ⟨by rw [decide_eq_false HH.out.1,decide_eq_false HH.out.2];rfl,Z7 (Below.refl _ _) _⟩
end
theorem of1.all {x : ak} {A : Option Addr} {c : Nat} {w : World} (k : Int) (q : Nat) (hq : w.heap[q]? = some (.cells #[.int .i64 k] 3 (0,0))) : Calls Tryz.prog 94 #[val x A c,.pointer (some ⟨q,0,none⟩)] w (bg (decide (x.f0 = k)) w):=by
 have HB:=Am (Z7 (Below.refl w.heap.size w) (.cells #[.int .i64 x.f0,.string x.f1,.int .u32 x.f2,.bool x.f3,.slice A x.f4.length c,.int .i64 x.f5] 25 (0,0)));have hx:=(Z5 (o7 hq HB.out) 0).trans (show #[Value.int .i64 k][0]? = some (.int .i64 k) from rfl);have HQ:=Am hq;clear hq;go_enter Tryz.func94,Tryz.ntmps94
 go_wp2
 go_ret
 exact ⟨rfl,HB.out⟩
def OfK (k : Int) (w : World) (e : Ending) (w' : World) : Prop:=∃ q,e = .returned (.func (.func 94) #[] #[.pointer (some ⟨q,0,none⟩)]) ∧ w'.heap[q]? = some (.cells #[.int .i64 k] 3 (0,0)) ∧ Below w.heap.size w w'
theorem of.all (k : Int) (w : World) : Calls Tryz.prog 70 #[.int .i64 k] w (OfK k w):=by
 go_enter Tryz.func70,Tryz.ntmps70
 go_wp2
 go_ret
 exact ⟨w.heap.size,rfl,cO w _,Z7 (Below.refl _ _) _⟩
def kZ (x : ak) : Bool:=!decide (x.f0 = 43) || decide (x.f4.length = 0) || (x.f3 && decide (x.f4.length = 1))
section
variable {x : ak} {A : Option Addr} {c : Nat} {w : World}
set_option maxHeartbeats 2000000 in
theorem kZ.all (hn : ND w x A c) : Calls Tryz.prog 96 #[val x A c] w (bg (kZ x) w):=by
 clear hn;by_cases h1 : x.f0 = 43
 · have b1 : (x.f0 == 43) = true:=by simp [h1]
   by_cases h2 : x.f4.length = 0
   · have b2 : ((x.f4.length : Int) == 0) = true:=by simp [h2]
     have HH:=Am (show kZ x = true by simp [kZ,h2]);go_enter Tryz.func96,Tryz.ntmps96
     go_wp2
     go_ret
     exact ⟨by rw [HH.out];first|rfl|simp,Z7 (Below.refl _ _) _⟩
   · have b2 : ((x.f4.length : Int) == 0) = false:=by simp [h2]
     cases h3 : x.f3 with
     | true =>
      have HH:=Am (show kZ x = ((x.f4.length : Int) == 1) from by unfold kZ;rw [h1,h3,decide_eq_false h2];simp;rw [Bool.eq_iff_iff];simp;omega);go_enter Tryz.func96,Tryz.ntmps96
      go_wp2
      go_ret
      exact ⟨by rw [HH.out];first|rfl|simp,Z7 (Below.refl _ _) _⟩
     | false =>
      have HH:=Am (show kZ x = false from by unfold kZ;rw [h1,h3,decide_eq_false h2];rfl);go_enter Tryz.func96,Tryz.ntmps96
      go_wp2
      go_ret
      exact ⟨by rw [HH.out];first|rfl|simp,Z7 (Below.refl _ _) _⟩
 · have b1 : (x.f0 == 43) = false:=by simp [h1]
   have HH:=Am (show kZ x = true by simp [kZ,h1]);go_enter Tryz.func96,Tryz.ntmps96
   go_wp2
   go_ret
   exact ⟨by rw [HH.out];first|rfl|simp,Z7 (Below.refl _ _) _⟩
end
def su (x : ak) : Bool:=decide (x.f0 = 42) && x.f4.all kZ
theorem oK {g : FuncId} {p : ak → Bool} {xs : List ak} {w : World} (h : ∀ {x : ak} {A : Option Addr} {c : Nat} {w : World},ND w x A c → Calls Tryz.prog g #[val x A c] w (bg (p x) w)) : Asks g #[] p xs w :=
 fun x _ W A c _ hn => by rw [Array.append_empty];exact h hn
set_option maxHeartbeats 2000000 in
theorem bare.all {x : ak} {A : Option Addr} {c : Nat} {w : World} (hn : ND w x A c) : Calls Tryz.prog 77 #[val x A c] w (bg (su x) w):=by
 have HB:=Am (Z7 (Below.refl w.heap.size w) (.cells #[.int .i64 x.f0,.string x.f1,.int .u32 x.f2,.bool x.f3,.slice A x.f4.length c,.int .i64 x.f5] 25 (0,0)));have HN:=Am hn;have HE:=Am (show Enters Tryz.prog 96 from enters_of Tryz.func96 (by kernel_rfl) rfl);clear hn;by_cases h1 : x.f0 = 42
 · have b1 : (x.f0 == 42) = true:=by simp [h1]
   have HH:=Am (show su x = x.f4.all kZ by simp [su,h1]);go_enter Tryz.func77,Tryz.ntmps77
   go_wp2_with (first
    | (go_at_call 33;((refine (every.calls x.f4 A c _ ((HN.out.below (Z7 (Below.refl _ _) _)).C) 96 #[] kZ HE.out (oK kZ.all)).mono ?_);rintro e w1 ⟨rfl,hB⟩);have HB1:=Am (aJ (Z7 (Below.refl w.heap.size w) _) (Z7 (Below.refl w.heap.size w) _).size hB);clear hB)
    | fail)
   go_ret
   exact ⟨by rw [HH.out];first|rfl|simp,HB1.out⟩
 · have b1 : (x.f0 == 42) = false:=by simp [h1]
   have HH:=Am (show su x = false by simp [su,h1]);go_enter Tryz.func77,Tryz.ntmps77
   go_wp2
   go_ret
   exact ⟨by rw [HH.out];first|rfl|simp,Z7 (Below.refl _ _) _⟩
def Gen (z : FuncId × (ak → Bool)) : Prop:=Enters Tryz.prog z.1 ∧ ∀ {x : ak} {A : Option Addr} {c : Nat} {w : World},ND w x A c → Calls Tryz.prog z.1 #[val x A c] w (bg (z.2 x) w)
theorem uU : Gen (40,gQ):=⟨enters_of Tryz.func40 (by kernel_rfl) rfl,expression.all⟩
theorem FC : Gen (42,isS):=⟨enters_of Tryz.func42 (by kernel_rfl) rfl,statement.all⟩
theorem gen_P : Gen (69,EH):=⟨enters_of Tryz.func69 (by kernel_rfl) rfl,place.all⟩
theorem gen_N : Gen (75,BD):=⟨enters_of Tryz.func75 (by kernel_rfl) rfl,perhaps.all⟩
theorem gen_T : Gen (71,fun x => decide (x.f0 = 16) || gQ x):=⟨enters_of Tryz.func71 (by kernel_rfl) rfl,D7.all⟩
theorem shape.of (gp : List (FuncId × (ak → Bool))) (hg : ∀ z ∈ gp,Gen z) (xs : List ak) (A : Option Addr) (c : Nat) (w : World) (hC : Kd.C k25 w A xs.length xs) (q cap : Nat) (h4 : gp.length ≤ 8)
 (hq : w.heap[q]? = some (.cells (gp.map fun z => Value.func (.func z.1) #[] #[]).toArray 29 (0,0))) :
 Calls Tryz.prog 67 #[.slice A xs.length c,.slice (some ⟨q,0,none⟩) gp.length cap] w (bg (aU (gp.map (·.2)) xs) w):=by
 have e:=shape.calls xs A c w hC q cap (gp.map fun z => Value.func (.func z.1) #[] #[]) (gp.map (·.2)) (by simp) (by simpa using h4) hq (fun i f hf hi => by
  rw [List.getElem?_map] at hf;cases hz : gp[i]? with
  | none => rw [hz] at hf;cases hf
  | some z =>
   rw [hz] at hf;obtain rfl:=Option.some.inj hf;obtain ⟨h1,h2⟩:=hg z (List.mem_of_getElem? hz);refine ⟨z.1,#[],rfl,h1,fun W A c _ hn => ?_⟩;rw [Array.append_empty];have e : yL (gp.map (·.2)) i = z.2:=by
    unfold yL;rw [List.getD_eq_getElem?_getD,List.getElem?_map,hz];rfl
   rw [e];exact h2 hn)
 rwa [List.length_map] at e
open Go.Proofs.YtboojhadfhpdeaaGreatDoor.Lex
def pq (l s : ByteArray) : Bool:=nP ([32] ++ l.data.toList ++ [32]) s.data.toList
section
variable {s : ByteArray} {w : World}
theorem name.all (hs : gY s) (hG : aH w) : Calls Tryz.prog 66 #[.string s] w (bg (jD s) w):=by
 obtain ⟨k,hk⟩:=(nm_ast s hs).rounds;exact jB.calls k s _ w hG hk
theorem one.all (l : ByteArray) (hl : l.size ≤ 1000) (hs : gY s) (hG : aH w) : Calls Tryz.prog 68 #[.string l,.string s] w (bg (pq l s) w):=iM.calls l s _ w hG (Jr l s hl hs)
theorem typed.all (hs : gY s) (hG : aH w) : Calls Tryz.prog 72 #[.string s] w (bg (tyB s) w):=by
 obtain ⟨k,hk⟩:=(ty_ast s hs).rounds;exact oq.calls k s _ w hG hk
end
theorem shape.at (n : Nat) (gp : List (FuncId × (ak → Bool))) (e : gp.length = n) (hg : ∀ z ∈ gp,Gen z) (xs : List ak) (A : Option Addr) (c : Nat) (w : World) (hC : Kd.C k25 w A xs.length xs) (q cap : Nat) (h4 : n ≤ 8)
 (hq : w.heap[q]? = some (.cells (gp.map fun z => Value.func (.func z.1) #[] #[]).toArray 29 (0,0))) :
 Calls Tryz.prog 67 #[.slice A xs.length c,.slice (some ⟨q,0,none⟩) n cap] w (bg (aU (gp.map (·.2)) xs) w):=by
 subst e;exact shape.of gp hg xs A c w hC q cap h4 hq
structure Env (w : World) (x : ak) (A : Option Addr) (c : Nat) (W : World) : Prop where
 b : Below w.heap.size w W
 n : NB W w.heap.size x A c
 k : ND w x A c
 g : aH w
theorem Env.start {w : World} {x : ak} {A : Option Addr} {c : Nat} (hG : aH w) (hn : ND w x A c) : Ad (Env w x A c (w.alloc (.cells #[.int .i64 x.f0,.string x.f1,.int .u32 x.f2,.bool x.f3,.slice A x.f4.length c,.int .i64 x.f5] 25 (0,0)))) :=
 ⟨Z7 (Below.refl _ _) _,cO w _,hn,hG⟩
section
variable {w W : World} {x : ak} {A : Option Addr} {c : Nat}
theorem NB.alloc {w : World} {g : Nat} (h : NB w g x A c) (o : Obj) : NB (w.alloc o) g x A c:=h.below (Z7 (Below.refl _ _) o)
theorem Env.alloc (E : Env w x A c W) (o : Obj) : Env w x A c (W.alloc o):=⟨Z7 E.b o,E.n.alloc o,E.k,E.g⟩
theorem Env.step {W1 : World} (E : Env w x A c W) (hB : Below W.heap.size W W1) : Env w x A c W1:=⟨Z25 E.b hB,E.n.below hB,E.k,E.g⟩
theorem Env.nd (E : Env w x A c W) : ND W x A c:=E.k.below E.b
theorem Env.kids (E : Env w x A c W) : Kd.C k25 W A x.f4.length x.f4:=E.nd.C
theorem Env.bH (E : Env w x A c W) : aH W:=E.g.below E.b
theorem Env.cells (E : Env w x A c W) : W.cell? ⟨w.heap.size,0,none⟩ = some (.int .i64 x.f0) ∧ W.cell? ⟨w.heap.size,1,none⟩ = some (.string x.f1) ∧ W.cell? ⟨w.heap.size,2,none⟩ = some (.int .u32 x.f2) ∧ W.cell? ⟨w.heap.size,3,none⟩ = some (.bool x.f3) ∧ W.cell? ⟨w.heap.size,4,none⟩ = some (.slice A x.f4.length c) ∧ W.cell? ⟨w.heap.size,5,none⟩ = some (.int .i64 x.f5):=E.n.cells
theorem Env.call {W0 : World} {v b : Bool} {f : FuncId} {args : Array Value} {Q : Ending → World → Prop} (E0 : Ad (Env w x A c W0)) (E : Env w x A c W) (hb : b = v) (h : Calls Tryz.prog f args W (bg b W))
 (K : ∀ w1,Ad (Env w x A c w1) → w1.cell? ⟨w.heap.size,0,none⟩ = some (.int .i64 x.f0) → w1.cell? ⟨w.heap.size,1,none⟩ = some (.string x.f1) → w1.cell? ⟨w.heap.size,2,none⟩ = some (.int .u32 x.f2) → w1.cell? ⟨w.heap.size,3,none⟩ = some (.bool x.f3) → w1.cell? ⟨w.heap.size,4,none⟩ = some (.slice A x.f4.length c) → w1.cell? ⟨w.heap.size,5,none⟩ = some (.int .i64 x.f5) → Q (.returned (.bool v)) w1) : Calls Tryz.prog f args W Q:=by
 subst hb;refine h.mono ?_;rintro e w1 ⟨rfl,hB⟩;have E1:=E.step hB;obtain ⟨c0,c1,c2,c3,c4,c5⟩:=E1.cells;exact K w1 ⟨E1⟩ c0 c1 c2 c3 c4 c5
theorem dS {W1 : World} (h : Below w.heap.size w W1:=by first|exact E.out.b|exact (E.out.alloc _).b|exact Z7 (Below.refl _ _) _) : Below w.heap.size w W1:=h
end
abbrev gE : List (FuncId × (ak → Bool)):=[(40,gQ)]
theorem FD : ∀ z ∈ gE,Gen z:=by
 intro z hz;simp only [gE,List.mem_cons,List.not_mem_nil,or_false] at hz;rcases hz with rfl
 · exact uU
abbrev zM : List (FuncId × (ak → Bool)):=[(40,gQ),(40,gQ)]
theorem Ia : ∀ z ∈ zM,Gen z:=by
 intro z hz;simp only [zM,List.mem_cons,List.not_mem_nil,or_false] at hz;rcases hz with rfl|rfl
 · exact uU
 · exact uU
abbrev xE : List (FuncId × (ak → Bool)):=[(40,gQ),(40,gQ),(40,gQ)]
theorem ok_gEEE : ∀ z ∈ xE,Gen z:=by
 intro z hz;simp only [xE,List.mem_cons,List.not_mem_nil,or_false] at hz;rcases hz with rfl|rfl|rfl
 · exact uU
 · exact uU
 · exact uU
abbrev Ib : List (FuncId × (ak → Bool)):=[(69,EH),(40,gQ)]
theorem ok_gPE : ∀ z ∈ Ib,Gen z:=by
 intro z hz;simp only [Ib,List.mem_cons,List.not_mem_nil,or_false] at hz;rcases hz with rfl|rfl
 · exact gen_P
 · exact uU
abbrev gT : List (FuncId × (ak → Bool)):=[(71,(fun x => decide (x.f0 = 16) || gQ x))]
theorem ok_gT : ∀ z ∈ gT,Gen z:=by
 intro z hz;simp only [gT,List.mem_cons,List.not_mem_nil,or_false] at hz;rcases hz with rfl
 · exact gen_T
abbrev gES : List (FuncId × (ak → Bool)):=[(40,gQ),(42,isS)]
theorem ok_gES : ∀ z ∈ gES,Gen z:=by
 intro z hz;simp only [gES,List.mem_cons,List.not_mem_nil,or_false] at hz;rcases hz with rfl|rfl
 · exact uU
 · exact FC
abbrev gSE : List (FuncId × (ak → Bool)):=[(42,isS),(40,gQ)]
theorem ok_gSE : ∀ z ∈ gSE,Gen z:=by
 intro z hz;simp only [gSE,List.mem_cons,List.not_mem_nil,or_false] at hz;rcases hz with rfl|rfl
 · exact FC
 · exact uU
abbrev FH : List (FuncId × (ak → Bool)):=[(40,gQ),(42,isS),(42,isS)]
theorem ok_gESS : ∀ z ∈ FH,Gen z:=by
 intro z hz;simp only [FH,List.mem_cons,List.not_mem_nil,or_false] at hz;rcases hz with rfl|rfl|rfl
 · exact uU
 · exact FC
 · exact FC
abbrev Ai : List (FuncId × (ak → Bool)):=[(75,BD),(75,BD),(75,BD),(42,isS)]
theorem ok_gNNNS : ∀ z ∈ Ai,Gen z:=by
 intro z hz;simp only [Ai,List.mem_cons,List.not_mem_nil,or_false] at hz;rcases hz with rfl|rfl|rfl|rfl
 · exact gen_N
 · exact gen_N
 · exact gen_N
 · exact FC
end Go.Proofs.YtboojhadfhpdeaaGreatDoor.Q
namespace Go.Proofs
open Go.Shelf
def Tryz.layU_ren : Go.Shelf.Ren:=⟨fun | 129 => 146 | 284 => 141 | 285 => 142 | 317 => 145 | 318 => 147|n => n,fun | 0 => 0 | 3 => 3 | 4 => 4 | 5 => 5 | 9 => 9 | 37 => 40 | 46 => 70 | 51 => 22 | 53 => 89 | 212 => 112|n => n,fun | 17 => 1|n => n⟩
theorem Tryz.layU284 : Go.Proofs.LaysM.n284 Tryz.prog Tryz.layU_ren:={
 mixed:=by kernel_rfl
 f129:=Tryz.func146.trans (congrArg some (by kernel_rfl))
 f284:=Tryz.func141.trans (congrArg some (by kernel_rfl))
 f317:=Tryz.func145.trans (congrArg some (by kernel_rfl))
 f318:=Tryz.func147.trans (congrArg some (by kernel_rfl))
 t0:=Tryz.underlying0
 a0:=Tryz.isAgg0
 z0:=Tryz.sizeOf0
 v0:=Tryz.zeroValue0
 t3:=Tryz.underlying3
 a3:=Tryz.isAgg3
 z3:=Tryz.sizeOf3
 v3:=Tryz.zeroValue3
 t4:=Tryz.underlying4
 a4:=Tryz.isAgg4
 z4:=Tryz.sizeOf4
 v4:=Tryz.zeroValue4
 t5:=Tryz.underlying5
 a5:=Tryz.isAgg5
 z5:=Tryz.sizeOf5
 v5:=Tryz.zeroValue5
 t9:=Tryz.underlying9
 a9:=Tryz.isAgg9
 z9:=Tryz.sizeOf9
 v9:=Tryz.zeroValue9
 t46:=Tryz.underlying70
 a46:=Tryz.isAgg70
 z46:=Tryz.sizeOf70
 v46:=Tryz.zeroValue70
 t53:=Tryz.underlying89
 a53:=Tryz.isAgg89
 z53:=Tryz.sizeOf89
 v53:=Tryz.zeroValue89
 t212:=Tryz.underlying112
 a212:=Tryz.isAgg112
 z212:=Tryz.sizeOf112
 v212:=Tryz.zeroValue112
 g17:=by kernel_rfl
 i0:=by kernel_rfl
 i3:=by kernel_rfl
 i4:=by kernel_rfl
 i5:=by kernel_rfl
 i9:=by kernel_rfl
 i46:=by kernel_rfl
 i53:=by kernel_rfl
 i212:=by kernel_rfl
 m17:=by kernel_rfl }
theorem Tryz.layU285 : Go.Proofs.Lays.n285 Tryz.prog Tryz.layU_ren:={
 mixed:=by kernel_rfl
 f285:=Tryz.func142.trans (congrArg some (by kernel_rfl))
 t0:=Tryz.underlying0
 a0:=Tryz.isAgg0
 z0:=Tryz.sizeOf0
 v0:=Tryz.zeroValue0
 t3:=Tryz.underlying3
 a3:=Tryz.isAgg3
 z3:=Tryz.sizeOf3
 v3:=Tryz.zeroValue3
 t4:=Tryz.underlying4
 a4:=Tryz.isAgg4
 z4:=Tryz.sizeOf4
 v4:=Tryz.zeroValue4
 t5:=Tryz.underlying5
 a5:=Tryz.isAgg5
 z5:=Tryz.sizeOf5
 v5:=Tryz.zeroValue5
 t9:=Tryz.underlying9
 a9:=Tryz.isAgg9
 z9:=Tryz.sizeOf9
 v9:=Tryz.zeroValue9
 t37:=Tryz.underlying40
 a37:=Tryz.isAgg40
 z37:=Tryz.sizeOf40
 v37:=Tryz.zeroValue40
 t51:=Tryz.underlying22
 a51:=Tryz.isAgg22
 z51:=Tryz.sizeOf22
 v51:=Tryz.zeroValue22
 t53:=Tryz.underlying89
 a53:=Tryz.isAgg89
 z53:=Tryz.sizeOf89
 v53:=Tryz.zeroValue89 }
end Go.Proofs
namespace Go.Proofs.YtboojhadfhpdeaaGreatDoor.Q
open Go.RowKit Go.Proofs.YtboojhadfhpdeaaGreatDoorW.PrintWords Go.Proofs.YtboojhadfhpdeaaGreatDoorW.PrintLast Go.Proofs.YtboojhadfhpdeaaGreatDoorW.PrintMore
open Go.Lib Go.«Sort»
abbrev Tb (w : World) : Prop:=Lib.TabIs Tryz.prog w "internal/strconv.uint64pow10" .u64 Lib.pow10Tab
theorem globU : Tryz.prog.globalNamed "internal/strconv.uint64pow10" = some 1:=by kernel_rfl
theorem Tb.below {w w1 : World} (h : Tb w) (hb : Below w.heap.size w w1) : Tb w1:=by
 refine var?_below (g:=1) hb globU ?_ h;unfold Tb Lib.TabIs World.var? at h;rw [globU] at h;simp only [Option.bind_some] at h;rcases Nat.lt_or_ge 1 w.heap.size with h0|h0
 · exact h0
 · rw [Array.getElem?_eq_none h0] at h;simp at h
theorem slice105 (n : Nat) (h : n ≤ 24) (g : Nat) (W : World) : (Instr.sliceAt 105 (.pointer (some ⟨g,0,none⟩)) none (some (.int .i64 (n : Int))) none).run Tryz.prog W = .ok (.slice (some ⟨g,0,none⟩) n 24) W:=by
 rw [run_sliceAt_array_h W 105 ⟨g,0,none⟩ (by simp [Program.arrayLen,Program.elem,Tryz.underlying105]) .i64 (n : Int) (by omega) (by rw [show Tryz.prog.arrayLen 105 = 24 from by simp [Program.arrayLen,Tryz.underlying105]];omega)];go_simp;try omega
theorem below_grow (w : World) (k : Nat) (os : Array Obj) : Below w.heap.size w (grow (w.drewN k) os) :=
 ⟨rfl,rfl,rfl,by show w.heap.size ≤ (w.heap ++ os).size;rw [Array.size_append];omega,fun g hg => heap_grow_old w k os g hg⟩
theorem uD.big (u : Nat) (h1 : 100 ≤ u) (h2 : u < 18446744073709551616) (w : World) (htab : Tb w) : Calls Tryz.prog 135 #[.int .u64 u,.int .i64 10] w fun e w' => e = .returned (.string ⟨(Lib.decDigits u).toArray⟩) ∧ Below w.heap.size w w' := by
 have hnd20 : Lib.nDigits u ≤ 20:=by have:=Lib.numDigits_eq u (by omega) h2;split at this <;> omega
 have hsl:=slice105 (Lib.nDigits u) (by omega) w.heap.size;have hH0:=Lib.holds_zero0 w 105 (Lib.nDigits u) (by omega);have hfmt:=Any.internal_strconv_formatBase10 Tryz.layU285 w.heap.size 0 24 u (Array.replicate (Lib.nDigits u) 0) (w.alloc (.cells Lib.zeros24 105)) hH0 (by rw [Array.size_replicate];exact Lib.lt_pow_nDigits u) h2 (by rw [Array.size_replicate];omega);rw [Array.size_replicate] at hfmt;have HH0:=Am hH0;have HF:=Am hfmt;have HT:=Am htab;have b1 : decide ((u : Int) < 100) = false:=decide_eq_false (by omega);have b2 : decide (u < 100) = false:=decide_eq_false (by omega);have HU:=Am h1;clear hH0 hfmt htab h1;go_enter Tryz.func135,Tryz.ntmps135
 go_wp2_with (first
  | (go_at_call 141;refine (Any.internal_strconv_numDigits Tryz.layU284 u (by have:=HU.out;omega) h2 _ (Lib.tabIs_alloc HT.out _)).mono ?_;rintro e w' ⟨rfl,rfl⟩)
  | fail)
 refine HF.out.mono ?_;rintro e w' ⟨rfl,k,v',dk,rfl,hF⟩;have HFF:=Am hF;clear hF;have hcv : (convert 40 9 (.slice (some ⟨w.heap.size,0,none⟩) (Lib.nDigits u) 24)).run Tryz.prog ((putRow (fun (b : UInt8) => Value.int .u8 (b.toNat : Int)) (w.alloc (.cells Lib.zeros24 105)) w.heap.size 0 dk).drewN k) = .ok (.string ⟨(Lib.decDigits u).toArray⟩) ((putRow (fun (b : UInt8) => Value.int .u8 (b.toNat : Int)) (w.alloc (.cells Lib.zeros24 105)) w.heap.size 0 dk).drewN k):=by
  have h:=run_convert_bytes_back (P:=Tryz.prog) ((putRow (fun (b : UInt8) => Value.int .u8 (b.toNat : Int)) (w.alloc (.cells Lib.zeros24 105)) w.heap.size 0 dk).drewN k) 40 9 5 ⟨w.heap.size,0,none⟩ 24 (Lib.decDigits u) Tryz.underlying40 Tryz.underlying5 Tryz.underlying9 (fun j hj => by
   rw [Lib.row_is_numeral HFF.out j hj,Lib.add_plain,World.cell?_drewN];exact cell?_putRow (fun (b : UInt8) => Value.int .u8 (b.toNat : Int)) _ w.heap.size 0 _ dk HH0.out (by rw [HFF.out.size,Array.size_replicate]) j (by rw [HFF.out.size];rw [Lib.decDigits_length] at hj;exact hj))
  rw [Lib.decDigits_length] at h;exact h
 go_wp2
 go_ret
 obtain ⟨os,eo⟩:=Lib.fin_at w (.cells Lib.zeros24 105) dk k 0;refine ⟨rfl,?_⟩;rw [eo];exact below_grow w k os
theorem uD.small (u : Nat) (h1 : u < 100) (w : World) : Calls Tryz.prog 135 #[.int .u64 u,.int .i64 10] w fun e w' => e = .returned (.string ⟨(Lib.decDigits u).toArray⟩) ∧ Below w.heap.size w w' := by
 have b1 : decide ((u : Int) < 100) = true:=decide_eq_true (by omega);have b2 : decide (u < 100) = true:=decide_eq_true (by omega);have cu : wrap64 (u : Int) = (u : Int):=by unfold wrap64;omega
 have HU:=Am h1;clear h1;go_enter Tryz.func135,Tryz.ntmps135
 go_wp2_with (first
  | (go_at_call 140;((refine (Tryz.internal_strconv_small u HU.out _).mono ?_);rintro e w1 ⟨rfl,rfl⟩))
  | fail)
 go_ret
 exact ⟨rfl,Below.refl _ _⟩
def MC (n : Int) : ByteArray:=⟨(Lib.decDigits n.toNat).toArray⟩
theorem uD.all {v : Int} (h : 0 ≤ v ∧ v < 4294967296) {w : World} (htab : Tb w) : Calls Tryz.prog 125 #[.int .u64 v,.int .i64 10] w fun e w' => e = .returned (.string (MC v)) ∧ Below w.heap.size w w' := by
 obtain ⟨u,rfl⟩:=Int.eq_ofNat_of_zero_le h.1;have HC:=Am (show Calls Tryz.prog 135 #[.int .u64 u,.int .i64 10] w fun e w' => e = .returned (.string ⟨(Lib.decDigits u).toArray⟩) ∧ Below w.heap.size w w' from if h1 : u < 100 then uD.small u h1 w else uD.big u (by omega) (by omega) w htab);clear h htab;go_enter Tryz.func125,Tryz.ntmps125
 go_wp2_with (first
  | (go_at_call 135;(refine HC.out.mono ?_);rintro e w1 ⟨rfl,hB⟩;have HB:=Am hB;clear hB)
  | fail)
 go_ret
 exact ⟨rfl,HB.out⟩
structure PX (t b p : Nat) (l : List Int) (w : World) : Prop where
 hp : b ≤ p
 hb : b ≤ w.heap.size
 ex : ∃ v,w.heap[p]? = some (.cells #[v] t (0,0)) ∧ w.ownsRow b 5 1 v l.length (nums .u8 l)
theorem PX.below {t b p : Nat} {l : List Int} {w w' : World} (h : PX t b p l w) (hB : Below w.heap.size w w') : PX t b p l w' := by
 obtain ⟨v,h1,h2⟩:=h.ex;refine ⟨h.hp,Nat.le_trans h.hb hB.size,v,o7 h1 hB,qG h2 (fun k hk => ?_)⟩;obtain ⟨_,cur,hc⟩:=qc h2 hk;exact hB.block k (jf hc)
theorem PX.put {t b p : Nat} (ht : t ≠ 5) {l l' : List Int} {w0 W w1 : World} {v v1 : Value} (hp : b ≤ p) (hb : b ≤ W.heap.size) (h1 : W.heap[p]? = some (.cells #[v] t (0,0))) (h2 : W.ownsRow b 5 1 v l.length (nums .u8 l)) (ho : w1.ownsRow b 5 1 v1 l'.length (nums .u8 l')) (hB : Below b w0 w1) (hg : W.grownBy w1 v.ownBlock) :
 w1.heap[p]? = some (.cells #[v] t (0,0)) ∧ PX t b p l' (w1.setCell ⟨p,0,none⟩ v1) ∧ Below b w0 (w1.setCell ⟨p,0,none⟩ v1) ∧ Fr p W (w1.setCell ⟨p,0,none⟩ v1):=by
 have hsz : (w1.setCell ⟨p,0,none⟩ v1).heap.size = w1.heap.size:=by simp [World.setCell]
 have hne : ∀ k t cs,W.heap[k]? = some (.cells cs t (0,0)) → t ≠ 5 → some k ≠ v.ownBlock:=fun k t cs hk ht he => by
  obtain ⟨_,cur,hc⟩:=qc h2 he.symm;rw [hk] at hc;injection hc with hc
  injection hc with _ ht'
  exact ht ht'
 have hp1:=Z89 h1 hg (hne p t _ h1 ht);refine ⟨hp1,⟨hp,by rw [hsz];exact Nat.le_trans hb hg.size,v1,nC hp1 0 v1,qG ho (fun k hk => ?_)⟩,hB.setCell hp v1,⟨by rw [hsz];exact hg.size,fun k t cs hk hkp ht => ?_⟩⟩
 · obtain ⟨_,cur,hc⟩:=qc ho hk;exact Below.heap_setCell w1 _ v1 k (fun e => blk_ne hc hp1 (Ne.symm ht) e)
 · exact (Below.heap_setCell w1 _ v1 k hkp).trans (Z89 hk hg (hne k t cs hk ht))
def BX (s : Bool) (b p : Nat) (m : List Int) (w : World) : Prop:=∃ l,PX (if s = true then 46 else 42) b p l w ∧ (l = m ∨ (s = true ∧ 1048576 < l.length ∧ 1048576 < m.length))
theorem BX.below {s : Bool} {b p : Nat} {m : List Int} {w w' : World} (h : BX s b p m w) (hB : Below w.heap.size w w') : BX s b p m w' := by
 obtain ⟨l,h1,h2⟩:=h;exact ⟨l,h1.below hB,h2⟩
theorem BX.lt {s : Bool} {b p : Nat} {m : List Int} {w : World} (h : BX s b p m w) : p < w.heap.size:=by
 obtain ⟨l,⟨_,_,v,h1,_⟩,_⟩:=h;exact jf h1
structure St (s : Bool) (p : Nat) (w0 : World) (F r : List Int) (w : World) : Prop where
 b : Below w0.heap.size w0 w
 ex : ∃ m,m ++ r = F ∧ BX s w0.heap.size p m w
 len : F.length ≤ 70368744177664
 g : aH w0
 tb : Tb w0
theorem St.step {s : Bool} {p : Nat} {w0 : World} {F r : List Int} {w w' : World} (h : St s p w0 F r w) (hB : Below w.heap.size w w') : St s p w0 F r w' := by
 obtain ⟨b,⟨m,hm,hx⟩,l,g,tb⟩:=h;exact ⟨aJ b b.size hB,⟨m,hm,hx.below hB⟩,l,g,tb⟩
theorem St.lt {s : Bool} {p : Nat} {w0 : World} {F r : List Int} {w : World} (h : St s p w0 F r w) : p < w.heap.size:=by
 obtain ⟨m,_,hx⟩:=h.ex;exact hx.lt
theorem St.tab {s : Bool} {p : Nat} {w0 : World} {F r : List Int} {w : World} (h : St s p w0 F r w) : Tb w:=h.tb.below h.b
theorem St.bH {s : Bool} {p : Nat} {w0 : World} {F r : List Int} {w : World} (h : St s p w0 F r w) : aH w:=h.g.below h.b
def gW (s : Bool) (p : Nat) (w0 : World) (F r : List Int) (v : Value) (w : World) (e : Ending) (w' : World) : Prop:=e = .returned v ∧ St s p w0 F r w' ∧ Fr p w w'
theorem putP.calls {p q : Nat} {w0 w : World} {F r : List Int} {c : Nat} (ss : List ByteArray) (h : St false p w0 F (ss.flatMap bytesOf ++ r) w) (hq : q ≠ p) (hS : w.heap[q]? = some (.cells (ss.map Value.string).toArray 9 (0,0))) (hn : ss.length ≤ 1000) :
 Calls Tryz.prog 54 #[.pointer (some ⟨p,0,none⟩),.slice (some ⟨q,0,none⟩) ss.length c] w (gW false p w0 F r (.tuple #[]) w):=by
 obtain ⟨b,⟨m,hm,l,hx,hl⟩,hF,g,tb⟩:=h;obtain rfl : l = m:=by
  rcases hl with h | ⟨h,_⟩
  · exact h
  · cases h
 have hlen : l.length + (ss.flatMap bytesOf).length ≤ 140737488355328:=by
  have:=congrArg List.length hm;simp only [List.length_append] at this;omega
 refine (put.calls w0.heap.size p q ss l c w0 w b ⟨hx.hp,hx.hb,hx.ex⟩ hq hS hlen hn).mono ?_;rintro e w' ⟨rfl,hp,hb,hf⟩;exact ⟨rfl,⟨hb,⟨l ++ ss.flatMap bytesOf,by rw [List.append_assoc];exact hm,_,⟨hp.hp,hp.hb,hp.ex⟩,.inl rfl⟩,hF,g,tb⟩,hf⟩
structure PE (s : Bool) (p g : Nat) (w0 : World) (x : ak) (A : Option Addr) (c : Nat) (F r : List Int) (ws W : World) : Prop where
 st : St s p w0 F r W
 n : NB W g x A c
 ne : g ≠ p
 k : ND w0 x A c
 fr : Fr p ws W
section
variable {s : Bool} {p g : Nat} {w0 : World} {x : ak} {A : Option Addr} {c : Nat} {F r t : List Int} {ws W : World}
theorem PE.start (h : St s p w0 F r ws) (hn : ND w0 x A c) : Ad (PE s p ws.heap.size w0 x A c F r ws (ws.alloc (.cells #[.int .i64 x.f0,.string x.f1,.int .u32 x.f2,.bool x.f3,.slice A x.f4.length c,.int .i64 x.f5] 25 (0,0)))) :=
 ⟨h.step (Z7 (Below.refl _ _) _),cO ws _,fun e => by have:=h.lt;omega,hn,Fr.of_below (Z7 (Below.refl _ _) _)⟩
theorem PE.step {W1 : World} (E : PE s p g w0 x A c F r ws W) (hB : Below W.heap.size W W1) : PE s p g w0 x A c F r ws W1 :=
 ⟨E.st.step hB,E.n.below hB,E.ne,E.k,E.fr.trans (Fr.of_below hB)⟩
theorem PE.alloc (E : PE s p g w0 x A c F r ws W) (o : Obj) : PE s p g w0 x A c F r ws (W.alloc o):=E.step (Z7 (Below.refl _ _) _)
theorem PE.bH (E : PE s p g w0 x A c F r ws W) : aH W:=E.st.bH
theorem PE.nd (E : PE s p g w0 x A c F r ws W) : ND W x A c:=E.k.below E.st.b
theorem PE.kids (E : PE s p g w0 x A c F r ws W) : Kd.C k25 W A x.f4.length x.f4:=E.nd.C
theorem PE.cells (E : PE s p g w0 x A c F r ws W) : W.cell? ⟨g,0,none⟩ = some (.int .i64 x.f0) ∧ W.cell? ⟨g,1,none⟩ = some (.string x.f1) ∧ W.cell? ⟨g,2,none⟩ = some (.int .u32 x.f2) ∧ W.cell? ⟨g,3,none⟩ = some (.bool x.f3) ∧ W.cell? ⟨g,4,none⟩ = some (.slice A x.f4.length c) ∧ W.cell? ⟨g,5,none⟩ = some (.int .i64 x.f5):=E.n.cells
theorem PE.call {W0 : World} {r0 : List Int} {v : Value} {f : FuncId} {args : Array Value} {Q : Ending → World → Prop} (E0 : Ad (PE s p g w0 x A c F r0 ws W0)) (E : PE s p g w0 x A c F (t ++ r) ws W) (h : St s p w0 F (t ++ r) W → Calls Tryz.prog f args W (gW s p w0 F r v W))
 (K : ∀ w1,Ad (PE s p g w0 x A c F r ws w1) → w1.cell? ⟨g,0,none⟩ = some (.int .i64 x.f0) → w1.cell? ⟨g,1,none⟩ = some (.string x.f1) → w1.cell? ⟨g,2,none⟩ = some (.int .u32 x.f2) → w1.cell? ⟨g,3,none⟩ = some (.bool x.f3) → w1.cell? ⟨g,4,none⟩ = some (.slice A x.f4.length c) → w1.cell? ⟨g,5,none⟩ = some (.int .i64 x.f5) → Q (.returned v) w1) : Calls Tryz.prog f args W Q:=by
 refine (h E.st).mono ?_;rintro e w1 ⟨rfl,h1,h2⟩;have hn : NB w1 g x A c:=h2.keep _ 25 _ E.n E.ne (by decide);obtain ⟨c0,c1,c2,c3,c4,c5⟩:=hn.cells;exact K w1 ⟨⟨h1,hn,E.ne,E.k,E.fr.trans h2⟩⟩ c0 c1 c2 c3 c4 c5
theorem PE.still {W0 : World} {r0 : List Int} {v : Value} {f : FuncId} {args : Array Value} {Q : Ending → World → Prop} (E0 : Ad (PE s p g w0 x A c F r0 ws W0)) (E : PE s p g w0 x A c F r ws W) (h : Calls Tryz.prog f args W (fun e w' => e = .returned v ∧ Below W.heap.size W w'))
 (K : ∀ w1,Ad (PE s p g w0 x A c F r ws w1) → w1.cell? ⟨g,0,none⟩ = some (.int .i64 x.f0) → w1.cell? ⟨g,1,none⟩ = some (.string x.f1) → w1.cell? ⟨g,2,none⟩ = some (.int .u32 x.f2) → w1.cell? ⟨g,3,none⟩ = some (.bool x.f3) → w1.cell? ⟨g,4,none⟩ = some (.slice A x.f4.length c) → w1.cell? ⟨g,5,none⟩ = some (.int .i64 x.f5) → Q (.returned v) w1) : Calls Tryz.prog f args W Q:=by
 refine h.mono ?_;rintro e w1 ⟨rfl,hB⟩;have E1:=E.step hB;obtain ⟨c0,c1,c2,c3,c4,c5⟩:=E1.cells;exact K w1 ⟨E1⟩ c0 c1 c2 c3 c4 c5
end
section
variable {p g : Nat} {w0 : World} {x : ak} {A : Option Addr} {c : Nat} {F r t : List Int} {ws W : World}
theorem PE.puts {q cc n : Nat} (ss : List ByteArray) {row : Array Value} {Q : Ending → World → Prop} (E : Ad (PE false p g w0 x A c F (ss.flatMap bytesOf ++ r) ws W)) (hrow : (ss.map Value.string).toArray = row) (hl : ss.length = n) (hq : q = W.heap.size) (hn : n ≤ 1000)
 (K : ∀ w1,Ad (PE false p g w0 x A c F r ws w1) → w1.cell? ⟨g,0,none⟩ = some (.int .i64 x.f0) → w1.cell? ⟨g,1,none⟩ = some (.string x.f1) → w1.cell? ⟨g,2,none⟩ = some (.int .u32 x.f2) → w1.cell? ⟨g,3,none⟩ = some (.bool x.f3) → w1.cell? ⟨g,4,none⟩ = some (.slice A x.f4.length c) → w1.cell? ⟨g,5,none⟩ = some (.int .i64 x.f5) → Q (.returned (.tuple #[])) w1) :
 Calls Tryz.prog 54 #[.pointer (some ⟨p,0,none⟩),.slice (some ⟨q,0,none⟩) n cc] (W.alloc (.cells row 9 (0,0))) Q:=by
 subst hrow hl hq;exact PE.call E (E.out.alloc _) (fun h => putP.calls ss h (fun e => by have:=E.out.st.lt;omega) (cO W _) hn) K
theorem PE.ig {q cc : Nat} {a : ByteArray} {Q : Ending → World → Prop} (E : Ad (PE false p g w0 x A c F (bytesOf a ++ r) ws W))
 (K : ∀ w1,Ad (PE false p g w0 x A c F r ws w1) → w1.cell? ⟨g,0,none⟩ = some (.int .i64 x.f0) → w1.cell? ⟨g,1,none⟩ = some (.string x.f1) → w1.cell? ⟨g,2,none⟩ = some (.int .u32 x.f2) → w1.cell? ⟨g,3,none⟩ = some (.bool x.f3) → w1.cell? ⟨g,4,none⟩ = some (.slice A x.f4.length c) → w1.cell? ⟨g,5,none⟩ = some (.int .i64 x.f5) → Q (.returned (.tuple #[])) w1) (hq : q = W.heap.size:=by first|rfl|(simp;done)) :
 Calls Tryz.prog 54 #[.pointer (some ⟨p,0,none⟩),.slice (some ⟨q,0,none⟩) 1 cc] (W.alloc (.cells #[.string a] 9 (0,0))) Q :=
 PE.puts [a] ⟨by simpa using E.out⟩ rfl rfl hq (by decide) K
theorem PE.iE {q cc : Nat} {a b : ByteArray} {Q : Ending → World → Prop} (E : Ad (PE false p g w0 x A c F (bytesOf a ++ (bytesOf b ++ r)) ws W))
 (K : ∀ w1,Ad (PE false p g w0 x A c F r ws w1) → w1.cell? ⟨g,0,none⟩ = some (.int .i64 x.f0) → w1.cell? ⟨g,1,none⟩ = some (.string x.f1) → w1.cell? ⟨g,2,none⟩ = some (.int .u32 x.f2) → w1.cell? ⟨g,3,none⟩ = some (.bool x.f3) → w1.cell? ⟨g,4,none⟩ = some (.slice A x.f4.length c) → w1.cell? ⟨g,5,none⟩ = some (.int .i64 x.f5) → Q (.returned (.tuple #[])) w1) (hq : q = W.heap.size:=by first|rfl|(simp;done)) :
 Calls Tryz.prog 54 #[.pointer (some ⟨p,0,none⟩),.slice (some ⟨q,0,none⟩) 2 cc] (W.alloc (.cells #[.string a,.string b] 9 (0,0))) Q :=
 PE.puts [a,b] ⟨by simpa using E.out⟩ rfl rfl hq (by decide) K
theorem PE.iI {q cc : Nat} {a b d : ByteArray} {Q : Ending → World → Prop} (E : Ad (PE false p g w0 x A c F (bytesOf a ++ (bytesOf b ++ (bytesOf d ++ r))) ws W))
 (K : ∀ w1,Ad (PE false p g w0 x A c F r ws w1) → w1.cell? ⟨g,0,none⟩ = some (.int .i64 x.f0) → w1.cell? ⟨g,1,none⟩ = some (.string x.f1) → w1.cell? ⟨g,2,none⟩ = some (.int .u32 x.f2) → w1.cell? ⟨g,3,none⟩ = some (.bool x.f3) → w1.cell? ⟨g,4,none⟩ = some (.slice A x.f4.length c) → w1.cell? ⟨g,5,none⟩ = some (.int .i64 x.f5) → Q (.returned (.tuple #[])) w1) (hq : q = W.heap.size:=by first|rfl|(simp;done)) :
 Calls Tryz.prog 54 #[.pointer (some ⟨p,0,none⟩),.slice (some ⟨q,0,none⟩) 3 cc] (W.alloc (.cells #[.string a,.string b,.string d] 9 (0,0))) Q :=
 PE.puts [a,b,d] ⟨by simpa using E.out⟩ rfl rfl hq (by decide) K
theorem PE.gV {q cc : Nat} {a b d f : ByteArray} {Q : Ending → World → Prop} (E : Ad (PE false p g w0 x A c F (bytesOf a ++ (bytesOf b ++ (bytesOf d ++ (bytesOf f ++ r)))) ws W))
 (K : ∀ w1,Ad (PE false p g w0 x A c F r ws w1) → w1.cell? ⟨g,0,none⟩ = some (.int .i64 x.f0) → w1.cell? ⟨g,1,none⟩ = some (.string x.f1) → w1.cell? ⟨g,2,none⟩ = some (.int .u32 x.f2) → w1.cell? ⟨g,3,none⟩ = some (.bool x.f3) → w1.cell? ⟨g,4,none⟩ = some (.slice A x.f4.length c) → w1.cell? ⟨g,5,none⟩ = some (.int .i64 x.f5) → Q (.returned (.tuple #[])) w1) (hq : q = W.heap.size:=by first|rfl|(simp;done)) :
 Calls Tryz.prog 54 #[.pointer (some ⟨p,0,none⟩),.slice (some ⟨q,0,none⟩) 4 cc] (W.alloc (.cells #[.string a,.string b,.string d,.string f] 9 (0,0))) Q :=
 PE.puts [a,b,d,f] ⟨by simpa using E.out⟩ rfl rfl hq (by decide) K
end
def e1 (x : ak) : Bool:=((x.f1.toList == ([] : List UInt8)) && ((decide (x.f2 < 2147483648)) || (x.f3)) && ((x.f4.length : Int) == 0))
theorem expressions.k1 {x : ak} {A : Option Addr} {c : Nat} {w : World} (hk : x.f0 = 1) (hG : aH w) (hn : ND w x A c) : Calls Tryz.prog 41 #[val x A c] w (bg (e1 x) w):=by
 have E:=Env.start hG hn;clear hn hG;have b1:=Yt hk 1 rfl
 have HK:=Am hk;clear hk;cases h0 : (x.f1.toList == ([] : List UInt8));rotate_left 1;cases h1 : (decide (x.f2 < 2147483648));rotate_right 1
 rotate_left 1;cases h3 : (x.f3);rotate_right 1
 rotate_left 2;cases h2 : ((x.f4.length : Int) == 0);rotate_right 2
 rotate_left 4;cases h2 : ((x.f4.length : Int) == 0);rotate_right 4
 all_goals
  try have iU : (x.f1.toList != ([] : List UInt8)) = false:=by rw [bne,h0];rfl
  try have iU : (x.f1.toList != ([] : List UInt8)) = true:=by rw [bne,h0];rfl
  go_enter Tryz.func41,Tryz.ntmps41
  go_wp2
  go_ret
  exact ⟨by unfold e1;(try rw [h0]);(try rw [h1]);(try rw [h2]);(try rw [h3]);first|done|rfl,dS⟩
def e2 (x : ak) : Bool:=((x.f1.toList == ([] : List UInt8)) && (decide (x.f2 < 256)) && ((x.f4.length : Int) == 0))
theorem expressions.k2 {x : ak} {A : Option Addr} {c : Nat} {w : World} (hk : x.f0 = 2) (hG : aH w) (hn : ND w x A c) : Calls Tryz.prog 41 #[val x A c] w (bg (e2 x) w):=by
 have E:=Env.start hG hn;clear hn hG;have b1:=Yf hk 1 rfl
 have b2:=Yt hk 2 rfl
 have HK:=Am hk;clear hk;cases h0 : (x.f1.toList == ([] : List UInt8));rotate_left 1;cases h1 : (decide (x.f2 < 256));rotate_right 1
 rotate_left 2;cases h2 : ((x.f4.length : Int) == 0);rotate_right 2
 all_goals
  try have iU : (x.f1.toList != ([] : List UInt8)) = false:=by rw [bne,h0];rfl
  try have iU : (x.f1.toList != ([] : List UInt8)) = true:=by rw [bne,h0];rfl
  go_enter Tryz.func41,Tryz.ntmps41
  go_wp2
  go_ret
  exact ⟨by unfold e2;(try rw [h0]);(try rw [h1]);(try rw [h2]);first|done|rfl,dS⟩
def e3 (x : ak) : Bool:=((x.f2 == 0) && ((x.f4.length : Int) == 0))
theorem expressions.k3 {x : ak} {A : Option Addr} {c : Nat} {w : World} (hk : x.f0 = 3) (hG : aH w) (hn : ND w x A c) : Calls Tryz.prog 41 #[val x A c] w (bg (e3 x) w):=by
 have E:=Env.start hG hn;clear hn hG;have b1:=Yf hk 1 rfl
 have b2:=Yf hk 2 rfl
 have b3:=Yt hk 3 rfl
 have HK:=Am hk;clear hk;cases h0 : (x.f1.toList == ([] : List UInt8));cases h1 : (x.f2 == 0);rotate_left 1;cases h2 : ((x.f4.length : Int) == 0);rotate_right 1
 rotate_left 3;cases h1 : (x.f2 == 0);rotate_right 3
 rotate_left 4;cases h2 : ((x.f4.length : Int) == 0);rotate_right 4
 all_goals
  try have iU : (x.f1.toList != ([] : List UInt8)) = false:=by rw [bne,h0];rfl
  try have iU : (x.f1.toList != ([] : List UInt8)) = true:=by rw [bne,h0];rfl
  try have iL : (x.f2 != 0) = false:=by rw [bne,h1];rfl
  try have iL : (x.f2 != 0) = true:=by rw [bne,h1];rfl
  go_enter Tryz.func41,Tryz.ntmps41
  go_wp2
  go_ret
  exact ⟨by unfold e3;(try rw [h1]);(try rw [h2]);first|done|rfl,dS⟩
def e4 (x : ak) : Bool:=((x.f2 == 0) && (jD x.f1) && ((x.f4.length : Int) == 0))
theorem expressions.k4 {x : ak} {A : Option Addr} {c : Nat} {w : World} (hk : x.f0 = 4) (hs : gY x.f1) (hG : aH w) (hn : ND w x A c) : Calls Tryz.prog 41 #[val x A c] w (bg (e4 x) w):=by
 have E:=Env.start hG hn;clear hn hG;have b1:=Yf hk 1 rfl
 have b2:=Yf hk 2 rfl
 have b3:=Yf hk 3 rfl
 have b4:=Yt hk 4 rfl
 have HK:=Am hk;clear hk;have HS:=Am hs;clear hs;cases h0 : (x.f1.toList == ([] : List UInt8));cases h1 : (x.f2 == 0);rotate_left 1;cases h2 : (jD x.f1);rotate_right 1
 rotate_left 2;cases h3 : ((x.f4.length : Int) == 0);rotate_right 2
 rotate_left 4;cases h1 : (x.f2 == 0);rotate_right 4
 rotate_left 5;cases h2 : (jD x.f1);rotate_right 5
 rotate_left 6;cases h3 : ((x.f4.length : Int) == 0);rotate_right 6
 all_goals
  try have iU : (x.f1.toList != ([] : List UInt8)) = false:=by rw [bne,h0];rfl
  try have iU : (x.f1.toList != ([] : List UInt8)) = true:=by rw [bne,h0];rfl
  try have iL : (x.f2 != 0) = false:=by rw [bne,h1];rfl
  try have iL : (x.f2 != 0) = true:=by rw [bne,h1];rfl
  try (have HC2:=Am h2;clear h2)
  go_enter Tryz.func41,Tryz.ntmps41
  go_wp2_with (first
   | (go_at_call 66;(try clear c0 c1 c2 c3 c4 c5);(with_reducible refine Env.call E E.out HC2.out (name.all HS.out E.out.bH) (fun w1 E c0 c1 c2 c3 c4 c5 => ?_)))
   | fail)
  go_ret
  exact ⟨by unfold e4;(try rw [h1]);(try rw [HC2.out]);(try rw [h3]);first|done|rfl,dS⟩
def e5 (x : ak) : Bool:=((x.f1.toList == ([] : List UInt8)) && (x.f2 == 0) && (aU (zM.map (·.2)) x.f4))
theorem expressions.k5 {x : ak} {A : Option Addr} {c : Nat} {w : World} (hk : x.f0 = 5) (hG : aH w) (hn : ND w x A c) : Calls Tryz.prog 41 #[val x A c] w (bg (e5 x) w):=by
 have E:=Env.start hG hn;clear hn hG;have b1:=Yf hk 1 rfl
 have b2:=Yf hk 2 rfl
 have b3:=Yf hk 3 rfl
 have b4:=Yf hk 4 rfl
 have b5:=Yt hk 5 rfl
 have HK:=Am hk;clear hk;cases h0 : (x.f1.toList == ([] : List UInt8));rotate_left 1;cases h1 : (x.f2 == 0);rotate_right 1
 rotate_left 2;cases h2 : (aU (zM.map (·.2)) x.f4);rotate_right 2
 all_goals
  try have iU : (x.f1.toList != ([] : List UInt8)) = false:=by rw [bne,h0];rfl
  try have iU : (x.f1.toList != ([] : List UInt8)) = true:=by rw [bne,h0];rfl
  try have iL : (x.f2 != 0) = false:=by rw [bne,h1];rfl
  try have iL : (x.f2 != 0) = true:=by rw [bne,h1];rfl
  try (have HC2:=Am h2;clear h2)
  have tk2 : True:=trivial;go_enter Tryz.func41,Tryz.ntmps41
  go_wp2_with (first
   | (go_at_call 67;have t_:=tk2;clear t_ tk2;(try clear c0 c1 c2 c3 c4 c5);(refine Env.call E (E.out.alloc _) HC2.out (shape.at 2 zM rfl Ia x.f4 A c _ (E.out.alloc _).kids _ _ (by decide) (by first|exact cO _ _|exact iw _ _ _)) (fun w1 E c0 c1 c2 c3 c4 c5 => ?_)))
   | fail)
  go_ret
  exact ⟨by unfold e5;(try rw [h0]);(try rw [h1]);(try rw [HC2.out]);first|done|rfl,dS⟩
def e6 (x : ak) : Bool:=((x.f2 == 0) && (jD x.f1) && (aU (gE.map (·.2)) x.f4))
theorem expressions.k6 {x : ak} {A : Option Addr} {c : Nat} {w : World} (hk : x.f0 = 6) (hs : gY x.f1) (hG : aH w) (hn : ND w x A c) : Calls Tryz.prog 41 #[val x A c] w (bg (e6 x) w):=by
 have E:=Env.start hG hn;clear hn hG;have b1:=Yf hk 1 rfl
 have b2:=Yf hk 2 rfl
 have b3:=Yf hk 3 rfl
 have b4:=Yf hk 4 rfl
 have b5:=Yf hk 5 rfl
 have b6:=Yt hk 6 rfl
 have HK:=Am hk;clear hk;have HS:=Am hs;clear hs;cases h0 : (x.f1.toList == ([] : List UInt8));cases h1 : (x.f2 == 0);rotate_left 1;cases h2 : (jD x.f1);rotate_right 1
 rotate_left 2;cases h3 : (aU (gE.map (·.2)) x.f4);rotate_right 2
 rotate_left 4;cases h1 : (x.f2 == 0);rotate_right 4
 rotate_left 5;cases h2 : (jD x.f1);rotate_right 5
 rotate_left 6;cases h3 : (aU (gE.map (·.2)) x.f4);rotate_right 6
 all_goals
  try have iU : (x.f1.toList != ([] : List UInt8)) = false:=by rw [bne,h0];rfl
  try have iU : (x.f1.toList != ([] : List UInt8)) = true:=by rw [bne,h0];rfl
  try have iL : (x.f2 != 0) = false:=by rw [bne,h1];rfl
  try have iL : (x.f2 != 0) = true:=by rw [bne,h1];rfl
  try (have HC2:=Am h2;clear h2)
  try (have kR:=Am h3;clear h3)
  have tk3 : True:=trivial;go_enter Tryz.func41,Tryz.ntmps41
  go_wp2_with (first
   | (go_at_call 66;(try clear c0 c1 c2 c3 c4 c5);(with_reducible refine Env.call E E.out HC2.out (name.all HS.out E.out.bH) (fun w1 E c0 c1 c2 c3 c4 c5 => ?_)))
   | (go_at_call 67;have t_:=tk3;clear t_ tk3;(try clear c0 c1 c2 c3 c4 c5);(refine Env.call E (E.out.alloc _) kR.out (shape.at 1 gE rfl FD x.f4 A c _ (E.out.alloc _).kids _ _ (by decide) (by first|exact cO _ _|exact iw _ _ _)) (fun w1 E c0 c1 c2 c3 c4 c5 => ?_)))
   | fail)
  go_ret
  exact ⟨by unfold e6;(try rw [h1]);(try rw [HC2.out]);(try rw [kR.out]);first|done|rfl,dS⟩
theorem expressions.k7 {x : ak} {A : Option Addr} {c : Nat} {w : World} (hk : x.f0 = 7) (hs : gY x.f1) (hG : aH w) (hn : ND w x A c) : Calls Tryz.prog 41 #[val x A c] w (bg (e6 x) w):=by
 have E:=Env.start hG hn;clear hn hG;have b1:=Yf hk 1 rfl
 have b2:=Yf hk 2 rfl
 have b3:=Yf hk 3 rfl
 have b4:=Yf hk 4 rfl
 have b5:=Yf hk 5 rfl
 have b6:=Yf hk 6 rfl
 have b7:=Yt hk 7 rfl
 have HK:=Am hk;clear hk;have HS:=Am hs;clear hs;cases h0 : (x.f1.toList == ([] : List UInt8));cases h1 : (x.f2 == 0);rotate_left 1;cases h2 : (jD x.f1);rotate_right 1
 rotate_left 2;cases h3 : (aU (gE.map (·.2)) x.f4);rotate_right 2
 rotate_left 4;cases h1 : (x.f2 == 0);rotate_right 4
 rotate_left 5;cases h2 : (jD x.f1);rotate_right 5
 rotate_left 6;cases h3 : (aU (gE.map (·.2)) x.f4);rotate_right 6
 all_goals
  try have iU : (x.f1.toList != ([] : List UInt8)) = false:=by rw [bne,h0];rfl
  try have iU : (x.f1.toList != ([] : List UInt8)) = true:=by rw [bne,h0];rfl
  try have iL : (x.f2 != 0) = false:=by rw [bne,h1];rfl
  try have iL : (x.f2 != 0) = true:=by rw [bne,h1];rfl
  try (have HC2:=Am h2;clear h2)
  try (have kR:=Am h3;clear h3)
  have tk3 : True:=trivial;go_enter Tryz.func41,Tryz.ntmps41
  go_wp2_with (first
   | (go_at_call 66;(try clear c0 c1 c2 c3 c4 c5);(with_reducible refine Env.call E E.out HC2.out (name.all HS.out E.out.bH) (fun w1 E c0 c1 c2 c3 c4 c5 => ?_)))
   | (go_at_call 67;have t_:=tk3;clear t_ tk3;(try clear c0 c1 c2 c3 c4 c5);(refine Env.call E (E.out.alloc _) kR.out (shape.at 1 gE rfl FD x.f4 A c _ (E.out.alloc _).kids _ _ (by decide) (by first|exact cO _ _|exact iw _ _ _)) (fun w1 E c0 c1 c2 c3 c4 c5 => ?_)))
   | fail)
  go_ret
  exact ⟨by unfold e6;(try rw [h1]);(try rw [HC2.out]);(try rw [kR.out]);first|done|rfl,dS⟩
def e8 (x : ak) : Bool:=((x.f2 == 0) && ((jD x.f1) || (x.f1.toList == ([103,101,116,98,121,116,101] : List UInt8)) || (x.f1.toList == ([112,117,116,98,121,116,101] : List UInt8))) && (x.f4.all gQ))
theorem expressions.k8 {x : ak} {A : Option Addr} {c : Nat} {w : World} (hk : x.f0 = 8) (hs : gY x.f1) (hG : aH w) (hn : ND w x A c) : Calls Tryz.prog 41 #[val x A c] w (bg (e8 x) w):=by
 have E:=Env.start hG hn;clear hn hG;have b1:=Yf hk 1 rfl
 have b2:=Yf hk 2 rfl
 have b3:=Yf hk 3 rfl
 have b4:=Yf hk 4 rfl
 have b5:=Yf hk 5 rfl
 have b6:=Yf hk 6 rfl
 have b7:=Yf hk 7 rfl
 have b8:=Yt hk 8 rfl
 have HK:=Am hk;clear hk;have HS:=Am hs;clear hs;cases h0 : (x.f1.toList == ([] : List UInt8));cases h1 : (x.f2 == 0);rotate_left 1;cases h2 : (jD x.f1);rotate_right 1
 rotate_left 1;cases h4 : (x.f1.toList == ([103,101,116,98,121,116,101] : List UInt8));rotate_right 1
 rotate_left 1;cases h5 : (x.f1.toList == ([112,117,116,98,121,116,101] : List UInt8));rotate_right 1
 rotate_left 2;cases h3 : (x.f4.all gQ);rotate_right 2
 rotate_left 4;cases h3 : (x.f4.all gQ);rotate_right 4
 rotate_left 6;cases h3 : (x.f4.all gQ);rotate_right 6
 rotate_left 8;cases h1 : (x.f2 == 0);rotate_right 8
 rotate_left 9;cases h2 : (jD x.f1);rotate_right 9
 rotate_left 9;cases h4 : (x.f1.toList == ([103,101,116,98,121,116,101] : List UInt8));rotate_right 9
 rotate_left 9;cases h5 : (x.f1.toList == ([112,117,116,98,121,116,101] : List UInt8));rotate_right 9
 rotate_left 10;cases h3 : (x.f4.all gQ);rotate_right 10
 rotate_left 12;cases h3 : (x.f4.all gQ);rotate_right 12
 rotate_left 14;cases h3 : (x.f4.all gQ);rotate_right 14
 all_goals
  try have iU : (x.f1.toList != ([] : List UInt8)) = false:=by rw [bne,h0];rfl
  try have iU : (x.f1.toList != ([] : List UInt8)) = true:=by rw [bne,h0];rfl
  try have iL : (x.f2 != 0) = false:=by rw [bne,h1];rfl
  try have iL : (x.f2 != 0) = true:=by rw [bne,h1];rfl
  try (have HC2:=Am h2;clear h2)
  try (have kR:=Am h3;clear h3)
  go_enter Tryz.func41,Tryz.ntmps41
  go_wp2_with (first
   | (go_at_call 66;(try clear c0 c1 c2 c3 c4 c5);(with_reducible refine Env.call E E.out HC2.out (name.all HS.out E.out.bH) (fun w1 E c0 c1 c2 c3 c4 c5 => ?_)))
   | (go_at_call 33;(try clear c0 c1 c2 c3 c4 c5);(with_reducible refine Env.call E E.out kR.out (every.calls x.f4 A c _ E.out.kids 40 #[] gQ (enters_of Tryz.func40 (by kernel_rfl) rfl) (oK expression.all)) (fun w1 E c0 c1 c2 c3 c4 c5 => ?_)))
   | fail)
  go_ret
  exact ⟨by unfold e8;(try rw [h1]);(try rw [HC2.out]);(try rw [kR.out]);(try rw [h4]);(try rw [h5]);first|done|rfl,dS⟩
def e9 (x : ak) : Bool:=((x.f2 == 0) && (pq ⟨#[45,32,126,32,33,32,38]⟩ x.f1) && (aU (gE.map (·.2)) x.f4))
theorem expressions.k9 {x : ak} {A : Option Addr} {c : Nat} {w : World} (hk : x.f0 = 9) (hs : gY x.f1) (hG : aH w) (hn : ND w x A c) : Calls Tryz.prog 41 #[val x A c] w (bg (e9 x) w):=by
 have E:=Env.start hG hn;clear hn hG;have b1:=Yf hk 1 rfl
 have b2:=Yf hk 2 rfl
 have b3:=Yf hk 3 rfl
 have b4:=Yf hk 4 rfl
 have b5:=Yf hk 5 rfl
 have b6:=Yf hk 6 rfl
 have b7:=Yf hk 7 rfl
 have b8:=Yf hk 8 rfl
 have b9:=Yt hk 9 rfl
 have HK:=Am hk;clear hk;have HS:=Am hs;clear hs;cases h0 : (x.f1.toList == ([] : List UInt8));cases h1 : (x.f2 == 0);rotate_left 1;cases h2 : (pq ⟨#[45,32,126,32,33,32,38]⟩ x.f1);rotate_right 1
 rotate_left 2;cases h3 : (aU (gE.map (·.2)) x.f4);rotate_right 2
 rotate_left 4;cases h1 : (x.f2 == 0);rotate_right 4
 rotate_left 5;cases h2 : (pq ⟨#[45,32,126,32,33,32,38]⟩ x.f1);rotate_right 5
 rotate_left 6;cases h3 : (aU (gE.map (·.2)) x.f4);rotate_right 6
 all_goals
  try have iU : (x.f1.toList != ([] : List UInt8)) = false:=by rw [bne,h0];rfl
  try have iU : (x.f1.toList != ([] : List UInt8)) = true:=by rw [bne,h0];rfl
  try have iL : (x.f2 != 0) = false:=by rw [bne,h1];rfl
  try have iL : (x.f2 != 0) = true:=by rw [bne,h1];rfl
  try (have HC2:=Am h2;clear h2)
  try (have kR:=Am h3;clear h3)
  have tk3 : True:=trivial;go_enter Tryz.func41,Tryz.ntmps41
  go_wp2_with (first
   | (go_at_call 68;(try clear c0 c1 c2 c3 c4 c5);(with_reducible refine Env.call E E.out HC2.out (one.all (⟨#[45,32,126,32,33,32,38]⟩ : ByteArray) (by decide) HS.out E.out.bH) (fun w1 E c0 c1 c2 c3 c4 c5 => ?_)))
   | (go_at_call 67;have t_:=tk3;clear t_ tk3;(try clear c0 c1 c2 c3 c4 c5);(refine Env.call E (E.out.alloc _) kR.out (shape.at 1 gE rfl FD x.f4 A c _ (E.out.alloc _).kids _ _ (by decide) (by first|exact cO _ _|exact iw _ _ _)) (fun w1 E c0 c1 c2 c3 c4 c5 => ?_)))
   | fail)
  go_ret
  exact ⟨by unfold e9;(try rw [h1]);(try rw [HC2.out]);(try rw [kR.out]);first|done|rfl,dS⟩
def e10 (x : ak) : Bool:=((x.f2 == 0) && (pq ⟨#[42,32,47,32,37,32,43,32,45,32,60,60,32,62,62,32,60,32,62,32,60,61,32,62,61,32,61,61,32,33,61,32,38,32,94,32,124]⟩ x.f1) && (aU (zM.map (·.2)) x.f4))
theorem expressions.k10 {x : ak} {A : Option Addr} {c : Nat} {w : World} (hk : x.f0 = 10) (hs : gY x.f1) (hG : aH w) (hn : ND w x A c) : Calls Tryz.prog 41 #[val x A c] w (bg (e10 x) w):=by
 have E:=Env.start hG hn;clear hn hG;have b1:=Yf hk 1 rfl
 have b2:=Yf hk 2 rfl
 have b3:=Yf hk 3 rfl
 have b4:=Yf hk 4 rfl
 have b5:=Yf hk 5 rfl
 have b6:=Yf hk 6 rfl
 have b7:=Yf hk 7 rfl
 have b8:=Yf hk 8 rfl
 have b9:=Yf hk 9 rfl
 have b10:=Yt hk 10 rfl
 have HK:=Am hk;clear hk;have HS:=Am hs;clear hs;cases h0 : (x.f1.toList == ([] : List UInt8));cases h1 : (x.f2 == 0);rotate_left 1;cases h2 : (pq ⟨#[42,32,47,32,37,32,43,32,45,32,60,60,32,62,62,32,60,32,62,32,60,61,32,62,61,32,61,61,32,33,61,32,38,32,94,32,124]⟩ x.f1);rotate_right 1
 rotate_left 2;cases h3 : (aU (zM.map (·.2)) x.f4);rotate_right 2
 rotate_left 4;cases h1 : (x.f2 == 0);rotate_right 4
 rotate_left 5;cases h2 : (pq ⟨#[42,32,47,32,37,32,43,32,45,32,60,60,32,62,62,32,60,32,62,32,60,61,32,62,61,32,61,61,32,33,61,32,38,32,94,32,124]⟩ x.f1);rotate_right 5
 rotate_left 6;cases h3 : (aU (zM.map (·.2)) x.f4);rotate_right 6
 all_goals
  try have iU : (x.f1.toList != ([] : List UInt8)) = false:=by rw [bne,h0];rfl
  try have iU : (x.f1.toList != ([] : List UInt8)) = true:=by rw [bne,h0];rfl
  try have iL : (x.f2 != 0) = false:=by rw [bne,h1];rfl
  try have iL : (x.f2 != 0) = true:=by rw [bne,h1];rfl
  try (have HC2:=Am h2;clear h2)
  try (have kR:=Am h3;clear h3)
  have tk3 : True:=trivial;go_enter Tryz.func41,Tryz.ntmps41
  go_wp2_with (first
   | (go_at_call 68;(try clear c0 c1 c2 c3 c4 c5);(with_reducible refine Env.call E E.out HC2.out (one.all (⟨#[42,32,47,32,37,32,43,32,45,32,60,60,32,62,62,32,60,32,62,32,60,61,32,62,61,32,61,61,32,33,61,32,38,32,94,32,124]⟩ : ByteArray) (by decide) HS.out E.out.bH) (fun w1 E c0 c1 c2 c3 c4 c5 => ?_)))
   | (go_at_call 67;have t_:=tk3;clear t_ tk3;(try clear c0 c1 c2 c3 c4 c5);(refine Env.call E (E.out.alloc _) kR.out (shape.at 2 zM rfl Ia x.f4 A c _ (E.out.alloc _).kids _ _ (by decide) (by first|exact cO _ _|exact iw _ _ _)) (fun w1 E c0 c1 c2 c3 c4 c5 => ?_)))
   | fail)
  go_ret
  exact ⟨by unfold e10;(try rw [h1]);(try rw [HC2.out]);(try rw [kR.out]);first|done|rfl,dS⟩
def e11 (x : ak) : Bool:=((x.f2 == 0) && (pq ⟨#[38,38,32,124,124]⟩ x.f1) && (aU (zM.map (·.2)) x.f4))
theorem expressions.k11 {x : ak} {A : Option Addr} {c : Nat} {w : World} (hk : x.f0 = 11) (hs : gY x.f1) (hG : aH w) (hn : ND w x A c) : Calls Tryz.prog 41 #[val x A c] w (bg (e11 x) w):=by
 have E:=Env.start hG hn;clear hn hG;have b1:=Yf hk 1 rfl
 have b2:=Yf hk 2 rfl
 have b3:=Yf hk 3 rfl
 have b4:=Yf hk 4 rfl
 have b5:=Yf hk 5 rfl
 have b6:=Yf hk 6 rfl
 have b7:=Yf hk 7 rfl
 have b8:=Yf hk 8 rfl
 have b9:=Yf hk 9 rfl
 have b10:=Yf hk 10 rfl
 have b11:=Yt hk 11 rfl
 have HK:=Am hk;clear hk;have HS:=Am hs;clear hs;cases h0 : (x.f1.toList == ([] : List UInt8));cases h1 : (x.f2 == 0);rotate_left 1;cases h2 : (pq ⟨#[38,38,32,124,124]⟩ x.f1);rotate_right 1
 rotate_left 2;cases h3 : (aU (zM.map (·.2)) x.f4);rotate_right 2
 rotate_left 4;cases h1 : (x.f2 == 0);rotate_right 4
 rotate_left 5;cases h2 : (pq ⟨#[38,38,32,124,124]⟩ x.f1);rotate_right 5
 rotate_left 6;cases h3 : (aU (zM.map (·.2)) x.f4);rotate_right 6
 all_goals
  try have iU : (x.f1.toList != ([] : List UInt8)) = false:=by rw [bne,h0];rfl
  try have iU : (x.f1.toList != ([] : List UInt8)) = true:=by rw [bne,h0];rfl
  try have iL : (x.f2 != 0) = false:=by rw [bne,h1];rfl
  try have iL : (x.f2 != 0) = true:=by rw [bne,h1];rfl
  try (have HC2:=Am h2;clear h2)
  try (have kR:=Am h3;clear h3)
  have tk3 : True:=trivial;go_enter Tryz.func41,Tryz.ntmps41
  go_wp2_with (first
   | (go_at_call 68;(try clear c0 c1 c2 c3 c4 c5);(with_reducible refine Env.call E E.out HC2.out (one.all (⟨#[38,38,32,124,124]⟩ : ByteArray) (by decide) HS.out E.out.bH) (fun w1 E c0 c1 c2 c3 c4 c5 => ?_)))
   | (go_at_call 67;have t_:=tk3;clear t_ tk3;(try clear c0 c1 c2 c3 c4 c5);(refine Env.call E (E.out.alloc _) kR.out (shape.at 2 zM rfl Ia x.f4 A c _ (E.out.alloc _).kids _ _ (by decide) (by first|exact cO _ _|exact iw _ _ _)) (fun w1 E c0 c1 c2 c3 c4 c5 => ?_)))
   | fail)
  go_ret
  exact ⟨by unfold e11;(try rw [h1]);(try rw [HC2.out]);(try rw [kR.out]);first|done|rfl,dS⟩
def e12 (x : ak) : Bool:=((x.f1.toList == ([] : List UInt8)) && (x.f2 == 0) && (aU (xE.map (·.2)) x.f4))
theorem expressions.k12 {x : ak} {A : Option Addr} {c : Nat} {w : World} (hk : x.f0 = 12) (hG : aH w) (hn : ND w x A c) : Calls Tryz.prog 41 #[val x A c] w (bg (e12 x) w):=by
 have E:=Env.start hG hn;clear hn hG;have b1:=Yf hk 1 rfl
 have b2:=Yf hk 2 rfl
 have b3:=Yf hk 3 rfl
 have b4:=Yf hk 4 rfl
 have b5:=Yf hk 5 rfl
 have b6:=Yf hk 6 rfl
 have b7:=Yf hk 7 rfl
 have b8:=Yf hk 8 rfl
 have b9:=Yf hk 9 rfl
 have b10:=Yf hk 10 rfl
 have b11:=Yf hk 11 rfl
 have b12:=Yt hk 12 rfl
 have HK:=Am hk;clear hk;cases h0 : (x.f1.toList == ([] : List UInt8));rotate_left 1;cases h1 : (x.f2 == 0);rotate_right 1
 rotate_left 2;cases h2 : (aU (xE.map (·.2)) x.f4);rotate_right 2
 all_goals
  try have iU : (x.f1.toList != ([] : List UInt8)) = false:=by rw [bne,h0];rfl
  try have iU : (x.f1.toList != ([] : List UInt8)) = true:=by rw [bne,h0];rfl
  try have iL : (x.f2 != 0) = false:=by rw [bne,h1];rfl
  try have iL : (x.f2 != 0) = true:=by rw [bne,h1];rfl
  try (have HC2:=Am h2;clear h2)
  have tk2 : True:=trivial;go_enter Tryz.func41,Tryz.ntmps41
  go_wp2_with (first
   | (go_at_call 67;have t_:=tk2;clear t_ tk2;(try clear c0 c1 c2 c3 c4 c5);(refine Env.call E (E.out.alloc _) HC2.out (shape.at 3 xE rfl ok_gEEE x.f4 A c _ (E.out.alloc _).kids _ _ (by decide) (by first|exact cO _ _|exact iw _ _ _)) (fun w1 E c0 c1 c2 c3 c4 c5 => ?_)))
   | fail)
  go_ret
  exact ⟨by unfold e12;(try rw [h0]);(try rw [h1]);(try rw [HC2.out]);first|done|rfl,dS⟩
def e13 (x : ak) : Bool:=((x.f2 == 0) && (pq ⟨#[61,32,43,61,32,45,61,32,42,61,32,47,61,32,37,61,32,38,61,32,124,61,32,94,61,32,60,60,61,32,62,62,61]⟩ x.f1) && (aU (Ib.map (·.2)) x.f4))
theorem expressions.k13 {x : ak} {A : Option Addr} {c : Nat} {w : World} (hk : x.f0 = 13) (hs : gY x.f1) (hG : aH w) (hn : ND w x A c) : Calls Tryz.prog 41 #[val x A c] w (bg (e13 x) w):=by
 have E:=Env.start hG hn;clear hn hG;have b1:=Yf hk 1 rfl
 have b2:=Yf hk 2 rfl
 have b3:=Yf hk 3 rfl
 have b4:=Yf hk 4 rfl
 have b5:=Yf hk 5 rfl
 have b6:=Yf hk 6 rfl
 have b7:=Yf hk 7 rfl
 have b8:=Yf hk 8 rfl
 have b9:=Yf hk 9 rfl
 have b10:=Yf hk 10 rfl
 have b11:=Yf hk 11 rfl
 have b12:=Yf hk 12 rfl
 have b13:=Yt hk 13 rfl
 have HK:=Am hk;clear hk;have HS:=Am hs;clear hs;cases h0 : (x.f1.toList == ([] : List UInt8));cases h1 : (x.f2 == 0);rotate_left 1;cases h2 : (pq ⟨#[61,32,43,61,32,45,61,32,42,61,32,47,61,32,37,61,32,38,61,32,124,61,32,94,61,32,60,60,61,32,62,62,61]⟩ x.f1);rotate_right 1
 rotate_left 2;cases h3 : (aU (Ib.map (·.2)) x.f4);rotate_right 2
 rotate_left 4;cases h1 : (x.f2 == 0);rotate_right 4
 rotate_left 5;cases h2 : (pq ⟨#[61,32,43,61,32,45,61,32,42,61,32,47,61,32,37,61,32,38,61,32,124,61,32,94,61,32,60,60,61,32,62,62,61]⟩ x.f1);rotate_right 5
 rotate_left 6;cases h3 : (aU (Ib.map (·.2)) x.f4);rotate_right 6
 all_goals
  try have iU : (x.f1.toList != ([] : List UInt8)) = false:=by rw [bne,h0];rfl
  try have iU : (x.f1.toList != ([] : List UInt8)) = true:=by rw [bne,h0];rfl
  try have iL : (x.f2 != 0) = false:=by rw [bne,h1];rfl
  try have iL : (x.f2 != 0) = true:=by rw [bne,h1];rfl
  try (have HC2:=Am h2;clear h2)
  try (have kR:=Am h3;clear h3)
  have tk3 : True:=trivial;go_enter Tryz.func41,Tryz.ntmps41
  go_wp2_with (first
   | (go_at_call 68;(try clear c0 c1 c2 c3 c4 c5);(with_reducible refine Env.call E E.out HC2.out (one.all (⟨#[61,32,43,61,32,45,61,32,42,61,32,47,61,32,37,61,32,38,61,32,124,61,32,94,61,32,60,60,61,32,62,62,61]⟩ : ByteArray) (by decide) HS.out E.out.bH) (fun w1 E c0 c1 c2 c3 c4 c5 => ?_)))
   | (go_at_call 67;have t_:=tk3;clear t_ tk3;(try clear c0 c1 c2 c3 c4 c5);(refine Env.call E (E.out.alloc _) kR.out (shape.at 2 Ib rfl ok_gPE x.f4 A c _ (E.out.alloc _).kids _ _ (by decide) (by first|exact cO _ _|exact iw _ _ _)) (fun w1 E c0 c1 c2 c3 c4 c5 => ?_)))
   | fail)
  go_ret
  exact ⟨by unfold e13;(try rw [h1]);(try rw [HC2.out]);(try rw [kR.out]);first|done|rfl,dS⟩
def e15 (x : ak) : Bool:=((x.f1.toList == ([] : List UInt8)) && (x.f2 == 0) && (aU (gT.map (·.2)) x.f4))
theorem expressions.k15 {x : ak} {A : Option Addr} {c : Nat} {w : World} (hk : x.f0 = 15) (hG : aH w) (hn : ND w x A c) : Calls Tryz.prog 41 #[val x A c] w (bg (e15 x) w):=by
 have E:=Env.start hG hn;clear hn hG;have b1:=Yf hk 1 rfl
 have b2:=Yf hk 2 rfl
 have b3:=Yf hk 3 rfl
 have b4:=Yf hk 4 rfl
 have b5:=Yf hk 5 rfl
 have b6:=Yf hk 6 rfl
 have b7:=Yf hk 7 rfl
 have b8:=Yf hk 8 rfl
 have b9:=Yf hk 9 rfl
 have b10:=Yf hk 10 rfl
 have b11:=Yf hk 11 rfl
 have b12:=Yf hk 12 rfl
 have b13:=Yf hk 13 rfl
 have b14:=Yf hk 14 rfl
 have b15:=Yt hk 15 rfl
 have HK:=Am hk;clear hk;cases h0 : (x.f1.toList == ([] : List UInt8));rotate_left 1;cases h1 : (x.f2 == 0);rotate_right 1
 rotate_left 2;cases h2 : (aU (gT.map (·.2)) x.f4);rotate_right 2
 all_goals
  try have iU : (x.f1.toList != ([] : List UInt8)) = false:=by rw [bne,h0];rfl
  try have iU : (x.f1.toList != ([] : List UInt8)) = true:=by rw [bne,h0];rfl
  try have iL : (x.f2 != 0) = false:=by rw [bne,h1];rfl
  try have iL : (x.f2 != 0) = true:=by rw [bne,h1];rfl
  try (have HC2:=Am h2;clear h2)
  have tk2 : True:=trivial;go_enter Tryz.func41,Tryz.ntmps41
  go_wp2_with (first
   | (go_at_call 67;have t_:=tk2;clear t_ tk2;(try clear c0 c1 c2 c3 c4 c5);(refine Env.call E (E.out.alloc _) HC2.out (shape.at 1 gT rfl ok_gT x.f4 A c _ (E.out.alloc _).kids _ _ (by decide) (by first|exact cO _ _|exact iw _ _ _)) (fun w1 E c0 c1 c2 c3 c4 c5 => ?_)))
   | fail)
  go_ret
  exact ⟨by unfold e15;(try rw [h0]);(try rw [h1]);(try rw [HC2.out]);first|done|rfl,dS⟩
def e16 (x : ak) : Bool:=((x.f2 == 0) && (tyB x.f1) && ((x.f4.length : Int) == 0))
theorem expressions.k16 {x : ak} {A : Option Addr} {c : Nat} {w : World} (hk : x.f0 = 16) (hs : gY x.f1) (hG : aH w) (hn : ND w x A c) : Calls Tryz.prog 41 #[val x A c] w (bg (e16 x) w):=by
 have E:=Env.start hG hn;clear hn hG;have b1:=Yf hk 1 rfl
 have b2:=Yf hk 2 rfl
 have b3:=Yf hk 3 rfl
 have b4:=Yf hk 4 rfl
 have b5:=Yf hk 5 rfl
 have b6:=Yf hk 6 rfl
 have b7:=Yf hk 7 rfl
 have b8:=Yf hk 8 rfl
 have b9:=Yf hk 9 rfl
 have b10:=Yf hk 10 rfl
 have b11:=Yf hk 11 rfl
 have b12:=Yf hk 12 rfl
 have b13:=Yf hk 13 rfl
 have b14:=Yf hk 14 rfl
 have b15:=Yf hk 15 rfl
 have b16:=Yt hk 16 rfl
 have HK:=Am hk;clear hk;have HS:=Am hs;clear hs;cases h0 : (x.f1.toList == ([] : List UInt8));cases h1 : (x.f2 == 0);rotate_left 1;cases h2 : (tyB x.f1);rotate_right 1
 rotate_left 2;cases h3 : ((x.f4.length : Int) == 0);rotate_right 2
 rotate_left 4;cases h1 : (x.f2 == 0);rotate_right 4
 rotate_left 5;cases h2 : (tyB x.f1);rotate_right 5
 rotate_left 6;cases h3 : ((x.f4.length : Int) == 0);rotate_right 6
 all_goals
  try have iU : (x.f1.toList != ([] : List UInt8)) = false:=by rw [bne,h0];rfl
  try have iU : (x.f1.toList != ([] : List UInt8)) = true:=by rw [bne,h0];rfl
  try have iL : (x.f2 != 0) = false:=by rw [bne,h1];rfl
  try have iL : (x.f2 != 0) = true:=by rw [bne,h1];rfl
  try (have HC2:=Am h2;clear h2)
  go_enter Tryz.func41,Tryz.ntmps41
  go_wp2_with (first
   | (go_at_call 72;(try clear c0 c1 c2 c3 c4 c5);(with_reducible refine Env.call E E.out HC2.out (typed.all HS.out E.out.bH) (fun w1 E c0 c1 c2 c3 c4 c5 => ?_)))
   | fail)
  go_ret
  exact ⟨by unfold e16;(try rw [h1]);(try rw [HC2.out]);(try rw [h3]);first|done|rfl,dS⟩
end Go.Proofs.YtboojhadfhpdeaaGreatDoor.Q
