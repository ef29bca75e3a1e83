/- A part of the proof, made small by a program: F2, F3, F4, F5, F6, H0, H1, H2, H3, H4, H5, H6, H7, H8. -/
import Derived.Test.YtboojhadfhpdeaaGreatDoorVq10
import Derived.Test.YtboojhadfhpdeaaGreatDoorVq11
import Derived.Test.YtboojhadfhpdeaaGreatDoorVq12
import Derived.Test.YtboojhadfhpdeaaGreatDoorVq13
set_option linter.unusedVariables false
set_option linter.unusedSimpArgs false
set_option maxHeartbeats 8000000
set_option maxRecDepth 100000
namespace Go.Proofs.YtboojhadfhpdeaaGreatDoor.Q
open Go.RowKit Go.Proofs.YtboojhadfhpdeaaGreatDoorW.PrintWords Go.Proofs.YtboojhadfhpdeaaGreatDoorW.PrintLast Go.Proofs.YtboojhadfhpdeaaGreatDoorW.PrintMore
def oG (x : bn) : Bool:=decide (1 ≤ x.f0) && decide (x.f0 ≤ 15)
def isS (x : bn) : Bool:=decide (x.f0 = 47) || (decide (48 ≤ x.f0) && decide (x.f0 ≤ 56))
def isP (x : bn) : Bool:=decide (x.f0 = 4) || decide (x.f0 = 5) || decide (x.f0 = 6) || decide (x.f0 = 7)
def PD (x : bn) : Bool:=decide (x.f0 = 56) || oG x
theorem PG (x : bn) : fC.f x.f0 x.f1 x.f2 x.f3 x.f4 x.f5 = some (oG x):=by
 unfold fC.f oG;by_cases h : x.f0 ≥ 1
 · rw [if_pos h,decide_eq_true (show 1 ≤ x.f0 from h)];rfl
 · rw [if_neg h,decide_eq_false (show ¬ 1 ≤ x.f0 from h)];rfl
theorem isS_f (x : bn) : nK.f x.f0 x.f1 x.f2 x.f3 x.f4 x.f5 = some (isS x):=by
 unfold nK.f isS;by_cases h0 : x.f0 = 47
 · rw [if_pos h0,decide_eq_true h0];rfl
 · rw [if_neg h0,decide_eq_false h0];by_cases h : x.f0 ≥ 48
   · rw [if_pos h,decide_eq_true (show 48 ≤ x.f0 from h)];rfl
   · rw [if_neg h,decide_eq_false (show ¬ 48 ≤ x.f0 from h)];rfl
theorem isP_f (x : bn) : uV.f x.f0 x.f1 x.f2 x.f3 x.f4 x.f5 = some (isP x):=by
 unfold uV.f isP;by_cases h4 : x.f0 = 4 <;> by_cases h5 : x.f0 = 5 <;> by_cases h6 : x.f0 = 6 <;> by_cases h7 : x.f0 = 7 <;> simp [h4,h5,h6,h7]
theorem isN_f (x : bn) : jL.f x.f0 x.f1 x.f2 x.f3 x.f4 x.f5 = some (PD x):=by
 unfold jL.f PD;by_cases h : x.f0 = 56
 · rw [if_pos h,decide_eq_true h];rfl
 · rw [if_neg h,decide_eq_false h,PG];rfl
section
variable {x : bn} {A : Option Addr} {c : Nat} {w : World}
theorem expression.all (hn : ND w x A c) : Calls Tryz.prog 40 #[val x A c] w (fB (oG x) w):=expression.of x _ (PG x) A c w hn
theorem statement.all (hn : ND w x A c) : Calls Tryz.prog 42 #[val x A c] w (fB (isS x) w):=statement.of x _ (isS_f x) A c w hn
theorem place.all (hn : ND w x A c) : Calls Tryz.prog 69 #[val x A c] w (fB (isP x) w):=uV.calls _ _ _ _ A c _ _ _ w hn.C hn.le (isP_f x)
theorem perhaps.all (hn : ND w x A c) : Calls Tryz.prog 75 #[val x A c] w (fB (PD x) w):=jL.calls _ _ _ _ A c _ _ _ w hn.C hn.le (isN_f x)
theorem Ja.all (hn : ND w x A c) : Calls Tryz.prog 71 #[val x A c] w (fB (decide (x.f0 = 16) || oG x) w):=by
 have HB:=ah.mk (au (Below.refl w.heap.size w) (.cells #[.int .i64 x.f0,.string x.f1,.int .u32 x.f2,.bool x.f3,.slice A x.f4.length c,.int .i64 x.f5] 25 (0,0)));have HN:=ah.mk (hn.below HB.out);clear hn;by_cases h : x.f0 = 16
 · have hb : (x.f0 == 16) = true:=by simp [h]
   go_enter Tryz.func71,Tryz.ntmps71
   go_wp2_with fail
   go_ret
   exact ⟨by rw [decide_eq_true h];rfl,au (Below.refl _ _) _⟩
 · have hb : (x.f0 == 16) = false:=by simp [h]
   go_enter Tryz.func71,Tryz.ntmps71
   go_wp2_with (first
    | (go_at_call 40;((refine (expression.all HN.out).mono ?_);rintro e w1 ⟨rfl,hB⟩);have HB1:=ah.mk (bQ HB.out HB.out.size hB);clear hB)
    | fail)
   go_ret
   exact ⟨by rw [decide_eq_false h];rfl,HB1.out⟩
end
section
variable {x : bn} {A : Option Addr} {c : Nat} {w : World}
theorem Ku.all (hn : ND w x A c) : Calls Tryz.prog 73 #[val x A c] w (fB (isS x || decide (x.f0 = 42)) w):=by
 have HB:=ah.mk (au (Below.refl w.heap.size w) (.cells #[.int .i64 x.f0,.string x.f1,.int .u32 x.f2,.bool x.f3,.slice A x.f4.length c,.int .i64 x.f5] 25 (0,0)));have HN:=ah.mk (hn.below HB.out);have HX:=ah.mk (show NB (w.alloc (.cells #[.int .i64 x.f0,.string x.f1,.int .u32 x.f2,.bool x.f3,.slice A x.f4.length c,.int .i64 x.f5] 25 (0,0))) w.heap.size x A c from eP w _);clear hn;cases hs : isS x with
 | true =>
  have HS:=ah.mk hs;clear hs;go_enter Tryz.func73,Tryz.ntmps73
  go_wp2_with (first
   | (go_at_call 42;((refine (statement.all HN.out).mono ?_);rw [HS.out];rintro e w1 ⟨rfl,hB⟩);have HB1:=ah.mk (bQ HB.out HB.out.size hB);clear hB)
   | fail)
  go_ret
  exact ⟨rfl,HB1.out⟩
 | false =>
  have HS:=ah.mk hs;clear hs;by_cases h : x.f0 = 42;all_goals have HH:=ah.mk h
  all_goals clear h
  · go_enter Tryz.func73,Tryz.ntmps73
    go_wp2_with (first
     | (go_at_call 42;((refine (statement.all HN.out).mono ?_);rw [HS.out];rintro e w1 ⟨rfl,hB⟩);have HB1:=ah.mk (bQ HB.out HB.out.size hB);obtain ⟨c0,c1,c2,c3,c4,c5⟩:=(HX.out.below hB).cells;clear hB;have h:=HH.out;have hb : (x.f0 == 42) = true:=by simp [h])
     | fail)
    go_ret
    exact ⟨by rw [decide_eq_true HH.out];first|rfl|simp [HH.out],HB1.out⟩
  · go_enter Tryz.func73,Tryz.ntmps73
    go_wp2_with (first
     | (go_at_call 42;((refine (statement.all HN.out).mono ?_);rw [HS.out];rintro e w1 ⟨rfl,hB⟩);have HB1:=ah.mk (bQ HB.out HB.out.size hB);obtain ⟨c0,c1,c2,c3,c4,c5⟩:=(HX.out.below hB).cells;clear hB;have h:=HH.out;have hb : (x.f0 == 42) = false:=by simp [h])
     | fail)
    go_ret
    exact ⟨by rw [decide_eq_false HH.out];first|rfl|simp [HH.out],HB1.out⟩
theorem EU.all (hn : ND w x A c) : Calls Tryz.prog 76 #[val x A c] w (fB (decide (x.f0 = 41) || decide (x.f0 = 42) || decide (x.f0 = 45)) w):=by
 clear hn;by_cases h1 : x.f0 = 41
 · have b1 : (x.f0 == 41) = true:=by simp [h1]
   go_enter Tryz.func76,Tryz.ntmps76
   go_wp2
   go_ret
   exact ⟨by simp [h1],au (Below.refl _ _) _⟩
 · have b1 : (x.f0 == 41) = false:=by simp [h1]
   by_cases h2 : x.f0 = 42
   · have b2 : (x.f0 == 42) = true:=by simp [h2]
     go_enter Tryz.func76,Tryz.ntmps76
     go_wp2
     go_ret
     exact ⟨by simp [h2],au (Below.refl _ _) _⟩
   · have b2 : (x.f0 == 42) = false:=by simp [h2]
     have HH:=ah.mk (And.intro h1 h2);go_enter Tryz.func76,Tryz.ntmps76
     go_wp2
     go_ret
     exact ⟨by rw [decide_eq_false HH.out.1,decide_eq_false HH.out.2];rfl,au (Below.refl _ _) _⟩
end
theorem of1.all {x : bn} {A : Option Addr} {c : Nat} {w : World} (k : Int) (q : Nat) (hq : w.heap[q]? = some (.cells #[.int .i64 k] 3 (0,0))) : Calls Tryz.prog 94 #[val x A c,.pointer (some ⟨q,0,none⟩)] w (fB (decide (x.f0 = k)) w):=by
 have HB:=ah.mk (au (Below.refl w.heap.size w) (.cells #[.int .i64 x.f0,.string x.f1,.int .u32 x.f2,.bool x.f3,.slice A x.f4.length c,.int .i64 x.f5] 25 (0,0)));have hx:=(ak (bI hq HB.out) 0).trans (show #[Value.int .i64 k][0]? = some (.int .i64 k) from rfl);have HQ:=ah.mk hq;clear hq;go_enter Tryz.func94,Tryz.ntmps94
 go_wp2
 go_ret
 exact ⟨rfl,HB.out⟩
def OfK (k : Int) (w : World) (e : Ending) (w' : World) : Prop:=∃ q,e = .returned (.func (.func 94) #[] #[.pointer (some ⟨q,0,none⟩)]) ∧ w'.heap[q]? = some (.cells #[.int .i64 k] 3 (0,0)) ∧ Below w.heap.size w w'
theorem of.all (k : Int) (w : World) : Calls Tryz.prog 70 #[.int .i64 k] w (OfK k w):=by
 go_enter Tryz.func70,Tryz.ntmps70
 go_wp2
 go_ret
 exact ⟨w.heap.size,rfl,eP w _,au (Below.refl _ _) _⟩
def qJ (x : bn) : Bool:=!decide (x.f0 = 43) || decide (x.f4.length = 0) || (x.f3 && decide (x.f4.length = 1))
section
variable {x : bn} {A : Option Addr} {c : Nat} {w : World}
set_option maxHeartbeats 2000000 in
theorem qJ.all (hn : ND w x A c) : Calls Tryz.prog 96 #[val x A c] w (fB (qJ x) w):=by
 clear hn;by_cases h1 : x.f0 = 43
 · have b1 : (x.f0 == 43) = true:=by simp [h1]
   by_cases h2 : x.f4.length = 0
   · have b2 : ((x.f4.length : Int) == 0) = true:=by simp [h2]
     have HH:=ah.mk (show qJ x = true by simp [qJ,h2]);go_enter Tryz.func96,Tryz.ntmps96
     go_wp2
     go_ret
     exact ⟨by rw [HH.out];first|rfl|simp,au (Below.refl _ _) _⟩
   · have b2 : ((x.f4.length : Int) == 0) = false:=by simp [h2]
     cases h3 : x.f3 with
     | true =>
      have HH:=ah.mk (show qJ x = ((x.f4.length : Int) == 1) from by unfold qJ;rw [h1,h3,decide_eq_false h2];simp;rw [Bool.eq_iff_iff];simp;omega);go_enter Tryz.func96,Tryz.ntmps96
      go_wp2
      go_ret
      exact ⟨by rw [HH.out];first|rfl|simp,au (Below.refl _ _) _⟩
     | false =>
      have HH:=ah.mk (show qJ x = false from by unfold qJ;rw [h1,h3,decide_eq_false h2];rfl);go_enter Tryz.func96,Tryz.ntmps96
      go_wp2
      go_ret
      exact ⟨by rw [HH.out];first|rfl|simp,au (Below.refl _ _) _⟩
 · have b1 : (x.f0 == 43) = false:=by simp [h1]
   have HH:=ah.mk (show qJ x = true by simp [qJ,h1]);go_enter Tryz.func96,Tryz.ntmps96
   go_wp2
   go_ret
   exact ⟨by rw [HH.out];first|rfl|simp,au (Below.refl _ _) _⟩
end
def vV (x : bn) : Bool:=decide (x.f0 = 42) && x.f4.all qJ
theorem sW {g : FuncId} {p : bn → Bool} {xs : List bn} {w : World} (h : ∀ {x : bn} {A : Option Addr} {c : Nat} {w : World},ND w x A c → Calls Tryz.prog g #[val x A c] w (fB (p x) w)) : Asks g #[] p xs w :=
 fun x _ W A c _ hn => by rw [Array.append_empty];exact h hn
set_option maxHeartbeats 2000000 in
theorem bare.all {x : bn} {A : Option Addr} {c : Nat} {w : World} (hn : ND w x A c) : Calls Tryz.prog 77 #[val x A c] w (fB (vV x) w):=by
 have HB:=ah.mk (au (Below.refl w.heap.size w) (.cells #[.int .i64 x.f0,.string x.f1,.int .u32 x.f2,.bool x.f3,.slice A x.f4.length c,.int .i64 x.f5] 25 (0,0)));have HN:=ah.mk hn;have HE:=ah.mk (show Enters Tryz.prog 96 from enters_of Tryz.func96 (by kernel_rfl) rfl);clear hn;by_cases h1 : x.f0 = 42
 · have b1 : (x.f0 == 42) = true:=by simp [h1]
   have HH:=ah.mk (show vV x = x.f4.all qJ by simp [vV,h1]);go_enter Tryz.func77,Tryz.ntmps77
   go_wp2_with (first
    | (go_at_call 33;((refine (every.calls x.f4 A c _ ((HN.out.below (au (Below.refl _ _) _)).C) 96 #[] qJ HE.out (sW qJ.all)).mono ?_);rintro e w1 ⟨rfl,hB⟩);have HB1:=ah.mk (bQ (au (Below.refl w.heap.size w) _) (au (Below.refl w.heap.size w) _).size hB);clear hB)
    | fail)
   go_ret
   exact ⟨by rw [HH.out];first|rfl|simp,HB1.out⟩
 · have b1 : (x.f0 == 42) = false:=by simp [h1]
   have HH:=ah.mk (show vV x = false by simp [vV,h1]);go_enter Tryz.func77,Tryz.ntmps77
   go_wp2
   go_ret
   exact ⟨by rw [HH.out];first|rfl|simp,au (Below.refl _ _) _⟩
def Gen (z : FuncId × (bn → Bool)) : Prop:=Enters Tryz.prog z.1 ∧ ∀ {x : bn} {A : Option Addr} {c : Nat} {w : World},ND w x A c → Calls Tryz.prog z.1 #[val x A c] w (fB (z.2 x) w)
theorem xP : Gen (40,oG):=⟨enters_of Tryz.func40 (by kernel_rfl) rfl,expression.all⟩
theorem Kv : Gen (42,isS):=⟨enters_of Tryz.func42 (by kernel_rfl) rfl,statement.all⟩
theorem gen_P : Gen (69,isP):=⟨enters_of Tryz.func69 (by kernel_rfl) rfl,place.all⟩
theorem gen_N : Gen (75,PD):=⟨enters_of Tryz.func75 (by kernel_rfl) rfl,perhaps.all⟩
theorem gen_T : Gen (71,fun x => decide (x.f0 = 16) || oG x):=⟨enters_of Tryz.func71 (by kernel_rfl) rfl,Ja.all⟩
theorem shape.of (gp : List (FuncId × (bn → Bool))) (hg : ∀ z ∈ gp,Gen z) (xs : List bn) (A : Option Addr) (c : Nat) (w : World) (hC : Kd.C k25 w A xs.length xs) (q cap : Nat) (h4 : gp.length ≤ 8)
 (hq : w.heap[q]? = some (.cells (gp.map fun z => Value.func (.func z.1) #[] #[]).toArray 29 (0,0))) :
 Calls Tryz.prog 67 #[.slice A xs.length c,.slice (some ⟨q,0,none⟩) gp.length cap] w (fB (fG (gp.map (·.2)) xs) w):=by
 have e:=shape.calls xs A c w hC q cap (gp.map fun z => Value.func (.func z.1) #[] #[]) (gp.map (·.2)) (by simp) (by simpa using h4) hq (fun i f hf hi => by
  rw [List.getElem?_map] at hf;cases hz : gp[i]? with
  | none => rw [hz] at hf;cases hf
  | some z =>
   rw [hz] at hf;obtain rfl:=Option.some.inj hf;obtain ⟨h1,h2⟩:=hg z (List.mem_of_getElem? hz);refine ⟨z.1,#[],rfl,h1,fun W A c _ hn => ?_⟩;rw [Array.append_empty];have e : zI (gp.map (·.2)) i = z.2:=by
    unfold zI;rw [List.getD_eq_getElem?_getD,List.getElem?_map,hz];rfl
   rw [e];exact h2 hn)
 rwa [List.length_map] at e
open Go.Proofs.YtboojhadfhpdeaaGreatDoor.Lex
theorem jB (w : World) (o o' : Obj) : ((w.alloc o).alloc o').heap[w.heap.size + 1]? = some o' := by
 have h:=eP (w.alloc o) o'
 rwa [show (w.alloc o).heap.size = w.heap.size + 1 from by simp] at h
def wC (l s : ByteArray) : Bool:=IJ ([32] ++ l.data.toList ++ [32]) s.data.toList
section
variable {s : ByteArray} {w : World}
theorem name.all (hs : oV s) (hG : dG w) : Calls Tryz.prog 66 #[.string s] w (fB (uF s) w):=by
 obtain ⟨k,hk⟩:=(nm_ast s hs).rounds;exact jK.calls k s _ w hG hk
theorem one.all (l : ByteArray) (hl : l.size ≤ 1000) (hs : oV s) (hG : dG w) : Calls Tryz.prog 68 #[.string l,.string s] w (fB (wC l s) w):=kD.calls l s _ w hG (Pg l s hl hs)
theorem typed.all (hs : oV s) (hG : dG w) : Calls Tryz.prog 72 #[.string s] w (fB (tyB s) w):=by
 obtain ⟨k,hk⟩:=(ty_ast s hs).rounds;exact nJ.calls k s _ w hG hk
end
theorem shape.at (n : Nat) (gp : List (FuncId × (bn → Bool))) (e : gp.length = n) (hg : ∀ z ∈ gp,Gen z) (xs : List bn) (A : Option Addr) (c : Nat) (w : World) (hC : Kd.C k25 w A xs.length xs) (q cap : Nat) (h4 : n ≤ 8)
 (hq : w.heap[q]? = some (.cells (gp.map fun z => Value.func (.func z.1) #[] #[]).toArray 29 (0,0))) :
 Calls Tryz.prog 67 #[.slice A xs.length c,.slice (some ⟨q,0,none⟩) n cap] w (fB (fG (gp.map (·.2)) xs) w):=by
 subst e;exact shape.of gp hg xs A c w hC q cap h4 hq
structure Env (w : World) (x : bn) (A : Option Addr) (c : Nat) (W : World) : Prop where
 b : Below w.heap.size w W
 n : NB W w.heap.size x A c
 k : ND w x A c
 g : dG w
theorem Env.start {w : World} {x : bn} {A : Option Addr} {c : Nat} (hG : dG w) (hn : ND w x A c) : ah (Env w x A c (w.alloc (.cells #[.int .i64 x.f0,.string x.f1,.int .u32 x.f2,.bool x.f3,.slice A x.f4.length c,.int .i64 x.f5] 25 (0,0)))) :=
 ⟨au (Below.refl _ _) _,eP w _,hn,hG⟩
section
variable {w W : World} {x : bn} {A : Option Addr} {c : Nat}
theorem NB.alloc {w : World} {g : Nat} (h : NB w g x A c) (o : Obj) : NB (w.alloc o) g x A c:=h.below (au (Below.refl _ _) o)
theorem Env.alloc (E : Env w x A c W) (o : Obj) : Env w x A c (W.alloc o):=⟨au E.b o,E.n.alloc o,E.k,E.g⟩
theorem Env.step {W1 : World} (E : Env w x A c W) (hB : Below W.heap.size W W1) : Env w x A c W1:=⟨aN E.b hB,E.n.below hB,E.k,E.g⟩
theorem Env.nd (E : Env w x A c W) : ND W x A c:=E.k.below E.b
theorem Env.kids (E : Env w x A c W) : Kd.C k25 W A x.f4.length x.f4:=E.nd.C
theorem Env.kQ (E : Env w x A c W) : dG W:=E.g.below E.b
theorem Env.cells (E : Env w x A c W) : W.cell? ⟨w.heap.size,0,none⟩ = some (.int .i64 x.f0) ∧ W.cell? ⟨w.heap.size,1,none⟩ = some (.string x.f1) ∧ W.cell? ⟨w.heap.size,2,none⟩ = some (.int .u32 x.f2) ∧ W.cell? ⟨w.heap.size,3,none⟩ = some (.bool x.f3) ∧ W.cell? ⟨w.heap.size,4,none⟩ = some (.slice A x.f4.length c) ∧ W.cell? ⟨w.heap.size,5,none⟩ = some (.int .i64 x.f5):=E.n.cells
theorem Env.call {W0 : World} {v b : Bool} {f : FuncId} {args : Array Value} {Q : Ending → World → Prop} (E0 : ah (Env w x A c W0)) (E : Env w x A c W) (hb : b = v) (h : Calls Tryz.prog f args W (fB b W))
 (K : ∀ w1,ah (Env w x A c w1) → w1.cell? ⟨w.heap.size,0,none⟩ = some (.int .i64 x.f0) → w1.cell? ⟨w.heap.size,1,none⟩ = some (.string x.f1) → w1.cell? ⟨w.heap.size,2,none⟩ = some (.int .u32 x.f2) → w1.cell? ⟨w.heap.size,3,none⟩ = some (.bool x.f3) → w1.cell? ⟨w.heap.size,4,none⟩ = some (.slice A x.f4.length c) → w1.cell? ⟨w.heap.size,5,none⟩ = some (.int .i64 x.f5) → Q (.returned (.bool v)) w1) : Calls Tryz.prog f args W Q:=by
 subst hb;refine h.mono ?_;rintro e w1 ⟨rfl,hB⟩;have E1:=E.step hB;obtain ⟨c0,c1,c2,c3,c4,c5⟩:=E1.cells;exact K w1 ⟨E1⟩ c0 c1 c2 c3 c4 c5
theorem lK {W1 : World} (h : Below w.heap.size w W1:=by first|exact E.out.b|exact (E.out.alloc _).b|exact au (Below.refl _ _) _) : Below w.heap.size w W1:=h
end
abbrev gE : List (FuncId × (bn → Bool)):=[(40,oG)]
theorem Kw : ∀ z ∈ gE,Gen z:=by
 intro z hz;simp only [gE,List.mem_cons,List.not_mem_nil,or_false] at hz;rcases hz with rfl
 · exact xP
abbrev Ez : List (FuncId × (bn → Bool)):=[(40,oG),(40,oG)]
theorem Nh : ∀ z ∈ Ez,Gen z:=by
 intro z hz;simp only [Ez,List.mem_cons,List.not_mem_nil,or_false] at hz;rcases hz with rfl|rfl
 · exact xP
 · exact xP
abbrev zK : List (FuncId × (bn → Bool)):=[(40,oG),(40,oG),(40,oG)]
theorem ok_gEEE : ∀ z ∈ zK,Gen z:=by
 intro z hz;simp only [zK,List.mem_cons,List.not_mem_nil,or_false] at hz;rcases hz with rfl|rfl|rfl
 · exact xP
 · exact xP
 · exact xP
abbrev Nj : List (FuncId × (bn → Bool)):=[(69,isP),(40,oG)]
theorem ok_gPE : ∀ z ∈ Nj,Gen z:=by
 intro z hz;simp only [Nj,List.mem_cons,List.not_mem_nil,or_false] at hz;rcases hz with rfl|rfl
 · exact gen_P
 · exact xP
abbrev gT : List (FuncId × (bn → Bool)):=[(71,(fun x => decide (x.f0 = 16) || oG x))]
theorem ok_gT : ∀ z ∈ gT,Gen z:=by
 intro z hz;simp only [gT,List.mem_cons,List.not_mem_nil,or_false] at hz;rcases hz with rfl
 · exact gen_T
abbrev gES : List (FuncId × (bn → Bool)):=[(40,oG),(42,isS)]
theorem ok_gES : ∀ z ∈ gES,Gen z:=by
 intro z hz;simp only [gES,List.mem_cons,List.not_mem_nil,or_false] at hz;rcases hz with rfl|rfl
 · exact xP
 · exact Kv
abbrev gSE : List (FuncId × (bn → Bool)):=[(42,isS),(40,oG)]
theorem ok_gSE : ∀ z ∈ gSE,Gen z:=by
 intro z hz;simp only [gSE,List.mem_cons,List.not_mem_nil,or_false] at hz;rcases hz with rfl|rfl
 · exact Kv
 · exact xP
abbrev Nk : List (FuncId × (bn → Bool)):=[(40,oG),(42,isS),(42,isS)]
theorem ok_gESS : ∀ z ∈ Nk,Gen z:=by
 intro z hz;simp only [Nk,List.mem_cons,List.not_mem_nil,or_false] at hz;rcases hz with rfl|rfl|rfl
 · exact xP
 · exact Kv
 · exact Kv
abbrev Ed : List (FuncId × (bn → Bool)):=[(75,PD),(75,PD),(75,PD),(42,isS)]
theorem ok_gNNNS : ∀ z ∈ Ed,Gen z:=by
 intro z hz;simp only [Ed,List.mem_cons,List.not_mem_nil,or_false] at hz;rcases hz with rfl|rfl|rfl|rfl
 · exact gen_N
 · exact gen_N
 · exact gen_N
 · exact Kv
def e1 (x : bn) : Bool:=((x.f1.toList == ([] : List UInt8)) && ((decide (x.f2 < 2147483648)) || (x.f3)) && ((x.f4.length : Int) == 0))
theorem expressions.k1 {x : bn} {A : Option Addr} {c : Nat} {w : World} (hk : x.f0 = 1) (hG : dG w) (hn : ND w x A c) : Calls Tryz.prog 41 #[val x A c] w (fB (e1 x) w):=by
 have E:=Env.start hG hn;clear hn hG;have b1:=Yt hk 1 rfl
 have HK:=ah.mk hk;clear hk;cases h0 : (x.f1.toList == ([] : List UInt8));rotate_left 1;cases h1 : (decide (x.f2 < 2147483648));rotate_right 1
 rotate_left 1;cases h3 : (x.f3);rotate_right 1
 rotate_left 2;cases h2 : ((x.f4.length : Int) == 0);rotate_right 2
 rotate_left 4;cases h2 : ((x.f4.length : Int) == 0);rotate_right 4
 all_goals
  try have kR : (x.f1.toList != ([] : List UInt8)) = false:=by rw [bne,h0];rfl
  try have kR : (x.f1.toList != ([] : List UInt8)) = true:=by rw [bne,h0];rfl
  go_enter Tryz.func41,Tryz.ntmps41
  go_wp2
  go_ret
  exact ⟨by unfold e1;(try rw [h0]);(try rw [h1]);(try rw [h2]);(try rw [h3]);first|done|rfl,lK⟩
def e2 (x : bn) : Bool:=((x.f1.toList == ([] : List UInt8)) && (decide (x.f2 < 256)) && ((x.f4.length : Int) == 0))
theorem expressions.k2 {x : bn} {A : Option Addr} {c : Nat} {w : World} (hk : x.f0 = 2) (hG : dG w) (hn : ND w x A c) : Calls Tryz.prog 41 #[val x A c] w (fB (e2 x) w):=by
 have E:=Env.start hG hn;clear hn hG;have b1:=Yf hk 1 rfl
 have b2:=Yt hk 2 rfl
 have HK:=ah.mk hk;clear hk;cases h0 : (x.f1.toList == ([] : List UInt8));rotate_left 1;cases h1 : (decide (x.f2 < 256));rotate_right 1
 rotate_left 2;cases h2 : ((x.f4.length : Int) == 0);rotate_right 2
 all_goals
  try have kR : (x.f1.toList != ([] : List UInt8)) = false:=by rw [bne,h0];rfl
  try have kR : (x.f1.toList != ([] : List UInt8)) = true:=by rw [bne,h0];rfl
  go_enter Tryz.func41,Tryz.ntmps41
  go_wp2
  go_ret
  exact ⟨by unfold e2;(try rw [h0]);(try rw [h1]);(try rw [h2]);first|done|rfl,lK⟩
def e3 (x : bn) : Bool:=((x.f2 == 0) && ((x.f4.length : Int) == 0))
theorem expressions.k3 {x : bn} {A : Option Addr} {c : Nat} {w : World} (hk : x.f0 = 3) (hG : dG w) (hn : ND w x A c) : Calls Tryz.prog 41 #[val x A c] w (fB (e3 x) w):=by
 have E:=Env.start hG hn;clear hn hG;have b1:=Yf hk 1 rfl
 have b2:=Yf hk 2 rfl
 have b3:=Yt hk 3 rfl
 have HK:=ah.mk hk;clear hk;cases h0 : (x.f1.toList == ([] : List UInt8));cases h1 : (x.f2 == 0);rotate_left 1;cases h2 : ((x.f4.length : Int) == 0);rotate_right 1
 rotate_left 3;cases h1 : (x.f2 == 0);rotate_right 3
 rotate_left 4;cases h2 : ((x.f4.length : Int) == 0);rotate_right 4
 all_goals
  try have kR : (x.f1.toList != ([] : List UInt8)) = false:=by rw [bne,h0];rfl
  try have kR : (x.f1.toList != ([] : List UInt8)) = true:=by rw [bne,h0];rfl
  try have kS : (x.f2 != 0) = false:=by rw [bne,h1];rfl
  try have kS : (x.f2 != 0) = true:=by rw [bne,h1];rfl
  go_enter Tryz.func41,Tryz.ntmps41
  go_wp2
  go_ret
  exact ⟨by unfold e3;(try rw [h1]);(try rw [h2]);first|done|rfl,lK⟩
def e4 (x : bn) : Bool:=((x.f2 == 0) && (uF x.f1) && ((x.f4.length : Int) == 0))
theorem expressions.k4 {x : bn} {A : Option Addr} {c : Nat} {w : World} (hk : x.f0 = 4) (hs : oV x.f1) (hG : dG w) (hn : ND w x A c) : Calls Tryz.prog 41 #[val x A c] w (fB (e4 x) w):=by
 have E:=Env.start hG hn;clear hn hG;have b1:=Yf hk 1 rfl
 have b2:=Yf hk 2 rfl
 have b3:=Yf hk 3 rfl
 have b4:=Yt hk 4 rfl
 have HK:=ah.mk hk;clear hk;have HS:=ah.mk hs;clear hs;cases h0 : (x.f1.toList == ([] : List UInt8));cases h1 : (x.f2 == 0);rotate_left 1;cases h2 : (uF x.f1);rotate_right 1
 rotate_left 2;cases h3 : ((x.f4.length : Int) == 0);rotate_right 2
 rotate_left 4;cases h1 : (x.f2 == 0);rotate_right 4
 rotate_left 5;cases h2 : (uF x.f1);rotate_right 5
 rotate_left 6;cases h3 : ((x.f4.length : Int) == 0);rotate_right 6
 all_goals
  try have kR : (x.f1.toList != ([] : List UInt8)) = false:=by rw [bne,h0];rfl
  try have kR : (x.f1.toList != ([] : List UInt8)) = true:=by rw [bne,h0];rfl
  try have kS : (x.f2 != 0) = false:=by rw [bne,h1];rfl
  try have kS : (x.f2 != 0) = true:=by rw [bne,h1];rfl
  try (have HC2:=ah.mk h2;clear h2)
  go_enter Tryz.func41,Tryz.ntmps41
  go_wp2_with (first
   | (go_at_call 66;(try clear c0 c1 c2 c3 c4 c5);(with_reducible refine Env.call E E.out HC2.out (name.all HS.out E.out.kQ) (fun w1 E c0 c1 c2 c3 c4 c5 => ?_)))
   | fail)
  go_ret
  exact ⟨by unfold e4;(try rw [h1]);(try rw [HC2.out]);(try rw [h3]);first|done|rfl,lK⟩
def e5 (x : bn) : Bool:=((x.f1.toList == ([] : List UInt8)) && (x.f2 == 0) && (fG (Ez.map (·.2)) x.f4))
theorem expressions.k5 {x : bn} {A : Option Addr} {c : Nat} {w : World} (hk : x.f0 = 5) (hG : dG w) (hn : ND w x A c) : Calls Tryz.prog 41 #[val x A c] w (fB (e5 x) w):=by
 have E:=Env.start hG hn;clear hn hG;have b1:=Yf hk 1 rfl
 have b2:=Yf hk 2 rfl
 have b3:=Yf hk 3 rfl
 have b4:=Yf hk 4 rfl
 have b5:=Yt hk 5 rfl
 have HK:=ah.mk hk;clear hk;cases h0 : (x.f1.toList == ([] : List UInt8));rotate_left 1;cases h1 : (x.f2 == 0);rotate_right 1
 rotate_left 2;cases h2 : (fG (Ez.map (·.2)) x.f4);rotate_right 2
 all_goals
  try have kR : (x.f1.toList != ([] : List UInt8)) = false:=by rw [bne,h0];rfl
  try have kR : (x.f1.toList != ([] : List UInt8)) = true:=by rw [bne,h0];rfl
  try have kS : (x.f2 != 0) = false:=by rw [bne,h1];rfl
  try have kS : (x.f2 != 0) = true:=by rw [bne,h1];rfl
  try (have HC2:=ah.mk h2;clear h2)
  have tk2 : True:=trivial;go_enter Tryz.func41,Tryz.ntmps41
  go_wp2_with (first
   | (go_at_call 67;have t_:=tk2;clear t_ tk2;(try clear c0 c1 c2 c3 c4 c5);(refine Env.call E (E.out.alloc _) HC2.out (shape.at 2 Ez rfl Nh x.f4 A c _ (E.out.alloc _).kids _ _ (by decide) (by first|exact eP _ _|exact jB _ _ _)) (fun w1 E c0 c1 c2 c3 c4 c5 => ?_)))
   | fail)
  go_ret
  exact ⟨by unfold e5;(try rw [h0]);(try rw [h1]);(try rw [HC2.out]);first|done|rfl,lK⟩
def e6 (x : bn) : Bool:=((x.f2 == 0) && (uF x.f1) && (fG (gE.map (·.2)) x.f4))
theorem expressions.k6 {x : bn} {A : Option Addr} {c : Nat} {w : World} (hk : x.f0 = 6) (hs : oV x.f1) (hG : dG w) (hn : ND w x A c) : Calls Tryz.prog 41 #[val x A c] w (fB (e6 x) w):=by
 have E:=Env.start hG hn;clear hn hG;have b1:=Yf hk 1 rfl
 have b2:=Yf hk 2 rfl
 have b3:=Yf hk 3 rfl
 have b4:=Yf hk 4 rfl
 have b5:=Yf hk 5 rfl
 have b6:=Yt hk 6 rfl
 have HK:=ah.mk hk;clear hk;have HS:=ah.mk hs;clear hs;cases h0 : (x.f1.toList == ([] : List UInt8));cases h1 : (x.f2 == 0);rotate_left 1;cases h2 : (uF x.f1);rotate_right 1
 rotate_left 2;cases h3 : (fG (gE.map (·.2)) x.f4);rotate_right 2
 rotate_left 4;cases h1 : (x.f2 == 0);rotate_right 4
 rotate_left 5;cases h2 : (uF x.f1);rotate_right 5
 rotate_left 6;cases h3 : (fG (gE.map (·.2)) x.f4);rotate_right 6
 all_goals
  try have kR : (x.f1.toList != ([] : List UInt8)) = false:=by rw [bne,h0];rfl
  try have kR : (x.f1.toList != ([] : List UInt8)) = true:=by rw [bne,h0];rfl
  try have kS : (x.f2 != 0) = false:=by rw [bne,h1];rfl
  try have kS : (x.f2 != 0) = true:=by rw [bne,h1];rfl
  try (have HC2:=ah.mk h2;clear h2)
  try (have qV:=ah.mk h3;clear h3)
  have tk3 : True:=trivial;go_enter Tryz.func41,Tryz.ntmps41
  go_wp2_with (first
   | (go_at_call 66;(try clear c0 c1 c2 c3 c4 c5);(with_reducible refine Env.call E E.out HC2.out (name.all HS.out E.out.kQ) (fun w1 E c0 c1 c2 c3 c4 c5 => ?_)))
   | (go_at_call 67;have t_:=tk3;clear t_ tk3;(try clear c0 c1 c2 c3 c4 c5);(refine Env.call E (E.out.alloc _) qV.out (shape.at 1 gE rfl Kw x.f4 A c _ (E.out.alloc _).kids _ _ (by decide) (by first|exact eP _ _|exact jB _ _ _)) (fun w1 E c0 c1 c2 c3 c4 c5 => ?_)))
   | fail)
  go_ret
  exact ⟨by unfold e6;(try rw [h1]);(try rw [HC2.out]);(try rw [qV.out]);first|done|rfl,lK⟩
theorem expressions.k7 {x : bn} {A : Option Addr} {c : Nat} {w : World} (hk : x.f0 = 7) (hs : oV x.f1) (hG : dG w) (hn : ND w x A c) : Calls Tryz.prog 41 #[val x A c] w (fB (e6 x) w):=by
 have E:=Env.start hG hn;clear hn hG;have b1:=Yf hk 1 rfl
 have b2:=Yf hk 2 rfl
 have b3:=Yf hk 3 rfl
 have b4:=Yf hk 4 rfl
 have b5:=Yf hk 5 rfl
 have b6:=Yf hk 6 rfl
 have b7:=Yt hk 7 rfl
 have HK:=ah.mk hk;clear hk;have HS:=ah.mk hs;clear hs;cases h0 : (x.f1.toList == ([] : List UInt8));cases h1 : (x.f2 == 0);rotate_left 1;cases h2 : (uF x.f1);rotate_right 1
 rotate_left 2;cases h3 : (fG (gE.map (·.2)) x.f4);rotate_right 2
 rotate_left 4;cases h1 : (x.f2 == 0);rotate_right 4
 rotate_left 5;cases h2 : (uF x.f1);rotate_right 5
 rotate_left 6;cases h3 : (fG (gE.map (·.2)) x.f4);rotate_right 6
 all_goals
  try have kR : (x.f1.toList != ([] : List UInt8)) = false:=by rw [bne,h0];rfl
  try have kR : (x.f1.toList != ([] : List UInt8)) = true:=by rw [bne,h0];rfl
  try have kS : (x.f2 != 0) = false:=by rw [bne,h1];rfl
  try have kS : (x.f2 != 0) = true:=by rw [bne,h1];rfl
  try (have HC2:=ah.mk h2;clear h2)
  try (have qV:=ah.mk h3;clear h3)
  have tk3 : True:=trivial;go_enter Tryz.func41,Tryz.ntmps41
  go_wp2_with (first
   | (go_at_call 66;(try clear c0 c1 c2 c3 c4 c5);(with_reducible refine Env.call E E.out HC2.out (name.all HS.out E.out.kQ) (fun w1 E c0 c1 c2 c3 c4 c5 => ?_)))
   | (go_at_call 67;have t_:=tk3;clear t_ tk3;(try clear c0 c1 c2 c3 c4 c5);(refine Env.call E (E.out.alloc _) qV.out (shape.at 1 gE rfl Kw x.f4 A c _ (E.out.alloc _).kids _ _ (by decide) (by first|exact eP _ _|exact jB _ _ _)) (fun w1 E c0 c1 c2 c3 c4 c5 => ?_)))
   | fail)
  go_ret
  exact ⟨by unfold e6;(try rw [h1]);(try rw [HC2.out]);(try rw [qV.out]);first|done|rfl,lK⟩
def e8 (x : bn) : Bool:=((x.f2 == 0) && ((uF x.f1) || (x.f1.toList == ([103,101,116,98,121,116,101] : List UInt8)) || (x.f1.toList == ([112,117,116,98,121,116,101] : List UInt8))) && (x.f4.all oG))
theorem expressions.k8 {x : bn} {A : Option Addr} {c : Nat} {w : World} (hk : x.f0 = 8) (hs : oV x.f1) (hG : dG w) (hn : ND w x A c) : Calls Tryz.prog 41 #[val x A c] w (fB (e8 x) w):=by
 have E:=Env.start hG hn;clear hn hG;have b1:=Yf hk 1 rfl
 have b2:=Yf hk 2 rfl
 have b3:=Yf hk 3 rfl
 have b4:=Yf hk 4 rfl
 have b5:=Yf hk 5 rfl
 have b6:=Yf hk 6 rfl
 have b7:=Yf hk 7 rfl
 have b8:=Yt hk 8 rfl
 have HK:=ah.mk hk;clear hk;have HS:=ah.mk hs;clear hs;cases h0 : (x.f1.toList == ([] : List UInt8));cases h1 : (x.f2 == 0);rotate_left 1;cases h2 : (uF x.f1);rotate_right 1
 rotate_left 1;cases h4 : (x.f1.toList == ([103,101,116,98,121,116,101] : List UInt8));rotate_right 1
 rotate_left 1;cases h5 : (x.f1.toList == ([112,117,116,98,121,116,101] : List UInt8));rotate_right 1
 rotate_left 2;cases h3 : (x.f4.all oG);rotate_right 2
 rotate_left 4;cases h3 : (x.f4.all oG);rotate_right 4
 rotate_left 6;cases h3 : (x.f4.all oG);rotate_right 6
 rotate_left 8;cases h1 : (x.f2 == 0);rotate_right 8
 rotate_left 9;cases h2 : (uF x.f1);rotate_right 9
 rotate_left 9;cases h4 : (x.f1.toList == ([103,101,116,98,121,116,101] : List UInt8));rotate_right 9
 rotate_left 9;cases h5 : (x.f1.toList == ([112,117,116,98,121,116,101] : List UInt8));rotate_right 9
 rotate_left 10;cases h3 : (x.f4.all oG);rotate_right 10
 rotate_left 12;cases h3 : (x.f4.all oG);rotate_right 12
 rotate_left 14;cases h3 : (x.f4.all oG);rotate_right 14
 all_goals
  try have kR : (x.f1.toList != ([] : List UInt8)) = false:=by rw [bne,h0];rfl
  try have kR : (x.f1.toList != ([] : List UInt8)) = true:=by rw [bne,h0];rfl
  try have kS : (x.f2 != 0) = false:=by rw [bne,h1];rfl
  try have kS : (x.f2 != 0) = true:=by rw [bne,h1];rfl
  try (have HC2:=ah.mk h2;clear h2)
  try (have qV:=ah.mk h3;clear h3)
  go_enter Tryz.func41,Tryz.ntmps41
  go_wp2_with (first
   | (go_at_call 66;(try clear c0 c1 c2 c3 c4 c5);(with_reducible refine Env.call E E.out HC2.out (name.all HS.out E.out.kQ) (fun w1 E c0 c1 c2 c3 c4 c5 => ?_)))
   | (go_at_call 33;(try clear c0 c1 c2 c3 c4 c5);(with_reducible refine Env.call E E.out qV.out (every.calls x.f4 A c _ E.out.kids 40 #[] oG (enters_of Tryz.func40 (by kernel_rfl) rfl) (sW expression.all)) (fun w1 E c0 c1 c2 c3 c4 c5 => ?_)))
   | fail)
  go_ret
  exact ⟨by unfold e8;(try rw [h1]);(try rw [HC2.out]);(try rw [qV.out]);(try rw [h4]);(try rw [h5]);first|done|rfl,lK⟩
def e9 (x : bn) : Bool:=((x.f2 == 0) && (wC ⟨#[45,32,126,32,33,32,38]⟩ x.f1) && (fG (gE.map (·.2)) x.f4))
theorem expressions.k9 {x : bn} {A : Option Addr} {c : Nat} {w : World} (hk : x.f0 = 9) (hs : oV x.f1) (hG : dG w) (hn : ND w x A c) : Calls Tryz.prog 41 #[val x A c] w (fB (e9 x) w):=by
 have E:=Env.start hG hn;clear hn hG;have b1:=Yf hk 1 rfl
 have b2:=Yf hk 2 rfl
 have b3:=Yf hk 3 rfl
 have b4:=Yf hk 4 rfl
 have b5:=Yf hk 5 rfl
 have b6:=Yf hk 6 rfl
 have b7:=Yf hk 7 rfl
 have b8:=Yf hk 8 rfl
 have b9:=Yt hk 9 rfl
 have HK:=ah.mk hk;clear hk;have HS:=ah.mk hs;clear hs;cases h0 : (x.f1.toList == ([] : List UInt8));cases h1 : (x.f2 == 0);rotate_left 1;cases h2 : (wC ⟨#[45,32,126,32,33,32,38]⟩ x.f1);rotate_right 1
 rotate_left 2;cases h3 : (fG (gE.map (·.2)) x.f4);rotate_right 2
 rotate_left 4;cases h1 : (x.f2 == 0);rotate_right 4
 rotate_left 5;cases h2 : (wC ⟨#[45,32,126,32,33,32,38]⟩ x.f1);rotate_right 5
 rotate_left 6;cases h3 : (fG (gE.map (·.2)) x.f4);rotate_right 6
 all_goals
  try have kR : (x.f1.toList != ([] : List UInt8)) = false:=by rw [bne,h0];rfl
  try have kR : (x.f1.toList != ([] : List UInt8)) = true:=by rw [bne,h0];rfl
  try have kS : (x.f2 != 0) = false:=by rw [bne,h1];rfl
  try have kS : (x.f2 != 0) = true:=by rw [bne,h1];rfl
  try (have HC2:=ah.mk h2;clear h2)
  try (have qV:=ah.mk h3;clear h3)
  have tk3 : True:=trivial;go_enter Tryz.func41,Tryz.ntmps41
  go_wp2_with (first
   | (go_at_call 68;(try clear c0 c1 c2 c3 c4 c5);(with_reducible refine Env.call E E.out HC2.out (one.all (⟨#[45,32,126,32,33,32,38]⟩ : ByteArray) (by decide) HS.out E.out.kQ) (fun w1 E c0 c1 c2 c3 c4 c5 => ?_)))
   | (go_at_call 67;have t_:=tk3;clear t_ tk3;(try clear c0 c1 c2 c3 c4 c5);(refine Env.call E (E.out.alloc _) qV.out (shape.at 1 gE rfl Kw x.f4 A c _ (E.out.alloc _).kids _ _ (by decide) (by first|exact eP _ _|exact jB _ _ _)) (fun w1 E c0 c1 c2 c3 c4 c5 => ?_)))
   | fail)
  go_ret
  exact ⟨by unfold e9;(try rw [h1]);(try rw [HC2.out]);(try rw [qV.out]);first|done|rfl,lK⟩
def e10 (x : bn) : Bool:=((x.f2 == 0) && (wC ⟨#[42,32,47,32,37,32,43,32,45,32,60,60,32,62,62,32,60,32,62,32,60,61,32,62,61,32,61,61,32,33,61,32,38,32,94,32,124]⟩ x.f1) && (fG (Ez.map (·.2)) x.f4))
theorem expressions.k10 {x : bn} {A : Option Addr} {c : Nat} {w : World} (hk : x.f0 = 10) (hs : oV x.f1) (hG : dG w) (hn : ND w x A c) : Calls Tryz.prog 41 #[val x A c] w (fB (e10 x) w):=by
 have E:=Env.start hG hn;clear hn hG;have b1:=Yf hk 1 rfl
 have b2:=Yf hk 2 rfl
 have b3:=Yf hk 3 rfl
 have b4:=Yf hk 4 rfl
 have b5:=Yf hk 5 rfl
 have b6:=Yf hk 6 rfl
 have b7:=Yf hk 7 rfl
 have b8:=Yf hk 8 rfl
 have b9:=Yf hk 9 rfl
 have b10:=Yt hk 10 rfl
 have HK:=ah.mk hk;clear hk;have HS:=ah.mk hs;clear hs;cases h0 : (x.f1.toList == ([] : List UInt8));cases h1 : (x.f2 == 0);rotate_left 1;cases h2 : (wC ⟨#[42,32,47,32,37,32,43,32,45,32,60,60,32,62,62,32,60,32,62,32,60,61,32,62,61,32,61,61,32,33,61,32,38,32,94,32,124]⟩ x.f1);rotate_right 1
 rotate_left 2;cases h3 : (fG (Ez.map (·.2)) x.f4);rotate_right 2
 rotate_left 4;cases h1 : (x.f2 == 0);rotate_right 4
 rotate_left 5;cases h2 : (wC ⟨#[42,32,47,32,37,32,43,32,45,32,60,60,32,62,62,32,60,32,62,32,60,61,32,62,61,32,61,61,32,33,61,32,38,32,94,32,124]⟩ x.f1);rotate_right 5
 rotate_left 6;cases h3 : (fG (Ez.map (·.2)) x.f4);rotate_right 6
 all_goals
  try have kR : (x.f1.toList != ([] : List UInt8)) = false:=by rw [bne,h0];rfl
  try have kR : (x.f1.toList != ([] : List UInt8)) = true:=by rw [bne,h0];rfl
  try have kS : (x.f2 != 0) = false:=by rw [bne,h1];rfl
  try have kS : (x.f2 != 0) = true:=by rw [bne,h1];rfl
  try (have HC2:=ah.mk h2;clear h2)
  try (have qV:=ah.mk h3;clear h3)
  have tk3 : True:=trivial;go_enter Tryz.func41,Tryz.ntmps41
  go_wp2_with (first
   | (go_at_call 68;(try clear c0 c1 c2 c3 c4 c5);(with_reducible refine Env.call E E.out HC2.out (one.all (⟨#[42,32,47,32,37,32,43,32,45,32,60,60,32,62,62,32,60,32,62,32,60,61,32,62,61,32,61,61,32,33,61,32,38,32,94,32,124]⟩ : ByteArray) (by decide) HS.out E.out.kQ) (fun w1 E c0 c1 c2 c3 c4 c5 => ?_)))
   | (go_at_call 67;have t_:=tk3;clear t_ tk3;(try clear c0 c1 c2 c3 c4 c5);(refine Env.call E (E.out.alloc _) qV.out (shape.at 2 Ez rfl Nh x.f4 A c _ (E.out.alloc _).kids _ _ (by decide) (by first|exact eP _ _|exact jB _ _ _)) (fun w1 E c0 c1 c2 c3 c4 c5 => ?_)))
   | fail)
  go_ret
  exact ⟨by unfold e10;(try rw [h1]);(try rw [HC2.out]);(try rw [qV.out]);first|done|rfl,lK⟩
def e11 (x : bn) : Bool:=((x.f2 == 0) && (wC ⟨#[38,38,32,124,124]⟩ x.f1) && (fG (Ez.map (·.2)) x.f4))
theorem expressions.k11 {x : bn} {A : Option Addr} {c : Nat} {w : World} (hk : x.f0 = 11) (hs : oV x.f1) (hG : dG w) (hn : ND w x A c) : Calls Tryz.prog 41 #[val x A c] w (fB (e11 x) w):=by
 have E:=Env.start hG hn;clear hn hG;have b1:=Yf hk 1 rfl
 have b2:=Yf hk 2 rfl
 have b3:=Yf hk 3 rfl
 have b4:=Yf hk 4 rfl
 have b5:=Yf hk 5 rfl
 have b6:=Yf hk 6 rfl
 have b7:=Yf hk 7 rfl
 have b8:=Yf hk 8 rfl
 have b9:=Yf hk 9 rfl
 have b10:=Yf hk 10 rfl
 have b11:=Yt hk 11 rfl
 have HK:=ah.mk hk;clear hk;have HS:=ah.mk hs;clear hs;cases h0 : (x.f1.toList == ([] : List UInt8));cases h1 : (x.f2 == 0);rotate_left 1;cases h2 : (wC ⟨#[38,38,32,124,124]⟩ x.f1);rotate_right 1
 rotate_left 2;cases h3 : (fG (Ez.map (·.2)) x.f4);rotate_right 2
 rotate_left 4;cases h1 : (x.f2 == 0);rotate_right 4
 rotate_left 5;cases h2 : (wC ⟨#[38,38,32,124,124]⟩ x.f1);rotate_right 5
 rotate_left 6;cases h3 : (fG (Ez.map (·.2)) x.f4);rotate_right 6
 all_goals
  try have kR : (x.f1.toList != ([] : List UInt8)) = false:=by rw [bne,h0];rfl
  try have kR : (x.f1.toList != ([] : List UInt8)) = true:=by rw [bne,h0];rfl
  try have kS : (x.f2 != 0) = false:=by rw [bne,h1];rfl
  try have kS : (x.f2 != 0) = true:=by rw [bne,h1];rfl
  try (have HC2:=ah.mk h2;clear h2)
  try (have qV:=ah.mk h3;clear h3)
  have tk3 : True:=trivial;go_enter Tryz.func41,Tryz.ntmps41
  go_wp2_with (first
   | (go_at_call 68;(try clear c0 c1 c2 c3 c4 c5);(with_reducible refine Env.call E E.out HC2.out (one.all (⟨#[38,38,32,124,124]⟩ : ByteArray) (by decide) HS.out E.out.kQ) (fun w1 E c0 c1 c2 c3 c4 c5 => ?_)))
   | (go_at_call 67;have t_:=tk3;clear t_ tk3;(try clear c0 c1 c2 c3 c4 c5);(refine Env.call E (E.out.alloc _) qV.out (shape.at 2 Ez rfl Nh x.f4 A c _ (E.out.alloc _).kids _ _ (by decide) (by first|exact eP _ _|exact jB _ _ _)) (fun w1 E c0 c1 c2 c3 c4 c5 => ?_)))
   | fail)
  go_ret
  exact ⟨by unfold e11;(try rw [h1]);(try rw [HC2.out]);(try rw [qV.out]);first|done|rfl,lK⟩
def e12 (x : bn) : Bool:=((x.f1.toList == ([] : List UInt8)) && (x.f2 == 0) && (fG (zK.map (·.2)) x.f4))
theorem expressions.k12 {x : bn} {A : Option Addr} {c : Nat} {w : World} (hk : x.f0 = 12) (hG : dG w) (hn : ND w x A c) : Calls Tryz.prog 41 #[val x A c] w (fB (e12 x) w):=by
 have E:=Env.start hG hn;clear hn hG;have b1:=Yf hk 1 rfl
 have b2:=Yf hk 2 rfl
 have b3:=Yf hk 3 rfl
 have b4:=Yf hk 4 rfl
 have b5:=Yf hk 5 rfl
 have b6:=Yf hk 6 rfl
 have b7:=Yf hk 7 rfl
 have b8:=Yf hk 8 rfl
 have b9:=Yf hk 9 rfl
 have b10:=Yf hk 10 rfl
 have b11:=Yf hk 11 rfl
 have b12:=Yt hk 12 rfl
 have HK:=ah.mk hk;clear hk;cases h0 : (x.f1.toList == ([] : List UInt8));rotate_left 1;cases h1 : (x.f2 == 0);rotate_right 1
 rotate_left 2;cases h2 : (fG (zK.map (·.2)) x.f4);rotate_right 2
 all_goals
  try have kR : (x.f1.toList != ([] : List UInt8)) = false:=by rw [bne,h0];rfl
  try have kR : (x.f1.toList != ([] : List UInt8)) = true:=by rw [bne,h0];rfl
  try have kS : (x.f2 != 0) = false:=by rw [bne,h1];rfl
  try have kS : (x.f2 != 0) = true:=by rw [bne,h1];rfl
  try (have HC2:=ah.mk h2;clear h2)
  have tk2 : True:=trivial;go_enter Tryz.func41,Tryz.ntmps41
  go_wp2_with (first
   | (go_at_call 67;have t_:=tk2;clear t_ tk2;(try clear c0 c1 c2 c3 c4 c5);(refine Env.call E (E.out.alloc _) HC2.out (shape.at 3 zK rfl ok_gEEE x.f4 A c _ (E.out.alloc _).kids _ _ (by decide) (by first|exact eP _ _|exact jB _ _ _)) (fun w1 E c0 c1 c2 c3 c4 c5 => ?_)))
   | fail)
  go_ret
  exact ⟨by unfold e12;(try rw [h0]);(try rw [h1]);(try rw [HC2.out]);first|done|rfl,lK⟩
def e13 (x : bn) : Bool:=((x.f2 == 0) && (wC ⟨#[61,32,43,61,32,45,61,32,42,61,32,47,61,32,37,61,32,38,61,32,124,61,32,94,61,32,60,60,61,32,62,62,61]⟩ x.f1) && (fG (Nj.map (·.2)) x.f4))
theorem expressions.k13 {x : bn} {A : Option Addr} {c : Nat} {w : World} (hk : x.f0 = 13) (hs : oV x.f1) (hG : dG w) (hn : ND w x A c) : Calls Tryz.prog 41 #[val x A c] w (fB (e13 x) w):=by
 have E:=Env.start hG hn;clear hn hG;have b1:=Yf hk 1 rfl
 have b2:=Yf hk 2 rfl
 have b3:=Yf hk 3 rfl
 have b4:=Yf hk 4 rfl
 have b5:=Yf hk 5 rfl
 have b6:=Yf hk 6 rfl
 have b7:=Yf hk 7 rfl
 have b8:=Yf hk 8 rfl
 have b9:=Yf hk 9 rfl
 have b10:=Yf hk 10 rfl
 have b11:=Yf hk 11 rfl
 have b12:=Yf hk 12 rfl
 have b13:=Yt hk 13 rfl
 have HK:=ah.mk hk;clear hk;have HS:=ah.mk hs;clear hs;cases h0 : (x.f1.toList == ([] : List UInt8));cases h1 : (x.f2 == 0);rotate_left 1;cases h2 : (wC ⟨#[61,32,43,61,32,45,61,32,42,61,32,47,61,32,37,61,32,38,61,32,124,61,32,94,61,32,60,60,61,32,62,62,61]⟩ x.f1);rotate_right 1
 rotate_left 2;cases h3 : (fG (Nj.map (·.2)) x.f4);rotate_right 2
 rotate_left 4;cases h1 : (x.f2 == 0);rotate_right 4
 rotate_left 5;cases h2 : (wC ⟨#[61,32,43,61,32,45,61,32,42,61,32,47,61,32,37,61,32,38,61,32,124,61,32,94,61,32,60,60,61,32,62,62,61]⟩ x.f1);rotate_right 5
 rotate_left 6;cases h3 : (fG (Nj.map (·.2)) x.f4);rotate_right 6
 all_goals
  try have kR : (x.f1.toList != ([] : List UInt8)) = false:=by rw [bne,h0];rfl
  try have kR : (x.f1.toList != ([] : List UInt8)) = true:=by rw [bne,h0];rfl
  try have kS : (x.f2 != 0) = false:=by rw [bne,h1];rfl
  try have kS : (x.f2 != 0) = true:=by rw [bne,h1];rfl
  try (have HC2:=ah.mk h2;clear h2)
  try (have qV:=ah.mk h3;clear h3)
  have tk3 : True:=trivial;go_enter Tryz.func41,Tryz.ntmps41
  go_wp2_with (first
   | (go_at_call 68;(try clear c0 c1 c2 c3 c4 c5);(with_reducible refine Env.call E E.out HC2.out (one.all (⟨#[61,32,43,61,32,45,61,32,42,61,32,47,61,32,37,61,32,38,61,32,124,61,32,94,61,32,60,60,61,32,62,62,61]⟩ : ByteArray) (by decide) HS.out E.out.kQ) (fun w1 E c0 c1 c2 c3 c4 c5 => ?_)))
   | (go_at_call 67;have t_:=tk3;clear t_ tk3;(try clear c0 c1 c2 c3 c4 c5);(refine Env.call E (E.out.alloc _) qV.out (shape.at 2 Nj rfl ok_gPE x.f4 A c _ (E.out.alloc _).kids _ _ (by decide) (by first|exact eP _ _|exact jB _ _ _)) (fun w1 E c0 c1 c2 c3 c4 c5 => ?_)))
   | fail)
  go_ret
  exact ⟨by unfold e13;(try rw [h1]);(try rw [HC2.out]);(try rw [qV.out]);first|done|rfl,lK⟩
def e15 (x : bn) : Bool:=((x.f1.toList == ([] : List UInt8)) && (x.f2 == 0) && (fG (gT.map (·.2)) x.f4))
theorem expressions.k15 {x : bn} {A : Option Addr} {c : Nat} {w : World} (hk : x.f0 = 15) (hG : dG w) (hn : ND w x A c) : Calls Tryz.prog 41 #[val x A c] w (fB (e15 x) w):=by
 have E:=Env.start hG hn;clear hn hG;have b1:=Yf hk 1 rfl
 have b2:=Yf hk 2 rfl
 have b3:=Yf hk 3 rfl
 have b4:=Yf hk 4 rfl
 have b5:=Yf hk 5 rfl
 have b6:=Yf hk 6 rfl
 have b7:=Yf hk 7 rfl
 have b8:=Yf hk 8 rfl
 have b9:=Yf hk 9 rfl
 have b10:=Yf hk 10 rfl
 have b11:=Yf hk 11 rfl
 have b12:=Yf hk 12 rfl
 have b13:=Yf hk 13 rfl
 have b14:=Yf hk 14 rfl
 have b15:=Yt hk 15 rfl
 have HK:=ah.mk hk;clear hk;cases h0 : (x.f1.toList == ([] : List UInt8));rotate_left 1;cases h1 : (x.f2 == 0);rotate_right 1
 rotate_left 2;cases h2 : (fG (gT.map (·.2)) x.f4);rotate_right 2
 all_goals
  try have kR : (x.f1.toList != ([] : List UInt8)) = false:=by rw [bne,h0];rfl
  try have kR : (x.f1.toList != ([] : List UInt8)) = true:=by rw [bne,h0];rfl
  try have kS : (x.f2 != 0) = false:=by rw [bne,h1];rfl
  try have kS : (x.f2 != 0) = true:=by rw [bne,h1];rfl
  try (have HC2:=ah.mk h2;clear h2)
  have tk2 : True:=trivial;go_enter Tryz.func41,Tryz.ntmps41
  go_wp2_with (first
   | (go_at_call 67;have t_:=tk2;clear t_ tk2;(try clear c0 c1 c2 c3 c4 c5);(refine Env.call E (E.out.alloc _) HC2.out (shape.at 1 gT rfl ok_gT x.f4 A c _ (E.out.alloc _).kids _ _ (by decide) (by first|exact eP _ _|exact jB _ _ _)) (fun w1 E c0 c1 c2 c3 c4 c5 => ?_)))
   | fail)
  go_ret
  exact ⟨by unfold e15;(try rw [h0]);(try rw [h1]);(try rw [HC2.out]);first|done|rfl,lK⟩
def e16 (x : bn) : Bool:=((x.f2 == 0) && (tyB x.f1) && ((x.f4.length : Int) == 0))
theorem expressions.k16 {x : bn} {A : Option Addr} {c : Nat} {w : World} (hk : x.f0 = 16) (hs : oV x.f1) (hG : dG w) (hn : ND w x A c) : Calls Tryz.prog 41 #[val x A c] w (fB (e16 x) w):=by
 have E:=Env.start hG hn;clear hn hG;have b1:=Yf hk 1 rfl
 have b2:=Yf hk 2 rfl
 have b3:=Yf hk 3 rfl
 have b4:=Yf hk 4 rfl
 have b5:=Yf hk 5 rfl
 have b6:=Yf hk 6 rfl
 have b7:=Yf hk 7 rfl
 have b8:=Yf hk 8 rfl
 have b9:=Yf hk 9 rfl
 have b10:=Yf hk 10 rfl
 have b11:=Yf hk 11 rfl
 have b12:=Yf hk 12 rfl
 have b13:=Yf hk 13 rfl
 have b14:=Yf hk 14 rfl
 have b15:=Yf hk 15 rfl
 have b16:=Yt hk 16 rfl
 have HK:=ah.mk hk;clear hk;have HS:=ah.mk hs;clear hs;cases h0 : (x.f1.toList == ([] : List UInt8));cases h1 : (x.f2 == 0);rotate_left 1;cases h2 : (tyB x.f1);rotate_right 1
 rotate_left 2;cases h3 : ((x.f4.length : Int) == 0);rotate_right 2
 rotate_left 4;cases h1 : (x.f2 == 0);rotate_right 4
 rotate_left 5;cases h2 : (tyB x.f1);rotate_right 5
 rotate_left 6;cases h3 : ((x.f4.length : Int) == 0);rotate_right 6
 all_goals
  try have kR : (x.f1.toList != ([] : List UInt8)) = false:=by rw [bne,h0];rfl
  try have kR : (x.f1.toList != ([] : List UInt8)) = true:=by rw [bne,h0];rfl
  try have kS : (x.f2 != 0) = false:=by rw [bne,h1];rfl
  try have kS : (x.f2 != 0) = true:=by rw [bne,h1];rfl
  try (have HC2:=ah.mk h2;clear h2)
  go_enter Tryz.func41,Tryz.ntmps41
  go_wp2_with (first
   | (go_at_call 72;(try clear c0 c1 c2 c3 c4 c5);(with_reducible refine Env.call E E.out HC2.out (typed.all HS.out E.out.kQ) (fun w1 E c0 c1 c2 c3 c4 c5 => ?_)))
   | fail)
  go_ret
  exact ⟨by unfold e16;(try rw [h1]);(try rw [HC2.out]);(try rw [h3]);first|done|rfl,lK⟩
end Go.Proofs.YtboojhadfhpdeaaGreatDoor.Q
