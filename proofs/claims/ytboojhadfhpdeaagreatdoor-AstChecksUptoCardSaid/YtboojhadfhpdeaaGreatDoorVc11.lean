/- A part of the proof, made small by a program: F2, F3, F4, F5, F6, H0, H1, H2, H3, H4, H5, H6, H7, H8. -/
import Derived.Test.YtboojhadfhpdeaaGreatDoorVc5
import Derived.Test.YtboojhadfhpdeaaGreatDoorVc9
import Derived.Test.YtboojhadfhpdeaaGreatDoorVc10
namespace Go.Proofs.YtboojhadfhpdeaaGreatDoor.Q
open Go.RowKit Go.Proofs.YtboojhadfhpdeaaGreatDoorW.PrintWords Go.Proofs.YtboojhadfhpdeaaGreatDoorW.PrintLast Go.Proofs.YtboojhadfhpdeaaGreatDoorW.PrintMore
set_option linter.unusedVariables false
set_option linter.unusedSimpArgs false
def isE (x : S25) : Bool:=decide (1 ≤ x.f0) && decide (x.f0 ≤ 15)
def isS (x : S25) : Bool:=decide (x.f0 = 47) || (decide (48 ≤ x.f0) && decide (x.f0 ≤ 56))
def isP (x : S25) : Bool:=decide (x.f0 = 4) || decide (x.f0 = 5) || decide (x.f0 = 6) || decide (x.f0 = 7)
def isN (x : S25) : Bool:=decide (x.f0 = 56) || isE x
theorem isE_f (x : S25) : ast_expression.f x.f0 x.f1 x.f2 x.f3 x.f4 x.f5 = some (isE x):=by
 unfold ast_expression.f isE;by_cases h : x.f0 ≥ 1
 · rw [if_pos h,decide_eq_true (show 1 ≤ x.f0 from h)];rfl
 · rw [if_neg h,decide_eq_false (show ¬ 1 ≤ x.f0 from h)];rfl
theorem isS_f (x : S25) : ast_statement.f x.f0 x.f1 x.f2 x.f3 x.f4 x.f5 = some (isS x):=by
 unfold ast_statement.f isS;by_cases h0 : x.f0 = 47
 · rw [if_pos h0,decide_eq_true h0];rfl
 · rw [if_neg h0,decide_eq_false h0];by_cases h : x.f0 ≥ 48
   · rw [if_pos h,decide_eq_true (show 48 ≤ x.f0 from h)];rfl
   · rw [if_neg h,decide_eq_false (show ¬ 48 ≤ x.f0 from h)];rfl
theorem isP_f (x : S25) : ast_place.f x.f0 x.f1 x.f2 x.f3 x.f4 x.f5 = some (isP x):=by
 unfold ast_place.f isP;by_cases h4 : x.f0 = 4 <;> by_cases h5 : x.f0 = 5 <;> by_cases h6 : x.f0 = 6 <;> by_cases h7 : x.f0 = 7 <;> simp [h4,h5,h6,h7]
theorem isN_f (x : S25) : ast_perhaps.f x.f0 x.f1 x.f2 x.f3 x.f4 x.f5 = some (isN x):=by
 unfold ast_perhaps.f isN;by_cases h : x.f0 = 56
 · rw [if_pos h,decide_eq_true h];rfl
 · rw [if_neg h,decide_eq_false h,isE_f];rfl
section
variable {x : S25} {A : Option Addr} {c : Nat} {w : World}
theorem expression.all (hn : ND w x A c) : Calls Tryz.prog 40 #[val x A c] w (AllP (isE x) w):=expression.of x _ (isE_f x) A c w hn
theorem statement.all (hn : ND w x A c) : Calls Tryz.prog 42 #[val x A c] w (AllP (isS x) w):=statement.of x _ (isS_f x) A c w hn
theorem place.all (hn : ND w x A c) : Calls Tryz.prog 69 #[val x A c] w (AllP (isP x) w):=ast_place.calls _ _ _ _ A c _ _ _ w hn.C hn.le (isP_f x)
theorem perhaps.all (hn : ND w x A c) : Calls Tryz.prog 75 #[val x A c] w (AllP (isN x) w):=ast_perhaps.calls _ _ _ _ A c _ _ _ w hn.C hn.le (isN_f x)
set_option maxHeartbeats 8000000 in
set_option maxRecDepth 100000 in
theorem expressions1.all (hn : ND w x A c) : Calls Tryz.prog 71 #[val x A c] w (AllP (decide (x.f0 = 16) || isE x) w):=by
 have HB:=Aside0.mk (below_alloc (Below.refl w.heap.size w) (.cells #[.int .i64 x.f0,.string x.f1,.int .u32 x.f2,.bool x.f3,.slice A x.f4.length c,.int .i64 x.f5] 25 (0,0)));have HN:=Aside0.mk (hn.below HB.out);clear hn;by_cases h : x.f0 = 16
 · have hb : (x.f0 == 16) = true:=by simp [h]
   go_enter Tryz.func71,Tryz.ntmps71
   go_wp2_with fail
   go_ret
   exact ⟨by rw [decide_eq_true h];rfl,below_alloc (Below.refl _ _) _⟩
 · have hb : (x.f0 == 16) = false:=by simp [h]
   go_enter Tryz.func71,Tryz.ntmps71
   go_wp2_with (first
    | (go_at_call 40;((refine (expression.all HN.out).mono ?_);rintro e w1 ⟨rfl,hB⟩);have HB1:=Aside0.mk (below_then HB.out HB.out.size hB);clear hB)
    | fail)
   go_ret
   exact ⟨by rw [decide_eq_false h];rfl,HB1.out⟩
end
end Go.Proofs.YtboojhadfhpdeaaGreatDoor.Q
namespace Go.Proofs.YtboojhadfhpdeaaGreatDoor.Q
open Go.RowKit Go.Proofs.YtboojhadfhpdeaaGreatDoorW.PrintWords Go.Proofs.YtboojhadfhpdeaaGreatDoorW.PrintLast Go.Proofs.YtboojhadfhpdeaaGreatDoorW.PrintMore
set_option linter.unusedVariables false
set_option linter.unusedSimpArgs false
section
variable {x : S25} {A : Option Addr} {c : Nat} {w : World}
set_option maxHeartbeats 8000000 in
set_option maxRecDepth 100000 in
theorem statements1.all (hn : ND w x A c) : Calls Tryz.prog 73 #[val x A c] w (AllP (isS x || decide (x.f0 = 42)) w):=by
 have HB:=Aside0.mk (below_alloc (Below.refl w.heap.size w) (.cells #[.int .i64 x.f0,.string x.f1,.int .u32 x.f2,.bool x.f3,.slice A x.f4.length c,.int .i64 x.f5] 25 (0,0)));have HN:=Aside0.mk (hn.below HB.out);have HX:=Aside0.mk (show NB (w.alloc (.cells #[.int .i64 x.f0,.string x.f1,.int .u32 x.f2,.bool x.f3,.slice A x.f4.length c,.int .i64 x.f5] 25 (0,0))) w.heap.size x A c from blk_new w _);clear hn;cases hs : isS x with
 | true =>
  have HS:=Aside0.mk hs;clear hs;go_enter Tryz.func73,Tryz.ntmps73
  go_wp2_with (first
   | (go_at_call 42;((refine (statement.all HN.out).mono ?_);rw [HS.out];rintro e w1 ⟨rfl,hB⟩);have HB1:=Aside0.mk (below_then HB.out HB.out.size hB);clear hB)
   | fail)
  go_ret
  exact ⟨rfl,HB1.out⟩
 | false =>
  have HS:=Aside0.mk hs;clear hs;by_cases h : x.f0 = 42;all_goals have HH:=Aside0.mk h
  all_goals clear h
  · go_enter Tryz.func73,Tryz.ntmps73
    go_wp2_with (first
     | (go_at_call 42;((refine (statement.all HN.out).mono ?_);rw [HS.out];rintro e w1 ⟨rfl,hB⟩);have HB1:=Aside0.mk (below_then HB.out HB.out.size hB);obtain ⟨c0,c1,c2,c3,c4,c5⟩:=(HX.out.below hB).cells;clear hB;have h:=HH.out;have hb : (x.f0 == 42) = true:=by simp [h])
     | fail)
    go_ret
    exact ⟨by rw [decide_eq_true HH.out];first|rfl|simp [HH.out],HB1.out⟩
  · go_enter Tryz.func73,Tryz.ntmps73
    go_wp2_with (first
     | (go_at_call 42;((refine (statement.all HN.out).mono ?_);rw [HS.out];rintro e w1 ⟨rfl,hB⟩);have HB1:=Aside0.mk (below_then HB.out HB.out.size hB);obtain ⟨c0,c1,c2,c3,c4,c5⟩:=(HX.out.below hB).cells;clear hB;have h:=HH.out;have hb : (x.f0 == 42) = false:=by simp [h])
     | fail)
    go_ret
    exact ⟨by rw [decide_eq_false HH.out];first|rfl|simp [HH.out],HB1.out⟩
set_option maxHeartbeats 8000000 in
set_option maxRecDepth 100000 in
theorem declarations1.all (hn : ND w x A c) : Calls Tryz.prog 76 #[val x A c] w (AllP (decide (x.f0 = 41) || decide (x.f0 = 42) || decide (x.f0 = 45)) w):=by
 clear hn;by_cases h1 : x.f0 = 41
 · have b1 : (x.f0 == 41) = true:=by simp [h1]
   go_enter Tryz.func76,Tryz.ntmps76
   go_wp2
   go_ret
   exact ⟨by simp [h1],below_alloc (Below.refl _ _) _⟩
 · have b1 : (x.f0 == 41) = false:=by simp [h1]
   by_cases h2 : x.f0 = 42
   · have b2 : (x.f0 == 42) = true:=by simp [h2]
     go_enter Tryz.func76,Tryz.ntmps76
     go_wp2
     go_ret
     exact ⟨by simp [h2],below_alloc (Below.refl _ _) _⟩
   · have b2 : (x.f0 == 42) = false:=by simp [h2]
     have HH:=Aside0.mk (And.intro h1 h2);go_enter Tryz.func76,Tryz.ntmps76
     go_wp2
     go_ret
     exact ⟨by rw [decide_eq_false HH.out.1,decide_eq_false HH.out.2];rfl,below_alloc (Below.refl _ _) _⟩
end
set_option maxHeartbeats 8000000 in
set_option maxRecDepth 100000 in
theorem of1.all {x : S25} {A : Option Addr} {c : Nat} {w : World} (k : Int) (q : Nat) (hq : w.heap[q]? = some (.cells #[.int .i64 k] 3 (0,0))) : Calls Tryz.prog 94 #[val x A c,.pointer (some ⟨q,0,none⟩)] w (AllP (decide (x.f0 = k)) w):=by
 have HB:=Aside0.mk (below_alloc (Below.refl w.heap.size w) (.cells #[.int .i64 x.f0,.string x.f1,.int .u32 x.f2,.bool x.f3,.slice A x.f4.length c,.int .i64 x.f5] 25 (0,0)));have hx:=(blk_cell (blk_below hq HB.out) 0).trans (show #[Value.int .i64 k][0]? = some (.int .i64 k) from rfl);have HQ:=Aside0.mk hq;clear hq;go_enter Tryz.func94,Tryz.ntmps94
 go_wp2
 go_ret
 exact ⟨rfl,HB.out⟩
def OfK (k : Int) (w : World) (e : Ending) (w' : World) : Prop:=∃ q,e = .returned (.func (.func 94) #[] #[.pointer (some ⟨q,0,none⟩)]) ∧ w'.heap[q]? = some (.cells #[.int .i64 k] 3 (0,0)) ∧ Below w.heap.size w w'
set_option maxHeartbeats 8000000 in
set_option maxRecDepth 100000 in
theorem of.all (k : Int) (w : World) : Calls Tryz.prog 70 #[.int .i64 k] w (OfK k w):=by
 go_enter Tryz.func70,Tryz.ntmps70
 go_wp2
 go_ret
 exact ⟨w.heap.size,rfl,blk_new w _,below_alloc (Below.refl _ _) _⟩
end Go.Proofs.YtboojhadfhpdeaaGreatDoor.Q
namespace Go.Proofs.YtboojhadfhpdeaaGreatDoor.Q
open Go.RowKit Go.Proofs.YtboojhadfhpdeaaGreatDoorW.PrintWords Go.Proofs.YtboojhadfhpdeaaGreatDoorW.PrintLast Go.Proofs.YtboojhadfhpdeaaGreatDoorW.PrintMore
set_option linter.unusedVariables false
set_option linter.unusedSimpArgs false
def bare1 (x : S25) : Bool:=!decide (x.f0 = 43) || decide (x.f4.length = 0) || (x.f3 && decide (x.f4.length = 1))
section
variable {x : S25} {A : Option Addr} {c : Nat} {w : World}
set_option maxHeartbeats 2000000 in
set_option maxRecDepth 100000 in
theorem bare1.all (hn : ND w x A c) : Calls Tryz.prog 96 #[val x A c] w (AllP (bare1 x) w):=by
 clear hn;by_cases h1 : x.f0 = 43
 · have b1 : (x.f0 == 43) = true:=by simp [h1]
   by_cases h2 : x.f4.length = 0
   · have b2 : ((x.f4.length : Int) == 0) = true:=by simp [h2]
     have HH:=Aside0.mk (show bare1 x = true by simp [bare1,h2]);go_enter Tryz.func96,Tryz.ntmps96
     go_wp2
     go_ret
     exact ⟨by rw [HH.out];first|rfl|simp,below_alloc (Below.refl _ _) _⟩
   · have b2 : ((x.f4.length : Int) == 0) = false:=by simp [h2]
     cases h3 : x.f3 with
     | true =>
      have HH:=Aside0.mk (show bare1 x = ((x.f4.length : Int) == 1) from by unfold bare1;rw [h1,h3,decide_eq_false h2];simp;rw [Bool.eq_iff_iff];simp;omega);go_enter Tryz.func96,Tryz.ntmps96
      go_wp2
      go_ret
      exact ⟨by rw [HH.out];first|rfl|simp,below_alloc (Below.refl _ _) _⟩
     | false =>
      have HH:=Aside0.mk (show bare1 x = false from by unfold bare1;rw [h1,h3,decide_eq_false h2];rfl);go_enter Tryz.func96,Tryz.ntmps96
      go_wp2
      go_ret
      exact ⟨by rw [HH.out];first|rfl|simp,below_alloc (Below.refl _ _) _⟩
 · have b1 : (x.f0 == 43) = false:=by simp [h1]
   have HH:=Aside0.mk (show bare1 x = true by simp [bare1,h1]);go_enter Tryz.func96,Tryz.ntmps96
   go_wp2
   go_ret
   exact ⟨by rw [HH.out];first|rfl|simp,below_alloc (Below.refl _ _) _⟩
end
end Go.Proofs.YtboojhadfhpdeaaGreatDoor.Q
namespace Go.Proofs.YtboojhadfhpdeaaGreatDoor.Q
open Go.RowKit Go.Proofs.YtboojhadfhpdeaaGreatDoorW.PrintWords Go.Proofs.YtboojhadfhpdeaaGreatDoorW.PrintLast Go.Proofs.YtboojhadfhpdeaaGreatDoorW.PrintMore
set_option linter.unusedVariables false
set_option linter.unusedSimpArgs false
def bareB (x : S25) : Bool:=decide (x.f0 = 42) && x.f4.all bare1
theorem asks_all {g : FuncId} {p : S25 → Bool} {xs : List S25} {w : World} (h : ∀ {x : S25} {A : Option Addr} {c : Nat} {w : World},ND w x A c → Calls Tryz.prog g #[val x A c] w (AllP (p x) w)) : Asks g #[] p xs w :=
 fun x _ W A c _ hn => by rw [Array.append_empty];exact h hn
set_option maxHeartbeats 2000000 in
set_option maxRecDepth 100000 in
theorem bare.all {x : S25} {A : Option Addr} {c : Nat} {w : World} (hn : ND w x A c) : Calls Tryz.prog 77 #[val x A c] w (AllP (bareB x) w):=by
 have HB:=Aside0.mk (below_alloc (Below.refl w.heap.size w) (.cells #[.int .i64 x.f0,.string x.f1,.int .u32 x.f2,.bool x.f3,.slice A x.f4.length c,.int .i64 x.f5] 25 (0,0)));have HN:=Aside0.mk hn;have HE:=Aside0.mk (show Enters Tryz.prog 96 from enters_of Tryz.func96 (by kernel_rfl) rfl);clear hn;by_cases h1 : x.f0 = 42
 · have b1 : (x.f0 == 42) = true:=by simp [h1]
   have HH:=Aside0.mk (show bareB x = x.f4.all bare1 by simp [bareB,h1]);go_enter Tryz.func77,Tryz.ntmps77
   go_wp2_with (first
    | (go_at_call 33;((refine (every.calls x.f4 A c _ ((HN.out.below (below_alloc (Below.refl _ _) _)).C) 96 #[] bare1 HE.out (asks_all bare1.all)).mono ?_);rintro e w1 ⟨rfl,hB⟩);have HB1:=Aside0.mk (below_then (below_alloc (Below.refl w.heap.size w) _) (below_alloc (Below.refl w.heap.size w) _).size hB);clear hB)
    | fail)
   go_ret
   exact ⟨by rw [HH.out];first|rfl|simp,HB1.out⟩
 · have b1 : (x.f0 == 42) = false:=by simp [h1]
   have HH:=Aside0.mk (show bareB x = false by simp [bareB,h1]);go_enter Tryz.func77,Tryz.ntmps77
   go_wp2
   go_ret
   exact ⟨by rw [HH.out];first|rfl|simp,below_alloc (Below.refl _ _) _⟩
end Go.Proofs.YtboojhadfhpdeaaGreatDoor.Q
namespace Go.Proofs.YtboojhadfhpdeaaGreatDoor.Q
open Go.RowKit Go.Proofs.YtboojhadfhpdeaaGreatDoorW.PrintWords Go.Proofs.YtboojhadfhpdeaaGreatDoorW.PrintLast Go.Proofs.YtboojhadfhpdeaaGreatDoorW.PrintMore
set_option linter.unusedVariables false
def Gen (z : FuncId × (S25 → Bool)) : Prop:=Enters Tryz.prog z.1 ∧ ∀ {x : S25} {A : Option Addr} {c : Nat} {w : World},ND w x A c → Calls Tryz.prog z.1 #[val x A c] w (AllP (z.2 x) w)
theorem gen_E : Gen (40,isE):=⟨enters_of Tryz.func40 (by kernel_rfl) rfl,expression.all⟩
theorem gen_S : Gen (42,isS):=⟨enters_of Tryz.func42 (by kernel_rfl) rfl,statement.all⟩
theorem gen_P : Gen (69,isP):=⟨enters_of Tryz.func69 (by kernel_rfl) rfl,place.all⟩
theorem gen_N : Gen (75,isN):=⟨enters_of Tryz.func75 (by kernel_rfl) rfl,perhaps.all⟩
theorem gen_T : Gen (71,fun x => decide (x.f0 = 16) || isE x):=⟨enters_of Tryz.func71 (by kernel_rfl) rfl,expressions1.all⟩
theorem shape.of (gp : List (FuncId × (S25 → Bool))) (hg : ∀ z ∈ gp,Gen z) (xs : List S25) (A : Option Addr) (c : Nat) (w : World) (hC : Kd.C k25 w A xs.length xs) (q cap : Nat) (h4 : gp.length ≤ 8)
 (hq : w.heap[q]? = some (.cells (gp.map fun z => Value.func (.func z.1) #[] #[]).toArray 29 (0,0))) :
 Calls Tryz.prog 67 #[.slice A xs.length c,.slice (some ⟨q,0,none⟩) gp.length cap] w (AllP (shapeB (gp.map (·.2)) xs) w):=by
 have e:=shape.calls xs A c w hC q cap (gp.map fun z => Value.func (.func z.1) #[] #[]) (gp.map (·.2)) (by simp) (by simpa using h4) hq (fun i f hf hi => by
  rw [List.getElem?_map] at hf;cases hz : gp[i]? with
  | none => rw [hz] at hf;cases hf
  | some z =>
   rw [hz] at hf;obtain rfl:=Option.some.inj hf;obtain ⟨h1,h2⟩:=hg z (List.mem_of_getElem? hz);refine ⟨z.1,#[],rfl,h1,fun W A c _ hn => ?_⟩;rw [Array.append_empty];have e : pnth (gp.map (·.2)) i = z.2:=by
    unfold pnth;rw [List.getD_eq_getElem?_getD,List.getElem?_map,hz];rfl
   rw [e];exact h2 hn)
 rwa [List.length_map] at e
end Go.Proofs.YtboojhadfhpdeaaGreatDoor.Q
namespace Go.Proofs.YtboojhadfhpdeaaGreatDoor.Q
open Go.RowKit Go.Proofs.YtboojhadfhpdeaaGreatDoorW.PrintWords Go.Proofs.YtboojhadfhpdeaaGreatDoorW.PrintLast Go.Proofs.YtboojhadfhpdeaaGreatDoorW.PrintMore
set_option linter.unusedVariables false
set_option linter.unusedSimpArgs false
open Go.Proofs.YtboojhadfhpdeaaGreatDoor.Lex
def oneB (l s : ByteArray) : Bool:=oneL ([32] ++ l.data.toList ++ [32]) s.data.toList
section
variable {s : ByteArray} {w : World}
theorem name.all (hs : Sml s) (hG : PremW w) : Calls Tryz.prog 66 #[.string s] w (AllP (nmB s) w):=by
 obtain ⟨k,hk⟩:=(nm_ast s hs).rounds;exact ast_name.calls k s _ w hG hk
theorem one.all (l : ByteArray) (hl : l.size ≤ 1000) (hs : Sml s) (hG : PremW w) : Calls Tryz.prog 68 #[.string l,.string s] w (AllP (oneB l s) w):=ast_one.calls l s _ w hG (one_ast l s hl hs)
theorem typed.all (hs : Sml s) (hG : PremW w) : Calls Tryz.prog 72 #[.string s] w (AllP (tyB s) w):=by
 obtain ⟨k,hk⟩:=(ty_ast s hs).rounds;exact ast_typed.calls k s _ w hG hk
end
theorem shape.at (n : Nat) (gp : List (FuncId × (S25 → Bool))) (e : gp.length = n) (hg : ∀ z ∈ gp,Gen z) (xs : List S25) (A : Option Addr) (c : Nat) (w : World) (hC : Kd.C k25 w A xs.length xs) (q cap : Nat) (h4 : n ≤ 8)
 (hq : w.heap[q]? = some (.cells (gp.map fun z => Value.func (.func z.1) #[] #[]).toArray 29 (0,0))) :
 Calls Tryz.prog 67 #[.slice A xs.length c,.slice (some ⟨q,0,none⟩) n cap] w (AllP (shapeB (gp.map (·.2)) xs) w):=by
 subst e;exact shape.of gp hg xs A c w hC q cap h4 hq
structure Env (w : World) (x : S25) (A : Option Addr) (c : Nat) (W : World) : Prop where
 b : Below w.heap.size w W
 n : NB W w.heap.size x A c
 k : ND w x A c
 g : PremW w
theorem Env.start {w : World} {x : S25} {A : Option Addr} {c : Nat} (hG : PremW w) (hn : ND w x A c) : Aside0 (Env w x A c (w.alloc (.cells #[.int .i64 x.f0,.string x.f1,.int .u32 x.f2,.bool x.f3,.slice A x.f4.length c,.int .i64 x.f5] 25 (0,0)))) :=
 ⟨below_alloc (Below.refl _ _) _,blk_new w _,hn,hG⟩
section
variable {w W : World} {x : S25} {A : Option Addr} {c : Nat}
theorem NB.alloc {w : World} {g : Nat} (h : NB w g x A c) (o : Obj) : NB (w.alloc o) g x A c:=h.below (below_alloc (Below.refl _ _) o)
theorem Env.alloc (E : Env w x A c W) (o : Obj) : Env w x A c (W.alloc o):=⟨below_alloc E.b o,E.n.alloc o,E.k,E.g⟩
theorem Env.step {W1 : World} (E : Env w x A c W) (hB : Below W.heap.size W W1) : Env w x A c W1:=⟨below_step E.b hB,E.n.below hB,E.k,E.g⟩
theorem Env.nd (E : Env w x A c W) : ND W x A c:=E.k.below E.b
theorem Env.kids (E : Env w x A c W) : Kd.C k25 W A x.f4.length x.f4:=E.nd.C
theorem Env.prem (E : Env w x A c W) : PremW W:=E.g.below E.b
theorem Env.cells (E : Env w x A c W) : W.cell? ⟨w.heap.size,0,none⟩ = some (.int .i64 x.f0) ∧ W.cell? ⟨w.heap.size,1,none⟩ = some (.string x.f1) ∧ W.cell? ⟨w.heap.size,2,none⟩ = some (.int .u32 x.f2) ∧ W.cell? ⟨w.heap.size,3,none⟩ = some (.bool x.f3) ∧ W.cell? ⟨w.heap.size,4,none⟩ = some (.slice A x.f4.length c) ∧ W.cell? ⟨w.heap.size,5,none⟩ = some (.int .i64 x.f5):=E.n.cells
theorem Env.call {W0 : World} {v b : Bool} {f : FuncId} {args : Array Value} {Q : Ending → World → Prop} (E0 : Aside0 (Env w x A c W0)) (E : Env w x A c W) (hb : b = v) (h : Calls Tryz.prog f args W (AllP b W))
 (K : ∀ w1,Aside0 (Env w x A c w1) → w1.cell? ⟨w.heap.size,0,none⟩ = some (.int .i64 x.f0) → w1.cell? ⟨w.heap.size,1,none⟩ = some (.string x.f1) → w1.cell? ⟨w.heap.size,2,none⟩ = some (.int .u32 x.f2) → w1.cell? ⟨w.heap.size,3,none⟩ = some (.bool x.f3) → w1.cell? ⟨w.heap.size,4,none⟩ = some (.slice A x.f4.length c) → w1.cell? ⟨w.heap.size,5,none⟩ = some (.int .i64 x.f5) → Q (.returned (.bool v)) w1) : Calls Tryz.prog f args W Q:=by
 subst hb;refine h.mono ?_;rintro e w1 ⟨rfl,hB⟩;have E1:=E.step hB;obtain ⟨c0,c1,c2,c3,c4,c5⟩:=E1.cells;exact K w1 ⟨E1⟩ c0 c1 c2 c3 c4 c5
theorem fin_ {W1 : World} (h : Below w.heap.size w W1:=by first|exact E.out.b|exact (E.out.alloc _).b|exact below_alloc (Below.refl _ _) _) : Below w.heap.size w W1:=h
end
abbrev gE : List (FuncId × (S25 → Bool)):=[(40,isE)]
theorem ok_gE : ∀ z ∈ gE,Gen z:=by
 intro z hz;simp only [gE,List.mem_cons,List.not_mem_nil,or_false] at hz;rcases hz with rfl
 · exact gen_E
abbrev gEE : List (FuncId × (S25 → Bool)):=[(40,isE),(40,isE)]
theorem ok_gEE : ∀ z ∈ gEE,Gen z:=by
 intro z hz;simp only [gEE,List.mem_cons,List.not_mem_nil,or_false] at hz;rcases hz with rfl|rfl
 · exact gen_E
 · exact gen_E
abbrev gEEE : List (FuncId × (S25 → Bool)):=[(40,isE),(40,isE),(40,isE)]
theorem ok_gEEE : ∀ z ∈ gEEE,Gen z:=by
 intro z hz;simp only [gEEE,List.mem_cons,List.not_mem_nil,or_false] at hz;rcases hz with rfl|rfl|rfl
 · exact gen_E
 · exact gen_E
 · exact gen_E
abbrev gPE : List (FuncId × (S25 → Bool)):=[(69,isP),(40,isE)]
theorem ok_gPE : ∀ z ∈ gPE,Gen z:=by
 intro z hz;simp only [gPE,List.mem_cons,List.not_mem_nil,or_false] at hz;rcases hz with rfl|rfl
 · exact gen_P
 · exact gen_E
abbrev gT : List (FuncId × (S25 → Bool)):=[(71,(fun x => decide (x.f0 = 16) || isE x))]
theorem ok_gT : ∀ z ∈ gT,Gen z:=by
 intro z hz;simp only [gT,List.mem_cons,List.not_mem_nil,or_false] at hz;rcases hz with rfl
 · exact gen_T
abbrev gES : List (FuncId × (S25 → Bool)):=[(40,isE),(42,isS)]
theorem ok_gES : ∀ z ∈ gES,Gen z:=by
 intro z hz;simp only [gES,List.mem_cons,List.not_mem_nil,or_false] at hz;rcases hz with rfl|rfl
 · exact gen_E
 · exact gen_S
abbrev gSE : List (FuncId × (S25 → Bool)):=[(42,isS),(40,isE)]
theorem ok_gSE : ∀ z ∈ gSE,Gen z:=by
 intro z hz;simp only [gSE,List.mem_cons,List.not_mem_nil,or_false] at hz;rcases hz with rfl|rfl
 · exact gen_S
 · exact gen_E
abbrev gESS : List (FuncId × (S25 → Bool)):=[(40,isE),(42,isS),(42,isS)]
theorem ok_gESS : ∀ z ∈ gESS,Gen z:=by
 intro z hz;simp only [gESS,List.mem_cons,List.not_mem_nil,or_false] at hz;rcases hz with rfl|rfl|rfl
 · exact gen_E
 · exact gen_S
 · exact gen_S
abbrev gNNNS : List (FuncId × (S25 → Bool)):=[(75,isN),(75,isN),(75,isN),(42,isS)]
theorem ok_gNNNS : ∀ z ∈ gNNNS,Gen z:=by
 intro z hz;simp only [gNNNS,List.mem_cons,List.not_mem_nil,or_false] at hz;rcases hz with rfl|rfl|rfl|rfl
 · exact gen_N
 · exact gen_N
 · exact gen_N
 · exact gen_S
end Go.Proofs.YtboojhadfhpdeaaGreatDoor.Q
namespace Go.Proofs.YtboojhadfhpdeaaGreatDoor.Q
open Go.RowKit Go.Proofs.YtboojhadfhpdeaaGreatDoorW.PrintWords Go.Proofs.YtboojhadfhpdeaaGreatDoorW.PrintLast Go.Proofs.YtboojhadfhpdeaaGreatDoorW.PrintMore
set_option linter.unusedVariables false
set_option linter.unusedSimpArgs false
def e1 (x : S25) : Bool:=((x.f1.toList == ([] : List UInt8)) && ((decide (x.f2 < 2147483648)) || (x.f3)) && ((x.f4.length : Int) == 0))
set_option maxHeartbeats 8000000 in
set_option maxRecDepth 100000 in
theorem expressions.k1 {x : S25} {A : Option Addr} {c : Nat} {w : World} (hk : x.f0 = 1) (hG : PremW w) (hn : ND w x A c) : Calls Tryz.prog 41 #[val x A c] w (AllP (e1 x) w):=by
 have E:=Env.start hG hn;clear hn hG;have b1 : (x.f0 == 1) = true:=by rw [hk];rfl
 have HK:=Aside0.mk hk;clear hk;cases h0 : (x.f1.toList == ([] : List UInt8));rotate_left 1;cases h1 : (decide (x.f2 < 2147483648));rotate_right 1
 rotate_left 1;cases h3 : (x.f3);rotate_right 1
 rotate_left 2;cases h2 : ((x.f4.length : Int) == 0);rotate_right 2
 rotate_left 4;cases h2 : ((x.f4.length : Int) == 0);rotate_right 4
 all_goals
  try have h0m0 : (x.f1.toList != ([] : List UInt8)) = false:=by rw [bne,h0];rfl
  try have h0m0 : (x.f1.toList != ([] : List UInt8)) = true:=by rw [bne,h0];rfl
  go_enter Tryz.func41,Tryz.ntmps41
  go_wp2
  go_ret
  exact ⟨by unfold e1;(try rw [h0]);(try rw [h1]);(try rw [h2]);(try rw [h3]);first|done|rfl,fin_⟩
def e2 (x : S25) : Bool:=((x.f1.toList == ([] : List UInt8)) && (decide (x.f2 < 256)) && ((x.f4.length : Int) == 0))
set_option maxHeartbeats 8000000 in
set_option maxRecDepth 100000 in
theorem expressions.k2 {x : S25} {A : Option Addr} {c : Nat} {w : World} (hk : x.f0 = 2) (hG : PremW w) (hn : ND w x A c) : Calls Tryz.prog 41 #[val x A c] w (AllP (e2 x) w):=by
 have E:=Env.start hG hn;clear hn hG;have b1 : (x.f0 == 1) = false:=by rw [hk];rfl
 have b2 : (x.f0 == 2) = true:=by rw [hk];rfl
 have HK:=Aside0.mk hk;clear hk;cases h0 : (x.f1.toList == ([] : List UInt8));rotate_left 1;cases h1 : (decide (x.f2 < 256));rotate_right 1
 rotate_left 2;cases h2 : ((x.f4.length : Int) == 0);rotate_right 2
 all_goals
  try have h0m0 : (x.f1.toList != ([] : List UInt8)) = false:=by rw [bne,h0];rfl
  try have h0m0 : (x.f1.toList != ([] : List UInt8)) = true:=by rw [bne,h0];rfl
  go_enter Tryz.func41,Tryz.ntmps41
  go_wp2
  go_ret
  exact ⟨by unfold e2;(try rw [h0]);(try rw [h1]);(try rw [h2]);first|done|rfl,fin_⟩
def e3 (x : S25) : Bool:=((x.f2 == 0) && ((x.f4.length : Int) == 0))
set_option maxHeartbeats 8000000 in
set_option maxRecDepth 100000 in
theorem expressions.k3 {x : S25} {A : Option Addr} {c : Nat} {w : World} (hk : x.f0 = 3) (hG : PremW w) (hn : ND w x A c) : Calls Tryz.prog 41 #[val x A c] w (AllP (e3 x) w):=by
 have E:=Env.start hG hn;clear hn hG;have b1 : (x.f0 == 1) = false:=by rw [hk];rfl
 have b2 : (x.f0 == 2) = false:=by rw [hk];rfl
 have b3 : (x.f0 == 3) = true:=by rw [hk];rfl
 have HK:=Aside0.mk hk;clear hk;cases h0 : (x.f1.toList == ([] : List UInt8));cases h1 : (x.f2 == 0);rotate_left 1;cases h2 : ((x.f4.length : Int) == 0);rotate_right 1
 rotate_left 3;cases h1 : (x.f2 == 0);rotate_right 3
 rotate_left 4;cases h2 : ((x.f4.length : Int) == 0);rotate_right 4
 all_goals
  try have h0m0 : (x.f1.toList != ([] : List UInt8)) = false:=by rw [bne,h0];rfl
  try have h0m0 : (x.f1.toList != ([] : List UInt8)) = true:=by rw [bne,h0];rfl
  try have h1m0 : (x.f2 != 0) = false:=by rw [bne,h1];rfl
  try have h1m0 : (x.f2 != 0) = true:=by rw [bne,h1];rfl
  go_enter Tryz.func41,Tryz.ntmps41
  go_wp2
  go_ret
  exact ⟨by unfold e3;(try rw [h1]);(try rw [h2]);first|done|rfl,fin_⟩
end Go.Proofs.YtboojhadfhpdeaaGreatDoor.Q
namespace Go.Proofs.YtboojhadfhpdeaaGreatDoor.Q
open Go.RowKit Go.Proofs.YtboojhadfhpdeaaGreatDoorW.PrintWords Go.Proofs.YtboojhadfhpdeaaGreatDoorW.PrintLast Go.Proofs.YtboojhadfhpdeaaGreatDoorW.PrintMore
set_option linter.unusedVariables false
set_option linter.unusedSimpArgs false
def e4 (x : S25) : Bool:=((x.f2 == 0) && (nmB x.f1) && ((x.f4.length : Int) == 0))
set_option maxHeartbeats 8000000 in
set_option maxRecDepth 100000 in
theorem expressions.k4 {x : S25} {A : Option Addr} {c : Nat} {w : World} (hk : x.f0 = 4) (hs : Sml x.f1) (hG : PremW w) (hn : ND w x A c) : Calls Tryz.prog 41 #[val x A c] w (AllP (e4 x) w):=by
 have E:=Env.start hG hn;clear hn hG;have b1 : (x.f0 == 1) = false:=by rw [hk];rfl
 have b2 : (x.f0 == 2) = false:=by rw [hk];rfl
 have b3 : (x.f0 == 3) = false:=by rw [hk];rfl
 have b4 : (x.f0 == 4) = true:=by rw [hk];rfl
 have HK:=Aside0.mk hk;clear hk;have HS:=Aside0.mk hs;clear hs;cases h0 : (x.f1.toList == ([] : List UInt8));cases h1 : (x.f2 == 0);rotate_left 1;cases h2 : (nmB x.f1);rotate_right 1
 rotate_left 2;cases h3 : ((x.f4.length : Int) == 0);rotate_right 2
 rotate_left 4;cases h1 : (x.f2 == 0);rotate_right 4
 rotate_left 5;cases h2 : (nmB x.f1);rotate_right 5
 rotate_left 6;cases h3 : ((x.f4.length : Int) == 0);rotate_right 6
 all_goals
  try have h0m0 : (x.f1.toList != ([] : List UInt8)) = false:=by rw [bne,h0];rfl
  try have h0m0 : (x.f1.toList != ([] : List UInt8)) = true:=by rw [bne,h0];rfl
  try have h1m0 : (x.f2 != 0) = false:=by rw [bne,h1];rfl
  try have h1m0 : (x.f2 != 0) = true:=by rw [bne,h1];rfl
  try (have HC2:=Aside0.mk h2;clear h2)
  go_enter Tryz.func41,Tryz.ntmps41
  go_wp2_with (first
   | (go_at_call 66;(try clear c0 c1 c2 c3 c4 c5);(with_reducible refine Env.call E E.out HC2.out (name.all HS.out E.out.prem) (fun w1 E c0 c1 c2 c3 c4 c5 => ?_)))
   | fail)
  go_ret
  exact ⟨by unfold e4;(try rw [h1]);(try rw [HC2.out]);(try rw [h3]);first|done|rfl,fin_⟩
def e5 (x : S25) : Bool:=((x.f1.toList == ([] : List UInt8)) && (x.f2 == 0) && (shapeB (gEE.map (·.2)) x.f4))
set_option maxHeartbeats 8000000 in
set_option maxRecDepth 100000 in
theorem expressions.k5 {x : S25} {A : Option Addr} {c : Nat} {w : World} (hk : x.f0 = 5) (hG : PremW w) (hn : ND w x A c) : Calls Tryz.prog 41 #[val x A c] w (AllP (e5 x) w):=by
 have E:=Env.start hG hn;clear hn hG;have b1 : (x.f0 == 1) = false:=by rw [hk];rfl
 have b2 : (x.f0 == 2) = false:=by rw [hk];rfl
 have b3 : (x.f0 == 3) = false:=by rw [hk];rfl
 have b4 : (x.f0 == 4) = false:=by rw [hk];rfl
 have b5 : (x.f0 == 5) = true:=by rw [hk];rfl
 have HK:=Aside0.mk hk;clear hk;cases h0 : (x.f1.toList == ([] : List UInt8));rotate_left 1;cases h1 : (x.f2 == 0);rotate_right 1
 rotate_left 2;cases h2 : (shapeB (gEE.map (·.2)) x.f4);rotate_right 2
 all_goals
  try have h0m0 : (x.f1.toList != ([] : List UInt8)) = false:=by rw [bne,h0];rfl
  try have h0m0 : (x.f1.toList != ([] : List UInt8)) = true:=by rw [bne,h0];rfl
  try have h1m0 : (x.f2 != 0) = false:=by rw [bne,h1];rfl
  try have h1m0 : (x.f2 != 0) = true:=by rw [bne,h1];rfl
  try (have HC2:=Aside0.mk h2;clear h2)
  have tk2 : True:=trivial;go_enter Tryz.func41,Tryz.ntmps41
  go_wp2_with (first
   | (go_at_call 67;have t_:=tk2;clear t_ tk2;(try clear c0 c1 c2 c3 c4 c5);(refine Env.call E (E.out.alloc _) HC2.out (shape.at 2 gEE rfl ok_gEE x.f4 A c _ (E.out.alloc _).kids _ _ (by decide) (by first|exact blk_new _ _|exact blk_new1 _ _ _)) (fun w1 E c0 c1 c2 c3 c4 c5 => ?_)))
   | fail)
  go_ret
  exact ⟨by unfold e5;(try rw [h0]);(try rw [h1]);(try rw [HC2.out]);first|done|rfl,fin_⟩
end Go.Proofs.YtboojhadfhpdeaaGreatDoor.Q
namespace Go.Proofs.YtboojhadfhpdeaaGreatDoor.Q
open Go.RowKit Go.Proofs.YtboojhadfhpdeaaGreatDoorW.PrintWords Go.Proofs.YtboojhadfhpdeaaGreatDoorW.PrintLast Go.Proofs.YtboojhadfhpdeaaGreatDoorW.PrintMore
set_option linter.unusedVariables false
set_option linter.unusedSimpArgs false
def e6 (x : S25) : Bool:=((x.f2 == 0) && (nmB x.f1) && (shapeB (gE.map (·.2)) x.f4))
set_option maxHeartbeats 8000000 in
set_option maxRecDepth 100000 in
theorem expressions.k6 {x : S25} {A : Option Addr} {c : Nat} {w : World} (hk : x.f0 = 6) (hs : Sml x.f1) (hG : PremW w) (hn : ND w x A c) : Calls Tryz.prog 41 #[val x A c] w (AllP (e6 x) w):=by
 have E:=Env.start hG hn;clear hn hG;have b1 : (x.f0 == 1) = false:=by rw [hk];rfl
 have b2 : (x.f0 == 2) = false:=by rw [hk];rfl
 have b3 : (x.f0 == 3) = false:=by rw [hk];rfl
 have b4 : (x.f0 == 4) = false:=by rw [hk];rfl
 have b5 : (x.f0 == 5) = false:=by rw [hk];rfl
 have b6 : (x.f0 == 6) = true:=by rw [hk];rfl
 have HK:=Aside0.mk hk;clear hk;have HS:=Aside0.mk hs;clear hs;cases h0 : (x.f1.toList == ([] : List UInt8));cases h1 : (x.f2 == 0);rotate_left 1;cases h2 : (nmB x.f1);rotate_right 1
 rotate_left 2;cases h3 : (shapeB (gE.map (·.2)) x.f4);rotate_right 2
 rotate_left 4;cases h1 : (x.f2 == 0);rotate_right 4
 rotate_left 5;cases h2 : (nmB x.f1);rotate_right 5
 rotate_left 6;cases h3 : (shapeB (gE.map (·.2)) x.f4);rotate_right 6
 all_goals
  try have h0m0 : (x.f1.toList != ([] : List UInt8)) = false:=by rw [bne,h0];rfl
  try have h0m0 : (x.f1.toList != ([] : List UInt8)) = true:=by rw [bne,h0];rfl
  try have h1m0 : (x.f2 != 0) = false:=by rw [bne,h1];rfl
  try have h1m0 : (x.f2 != 0) = true:=by rw [bne,h1];rfl
  try (have HC2:=Aside0.mk h2;clear h2)
  try (have HC3:=Aside0.mk h3;clear h3)
  have tk3 : True:=trivial;go_enter Tryz.func41,Tryz.ntmps41
  go_wp2_with (first
   | (go_at_call 66;(try clear c0 c1 c2 c3 c4 c5);(with_reducible refine Env.call E E.out HC2.out (name.all HS.out E.out.prem) (fun w1 E c0 c1 c2 c3 c4 c5 => ?_)))
   | (go_at_call 67;have t_:=tk3;clear t_ tk3;(try clear c0 c1 c2 c3 c4 c5);(refine Env.call E (E.out.alloc _) HC3.out (shape.at 1 gE rfl ok_gE x.f4 A c _ (E.out.alloc _).kids _ _ (by decide) (by first|exact blk_new _ _|exact blk_new1 _ _ _)) (fun w1 E c0 c1 c2 c3 c4 c5 => ?_)))
   | fail)
  go_ret
  exact ⟨by unfold e6;(try rw [h1]);(try rw [HC2.out]);(try rw [HC3.out]);first|done|rfl,fin_⟩
set_option maxHeartbeats 8000000 in
set_option maxRecDepth 100000 in
theorem expressions.k7 {x : S25} {A : Option Addr} {c : Nat} {w : World} (hk : x.f0 = 7) (hs : Sml x.f1) (hG : PremW w) (hn : ND w x A c) : Calls Tryz.prog 41 #[val x A c] w (AllP (e6 x) w):=by
 have E:=Env.start hG hn;clear hn hG;have b1 : (x.f0 == 1) = false:=by rw [hk];rfl
 have b2 : (x.f0 == 2) = false:=by rw [hk];rfl
 have b3 : (x.f0 == 3) = false:=by rw [hk];rfl
 have b4 : (x.f0 == 4) = false:=by rw [hk];rfl
 have b5 : (x.f0 == 5) = false:=by rw [hk];rfl
 have b6 : (x.f0 == 6) = false:=by rw [hk];rfl
 have b7 : (x.f0 == 7) = true:=by rw [hk];rfl
 have HK:=Aside0.mk hk;clear hk;have HS:=Aside0.mk hs;clear hs;cases h0 : (x.f1.toList == ([] : List UInt8));cases h1 : (x.f2 == 0);rotate_left 1;cases h2 : (nmB x.f1);rotate_right 1
 rotate_left 2;cases h3 : (shapeB (gE.map (·.2)) x.f4);rotate_right 2
 rotate_left 4;cases h1 : (x.f2 == 0);rotate_right 4
 rotate_left 5;cases h2 : (nmB x.f1);rotate_right 5
 rotate_left 6;cases h3 : (shapeB (gE.map (·.2)) x.f4);rotate_right 6
 all_goals
  try have h0m0 : (x.f1.toList != ([] : List UInt8)) = false:=by rw [bne,h0];rfl
  try have h0m0 : (x.f1.toList != ([] : List UInt8)) = true:=by rw [bne,h0];rfl
  try have h1m0 : (x.f2 != 0) = false:=by rw [bne,h1];rfl
  try have h1m0 : (x.f2 != 0) = true:=by rw [bne,h1];rfl
  try (have HC2:=Aside0.mk h2;clear h2)
  try (have HC3:=Aside0.mk h3;clear h3)
  have tk3 : True:=trivial;go_enter Tryz.func41,Tryz.ntmps41
  go_wp2_with (first
   | (go_at_call 66;(try clear c0 c1 c2 c3 c4 c5);(with_reducible refine Env.call E E.out HC2.out (name.all HS.out E.out.prem) (fun w1 E c0 c1 c2 c3 c4 c5 => ?_)))
   | (go_at_call 67;have t_:=tk3;clear t_ tk3;(try clear c0 c1 c2 c3 c4 c5);(refine Env.call E (E.out.alloc _) HC3.out (shape.at 1 gE rfl ok_gE x.f4 A c _ (E.out.alloc _).kids _ _ (by decide) (by first|exact blk_new _ _|exact blk_new1 _ _ _)) (fun w1 E c0 c1 c2 c3 c4 c5 => ?_)))
   | fail)
  go_ret
  exact ⟨by unfold e6;(try rw [h1]);(try rw [HC2.out]);(try rw [HC3.out]);first|done|rfl,fin_⟩
end Go.Proofs.YtboojhadfhpdeaaGreatDoor.Q
namespace Go.Proofs.YtboojhadfhpdeaaGreatDoor.Q
open Go.RowKit Go.Proofs.YtboojhadfhpdeaaGreatDoorW.PrintWords Go.Proofs.YtboojhadfhpdeaaGreatDoorW.PrintLast Go.Proofs.YtboojhadfhpdeaaGreatDoorW.PrintMore
set_option linter.unusedVariables false
set_option linter.unusedSimpArgs false
def e8 (x : S25) : Bool:=((x.f2 == 0) && ((nmB x.f1) || (x.f1.toList == ([103,101,116,98,121,116,101] : List UInt8)) || (x.f1.toList == ([112,117,116,98,121,116,101] : List UInt8))) && (x.f4.all isE))
set_option maxHeartbeats 8000000 in
set_option maxRecDepth 100000 in
theorem expressions.k8 {x : S25} {A : Option Addr} {c : Nat} {w : World} (hk : x.f0 = 8) (hs : Sml x.f1) (hG : PremW w) (hn : ND w x A c) : Calls Tryz.prog 41 #[val x A c] w (AllP (e8 x) w):=by
 have E:=Env.start hG hn;clear hn hG;have b1 : (x.f0 == 1) = false:=by rw [hk];rfl
 have b2 : (x.f0 == 2) = false:=by rw [hk];rfl
 have b3 : (x.f0 == 3) = false:=by rw [hk];rfl
 have b4 : (x.f0 == 4) = false:=by rw [hk];rfl
 have b5 : (x.f0 == 5) = false:=by rw [hk];rfl
 have b6 : (x.f0 == 6) = false:=by rw [hk];rfl
 have b7 : (x.f0 == 7) = false:=by rw [hk];rfl
 have b8 : (x.f0 == 8) = true:=by rw [hk];rfl
 have HK:=Aside0.mk hk;clear hk;have HS:=Aside0.mk hs;clear hs;cases h0 : (x.f1.toList == ([] : List UInt8));cases h1 : (x.f2 == 0);rotate_left 1;cases h2 : (nmB x.f1);rotate_right 1
 rotate_left 1;cases h4 : (x.f1.toList == ([103,101,116,98,121,116,101] : List UInt8));rotate_right 1
 rotate_left 1;cases h5 : (x.f1.toList == ([112,117,116,98,121,116,101] : List UInt8));rotate_right 1
 rotate_left 2;cases h3 : (x.f4.all isE);rotate_right 2
 rotate_left 4;cases h3 : (x.f4.all isE);rotate_right 4
 rotate_left 6;cases h3 : (x.f4.all isE);rotate_right 6
 rotate_left 8;cases h1 : (x.f2 == 0);rotate_right 8
 rotate_left 9;cases h2 : (nmB x.f1);rotate_right 9
 rotate_left 9;cases h4 : (x.f1.toList == ([103,101,116,98,121,116,101] : List UInt8));rotate_right 9
 rotate_left 9;cases h5 : (x.f1.toList == ([112,117,116,98,121,116,101] : List UInt8));rotate_right 9
 rotate_left 10;cases h3 : (x.f4.all isE);rotate_right 10
 rotate_left 12;cases h3 : (x.f4.all isE);rotate_right 12
 rotate_left 14;cases h3 : (x.f4.all isE);rotate_right 14
 all_goals
  try have h0m0 : (x.f1.toList != ([] : List UInt8)) = false:=by rw [bne,h0];rfl
  try have h0m0 : (x.f1.toList != ([] : List UInt8)) = true:=by rw [bne,h0];rfl
  try have h1m0 : (x.f2 != 0) = false:=by rw [bne,h1];rfl
  try have h1m0 : (x.f2 != 0) = true:=by rw [bne,h1];rfl
  try (have HC2:=Aside0.mk h2;clear h2)
  try (have HC3:=Aside0.mk h3;clear h3)
  go_enter Tryz.func41,Tryz.ntmps41
  go_wp2_with (first
   | (go_at_call 66;(try clear c0 c1 c2 c3 c4 c5);(with_reducible refine Env.call E E.out HC2.out (name.all HS.out E.out.prem) (fun w1 E c0 c1 c2 c3 c4 c5 => ?_)))
   | (go_at_call 33;(try clear c0 c1 c2 c3 c4 c5);(with_reducible refine Env.call E E.out HC3.out (every.calls x.f4 A c _ E.out.kids 40 #[] isE (enters_of Tryz.func40 (by kernel_rfl) rfl) (asks_all expression.all)) (fun w1 E c0 c1 c2 c3 c4 c5 => ?_)))
   | fail)
  go_ret
  exact ⟨by unfold e8;(try rw [h1]);(try rw [HC2.out]);(try rw [HC3.out]);(try rw [h4]);(try rw [h5]);first|done|rfl,fin_⟩
end Go.Proofs.YtboojhadfhpdeaaGreatDoor.Q
namespace Go.Proofs.YtboojhadfhpdeaaGreatDoor.Q
open Go.RowKit Go.Proofs.YtboojhadfhpdeaaGreatDoorW.PrintWords Go.Proofs.YtboojhadfhpdeaaGreatDoorW.PrintLast Go.Proofs.YtboojhadfhpdeaaGreatDoorW.PrintMore
set_option linter.unusedVariables false
set_option linter.unusedSimpArgs false
def e9 (x : S25) : Bool:=((x.f2 == 0) && (oneB ⟨#[45,32,126,32,33,32,38]⟩ x.f1) && (shapeB (gE.map (·.2)) x.f4))
set_option maxHeartbeats 8000000 in
set_option maxRecDepth 100000 in
theorem expressions.k9 {x : S25} {A : Option Addr} {c : Nat} {w : World} (hk : x.f0 = 9) (hs : Sml x.f1) (hG : PremW w) (hn : ND w x A c) : Calls Tryz.prog 41 #[val x A c] w (AllP (e9 x) w):=by
 have E:=Env.start hG hn;clear hn hG;have b1 : (x.f0 == 1) = false:=by rw [hk];rfl
 have b2 : (x.f0 == 2) = false:=by rw [hk];rfl
 have b3 : (x.f0 == 3) = false:=by rw [hk];rfl
 have b4 : (x.f0 == 4) = false:=by rw [hk];rfl
 have b5 : (x.f0 == 5) = false:=by rw [hk];rfl
 have b6 : (x.f0 == 6) = false:=by rw [hk];rfl
 have b7 : (x.f0 == 7) = false:=by rw [hk];rfl
 have b8 : (x.f0 == 8) = false:=by rw [hk];rfl
 have b9 : (x.f0 == 9) = true:=by rw [hk];rfl
 have HK:=Aside0.mk hk;clear hk;have HS:=Aside0.mk hs;clear hs;cases h0 : (x.f1.toList == ([] : List UInt8));cases h1 : (x.f2 == 0);rotate_left 1;cases h2 : (oneB ⟨#[45,32,126,32,33,32,38]⟩ x.f1);rotate_right 1
 rotate_left 2;cases h3 : (shapeB (gE.map (·.2)) x.f4);rotate_right 2
 rotate_left 4;cases h1 : (x.f2 == 0);rotate_right 4
 rotate_left 5;cases h2 : (oneB ⟨#[45,32,126,32,33,32,38]⟩ x.f1);rotate_right 5
 rotate_left 6;cases h3 : (shapeB (gE.map (·.2)) x.f4);rotate_right 6
 all_goals
  try have h0m0 : (x.f1.toList != ([] : List UInt8)) = false:=by rw [bne,h0];rfl
  try have h0m0 : (x.f1.toList != ([] : List UInt8)) = true:=by rw [bne,h0];rfl
  try have h1m0 : (x.f2 != 0) = false:=by rw [bne,h1];rfl
  try have h1m0 : (x.f2 != 0) = true:=by rw [bne,h1];rfl
  try (have HC2:=Aside0.mk h2;clear h2)
  try (have HC3:=Aside0.mk h3;clear h3)
  have tk3 : True:=trivial;go_enter Tryz.func41,Tryz.ntmps41
  go_wp2_with (first
   | (go_at_call 68;(try clear c0 c1 c2 c3 c4 c5);(with_reducible refine Env.call E E.out HC2.out (one.all (⟨#[45,32,126,32,33,32,38]⟩ : ByteArray) (by decide) HS.out E.out.prem) (fun w1 E c0 c1 c2 c3 c4 c5 => ?_)))
   | (go_at_call 67;have t_:=tk3;clear t_ tk3;(try clear c0 c1 c2 c3 c4 c5);(refine Env.call E (E.out.alloc _) HC3.out (shape.at 1 gE rfl ok_gE x.f4 A c _ (E.out.alloc _).kids _ _ (by decide) (by first|exact blk_new _ _|exact blk_new1 _ _ _)) (fun w1 E c0 c1 c2 c3 c4 c5 => ?_)))
   | fail)
  go_ret
  exact ⟨by unfold e9;(try rw [h1]);(try rw [HC2.out]);(try rw [HC3.out]);first|done|rfl,fin_⟩
def e10 (x : S25) : Bool:=((x.f2 == 0) && (oneB ⟨#[42,32,47,32,37,32,43,32,45,32,60,60,32,62,62,32,60,32,62,32,60,61,32,62,61,32,61,61,32,33,61,32,38,32,94,32,124]⟩ x.f1) && (shapeB (gEE.map (·.2)) x.f4))
set_option maxHeartbeats 8000000 in
set_option maxRecDepth 100000 in
theorem expressions.k10 {x : S25} {A : Option Addr} {c : Nat} {w : World} (hk : x.f0 = 10) (hs : Sml x.f1) (hG : PremW w) (hn : ND w x A c) : Calls Tryz.prog 41 #[val x A c] w (AllP (e10 x) w):=by
 have E:=Env.start hG hn;clear hn hG;have b1 : (x.f0 == 1) = false:=by rw [hk];rfl
 have b2 : (x.f0 == 2) = false:=by rw [hk];rfl
 have b3 : (x.f0 == 3) = false:=by rw [hk];rfl
 have b4 : (x.f0 == 4) = false:=by rw [hk];rfl
 have b5 : (x.f0 == 5) = false:=by rw [hk];rfl
 have b6 : (x.f0 == 6) = false:=by rw [hk];rfl
 have b7 : (x.f0 == 7) = false:=by rw [hk];rfl
 have b8 : (x.f0 == 8) = false:=by rw [hk];rfl
 have b9 : (x.f0 == 9) = false:=by rw [hk];rfl
 have b10 : (x.f0 == 10) = true:=by rw [hk];rfl
 have HK:=Aside0.mk hk;clear hk;have HS:=Aside0.mk hs;clear hs;cases h0 : (x.f1.toList == ([] : List UInt8));cases h1 : (x.f2 == 0);rotate_left 1;cases h2 : (oneB ⟨#[42,32,47,32,37,32,43,32,45,32,60,60,32,62,62,32,60,32,62,32,60,61,32,62,61,32,61,61,32,33,61,32,38,32,94,32,124]⟩ x.f1);rotate_right 1
 rotate_left 2;cases h3 : (shapeB (gEE.map (·.2)) x.f4);rotate_right 2
 rotate_left 4;cases h1 : (x.f2 == 0);rotate_right 4
 rotate_left 5;cases h2 : (oneB ⟨#[42,32,47,32,37,32,43,32,45,32,60,60,32,62,62,32,60,32,62,32,60,61,32,62,61,32,61,61,32,33,61,32,38,32,94,32,124]⟩ x.f1);rotate_right 5
 rotate_left 6;cases h3 : (shapeB (gEE.map (·.2)) x.f4);rotate_right 6
 all_goals
  try have h0m0 : (x.f1.toList != ([] : List UInt8)) = false:=by rw [bne,h0];rfl
  try have h0m0 : (x.f1.toList != ([] : List UInt8)) = true:=by rw [bne,h0];rfl
  try have h1m0 : (x.f2 != 0) = false:=by rw [bne,h1];rfl
  try have h1m0 : (x.f2 != 0) = true:=by rw [bne,h1];rfl
  try (have HC2:=Aside0.mk h2;clear h2)
  try (have HC3:=Aside0.mk h3;clear h3)
  have tk3 : True:=trivial;go_enter Tryz.func41,Tryz.ntmps41
  go_wp2_with (first
   | (go_at_call 68;(try clear c0 c1 c2 c3 c4 c5);(with_reducible refine Env.call E E.out HC2.out (one.all (⟨#[42,32,47,32,37,32,43,32,45,32,60,60,32,62,62,32,60,32,62,32,60,61,32,62,61,32,61,61,32,33,61,32,38,32,94,32,124]⟩ : ByteArray) (by decide) HS.out E.out.prem) (fun w1 E c0 c1 c2 c3 c4 c5 => ?_)))
   | (go_at_call 67;have t_:=tk3;clear t_ tk3;(try clear c0 c1 c2 c3 c4 c5);(refine Env.call E (E.out.alloc _) HC3.out (shape.at 2 gEE rfl ok_gEE x.f4 A c _ (E.out.alloc _).kids _ _ (by decide) (by first|exact blk_new _ _|exact blk_new1 _ _ _)) (fun w1 E c0 c1 c2 c3 c4 c5 => ?_)))
   | fail)
  go_ret
  exact ⟨by unfold e10;(try rw [h1]);(try rw [HC2.out]);(try rw [HC3.out]);first|done|rfl,fin_⟩
end Go.Proofs.YtboojhadfhpdeaaGreatDoor.Q
namespace Go.Proofs.YtboojhadfhpdeaaGreatDoor.Q
open Go.RowKit Go.Proofs.YtboojhadfhpdeaaGreatDoorW.PrintWords Go.Proofs.YtboojhadfhpdeaaGreatDoorW.PrintLast Go.Proofs.YtboojhadfhpdeaaGreatDoorW.PrintMore
set_option linter.unusedVariables false
set_option linter.unusedSimpArgs false
def e11 (x : S25) : Bool:=((x.f2 == 0) && (oneB ⟨#[38,38,32,124,124]⟩ x.f1) && (shapeB (gEE.map (·.2)) x.f4))
set_option maxHeartbeats 8000000 in
set_option maxRecDepth 100000 in
theorem expressions.k11 {x : S25} {A : Option Addr} {c : Nat} {w : World} (hk : x.f0 = 11) (hs : Sml x.f1) (hG : PremW w) (hn : ND w x A c) : Calls Tryz.prog 41 #[val x A c] w (AllP (e11 x) w):=by
 have E:=Env.start hG hn;clear hn hG;have b1 : (x.f0 == 1) = false:=by rw [hk];rfl
 have b2 : (x.f0 == 2) = false:=by rw [hk];rfl
 have b3 : (x.f0 == 3) = false:=by rw [hk];rfl
 have b4 : (x.f0 == 4) = false:=by rw [hk];rfl
 have b5 : (x.f0 == 5) = false:=by rw [hk];rfl
 have b6 : (x.f0 == 6) = false:=by rw [hk];rfl
 have b7 : (x.f0 == 7) = false:=by rw [hk];rfl
 have b8 : (x.f0 == 8) = false:=by rw [hk];rfl
 have b9 : (x.f0 == 9) = false:=by rw [hk];rfl
 have b10 : (x.f0 == 10) = false:=by rw [hk];rfl
 have b11 : (x.f0 == 11) = true:=by rw [hk];rfl
 have HK:=Aside0.mk hk;clear hk;have HS:=Aside0.mk hs;clear hs;cases h0 : (x.f1.toList == ([] : List UInt8));cases h1 : (x.f2 == 0);rotate_left 1;cases h2 : (oneB ⟨#[38,38,32,124,124]⟩ x.f1);rotate_right 1
 rotate_left 2;cases h3 : (shapeB (gEE.map (·.2)) x.f4);rotate_right 2
 rotate_left 4;cases h1 : (x.f2 == 0);rotate_right 4
 rotate_left 5;cases h2 : (oneB ⟨#[38,38,32,124,124]⟩ x.f1);rotate_right 5
 rotate_left 6;cases h3 : (shapeB (gEE.map (·.2)) x.f4);rotate_right 6
 all_goals
  try have h0m0 : (x.f1.toList != ([] : List UInt8)) = false:=by rw [bne,h0];rfl
  try have h0m0 : (x.f1.toList != ([] : List UInt8)) = true:=by rw [bne,h0];rfl
  try have h1m0 : (x.f2 != 0) = false:=by rw [bne,h1];rfl
  try have h1m0 : (x.f2 != 0) = true:=by rw [bne,h1];rfl
  try (have HC2:=Aside0.mk h2;clear h2)
  try (have HC3:=Aside0.mk h3;clear h3)
  have tk3 : True:=trivial;go_enter Tryz.func41,Tryz.ntmps41
  go_wp2_with (first
   | (go_at_call 68;(try clear c0 c1 c2 c3 c4 c5);(with_reducible refine Env.call E E.out HC2.out (one.all (⟨#[38,38,32,124,124]⟩ : ByteArray) (by decide) HS.out E.out.prem) (fun w1 E c0 c1 c2 c3 c4 c5 => ?_)))
   | (go_at_call 67;have t_:=tk3;clear t_ tk3;(try clear c0 c1 c2 c3 c4 c5);(refine Env.call E (E.out.alloc _) HC3.out (shape.at 2 gEE rfl ok_gEE x.f4 A c _ (E.out.alloc _).kids _ _ (by decide) (by first|exact blk_new _ _|exact blk_new1 _ _ _)) (fun w1 E c0 c1 c2 c3 c4 c5 => ?_)))
   | fail)
  go_ret
  exact ⟨by unfold e11;(try rw [h1]);(try rw [HC2.out]);(try rw [HC3.out]);first|done|rfl,fin_⟩
def e12 (x : S25) : Bool:=((x.f1.toList == ([] : List UInt8)) && (x.f2 == 0) && (shapeB (gEEE.map (·.2)) x.f4))
set_option maxHeartbeats 8000000 in
set_option maxRecDepth 100000 in
theorem expressions.k12 {x : S25} {A : Option Addr} {c : Nat} {w : World} (hk : x.f0 = 12) (hG : PremW w) (hn : ND w x A c) : Calls Tryz.prog 41 #[val x A c] w (AllP (e12 x) w):=by
 have E:=Env.start hG hn;clear hn hG;have b1 : (x.f0 == 1) = false:=by rw [hk];rfl
 have b2 : (x.f0 == 2) = false:=by rw [hk];rfl
 have b3 : (x.f0 == 3) = false:=by rw [hk];rfl
 have b4 : (x.f0 == 4) = false:=by rw [hk];rfl
 have b5 : (x.f0 == 5) = false:=by rw [hk];rfl
 have b6 : (x.f0 == 6) = false:=by rw [hk];rfl
 have b7 : (x.f0 == 7) = false:=by rw [hk];rfl
 have b8 : (x.f0 == 8) = false:=by rw [hk];rfl
 have b9 : (x.f0 == 9) = false:=by rw [hk];rfl
 have b10 : (x.f0 == 10) = false:=by rw [hk];rfl
 have b11 : (x.f0 == 11) = false:=by rw [hk];rfl
 have b12 : (x.f0 == 12) = true:=by rw [hk];rfl
 have HK:=Aside0.mk hk;clear hk;cases h0 : (x.f1.toList == ([] : List UInt8));rotate_left 1;cases h1 : (x.f2 == 0);rotate_right 1
 rotate_left 2;cases h2 : (shapeB (gEEE.map (·.2)) x.f4);rotate_right 2
 all_goals
  try have h0m0 : (x.f1.toList != ([] : List UInt8)) = false:=by rw [bne,h0];rfl
  try have h0m0 : (x.f1.toList != ([] : List UInt8)) = true:=by rw [bne,h0];rfl
  try have h1m0 : (x.f2 != 0) = false:=by rw [bne,h1];rfl
  try have h1m0 : (x.f2 != 0) = true:=by rw [bne,h1];rfl
  try (have HC2:=Aside0.mk h2;clear h2)
  have tk2 : True:=trivial;go_enter Tryz.func41,Tryz.ntmps41
  go_wp2_with (first
   | (go_at_call 67;have t_:=tk2;clear t_ tk2;(try clear c0 c1 c2 c3 c4 c5);(refine Env.call E (E.out.alloc _) HC2.out (shape.at 3 gEEE rfl ok_gEEE x.f4 A c _ (E.out.alloc _).kids _ _ (by decide) (by first|exact blk_new _ _|exact blk_new1 _ _ _)) (fun w1 E c0 c1 c2 c3 c4 c5 => ?_)))
   | fail)
  go_ret
  exact ⟨by unfold e12;(try rw [h0]);(try rw [h1]);(try rw [HC2.out]);first|done|rfl,fin_⟩
end Go.Proofs.YtboojhadfhpdeaaGreatDoor.Q
namespace Go.Proofs.YtboojhadfhpdeaaGreatDoor.Q
open Go.RowKit Go.Proofs.YtboojhadfhpdeaaGreatDoorW.PrintWords Go.Proofs.YtboojhadfhpdeaaGreatDoorW.PrintLast Go.Proofs.YtboojhadfhpdeaaGreatDoorW.PrintMore
set_option linter.unusedVariables false
set_option linter.unusedSimpArgs false
def e13 (x : S25) : Bool:=((x.f2 == 0) && (oneB ⟨#[61,32,43,61,32,45,61,32,42,61,32,47,61,32,37,61,32,38,61,32,124,61,32,94,61,32,60,60,61,32,62,62,61]⟩ x.f1) && (shapeB (gPE.map (·.2)) x.f4))
set_option maxHeartbeats 8000000 in
set_option maxRecDepth 100000 in
theorem expressions.k13 {x : S25} {A : Option Addr} {c : Nat} {w : World} (hk : x.f0 = 13) (hs : Sml x.f1) (hG : PremW w) (hn : ND w x A c) : Calls Tryz.prog 41 #[val x A c] w (AllP (e13 x) w):=by
 have E:=Env.start hG hn;clear hn hG;have b1 : (x.f0 == 1) = false:=by rw [hk];rfl
 have b2 : (x.f0 == 2) = false:=by rw [hk];rfl
 have b3 : (x.f0 == 3) = false:=by rw [hk];rfl
 have b4 : (x.f0 == 4) = false:=by rw [hk];rfl
 have b5 : (x.f0 == 5) = false:=by rw [hk];rfl
 have b6 : (x.f0 == 6) = false:=by rw [hk];rfl
 have b7 : (x.f0 == 7) = false:=by rw [hk];rfl
 have b8 : (x.f0 == 8) = false:=by rw [hk];rfl
 have b9 : (x.f0 == 9) = false:=by rw [hk];rfl
 have b10 : (x.f0 == 10) = false:=by rw [hk];rfl
 have b11 : (x.f0 == 11) = false:=by rw [hk];rfl
 have b12 : (x.f0 == 12) = false:=by rw [hk];rfl
 have b13 : (x.f0 == 13) = true:=by rw [hk];rfl
 have HK:=Aside0.mk hk;clear hk;have HS:=Aside0.mk hs;clear hs;cases h0 : (x.f1.toList == ([] : List UInt8));cases h1 : (x.f2 == 0);rotate_left 1;cases h2 : (oneB ⟨#[61,32,43,61,32,45,61,32,42,61,32,47,61,32,37,61,32,38,61,32,124,61,32,94,61,32,60,60,61,32,62,62,61]⟩ x.f1);rotate_right 1
 rotate_left 2;cases h3 : (shapeB (gPE.map (·.2)) x.f4);rotate_right 2
 rotate_left 4;cases h1 : (x.f2 == 0);rotate_right 4
 rotate_left 5;cases h2 : (oneB ⟨#[61,32,43,61,32,45,61,32,42,61,32,47,61,32,37,61,32,38,61,32,124,61,32,94,61,32,60,60,61,32,62,62,61]⟩ x.f1);rotate_right 5
 rotate_left 6;cases h3 : (shapeB (gPE.map (·.2)) x.f4);rotate_right 6
 all_goals
  try have h0m0 : (x.f1.toList != ([] : List UInt8)) = false:=by rw [bne,h0];rfl
  try have h0m0 : (x.f1.toList != ([] : List UInt8)) = true:=by rw [bne,h0];rfl
  try have h1m0 : (x.f2 != 0) = false:=by rw [bne,h1];rfl
  try have h1m0 : (x.f2 != 0) = true:=by rw [bne,h1];rfl
  try (have HC2:=Aside0.mk h2;clear h2)
  try (have HC3:=Aside0.mk h3;clear h3)
  have tk3 : True:=trivial;go_enter Tryz.func41,Tryz.ntmps41
  go_wp2_with (first
   | (go_at_call 68;(try clear c0 c1 c2 c3 c4 c5);(with_reducible refine Env.call E E.out HC2.out (one.all (⟨#[61,32,43,61,32,45,61,32,42,61,32,47,61,32,37,61,32,38,61,32,124,61,32,94,61,32,60,60,61,32,62,62,61]⟩ : ByteArray) (by decide) HS.out E.out.prem) (fun w1 E c0 c1 c2 c3 c4 c5 => ?_)))
   | (go_at_call 67;have t_:=tk3;clear t_ tk3;(try clear c0 c1 c2 c3 c4 c5);(refine Env.call E (E.out.alloc _) HC3.out (shape.at 2 gPE rfl ok_gPE x.f4 A c _ (E.out.alloc _).kids _ _ (by decide) (by first|exact blk_new _ _|exact blk_new1 _ _ _)) (fun w1 E c0 c1 c2 c3 c4 c5 => ?_)))
   | fail)
  go_ret
  exact ⟨by unfold e13;(try rw [h1]);(try rw [HC2.out]);(try rw [HC3.out]);first|done|rfl,fin_⟩
def e15 (x : S25) : Bool:=((x.f1.toList == ([] : List UInt8)) && (x.f2 == 0) && (shapeB (gT.map (·.2)) x.f4))
set_option maxHeartbeats 8000000 in
set_option maxRecDepth 100000 in
theorem expressions.k15 {x : S25} {A : Option Addr} {c : Nat} {w : World} (hk : x.f0 = 15) (hG : PremW w) (hn : ND w x A c) : Calls Tryz.prog 41 #[val x A c] w (AllP (e15 x) w):=by
 have E:=Env.start hG hn;clear hn hG;have b1 : (x.f0 == 1) = false:=by rw [hk];rfl
 have b2 : (x.f0 == 2) = false:=by rw [hk];rfl
 have b3 : (x.f0 == 3) = false:=by rw [hk];rfl
 have b4 : (x.f0 == 4) = false:=by rw [hk];rfl
 have b5 : (x.f0 == 5) = false:=by rw [hk];rfl
 have b6 : (x.f0 == 6) = false:=by rw [hk];rfl
 have b7 : (x.f0 == 7) = false:=by rw [hk];rfl
 have b8 : (x.f0 == 8) = false:=by rw [hk];rfl
 have b9 : (x.f0 == 9) = false:=by rw [hk];rfl
 have b10 : (x.f0 == 10) = false:=by rw [hk];rfl
 have b11 : (x.f0 == 11) = false:=by rw [hk];rfl
 have b12 : (x.f0 == 12) = false:=by rw [hk];rfl
 have b13 : (x.f0 == 13) = false:=by rw [hk];rfl
 have b14 : (x.f0 == 14) = false:=by rw [hk];rfl
 have b15 : (x.f0 == 15) = true:=by rw [hk];rfl
 have HK:=Aside0.mk hk;clear hk;cases h0 : (x.f1.toList == ([] : List UInt8));rotate_left 1;cases h1 : (x.f2 == 0);rotate_right 1
 rotate_left 2;cases h2 : (shapeB (gT.map (·.2)) x.f4);rotate_right 2
 all_goals
  try have h0m0 : (x.f1.toList != ([] : List UInt8)) = false:=by rw [bne,h0];rfl
  try have h0m0 : (x.f1.toList != ([] : List UInt8)) = true:=by rw [bne,h0];rfl
  try have h1m0 : (x.f2 != 0) = false:=by rw [bne,h1];rfl
  try have h1m0 : (x.f2 != 0) = true:=by rw [bne,h1];rfl
  try (have HC2:=Aside0.mk h2;clear h2)
  have tk2 : True:=trivial;go_enter Tryz.func41,Tryz.ntmps41
  go_wp2_with (first
   | (go_at_call 67;have t_:=tk2;clear t_ tk2;(try clear c0 c1 c2 c3 c4 c5);(refine Env.call E (E.out.alloc _) HC2.out (shape.at 1 gT rfl ok_gT x.f4 A c _ (E.out.alloc _).kids _ _ (by decide) (by first|exact blk_new _ _|exact blk_new1 _ _ _)) (fun w1 E c0 c1 c2 c3 c4 c5 => ?_)))
   | fail)
  go_ret
  exact ⟨by unfold e15;(try rw [h0]);(try rw [h1]);(try rw [HC2.out]);first|done|rfl,fin_⟩
end Go.Proofs.YtboojhadfhpdeaaGreatDoor.Q
namespace Go.Proofs.YtboojhadfhpdeaaGreatDoor.Q
open Go.RowKit Go.Proofs.YtboojhadfhpdeaaGreatDoorW.PrintWords Go.Proofs.YtboojhadfhpdeaaGreatDoorW.PrintLast Go.Proofs.YtboojhadfhpdeaaGreatDoorW.PrintMore
set_option linter.unusedVariables false
set_option linter.unusedSimpArgs false
def e16 (x : S25) : Bool:=((x.f2 == 0) && (tyB x.f1) && ((x.f4.length : Int) == 0))
set_option maxHeartbeats 8000000 in
set_option maxRecDepth 100000 in
theorem expressions.k16 {x : S25} {A : Option Addr} {c : Nat} {w : World} (hk : x.f0 = 16) (hs : Sml x.f1) (hG : PremW w) (hn : ND w x A c) : Calls Tryz.prog 41 #[val x A c] w (AllP (e16 x) w):=by
 have E:=Env.start hG hn;clear hn hG;have b1 : (x.f0 == 1) = false:=by rw [hk];rfl
 have b2 : (x.f0 == 2) = false:=by rw [hk];rfl
 have b3 : (x.f0 == 3) = false:=by rw [hk];rfl
 have b4 : (x.f0 == 4) = false:=by rw [hk];rfl
 have b5 : (x.f0 == 5) = false:=by rw [hk];rfl
 have b6 : (x.f0 == 6) = false:=by rw [hk];rfl
 have b7 : (x.f0 == 7) = false:=by rw [hk];rfl
 have b8 : (x.f0 == 8) = false:=by rw [hk];rfl
 have b9 : (x.f0 == 9) = false:=by rw [hk];rfl
 have b10 : (x.f0 == 10) = false:=by rw [hk];rfl
 have b11 : (x.f0 == 11) = false:=by rw [hk];rfl
 have b12 : (x.f0 == 12) = false:=by rw [hk];rfl
 have b13 : (x.f0 == 13) = false:=by rw [hk];rfl
 have b14 : (x.f0 == 14) = false:=by rw [hk];rfl
 have b15 : (x.f0 == 15) = false:=by rw [hk];rfl
 have b16 : (x.f0 == 16) = true:=by rw [hk];rfl
 have HK:=Aside0.mk hk;clear hk;have HS:=Aside0.mk hs;clear hs;cases h0 : (x.f1.toList == ([] : List UInt8));cases h1 : (x.f2 == 0);rotate_left 1;cases h2 : (tyB x.f1);rotate_right 1
 rotate_left 2;cases h3 : ((x.f4.length : Int) == 0);rotate_right 2
 rotate_left 4;cases h1 : (x.f2 == 0);rotate_right 4
 rotate_left 5;cases h2 : (tyB x.f1);rotate_right 5
 rotate_left 6;cases h3 : ((x.f4.length : Int) == 0);rotate_right 6
 all_goals
  try have h0m0 : (x.f1.toList != ([] : List UInt8)) = false:=by rw [bne,h0];rfl
  try have h0m0 : (x.f1.toList != ([] : List UInt8)) = true:=by rw [bne,h0];rfl
  try have h1m0 : (x.f2 != 0) = false:=by rw [bne,h1];rfl
  try have h1m0 : (x.f2 != 0) = true:=by rw [bne,h1];rfl
  try (have HC2:=Aside0.mk h2;clear h2)
  go_enter Tryz.func41,Tryz.ntmps41
  go_wp2_with (first
   | (go_at_call 72;(try clear c0 c1 c2 c3 c4 c5);(with_reducible refine Env.call E E.out HC2.out (typed.all HS.out E.out.prem) (fun w1 E c0 c1 c2 c3 c4 c5 => ?_)))
   | fail)
  go_ret
  exact ⟨by unfold e16;(try rw [h1]);(try rw [HC2.out]);(try rw [h3]);first|done|rfl,fin_⟩
end Go.Proofs.YtboojhadfhpdeaaGreatDoor.Q
