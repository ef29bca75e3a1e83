/- A part of the proof, made small by a program: A1. -/
import Derived.Shelf.Abstract
import Derived.StillTactics
import Derived.StillTail
import Derived.Test.YtboojhadfhpdeaaGreatDoorVz2
import Derived.Test.YtboojhadfhpdeaaGreatDoorVz4
namespace Go.Proofs.YtboojhadfhpdeaaGreatDoor.Q
open Go.RowKit Go.Proofs.YtboojhadfhpdeaaGreatDoorW.PrintWords Go.Proofs.YtboojhadfhpdeaaGreatDoorW.PrintLast Go.Proofs.YtboojhadfhpdeaaGreatDoorW.PrintMore
set_option linter.unusedVariables false
set_option linter.unusedSimpArgs false
abbrev val (x : S25) (A : Option Addr) (c : Nat) : Value := .agg #[.int .i64 x.f0, .string x.f1, .int .u32 x.f2, .bool x.f3, .slice A x.f4.length c, .int .i64 x.f5]
structure ND (w : World) (x : S25) (A : Option Addr) (c : Nat) : Prop where
 le : x.f4.length ≤ c
 C : Kd.C k25 w A x.f4.length x.f4
theorem ND.below {w w' : World} {x : S25} {A : Option Addr} {c : Nat} (h : ND w x A c) (hb : Below w.heap.size w w') : ND w' x A c := ⟨h.le, Kd.C_below h.C hb⟩
def NB (w : World) (g : Nat) (x : S25) (A : Option Addr) (c : Nat) : Prop := w.heap[g]? = some (.cells #[.int .i64 x.f0, .string x.f1, .int .u32 x.f2, .bool x.f3, .slice A x.f4.length c, .int .i64 x.f5] 25 (0, 0))
theorem blk_below {w w' : World} {g : Nat} {o : Obj} (h : w.heap[g]? = some o) (hb : Below w.heap.size w w') : w'.heap[g]? = some o := (hb.block g (Array.getElem?_eq_some_iff.1 h).1).trans h
theorem NB.below {w w' : World} {g : Nat} {x : S25} {A : Option Addr} {c : Nat} (h : NB w g x A c) (hb : Below w.heap.size w w') : NB w' g x A c := blk_below h hb
theorem NB.cells {w : World} {g : Nat} {x : S25} {A : Option Addr} {c : Nat} (h : NB w g x A c) : w.cell? ⟨g, 0, none⟩ = some (.int .i64 x.f0) ∧ w.cell? ⟨g, 1, none⟩ = some (.string x.f1) ∧ w.cell? ⟨g, 2, none⟩ = some (.int .u32 x.f2) ∧ w.cell? ⟨g, 3, none⟩ = some (.bool x.f3) ∧ w.cell? ⟨g, 4, none⟩ = some (.slice A x.f4.length c) ∧ w.cell? ⟨g, 5, none⟩ = some (.int .i64 x.f5) :=
 ⟨(blk_cell h 0).trans rfl, (blk_cell h 1).trans rfl, (blk_cell h 2).trans rfl, (blk_cell h 3).trans rfl, (blk_cell h 4).trans rfl, (blk_cell h 5).trans rfl⟩
section
variable {ops : Array Oper} {rest : List Oper} {o : Oper} {a : Act} {Q : Exit → Act → World → Prop} {W : World}
theorem ev_node (hgd : o.guard = none) {N : Tmp} (_hd : o.dst = some N) {p : Operand} (ho : o.op = .box 25 p) {x : S25} {A : Option Addr} {c : Nat} (hx : a.eval p = val x A c)
 (K : ∀ g w', W.heap.size ≤ g → NB w' g x A c → Below W.heap.size W w' → wpList Tryz.prog ops Q rest (a.put o.dst (.pointer (some ⟨g, 0, none⟩))) w') : wpList Tryz.prog ops Q (o :: rest) a W := by
 refine box_event hgd _hd (cs := #[.int .i64 x.f0, .string x.f1, .int .u32 x.f2, .bool x.f3, .slice A x.f4.length c, .int .i64 x.f5]) (t := 25) ?_ (fun g hg w1 h1 h2 => K g w1 (by omega) h1 h2)
 simp only [execOp, ho, hx]
 go_simp
 try rfl
end
def Asks (g : FuncId) (caps : Array Value) (p : S25 → Bool) (xs : List S25) (w : World) : Prop :=
 ∀ x ∈ xs, ∀ (W : World) (A : Option Addr) (c : Nat), Below w.heap.size w W → ND W x A c → Calls Tryz.prog g (#[val x A c] ++ caps) W fun e W' => e = .returned (.bool (p x)) ∧ Below W.heap.size W W'
theorem Asks.below {g : FuncId} {caps : Array Value} {p : S25 → Bool} {xs : List S25} {w w' : World} (h : Asks g caps p xs w) (hb : Below w.heap.size w w') : Asks g caps p xs w' :=
 fun x hx W A c hW hn => h x hx W A c (below_then hb hb.size hW) hn
def nd (xs : List S25) (i : Nat) : S25 := xs.getD i z25
theorem nd_mem {xs : List S25} {i : Nat} (h : i < xs.length) : nd xs i ∈ xs := by
 have : nd xs i = xs[i] := by simp [nd, h]
 rw [this]; exact List.getElem_mem h
theorem node_at {w : World} {A : Option Addr} {n : Nat} {xs : List S25} (h : Kd.C k25 w A n xs) (i : Nat) (hi : i < n) :
 ∃ ad A' c', A = some ad ∧ ND w (nd xs i) A' c' ∧ w.cell? (ad.add (i * 6)) = some (.int .i64 (nd xs i).f0) ∧ w.cell? ⟨(ad.add (i * 6)).block, (ad.add (i * 6)).off + 1, none⟩ = some (.string (nd xs i).f1) ∧ w.cell? ⟨(ad.add (i * 6)).block, (ad.add (i * 6)).off + 2, none⟩ = some (.int .u32 (nd xs i).f2) ∧ w.cell? ⟨(ad.add (i * 6)).block, (ad.add (i * 6)).off + 3, none⟩ = some (.bool (nd xs i).f3) ∧ w.cell? ⟨(ad.add (i * 6)).block, (ad.add (i * 6)).off + 4, none⟩ = some (.slice A' (nd xs i).f4.length c') ∧ w.cell? ⟨(ad.add (i * 6)).block, (ad.add (i * 6)).off + 5, none⟩ = some (.int .i64 (nd xs i).f5) := by
 obtain ⟨ad, c, e, _, hK, hc0⟩ := Kd.C_get h z25 (i : Int) (by omega) (by omega)
 simp only [Int.toNat_natCast] at hK hc0
 have hc : ∀ j u, c[j]? = some u → w.cell? (ad.add (i * 6 + j)) = some u := hc0
 obtain ⟨A4, c4, rfl, l4, g4⟩ := k25_open hK
 exact ⟨ad, A4, c4, e, ⟨l4, g4⟩, hc 0 _ rfl, by rw [← add_field _ _ 1 (by omega)]; exact hc 1 _ rfl, by rw [← add_field _ _ 2 (by omega)]; exact hc 2 _ rfl, by rw [← add_field _ _ 3 (by omega)]; exact hc 3 _ rfl, by rw [← add_field _ _ 4 (by omega)]; exact hc 4 _ rfl, by rw [← add_field _ _ 5 (by omega)]; exact hc 5 _ rfl⟩
def IndexP (p : S25 → Bool) (xs : List S25) (w : World) (e : Ending) (w' : World) : Prop := ∃ r : Int, e = .returned (.int .i64 r) ∧ (0 ≤ r ↔ xs.any p = true) ∧ Below w.heap.size w w'
set_option maxHeartbeats 8000000 in
set_option maxRecDepth 100000 in
theorem IndexFunc.calls (xs : List S25) (A : Option Addr) (c : Nat) (w : World) (hC : Kd.C k25 w A xs.length xs) (g : FuncId) (caps : Array Value) (p : S25 → Bool) (hent : Enters Tryz.prog g) (h : Asks g caps p xs w) :
 Calls Tryz.prog 80 #[.slice A xs.length c, .func (.func g) #[] caps] w (IndexP p xs w) := by
 have HC := Aside0.mk hC
 have HA := Aside0.mk h
 have HN := Aside0.mk hC.2.1
 clear hC h
 unfold Enters at hent
 go_enter Tryz.func80, Tryz.ntmps80
 go_wp2
 go_loopg [8] xs.length (fun kq v w' => ∃ i : Nat, v = .int .i64 i ∧ Aside0 (i + kq = xs.length) ∧ Aside0 ((xs.take i).any p = false) ∧ Aside0 (Below w.heap.size w w'))
 case atStart => exact ⟨0, rfl, ⟨by omega⟩, ⟨rfl⟩, ⟨Below.refl _ _⟩⟩
 case round =>
  obtain ⟨i, rfl, HI, HP, HB⟩ := hrel
  by_cases hi : i < xs.length
  · have e1n : decide (i < xs.length) = true := decide_eq_true hi
    have e1 : decide ((i : Int) < (xs.length : Int)) = true := decide_eq_true (by omega)
    have p1 : (0 : Int) ≤ (i : Int) := by omega
    have q1 : (i : Int) < (xs.length : Int) := by omega
    have HC2 := Aside0.mk (Kd.C_below HC.out HB.out)
    obtain ⟨ad, A', c', rfl, hnd, c0, c1, c2, c3, c4, c5⟩ := node_at HC2.out i hi
    have HND := Aside0.mk hnd
    have HIL := Aside0.mk hi
    clear hi hnd
    have w3 : wrap64 ((i : Int) + 1) = (i : Int) + 1 := by have := HN.out; have := HIL.out; unfold wrap64; omega
    have w4 : IntKind.i64.wrap ((i : Int) + 1) = (i : Int) + 1 := (i64_w _).trans w3
    have HASK := Aside0.mk (HA.out (nd xs i) (nd_mem HIL.out) _ A' c' HB.out HND.out)
    have HTK := Aside0.mk (show xs.take (i + 1) = xs.take i ++ [nd xs i] from by
     have hi := HIL.out
     rw [List.take_succ_eq_append_getElem hi]
     simp [nd, hi])
    go_wp2_with fail
    refine HASK.out.mono ?_
    rintro e w3 ⟨rfl, hB⟩
    have HB3 := Aside0.mk (below_then HB.out HB.out.size hB)
    clear hB c0 c1 c2 c3 c4 c5
    cases hp : p (nd xs i) with
    | true =>
     have HPT := Aside0.mk hp
     clear hp
     go_wp2
     go_ret
     refine ⟨(i : Int), rfl, ⟨fun _ => ?_, fun _ => by omega⟩, HB3.out⟩
     exact List.any_eq_true.2 ⟨_, nd_mem HIL.out, HPT.out⟩
    | false =>
     have HPT := Aside0.mk hp
     clear hp
     go_wp2
     go_roundg (xs.length - (i + 1))
     case measure => have := HI.out; have := HIL.out; omega
     case rel => exact ⟨i + 1, by (try simp only [w4, w3]); rfl, ⟨by have := HI.out; have := HIL.out; omega⟩, ⟨by rw [HTK.out, List.any_append, HP.out]; simp [HPT.out]⟩, HB3⟩
  · have e1n : decide (i < xs.length) = false := decide_eq_false hi
    have e1 : decide ((i : Int) < (xs.length : Int)) = false := decide_eq_false (by omega)
    have HPX := Aside0.mk (show xs.any p = false from by
     have h1 := HP.out
     rw [show i = xs.length from by have := HI.out; omega, List.take_length] at h1
     exact h1)
    clear hi HP HI
    go_wp2
    go_ret
    exact ⟨-1, rfl, ⟨fun h => absurd h (by decide), fun h => by rw [HPX.out] at h; cases h⟩, HB.out⟩
set_option maxHeartbeats 8000000 in
set_option maxRecDepth 100000 in
theorem ContainsFunc.calls (xs : List S25) (A : Option Addr) (c : Nat) (w : World) (hC : Kd.C k25 w A xs.length xs) (g : FuncId) (caps : Array Value) (p : S25 → Bool) (hent : Enters Tryz.prog g) (h : Asks g caps p xs w) :
 Calls Tryz.prog 45 #[.slice A xs.length c, .func (.func g) #[] caps] w fun e w' => e = .returned (.bool (xs.any p)) ∧ Below w.heap.size w w' := by
 have HC := Aside0.mk hC
 have HA := Aside0.mk h
 have HE := Aside0.mk hent
 clear hC h hent
 go_enter Tryz.func45, Tryz.ntmps45
 go_wp2_with (first
  | (go_at_call 80; ((with_reducible refine (IndexFunc.calls xs A c _ HC.out g caps p HE.out HA.out).mono ?_); rintro e w1 ⟨r, rfl, h1, h2⟩); have HB := Aside0.mk h2; have HR := Aside0.mk h1; clear h1 h2; cases hp : decide (0 ≤ r); all_goals have HP := Aside0.mk hp; all_goals (have hp2 : decide (r ≥ 0) = decide (0 ≤ r) := rfl))
  | fail)
 all_goals go_ret
 · refine ⟨?_, HB.out⟩
   have h1 : ¬ 0 ≤ r := of_decide_eq_false HP.out
   have h2 : xs.any p = false := by
    cases e : xs.any p with
    | false => rfl
    | true => exact absurd (HR.out.2 e) h1
   rw [h2]; rfl
 · refine ⟨?_, HB.out⟩
   have h1 : 0 ≤ r := of_decide_eq_true HP.out
   rw [HR.out.1 h1]; rfl
set_option maxHeartbeats 8000000 in
set_option maxRecDepth 100000 in
theorem every1.calls (x : S25) (A : Option Addr) (c : Nat) (w : World) (hn : ND w x A c) (q : Nat) (g : FuncId) (caps : Array Value) (p : S25 → Bool) (hent : Enters Tryz.prog g) (hq : w.heap[q]? = some (.cells #[.func (.func g) #[] caps] 29 (0, 0)))
 (h : ∀ (W : World) (A : Option Addr) (c : Nat), Below w.heap.size w W → ND W x A c → Calls Tryz.prog g (#[val x A c] ++ caps) W fun e W' => e = .returned (.bool (p x)) ∧ Below W.heap.size W W') :
 Calls Tryz.prog 46 #[val x A c, .pointer (some ⟨q, 0, none⟩)] w fun e w' => e = .returned (.bool (!p x)) ∧ Below w.heap.size w w' := by
 have HN := Aside0.mk hn
 have HQ := Aside0.mk hq
 have HA := Aside0.mk h
 clear hn hq h
 unfold Enters at hent
 go_enter Tryz.func46, Tryz.ntmps46
 go_wp2_with (first
  | ((with_reducible refine gate_dst (N := 2) rfl ?_); refine ev_node rfl rfl rfl rfl ?_; intro b w1 h1 h2 h3; have HB1 := Aside0.mk h3; have hcq := (blk_cell (blk_below HQ.out h3) 0).trans rfl; obtain ⟨c0, c1, c2, c3, c4, c5⟩ := h2.cells; clear h1 h2 h3)
  | fail)
 have HASK := Aside0.mk (HA.out _ A c HB1.out (HN.out.below HB1.out))
 refine HASK.out.mono ?_
 rintro e w3 ⟨rfl, hB⟩
 have HB3 := Aside0.mk (below_then HB1.out HB1.out.size hB)
 clear hB c0 c1 c2 c3 c4 c5 hcq
 obtain ⟨pb, hpb⟩ : ∃ q, q = p x := ⟨_, rfl⟩
 rw [← hpb]
 have HPB := Aside0.mk hpb
 clear hpb
 go_wp2
 go_ret
 exact ⟨by rw [← HPB.out]; rfl, HB3.out⟩
def AllP (b : Bool) (w : World) (e : Ending) (w' : World) : Prop := e = .returned (.bool b) ∧ Below w.heap.size w w'
set_option maxHeartbeats 8000000 in
set_option maxRecDepth 100000 in
theorem every.calls (xs : List S25) (A : Option Addr) (c : Nat) (w : World) (hC : Kd.C k25 w A xs.length xs) (g : FuncId) (caps : Array Value) (p : S25 → Bool) (hent : Enters Tryz.prog g) (h : Asks g caps p xs w) :
 Calls Tryz.prog 33 #[.slice A xs.length c, .func (.func g) #[] caps] w (AllP (xs.all p) w) := by
 have HC := Aside0.mk hC
 have HA := Aside0.mk h
 have HE := Aside0.mk hent
 have H46 := Aside0.mk (show Enters Tryz.prog 46 from enters_of Tryz.func46 (by kernel_rfl) rfl)
 clear hC h hent
 go_enter Tryz.func33, Tryz.ntmps33
 have HQ := Aside0.mk (blk_new w (.cells #[.func (.func g) #[] caps] 29 (0, 0)))
 have HB1 := Aside0.mk (below_alloc (Below.refl w.heap.size w) (.cells #[.func (.func g) #[] caps] 29 (0, 0)))
 have HK := Aside0.mk (show Asks 46 #[.pointer (some ⟨w.heap.size, 0, none⟩)] (fun x => !p x) xs (w.alloc (.cells #[.func (.func g) #[] caps] 29 (0, 0))) from
  fun x hx W A' c' hW hn => every1.calls x A' c' W hn w.heap.size g caps p HE.out (blk_below HQ.out hW) (fun W2 A2 c2 hW2 hn2 => HA.out x hx W2 A2 c2 (below_then HB1.out HB1.out.size (below_then hW hW.size hW2)) hn2))
 go_wp2_with (first
  | (go_at_call 45; ((with_reducible refine (ContainsFunc.calls xs A c _ (Kd.C_below HC.out HB1.out) 46 _ (fun x => !p x) H46.out HK.out).mono ?_); rintro e w2 ⟨rfl, hB⟩); have HB2 := Aside0.mk (below_then HB1.out HB1.out.size hB); clear hB; obtain ⟨pb, hpb⟩ : ∃ q, q = xs.any (fun x => !p x) := ⟨_, rfl⟩; rw [← hpb]; have HPB := Aside0.mk hpb; clear hpb)
  | fail)
 go_ret
 refine ⟨?_, HB2.out⟩
 have e1 : xs.all p = !pb := by rw [HPB.out, List.all_eq_not_any_not]
 rw [e1]; rfl
end Go.Proofs.YtboojhadfhpdeaaGreatDoor.Q
