/- Maps of whole numbers, told as functions: what a block holds at each key. -/
import Derived.Test.YtdodmjnicnpefaaProg
import Derived.Maps.OwnSet
import Derived.Maps.RangeWalk
namespace Go.Proofs.Ytdodmjnicnpefaa.Q
open Go.Maps Go.WideShapes
set_option linter.unusedVariables false
/-- A number of the machine's. -/
def In64 (x : Int) : Prop := (Lit.int .i64 x).wf = true
abbrev kl (x : Int) : Lit := .int .i64 x
abbrev dl (x : Int) : DataW Unit := .lit (.int .i64 x)
theorem keyed : Keyed Try.prog 3 := int_keyed Try.underlying3
theorem key_mk {x : Int} (h : In64 x) : keyOf Try.prog 3 (.int .i64 x) = some (kl x) := keyOf_int_mk Try.underlying3 h
theorem kl_key (x : Int) : WideAt.IsKeyLit (kl x) := trivial
theorem kl_ne {x y : Int} (h : x ≠ y) : kl x ≠ kl y := fun e => h (by injection e)
/-- Block b of w is a map of c entries: f tells them. -/
def IM (w : World) (b c : Nat) (f : Int → Option Int) : Prop :=
  ∃ D : DataW Unit, w.ownsMap Try.prog 3 (plainElem Try.prog 3) b c D ∧ size D = c ∧ ∀ x, has D (kl x) = (f x).isSome ∧ D.atKey (kl x) (dl 0) = dl ((f x).getD 0)
def mup (f : Int → Option Int) (k v : Int) : Int → Option Int := fun x => if x = k then some v else f x
def mdel (f : Int → Option Int) (k : Int) : Int → Option Int := fun x => if x = k then none else f x
theorem own_size {w : World} {b n : Nat} {D : DataW Unit} (h : w.ownsMap Try.prog 3 (plainElem Try.prog 3) b n D) : w.ownsMap Try.prog 3 (plainElem Try.prog 3) b (size D) D := by
  obtain ⟨es, clock, hb, F, hs, rfl⟩ := h
  refine ⟨es, clock, hb, F, ?_, rfl⟩
  simp [size, length_sorted]
theorem IM.made (w : World) : IM (w.alloc (.map #[] 0)) w.heap.size 0 (fun _ => none) :=
  ⟨.map [], World.ownsMap_made w Try.prog 3 (plainElem Try.prog 3), rfl, fun x => ⟨rfl, rfl⟩⟩
theorem IM.kept {w w' : World} {b n : Nat} {f : Int → Option Int} {row : Option Nat} (h : IM w b n f) (hg : w.grownBy w' row) (hne : some b ≠ row) : IM w' b n f := by
  obtain ⟨D, h1, h2⟩ := h
  exact ⟨D, h1.kept hg hne, h2⟩
theorem IM.alloc {w : World} {b n : Nat} {f : Int → Option Int} (h : IM w b n f) (o : Obj) : IM (w.alloc o) b n f := h.kept (World.grownBy_alloc w o none) (by simp)
theorem IM.drew {w : World} {b n : Nat} {f : Int → Option Int} (h : IM w b n f) : IM w.drew b n f := h
theorem IM.lt {w : World} {b n : Nat} {f : Int → Option Int} (h : IM w b n f) : b < w.heap.size := by
  obtain ⟨D, h1, _⟩ := h
  exact h1.lt
theorem IM.upd {w : World} {b n : Nat} {f : Int → Option Int} (h : IM w b n f) (hn : n < maxLen) {k v : Int} (hk : In64 k) (hv : In64 v) :
    ∃ w', (Instr.mapUpdate 28 (.map (some b)) (.int .i64 k) (.int .i64 v)).run Try.prog w = .ok () w' ∧ IM w' b (if (f k).isSome then n else n + 1) (mup f k v) ∧ w.grownBy w' (some b) := by
  obtain ⟨D, h1, h0, h2⟩ := h
  have hm : IsMap D := h1.isMap
  have ht : Tidy D := h1.tidy keyed
  obtain ⟨w', r1, r2, r3⟩ := h1.update keyed Try.underlying28 hn (key_mk hk) (plainElem_int Try.underlying3 hv)
  have hsz : size (D.put (kl k) (.lit (.int .i64 v))) = if (f k).isSome then n else n + 1 := by
    rw [size_put ht, (h2 k).1, h0]
  refine ⟨w', r1, ⟨_, by rw [← hsz]; exact own_size r2, hsz, fun x => ?_⟩, r3⟩
  unfold mup
  by_cases e : x = k
  · subst e
    rw [if_pos rfl]
    exact ⟨has_put_same hm (kl_key x) _, atKey_put_same hm (kl_key x) _ _⟩
  · rw [if_neg e]
    exact ⟨(has_put_other (kl_ne e) _).trans (h2 x).1, (atKey_put_other (kl_ne e) _ _).trans (h2 x).2⟩
theorem IM.look {w : World} {b n : Nat} {f : Int → Option Int} (h : IM w b n f) (hz : (zeroValue 3).run Try.prog w = .ok (.int .i64 0) w) {k : Int} (hk : In64 k) :
    (Instr.lookup 28 (.map (some b)) (.int .i64 k) false).run Try.prog w = .ok (.int .i64 ((f k).getD 0)) w ∧ In64 ((f k).getD 0) := by
  obtain ⟨D, h1, _, h2⟩ := h
  obtain ⟨c, r1, r2, r3⟩ := h1.lookup_int keyed Try.underlying28 Try.underlying3 hz (key_mk hk)
  have e : (f k).getD 0 = c := by
    have := (h2 k).2.symm.trans r2
    injection this with this
    injection this
  rw [e]
  exact ⟨r1, r3⟩
theorem IM.look_ok {w : World} {b n : Nat} {f : Int → Option Int} (h : IM w b n f) (hz : (zeroValue 3).run Try.prog w = .ok (.int .i64 0) w) {k : Int} (hk : In64 k) :
    (Instr.lookup 28 (.map (some b)) (.int .i64 k) true).run Try.prog w = .ok (.tuple #[.int .i64 ((f k).getD 0), .bool (f k).isSome]) w ∧ In64 ((f k).getD 0) := by
  obtain ⟨D, h1, _, h2⟩ := h
  have hw0 : (Lit.int .i64 0).wf = true := by decide
  obtain ⟨v, ps, r1, r2⟩ := h1.look_ok keyed Try.underlying28 hz (plainElem_int (H := Unit) Try.underlying3 hw0) (key_mk hk)
  rw [show D.atKey (kl k) (.lit (.int .i64 0)) = dl ((f k).getD 0) from (h2 k).2] at r2
  obtain ⟨a, rfl, ha, hwa⟩ := plainElem_int_inv Try.underlying3 r2
  have e : (f k).getD 0 = a := by
    simp only [Prod.mk.injEq] at ha
    have := ha.1
    injection this with this
    injection this
  rw [(h2 k).1] at r1
  rw [e]
  exact ⟨r1, hwa⟩
theorem IM.len {w : World} {b n : Nat} {f : Int → Option Int} (h : IM w b n f) (ty : TypeId) : (Builtin.len_ #[28] ty #[.map (some b)]).run Try.prog w = .ok (.int .i64 n) w := by
  obtain ⟨D, h1, h0, _⟩ := h
  rw [← h0]
  exact h1.len Try.underlying28 ty
theorem IM.drop {w : World} {b n : Nat} {f : Int → Option Int} (h : IM w b n f) {k : Int} (hk : In64 k) (ty : TypeId) :
    ∃ w', (Builtin.delete_ #[28, 3] ty #[.map (some b), .int .i64 k]).run Try.prog w = .ok (.tuple #[]) w' ∧ IM w' b (if (f k).isSome then n - 1 else n) (mdel f k) ∧ w.grownBy w' (some b) := by
  obtain ⟨D, h1, h0, h2⟩ := h
  have ht : Tidy D := h1.tidy keyed
  obtain ⟨w', r1, r2, r3⟩ := h1.drop keyed Try.underlying28 (key_mk hk) ty
  have hsz : size (D.del (kl k)) = if (f k).isSome then n - 1 else n := by
    have := size_del (k := kl k) ht
    rw [(h2 k).1, h0] at this
    split <;> rename_i c
    · rw [if_pos c] at this; omega
    · rw [if_neg c] at this; omega
  refine ⟨w', r1, ⟨_, by rw [← hsz]; exact own_size r2, hsz, fun x => ?_⟩, r3.grown⟩
  unfold mdel
  by_cases e : x = k
  · subst e
    rw [if_pos rfl]
    exact ⟨has_del_same, atKey_del_same _⟩
  · rw [if_neg e]
    exact ⟨(has_del_other (kl_ne e)).trans (h2 x).1, (atKey_del_other (kl_ne e) _).trans (h2 x).2⟩
/-- A loop over the map of block b under way, by the iterator of block r: who is left. -/
def IMR (w : World) (b r c : Nat) (f : Int → Option Int) (left : Int → Bool) (cnt : Nat) : Prop :=
  ∃ (D : DataW Unit) (lf : Lit → Bool), w.ranges Try.prog 3 (plainElem Try.prog 3) b r c D lf cnt ∧ size D = c ∧ (∀ x, has D (kl x) = (f x).isSome ∧ D.atKey (kl x) (dl 0) = dl ((f x).getD 0)) ∧ ∀ x, lf (kl x) = left x
theorem IMR.im {w : World} {b r c : Nat} {f : Int → Option Int} {left : Int → Bool} {cnt : Nat} (h : IMR w b r c f left cnt) : IM w b c f := by
  obtain ⟨D, lf, h1, h0, h2, _⟩ := h
  exact ⟨D, h1.owns, h0, h2⟩
theorem IMR.kept {w w' : World} {b r c : Nat} {f : Int → Option Int} {left : Int → Bool} {cnt : Nat} {row : Option Nat} (h : IMR w b r c f left cnt) (hg : w.grownBy w' row) (hb : some b ≠ row) (hr : some r ≠ row) : IMR w' b r c f left cnt := by
  obtain ⟨D, lf, h1, h2⟩ := h
  exact ⟨D, lf, h1.kept hg hb hr, h2⟩
theorem IM.range {w : World} {b c : Nat} {f : Int → Option Int} (h : IM w b c f) :
    ∃ w', (Instr.range 28 (.map (some b))).run Try.prog w = .ok (.pointer (some ⟨w.heap.size, 0, none⟩)) w' ∧ IMR w' b w.heap.size c f (fun x => (f x).isSome) c ∧ w.grownBy w' none ∧ w'.heap.size = w.heap.size + 1 := by
  obtain ⟨D, h1, h0, h2⟩ := h
  obtain ⟨w', r1, r2, r3, r4⟩ := h1.range keyed Try.underlying28
  exact ⟨w', r1, ⟨D, has D, by rw [h0] at r2; exact r2, h0, h2, fun x => (h2 x).1⟩, r3, r4⟩
theorem IMR.next {w : World} {b r c : Nat} {f : Int → Option Int} {left : Int → Bool} {cnt : Nat} (h : IMR w b r c f left cnt) (ty : TypeId) :
    (cnt = 0 ∧ (∀ x, left x = false) ∧ (Instr.next (.pointer (some ⟨r, 0, none⟩)) false ty).run Try.prog w = .ok (.tuple #[.bool false]) w) ∨
    ∃ k v w' cnt', left k = true ∧ f k = some v ∧ In64 k ∧ In64 v ∧ (Instr.next (.pointer (some ⟨r, 0, none⟩)) false ty).run Try.prog w = .ok (.tuple #[.bool true, .int .i64 k, .int .i64 v]) w' ∧
      IMR w' b r c f (fun x => left x && decide (x ≠ k)) cnt' ∧ cnt' < cnt ∧ w.grownBy w' (some r) ∧ w'.heap.size = w.heap.size ∧ (Instr.entry (.pointer (some ⟨r, 0, none⟩))).run Try.prog w' = .ok (.tuple #[.int .i64 k, .int .i64 v]) w' := by
  obtain ⟨D, lf, h1, h0, h2, h3⟩ := h
  rcases h1.next keyed ty with ⟨c0, c1, c2⟩ | ⟨key, v, kk, y, w', cnt', c1, c2, c3, c4, c5, c6, c7, c8, c9, c10⟩
  · exact .inl ⟨c0, fun x => by rw [← h3 x]; exact c1 _, c2⟩
  · obtain ⟨k, rfl, rfl, hk⟩ := keyOf_int_inv Try.underlying3 c1
    obtain ⟨a, rfl, rfl, ha⟩ := plainElem_int_inv Try.underlying3 c3
    have hs : has D (kl k) = true := has_true_of_atKey c4
    have hf : f k = some a := by
      have e1 := (h2 k).2
      rw [c4 (dl 0)] at e1
      have e2 : a = (f k).getD 0 := by
        injection e1 with e1
        injection e1
      rw [(h2 k).1] at hs
      cases hq : f k with
      | none => rw [hq] at hs; cases hs
      | some z => rw [hq] at e2; rw [e2]; rfl
    refine .inr ⟨k, a, w', cnt', by rw [← h3 k]; exact c2, hf, hk, ha, c5, ⟨D, _, c6, h0, h2, fun x => ?_⟩, c7, c8, c9, c10⟩
    rw [h3 x]
    congr 1
    by_cases e : x = k
    · subst e
      have : (kl x).sameKey (kl x) = true := WideAt.sameKey_self (kl_key x)
      rw [this]; simp
    · rw [sameKey_ne (kl_ne e)]; simp [e]
end Go.Proofs.Ytdodmjnicnpefaa.Q
