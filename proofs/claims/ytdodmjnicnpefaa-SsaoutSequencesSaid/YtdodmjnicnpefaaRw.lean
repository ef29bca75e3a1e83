/- Rows of numbers and of pairs, and the events of the walks. -/
import Derived.Test.YtdodmjnicnpefaaMp
import Derived.Test.YtdodmjnicnpefaaProg
import Derived.Below
import Derived.Deep.Draws
import Derived.Deep.AppendLies
import Derived.Maps.AppendAt
import Derived.OwnWalk
import Derived.Laws.BytesArg
import Derived.Laws.MakeOwn
import Derived.Laws.OwnMore
import Derived.Deep.OwnRows
import Derived.Tactics
import Derived.Lib.ConvBytes
import Derived.Laws.Slices
import Derived.WalkKit
import Derived.KernelRfl
import Derived.RowKit3
import Derived.Deep.LoopGhost
import Derived.Deep.QuietTactic
import Derived.BigQuiet
import Derived.WideLaws
import Derived.Deep.DeepCutAuto
import Derived.Deep.CutBlock
import Derived.Deep.RegionHeld3
import Derived.Laws.Rows
import Derived.Lib.AppendStr
import Derived.ArgAppend
import Derived.Laws.IdiomCopy
import Derived.OrdersHeld
import Derived.Laws.BitsLemmas
import Derived.RowKit
import Derived.Test.YtdodmjnicnpefaaWWords
import Derived.Test.YtdodmjnicnpefaaWLast
import Derived.Test.YtdodmjnicnpefaaWTab
import Derived.Test.YtdodmjnicnpefaaWFour
import Derived.Test.YtdodmjnicnpefaaWQPut
import Derived.Test.YtdodmjnicnpefaaWApart
import Derived.Test.YtdodmjnicnpefaaWArr
import Derived.Test.YtdodmjnicnpefaaWZeros
import Derived.Test.YtdodmjnicnpefaaWFoot
import Derived.Test.YtdodmjnicnpefaaWKept
import Derived.Test.YtdodmjnicnpefaaWShare
import Derived.Test.YtdodmjnicnpefaaWN
import Derived.Test.YtdodmjnicnpefaaWFootNe
import Derived.Test.YtdodmjnicnpefaaWAt
import Derived.Test.YtdodmjnicnpefaaWEqStruct
import Derived.Test.YtdodmjnicnpefaaWRepsOne
import Derived.Test.YtdodmjnicnpefaaWInv
import Derived.Test.YtdodmjnicnpefaaWInvWords
import Derived.Test.YtdodmjnicnpefaaWGuard
import Derived.Test.YtdodmjnicnpefaaWNEv
import Derived.Test.YtdodmjnicnpefaaWMore
namespace Go.Proofs.Ytdodmjnicnpefaa.Q
open Go.RowKit Go.Proofs.YtdodmjnicnpefaaW.PrintWords Go.Proofs.YtdodmjnicnpefaaW.PrintLast Go.Proofs.YtdodmjnicnpefaaW.PrintMore
set_option linter.unusedVariables false
set_option linter.unusedSimpArgs false
theorem info3 : (Try.prog.info? 3).map (fun i => (i.zero, i.size, i.bytes)) = some (some (.int .i64 0), 1, 8) := by kernel_rfl
theorem info31 : (Try.prog.info? 31).map (fun i => (i.zero, i.size, i.bytes)) = some (some (.agg #[.int .i64 0, .int .i64 0]), 2, 16) := by kernel_rfl
theorem zero3 (w : World) : (zeroValue 3).run Try.prog w = .ok (.int .i64 0) w := by go_simp
abbrev kp : Kd (Int × Int) := Kd.pair (Kd.int .i64) (Kd.int .i64)
/-- A row of numbers of one's own. -/
def RI (base : Nat) (w : World) (v : Value) (xs : List Int) : Prop := (Kd.int .i64).R 3 w base (fun _ => True) v xs
/-- A row of pairs of one's own. -/
def RP (base : Nat) (w : World) (v : Value) (xs : List (Int × Int)) : Prop := kp.R 31 w base (fun _ => True) v xs
theorem in64_iff {x : Int} : In64 x ↔ -9223372036854775808 ≤ x ∧ x ≤ 9223372036854775807 := by
  simp [In64, Lit.wf, IntKind.min, IntKind.max, IntKind.signed, IntKind.bits]
theorem in64_wrap (x : Int) : In64 (IntKind.i64.wrap x) := by
  rw [in64_iff, i64_w]
  unfold wrap64
  omega
theorem in64_w64 (x : Int) : In64 (wrap64 x) := by rw [← i64_w]; exact in64_wrap x
theorem w_id {x : Int} (h : In64 x) : IntKind.i64.wrap x = x := by
  rw [in64_iff] at h
  rw [i64_w]
  unfold wrap64
  omega
section
variable {base : Nat} {w w' : World} {v : Value} {row : Option Nat}
theorem RI.kept {xs : List Int} (h : RI base w v xs) (hg : w.grownBy w' row) (hne : row = none ∨ row ≠ v.ownBlock) : RI base w' v xs :=
  Kd.R_grown2 h rfl hg (fun k e => by rcases hne with h1 | h1; · rw [h1] at e; cases e
                                      · rw [e] at h1; exact h1)
theorem RP.kept {xs : List (Int × Int)} (h : RP base w v xs) (hg : w.grownBy w' row) (hne : row = none ∨ row ≠ v.ownBlock) : RP base w' v xs :=
  Kd.R_grown2 h rfl hg (fun k e => by rcases hne with h1 | h1; · rw [h1] at e; cases e
                                      · rw [e] at h1; exact h1)
theorem RI.below {xs : List Int} (h : RI base w v xs) (hb : Below w.heap.size w w') : RI base w' v xs := Kd.R_below h hb
theorem RP.below {xs : List (Int × Int)} (h : RP base w v xs) (hb : Below w.heap.size w w') : RP base w' v xs := Kd.R_below h hb
theorem RI.nil : RI base w (.slice none 0 0) [] := Kd.R_nil _ _ _ _ _
theorem RP.nil : RP base w (.slice none 0 0) [] := Kd.R_nil _ _ _ _ _
theorem RI.form {xs : List Int} (h : RI base w v xs) : ∃ A c, v = .slice A xs.length c := Kd.R_slice h
theorem RP.form {xs : List (Int × Int)} (h : RP base w v xs) : ∃ A c, v = .slice A xs.length c := Kd.R_slice h
theorem RI.ne_map {xs : List Int} (h : RI base w v xs) {b c : Nat} {f : Int → Option Int} (hm : IM w b c f) : some b ≠ v.ownBlock := by
  intro e
  obtain ⟨cells, hc⟩ := Kd.R_typed h b e.symm
  obtain ⟨D, ⟨es, clock, hb, _⟩, _⟩ := hm
  rw [hc] at hb; cases hb
theorem RP.ne_map {xs : List (Int × Int)} (h : RP base w v xs) {b c : Nat} {f : Int → Option Int} (hm : IM w b c f) : some b ≠ v.ownBlock := by
  intro e
  obtain ⟨cells, hc⟩ := Kd.R_typed h b e.symm
  obtain ⟨D, ⟨es, clock, hb, _⟩, _⟩ := hm
  rw [hc] at hb; cases hb
theorem RI.at {A : Option Addr} {n c : Nat} {xs : List Int} (h : RI base w (.slice A n c) xs) (i : Nat) (hi : i < n) : ∃ g, A = some ⟨g, 0, none⟩ ∧ w.cell? ⟨g, i, none⟩ = some (.int .i64 (xs.getD i 0)) := by
  have hl := (Kd.R_reads' h).1
  obtain ⟨g, cap, e, _⟩ := Kd.R_form h (by omega)
  injection e with e1 e2 e3
  subst e1 e2 e3
  refine ⟨g, rfl, ?_⟩
  have := (Kd.R_celln 0 h (i : Int) (by omega) (by omega)).1
  simpa [rdOf] using this
end
/-- What is kept below when one block of one's own has turned. -/
theorem below_one {w w' : World} {B : Nat} {row : Option Nat} (h : w.grownBy w' row) (hr : ∀ b, row = some b → B ≤ b) (hB : B ≤ w.heap.size) : Below B w w' :=
  ⟨h.os, h.tape, h.output, h.size, fun k hk => h.block k (by omega) (fun e => by have := hr k e.symm; omega)⟩
theorem below_grows {w w' : World} (h : Below w.heap.size w w') : w.grownBy w' none := ⟨h.os, h.tape, h.output, h.size, fun i hi _ => h.block i hi⟩
theorem grown_set (W : World) (g j : Nat) (u : Value) : W.grownBy (W.setCell ⟨g, j, none⟩ u) (some g) := by
  exact ⟨rfl, rfl, rfl, by simp [World.setCell], fun k _ hk => Below.heap_setCell _ _ _ k (fun e => hk (by rw [e]))⟩
section
variable {ops : Array Oper} {rest : List Oper} {o : Oper} {a : Act} {Q : Exit → Act → World → Prop} {W : World}
theorem event_skip {W w1 : World} (hgd : o.guard = none) (hN : o.dst = none) {x : Next} (hx : x = .skip ∨ ∃ v, x = .value v)
    (hrun : (execOp a.eval o).run Try.prog W = .ok x w1) (h : wpList Try.prog ops Q rest a w1) : wpList Try.prog ops Q (o :: rest) a W := by
  refine wpList_plain hgd fun K hK => ?_
  unfold Oper.wp
  rw [hrun]
  rcases hx with rfl | ⟨v, rfl⟩
  · show K (a.put o.dst undef) w1
    rw [hN]
    exact hK _ _ h
  · show K (a.put o.dst v) w1
    rw [hN]
    exact hK _ _ h
/-- A row of numbers grows by one. -/
theorem ev_app (hgd : o.guard = none) {s x : Operand} (ho : o.op = .call { callee := .builtin .append, args := #[s, x], argTypes := #[33, 33] }) {base : Nat} {v : Value} {xs : List Int} {k : Int} (hs : a.eval s = v) (hx : a.eval x = .slice (some ⟨W.heap.size, 0, none⟩) 1 1)
    (HO : RI base W v xs) (hb : base ≤ W.heap.size) (hl : xs.length ≤ 1000000000)
    (K : ∀ v1 w1, RI base w1 v1 (xs ++ [k]) → W.grownBy w1 v.ownBlock → (v1.ownBlock = v.ownBlock ∨ ∃ b, v1.ownBlock = some b ∧ W.heap.size ≤ b) → wpList Try.prog ops Q rest (a.put o.dst v1) w1) : wpList Try.prog ops Q (o :: rest) a (W.alloc (.cells #[.int .i64 k] 3)) :=
  Kd.R_append (Kd.int .i64) (w0 := W) base hgd s x 33 3 (.int .i64 0) 8 ho Try.underlying33 info3 rfl (by decide) (by omega) v xs k [.int .i64 k] (fun _ => True) (fun _ => False) hs hx rfl (fun _ h => h.elim) (fun _ _ => trivial) HO (Below.refl _ _) hb (by omega) (fun v1 w1 h1 _ h3 h4 => K v1 w1 h1 h3 h4)
/-- A row of pairs grows by one. -/
theorem ev_app2 (hgd : o.guard = none) {s x : Operand} (ho : o.op = .call { callee := .builtin .append, args := #[s, x], argTypes := #[22, 22] }) {base : Nat} {v : Value} {xs : List (Int × Int)} {k l : Int} (hs : a.eval s = v) (hx : a.eval x = .slice (some ⟨W.heap.size, 0, none⟩) 1 1)
    (HO : RP base W v xs) (hb : base ≤ W.heap.size) (hl : xs.length ≤ 1000000000)
    (K : ∀ v1 w1, RP base w1 v1 (xs ++ [(k, l)]) → W.grownBy w1 v.ownBlock → (v1.ownBlock = v.ownBlock ∨ ∃ b, v1.ownBlock = some b ∧ W.heap.size ≤ b) → wpList Try.prog ops Q rest (a.put o.dst v1) w1) : wpList Try.prog ops Q (o :: rest) a (W.alloc (.cells #[.int .i64 k, .int .i64 l] 31)) :=
  Kd.R_append kp (w0 := W) base hgd s x 22 31 (.agg #[.int .i64 0, .int .i64 0]) 16 ho Try.underlying22 info31 rfl (by decide) (by omega) v xs (k, l) [.int .i64 k, .int .i64 l] (fun _ => True) (fun _ => False) hs hx ⟨_, _, rfl, rfl, rfl⟩ (fun _ h => h.elim) (fun _ _ => trivial) HO (Below.refl _ _) hb (by omega) (fun v1 w1 h1 _ h3 h4 => K v1 w1 h1 h3 h4)
/-- A map is made. -/
theorem ev_make (hgd : o.guard = none) {r : Option Operand} (ho : o.op = .makeMap 28 r) (hr : ∀ q, r = some q → ∃ n : Int, a.eval q = .int .i64 n ∧ 0 ≤ n)
    (K : ∀ b w', b = W.heap.size → IM w' b 0 (fun _ => none) → W.grownBy w' none → wpList Try.prog ops Q rest (a.put o.dst (.map (some b))) w') : wpList Try.prog ops Q (o :: rest) a W := by
  refine Kd.event_run hgd (v := .map (some W.heap.size)) (w1 := W.alloc (.map #[] 0)) ?_ (K _ _ rfl (IM.made W) (World.grownBy_alloc W _ none))
  rcases r with _ | q
  · simp [execOp, ho, Instr.makeMap, Sem.run, Result.andThen]
  · obtain ⟨n, e, hn⟩ := hr q rfl
    simp [execOp, ho, e, Instr.makeMap, Sem.run, Result.andThen]
    have e1 : Sem.run Try.prog (asInt (Value.int IntKind.i64 n)) W = .ok n W := rfl
    rw [e1]
theorem ev_upd (hgd : o.guard = none) {m x v : Operand} (ho : o.op = .mapUpdate 28 m x v) (hN : o.dst = none) {b c : Nat} {f : Int → Option Int} {k u : Int} (hm : a.eval m = .map (some b)) (hx : a.eval x = .int .i64 k) (hv : a.eval v = .int .i64 u)
    (h : IM W b c f) (hc : c < maxLen) (hk : In64 k) (hu : In64 u)
    (K : ∀ w', IM w' b (if (f k).isSome then c else c + 1) (mup f k u) → W.grownBy w' (some b) → wpList Try.prog ops Q rest a w') : wpList Try.prog ops Q (o :: rest) a W := by
  obtain ⟨w', r1, r2, r3⟩ := h.upd hc hk hu
  exact event_skip hgd hN (x := .skip) (.inl rfl) (by simp [execOp, ho, hm, hx, hv, r1, Result.andThen]) (K w' r2 r3)
theorem ev_look (hgd : o.guard = none) {m x : Operand} (ho : o.op = .lookup 28 m x false) {b c : Nat} {f : Int → Option Int} {k : Int} (hm : a.eval m = .map (some b)) (hx : a.eval x = .int .i64 k)
    (h : IM W b c f) (hk : In64 k) (K : In64 ((f k).getD 0) → wpList Try.prog ops Q rest (a.put o.dst (.int .i64 ((f k).getD 0))) W) : wpList Try.prog ops Q (o :: rest) a W := by
  obtain ⟨r1, r2⟩ := h.look (zero3 W) hk
  exact Kd.event_run hgd (by simp [execOp, ho, hm, hx, r1, Result.andThen]) (K r2)
theorem ev_ok (hgd : o.guard = none) {m x : Operand} (ho : o.op = .lookup 28 m x true) {b c : Nat} {f : Int → Option Int} {k : Int} (hm : a.eval m = .map (some b)) (hx : a.eval x = .int .i64 k)
    (h : IM W b c f) (hk : In64 k) (K : In64 ((f k).getD 0) → wpList Try.prog ops Q rest (a.put o.dst (.tuple #[.int .i64 ((f k).getD 0), .bool (f k).isSome])) W) : wpList Try.prog ops Q (o :: rest) a W := by
  obtain ⟨r1, r2⟩ := h.look_ok (zero3 W) hk
  exact Kd.event_run hgd (by simp [execOp, ho, hm, hx, r1, Result.andThen]) (K r2)
theorem ev_len (hgd : o.guard = none) {m : Operand} (ho : o.op = .call { callee := .builtin .len, args := #[m], argTypes := #[28] }) {b c : Nat} {f : Int → Option Int} (hm : a.eval m = .map (some b))
    (h : IM W b c f) (K : wpList Try.prog ops Q rest (a.put o.dst (.int .i64 c)) W) : wpList Try.prog ops Q (o :: rest) a W :=
  Kd.event_run hgd (by simp [execOp, ho, resolve, invoke, builtin, hm, h.len o.type, Result.andThen]) K
theorem ev_del (hgd : o.guard = none) {m x : Operand} (ho : o.op = .call { callee := .builtin .delete, args := #[m, x], argTypes := #[28, 3] }) (hN : o.dst = none) {b c : Nat} {f : Int → Option Int} {k : Int} (hm : a.eval m = .map (some b)) (hx : a.eval x = .int .i64 k)
    (h : IM W b c f) (hk : In64 k)
    (K : ∀ w', IM w' b (if (f k).isSome then c - 1 else c) (mdel f k) → W.grownBy w' (some b) → wpList Try.prog ops Q rest a w') : wpList Try.prog ops Q (o :: rest) a W := by
  obtain ⟨w', r1, r2, r3⟩ := h.drop hk o.type
  exact event_skip hgd hN (x := .value (.tuple #[])) (.inr ⟨_, rfl⟩) (by simp [execOp, ho, resolve, invoke, builtin, hm, hx, r1, Result.andThen]) (K w' r2 r3)
theorem ev_range (hgd : o.guard = none) {m : Operand} (ho : o.op = .range 28 m) {b c : Nat} {f : Int → Option Int} (hm : a.eval m = .map (some b)) (h : IM W b c f)
    (K : ∀ r w', r = W.heap.size → IMR w' b r c f (fun x => (f x).isSome) c → W.grownBy w' none → w'.heap.size = W.heap.size + 1 → wpList Try.prog ops Q rest (a.put o.dst (.pointer (some ⟨r, 0, none⟩))) w') : wpList Try.prog ops Q (o :: rest) a W := by
  obtain ⟨w', r1, r2, r3, r4⟩ := h.range
  exact Kd.event_run hgd (by simp [execOp, ho, hm, r1, Result.andThen]) (K _ w' rfl r2 r3 r4)
theorem ev_next (hgd : o.guard = none) {it : Operand} (ho : o.op = .next it false) {b r c cnt : Nat} {f : Int → Option Int} {left : Int → Bool} (hit : a.eval it = .pointer (some ⟨r, 0, none⟩)) (h : IMR W b r c f left cnt)
    (K0 : (∀ x, left x = false) → wpList Try.prog ops Q rest (a.put o.dst (.tuple #[.bool false])) W)
    (K1 : ∀ k v w' cnt', left k = true → f k = some v → In64 k → In64 v → IMR w' b r c f (fun x => left x && decide (x ≠ k)) cnt' → cnt' < cnt → W.grownBy w' (some r) →
      (Instr.entry (.pointer (some ⟨r, 0, none⟩))).run Try.prog w' = .ok (.tuple #[.int .i64 k, .int .i64 v]) w' → wpList Try.prog ops Q rest (a.put o.dst (.tuple #[.bool true, .int .i64 k, .int .i64 v])) w') : wpList Try.prog ops Q (o :: rest) a W := by
  rcases h.next o.type with ⟨_, c1, c2⟩ | ⟨k, v, w', cnt', c1, c2, c3, c4, c5, c6, c7, c8, c9, c10⟩
  · exact Kd.event_run hgd (by simp [execOp, ho, hit, c2, Result.andThen]) (K0 c1)
  · exact Kd.event_run hgd (by simp [execOp, ho, hit, c5, Result.andThen]) (K1 k v w' cnt' c1 c2 c3 c4 c6 c7 c8 c10)
theorem ev_entry (hgd : o.guard = none) {it : Operand} (ho : o.op = .entry it) {r : Nat} {k v : Int} (hit : a.eval it = .pointer (some ⟨r, 0, none⟩)) (h : (Instr.entry (.pointer (some ⟨r, 0, none⟩))).run Try.prog W = .ok (.tuple #[.int .i64 k, .int .i64 v]) W)
    (K : wpList Try.prog ops Q rest (a.put o.dst (.tuple #[.int .i64 k, .int .i64 v])) W) : wpList Try.prog ops Q (o :: rest) a W :=
  Kd.event_run hgd (by simp [execOp, ho, hit, h, Result.andThen]) K
/-- A pair is loaded. -/
theorem ev_load (hgd : o.guard = none) {p : Operand} (ho : o.op = .load 31 p) {ad : Addr} {x y : Int} (hp : a.eval p = .pointer (some ad)) (h0 : W.cell? ad = some (.int .i64 x)) (h1 : W.cell? { block := ad.block, off := ad.off + 1, spot := none } = some (.int .i64 y))
    (K : wpList Try.prog ops Q rest (a.put o.dst (.agg #[.int .i64 x, .int .i64 y])) W) : wpList Try.prog ops Q (o :: rest) a W := by
  refine Kd.event_run hgd (v := .agg #[.int .i64 x, .int .i64 y]) (w1 := W) ?_ K
  simp only [execOp, ho, hp]
  go_simp
/-- A box for a pair is made, and the pair stored. -/
theorem ev_box (hgd : o.guard = none) {N : Tmp} (_hd : o.dst = some N) (ho : o.op = .alloc 31)
    (K : ∀ g w', g = W.heap.size → w'.heap[g]? = some (.cells #[.int .i64 0, .int .i64 0] 31 (0, 0)) → W.grownBy w' none → wpList Try.prog ops Q rest (a.put o.dst (.pointer (some ⟨g, 0, none⟩))) w') : wpList Try.prog ops Q (o :: rest) a W := by
  refine box_event hgd _hd (cs := #[.int .i64 0, .int .i64 0]) (t := 31) ?_ (fun g hg w1 h1 h2 => K g w1 hg h1 (below_grows h2))
  simp only [execOp, ho]
  go_simp
  try rfl
theorem ev_put (hgd : o.guard = none) {p v : Operand} (ho : o.op = .store 31 p v) (hN : o.dst = none) {g : Nat} {x0 y0 x y : Int} (hp : a.eval p = .pointer (some ⟨g, 0, none⟩)) (hv : a.eval v = .agg #[.int .i64 x, .int .i64 y])
    (h : W.heap[g]? = some (.cells #[.int .i64 x0, .int .i64 y0] 31 (0, 0)))
    (K : ∀ w', w'.heap[g]? = some (.cells #[.int .i64 x, .int .i64 y] 31 (0, 0)) → W.grownBy w' (some g) → wpList Try.prog ops Q rest a w') : wpList Try.prog ops Q (o :: rest) a W := by
  have h0 : W.cell? ⟨g, 0, none⟩ = some (.int .i64 x0) := (blk_cell h 0).trans rfl
  have h1 : W.cell? ⟨g, 1, none⟩ = some (.int .i64 y0) := (blk_cell h 1).trans rfl
  have f0 := blk_frozen h 0
  have f1 := blk_frozen h 1
  refine event_skip hgd hN (x := .skip) (w1 := (W.setCell ⟨g, 0, none⟩ (.int .i64 x)).setCell ⟨g, 1, none⟩ (.int .i64 y)) (.inl rfl) ?_ (K _ ?_ ?_)
  · simp only [execOp, ho, hp, hv]
    go_simp
  · exact blk_set (blk_set h 0 _) 1 _
  · exact (grown_set W g 0 _).trans (grown_set _ g 1 _)
end
end Go.Proofs.Ytdodmjnicnpefaa.Q
