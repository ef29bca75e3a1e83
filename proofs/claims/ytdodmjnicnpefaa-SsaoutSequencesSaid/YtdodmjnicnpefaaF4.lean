/- The small question of the statement, and what a register holds. -/
import Derived.Test.YtdodmjnicnpefaaF8
namespace Go.Proofs.Ytdodmjnicnpefaa.Q
open Go.RowKit Go.Proofs.YtdodmjnicnpefaaW.PrintWords Go.Proofs.YtdodmjnicnpefaaW.PrintLast Go.Proofs.YtdodmjnicnpefaaW.PrintMore
set_option linter.unusedVariables false
set_option linter.unusedSimpArgs false
/-- What a register holds, behind copies. -/
theorem value.calls (w : World) {bn n bx : Nat} {now : Int → Option Int} (h : IM w bn n now) (hx : w.cell? ⟨bx, 0, none⟩ = some (.map (some bn))) (r : Int) (hr : In64 r) :
    Calls Try.prog 7 #[.int .i64 r, .pointer (some ⟨bx, 0, none⟩)] w fun e w' => e = .returned (.int .i64 ((now r).getD r)) ∧ w' = w := by
  have HN := Aside0.mk h
  have HI := Aside0.mk hr
  clear h hr
  obtain ⟨u, hu⟩ : ∃ u, u = (now r).getD 0 := ⟨_, rfl⟩
  have HU := Aside0.mk hu.symm
  cases hb : (now r).isSome with
  | true =>
    have HB := Aside0.mk hb
    have HV := Aside0.mk (show (now r).getD r = u from by
      rw [hu]
      cases e : now r with
      | none => rw [e] at hb; cases hb
      | some z => rfl)
    clear hb hu
    go_enter Try.func7, Try.ntmps7
    go_wp2_with (first
      | ((with_reducible refine gate_ (.lookup 28 (.tmp 7) (.tmp 8) true) rfl ?_); refine ev_ok' rfl rfl u true rfl rfl HN.out HI.out HU.out HB.out ?_)
      | fail)
    go_ret
    exact ⟨by rw [HV.out]; rfl, rfl⟩
  | false =>
    have HB := Aside0.mk hb
    have HV := Aside0.mk (show (now r).getD r = r from by
      cases e : now r with
      | none => rfl
      | some z => rw [e] at hb; cases hb)
    clear hb hu
    go_enter Try.func7, Try.ntmps7
    go_wp2_with (first
      | ((with_reducible refine gate_ (.lookup 28 (.tmp 7) (.tmp 8) true) rfl ?_); refine ev_ok' rfl rfl u false rfl rfl HN.out HI.out HU.out HB.out ?_)
      | fail)
    go_ret
    exact ⟨by rw [HV.out]; rfl, rfl⟩
abbrev swap : List (Int × Int) := [(1, 2), (2, 1)]
theorem swap_fo (x s : Int) (h : fo swap x = some s) : (x = 1 ∧ s = 2) ∨ (x = 2 ∧ s = 1) := by
  obtain ⟨m, hm, h1, h2, _⟩ := fo_src swap x s h
  simp only [List.mem_cons, List.not_mem_nil, or_false] at hm
  rcases hm with rfl | rfl
  · exact .inl ⟨h1.symm, h2.symm⟩
  · exact .inr ⟨h1.symm, h2.symm⟩
theorem swap_cyc (b : Int) (h : Cyc (fo swap) b) : b = 1 ∨ b = 2 := by
  obtain ⟨_, h2⟩ := orb_key h ⟨0, rfl⟩
  obtain ⟨s, hs⟩ := Option.isSome_iff_exists.1 h2
  rcases swap_fo b s hs with h | h
  · exact .inl h.1
  · exact .inr h.1
theorem swap_orb : Orb (fo swap) 1 2 ∧ Orb (fo swap) 2 1 := ⟨⟨1, by decide⟩, ⟨1, by decide⟩⟩
theorem swap_three {out : List (Int × Int)} (h : SeqPost swap 9 out) : out.length = 3 := by
  obtain ⟨h1, _, B, h2, _, h4, h5⟩ := h
  have hnt : (nt swap).length = 2 := by decide
  have hB : B.length ≤ 1 := by
    match B, h4, h5 with
    | [], _, _ => simp
    | [_], _, _ => simp
    | x :: y :: l, h4, h5 =>
      have hx := swap_cyc x (h4 x (by simp))
      have hy := swap_cyc y (h4 y (by simp))
      have hxy := (List.pairwise_cons.1 h5).1 y (by simp)
      rcases hx with rfl | rfl <;> rcases hy with rfl | rfl
      · exact absurd ⟨0, rfl⟩ hxy.1
      · exact absurd swap_orb.1 hxy.1
      · exact absurd swap_orb.2 hxy.1
      · exact absurd ⟨0, rfl⟩ hxy.1
  have h0 : out.length ≠ 2 := by
    intro e
    match out, e with
    | [(a, b), (c, d)], _ =>
      have e1 := h1 1 (by decide)
      have e2 := h1 2 (by decide)
      have f1 : (fo swap 1).getD 1 = 2 := by decide
      have f2 : (fo swap 2).getD 2 = 1 := by decide
      rw [f1] at e1
      rw [f2] at e2
      simp only [ex, List.foldl_cons, List.foldl_nil] at e1 e2
      split at e1 <;> split at e2 <;> split at e1 <;> split at e2 <;> omega
  omega
def SwapP (w : World) (e : Ending) (w' : World) : Prop := ∃ (A : Option Addr) (c : Nat), e = .returned (.tuple #[.slice A 3 c, .int .i64 0]) ∧ Below w.heap.size w w'
theorem Sequence.swapped (w : World) (A : Option Addr) (c : Nat) (h : kp.C w A 2 swap) : Calls Try.prog 5 #[.slice A 2 c, .int .i64 9] w (SwapP w) := by
  have hok : okL swap 9 := ⟨by decide, by unfold good; decide, by decide⟩
  have hin : Ins swap := fun m hm => by
    simp only [List.mem_cons, List.not_mem_nil, or_false] at hm
    rcases hm with rfl | rfl <;> exact ⟨by unfold In64; decide, by unfold In64; decide⟩
  refine (Sequence.yes swap 9 w A c h (by decide) hin (by unfold In64; decide) hok).mono ?_
  rintro e w1 ⟨h1, _, h3⟩
  obtain ⟨v, out, rfl, hv, hp⟩ := h1 hok
  obtain ⟨A', c', rfl⟩ := hv.form
  rw [swap_three hp]
  exact ⟨A', c', rfl, h3⟩
set_option maxHeartbeats 4000000 in
set_option maxRecDepth 100000 in
theorem awake.calls (w : World) : Calls Try.prog 4 #[] w fun e w' => e = .returned (.bool true) ∧ Below w.heap.size w w' := by
  have HC := Aside0.mk (show kp.C (w.alloc (.cells #[.int .i64 1, .int .i64 2, .int .i64 2, .int .i64 1] 31)) (some ⟨w.heap.size, 0, none⟩) 2 swap from by
    refine ⟨rfl, by decide, fun _ => ⟨_, rfl, fun j p hp => ?_⟩⟩
    have hb : (w.alloc (.cells #[.int .i64 1, .int .i64 2, .int .i64 2, .int .i64 1] 31)).heap[w.heap.size]? = some (.cells #[.int .i64 1, .int .i64 2, .int .i64 2, .int .i64 1] 31 (0, 0)) := (MapKept.heap_alloc w _).1
    match j, hp with
    | 0, hp =>
      injection hp with hp
      subst hp
      refine ⟨[.int .i64 1, .int .i64 2], rfl, ⟨_, _, rfl, rfl, rfl⟩, fun i u hu => ?_⟩
      match i, hu with
      | 0, hu => injection hu with hu; subst hu; exact (blk_cell hb 0).trans rfl
      | 1, hu => injection hu with hu; subst hu; exact (blk_cell hb 1).trans rfl
    | 1, hp =>
      injection hp with hp
      subst hp
      refine ⟨[.int .i64 2, .int .i64 1], rfl, ⟨_, _, rfl, rfl, rfl⟩, fun i u hu => ?_⟩
      match i, hu with
      | 0, hu => injection hu with hu; subst hu; exact (blk_cell hb 2).trans rfl
      | 1, hu => injection hu with hu; subst hu; exact (blk_cell hb 3).trans rfl)
  go_enter Try.func4, Try.ntmps4
  go_wp2_with (first
    | (go_at_call 5; ((with_reducible refine (Sequence.swapped _ _ 2 HC.out).mono ?_); rintro e w1 ⟨A, c, rfl, hB⟩); have HB := Aside0.mk hB; clear hB)
    | fail)
  go_ret
  exact ⟨rfl, (below_alloc (Below.refl _ _) _).trans (Below.mono HB.out (by simp))⟩
end Go.Proofs.Ytdodmjnicnpefaa.Q
