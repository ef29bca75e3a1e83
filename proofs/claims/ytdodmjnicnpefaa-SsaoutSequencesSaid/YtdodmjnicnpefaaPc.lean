/- Cycles of moves, counted: the plain law. -/
import Derived.Test.YtdodmjnicnpefaaF5
namespace Go.Proofs.Ytdodmjnicnpefaa.Q
open Go.RowKit
set_option linter.unusedVariables false
theorem cyc_some {g : Int → Option Int} {r : Int} (h : Cyc g r) (k : Nat) : ∃ y, it g k r = some y := by
  obtain ⟨m, hm⟩ := h
  have h1 := it_times hm (k + 1)
  have hle : k ≤ (k + 1) * (m + 1) := by rw [Nat.mul_succ]; omega
  obtain ⟨d, hd⟩ := Nat.exists_eq_add_of_le hle
  rw [hd, it_add] at h1
  cases e : it g k r with
  | none => rw [e] at h1; cases h1
  | some y => exact ⟨y, rfl⟩
theorem not_cyc1 {g : Int → Option Int} {r : Int} {k : Nat} (h : it g k r = none) : ¬ Cyc g r := fun hc => by
  obtain ⟨y, hy⟩ := cyc_some hc k
  rw [h] at hy; cases hy
theorem not_cyc2 {L : List (Int × Int)} {r : Int} {k : Nat} (h : ∀ j, j < k → it (fo L) (j + 1) r ≠ some r) (hk : L.length < k) : ¬ Cyc (fo L) r := fun hc => by
  obtain ⟨j, hj, hj2⟩ := cyc_short (P := fsts L) (fun x hx => ky_sub L x ((fo_key L x).1 hx)) hc
  simp only [fsts, List.length_map] at hj
  exact h j (by omega) hj2
theorem it_val {L : List (Int × Int)} (hin : Ins L) {k : Nat} {x y : Int} (h : it (fo L) (k + 1) x = some y) : In64 y := by
  have h1 : (it (fo L) k x).bind (fo L) = some y := h
  cases e : it (fo L) k x with
  | none => rw [e] at h1; cases h1
  | some z =>
    rw [e] at h1
    obtain ⟨m, hm, _, rfl, _⟩ := fo_src L z y h1
    exact (hin m hm).2
theorem it_val0 {L : List (Int × Int)} (hin : Ins L) (k : Nat) (x : Int) : In64 ((it (fo L) (k + 1) x).getD 0) := by
  cases e : it (fo L) (k + 1) x with
  | none => unfold In64; decide
  | some y => exact it_val hin e
theorem orb_key {L : List (Int × Int)} {r a : Int} (hc : Cyc (fo L) r) (h : Orb (fo L) r a) : a ∈ fsts L ∧ (fo L a).isSome = true := by
  obtain ⟨k, hk⟩ := h
  obtain ⟨y, hy⟩ := cyc_some hc (k + 1)
  have h1 : (it (fo L) k r).bind (fo L) = some y := hy
  rw [hk] at h1
  have h2 : fo L a = some y := h1
  have h3 : (fo L a).isSome = true := by rw [h2]; rfl
  exact ⟨ky_sub L a ((fo_key L a).1 h3), h3⟩
/-- What is marked. -/
structure CInv (L : List (Int × Int)) (nm : Nat) (met : Int → Option Int) (C : List Int) : Prop where
  ones : ∀ x v, met x = some v → v = 1 ∧ ∃ c ∈ C, Orb (fo L) c x
  room : nm + (fsts L).countP (fun k => decide (met k = none)) ≤ L.length
theorem cnt_lt {K : List Int} {p q : Int → Bool} (h : ∀ k, p k = true → q k = true) {a : Int} (ha : a ∈ K) (hp : p a = false) (hq : q a = true) : K.countP p < K.countP q := by
  induction K with
  | nil => cases ha
  | cons b K ih =>
    have hle : K.countP p ≤ K.countP q := List.countP_mono_left fun k _ hk => h k hk
    rw [List.countP_cons, List.countP_cons]
    rcases List.mem_cons.1 ha with e | e
    · subst e
      simp [hp, hq]; omega
    · have := ih e
      by_cases c : p b = true
      · simp [c, h b c]; omega
      · simp [c]; split <;> omega
theorem CInv.mark {L : List (Int × Int)} {nm : Nat} {met : Int → Option Int} {C : List Int} (h : CInv L nm met C) {a : Int} (hm : met a = none) (ha : a ∈ fsts L) (hc : ∃ c ∈ C, Orb (fo L) c a) :
    CInv L (nm + 1) (mup met a 1) C ∧ (fsts L).countP (fun k => decide (mup met a 1 k = none)) < (fsts L).countP (fun k => decide (met k = none)) := by
  have hlt := cnt_lt (K := fsts L) (p := fun k => decide (mup met a 1 k = none)) (q := fun k => decide (met k = none)) (fun k hk => by
    simp only [decide_eq_true_eq] at hk ⊢
    unfold mup at hk
    split at hk
    · cases hk
    · exact hk) ha (by simp [mup]) (by simp [hm])
  refine ⟨⟨fun x v hx => ?_, ?_⟩, hlt⟩
  · unfold mup at hx
    split at hx
    · rename_i e
      injection hx with hx
      rw [e]
      exact ⟨hx.symm, hc⟩
    · exact h.ones x v hx
  · have := h.room
    omega
theorem CInv.more {L : List (Int × Int)} {nm : Nat} {met : Int → Option Int} {C : List Int} (h : CInv L nm met C) (r : Int) : CInv L nm met (C ++ [r]) :=
  ⟨fun x v hx => by
    obtain ⟨h1, c, hc, h2⟩ := h.ones x v hx
    exact ⟨h1, c, by simp [hc], h2⟩, h.room⟩
/-- How far the count is. -/
def CDone (L : List (Int × Int)) (C : List Int) (i : Nat) : Prop := (∀ j, j < i → Cyc (fo L) (el L j).1 → ∃ c ∈ C, Orb (fo L) c (el L j).1) ∧ C.length ≤ i
theorem CDone.next {L : List (Int × Int)} {C : List Int} {i : Nat} (h : CDone L C i) (hn : Cyc (fo L) (el L i).1 → ∃ c ∈ C, Orb (fo L) c (el L i).1) : CDone L C (i + 1) :=
  ⟨fun j hj => by
    by_cases e : j = i
    · subst e; exact hn
    · exact h.1 j (by omega), by have := h.2; omega⟩
theorem CDone.more {L : List (Int × Int)} {C : List Int} {i : Nat} (h : CDone L C i) : CDone L (C ++ [(el L i).1]) (i + 1) :=
  ⟨fun j hj hc => by
    by_cases e : j = i
    · subst e; exact ⟨(el L j).1, by simp, ⟨0, rfl⟩⟩
    · obtain ⟨c, hc1, hc2⟩ := h.1 j (by omega) hc
      exact ⟨c, by simp [hc1], hc2⟩, by have := h.2; simp; omega⟩
theorem CDone.all {L : List (Int × Int)} {C : List Int} (h : CDone L C L.length) : ∀ b, Cyc (fo L) b → ∃ c ∈ C, Orb (fo L) c b := fun b hb => by
  obtain ⟨h1, _⟩ := orb_key hb ⟨0, rfl⟩
  obtain ⟨m, hm, rfl⟩ := List.mem_map.1 h1
  obtain ⟨j, hj, rfl⟩ := List.mem_iff_getElem.1 hm
  have := h.1 j hj
  rw [el_get hj] at this
  exact this hb
/-- What the count tells. -/
def CycP (L : List (Int × Int)) (w : World) (e : Ending) (w' : World) : Prop := ∃ C : List Int, e = .returned (.int .i64 C.length) ∧ (∀ b, Cyc (fo L) b → ∃ c ∈ C, Orb (fo L) c b) ∧ C.length ≤ L.length ∧ Below w.heap.size w w'
theorem grown_drew (w : World) : w.grownBy w.drew none := ⟨rfl, rfl, rfl, Nat.le_refl _, fun _ _ _ => rfl⟩
theorem grown_drewN (w : World) (n : Nat) : w.grownBy (w.drewN n) none := ⟨rfl, rfl, rfl, Nat.le_refl _, fun _ _ _ => rfl⟩
end Go.Proofs.Ytdodmjnicnpefaa.Q
