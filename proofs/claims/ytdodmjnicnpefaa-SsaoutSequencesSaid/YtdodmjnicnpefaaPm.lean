/- Moves all at once, made one behind the other: the plain law. -/
import Derived.Test.YtdodmjnicnpefaaF9
namespace Go.Proofs.Ytdodmjnicnpefaa.Q
set_option linter.unusedSimpArgs false
/-! Lists without doubles. -/
theorem sub_len {P Q : List Int} (hP : P.Nodup) (h : ∀ x ∈ P, x ∈ Q) : P.length ≤ Q.length := by
  induction P generalizing Q with
  | nil => simp
  | cons a P ih =>
    obtain ⟨h1, h2⟩ := List.nodup_cons.1 hP
    have ha : a ∈ Q := h a (by simp)
    have := ih h2 (Q := Q.erase a) (fun x hx => (List.mem_erase_of_ne (fun e => h1 (by rw [← e]; exact hx))).2 (h x (by simp [hx])))
    have hl := List.length_erase_of_mem ha
    have : 0 < Q.length := List.length_pos_of_mem ha
    simp only [List.length_cons]
    omega
theorem sub_full {P Q : List Int} (hP : P.Nodup) (h : ∀ x ∈ P, x ∈ Q) (hl : Q.length ≤ P.length) : (∀ x ∈ Q, x ∈ P) ∧ Q.Nodup := by
  induction P generalizing Q with
  | nil =>
    have : Q = [] := List.eq_nil_of_length_eq_zero (by simpa using hl)
    subst this; simp
  | cons a P ih =>
    obtain ⟨h1, h2⟩ := List.nodup_cons.1 hP
    have ha : a ∈ Q := h a (by simp)
    have hle := List.length_erase_of_mem ha
    have hpos : 0 < Q.length := List.length_pos_of_mem ha
    have hp := List.perm_cons_erase ha
    obtain ⟨i1, i2⟩ := ih h2 (Q := Q.erase a) (fun x hx => (List.mem_erase_of_ne (fun e => h1 (by rw [← e]; exact hx))).2 (h x (by simp [hx]))) (by simp only [List.length_cons] at hl; omega)
    refine ⟨fun x hx => ?_, ?_⟩
    · rcases List.mem_cons.1 (hp.mem_iff.1 hx) with e | e
      · rw [e]; simp
      · simp [i1 x e]
    · rw [hp.nodup_iff, List.nodup_cons]
      exact ⟨fun e => h1 (i1 a e), i2⟩
theorem map_inj_of {P : List Int} {f : Int → Int} (h : (P.map f).Nodup) {x y : Int} (hx : x ∈ P) (hy : y ∈ P) (e : f x = f y) : x = y := by
  obtain ⟨i, hi, rfl⟩ := List.mem_iff_getElem.1 hx
  obtain ⟨j, hj, rfl⟩ := List.mem_iff_getElem.1 hy
  have hp := List.pairwise_iff_getElem.1 h
  rcases Nat.lt_trichotomy i j with c | c | c
  · have := hp i j (by simpa using hi) (by simpa using hj) c
    simp only [List.getElem_map] at this
    exact absurd e this
  · subst c; rfl
  · have := hp j i (by simpa using hj) (by simpa using hi) c
    simp only [List.getElem_map] at this
    exact absurd e.symm this
theorem count_turn {K : List Int} (hK : K.Nodup) {r : Int} (hr : r ∈ K) {p q : Int → Bool} (h : ∀ k, k ≠ r → p k = q k) : K.countP p + (q r).toNat = K.countP q + (p r).toNat := by
  have hp := List.perm_cons_erase hr
  have h1 : ∀ f : Int → Bool, K.countP f = (K.erase r).countP f + (f r).toNat := fun f => by
    rw [hp.countP_eq f, List.countP_cons]
    cases f r <;> simp
  have h2 : (K.erase r).countP p = (K.erase r).countP q := List.countP_congr fun x hx => by
    rw [h x ((List.Nodup.mem_erase_iff hK).1 hx).1]
  rw [h1 p, h1 q, h2]
  omega
/-! Orbits. -/
def it (g : Int → Option Int) : Nat → Int → Option Int
  | 0, x => some x
  | k + 1, x => (it g k x).bind g
def Orb (g : Int → Option Int) (x y : Int) : Prop := ∃ k, it g k x = some y
def Cyc (g : Int → Option Int) (x : Int) : Prop := ∃ k, it g (k + 1) x = some x
theorem it_add (g : Int → Option Int) (i : Nat) : ∀ (j : Nat) (x : Int), it g (i + j) x = (it g i x).bind (it g j)
  | 0, x => by cases h : it g i x <;> simp [it]
  | j + 1, x => by
    rw [← Nat.add_assoc]
    show (it g (i + j) x).bind g = _
    rw [it_add g i j x]
    cases h : it g i x <;> simp [it]
theorem it_times {g : Int → Option Int} {k : Nat} {x : Int} (h : it g k x = some x) : ∀ q, it g (q * k) x = some x
  | 0 => by simp [it]
  | q + 1 => by rw [Nat.succ_mul, it_add, it_times h q]; exact h
theorem orb_back {g : Int → Option Int} {x y : Int} (hc : Cyc g x) (h : Orb g x y) : Orb g y x := by
  obtain ⟨m, hm⟩ := hc
  obtain ⟨k, hk⟩ := h
  have h1 := it_times hm k
  have hle : k ≤ k * (m + 1) := by rw [Nat.mul_succ]; omega
  obtain ⟨d, hd⟩ := Nat.exists_eq_add_of_le hle
  rw [hd, it_add, hk] at h1
  exact ⟨d, h1⟩
theorem orb_trans {g : Int → Option Int} {x y z : Int} (h1 : Orb g x y) (h2 : Orb g y z) : Orb g x z := by
  obtain ⟨i, hi⟩ := h1
  obtain ⟨j, hj⟩ := h2
  exact ⟨i + j, by rw [it_add, hi]; exact hj⟩
/-- Two of one orbit: one leads to the other. -/
theorem orb_line {g : Int → Option Int} {c x y : Int} (h1 : Orb g c x) (h2 : Orb g c y) : Orb g x y ∨ Orb g y x := by
  obtain ⟨i, hi⟩ := h1
  obtain ⟨j, hj⟩ := h2
  rcases Nat.le_total i j with c1 | c1
  · obtain ⟨d, rfl⟩ := Nat.exists_eq_add_of_le c1
    rw [it_add, hi] at hj
    exact .inl ⟨d, hj⟩
  · obtain ⟨d, rfl⟩ := Nat.exists_eq_add_of_le c1
    rw [it_add, hj] at hi
    exact .inr ⟨d, hi⟩
/-- Orbits that are apart are no more than those that lead to all that are on cycles. -/
theorem apart_le {g : Int → Option Int} {B C : List Int} (hB : ∀ b ∈ B, Cyc g b) (hp : B.Pairwise (fun x y => ¬ Orb g x y ∧ ¬ Orb g y x)) (hC : ∀ b, Cyc g b → ∃ c ∈ C, Orb g c b) : B.length ≤ C.length := by
  classical
  let f : Int → Int := fun b => if h : Cyc g b then Classical.choose (hC b h) else b
  have hf : ∀ b ∈ B, f b ∈ C ∧ Orb g (f b) b := fun b hb => by
    have h := hB b hb
    have := Classical.choose_spec (hC b h)
    simp only [f, dif_pos h]
    exact this
  have hn : (B.map f).Nodup := by
    rw [List.Nodup, List.pairwise_map]
    refine hp.imp_of_mem ?_
    intro x y hx hy hxy e
    have h1 := (hf x hx).2
    have h2 := (hf y hy).2
    rw [e] at h1
    rcases orb_line h1 h2 with h | h
    · exact hxy.1 h
    · exact hxy.2 h
  have := sub_len hn (Q := C) (fun x hx => by
    obtain ⟨b, hb, rfl⟩ := List.mem_map.1 hx
    exact (hf b hb).1)
  simpa using this
/-- Among one more than there are two are the same. -/
theorem twice {P : List Int} {s : Nat → Int} (h : ∀ k, k ≤ P.length → s k ∈ P) : ∃ i j, i < j ∧ j ≤ P.length ∧ s i = s j := by
  apply Classical.byContradiction
  intro hno
  have hn : ((List.range (P.length + 1)).map s).Nodup := by
    rw [List.Nodup, List.pairwise_map, List.pairwise_iff_getElem]
    intro i j hi hj hij e
    simp only [List.getElem_range] at e
    simp at hi hj
    exact hno ⟨i, j, hij, by omega, e⟩
  have := sub_len hn (Q := P) (fun x hx => by
    obtain ⟨k, hk, rfl⟩ := List.mem_map.1 hx
    rw [List.mem_range] at hk
    exact h k (by omega))
  simp at this
  omega
/-- Who is on a cycle comes back in no more steps than there are keys. -/
theorem cyc_short {g : Int → Option Int} {P : List Int} (hk : ∀ x, (g x).isSome = true → x ∈ P) {r : Int} (h : Cyc g r) : ∃ k, k < P.length ∧ it g (k + 1) r = some r := by
  classical
  obtain ⟨k, hk0⟩ := h
  -- the least
  have hex : ∃ k, it g (k + 1) r = some r ∧ ∀ j < k, it g (j + 1) r ≠ some r := by
    induction k using Nat.strongRecOn with
    | _ k ih =>
      by_cases c : ∃ j, j < k ∧ it g (j + 1) r = some r
      · obtain ⟨j, hj, hj2⟩ := c
        exact ih j hj hj2
      · exact ⟨k, hk0, fun j hj e => c ⟨j, hj, e⟩⟩
  obtain ⟨k, h1, h2⟩ := hex
  refine ⟨k, ?_, h1⟩
  apply Classical.byContradiction
  intro hge
  have hsome : ∀ i, i ≤ k → ∃ y, it g i r = some y ∧ y ∈ P := fun i hi => by
    obtain ⟨d, hd⟩ := Nat.exists_eq_add_of_le hi
    have e : k + 1 = i + (d + 1) := by omega
    rw [e, it_add] at h1
    cases hy : it g i r with
    | none => rw [hy] at h1; cases h1
    | some y =>
      rw [hy] at h1
      refine ⟨y, rfl, hk y ?_⟩
      have h3 : it g (1 + d) y = some r := by rw [Nat.add_comm]; exact h1
      rw [it_add] at h3
      cases hg : g y with
      | some z => rfl
      | none => simp [it, hg] at h3
  obtain ⟨i, j, hij, hjP, e⟩ := twice (P := P) (s := fun i => (it g i r).getD 0) (fun i hi => by
    obtain ⟨y, hy, hm⟩ := hsome i (by omega)
    simpa [hy] using hm)
  obtain ⟨y, hy, _⟩ := hsome i (by omega)
  obtain ⟨z, hz, _⟩ := hsome j (by omega)
  simp only [hy, hz, Option.getD_some] at e
  subst e
  obtain ⟨d, hd⟩ := Nat.exists_eq_add_of_le (show j ≤ k by omega)
  have e2 : k + 1 = j + (d + 1) := by omega
  rw [e2, it_add, hz] at h1
  have h4 : it g (i + (d + 1)) r = some r := by rw [it_add, hy]; exact h1
  exact h2 (i + d) (by omega) h4
/-- One-to-one among those that stay: each is on a cycle. -/
theorem inj_cyc {g : Int → Option Int} {P : List Int} (hs : ∀ x ∈ P, ∃ y ∈ P, g x = some y) (hi : ∀ x ∈ P, ∀ y ∈ P, g x = g y → x = y) {r : Int} (hr : r ∈ P) : Cyc g r ∧ ∀ y, Orb g r y → y ∈ P := by
  have hall : ∀ k, ∃ y ∈ P, it g k r = some y := fun k => by
    induction k with
    | zero => exact ⟨r, hr, rfl⟩
    | succ k ih =>
      obtain ⟨y, hy, e⟩ := ih
      obtain ⟨z, hz, e2⟩ := hs y hy
      exact ⟨z, hz, by simp [it, e, e2]⟩
  refine ⟨?_, fun y ⟨k, hk⟩ => by
    obtain ⟨z, hz, e⟩ := hall k
    rw [e] at hk; injection hk with hk; rw [← hk]; exact hz⟩
  obtain ⟨i, j, hij, _, e⟩ := twice (P := P) (s := fun i => (it g i r).getD 0) (fun i _ => by
    obtain ⟨y, hy, e⟩ := hall i
    simpa [e] using hy)
  have heq : it g i r = it g j r := by
    obtain ⟨y, _, e1⟩ := hall i
    obtain ⟨z, _, e2⟩ := hall j
    simp only [e1, e2, Option.getD_some] at e
    rw [e1, e2, e]
  obtain ⟨d, rfl⟩ := Nat.exists_eq_add_of_lt hij
  have back : ∀ i, it g i r = it g (i + (d + 1)) r → it g 0 r = it g (d + 1) r := fun i => by
    induction i with
    | zero => intro h; simpa using h
    | succ i ih =>
      intro h
      apply ih
      obtain ⟨y, hy, e1⟩ := hall i
      obtain ⟨z, hz, e2⟩ := hall (i + (d + 1))
      have e3 : i + 1 + (d + 1) = (i + (d + 1)) + 1 := by omega
      rw [e3] at h
      change (it g i r).bind g = (it g (i + (d + 1)) r).bind g at h
      rw [e1, e2] at h
      have := hi y hy z hz h
      rw [e1, e2, this]
  exact ⟨d, (back i (by rw [heq, Nat.add_assoc])).symm⟩
end Go.Proofs.Ytdodmjnicnpefaa.Q
