/- Moves all at once, made one behind the other: what holds on the way. -/
import Derived.Test.YtdodmjnicnpefaaPm
namespace Go.Proofs.Ytdodmjnicnpefaa.Q
set_option linter.unusedSimpArgs false
set_option linter.unusedVariables false
theorem snoc_ind {α : Type} {P : List α → Prop} (h0 : P []) (h1 : ∀ l a, P l → P (l ++ [a])) (l : List α) : P l := by
  have : ∀ r : List α, P r.reverse := fun r => by
    induction r with
    | nil => exact h0
    | cons a r ih => rw [List.reverse_cons]; exact h1 _ _ ih
  have h := this l.reverse
  rwa [List.reverse_reverse] at h
/-- From where a register's value comes (moves to itself left out). -/
def fo (L : List (Int × Int)) : Int → Option Int := L.foldl (fun f m => if m.1 = m.2 then f else mup f m.1 m.2) (fun _ => none)
def nt (L : List (Int × Int)) : List (Int × Int) := L.filter (fun m => decide (m.1 ≠ m.2))
abbrev ky (L : List (Int × Int)) : List Int := (nt L).map (·.1)
/-- Copies, one behind the other. -/
def ex (out : List (Int × Int)) : Int → Int := out.foldl (fun f m => fun x => if x = m.1 then f m.2 else f x) (fun x => x)
theorem fo_snoc (L : List (Int × Int)) (m : Int × Int) : fo (L ++ [m]) = if m.1 = m.2 then fo L else mup (fo L) m.1 m.2 := by simp [fo, List.foldl_append]
theorem ex_snoc (L : List (Int × Int)) (m : Int × Int) : ex (L ++ [m]) = fun x => if x = m.1 then ex L m.2 else ex L x := by simp [ex, List.foldl_append]
theorem nt_snoc (L : List (Int × Int)) (m : Int × Int) : nt (L ++ [m]) = if m.1 = m.2 then nt L else nt L ++ [m] := by
  by_cases c : m.1 = m.2 <;> simp [nt, List.filter_append, c]
theorem ky_sub (L : List (Int × Int)) : ∀ x ∈ ky L, x ∈ fsts L := fun x hx => by
  obtain ⟨m, hm, rfl⟩ := List.mem_map.1 hx
  exact List.mem_map.2 ⟨m, (List.mem_filter.1 hm).1, rfl⟩
theorem ky_nodup {L : List (Int × Int)} (h : (fsts L).Nodup) : (ky L).Nodup := by
  rw [List.Nodup, List.pairwise_map] at h ⊢
  exact h.filter _
theorem fo_key (L : List (Int × Int)) (x : Int) : (fo L x).isSome = true ↔ x ∈ ky L := by
  induction L using snoc_ind with
  | h0 => simp [fo, nt]
  | h1 l m ih =>
    unfold ky at ih ⊢
    rw [fo_snoc, nt_snoc]
    split
    · exact ih
    · rw [List.map_append, List.mem_append, ← ih]
      unfold mup
      by_cases e : x = m.1 <;> simp [e]
theorem fo_src (L : List (Int × Int)) (x s : Int) (h : fo L x = some s) : ∃ m ∈ L, m.1 = x ∧ m.2 = s ∧ x ≠ s := by
  induction L using snoc_ind with
  | h0 => simp [fo] at h
  | h1 l m ih =>
    rw [fo_snoc] at h
    split at h
    · obtain ⟨m', a, b⟩ := ih h
      exact ⟨m', by simp [a], b⟩
    · rename_i hne
      unfold mup at h
      split at h
      · rename_i e
        injection h with h
        exact ⟨m, by simp, e.symm, h, by rw [e, ← h]; exact hne⟩
      · obtain ⟨m', a, b⟩ := ih h
        exact ⟨m', by simp [a], b⟩
theorem fo_count {L : List (Int × Int)} (hn : (fsts L).Nodup) (x : Int) : (ky L).countP (fun k => decide (fo L k = some x)) = (nt L).countP (fun m => decide (m.2 = x)) := by
  induction L using snoc_ind with
  | h0 => simp [nt]
  | h1 l m ih =>
    have hn' : (fsts l).Nodup := by
      rw [fsts, List.map_append, List.nodup_append] at hn; exact hn.1
    have hm : m.1 ∉ fsts l := by
      rw [fsts, List.map_append, List.nodup_append] at hn
      intro e
      exact hn.2.2 _ e _ (by simp) rfl
    have ih := ih hn'
    unfold ky at ih ⊢
    rw [fo_snoc, nt_snoc]
    split
    · exact ih
    · rw [List.map_append, List.countP_append, List.countP_append, ← ih]
      congr 1
      · refine List.countP_congr fun k hk => ?_
        have : k ≠ m.1 := fun e => hm (by rw [← e]; exact ky_sub l k hk)
        simp [mup, this]
      · simp [mup, List.countP_cons]
/-- How many that wait read x. -/
def cnt (L : List (Int × Int)) (fm : Int → Option Int) (x : Int) : Nat := (ky L).countP (fun k => decide (fm k = some x))
structure Inv (L : List (Int × Int)) (t : Int) (fm rd : Int → Option Int) (free : List Int) (out : List (Int × Int)) (B : List Int) (n at_ : Nat) : Prop where
  keys : ∀ x, (fm x).isSome = true → x ∈ ky L
  src : ∀ x s, fm x = some s → fo L x = some s ∨ s = t
  val : ∀ x s, fm x = some s → fo L x = some (ex out s)
  done : ∀ x, x ≠ t → fm x = none → ex out x = (fo L x).getD x
  reads : ∀ x, (rd x).getD 0 = (cnt L fm x : Int)
  fnodup : free.Nodup
  fok : ∀ r ∈ free, (fm r).isSome = true ∧ cnt L fm r = 0
  fall : ∀ r, (fm r).isSome = true → cnt L fm r = 0 → r ∈ free
  num : n = (ky L).countP (fun k => (fm k).isSome)
  len : out.length + n = (ky L).length + B.length
  blen : B.length ≤ at_
  bcyc : ∀ b ∈ B, Cyc (fo L) b
  bgone : ∀ b ∈ B, fm b = none ∨ b ∈ free
  bapart : B.Pairwise (fun x y => ¬ Orb (fo L) x y ∧ ¬ Orb (fo L) y x)
  passed : ∀ j, j < at_ → ∀ x, (ky L)[j]? = some x → fm x = none ∨ x ∈ free
  outs : Ins out
section
variable {L : List (Int × Int)} {t : Int} {fm rd : Int → Option Int} {free : List Int} {out : List (Int × Int)} {B : List Int} {n at_ : Nat}
theorem cnt_pos {x k : Int} (hk : k ∈ ky L) (h : fm k = some x) : 0 < cnt L fm x := List.countP_pos_iff.2 ⟨k, hk, by simp [h]⟩
theorem Inv.no_t (hok : okL L t) (h : Inv L t fm rd free out B n at_) : fm t = none := by
  cases e : fm t with
  | none => rfl
  | some s =>
    have := h.keys t (by rw [e]; rfl)
    obtain ⟨m, hm, e2⟩ := List.mem_map.1 (ky_sub L t this)
    exact absurd e2 (hok.2.1 m hm).2.2.1
theorem fo_ne_t (hok : okL L t) {x s : Int} (h : fo L x = some s) : s ≠ t ∧ x ≠ t ∧ x ≠ s := by
  obtain ⟨m, hm, rfl, rfl, hne⟩ := fo_src L x s h
  exact ⟨(hok.2.1 m hm).2.2.2, (hok.2.1 m hm).2.2.1, hne⟩
/-- A register that nobody reads is given. -/
theorem Inv.give (hok : okL L t) (hin : Ins L) (ht : In64 t) {fr : List Int} {r : Int} (h : Inv L t fm rd (fr ++ [r]) out B n at_) :
    ∃ s, fm r = some s ∧ In64 r ∧ In64 s ∧ s ≠ r ∧ 0 < n ∧ (∃ rv : Nat, (rd s).getD 0 = (rv : Int) ∧ 0 < rv ∧ rv ≤ (ky L).length) ∧
      Inv L t (mdel fm r) (mup rd s ((rd s).getD 0 - 1)) (if (mdel fm r s).isSome = true ∧ (rd s).getD 0 - 1 = 0 then fr ++ [s] else fr) (out ++ [(r, s)]) B (n - 1) at_ := by
  obtain ⟨hrs, hc0⟩ := h.fok r (by simp)
  obtain ⟨s, hs⟩ := Option.isSome_iff_exists.1 hrs
  have hrK := h.keys r hrs
  have hKn := ky_nodup hok.2.2
  have hsr : s ≠ r := by
    rintro rfl
    have := cnt_pos hrK hs
    omega
  have hno : ∀ x s', fm x = some s' → s' ≠ r := fun x s' hx e => by
    subst e
    have := cnt_pos (h.keys x (by rw [hx]; rfl)) hx
    omega
  have hcs : 0 < cnt L fm s := cnt_pos hrK hs
  have hcnt : ∀ x, cnt L (mdel fm r) x + (if s = x then 1 else 0) = cnt L fm x := fun x => by
    have := count_turn hKn hrK (p := fun k => decide (mdel fm r k = some x)) (q := fun k => decide (fm k = some x)) (fun k hk => by simp [mdel, hk])
    simp only [mdel, hs, if_true, Option.some.injEq, reduceCtorEq, decide_false, Bool.toNat_false, Nat.add_zero] at this
    unfold cnt
    rw [← this]
    by_cases e : s = x <;> simp [e, mdel]
  have hnum : (ky L).countP (fun k => (mdel fm r k).isSome) + 1 = n := by
    have := count_turn hKn hrK (p := fun k => (mdel fm r k).isSome) (q := fun k => (fm k).isSome) (fun k hk => by simp [mdel, hk])
    rw [h.num]
    simpa [mdel, hs] using this
  have hrt : r ≠ t := by rintro rfl; rw [h.no_t hok] at hs; cases hs
  have hInr : In64 r := by
    obtain ⟨m, hm, rfl⟩ := List.mem_map.1 (ky_sub L r hrK)
    exact (hin m hm).1
  have hIns : In64 s := by
    rcases h.src r s hs with e | rfl
    · obtain ⟨m, hm, _, rfl, _⟩ := fo_src L r s e
      exact (hin m hm).2
    · exact ht
  have hdel : ∀ x y, mdel fm r x = some y → x ≠ r ∧ fm x = some y := fun x y e => by
    unfold mdel at e
    split at e
    · cases e
    · exact ⟨by assumption, e⟩
  have hfr := List.nodup_append.1 h.fnodup
  have hrfr : r ∉ fr := fun e => hfr.2.2 r e r (by simp) rfl
  have hrd := h.reads s
  refine ⟨s, hs, hInr, hIns, hsr, by omega, ⟨cnt L fm s, hrd, hcs, List.countP_le_length⟩, ?_⟩
  have hcond : ((mdel fm r s).isSome = true ∧ (rd s).getD 0 - 1 = 0) ↔ ((fm s).isSome = true ∧ cnt L (mdel fm r) s = 0) := by
    have h1 := hcnt s
    rw [if_pos rfl] at h1
    have e1 : mdel fm r s = fm s := by simp [mdel, hsr]
    rw [e1, hrd]
    constructor
    · rintro ⟨a, b⟩; exact ⟨a, by omega⟩
    · rintro ⟨a, b⟩; exact ⟨a, by omega⟩
  refine { keys := ?_, src := ?_, val := ?_, done := ?_, reads := ?_, fnodup := ?_, fok := ?_, fall := ?_, num := ?_, len := ?_, blen := h.blen, bcyc := h.bcyc, bgone := ?_, bapart := h.bapart, passed := ?_, outs := ?_ }
  · intro x hx
    obtain ⟨y, hy⟩ := Option.isSome_iff_exists.1 hx
    exact h.keys x (by rw [(hdel x y hy).2]; rfl)
  · intro x y hy
    exact h.src x y (hdel x y hy).2
  · intro x y hy
    obtain ⟨h1, h2⟩ := hdel x y hy
    rw [ex_snoc]
    simp only [if_neg (hno x y h2)]
    exact h.val x y h2
  · intro x hx hx2
    rw [ex_snoc]
    by_cases e : x = r
    · subst e
      simp only [if_pos rfl]
      rw [h.val x s hs]; rfl
    · simp only [if_neg e]
      exact h.done x hx (by simpa [mdel, e] using hx2)
  · intro x
    have h1 := hcnt x
    unfold mup
    by_cases e : x = s
    · subst e
      rw [if_pos rfl] at h1 ⊢
      rw [Option.getD_some, hrd]
      omega
    · rw [if_neg e, h.reads x]
      rw [if_neg (Ne.symm e)] at h1
      omega
  · split
    · rw [List.nodup_append]
      refine ⟨hfr.1, by simp, fun a ha b hb e => ?_⟩
      have hb' : b = s := by simpa using hb
      rw [hb'] at e
      subst e
      have := (h.fok a (by simp [ha])).2
      omega
    · exact hfr.1
  · intro q hq
    have old : q ∈ fr → (mdel fm r q).isSome = true ∧ cnt L (mdel fm r) q = 0 := fun hq => by
      have hqr : q ≠ r := fun e => hrfr (by rw [← e]; exact hq)
      obtain ⟨a, b⟩ := h.fok q (by simp [hq])
      have := hcnt q
      exact ⟨by simpa [mdel, hqr] using a, by omega⟩
    split at hq
    · rename_i hc
      rcases List.mem_append.1 hq with hq | hq
      · exact old hq
      · have : q = s := by simpa using hq
        subst this
        exact ⟨hc.1, (hcond.1 hc).2⟩
    · exact old hq
  · intro q hq hq2
    obtain ⟨y, hy⟩ := Option.isSome_iff_exists.1 hq
    obtain ⟨h1, h2⟩ := hdel q y hy
    have h3 := hcnt q
    by_cases e : s = q
    · subst e
      rw [if_pos (hcond.2 ⟨by rw [h2]; rfl, hq2⟩)]
      simp
    · rw [if_neg e] at h3
      have := h.fall q (by rw [h2]; rfl) (by omega)
      have hqf : q ∈ fr := by
        rcases List.mem_append.1 this with c | c
        · exact c
        · exact absurd (by simpa using c) h1
      split
      · simp [hqf]
      · exact hqf
  · omega
  · have := h.len
    simp only [List.length_append, List.length_cons, List.length_nil]
    omega
  · intro b hb
    by_cases e : b = r
    · left; simp [mdel, e]
    · rcases h.bgone b hb with c | c
      · left; simpa [mdel, e] using c
      · right
        have hbf : b ∈ fr := by
          rcases List.mem_append.1 c with c | c
          · exact c
          · exact absurd (by simpa using c) e
        split
        · simp [hbf]
        · exact hbf
  · intro j hj x hx
    by_cases e : x = r
    · left; simp [mdel, e]
    · rcases h.passed j hj x hx with c | c
      · left; simpa [mdel, e] using c
      · right
        have hbf : x ∈ fr := by
          rcases List.mem_append.1 c with c | c
          · exact c
          · exact absurd (by simpa using c) e
        split
        · simp [hbf]
        · exact hbf
  · intro m hm
    rcases List.mem_append.1 hm with c | c
    · exact h.outs m c
    · rw [List.mem_singleton.1 c]; exact ⟨hInr, hIns⟩
/-- One that waits no longer is passed. -/
theorem Inv.pass (h : Inv L t fm rd [] out B n at_) {r : Int} (hr : (ky L)[at_]? = some r) (hw : fm r = none) : Inv L t fm rd [] out B n (at_ + 1) :=
  { h with
    blen := Nat.le_succ_of_le h.blen
    passed := fun j hj x hx => by
      by_cases e : j = at_
      · subst e
        rw [hr] at hx; injection hx with hx; subst hx
        exact .inl hw
      · exact h.passed j (by omega) x hx }
/-- With none free, who waits waits one for the other: none reads the register beside. -/
theorem Inv.ring (hok : okL L t) (h : Inv L t fm rd [] out B n at_) : (∀ x s, fm x = some s → (fm s).isSome = true) ∧ (∀ x y s, fm x = some s → fm y = some s → x = y) := by
  have hKn := ky_nodup hok.2.2
  let P := (ky L).filter (fun k => (fm k).isSome)
  have hPn : P.Nodup := List.Pairwise.filter _ hKn
  have hP : ∀ x, x ∈ P ↔ (fm x).isSome = true := fun x => by
    simp only [P, List.mem_filter]
    exact ⟨fun hx => hx.2, fun hx => ⟨h.keys x hx, hx⟩⟩
  have hsub : ∀ x ∈ P, x ∈ P.map (fun k => (fm k).getD 0) := fun x hx => by
    have hx' := (hP x).1 hx
    have hc : 0 < cnt L fm x := by
      apply Nat.pos_of_ne_zero
      intro hc
      have := h.fall x hx' hc
      simp at this
    obtain ⟨k, hk, hk2⟩ := List.countP_pos_iff.1 hc
    have hk3 : fm k = some x := by simpa using hk2
    exact List.mem_map.2 ⟨k, (hP k).2 (by rw [hk3]; rfl), by rw [hk3]; rfl⟩
  obtain ⟨h1, h2⟩ := sub_full hPn hsub (by simp)
  refine ⟨fun x s hx => ?_, fun x y s hx hy => ?_⟩
  · exact (hP s).1 (h1 s (List.mem_map.2 ⟨x, (hP x).2 (by rw [hx]; rfl), by rw [hx]; rfl⟩))
  · exact map_inj_of h2 ((hP x).2 (by rw [hx]; rfl)) ((hP y).2 (by rw [hy]; rfl)) (by rw [hx, hy])
/-- A cycle is broken: its first's value is kept beside. -/
def bend (fm : Int → Option Int) (r t : Int) : Int → Option Int := fun x => if fm x = some r then some t else fm x
theorem Inv.break_ (hok : okL L t) (hin : Ins L) (ht : In64 t) (h : Inv L t fm rd [] out B n at_) {r : Int} (hr : (ky L)[at_]? = some r) (hw : (fm r).isSome = true) :
    In64 r ∧ r ≠ t ∧ (∀ x, fm x ≠ some t) ∧ Inv L t (bend fm r t) (mup (mup rd t ((rd r).getD 0)) r 0) [r] (out ++ [(t, r)]) (B ++ [r]) n (at_ + 1) := by
  obtain ⟨hring, hinj⟩ := h.ring hok
  have hrK := h.keys r hw
  have hft := h.no_t hok
  have hrt : r ≠ t := by rintro rfl; rw [hft] at hw; cases hw
  have hnt : ∀ x, fm x ≠ some t := fun x e => by
    have := hring x t e
    rw [hft] at this; cases this
  have hInr : In64 r := by
    obtain ⟨m, hm, rfl⟩ := List.mem_map.1 (ky_sub L r hrK)
    exact (hin m hm).1
  have hfo : ∀ x s, fm x = some s → fo L x = some s := fun x s hx => by
    rcases h.src x s hx with e | rfl
    · exact e
    · exact absurd hx (hnt x)
  have hsome : ∀ x, (bend fm r t x).isSome = (fm x).isSome := fun x => by
    unfold bend
    split
    · rename_i e; rw [e]; rfl
    · rfl
  have hcnt : ∀ x, x ≠ t → x ≠ r → cnt L (bend fm r t) x = cnt L fm x := fun x h1 h2 => by
    unfold cnt
    refine List.countP_congr fun k _ => ?_
    unfold bend
    by_cases e : fm k = some r
    · simp [e, Ne.symm h1, Ne.symm h2]
    · simp [e]
  have hcr : cnt L (bend fm r t) r = 0 := by
    unfold cnt
    rw [List.countP_eq_zero]
    intro k _
    unfold bend
    by_cases e : fm k = some r
    · simp [e, Ne.symm hrt]
    · simp [e]
  have hct : cnt L (bend fm r t) t = cnt L fm r := by
    unfold cnt
    refine List.countP_congr fun k _ => ?_
    unfold bend
    by_cases e : fm k = some r
    · simp [e]
    · simp [e, hnt k]
  have hfr : ∃ s, fm r = some s ∧ s ≠ r := by
    obtain ⟨s, hs⟩ := Option.isSome_iff_exists.1 hw
    exact ⟨s, hs, Ne.symm (fo_ne_t hok (hfo r s hs)).2.2⟩
  let P := (ky L).filter (fun k => (fm k).isSome)
  have hP : ∀ x, x ∈ P ↔ (fm x).isSome = true := fun x => by
    simp only [P, List.mem_filter]
    exact ⟨fun hx => hx.2, fun hx => ⟨h.keys x hx, hx⟩⟩
  obtain ⟨hcyc, horb⟩ := inj_cyc (g := fo L) (P := P) (fun x hx => by
      obtain ⟨s, hs⟩ := Option.isSome_iff_exists.1 ((hP x).1 hx)
      exact ⟨s, (hP s).2 (hring x s hs), hfo x s hs⟩) (fun x hx y hy e => by
      obtain ⟨s, hs⟩ := Option.isSome_iff_exists.1 ((hP x).1 hx)
      obtain ⟨s', hs'⟩ := Option.isSome_iff_exists.1 ((hP y).1 hy)
      rw [hfo x s hs, hfo y s' hs'] at e
      injection e with e
      subst e
      exact hinj x y s hs hs') ((hP r).2 hw)
  refine ⟨hInr, hrt, hnt, ?_⟩
  refine { keys := ?_, src := ?_, val := ?_, done := ?_, reads := ?_, fnodup := by simp, fok := ?_, fall := ?_, num := ?_, len := ?_, blen := ?_, bcyc := ?_, bgone := ?_, bapart := ?_, passed := ?_, outs := ?_ }
  · intro x hx
    rw [hsome] at hx
    exact h.keys x hx
  · intro x s hs
    unfold bend at hs
    split at hs
    · right; injection hs with hs; exact hs.symm
    · exact h.src x s hs
  · intro x s hs
    rw [ex_snoc]
    unfold bend at hs
    split at hs
    · rename_i e
      injection hs with hs
      subst hs
      simp only [if_pos rfl]
      exact h.val x r e
    · have : s ≠ t := fun e => hnt x (by rw [hs, e])
      simp only [if_neg this]
      exact h.val x s hs
  · intro x hx hx2
    rw [ex_snoc]
    simp only [if_neg hx]
    refine h.done x hx ?_
    have := hsome x
    rw [hx2] at this
    cases e : fm x with
    | none => rfl
    | some s => rw [e] at this; cases this
  · intro x
    unfold mup
    by_cases e : x = r
    · rw [if_pos e, e, hcr]; rfl
    · rw [if_neg e]
      by_cases e2 : x = t
      · rw [if_pos e2, e2, hct]
        exact h.reads r
      · rw [if_neg e2, hcnt x e2 e]
        exact h.reads x
  · intro q hq
    have : q = r := by simpa using hq
    subst this
    exact ⟨by rw [hsome]; exact hw, hcr⟩
  · intro q hq hq2
    rw [hsome] at hq
    by_cases e : q = r
    · simp [e]
    · have hqt : q ≠ t := by rintro rfl; rw [hft] at hq; cases hq
      rw [hcnt q hqt e] at hq2
      have := h.fall q hq hq2
      simp at this
  · rw [h.num]
    exact (List.countP_congr fun k _ => by rw [hsome]).symm
  · have := h.len
    simp only [List.length_append, List.length_cons, List.length_nil]
    omega
  · have := h.blen
    simp only [List.length_append, List.length_cons, List.length_nil]
    omega
  · intro b hb
    rcases List.mem_append.1 hb with c | c
    · exact h.bcyc b c
    · rw [List.mem_singleton.1 c]; exact hcyc
  · intro b hb
    rcases List.mem_append.1 hb with c | c
    · left
      rcases h.bgone b c with e | e
      · have := hsome b
        rw [e] at this
        cases e2 : bend fm r t b with
        | none => rfl
        | some s => rw [e2] at this; cases this
      · simp at e
    · right; exact c
  · rw [List.pairwise_append]
    refine ⟨h.bapart, by simp, fun b hb y hy => ?_⟩
    have : y = r := by simpa using hy
    subst this
    have hbn : b ∉ P := fun e => by
      rcases h.bgone b hb with c | c
      · have := (hP b).1 e
        rw [c] at this; cases this
      · simp at c
    exact ⟨fun e => hbn (horb b (orb_back (h.bcyc b hb) e)), fun e => hbn (horb b e)⟩
  · intro j hj x hx
    by_cases e : j = at_
    · subst e
      rw [hr] at hx; injection hx with hx
      right; simp [hx]
    · rcases h.passed j (by omega) x hx with c | c
      · left
        have := hsome x
        rw [c] at this
        cases e2 : bend fm r t x with
        | none => rfl
        | some s => rw [e2] at this; cases this
      · simp at c
  · intro m hm
    rcases List.mem_append.1 hm with c | c
    · exact h.outs m c
    · rw [List.mem_singleton.1 c]; exact ⟨ht, hInr⟩
end
/-- What the copies are. -/
def SeqPost (L : List (Int × Int)) (t : Int) (out : List (Int × Int)) : Prop :=
  (∀ x, x ≠ t → ex out x = (fo L x).getD x) ∧ Ins out ∧ ∃ B : List Int, out.length = (nt L).length + B.length ∧ B.length ≤ L.length ∧ (∀ b ∈ B, Cyc (fo L) b) ∧ B.Pairwise (fun x y => ¬ Orb (fo L) x y ∧ ¬ Orb (fo L) y x)
theorem nt_le (L : List (Int × Int)) : (nt L).length ≤ L.length := List.length_filter_le _ _
theorem Inv.ended {L : List (Int × Int)} {t : Int} {fm rd : Int → Option Int} {out : List (Int × Int)} {B : List Int} {n at_ : Nat} (h : Inv L t fm rd [] out B n at_) (ha : at_ = (ky L).length) : SeqPost L t out := by
  have hnone : ∀ x, fm x = none := fun x => by
    cases e : fm x with
    | none => rfl
    | some s =>
      obtain ⟨j, hj, hx⟩ := List.mem_iff_getElem.1 (h.keys x (by rw [e]; rfl))
      rcases h.passed j (by omega) x (by rw [List.getElem?_eq_getElem hj, hx]) with c | c
      · rw [c] at e; cases e
      · simp at c
  have hn : n = 0 := by
    rw [h.num, List.countP_eq_zero]
    intro k _
    rw [hnone k]; simp
  refine ⟨fun x hx => h.done x hx (hnone x), h.outs, B, ?_, ?_, h.bcyc, h.bapart⟩
  · have := h.len
    simp only [List.length_map] at this
    omega
  · have := h.blen
    have := nt_le L
    simp only [List.length_map] at ha
    omega
/-- At the beginning. -/
theorem Inv.start {L : List (Int × Int)} {t : Int} (hok : okL L t) {rd : Int → Option Int} (hrd : ∀ x, (rd x).getD 0 = ((nt L).countP (fun m => decide (m.2 = x)) : Int)) {n : Nat} (hn : n = (ky L).length) :
    Inv L t (fo L) rd ((ky L).filter (fun r => decide ((rd r).getD 0 = 0))) [] [] n 0 := by
  have hc : ∀ x, (rd x).getD 0 = (cnt L (fo L) x : Int) := fun x => by rw [hrd, cnt, fo_count hok.2.2]
  refine { keys := fun x => (fo_key L x).1, src := fun x s h => .inl h, val := fun x s h => h, done := fun x _ h => by rw [h]; rfl, reads := hc, fnodup := List.Pairwise.filter _ (ky_nodup hok.2.2), fok := ?_, fall := ?_, num := ?_, len := ?_, blen := by simp, bcyc := by simp, bgone := by simp, bapart := by simp, passed := by intro j hj; omega, outs := by intro m hm; cases hm }
  · intro r hr
    rw [List.mem_filter] at hr
    refine ⟨(fo_key L r).2 hr.1, ?_⟩
    have := of_decide_eq_true hr.2
    rw [hc] at this
    omega
  · intro r hr hr2
    rw [List.mem_filter]
    refine ⟨(fo_key L r).1 hr, decide_eq_true ?_⟩
    rw [hc, hr2]; rfl
  · rw [hn]
    symm
    rw [List.countP_eq_length]
    intro k hk
    exact (fo_key L k).2 hk
  · simp [hn]
end Go.Proofs.Ytdodmjnicnpefaa.Q
