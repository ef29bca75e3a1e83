/- The statement's walk. -/
import Derived.Test.YtdodmjnicnpefaaF4
namespace Go.Proofs.Ytdodmjnicnpefaa.Q
open Go.RowKit Go.Proofs.YtdodmjnicnpefaaW.PrintWords Go.Proofs.YtdodmjnicnpefaaW.PrintLast Go.Proofs.YtdodmjnicnpefaaW.PrintMore
set_option linter.unusedVariables false
set_option linter.unusedSimpArgs false
/-- What registers hold behind copies, as a map. -/
def nw (out : List (Int × Int)) : Int → Option Int := out.foldl (fun f m => mup f m.1 ((f m.2).getD m.2)) (fun _ => none)
/-- What registers should hold. -/
def wf (L : List (Int × Int)) : Int → Option Int := L.foldl (fun f m => mup f m.1 m.2) (fun _ => none)
theorem nw_snoc (l : List (Int × Int)) (m : Int × Int) : nw (l ++ [m]) = mup (nw l) m.1 ((nw l m.2).getD m.2) := by simp [nw, List.foldl_append]
theorem wf_snoc (l : List (Int × Int)) (m : Int × Int) : wf (l ++ [m]) = mup (wf l) m.1 m.2 := by simp [wf, List.foldl_append]
theorem nw_ex (out : List (Int × Int)) (x : Int) : (nw out x).getD x = ex out x := by
  induction out using snoc_ind generalizing x with
  | h0 => rfl
  | h1 l m ih =>
    rw [nw_snoc, ex_snoc]
    simp only [mup]
    by_cases e : x = m.1
    · rw [if_pos e, if_pos e, Option.getD_some, ih]
    · rw [if_neg e, if_neg e, ih]
theorem nw_in {out : List (Int × Int)} (h : Ins out) (x : Int) : (∀ v, nw out x = some v → In64 v) := by
  induction out using snoc_ind generalizing x with
  | h0 => intro v hv; cases hv
  | h1 l m ih =>
    have ih := ih (fun q hq => h q (by simp [hq]))
    intro v hv
    rw [nw_snoc] at hv
    unfold mup at hv
    split at hv
    · injection hv with hv
      rw [← hv]
      cases e : nw l m.2 with
      | none => exact (h m (by simp)).2
      | some z => exact ih _ z e
    · exact ih x v hv
theorem wf_key {L : List (Int × Int)} {x v : Int} (h : wf L x = some v) : x ∈ fsts L := by
  induction L using snoc_ind with
  | h0 => cases h
  | h1 l m ih =>
    rw [wf_snoc] at h
    unfold mup at h
    rw [fsts, List.map_append, List.mem_append]
    split at h
    · rename_i e; exact .inr (by simp [e])
    · exact .inl (ih h)
theorem wf_fo {L : List (Int × Int)} (hn : (fsts L).Nodup) (x : Int) : (wf L x).getD x = (fo L x).getD x := by
  induction L using snoc_ind with
  | h0 => rfl
  | h1 l m ih =>
    rw [fsts, List.map_append, List.nodup_append] at hn
    have ih := ih hn.1
    have hm : m.1 ∉ fsts l := fun e => hn.2.2 _ e _ (by simp) rfl
    rw [wf_snoc, fo_snoc]
    by_cases e : x = m.1
    · subst e
      by_cases c : m.1 = m.2
      · rw [if_pos c]
        have : fo l m.1 = none := by
          cases q : fo l m.1 with
          | none => rfl
          | some z => exact absurd (ky_sub l _ ((fo_key l m.1).1 (by rw [q]; rfl))) hm
        simp [mup, this, ← c]
      · rw [if_neg c]
        simp [mup]
    · by_cases c : m.1 = m.2
      · rw [if_pos c, ← ih]
        simp [mup, e]
      · rw [if_neg c]
        simp only [mup, if_neg e]
        exact ih
/-- The box of a map. -/
def BX (w : World) (bx bn : Nat) : Prop := w.heap[bx]? = some (.cells #[.map (some bn)] 28 (0, 0))
theorem BX.kept {w w' : World} {bx bn : Nat} {row : Option Nat} (h : BX w bx bn) (hg : w.grownBy w' row) (hne : some bx ≠ row) : BX w' bx bn :=
  (hg.block bx (Array.getElem?_eq_some_iff.1 h).1 hne).trans h
theorem BX.ne_map {w : World} {bx bn b n : Nat} {f : Int → Option Int} (h : BX w bx bn) (hm : IM w b n f) : bx ≠ b := by
  rintro rfl
  obtain ⟨_, _, ho⟩ := hm.obj
  rw [BX, ho] at h; cases h
theorem BX.ne_iter {w : World} {bx bn b r c cnt : Nat} {f : Int → Option Int} {left : Int → Bool} (h : BX w bx bn) (hi : IMR w b r c f left cnt) : bx ≠ r := by
  rintro rfl
  obtain ⟨_, _, _, _, ho⟩ := hi.iter
  rw [BX, ho] at h; cases h
theorem BX.cell {w : World} {bx bn : Nat} (h : BX w bx bn) : w.cell? ⟨bx, 0, none⟩ = some (.map (some bn)) := (blk_cell h 0).trans rfl
theorem RP.empty (w : World) : RP w.heap.size (w.alloc (.cells #[] 31)) (.slice (some ⟨w.heap.size, 0, none⟩) 0 0) [] :=
  ⟨fun _ _ => trivial, [], ⟨rfl, .inr ⟨w.heap.size, 0, #[], rfl, Nat.le_refl _, (MapKept.heap_alloc w _).1, Nat.le_refl _, Nat.zero_le _, rfl, rfl⟩⟩, by simp [Reps]⟩
theorem RP.form' {base : Nat} {w : World} {v : Value} {xs : List (Int × Int)} (h : RP base w v xs) : ∃ A n c, v = .slice A n c ∧ n = xs.length ∧ n ≤ c := by
  obtain ⟨A, c, e, h1, _⟩ := Kd.R_reads h
  exact ⟨A, _, c, e, rfl, h1⟩
/-- A copy is made. -/
theorem ev_copy {ops : Array Oper} {rest : List Oper} {o : Oper} {a : Act} {Q : Exit → Act → World → Prop} {w : World} (hgd : o.guard = none) {s x : Operand} (ho : o.op = .call { callee := .builtin .append, args := #[s, x], argTypes := #[22, 22] }) {L : List (Int × Int)} {A : Option Addr} {c : Nat}
    (hs : a.eval s = .slice (some ⟨w.heap.size, 0, none⟩) 0 0) (hx : a.eval x = .slice A L.length c) (hC : kp.C w A L.length L) (hl : L.length ≤ 1000000)
    (K : ∀ v1 w1, RP w.heap.size w1 v1 L → w.grownBy w1 none → wpList Try.prog ops Q rest (a.put o.dst v1) w1) : wpList Try.prog ops Q (o :: rest) a (w.alloc (.cells #[] 31)) := by
  refine Kd.R_append_rows kp (Rr := fun x cs => kp.K (w.alloc (.cells #[] 31)) x cs) (w0 := w) w.heap.size hgd s x 22 31 (.agg #[.int .i64 0, .int .i64 0]) 16 ho Try.underlying22 info31 rfl (by decide) (by decide) _ [] L A L.length c (fun _ => True) (fun _ => False) hs hx (RP.empty w) (Kd.C_alloc hC _) (fun _ _ h => h) (fun _ h => h.elim) (fun _ _ => trivial) (below_alloc (Below.refl _ _) _) (by simp) (by simp; omega) ?_
  intro v1 w1 h1 _ h3 _
  refine K v1 w1 h1 ((World.grownBy_alloc w _ none).andThen h3 (fun j hj => .inl ?_))
  have := Option.some.inj hj
  simp only at this
  omega
structure S2 (w0 w : World) (bx bn n : Nat) (now : Int → Option Int) (vp : Value) (out : List (Int × Int)) : Prop where
  F : IM w bn n now
  x : BX w bx bn
  p : RP w0.heap.size w vp out
  lf : w0.heap.size ≤ bn
  b : Below w0.heap.size w0 w
theorem S2.grow {w0 w w' : World} {bx bn n : Nat} {now : Int → Option Int} {vp : Value} {out : List (Int × Int)} (h : S2 w0 w bx bn n now vp out) (hg : w.grownBy w' none) : S2 w0 w' bx bn n now vp out :=
  { F := h.F.kept hg (by simp), x := h.x.kept hg (by simp), p := h.p.kept hg (.inl rfl), lf := h.lf, b := h.b.trans (below_one hg (fun b e => by cases e) h.b.size) }
theorem S2.upd {w0 w w' : World} {bx bn n n' : Nat} {now now' : Int → Option Int} {vp : Value} {out : List (Int × Int)} (h : S2 w0 w bx bn n now vp out) (hg : w.grownBy w' (some bn)) (hF : IM w' bn n' now') : S2 w0 w' bx bn n' now' vp out :=
  { F := hF, x := h.x.kept hg (by simpa using h.x.ne_map h.F), p := h.p.kept hg (.inr (h.p.ne_map h.F)), lf := h.lf, b := h.b.trans (below_one hg (fun b e => by cases e; exact h.lf) h.b.size) }
theorem S2.turn {w0 w w' : World} {bx bn n bw m : Nat} {now f : Int → Option Int} {vp : Value} {out : List (Int × Int)} (h : S2 w0 w bx bn n now vp out) (hw : IM w bw m f) (hl : w0.heap.size ≤ bw) (hne : bn ≠ bw) (hg : w.grownBy w' (some bw)) : S2 w0 w' bx bn n now vp out :=
  { F := h.F.kept hg (by simpa using hne), x := h.x.kept hg (by simpa using h.x.ne_map hw), p := h.p.kept hg (.inr (h.p.ne_map hw)), lf := h.lf, b := h.b.trans (below_one hg (fun b e => by cases e; exact hl) h.b.size) }
theorem S2.iter {w0 w w' : World} {bx bn n b r c cnt : Nat} {now f : Int → Option Int} {left : Int → Bool} {vp : Value} {out : List (Int × Int)} (h : S2 w0 w bx bn n now vp out) (hi : IMR w b r c f left cnt) (hl : w0.heap.size ≤ r) (hg : w.grownBy w' (some r)) : S2 w0 w' bx bn n now vp out :=
  { F := h.F.kept hg (by simpa using h.F.ne_iter hi), x := h.x.kept hg (by simpa using h.x.ne_iter hi), p := h.p.kept hg (.inr (fun e => h.p.ne_iter hi e.symm)), lf := h.lf, b := h.b.trans (below_one hg (fun b e => by cases e; exact hl) h.b.size) }
theorem May.yes (L : List (Int × Int)) (t : Int) (w : World) (A : Option Addr) (c : Nat) (h : kp.C w A L.length L) (hn : L.length ≤ 1000000) (hok : okL L t) :
    Calls Try.prog 6 #[.slice A L.length c, .int .i64 t] w fun e w' => e = .returned (.bool true) ∧ w.grownBy w' none :=
  (May.calls L t w A c h hn).mono fun e w' ⟨b, he, hb, hd⟩ => by
    rw [hb.2 hok] at he
    obtain ⟨⟨q, rfl⟩⟩ := hd
    exact ⟨he, grown_drewN w q⟩
theorem May.no (L : List (Int × Int)) (t : Int) (w : World) (A : Option Addr) (c : Nat) (h : kp.C w A L.length L) (hn : L.length ≤ 1000000) (hok : ¬ okL L t) :
    Calls Try.prog 6 #[.slice A L.length c, .int .i64 t] w fun e w' => e = .returned (.bool false) ∧ w.grownBy w' none :=
  (May.calls L t w A c h hn).mono fun e w' ⟨b, he, hb, hd⟩ => by
    have : b = false := by cases b; rfl; exact absurd (hb.1 rfl) hok
    rw [this] at he
    obtain ⟨⟨q, rfl⟩⟩ := hd
    exact ⟨he, grown_drewN w q⟩
/-- What the statement answers. -/
def LawP (w : World) (e : Ending) (w' : World) : Prop := e = .returned (.bool true) ∧ Below w.heap.size w w'
set_option maxHeartbeats 32000000 in
set_option maxRecDepth 100000 in
theorem SsaoutSequences.many (L : List (Int × Int)) (t : Int) (w : World) (A : Option Addr) (c : Nat) (hn : 200 < L.length) :
    Calls Try.prog 3 #[.slice A L.length c, .int .i64 t] w (LawP w) := by
  have e1 : decide ((L.length : Int) > 200) = true := decide_eq_true (by omega)
  have e2 : decide (200 < (L.length : Int)) = true := decide_eq_true (by omega)
  have e3 : decide (200 < L.length) = true := decide_eq_true (by omega)
  have HN := Aside0.mk hn
  clear hn
  go_enter Try.func3, Try.ntmps3
  go_wp2_with (first
    | (go_at_call 4; ((with_reducible refine (awake.calls _).mono ?_); rintro e w1 ⟨rfl, hB⟩); have HB := Aside0.mk hB; clear hB)
    | fail)
  go_ret
  exact ⟨rfl, HB.out⟩
set_option maxHeartbeats 32000000 in
set_option maxRecDepth 100000 in
theorem SsaoutSequences.no (L : List (Int × Int)) (t : Int) (w : World) (A : Option Addr) (c : Nat) (h : kp.C w A L.length L) (hn : L.length ≤ 200) (hin : Ins L) (hok : ¬ okL L t) :
    Calls Try.prog 3 #[.slice A L.length c, .int .i64 t] w (LawP w) := by
  have HC := Aside0.mk h
  have HN := Aside0.mk hn
  have HIN := Aside0.mk hin
  have HK := Aside0.mk hok
  have e1 : decide ((L.length : Int) > 200) = false := decide_eq_false (by omega)
  have e2 : decide (200 < (L.length : Int)) = false := decide_eq_false (by omega)
  have e3 : decide (200 < L.length) = false := decide_eq_false (by omega)
  clear h hn hin hok
  go_enter Try.func3, Try.ntmps3
  go_wp2_with (first
    | ((with_reducible refine gate_builtin (b := .append) (xs := #[.tmp 25, .tmp 26]) rfl ?_); at_builtin; refine ev_copy rfl rfl rfl rfl HC.out (by have := HN.out; omega) ?_; intro v1 w1 h1 h2; obtain ⟨A1, c1, rfl⟩ := h1.form; have HC1 := Aside0.mk (Kd.R_reads' h1).2.2; have HB1 := Aside0.mk (below_one (B := w.heap.size) h2 (fun b e => by cases e) (Nat.le_refl _)); clear h1 h2)
    | (go_at_call 5; ((with_reducible refine (Sequence.no L t _ _ _ HC1.out (by have := HN.out; omega) HIN.out HK.out).mono ?_); rintro e w2 ⟨h1, h2, h3⟩); obtain rfl := h2 HK.out; have HB2 := Aside0.mk (HB1.out.trans (Below.mono h3 HB1.out.size)); clear h1 h2 h3)
    | (go_at_call 6; ((with_reducible refine (May.no L t _ _ _ (Kd.C_below HC.out HB2.out) (by have := HN.out; omega) HK.out).mono ?_); rintro e w3 ⟨rfl, h3⟩); have HB3 := Aside0.mk (HB2.out.trans (below_one (B := w.heap.size) h3 (fun b e => by cases e) HB2.out.size)); clear h3)
    | (go_at_call 4; ((with_reducible refine (awake.calls _).mono ?_); rintro e w4 ⟨rfl, hB⟩); have HB4 := Aside0.mk (HB3.out.trans (Below.mono hB HB3.out.size)); clear hB)
    | fail)
  go_ret
  exact ⟨rfl, HB4.out⟩
end Go.Proofs.Ytdodmjnicnpefaa.Q
