/- What a walk over two maps and three rows holds: told once, and how each step turns it. -/
import Derived.Test.YtdodmjnicnpefaaMr
namespace Go.Proofs.Ytdodmjnicnpefaa.Q
open Go.RowKit Go.Proofs.YtdodmjnicnpefaaW.PrintWords Go.Proofs.YtdodmjnicnpefaaW.PrintLast Go.Proofs.YtdodmjnicnpefaaW.PrintMore
set_option linter.unusedVariables false
theorem RI.form' {base : Nat} {w : World} {v : Value} {xs : List Int} (h : RI base w v xs) : ∃ A n c, v = .slice A n c ∧ n = xs.length ∧ n ≤ c := by
  obtain ⟨A, c, e, h1, _⟩ := Kd.R_reads h
  exact ⟨A, _, c, e, rfl, h1⟩
theorem RI.old {base : Nat} {w : World} {v : Value} {xs : List Int} (h : RI base w v xs) {b : Nat} (hb : v.ownBlock = some b) : b < w.heap.size := by
  obtain ⟨cells, hc⟩ := Kd.R_typed h b hb
  exact (Array.getElem?_eq_some_iff.1 hc).1
theorem RP.old {base : Nat} {w : World} {v : Value} {xs : List (Int × Int)} (h : RP base w v xs) {b : Nat} (hb : v.ownBlock = some b) : b < w.heap.size := by
  obtain ⟨cells, hc⟩ := Kd.R_typed h b hb
  exact (Array.getElem?_eq_some_iff.1 hc).1
theorem RI.ne_RP {base base' : Nat} {w : World} {v u : Value} {xs : List Int} {ys : List (Int × Int)} (h : RI base w v xs) (h' : RP base' w u ys) {b : Nat} (hb : v.ownBlock = some b) : u.ownBlock ≠ some b := by
  intro e
  obtain ⟨cells, hc⟩ := Kd.R_typed h b hb
  obtain ⟨cells', hc'⟩ := Kd.R_typed h' b e
  rw [hc] at hc'
  cases hc'
theorem RI.ne_iter {base : Nat} {w : World} {v : Value} {xs : List Int} (h : RI base w v xs) {b r c cnt : Nat} {f : Int → Option Int} {left : Int → Bool} (hi : IMR w b r c f left cnt) : v.ownBlock ≠ some r := by
  intro e
  obtain ⟨cells, hc⟩ := Kd.R_typed h r e
  obtain ⟨_, _, _, _, hr⟩ := hi.iter
  rw [hc] at hr
  cases hr
theorem RP.ne_iter {base : Nat} {w : World} {v : Value} {xs : List (Int × Int)} (h : RP base w v xs) {b r c cnt : Nat} {f : Int → Option Int} {left : Int → Bool} (hi : IMR w b r c f left cnt) : v.ownBlock ≠ some r := by
  intro e
  obtain ⟨cells, hc⟩ := Kd.R_typed h r e
  obtain ⟨_, _, _, _, hr⟩ := hi.iter
  rw [hc] at hr
  cases hr
theorem IM.ne_iter {w : World} {b n b' r c cnt : Nat} {f' f : Int → Option Int} {left : Int → Bool} (h : IM w b' n f') (hi : IMR w b r c f left cnt) : b' ≠ r := by
  intro e
  subst e
  obtain ⟨_, _, ho⟩ := h.obj
  obtain ⟨_, _, _, _, hr⟩ := hi.iter
  rw [ho] at hr
  cases hr
/-- Rows of numbers that lie apart. -/
def Sep (v u : Value) : Prop := ∀ b, v.ownBlock = some b → u.ownBlock ≠ some b
theorem Sep.symm {v u : Value} (h : Sep v u) : Sep u v := fun b hb e => h b e hb
structure St (w0 w : World) (bf br n m : Nat) (fm rd : Int → Option Int) (vf : Value) (free : List Int) (vo : Value) (ord : List Int) (vp : Value) (out : List (Int × Int)) : Prop where
  F : IM w bf n fm
  R : IM w br m rd
  f : RI w0.heap.size w vf free
  o : RI w0.heap.size w vo ord
  p : RP w0.heap.size w vp out
  sep : Sep vf vo
  ne : bf ≠ br
  lf : w0.heap.size ≤ bf
  lr : w0.heap.size ≤ br
  b : Below w0.heap.size w0 w
section
variable {w0 w w' : World} {bf br n m n' m' : Nat} {fm rd fm' rd' : Int → Option Int} {vf vo vp v1 : Value} {free free' ord ord' : List Int} {out out' : List (Int × Int)}
theorem St.grow (h : St w0 w bf br n m fm rd vf free vo ord vp out) (hg : w.grownBy w' none) : St w0 w' bf br n m fm rd vf free vo ord vp out :=
  { h with
    F := h.F.kept hg (by simp), R := h.R.kept hg (by simp), f := h.f.kept hg (.inl rfl), o := h.o.kept hg (.inl rfl), p := h.p.kept hg (.inl rfl)
    b := h.b.trans (below_one hg (fun b e => by cases e) h.b.size) }
theorem St.updF (h : St w0 w bf br n m fm rd vf free vo ord vp out) (hg : w.grownBy w' (some bf)) (hF : IM w' bf n' fm') : St w0 w' bf br n' m fm' rd vf free vo ord vp out :=
  { h with
    F := hF, R := h.R.kept hg (by simpa using h.ne.symm), f := h.f.kept hg (.inr (h.f.ne_map h.F)), o := h.o.kept hg (.inr (h.o.ne_map h.F)), p := h.p.kept hg (.inr (h.p.ne_map h.F))
    b := h.b.trans (below_one hg (fun b e => by cases e; exact h.lf) h.b.size) }
theorem St.updR (h : St w0 w bf br n m fm rd vf free vo ord vp out) (hg : w.grownBy w' (some br)) (hR : IM w' br m' rd') : St w0 w' bf br n m' fm rd' vf free vo ord vp out :=
  { h with
    R := hR, F := h.F.kept hg (by simpa using h.ne), f := h.f.kept hg (.inr (h.f.ne_map h.R)), o := h.o.kept hg (.inr (h.o.ne_map h.R)), p := h.p.kept hg (.inr (h.p.ne_map h.R))
    b := h.b.trans (below_one hg (fun b e => by cases e; exact h.lr) h.b.size) }
theorem own_ge_of {w : World} {base e size n : Nat} {v : Value} {xs : List Value} (h : w.ownsRow base e size v n xs) {b : Nat} (hb : v.ownBlock = some b) : base ≤ b := by
  obtain ⟨_, ⟨rfl, _⟩ | ⟨g, _, _, rfl, hg, _⟩⟩ := h
  · cases hb
  · cases hb; exact hg
theorem RI.own_ge {base : Nat} {w : World} {v : Value} {xs : List Int} (h : RI base w v xs) {b : Nat} (hb : v.ownBlock = some b) : base ≤ b := by
  obtain ⟨_, h1⟩ := Kd.R_own h
  exact own_ge_of h1 hb
theorem RP.own_ge {base : Nat} {w : World} {v : Value} {xs : List (Int × Int)} (h : RP base w v xs) {b : Nat} (hb : v.ownBlock = some b) : base ≤ b := by
  obtain ⟨_, h1⟩ := Kd.R_own h
  exact own_ge_of h1 hb
theorem St.appF (h : St w0 w bf br n m fm rd vf free vo ord vp out) (hg : w.grownBy w' vf.ownBlock) (hv : v1.ownBlock = vf.ownBlock ∨ ∃ b, v1.ownBlock = some b ∧ w.heap.size ≤ b) (hf : RI w0.heap.size w' v1 free') : St w0 w' bf br n m fm rd v1 free' vo ord vp out :=
  { h with
    f := hf, F := h.F.kept hg (h.f.ne_map h.F), R := h.R.kept hg (h.f.ne_map h.R), o := h.o.kept hg (by
      cases e : vf.ownBlock with
      | none => exact .inl rfl
      | some b => exact .inr (fun c => h.sep b e c.symm))
    p := h.p.kept hg (by
      cases e : vf.ownBlock with
      | none => exact .inl rfl
      | some b => exact .inr (fun c => h.f.ne_RP h.p e c.symm))
    sep := fun b hb => by
      rcases hv with c | ⟨b', c1, c2⟩
      · exact h.sep b (by rw [← c]; exact hb)
      · rw [c1] at hb; cases hb
        intro e; have := h.o.old e; omega
    b := h.b.trans (below_one hg (fun b e => h.f.own_ge e) h.b.size) }
theorem St.appO (h : St w0 w bf br n m fm rd vf free vo ord vp out) (hg : w.grownBy w' vo.ownBlock) (hv : v1.ownBlock = vo.ownBlock ∨ ∃ b, v1.ownBlock = some b ∧ w.heap.size ≤ b) (ho : RI w0.heap.size w' v1 ord') : St w0 w' bf br n m fm rd vf free v1 ord' vp out :=
  { h with
    o := ho, F := h.F.kept hg (h.o.ne_map h.F), R := h.R.kept hg (h.o.ne_map h.R), f := h.f.kept hg (by
      cases e : vo.ownBlock with
      | none => exact .inl rfl
      | some b => exact .inr (fun c => h.sep b c.symm e))
    p := h.p.kept hg (by
      cases e : vo.ownBlock with
      | none => exact .inl rfl
      | some b => exact .inr (fun c => h.o.ne_RP h.p e c.symm))
    sep := fun b hb => by
      rcases hv with c | ⟨b', c1, c2⟩
      · rw [c]; exact h.sep b hb
      · rw [c1]; intro e; cases e
        have := h.f.old hb; omega
    b := h.b.trans (below_one hg (fun b e => h.o.own_ge e) h.b.size) }
theorem St.appP (h : St w0 w bf br n m fm rd vf free vo ord vp out) (hg : w.grownBy w' vp.ownBlock) (hp : RP w0.heap.size w' v1 out') : St w0 w' bf br n m fm rd vf free vo ord v1 out' :=
  { h with
    p := hp, F := h.F.kept hg (h.p.ne_map h.F), R := h.R.kept hg (h.p.ne_map h.R)
    f := h.f.kept hg (by
      cases e : vp.ownBlock with
      | none => exact .inl rfl
      | some b => exact .inr (fun c => h.f.ne_RP h.p c.symm e))
    o := h.o.kept hg (by
      cases e : vp.ownBlock with
      | none => exact .inl rfl
      | some b => exact .inr (fun c => h.o.ne_RP h.p c.symm e))
    b := h.b.trans (below_one hg (fun b e => h.p.own_ge e) h.b.size) }
theorem St.takeF {A : Option Addr} {l c k : Nat} (h : St w0 w bf br n m fm rd (.slice A l c) free vo ord vp out) (hk : k ≤ free.length) : St w0 w bf br n m fm rd (.slice A k c) (free.take k) vo ord vp out :=
  { h with
    f := Kd.R_take h.f hk
    sep := fun b hb => h.sep b (by cases A with
      | none => cases hb
      | some a => exact hb) }
theorem St.iter {r c cnt : Nat} {left : Int → Bool} (h : St w0 w bf br n m fm rd vf free vo ord vp out) (hi : IMR w bf r c fm left cnt) (hr : w0.heap.size ≤ r) (hg : w.grownBy w' (some r)) : St w0 w' bf br n m fm rd vf free vo ord vp out :=
  { h with
    F := h.F.kept hg (by simpa using (h.F.ne_iter hi)), R := h.R.kept hg (by simpa using (h.R.ne_iter hi)), f := h.f.kept hg (.inr (fun e => h.f.ne_iter hi e.symm)), o := h.o.kept hg (.inr (fun e => h.o.ne_iter hi e.symm)), p := h.p.kept hg (.inr (fun e => h.p.ne_iter hi e.symm))
    b := h.b.trans (below_one hg (fun b e => by cases e; exact hr) h.b.size) }
end
section
variable {ops : Array Oper} {rest : List Oper} {o : Oper} {a : Act} {Q : Exit → Act → World → Prop} {W : World}
theorem ev_look' (hgd : o.guard = none) {m x : Operand} (ho : o.op = .lookup 28 m x false) {b c : Nat} {f : Int → Option Int} {k : Int} (u : Int) (hm : a.eval m = .map (some b)) (hx : a.eval x = .int .i64 k)
    (h : IM W b c f) (hk : In64 k) (hu : (f k).getD 0 = u) (K : wpList Try.prog ops Q rest (a.put o.dst (.int .i64 u)) W) : wpList Try.prog ops Q (o :: rest) a W :=
  ev_look hgd ho hm hx h hk (fun _ => by rw [hu]; exact K)
theorem ev_ok' (hgd : o.guard = none) {m x : Operand} (ho : o.op = .lookup 28 m x true) {b c : Nat} {f : Int → Option Int} {k : Int} (u : Int) (bb : Bool) (hm : a.eval m = .map (some b)) (hx : a.eval x = .int .i64 k)
    (h : IM W b c f) (hk : In64 k) (hu : (f k).getD 0 = u) (hb : (f k).isSome = bb) (K : wpList Try.prog ops Q rest (a.put o.dst (.tuple #[.int .i64 u, .bool bb])) W) : wpList Try.prog ops Q (o :: rest) a W :=
  ev_ok hgd ho hm hx h hk (fun _ => by rw [hu, hb]; exact K)
end
theorem Inv.n_le {L : List (Int × Int)} {t : Int} {fm rd : Int → Option Int} {free : List Int} {out : List (Int × Int)} {B : List Int} {n at_ : Nat} (h : Inv L t fm rd free out B n at_) : n ≤ (ky L).length := by
  rw [h.num]; exact List.countP_le_length
theorem Inv.out_le {L : List (Int × Int)} {t : Int} {fm rd : Int → Option Int} {free : List Int} {out : List (Int × Int)} {B : List Int} {n at_ : Nat} (h : Inv L t fm rd free out B n at_) : out.length ≤ (ky L).length + at_ := by
  have h1 := h.len
  have h2 := h.blen
  omega
theorem Inv.free_le {L : List (Int × Int)} {t : Int} {fm rd : Int → Option Int} {free : List Int} {out : List (Int × Int)} {B : List Int} {n at_ : Nat} (h : Inv L t fm rd free out B n at_) : free.length ≤ (ky L).length :=
  sub_len h.fnodup (fun r hr => h.keys r (h.fok r hr).1)
theorem bend_step {fm f : Int → Option Int} {left : Int → Bool} {r t k v : Int} (h : ∀ x, f x = if left x = true then fm x else bend fm r t x) (hl : left k = true) (hk : f k = some v) :
    (v = r → ∀ x, mup f k t x = if (left x && decide (x ≠ k)) = true then fm x else bend fm r t x) ∧ (v ≠ r → ∀ x, f x = if (left x && decide (x ≠ k)) = true then fm x else bend fm r t x) := by
  have hfk : fm k = some v := by rw [← hk, h k, if_pos hl]
  refine ⟨fun e x => ?_, fun e x => ?_⟩
  · unfold mup
    by_cases c : x = k
    · subst c
      simp [bend, hfk, e]
    · rw [if_neg c, h x]
      simp [c]
  · by_cases c : x = k
    · subst c
      simp [bend, hk, hfk, e]
    · rw [h x]
      simp [c]
theorem rd_at {base : Nat} {w : World} {A : Option Addr} {n c : Nat} {xs : List Int} (h : RI base w (.slice A n c) xs) (i : Int) (h0 : 0 ≤ i) (hi : i < n) : ∃ g, A = some ⟨g, 0, none⟩ ∧ w.cell? ⟨g, i.toNat, none⟩ = some (.int .i64 (xs.getD i.toNat 0)) :=
  h.at i.toNat (by omega)
end Go.Proofs.Ytdodmjnicnpefaa.Q
