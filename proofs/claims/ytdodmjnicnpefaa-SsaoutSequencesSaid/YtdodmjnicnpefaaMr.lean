/- A map under way that is turned at a key that stands in it. -/
import Derived.Test.YtdodmjnicnpefaaPs
namespace Go.Proofs.Ytdodmjnicnpefaa.Q
open Go.Maps Go.WideShapes Go.MapKept Go.ChangeMaps
open Go.WideElems (Fit rd rg pl rd_val rd_key rg_of elemAt)
set_option linter.unusedVariables false
section
variable {H : Type} {P : Program} {k : TypeId} {R : Value → Option (DataW H × List MemPlace)} {w : World} {b r n : Nat} {D : DataW H} {left : Lit → Bool} {cnt : Nat}
theorem setBlock_inj {w : World} {b : Nat} {o o' : Obj} (hb : b < w.heap.size) (h : setBlock w b o = setBlock w b o') : o = o' := by
  have h1 : (setBlock w b o).heap[b]? = some o := (heap_set (o' := o) (Array.getElem?_eq_getElem hb)).1
  have h2 : (setBlock w b o').heap[b]? = some o' := (heap_set (o' := o') (Array.getElem?_eq_getElem hb)).1
  rw [h, h2] at h1
  exact (Option.some.inj h1).symm
theorem len_filter_set {α : Type} (p : α → Bool) : ∀ (l : List α) (j : Nat) (a a' : α), l[j]? = some a → p a' = p a → ((l.set j a').filter p).length = (l.filter p).length
  | [], _, _, _, h, _ => by simp at h
  | x :: l, 0, a, a', h, hp => by
    simp only [List.getElem?_cons_zero, Option.some.injEq] at h
    subst h
    simp only [List.set_cons_zero, List.filter_cons, hp]
    split <;> rfl
  | x :: l, j + 1, a, a', h, hp => by
    simp only [List.getElem?_cons_succ] at h
    simp only [List.set_cons_succ, List.filter_cons]
    have := len_filter_set p l j a a' h hp
    split <;> simp [this]
theorem ranges_store {t e : TypeId} (h : w.ranges P k R b r n D left cnt) (K : Keyed P k) (ht : P.underlying t = some (.map k e)) (hn : n < maxLen) {key val : Value} {kl : Lit} {d : DataW H} {ps : List MemPlace}
    (hkey : keyOf P k key = some kl) (hv : R val = some (d, ps)) (hh : Maps.has D kl = true) :
    ∃ w', (Instr.mapUpdate t (.map (some b)) key val).run P w = .ok () w' ∧ w'.ranges P k R b r n (D.put kl d) left cnt ∧ w.grownBy w' (some b) := by
  have hne := h.ne
  obtain ⟨es, clock, since, seen, c0, hb, F, hs, rfl, hr, hold, rfl, hl1, hl2, hsc, hsk⟩ := h
  obtain ⟨es', clock', hrun, F', hput, _⟩ := Maps.fit_store (R' := R) K ht hb F (Nat.lt_of_le_of_lt hs hn) (fun _ _ _ _ hz => hz) hkey hv
  have hblt : b < w.heap.size := (Array.getElem?_eq_some_iff.1 hb).1
  rcases K.find w hkey es.toList F.keys with ⟨h1, h2⟩ | ⟨j, e0, h1, h2, h3⟩
  · exfalso
    obtain ⟨p, hp, hpk⟩ := List.any_eq_true.1 hh
    obtain ⟨x, hx, rfl⟩ := List.mem_map.1 (mem_sorted.1 hp)
    obtain ⟨y, hy⟩ := F.reads x hx
    have e1 := WideAt.sameKey_eq hpk
    have m1 := rd_key hy
    rw [rg_of hy] at e1
    rw [e1] at m1
    exact h2 x hx (K.inj m1 hkey)
  · have hj : es[j]? = some e0 := by simpa using h2
    have hrun2 : (Instr.mapUpdate t (.map (some b)) key val).run P w = .ok () (setBlock w b (.map (es.modify j (fun e' => { e' with key := key, val := val })) clock)) := by
      simp [Instr.mapUpdate, run_underlying ht, MapKept.run_getObj_map hb, K.check w false hkey, h1, hj, h3, K.stays w hkey, MapKept.run_setObj_map _ hb, Result.andThen, setBlock]
    rw [hrun] at hrun2
    have heq : Obj.map es' clock' = Obj.map (es.modify j (fun e' => { e' with key := key, val := val })) clock := setBlock_inj hblt (by injection hrun2)
    injection heq with he1 he2
    have hlist : es'.toList = es.toList.set j { e0 with key := key, val := val } := by rw [he1, Array.toList_modify, modify_eq_set _ _ _ _ h2]
    have hm0 : e0 ∈ es.toList := List.mem_of_getElem? h2
    have hk0 : (rg P k R e0).1 = kl := by
      obtain ⟨y, hy⟩ := F.reads e0 hm0
      have m1 := rd_key hy
      rw [h3, hkey] at m1
      rw [rg_of hy]
      exact (Option.some.inj m1).symm
    have hmN : ({ e0 with key := key, val := val } : MapEntry) ∈ es'.toList := by
      rw [hlist]
      have hjl : j < es.toList.length := (List.getElem?_eq_some_iff.1 h2).1
      exact List.mem_iff_getElem.2 ⟨j, by simpa using hjl, by simp⟩
    have hkN : (rg P k R ({ e0 with key := key, val := val } : MapEntry)).1 = kl := by
      obtain ⟨y, hy⟩ := F'.reads _ hmN
      have m1 := rd_key hy
      simp only [hkey] at m1
      rw [rg_of hy]
      exact (Option.some.inj m1).symm
    have who : ∀ x ∈ es'.toList, x = { e0 with key := key, val := val } ∨ x ∈ es.toList := fun x hx => by
      rw [hlist] at hx
      rcases List.mem_or_eq_of_mem_set hx with c | c
      · exact .inr c
      · exact .inl c
    have back : ∀ x ∈ es.toList, x = e0 ∨ x ∈ es'.toList := fun x hx => by
      obtain ⟨i, hi⟩ := List.getElem?_of_mem hx
      by_cases e : i = j
      · subst e; rw [h2] at hi; exact .inl (Option.some.inj hi).symm
      · refine .inr ?_
        rw [hlist]
        refine List.mem_of_getElem? (i := i) ?_
        rw [List.getElem?_set_ne (Ne.symm e)]
        exact hi
    refine ⟨_, hrun, ⟨es', clock', since, seen, c0, heap_setBlock_same hb _, F', ?_, ?_, (heap_setBlock_other hb _ hne).trans hr, ?_, ?_, ?_, ?_, hsc, ?_⟩, ⟨rfl, rfl, rfl, by simp [setBlock], fun i _ hi => heap_setBlock_other hb _ (fun e => hi (by rw [e]))⟩⟩
    · have e1 : es'.toList.length = es.toList.length := by rw [hlist]; simp
      simp only [Array.length_toList] at e1
      omega
    · rw [DataW.put_eq, hput]
    · intro x hx
      rcases who x hx with rfl | c
      · exact hold e0 hm0
      · exact hold x c
    · have e1 : ∀ a : Array MapEntry, (leftOf a seen).size = (a.toList.filter fun e => !seen.contains e.born).length := fun a => by
        unfold leftOf
        rw [← Array.toList_filter, Array.length_toList]
      rw [e1, e1, hlist]
      exact len_filter_set _ _ _ _ _ h2 rfl
    · intro x hx
      rcases who x hx with rfl | c
      · rw [hkN, ← hk0]; exact hl1 e0 hm0
      · exact hl1 x c
    · intro q hq
      obtain ⟨x, hx, rfl⟩ := hl2 q hq
      rcases back x hx with rfl | c
      · exact ⟨_, hmN, by rw [hkN, hk0]⟩
      · exact ⟨x, c, rfl⟩
    · rw [he2]; exact hsk
end
theorem IMR.upd {w : World} {b r c : Nat} {f : Int → Option Int} {left : Int → Bool} {cnt : Nat} (h : IMR w b r c f left cnt) (hn : c < maxLen) {k v : Int} (hk : In64 k) (hv : In64 v) (hf : (f k).isSome = true) :
    ∃ w', (Instr.mapUpdate 28 (.map (some b)) (.int .i64 k) (.int .i64 v)).run Try.prog w = .ok () w' ∧ IMR w' b r c (mup f k v) left cnt ∧ w.grownBy w' (some b) := by
  obtain ⟨D, lf, h1, h0, h2, h3⟩ := h
  have hm : IsMap D := h1.owns.isMap
  have ht : Tidy D := h1.owns.tidy keyed
  have hh : Maps.has D (kl k) = true := by rw [(h2 k).1]; exact hf
  obtain ⟨w', r1, r2, r3⟩ := ranges_store h1 keyed Try.underlying28 hn (key_mk hk) (plainElem_int Try.underlying3 hv) hh
  refine ⟨w', r1, ⟨_, lf, r2, ?_, fun x => ?_, h3⟩, r3⟩
  · rw [size_put ht, hh, h0]; simp
  · unfold mup
    by_cases e : x = k
    · subst e
      rw [if_pos rfl]
      exact ⟨has_put_same hm (kl_key x) _, atKey_put_same hm (kl_key x) _ _⟩
    · rw [if_neg e]
      exact ⟨(has_put_other (kl_ne e) _).trans (h2 x).1, (atKey_put_other (kl_ne e) _ _).trans (h2 x).2⟩
theorem ev_upd_r {ops : Array Oper} {rest : List Oper} {o : Oper} {a : Act} {Q : Exit → Act → World → Prop} {W : World} (hgd : o.guard = none) {m x v : Operand} (ho : o.op = .mapUpdate 28 m x v) (hN : o.dst = none) {b r c cnt : Nat} {f : Int → Option Int} {left : Int → Bool} {k u : Int} (hm : a.eval m = .map (some b)) (hx : a.eval x = .int .i64 k) (hv : a.eval v = .int .i64 u)
    (h : IMR W b r c f left cnt) (hc : c < maxLen) (hk : In64 k) (hu : In64 u) (hf : (f k).isSome = true)
    (K : ∀ w', IMR w' b r c (mup f k u) left cnt → W.grownBy w' (some b) → wpList Try.prog ops Q rest a w') : wpList Try.prog ops Q (o :: rest) a W := by
  obtain ⟨w', r1, r2, r3⟩ := h.upd hc hk hu hf
  exact event_skip hgd hN (x := .skip) (.inl rfl) (by simp [execOp, ho, hm, hx, hv, r1, Result.andThen]) (K w' r2 r3)
theorem IMR.ne {w : World} {b r c : Nat} {f : Int → Option Int} {left : Int → Bool} {cnt : Nat} (h : IMR w b r c f left cnt) : r ≠ b := by
  obtain ⟨D, lf, h1, _⟩ := h
  exact h1.ne
theorem IMR.rlt {w : World} {b r c : Nat} {f : Int → Option Int} {left : Int → Bool} {cnt : Nat} (h : IMR w b r c f left cnt) : r < w.heap.size := by
  obtain ⟨D, lf, h1, _⟩ := h
  exact h1.lt
theorem IMR.iter {w : World} {b r c : Nat} {f : Int → Option Int} {left : Int → Bool} {cnt : Nat} (h : IMR w b r c f left cnt) : ∃ m s e c0, w.heap[r]? = some (.mapIter m s e c0) := by
  obtain ⟨D, lf, ⟨es, clock, since, seen, c0, _, _, _, _, hr, _⟩, _⟩ := h
  exact ⟨_, _, _, _, hr⟩
theorem IM.obj {w : World} {b n : Nat} {f : Int → Option Int} (h : IM w b n f) : ∃ es c0, w.heap[b]? = some (.map es c0) := by
  obtain ⟨D, ⟨es, clock, hb, _⟩, _⟩ := h
  exact ⟨_, _, hb⟩
end Go.Proofs.Ytdodmjnicnpefaa.Q
