/- may of the program: what it answers. -/
import Derived.Test.YtdodmjnicnpefaaF6
namespace Go.Proofs.Ytdodmjnicnpefaa.Q
open Go.RowKit Go.Proofs.YtdodmjnicnpefaaW.PrintWords Go.Proofs.YtdodmjnicnpefaaW.PrintLast Go.Proofs.YtdodmjnicnpefaaW.PrintMore
set_option linter.unusedVariables false
set_option linter.unusedSimpArgs false
/-- The numbers of moves are the machine's. -/
def Ins (L : List (Int × Int)) : Prop := ∀ m ∈ L, In64 m.1 ∧ In64 m.2
abbrev fsts (L : List (Int × Int)) : List Int := L.map (·.1)
def MayP (L : List (Int × Int)) (t : Int) (w : World) (e : Ending) (w' : World) : Prop := ∃ b : Bool, e = .returned (.bool b) ∧ (b = true ↔ okL L t) ∧ Below w.heap.size w w'
set_option maxHeartbeats 16000000 in
set_option maxRecDepth 100000 in
theorem may.calls (L : List (Int × Int)) (t : Int) (w : World) (A : Option Addr) (c : Nat) (h : kp.C w A L.length L) (hn : L.length ≤ 1000000) (hin : Ins L) :
    Calls Try.prog 9 #[.slice A L.length c, .int .i64 t] w (MayP L t w) := by
  have HC := Aside0.mk h
  have HN := Aside0.mk hn
  have HIN := Aside0.mk hin
  clear h hn hin
  go_enter Try.func9, Try.ntmps9
  go_wp2_with (first
    | ((with_reducible refine gate_ (.makeMap 28 (some (.tmp 9))) rfl ?_); refine ev_make rfl rfl (fun q hq => ⟨(L.length : Int), (by obtain rfl := Option.some.inj hq; rfl), by omega⟩) ?_; intro b0 w1 hb0 hm1 hg1; have HB1 := Aside0.mk (below_one (B := w.heap.size) hg1 (fun b e => by cases e) (Nat.le_refl _)); have HM1 := Aside0.mk hm1; have HE := Aside0.mk hb0; clear hm1 hg1 hb0)
    | fail)
  go_loopg [13] L.length (fun kq v w' => ∃ (i : Nat) (n : Nat) (f : Int → Option Int), v = .int .i64 i ∧ Aside0 (i + kq = L.length) ∧ Aside0 (IM w' b0 n f) ∧ Aside0 ((∀ m ∈ L.take i, good t m) ∧ (∀ x, (f x).isSome = true ↔ x ∈ fsts (L.take i)) ∧ n ≤ i ∧ (n = i ↔ (fsts (L.take i)).Nodup)) ∧ Aside0 (Below w.heap.size w w'))
  case atStart => exact ⟨0, 0, _, rfl, ⟨by omega⟩, HM1, ⟨by simp⟩, HB1⟩
  case round =>
    obtain ⟨i, n, f, rfl, HI, HM, HG, HB⟩ := hrel
    clear HM1 HB1
    by_cases hi : i < L.length
    · have e1n : decide (i < L.length) = true := decide_eq_true hi
      have e1 : decide ((i : Int) < (L.length : Int)) = true := decide_eq_true (by omega)
      have p1 : (0 : Int) ≤ (i : Int) := by omega
      have q1 : (i : Int) < (L.length : Int) := by omega
      have HC2 := Aside0.mk (Kd.C_below HC.out HB.out)
      obtain ⟨ad, rfl, hx, hy⟩ := pair_at HC2.out i hi
      by_cases hg0 : good t (el L i)
      · have g1 : decide ((el L i).1 < 0) = false := decide_eq_false (by have := hg0.1; omega)
        have g2 : decide ((el L i).2 < 0) = false := decide_eq_false (by have := hg0.2.1; omega)
        have g3 : ((el L i).1 == t) = false := beq_eq_false_iff_ne.mpr hg0.2.2.1
        have g4 : ((el L i).2 == t) = false := beq_eq_false_iff_ne.mpr hg0.2.2.2
        have HG2 := Aside0.mk hg0
        clear hg0
        have HNM := Aside0.mk (show n < maxLen by have h1 := HG.out.2.2.1; have h2 := HN.out; unfold maxLen; omega)
        have hk := (HIN.out _ (el_mem hi)).1
        go_wp2_with (first
          | ((with_reducible refine gate_ (.load 31 (.tmp 15)) rfl ?_); refine ev_load rfl rfl rfl hx hy ?_)
          | ((with_reducible refine gate_ (.alloc 31) rfl ?_); refine ev_box rfl rfl rfl ?_; intro g w2 hg hbx hg2; have HB2 := Aside0.mk (HB.out.trans (below_one (B := w.heap.size) hg2 (fun b e => by cases e) HB.out.size)); have HM2 := Aside0.mk (HM.out.kept hg2 (by simp)); have HE2 := Aside0.mk hg; have HX2 := Aside0.mk hbx; clear hbx hg2 hg hx hy)
          | ((with_reducible refine gate_ (.store 31 (.tmp 7) (.tmp 16)) rfl ?_); refine ev_put rfl rfl rfl rfl rfl HX2.out ?_; intro w3 hbx hg3; have HB3 := Aside0.mk (HB2.out.trans (below_one (B := w.heap.size) hg3 (fun b e => by have h1 := HB.out.size; have h2 := HE2.out; have h3 := Option.some.inj e; omega) HB2.out.size)); have HM3 := Aside0.mk (HM2.out.kept hg3 (by have h1 := HM.out.lt; have h2 := HE2.out; intro e; have h3 := Option.some.inj e; omega)); have hx : w3.cell? ⟨g, 0, none⟩ = some (.int .i64 (el L i).1) := (blk_cell hbx 0).trans rfl; have hy : w3.cell? ⟨g, 1, none⟩ = some (.int .i64 (el L i).2) := (blk_cell hbx 1).trans rfl; clear hbx hg3)
          | ((with_reducible refine gate_ (.lookup 28 (.tmp 37) (.tmp 39) false) rfl ?_); refine ev_look rfl rfl rfl rfl HM3.out hk ?_; intro hv)
          | ((with_reducible refine gate_ (.mapUpdate 28 (.tmp 37) (.tmp 39) (.tmp 41)) rfl ?_); refine ev_upd rfl rfl rfl rfl rfl rfl HM3.out HNM.out hk (in64_w64 _) ?_; intro w4 hm4 hg4; have HM4 := Aside0.mk hm4; have HB4 := Aside0.mk (HB3.out.trans (below_one (B := w.heap.size) hg4 (fun b e => by have h2 := HE.out; have h3 := Option.some.inj e; omega) HB3.out.size)); clear hm4 hg4)
          | fail)
        have w3 : wrap64 ((i : Int) + 1) = (i : Int) + 1 := by have := HN.out; unfold wrap64; omega
        have w4 : IntKind.i64.wrap ((i : Int) + 1) = (i : Int) + 1 := (i64_w _).trans (by have := HN.out; unfold wrap64; omega)
        go_wp2
        go_roundg (L.length - (i + 1))
        case measure => have := HI.out; omega
        case rel => exact ⟨i + 1, _, _, by (try simp only [w4, w3]); rfl, ⟨by omega⟩, HM4, ⟨by
          obtain ⟨a1, a2, a3, a4⟩ := HG.out
          rw [take_el hi]
          have hfs : fsts (L.take i ++ [el L i]) = fsts (L.take i) ++ [(el L i).1] := by simp [fsts]
          rw [hfs]
          refine ⟨fun m hm => ?_, fun x => ?_, ?_, ?_⟩
          · rcases List.mem_append.1 hm with h1 | h1
            · exact a1 m h1
            · rw [List.mem_singleton.1 h1]; exact HG2.out
          · rw [List.mem_append, List.mem_singleton, ← a2]
            unfold mup
            by_cases e : x = (el L i).1
            · simp [e]
            · simp [e]
          · split <;> omega
          · have hlen : (fsts (L.take i)).length = i := by simp [fsts]; omega
            rw [List.nodup_append]
            have hk' := a2 (el L i).1
            split <;> rename_i hs
            · have hs' := hk'.1 hs
              constructor
              · intro; omega
              · intro hh; exact absurd rfl (hh.2.2 _ hs' _ (List.mem_singleton.2 rfl))
            · have hs' : (el L i).1 ∉ fsts (L.take i) := fun hh => hs (hk'.2 hh)
              constructor
              · intro hh
                refine ⟨a4.1 (by omega), by simp, ?_⟩
                intro x hx y hy
                rw [List.mem_singleton.1 hy]
                intro e; rw [e] at hx; exact hs' hx
              · intro hh; have := a4.2 hh.1; omega⟩, HB4⟩
      · have HNG := Aside0.mk hg0
        clear hg0
        have gb : (decide ((el L i).1 < 0) || decide ((el L i).2 < 0) || (el L i).1 == t || (el L i).2 == t) = true := by
          apply Classical.byContradiction
          intro c4
          simp at c4
          exact HNG.out ⟨by omega, by omega, c4.1.2, c4.2⟩
        go_wp2_with (first
          | ((with_reducible refine gate_ (.load 31 (.tmp 15)) rfl ?_); refine ev_load rfl rfl rfl hx hy ?_)
          | ((with_reducible refine gate_ (.alloc 31) rfl ?_); refine ev_box rfl rfl rfl ?_; intro g w2 hg hbx hg2; have HB2 := Aside0.mk (HB.out.trans (below_one (B := w.heap.size) hg2 (fun b e => by cases e) HB.out.size)); have HM2 := Aside0.mk (HM.out.kept hg2 (by simp)); have HE2 := Aside0.mk hg; have HX2 := Aside0.mk hbx; clear hbx hg2 hg hx hy)
          | ((with_reducible refine gate_ (.store 31 (.tmp 7) (.tmp 16)) rfl ?_); refine ev_put rfl rfl rfl rfl rfl HX2.out ?_; intro w3 hbx hg3; have HB3 := Aside0.mk (HB2.out.trans (below_one (B := w.heap.size) hg3 (fun b e => by have h1 := HB.out.size; have h2 := HE2.out; have h3 := Option.some.inj e; omega) HB2.out.size)); have HM3 := Aside0.mk (HM2.out.kept hg3 (by have h1 := HM.out.lt; have h2 := HE2.out; intro e; have h3 := Option.some.inj e; omega)); have hx : w3.cell? ⟨g, 0, none⟩ = some (.int .i64 (el L i).1) := (blk_cell hbx 0).trans rfl; have hy : w3.cell? ⟨g, 1, none⟩ = some (.int .i64 (el L i).2) := (blk_cell hbx 1).trans rfl; clear hbx hg3)
          | fail)
        all_goals go_ret
        all_goals refine ⟨false, rfl, ⟨fun h => (by cases h), fun h => absurd (h.2.1 _ (el_mem hi)) HNG.out⟩, HB3.out⟩
    · have e1 : decide ((i : Int) < (L.length : Int)) = false := decide_eq_false (by omega)
      have e1n : decide (i < L.length) = false := decide_eq_false hi
      have hil : i = L.length := by have := HI.out; omega
      have hG := HG.out
      rw [hil, List.take_length] at hG
      have HG3 := Aside0.mk hG
      have hnn : (n = i ↔ n = L.length) := by rw [hil]
      have hle : n ≤ L.length := by have := HG.out.2.2.1; omega
      have HNL := Aside0.mk (And.intro hnn hle)
      clear hi hG hil hnn hle
      by_cases ht : 0 ≤ t
      · have d1 : decide (0 ≤ t) = true := decide_eq_true ht
        have d1' : decide (t ≥ 0) = true := decide_eq_true ht
        by_cases hq : n = L.length
        · have d2 : ((n : Int) == (L.length : Int)) = true := beq_iff_eq.mpr (by omega)
          have HQ := Aside0.mk hq
          have HT := Aside0.mk ht
          clear hq ht
          go_wp2_with (first
            | ((with_reducible refine gate_ (.call { callee := .builtin .len, args := #[.tmp 46], argTypes := #[28] }) rfl ?_); (try (refine gate_guard (by rfl) ?_; dsimp only)); refine ev_len rfl rfl rfl HM.out ?_)
            | fail)
          go_ret
          exact ⟨true, rfl, ⟨fun _ => ⟨HT.out, HG3.out.1, HG3.out.2.2.2.1 HQ.out⟩, fun _ => rfl⟩, HB.out⟩
        · have d2 : ((n : Int) == (L.length : Int)) = false := beq_eq_false_iff_ne.mpr (by omega)
          have HQ := Aside0.mk hq
          have HT := Aside0.mk ht
          clear hq ht
          go_wp2_with (first
            | ((with_reducible refine gate_ (.call { callee := .builtin .len, args := #[.tmp 46], argTypes := #[28] }) rfl ?_); (try (refine gate_guard (by rfl) ?_; dsimp only)); refine ev_len rfl rfl rfl HM.out ?_)
            | fail)
          go_ret
          exact ⟨false, rfl, ⟨fun h => (by cases h), fun h => absurd (HG3.out.2.2.2.2 h.2.2) HQ.out⟩, HB.out⟩
      · have d1 : decide (0 ≤ t) = false := decide_eq_false ht
        have d1' : decide (t ≥ 0) = false := decide_eq_false ht
        have HT := Aside0.mk ht
        clear ht
        go_wp2_with (first
          | ((with_reducible refine gate_ (.call { callee := .builtin .len, args := #[.tmp 46], argTypes := #[28] }) rfl ?_); (try (refine gate_guard (by rfl) ?_; dsimp only)); refine ev_len rfl rfl rfl HM.out ?_)
          | fail)
        all_goals go_ret
        all_goals exact ⟨false, rfl, ⟨fun h => (by cases h), fun h => absurd h.1 (by have := HT.out; omega)⟩, HB.out⟩
end Go.Proofs.Ytdodmjnicnpefaa.Q
