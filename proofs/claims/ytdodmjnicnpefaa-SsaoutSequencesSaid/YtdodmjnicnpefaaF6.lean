/- May of the statement: what it answers. -/
import Derived.Test.YtdodmjnicnpefaaRw
namespace Go.Proofs.Ytdodmjnicnpefaa.Q
open Go.RowKit Go.Proofs.YtdodmjnicnpefaaW.PrintWords Go.Proofs.YtdodmjnicnpefaaW.PrintLast Go.Proofs.YtdodmjnicnpefaaW.PrintMore
set_option linter.unusedVariables false
set_option linter.unusedSimpArgs false
/-- A move that may be. -/
def good (t : Int) (m : Int × Int) : Prop := 0 ≤ m.1 ∧ 0 ≤ m.2 ∧ m.1 ≠ t ∧ m.2 ≠ t
/-- Moves that may be. -/
def okL (L : List (Int × Int)) (t : Int) : Prop := 0 ≤ t ∧ (∀ m ∈ L, good t m) ∧ (L.map (·.1)).Nodup
def el (L : List (Int × Int)) (i : Nat) : Int × Int := L.getD i (0, 0)
theorem el_get {L : List (Int × Int)} {i : Nat} (h : i < L.length) : el L i = L[i] := by simp [el, h]
theorem el_mem {L : List (Int × Int)} {i : Nat} (h : i < L.length) : el L i ∈ L := by rw [el_get h]; exact List.getElem_mem h
theorem take_el {L : List (Int × Int)} {i : Nat} (h : i < L.length) : L.take (i + 1) = L.take i ++ [el L i] := by rw [el_get h, List.take_succ_eq_append_getElem h]
theorem pair_at {w : World} {A : Option Addr} {L : List (Int × Int)} (h : kp.C w A L.length L) (i : Nat) (hi : i < L.length) :
    ∃ ad, A = some ad ∧ w.cell? (ad.add (i * 2)) = some (.int .i64 (el L i).1) ∧ w.cell? { block := (ad.add (i * 2)).block, off := (ad.add (i * 2)).off + 1, spot := none } = some (.int .i64 (el L i).2) := by
  obtain ⟨ad, c, e, hl, hK, hc⟩ := Kd.C_get h (0, 0) (i : Int) (by omega) (by omega)
  obtain ⟨c1, c2, rfl, rfl, rfl⟩ := hK
  simp only [Int.toNat_natCast] at hc
  have h0 := hc 0 _ rfl
  have h1 := hc 1 _ rfl
  refine ⟨ad, e, h0, ?_⟩
  have e2 : ad.add (i * 2 + 1) = { block := (ad.add (i * 2)).block, off := (ad.add (i * 2)).off + 1, spot := none } := by
    unfold Addr.add
    by_cases hz : i * 2 = 0
    · simp [hz]
    · simp [hz]; omega
  rw [← e2]
  exact h1
theorem el_ne {L : List (Int × Int)} (h : (L.map (·.1)).Nodup) {i j : Nat} (hj : j < i) (hi : i < L.length) : (el L j).1 ≠ (el L i).1 := by
  rw [el_get hi, el_get (by omega)]
  intro e
  have h1 := List.pairwise_iff_getElem.1 h j i (by simp; omega) (by simp; omega) hj
  simp only [List.getElem_map] at h1
  exact h1 e
set_option maxHeartbeats 8000000 in
set_option maxRecDepth 100000 in
theorem May.calls (L : List (Int × Int)) (t : Int) (w : World) (A : Option Addr) (c : Nat) (h : kp.C w A L.length L) (hn : L.length ≤ 1000000) :
    Calls Try.prog 6 #[.slice A L.length c, .int .i64 t] w fun e w' => ∃ b : Bool, e = .returned (.bool b) ∧ (b = true ↔ okL L t) ∧ Drawn0 w w' := by
  have HC := Aside0.mk h
  have HN := Aside0.mk hn
  clear h hn
  go_enter Try.func6, Try.ntmps6
  by_cases ht : t < 0
  · have d0 : decide (t < 0) = true := decide_eq_true ht
    go_wp2
    go_ret
    refine ⟨false, rfl, ?_, ?_⟩
    · simp [okL]; omega
    · exact Drawn0.refl _
  have d0 : decide (t < 0) = false := decide_eq_false ht
  have HT := Aside0.mk ht
  clear ht
  go_wp2
  go_loopg [5] L.length (fun kq v w' => ∃ i : Nat, v = .int .i64 i ∧ Aside0 (i + kq = L.length) ∧ Aside0 ((∀ m ∈ L.take i, good t m) ∧ ((L.take i).map (·.1)).Nodup) ∧ Drawn0 w w')
  case atStart => exact ⟨0, rfl, ⟨by omega⟩, ⟨by simp⟩, Drawn0.refl _⟩
  case round =>
    obtain ⟨i, rfl, HI, HG, ⟨m1, rfl⟩⟩ := hrel
    by_cases hi : i < L.length
    · have e1 : decide ((i : Int) < (L.length : Int)) = true := decide_eq_true (by omega)
      have p1 : (0 : Int) ≤ (i : Int) := by omega
      have q1 : (i : Int) < (L.length : Int) := by omega
      obtain ⟨ad, rfl, hx, hy⟩ := pair_at HC.out i hi
      have e1n : decide (i < L.length) = true := decide_eq_true hi
      by_cases hg : good t (el L i)
      · have g1 : decide ((el L i).1 < 0) = false := decide_eq_false (by have := hg.1; omega)
        have g2 : decide ((el L i).2 < 0) = false := decide_eq_false (by have := hg.2.1; omega)
        have g3 : ((el L i).1 == t) = false := beq_eq_false_iff_ne.mpr hg.2.2.1
        have g4 : ((el L i).2 == t) = false := beq_eq_false_iff_ne.mpr hg.2.2.2
        have HG2 := Aside0.mk hg
        clear hg
        go_wp2
        go_loopg [6] i (fun kq v w' => ∃ j : Nat, v = .int .i64 j ∧ Aside0 (j + kq = i) ∧ Aside0 (∀ m ∈ L.take j, m.1 ≠ (el L i).1) ∧ Drawn0 w w')
        case atStart => exact ⟨0, rfl, ⟨by omega⟩, ⟨by simp⟩, by repeat (first | exact Drawn0.refl _ | apply Drawn0.step)⟩
        case round =>
          obtain ⟨j, rfl, HJ, HM, ⟨m2, rfl⟩⟩ := hrel
          by_cases hj : j < i
          · have e2 : decide ((j : Int) < (i : Int)) = true := decide_eq_true (by omega)
            have p2 : (0 : Int) ≤ (j : Int) := by omega
            have q2 : (j : Int) < (L.length : Int) := by omega
            obtain ⟨ad', e', hx', hy'⟩ := pair_at HC.out j (by omega)
            obtain rfl : ad = ad' := Option.some.inj e'
            have w4 : IntKind.i64.wrap ((j : Int) + 1) = (j : Int) + 1 := (i64_w _).trans (by have := HN.out; unfold wrap64; omega)
            by_cases hs : (el L j).1 = (el L i).1
            · have g5 : ((el L j).1 == (el L i).1) = true := beq_iff_eq.mpr hs
              have HS := Aside0.mk hs
              clear hs
              go_wp2
              repeat (go_quiet (fail))
              go_wp2
              go_ret
              refine ⟨false, rfl, ?_, (by repeat (first | exact Drawn0.refl _ | apply Drawn0.step))⟩
              refine ⟨fun h => (by cases h), fun h => ?_⟩
              exact absurd HS.out (el_ne h.2.2 hj hi)
            · have g5 : ((el L j).1 == (el L i).1) = false := beq_eq_false_iff_ne.mpr hs
              have HS := Aside0.mk hs
              clear hs
              go_wp2
              repeat (go_quiet (fail))
              go_wp2
              go_roundg (i - (j + 1))
              case measure => have := HJ.out; omega
              case rel => exact ⟨j + 1, by (try simp only [w4]); rfl, ⟨by omega⟩, ⟨by
                intro m hm
                rw [take_el (by omega)] at hm
                rcases List.mem_append.1 hm with h1 | h1
                · exact HM.out m h1
                · rw [List.mem_singleton.1 h1]; exact HS.out⟩, (by repeat (first | exact Drawn0.refl _ | apply Drawn0.step))⟩
          · have e2 : decide ((j : Int) < (i : Int)) = false := decide_eq_false (by omega)
            have e2n : decide (j < i) = false := decide_eq_false (by omega)
            have HJ2 := Aside0.mk hj
            clear hj
            have w4 : IntKind.i64.wrap ((i : Int) + 1) = (i : Int) + 1 := (i64_w _).trans (by have := HN.out; unfold wrap64; omega)
            go_wp2
            go_roundg (L.length - (i + 1))
            case measure => have := HI.out; omega
            case rel => exact ⟨i + 1, by (try simp only [w4]); rfl, ⟨by omega⟩, ⟨by
              have hij : j = i := by have := HJ.out; have := HJ2.out; omega
              subst hij
              rw [take_el hi]
              refine ⟨fun m hm => ?_, ?_⟩
              · rcases List.mem_append.1 hm with h1 | h1
                · exact HG.out.1 m h1
                · rw [List.mem_singleton.1 h1]; exact HG2.out
              · rw [List.map_append, List.nodup_append]
                refine ⟨HG.out.2, by simp, ?_⟩
                intro x hx y hy
                obtain ⟨m, hm, rfl⟩ := List.mem_map.1 hx
                simp only [List.map_cons, List.map_nil, List.mem_singleton] at hy
                rw [hy]
                exact HM.out m hm⟩, (by repeat (first | exact Drawn0.refl _ | apply Drawn0.step))⟩
      · have HNG := Aside0.mk hg
        clear hg
        by_cases c1 : (el L i).1 < 0
        · have g1 : decide ((el L i).1 < 0) = true := decide_eq_true c1
          clear c1
          go_wp2
          go_ret
          refine ⟨false, rfl, ⟨fun h => (by cases h), fun h => absurd (h.2.1 _ (el_mem hi)) HNG.out⟩, (by repeat (first | exact Drawn0.refl _ | apply Drawn0.step))⟩
        have g1 : decide ((el L i).1 < 0) = false := decide_eq_false c1
        by_cases c2 : (el L i).2 < 0
        · have g2 : decide ((el L i).2 < 0) = true := decide_eq_true c2
          clear c1 c2
          go_wp2
          go_ret
          refine ⟨false, rfl, ⟨fun h => (by cases h), fun h => absurd (h.2.1 _ (el_mem hi)) HNG.out⟩, (by repeat (first | exact Drawn0.refl _ | apply Drawn0.step))⟩
        have g2 : decide ((el L i).2 < 0) = false := decide_eq_false c2
        by_cases c3 : (el L i).1 = t
        · have g3 : ((el L i).1 == t) = true := beq_iff_eq.mpr c3
          clear c1 c2 c3
          go_wp2
          go_ret
          refine ⟨false, rfl, ⟨fun h => (by cases h), fun h => absurd (h.2.1 _ (el_mem hi)) HNG.out⟩, (by repeat (first | exact Drawn0.refl _ | apply Drawn0.step))⟩
        have g3 : ((el L i).1 == t) = false := beq_eq_false_iff_ne.mpr c3
        have c4 : (el L i).2 = t := by
          apply Classical.byContradiction
          intro c4
          exact HNG.out ⟨by omega, by omega, c3, c4⟩
        have g4 : ((el L i).2 == t) = true := beq_iff_eq.mpr c4
        clear c1 c2 c3 c4
        go_wp2
        go_ret
        refine ⟨false, rfl, ⟨fun h => (by cases h), fun h => absurd (h.2.1 _ (el_mem hi)) HNG.out⟩, (by repeat (first | exact Drawn0.refl _ | apply Drawn0.step))⟩
    · have e1 : decide ((i : Int) < (L.length : Int)) = false := decide_eq_false (by omega)
      have e1n : decide (i < L.length) = false := decide_eq_false hi
      have HI2 := Aside0.mk hi
      clear hi
      go_wp2
      go_ret
      refine ⟨true, rfl, ⟨fun _ => ?_, fun _ => rfl⟩, (by repeat (first | exact Drawn0.refl _ | apply Drawn0.step))⟩
      have hil : i = L.length := by have := HI.out; have := HI2.out; omega
      have hG := HG.out
      rw [hil, List.take_length] at hG
      exact ⟨HT.out, hG.1, hG.2⟩
end Go.Proofs.Ytdodmjnicnpefaa.Q
