/- cycles of the statement: how many it tells. -/
import Derived.Test.YtdodmjnicnpefaaPc
import Derived.StillTailTactics
import Derived.StillTactics
namespace Go.Proofs.Ytdodmjnicnpefaa.Q
open Go.RowKit Go.Proofs.YtdodmjnicnpefaaW.PrintWords Go.Proofs.YtdodmjnicnpefaaW.PrintLast Go.Proofs.YtdodmjnicnpefaaW.PrintMore
set_option linter.unusedVariables false
set_option linter.unusedSimpArgs false
theorem region_still {id : Nat} {Q : Exit → Act → World → Prop} {a : Act} {w : World} {l : List Oper} (n : Nat) (hm : Try.prog.follows .mixedOrders = true) (hB : Region.lexTailB .any l.toArray n = true)
    (h : ∀ w6, w.grownBy w6 none → wpStill Try.prog l.toArray w6 (fun a' => wpList Try.prog l.toArray Q (l.drop n) a' w6) (l.take n) a) : (Code.region id l.toArray true).wp Try.prog Q a w :=
  wp_region_still_tail n hm hB (h w.drew (grown_drew w))
set_option maxHeartbeats 32000000 in
set_option maxRecDepth 100000 in
theorem cycles.calls (L : List (Int × Int)) (w : World) (A : Option Addr) (c : Nat) (h : kp.C w A L.length L) (hn : L.length ≤ 1000) (hin : Ins L) :
    Calls Try.prog 8 #[.slice A L.length c] w (CycP L w) := by
  have HC := Aside0.mk h
  have HN := Aside0.mk hn
  have HIN := Aside0.mk hin
  clear h hn hin
  go_enter Try.func8, Try.ntmps8
  go_wp2_with (first
    | ((with_reducible refine gate_dst (N := 12) rfl ?_); refine ev_make rfl rfl (fun q hq => by cases hq) ?_; intro bf w2 hb1 hm1 hg1; have HE1 := Aside0.mk hb1; have HM1 := Aside0.mk hm1; have HG1 := Aside0.mk hg1; clear hb1 hm1 hg1)
    | fail)
  have HBF := Aside0.mk (show w.heap.size ≤ bf from by have := HE1.out; omega)
  have HB1 := Aside0.mk (below_one (B := w.heap.size) HG1.out (fun b e => by cases e) (Nat.le_refl _))
  clear HE1 HG1
  go_loopg [4] L.length (fun kq v w' => ∃ (i n : Nat), v = .int .i64 i ∧ Aside0 (i + kq = L.length ∧ n ≤ i) ∧ Aside0 (IM w' bf n (fo (L.take i))) ∧ Aside0 (Below w.heap.size w w'))
  case atStart => exact ⟨0, 0, rfl, ⟨by omega⟩, HM1, HB1⟩
  case round =>
    clear HM1 HB1
    obtain ⟨i, n, rfl, HI, HM, HB⟩ := hrel
    by_cases hi : i < L.length
    · have e1n : decide (i < L.length) = true := decide_eq_true hi
      have e1 : decide ((i : Int) < (L.length : Int)) = true := decide_eq_true (by omega)
      have p1 : (0 : Int) ≤ (i : Int) := by omega
      have q1 : (i : Int) < (L.length : Int) := by omega
      have HC2 := Aside0.mk (Kd.C_below HC.out HB.out)
      obtain ⟨ad, rfl, hx, hy⟩ := pair_at HC2.out i hi
      have hk1 := Aside0.mk (HIN.out _ (el_mem hi))
      have HIL := Aside0.mk hi
      clear hi
      have w3 : wrap64 ((i : Int) + 1) = (i : Int) + 1 := by have := HN.out; unfold wrap64; omega
      have w4 : IntKind.i64.wrap ((i : Int) + 1) = (i : Int) + 1 := (i64_w _).trans w3
      by_cases hne : (el L i).1 = (el L i).2
      · have g1 : ((el L i).1 != (el L i).2) = false := bne_eq_false_iff_eq.mpr hne
        have HNE := Aside0.mk hne
        clear hne
        go_wp2
        repeat (go_quiet (fail))
        go_wp2
        go_roundg (L.length - (i + 1))
        case measure => have := HI.out; have := HIL.out; omega
        case rel => exact ⟨i + 1, n, by (try simp only [w4, w3]); rfl, ⟨by have := HI.out; have := HIL.out; omega⟩, ⟨by
          rw [take_el HIL.out, fo_snoc, if_pos HNE.out]
          exact HM.out.kept (grown_drewN _ _) (by simp)⟩, ⟨HB.out.trans (below_one (grown_drewN _ _) (fun b e => by cases e) HB.out.size)⟩⟩
      · have g1 : ((el L i).1 != (el L i).2) = true := bne_iff_ne.mpr hne
        have HNE := Aside0.mk hne
        clear hne
        have HNX := Aside0.mk (show n < maxLen by have h1 := HI.out; have h2 := HN.out; unfold maxLen; omega)
        go_wp2
        repeat (go_quiet (fail))
        go_wp2
        refine region_still 11 (by kernel_rfl) (by kernel_rfl) ?_
        intro w6 hg
        replace hg := (grown_drewN wr _).trans hg
        have hx6 := hg.cell hx (by simp)
        have hy6 := hg.cell hy (by simp)
        have HM6 := Aside0.mk (HM.out.kept hg (by simp))
        have HB6 := Aside0.mk (HB.out.trans (below_one hg (fun b e => by cases e) HB.out.size))
        clear hx hy hg
        simp only [List.take_succ_cons, List.take_zero, List.drop_succ_cons, List.drop_zero]
        repeat still_step
        refine wpStill_nil ?_
        go_wp2_with (first
          | ((with_reducible refine gate_ (.mapUpdate 28 (.tmp 30) (.tmp 35) (.tmp 40)) rfl ?_); refine ev_upd rfl rfl rfl rfl rfl rfl HM6.out HNX.out hk1.out.1 hk1.out.2 ?_; intro w7 h1 h2; have HM7 := Aside0.mk h1; have HB7 := Aside0.mk (HB6.out.trans (below_one h2 (fun b e => by cases e; exact HBF.out) HB6.out.size)); clear h1 h2)
          | fail)
        go_roundg (L.length - (i + 1))
        case measure => have := HI.out; have := HIL.out; omega
        case rel => exact ⟨i + 1, (if ((fo (L.take i)) (el L i).1).isSome then n else n + 1), by (try simp only [w4, w3]); rfl, ⟨by have := HI.out; have := HIL.out; split <;> omega⟩, ⟨by
          rw [take_el HIL.out, fo_snoc, if_neg HNE.out]
          exact HM7.out⟩, HB7⟩
    · have e1 : decide ((i : Int) < (L.length : Int)) = false := decide_eq_false (by omega)
      have e1n : decide (i < L.length) = false := decide_eq_false hi
      have hil : i = L.length := by have := HI.out; omega
      have HM' := HM.out
      rw [hil, List.take_length] at HM'
      have HM2 := Aside0.mk HM'
      have HNL := Aside0.mk (show n ≤ L.length from by have := HI.out; omega)
      clear hi hil HM' HM HI
      have HBX := HB
      clear HB
      go_wp2_with (first
        | ((with_reducible refine gate_dst (N := 41) rfl ?_); refine ev_make rfl rfl (fun q hq => by cases hq) ?_; intro bm w2 hb1 hm1 hg1; have HS := Aside0.mk (show St w w2 bf bm n 0 (fo L) (fun _ => none) (.slice none 0 0) [] (.slice none 0 0) [] (.slice none 0 0) [] from { F := HM2.out.kept hg1 (by simp), R := hm1, f := RI.nil, o := RI.nil, p := RP.nil, sep := (fun b hb => by cases hb), ne := (by have := HM2.out.lt; omega), lf := HBF.out, lr := (by have := HBX.out.size; omega), b := HBX.out.trans (below_one hg1 (fun b e => by cases e) HBX.out.size) }); clear hb1 hm1 hg1)
        | fail)
      go_loopg [5, 7] L.length (fun kq vn v w' => ∃ (i nm : Nat) (met : Int → Option Int) (C : List Int), vn = .int .i64 C.length ∧ v = .int .i64 i ∧ Aside0 (i + kq = L.length) ∧ Aside0 (St w w' bf bm n nm (fo L) met (.slice none 0 0) [] (.slice none 0 0) [] (.slice none 0 0) []) ∧ Aside0 (CInv L nm met C) ∧ Aside0 (CDone L C i))
      case atStart => exact ⟨0, 0, _, [], rfl, rfl, ⟨by omega⟩, HS, ⟨⟨(fun x v h => by cases h), by simp [fsts]⟩⟩, ⟨⟨fun j hj => by omega, Nat.le_refl _⟩⟩⟩
      case round =>
        clear HS
        obtain ⟨i, nm, met, C, rfl, rfl, HI, HS, HV, HD⟩ := hrel
        by_cases hi : i < L.length
        · have e1n : decide (i < L.length) = true := decide_eq_true hi
          have e1 : decide ((i : Int) < (L.length : Int)) = true := decide_eq_true (by omega)
          have p1 : (0 : Int) ≤ (i : Int) := by omega
          have q1 : (i : Int) < (L.length : Int) := by omega
          have HC2 := Aside0.mk (Kd.C_below HC.out HS.out.b)
          obtain ⟨ad, rfl, hx, hy⟩ := pair_at HC2.out i hi
          obtain ⟨r, hr⟩ : ∃ r, r = (el L i).1 := ⟨_, rfl⟩
          have hkr : In64 r := by rw [hr]; exact (HIN.out _ (el_mem hi)).1
          rw [← hr] at hx
          have HKR := Aside0.mk hkr
          have HR := Aside0.mk hr
          have HIL := Aside0.mk hi
          clear hi hkr hr hy
          have w3 : wrap64 ((i : Int) + 1) = (i : Int) + 1 := by have := HN.out; unfold wrap64; omega
          have w4 : IntKind.i64.wrap ((i : Int) + 1) = (i : Int) + 1 := (i64_w _).trans w3
          obtain ⟨a0, ha0⟩ : ∃ q, q = (fo L r).getD 0 := ⟨_, rfl⟩
          obtain ⟨s0, hs0⟩ : ∃ q, q = (fo L r).isSome := ⟨_, rfl⟩
          have HA0 := Aside0.mk ha0.symm
          have HS0 := Aside0.mk hs0.symm
          clear ha0 hs0
          go_wp2_with (first
            | ((with_reducible refine gate_ (.lookup 28 (.tmp 54) (.tmp 55) true) rfl ?_); refine ev_ok' rfl rfl a0 s0 rfl rfl HS.out.F HKR.out HA0.out HS0.out ?_)
            | fail)
          go_loopg [9, 10, 11] (L.length + 1) (fun kq va vs v w' => ∃ (k : Nat) (a : Int) (s : Bool), va = .int .i64 a ∧ vs = .bool s ∧ v = .int .i64 k ∧ Aside0 (k + kq = L.length + 1) ∧ Aside0 ((it (fo L) (k + 1) r).getD 0 = a) ∧ Aside0 ((it (fo L) (k + 1) r).isSome = s) ∧ Aside0 (∀ j, j < k → it (fo L) (j + 1) r ≠ some r) ∧ Aside0 (St w w' bf bm n nm (fo L) met (.slice none 0 0) [] (.slice none 0 0) [] (.slice none 0 0) []))
          case atStart => exact ⟨0, a0, s0, rfl, rfl, rfl, ⟨by omega⟩, HA0, HS0, ⟨fun j hj => by omega⟩, HS⟩
          case round =>
            clear HS HA0 HS0
            obtain ⟨k, a, s, rfl, rfl, rfl, HK, HA, HZ, HNO, HS⟩ := hrel
            have HKB := Aside0.mk (show k ≤ L.length + 1 from by have := HK.out; omega)
            have kb : (k : Int) ≤ 1001 := by have := HKB.out; have := HN.out; omega
            have w5 : wrap64 ((k : Int) + 1) = (k : Int) + 1 := by unfold wrap64; omega
            have w6 : IntKind.i64.wrap ((k : Int) + 1) = (k : Int) + 1 := (i64_w _).trans w5
            cases s with
            | false =>
              have hnc := not_cyc1 (g := fo L) (r := r) (k := k + 1) (by
                have := HZ.out
                cases e : it (fo L) (k + 1) r with
                | none => rfl
                | some y => rw [e] at this; cases this)
              have HNC := Aside0.mk hnc
              clear hnc
              go_wp2
              go_roundg (L.length - (i + 1))
              case measure => have := HI.out; have := HIL.out; omega
              case rel => exact ⟨i + 1, nm, met, C, rfl, by (try simp only [w4, w3]); rfl, ⟨by have := HI.out; have := HIL.out; omega⟩, HS, HV, ⟨HD.out.next (fun hc => absurd hc (by rw [← HR.out]; exact HNC.out))⟩⟩
            | true =>
              have hit : it (fo L) (k + 1) r = some a := by
                have h1 := HZ.out
                have h2 := HA.out
                cases e : it (fo L) (k + 1) r with
                | none => rw [e] at h1; cases h1
                | some y => rw [e] at h2; rw [← h2]; rfl
              have HIT := Aside0.mk hit
              clear hit
              by_cases har : a = r
              · have g1 : (a != r) = false := bne_eq_false_iff_eq.mpr har
                have g2 : (a == r) = true := beq_iff_eq.mpr har
                have HCY := Aside0.mk (show Cyc (fo L) r from ⟨k, by rw [HIT.out, har]⟩)
                have HAR := Aside0.mk har
                clear har
                cases hm : met r with
                | some v =>
                  obtain ⟨rfl, hc⟩ := HV.out.ones r v hm
                  have HM := Aside0.mk hm
                  have HCC := Aside0.mk hc
                  clear hm hc
                  go_wp2_with (first
                    | ((with_reducible refine gate_ (.lookup 28 (.tmp 86) (.tmp 87) false) rfl ?_); (try (refine gate_guard (by rfl) ?_; dsimp only)); refine ev_look' rfl rfl 1 rfl rfl HS.out.R HKR.out (by rw [HM.out]; rfl) ?_)
                    | fail)
                  go_roundg (L.length - (i + 1))
                  case measure => have := HI.out; have := HIL.out; omega
                  case rel => exact ⟨i + 1, nm, met, C, rfl, by (try simp only [w4, w3]); rfl, ⟨by have := HI.out; have := HIL.out; omega⟩, HS, HV, ⟨HD.out.next (fun hc => by rw [← HR.out]; exact HCC.out)⟩⟩
                | none =>
                  have HM := Aside0.mk hm
                  clear hm
                  have hcl : (C.length : Int) ≤ 1000 := by have := HD.out.2; have := HIL.out; have := HN.out; omega
                  have w7 : wrap64 ((C.length : Int) + 1) = (C.length : Int) + 1 := by unfold wrap64; omega
                  have w8 : IntKind.i64.wrap ((C.length : Int) + 1) = (C.length : Int) + 1 := (i64_w _).trans w7
                  go_wp2_with (first
                    | ((with_reducible refine gate_ (.lookup 28 (.tmp 86) (.tmp 87) false) rfl ?_); (try (refine gate_guard (by rfl) ?_; dsimp only)); refine ev_look' rfl rfl 0 rfl rfl HS.out.R HKR.out (by rw [HM.out]; rfl) ?_)
                    | ((with_reducible refine gate_ (.lookup 28 (.tmp 93) (.tmp 94) false) rfl ?_); refine ev_look' rfl rfl _ rfl rfl HS.out.F HKR.out rfl ?_)
                    | fail)
                  go_loopg [9] ((fsts L).countP (fun q => decide (met q = none))) (fun kq va w' => ∃ (b : Int) (nm : Nat) (met : Int → Option Int), va = .int .i64 b ∧ Aside0 (Orb (fo L) r b) ∧ Aside0 ((fsts L).countP (fun q => decide (met q = none)) = kq) ∧ Aside0 (St w w' bf bm n nm (fo L) met (.slice none 0 0) [] (.slice none 0 0) [] (.slice none 0 0) []) ∧ Aside0 (CInv L nm met (C ++ [r])))
                  case atStart => exact ⟨_, nm, met, rfl, ⟨⟨1, by
                    have := (orb_key HCY.out ⟨0, rfl⟩).2
                    cases e : fo L r with
                    | none => rw [e] at this; cases this
                    | some y => show (it (fo L) 0 r).bind (fo L) = _; simp [it, e]⟩⟩, ⟨rfl⟩, HS, ⟨HV.out.more r⟩⟩
                  case round =>
                    clear HS HV HM
                    obtain ⟨b, nm, met, rfl, HO, HQ, HS, HV⟩ := hrel
                    obtain ⟨hbk, hbs⟩ := orb_key HCY.out HO.out
                    have HBK := Aside0.mk hbk
                    have HBS := Aside0.mk hbs
                    have HBI := Aside0.mk (show In64 b from by
                      obtain ⟨q, hq, e⟩ := List.mem_map.1 hbk
                      rw [← e]; exact (HIN.out q hq).1)
                    clear hbk hbs
                    cases hm : met b with
                    | some v =>
                      obtain ⟨rfl, hc⟩ := HV.out.ones b v hm
                      have HM := Aside0.mk hm
                      clear hm hc
                      go_wp2_with (first
                        | ((with_reducible refine gate_ (.lookup 28 (.tmp 96) (.tmp 97) false) rfl ?_); refine ev_look' rfl rfl 1 rfl rfl HS.out.R HBI.out (by rw [HM.out]; rfl) ?_)
                        | fail)
                      go_roundg (L.length - (i + 1))
                      case measure => have := HI.out; have := HIL.out; omega
                      case rel => exact ⟨i + 1, nm, met, C ++ [r], by (try simp only [w7, w8]); simp, by (try simp only [w4, w3]); rfl, ⟨by have := HI.out; have := HIL.out; omega⟩, HS, HV, ⟨by rw [HR.out]; exact HD.out.more⟩⟩
                    | none =>
                      have HM := Aside0.mk hm
                      clear hm
                      obtain ⟨hV2, hlt⟩ := HV.out.mark HM.out HBK.out ⟨r, by simp, HO.out⟩
                      have HV2 := Aside0.mk hV2
                      have HLT := Aside0.mk hlt
                      have HNX := Aside0.mk (show nm < maxLen from by have h1 := HV.out.room; have h2 := HN.out; unfold maxLen; omega)
                      clear hV2 hlt
                      go_wp2_with (first
                        | ((with_reducible refine gate_ (.lookup 28 (.tmp 96) (.tmp 97) false) rfl ?_); refine ev_look' rfl rfl 0 rfl rfl HS.out.R HBI.out (by rw [HM.out]; rfl) ?_)
                        | ((with_reducible refine gate_ (.mapUpdate 28 (.tmp 103) (.tmp 104) (.const (.int .i64 1))) rfl ?_); refine ev_upd rfl rfl rfl rfl rfl rfl HS.out.R HNX.out HBI.out (by unfold In64; decide) ?_; intro w9 h1 h2; rw [if_neg (by rw [HM.out]; simp)] at h1; have HS2 := Aside0.mk (HS.out.updR h2 h1); clear h1 h2)
                        | ((with_reducible refine gate_ (.lookup 28 (.tmp 100) (.tmp 101) false) rfl ?_); refine ev_look' rfl rfl _ rfl rfl HS2.out.F HBI.out rfl ?_)
                        | fail)
                      go_roundg ((fsts L).countP (fun q => decide (mup met b 1 q = none)))
                      case measure => have := HLT.out; have := HQ.out; omega
                      case rel => exact ⟨_, nm + 1, mup met b 1, rfl, ⟨by
                        obtain ⟨q, hq⟩ := HO.out
                        refine ⟨q + 1, ?_⟩
                        show (it (fo L) q r).bind (fo L) = _
                        rw [hq]
                        have := HBS.out
                        cases e : fo L b with
                        | none => rw [e] at this; cases this
                        | some y => simp [e]⟩, ⟨rfl⟩, HS2, HV2⟩
              · have g1 : (a != r) = true := bne_iff_ne.mpr har
                have g2 : (a == r) = false := beq_eq_false_iff_ne.mpr har
                have HAR := Aside0.mk har
                clear har
                by_cases hk : k ≤ L.length
                · have k1 : decide ((k : Int) ≤ (L.length : Int)) = true := decide_eq_true (by omega)
                  have k2 : decide (k ≤ L.length) = true := decide_eq_true hk
                  have HKL := Aside0.mk hk
                  clear hk
                  obtain ⟨a1, ha1⟩ : ∃ q, q = (fo L a).getD 0 := ⟨_, rfl⟩
                  obtain ⟨s1, hs1⟩ : ∃ q, q = (fo L a).isSome := ⟨_, rfl⟩
                  have HA1 := Aside0.mk ha1.symm
                  have HS1 := Aside0.mk hs1.symm
                  have HAI := Aside0.mk (it_val HIN.out HIT.out)
                  clear ha1 hs1
                  go_wp2_with (first
                    | ((with_reducible refine gate_ (.lookup 28 (.tmp 74) (.tmp 75) true) rfl ?_); refine ev_ok' rfl rfl a1 s1 rfl rfl HS.out.F HAI.out HA1.out HS1.out ?_)
                    | fail)
                  go_roundg (L.length - k)
                  case measure => have := HK.out; have := HKL.out; omega
                  case rel => exact ⟨k + 1, a1, s1, rfl, rfl, by (try simp only [w5, w6]); rfl, ⟨by have := HKL.out; omega⟩, ⟨by
                    show ((it (fo L) (k + 1) r).bind (fo L)).getD 0 = _
                    rw [HIT.out]; exact HA1.out⟩, ⟨by
                    show ((it (fo L) (k + 1) r).bind (fo L)).isSome = _
                    rw [HIT.out]; exact HS1.out⟩, ⟨fun j hj => by
                    by_cases e : j = k
                    · subst e; rw [HIT.out]; intro e2; injection e2 with e2; exact HAR.out e2
                    · exact HNO.out j (by omega)⟩, HS⟩
                · have k1 : decide ((k : Int) ≤ (L.length : Int)) = false := decide_eq_false (by omega)
                  have k2 : decide (k ≤ L.length) = false := decide_eq_false hk
                  have HNC := Aside0.mk (not_cyc2 HNO.out (by omega))
                  clear hk
                  go_wp2
                  go_roundg (L.length - (i + 1))
                  case measure => have := HI.out; have := HIL.out; omega
                  case rel => exact ⟨i + 1, nm, met, C, rfl, by (try simp only [w4, w3]); rfl, ⟨by have := HI.out; have := HIL.out; omega⟩, HS, HV, ⟨HD.out.next (fun hc => absurd hc (by rw [← HR.out]; exact HNC.out))⟩⟩
        · have e1 : decide ((i : Int) < (L.length : Int)) = false := decide_eq_false (by omega)
          have e1n : decide (i < L.length) = false := decide_eq_false hi
          have hil : i = L.length := by have := HI.out; omega
          have HD2 := HD.out
          rw [hil] at HD2
          have HD3 := Aside0.mk HD2
          clear hi hil HD2 HD
          go_wp2
          go_ret
          exact ⟨C, rfl, HD3.out.all, HD3.out.2, HS.out.b⟩
end Go.Proofs.Ytdodmjnicnpefaa.Q
