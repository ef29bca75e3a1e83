/- The statement's walk, where moves may be. -/
import Derived.Test.YtdodmjnicnpefaaF3
namespace Go.Proofs.Ytdodmjnicnpefaa.Q
open Go.RowKit Go.Proofs.YtdodmjnicnpefaaW.PrintWords Go.Proofs.YtdodmjnicnpefaaW.PrintLast Go.Proofs.YtdodmjnicnpefaaW.PrintMore
set_option linter.unusedVariables false
set_option linter.unusedSimpArgs false
set_option maxHeartbeats 32000000 in
set_option maxRecDepth 100000 in
theorem SsaoutSequences.yes (L : List (Int × Int)) (t : Int) (w : World) (A : Option Addr) (c : Nat) (h : kp.C w A L.length L) (hn : L.length ≤ 200) (hin : Ins L) (ht : In64 t) (hok : okL L t) :
    Calls Try.prog 3 #[.slice A L.length c, .int .i64 t] w (LawP w) := by
  have HC := Aside0.mk h
  have HN := Aside0.mk hn
  have HIN := Aside0.mk hin
  have HT := Aside0.mk ht
  have HK := Aside0.mk hok
  have e1 : decide ((L.length : Int) > 200) = false := decide_eq_false (by omega)
  have e2 : decide (200 < (L.length : Int)) = false := decide_eq_false (by omega)
  have e3 : decide (200 < L.length) = false := decide_eq_false (by omega)
  clear h hn hin ht hok
  go_enter Try.func3, Try.ntmps3
  go_wp2_with (first
    | ((with_reducible refine gate_builtin (b := .append) (xs := #[.tmp 25, .tmp 26]) rfl ?_); at_builtin; refine ev_copy rfl rfl rfl rfl HC.out (by have := HN.out; omega) ?_; intro v1 w1 h1 h2; obtain ⟨A1, c1, rfl⟩ := h1.form; have HC1 := Aside0.mk (Kd.R_reads' h1).2.2; have HB1 := Aside0.mk (below_one (B := w.heap.size) h2 (fun b e => by cases e) (Nat.le_refl _)); clear h1 h2)
    | (go_at_call 5; ((with_reducible refine (Sequence.yes L t _ _ _ HC1.out (by have := HN.out; omega) HIN.out HT.out HK.out).mono ?_); rintro e w2 ⟨h1, h2, h3⟩); obtain ⟨vp, out, rfl, hv, hp⟩ := h1 HK.out; obtain ⟨Av, nv, cv, rfl, hnv, hcv⟩ := hv.form'; have HB2 := Aside0.mk (HB1.out.trans (Below.mono h3 HB1.out.size)); have HV2 := Aside0.mk (show RP w.heap.size w2 (.slice Av nv cv) out from Kd.R_lower hv HB1.out.size); have HP := Aside0.mk hp; have HNV := Aside0.mk hnv; clear h1 h2 h3 hv hp hnv hcv)
    | (go_at_call 6; ((with_reducible refine (May.yes L t _ _ _ (Kd.C_below HC.out HB2.out) (by have := HN.out; omega) HK.out).mono ?_); rintro e w3 ⟨rfl, h3⟩); have HB3 := Aside0.mk (HB2.out.trans (below_one (B := w.heap.size) h3 (fun b e => by cases e) HB2.out.size)); have HV3 := Aside0.mk (HV2.out.kept h3 (.inl rfl)); clear h3)
    | ((with_reducible refine gate_dst (N := 48) rfl ?_); refine ev_make rfl rfl (fun q hq => by cases hq) ?_; intro bn w4 h0 h1 h2; have HE4 := Aside0.mk h0; have HM4 := Aside0.mk h1; have HG4 := Aside0.mk h2; clear h0 h1 h2)
    | fail)
  have HS := Aside0.mk (show S2 w (w4.alloc (.cells #[.map (some bn)] 28)) w4.heap.size bn 0 (nw []) (.slice Av nv cv) out from by
    have h1 := HB3.out.size
    have h2 := below_one (B := w.heap.size) HG4.out (fun b e => by cases e) h1
    exact { F := HM4.out.alloc _, x := (MapKept.heap_alloc w4 _).1, p := (HV3.out.kept HG4.out (.inl rfl)).kept (World.grownBy_alloc w4 _ none) (.inl rfl), lf := (by have := HE4.out; omega), b := below_alloc (HB3.out.trans h2) _ })
  generalize w4.alloc (.cells #[.map (some bn)] 28) = w5 at HS ⊢
  generalize w4.heap.size = bx at HS ⊢
  clear HB1 HB2 HB3 HV2 HV3 HM4 HG4 HE4 HC1
  go_loopg [9, 10] L.length (fun kq vk v w' => ∃ (i k : Nat), vk = .int .i64 k ∧ v = .int .i64 i ∧ Aside0 (i + kq = L.length) ∧ Aside0 (k = (nt (L.take i)).length) ∧ Aside0 (S2 w w' bx bn 0 (nw []) (.slice Av nv cv) out))
  case atStart => exact ⟨0, 0, rfl, rfl, ⟨by omega⟩, ⟨rfl⟩, HS⟩
  case round =>
    clear HS
    obtain ⟨i, k, rfl, rfl, HI, HKN, HS⟩ := hrel
    have HKB := Aside0.mk (show k ≤ L.length from by
      have h1 := HKN.out
      have h2 := nt_le (L.take i)
      rw [List.length_take] at h2
      omega)
    by_cases hi : i < L.length
    · have e1n : decide (i < L.length) = true := decide_eq_true hi
      have e1 : decide ((i : Int) < (L.length : Int)) = true := decide_eq_true (by omega)
      have p1 : (0 : Int) ≤ (i : Int) := by omega
      have q1 : (i : Int) < (L.length : Int) := by omega
      have HC2 := Aside0.mk (Kd.C_below HC.out HS.out.b)
      obtain ⟨ad, rfl, hx, hy⟩ := pair_at HC2.out i hi
      have HIL := Aside0.mk hi
      clear hi
      have w3 : wrap64 ((i : Int) + 1) = (i : Int) + 1 := by have := HN.out; unfold wrap64; omega
      have w4 : IntKind.i64.wrap ((i : Int) + 1) = (i : Int) + 1 := (i64_w _).trans w3
      have w5 : wrap64 ((k : Int) + 1) = (k : Int) + 1 := by have := HN.out; have := HKB.out; unfold wrap64; omega
      have w6 : IntKind.i64.wrap ((k : Int) + 1) = (k : Int) + 1 := (i64_w _).trans w5
      by_cases hne : (el L i).1 = (el L i).2
      · have g1 : ((el L i).1 != (el L i).2) = false := bne_eq_false_iff_eq.mpr hne
        have HNE := Aside0.mk hne
        clear hne
        go_wp2
        repeat (go_quiet (fail))
        go_wp2
        go_roundg (L.length - (i + 1))
        case measure => have := HI.out; have := HIL.out; omega
        case rel => exact ⟨i + 1, k, rfl, by (try simp only [w4, w3]); rfl, ⟨by have := HI.out; have := HIL.out; omega⟩, ⟨by
          rw [take_el HIL.out, nt_snoc, if_pos HNE.out]; exact HKN.out⟩, ⟨HS.out.grow (grown_drewN _ _)⟩⟩
      · have g1 : ((el L i).1 != (el L i).2) = true := bne_iff_ne.mpr hne
        have HNE := Aside0.mk hne
        clear hne
        go_wp2
        repeat (go_quiet (fail))
        go_wp2
        go_roundg (L.length - (i + 1))
        case measure => have := HI.out; have := HIL.out; omega
        case rel => exact ⟨i + 1, k + 1, by (try simp only [w5, w6]); rfl, by (try simp only [w4, w3]); rfl, ⟨by have := HI.out; have := HIL.out; omega⟩, ⟨by
          rw [take_el HIL.out, nt_snoc, if_neg HNE.out]; simp [HKN.out]⟩, ⟨HS.out.grow (grown_drewN _ _)⟩⟩
    · have e1 : decide ((i : Int) < (L.length : Int)) = false := decide_eq_false (by omega)
      have e1n : decide (i < L.length) = false := decide_eq_false hi
      have hil : i = L.length := by have := HI.out; omega
      have HK2 := HKN.out
      rw [hil, List.take_length] at HK2
      have HKK := Aside0.mk HK2
      clear hi hil HK2 HKN HI
      have HNO := Aside0.mk (show nv ≤ 400 from by
        obtain ⟨_, _, B, h1, h2, _⟩ := HP.out
        have := HNV.out
        have := nt_le L
        have := HN.out
        omega)
      go_wp2
      go_loopg [11] nv (fun kq v w' => ∃ (j n : Nat), v = .int .i64 j ∧ Aside0 (j + kq = nv ∧ n ≤ j) ∧ Aside0 (S2 w w' bx bn n (nw (out.take j)) (.slice Av nv cv) out))
      case atStart => exact ⟨0, 0, rfl, ⟨by omega⟩, HS⟩
      case round =>
        clear HS
        obtain ⟨j, n, rfl, HJ, HS⟩ := hrel
        by_cases hj : j < nv
        · have e1n : decide (j < nv) = true := decide_eq_true hj
          have e1 : decide ((j : Int) < (nv : Int)) = true := decide_eq_true (by omega)
          have p1 : (0 : Int) ≤ (j : Int) := by omega
          have q1 : (j : Int) < (nv : Int) := by omega
          have HJO := Aside0.mk (show j < out.length from by have := HNV.out; omega)
          have hC : kp.C wr Av out.length out := (Kd.R_reads' HS.out.p).2.2
          obtain ⟨ad, rfl, hx, hy⟩ := pair_at hC j HJO.out
          have hin := HP.out.2.1 _ (el_mem HJO.out)
          have HIN2 := Aside0.mk hin
          have hbx := HS.out.x.cell
          have w3 : wrap64 ((j : Int) + 1) = (j : Int) + 1 := by have := HNO.out; unfold wrap64; omega
          have w4 : IntKind.i64.wrap ((j : Int) + 1) = (j : Int) + 1 := (i64_w _).trans w3
          have HJL := Aside0.mk hj
          have HNX := Aside0.mk (show n < maxLen from by have := HJ.out; have := HNO.out; unfold maxLen; omega)
          clear hj hC hin
          go_wp2
          refine region_still 13 (by kernel_rfl) (by kernel_rfl) ?_
          intro w6 hg
          have hx6 := hg.cell hx (by simp)
          have hy6 := hg.cell hy (by simp)
          have hb6 := hg.cell hbx (by simp)
          have HS6 := Aside0.mk (HS.out.grow hg)
          clear hx hy hbx hg
          simp only [List.take_succ_cons, List.take_zero, List.drop_succ_cons, List.drop_zero]
          repeat still_step
          still_call (value.calls w6 HS6.out.F hb6 (el out j).2 HIN2.out.2)
          refine wpStill_nil ?_
          have HVI := Aside0.mk (show In64 ((nw (out.take j) (el out j).2).getD (el out j).2) from by
            cases e : nw (out.take j) (el out j).2 with
            | none => exact HIN2.out.2
            | some z => exact nw_in (fun q hq => HP.out.2.1 q (List.mem_of_mem_take hq)) _ z e)
          clear hb6 hx6 hy6
          go_wp2_with (first
            | ((with_reducible refine gate_ (.mapUpdate 28 (.tmp 75) (.tmp 80) (.tmp 87)) rfl ?_); refine ev_upd rfl rfl rfl rfl rfl rfl HS6.out.F HNX.out HIN2.out.1 HVI.out ?_; intro w7 h1 h2; have HS7 := Aside0.mk (HS6.out.upd h2 h1); clear h1 h2)
            | fail)
          go_roundg (nv - (j + 1))
          case measure => have := HJ.out; have := HJL.out; omega
          case rel => exact ⟨j + 1, (if ((nw (out.take j)) (el out j).1).isSome then n else n + 1), by (try simp only [w4, w3]); rfl, ⟨by have := HJ.out; have := HJL.out; split <;> omega⟩, ⟨by
            rw [take_el HJO.out, nw_snoc]
            exact HS7.out⟩⟩
        · have e1 : decide ((j : Int) < (nv : Int)) = false := decide_eq_false (by omega)
          have e1n : decide (j < nv) = false := decide_eq_false hj
          have HSN := Aside0.mk (show S2 w wr bx bn n (nw out) (.slice Av nv cv) out from by
            have h1 := HS.out
            have h2 : out.take j = out := by
              rw [show j = out.length from by have := HJ.out; have := HNV.out; omega, List.take_length]
            rw [h2] at h1
            exact h1)
          clear hj HS HJ
          go_wp2_with (first
            | ((with_reducible refine gate_dst (N := 88) rfl ?_); refine ev_make rfl rfl (fun q hq => by cases hq) ?_; intro bw w7 h0 h1 h2; have HEW := Aside0.mk h0; have HMW := Aside0.mk h1; have HS8 := Aside0.mk (HSN.out.grow h2); clear h0 h1 h2)
            | fail)
          have HBW := Aside0.mk (show w.heap.size ≤ bw ∧ bn ≠ bw from by
            have h1 := HSN.out.b.size
            have h2 := HSN.out.F.lt
            have h3 := HEW.out
            omega)
          clear HSN HEW
          go_loopg [13] L.length (fun kq v w' => ∃ (i m : Nat), v = .int .i64 i ∧ Aside0 (i + kq = L.length ∧ m ≤ i) ∧ Aside0 (S2 w w' bx bn n (nw out) (.slice Av nv cv) out) ∧ Aside0 (IM w' bw m (wf (L.take i))))
          case atStart => exact ⟨0, 0, rfl, ⟨by omega⟩, HS8, HMW⟩
          case round =>
            clear HS8 HMW
            obtain ⟨i, m, rfl, HI, HS, HW⟩ := hrel
            by_cases hi : i < L.length
            · have e1n : decide (i < L.length) = true := decide_eq_true hi
              have e1 : decide ((i : Int) < (L.length : Int)) = true := decide_eq_true (by omega)
              have p1 : (0 : Int) ≤ (i : Int) := by omega
              have q1 : (i : Int) < (L.length : Int) := by omega
              have HC2 := Aside0.mk (Kd.C_below HC.out HS.out.b)
              obtain ⟨ad, rfl, hx, hy⟩ := pair_at HC2.out i hi
              have hk1 := Aside0.mk (HIN.out _ (el_mem hi))
              have HIL := Aside0.mk hi
              clear hi
              have w3 : wrap64 ((i : Int) + 1) = (i : Int) + 1 := by have := HN.out; unfold wrap64; omega
              have w4 : IntKind.i64.wrap ((i : Int) + 1) = (i : Int) + 1 := (i64_w _).trans w3
              have HNX := Aside0.mk (show m < maxLen by have h1 := HI.out; have h2 := HN.out; unfold maxLen; omega)
              go_wp2
              refine region_still 11 (by kernel_rfl) (by kernel_rfl) ?_
              intro w6 hg
              have hx6 := hg.cell hx (by simp)
              have hy6 := hg.cell hy (by simp)
              have HS6 := Aside0.mk (HS.out.grow hg)
              have HW6 := Aside0.mk (HW.out.kept hg (by simp))
              clear hx hy hg
              simp only [List.take_succ_cons, List.take_zero, List.drop_succ_cons, List.drop_zero]
              repeat still_step
              refine wpStill_nil ?_
              go_wp2_with (first
                | ((with_reducible refine gate_ (.mapUpdate 28 (.tmp 95) (.tmp 100) (.tmp 105)) rfl ?_); refine ev_upd rfl rfl rfl rfl rfl rfl HW6.out HNX.out hk1.out.1 hk1.out.2 ?_; intro w7 h1 h2; have HW7 := Aside0.mk h1; have HS7 := Aside0.mk (HS6.out.turn HW6.out HBW.out.1 HBW.out.2 h2); clear h1 h2)
                | fail)
              go_roundg (L.length - (i + 1))
              case measure => have := HI.out; have := HIL.out; omega
              case rel => exact ⟨i + 1, (if ((wf (L.take i)) (el L i).1).isSome then m else m + 1), by (try simp only [w4, w3]); rfl, ⟨by have := HI.out; have := HIL.out; split <;> omega⟩, HS7, ⟨by
                rw [take_el HIL.out, wf_snoc]
                exact HW7.out⟩⟩
            · have e1 : decide ((i : Int) < (L.length : Int)) = false := decide_eq_false (by omega)
              have e1n : decide (i < L.length) = false := decide_eq_false hi
              have HWL := Aside0.mk (show IM wr bw m (wf L) from by
                have h1 := HW.out
                rw [show i = L.length from by have := HI.out; omega, List.take_length] at h1
                exact h1)
              have hbx := HS.out.x.cell
              clear hi HW HI
              go_wp2_with (first
                | ((with_reducible refine gate_ (.range 28 (.tmp 106)) rfl ?_); refine ev_range rfl rfl rfl HS.out.F ?_; intro ri w7 h0 h1 h2 h3; have HRI := Aside0.mk (show w.heap.size ≤ ri from by have := HS.out.b.size; omega); have HR7 := Aside0.mk h1; have HS7 := Aside0.mk (HS.out.grow h2); have HW7 := Aside0.mk (HWL.out.kept h2 (by simp)); clear h0 h1 h2 h3 hbx)
                | fail)
              go_simp
              go_loopg [] n (fun kq w' => ∃ (left : Int → Bool), Aside0 (IMR w' bn ri n (nw out) left kq) ∧ Aside0 (S2 w w' bx bn n (nw out) (.slice Av nv cv) out) ∧ Aside0 (IM w' bw m (wf L)))
              case atStart => exact ⟨_, HR7, HS7, HW7⟩
              case round =>
                clear HR7 HS7 HW7
                obtain ⟨left, HR7, HS7, HW7⟩ := hrel
                go_wp2_with (first
                  | ((with_reducible refine gate_ (.next (.tmp 107) false) rfl ?_); (refine ev_next rfl rfl rfl HR7.out ?_ ?_); all_goals (first | (intro kk v w8 c8 h1 h2 h3 h4 h5 h6 h7 h8; obtain ⟨u, hu⟩ : ∃ u, u = (wf L kk).getD kk := ⟨_, rfl⟩; have HVU := Aside0.mk (show kk ≠ t → v = u from fun hne => by rw [hu, wf_fo HK.out.2.2, ← HP.out.1 kk hne, ← nw_ex, h2]; rfl); have HUU := Aside0.mk hu; have HKU := Aside0.mk (show (wf L kk).isSome = false → u = kk from fun hb => by (rw [hu]; cases e : wf L kk <;> first | rfl | (rw [e] at hb; cases hb))); have HK3 := Aside0.mk h3; have HR8 := Aside0.mk h5; have HC8 := Aside0.mk h6; have HEN := Aside0.mk h8; have HS8 := Aside0.mk (HS7.out.iter HR7.out HRI.out h7); have HW8 := Aside0.mk (HW7.out.kept h7 (by simpa using HW7.out.ne_iter HR7.out)); clear h1 h2 h3 h4 h5 h6 h7 h8 hu; rcases Decidable.em (kk = t) with ht | ht; (have g6 : (kk != t) = false := bne_eq_false_iff_eq.mpr ht); rotate_left; (have g6 : (kk != t) = true := bne_iff_ne.mpr ht); (have g7 : (v != u) = false := bne_eq_false_iff_eq.mpr (HVU.out ht)); all_goals clear ht; all_goals (cases hb : (wf L kk).isSome); all_goals have HB := Aside0.mk hb; all_goals clear hb; all_goals (try (have hku := HKU.out HB.out; subst hku))) | (intro hl0; clear hl0)))
                  | ((with_reducible refine gate_ (.range 28 (.tmp 130)) rfl ?_); refine ev_range rfl rfl rfl HW7.out ?_; intro rj w8 h0 h1 h2 h3; have HRJ := Aside0.mk (show w.heap.size ≤ rj from by have := HS7.out.b.size; omega); have HR8 := Aside0.mk h1; have HS8 := Aside0.mk (HS7.out.grow h2); clear h0 h1 h2 h3)
                  | ((with_reducible refine gate_ (.entry (.tmp 107)) rfl ?_); refine ev_entry rfl rfl rfl HEN.out ?_)
                  | ((with_reducible refine gate_ (.lookup 28 (.tmp 114) (.tmp 115) true) rfl ?_); refine ev_ok' rfl rfl 0 false rfl rfl HW8.out HK3.out (by have h1 := HB.out; cases e : wf L _ with | none => rfl | some z => rw [e] at h1; cases h1) HB.out ?_)
                  | ((with_reducible refine gate_ (.lookup 28 (.tmp 114) (.tmp 115) true) rfl ?_); refine ev_ok' rfl rfl u true rfl rfl HW8.out HK3.out (by have h1 := HB.out; have h2 := HUU.out; cases e : wf L _ with | none => rw [e] at h1; cases h1 | some z => rw [h2, e]; rfl) HB.out ?_)
                  | fail)
                · (try go_simp)
                  go_loopg [] m (fun kq w' => ∃ (left : Int → Bool), Aside0 (IMR w' bw rj m (wf L) left kq) ∧ Aside0 (S2 w w' bx bn n (nw out) (.slice Av nv cv) out))
                  case atStart => exact ⟨_, HR8, HS8⟩
                  case round =>
                    clear HR8 HS8 HR7 HS7 HW7
                    obtain ⟨left, HR8, HS8⟩ := hrel
                    go_wp2_with (first
                      | ((with_reducible refine gate_ (.next (.tmp 131) false) rfl ?_); (refine ev_next rfl rfl rfl HR8.out ?_ ?_); all_goals (first | (intro kk v w9 c9 h1 h2 h3 h4 h5 h6 h7 h8; have HVU := Aside0.mk (show (nw out kk).getD kk = v from by rw [nw_ex, HP.out.1 kk (by obtain ⟨q, hq, e⟩ := List.mem_map.1 (wf_key h2); rw [← e]; exact (HK.out.2.1 q hq).2.2.1), ← wf_fo HK.out.2.2, h2]; rfl); have HK3 := Aside0.mk h3; have HR9 := Aside0.mk h5; have HC9 := Aside0.mk h6; have HEN := Aside0.mk h8; have HS9 := Aside0.mk (HS8.out.iter HR8.out HRJ.out h7); have g5 : (v != v) = false := bne_self_eq_false v; clear h1 h2 h3 h4 h5 h6 h7 h8) | (intro hl0; clear hl0)))
                      | ((with_reducible refine gate_ (.entry (.tmp 131)) rfl ?_); refine ev_entry rfl rfl rfl HEN.out ?_)
                      | (go_at_call 7; ((with_reducible refine (value.calls _ HS9.out.F HS9.out.x.cell _ HK3.out).mono ?_); rintro e w10 ⟨rfl, rfl⟩); rw [HVU.out])
                      | (go_at_call 8; ((with_reducible refine (cycles.calls L _ _ _ (Kd.C_below HC.out HS8.out.b) (by have := HN.out; omega) HIN.out).mono ?_); rintro e w10 ⟨C, rfl, h1, h2, h3⟩); (have hle : nv ≤ k + C.length := (by obtain ⟨_, _, B, b1, b2, b3, b4⟩ := HP.out; have b5 := apart_le b3 b4 h1; have b6 := HNV.out; have b7 := HKK.out; omega)); (have hkb := HKB.out); (have hnb := HN.out); obtain ⟨cn, hcn⟩ : ∃ q, q = C.length := ⟨_, rfl⟩; rw [← hcn]; rw [← hcn] at hle h2; (have w5 : wrap64 ((k : Int) + (cn : Int)) = (k : Int) + (cn : Int) := by unfold wrap64; omega); (have w6 : IntKind.i64.wrap ((k : Int) + (cn : Int)) = (k : Int) + (cn : Int) := (i64_w _).trans w5); (have d1 : decide ((nv : Int) ≤ (k : Int) + (cn : Int)) = true := decide_eq_true (by omega)); (have d2 : decide (nv ≤ k + cn) = true := decide_eq_true hle); have HB10 := Aside0.mk (HS8.out.b.trans (Below.mono h3 HS8.out.b.size)); clear h1 h2 h3 hle hkb hnb hcn)
                      | (go_at_call 4; ((with_reducible refine (awake.calls _).mono ?_); rintro e w11 ⟨rfl, hB⟩); have HB11 := Aside0.mk (HB10.out.trans (Below.mono hB HB10.out.size)); clear hB)
                      | fail)
                    · go_ret
                      exact ⟨rfl, HB11.out⟩
                    all_goals
                      go_roundg c9
                      case measure => exact HC9.out
                      case rel => exact ⟨_, HR9, HS9⟩
                all_goals
                  go_roundg c8
                  case measure => exact HC8.out
                  case rel => exact ⟨_, HR8, HS8, HW8⟩
end Go.Proofs.Ytdodmjnicnpefaa.Q
