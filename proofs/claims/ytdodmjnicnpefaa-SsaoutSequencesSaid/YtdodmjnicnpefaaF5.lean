/- Sequence: which copies it makes of moves. -/
import Derived.Test.YtdodmjnicnpefaaSc
namespace Go.Proofs.Ytdodmjnicnpefaa.Q
open Go.RowKit Go.Proofs.YtdodmjnicnpefaaW.PrintWords Go.Proofs.YtdodmjnicnpefaaW.PrintLast Go.Proofs.YtdodmjnicnpefaaW.PrintMore
set_option linter.unusedVariables false
set_option linter.unusedSimpArgs false
/-- What comes of it. -/
def SeqP (L : List (Int × Int)) (t : Int) (w : World) (e : Ending) (w' : World) : Prop :=
  (okL L t → ∃ v out, e = .returned (.tuple #[v, .int .i64 0]) ∧ RP w.heap.size w' v out ∧ SeqPost L t out) ∧ (¬ okL L t → e = .returned (.tuple #[.slice none 0 0, .int .i64 1])) ∧ Below w.heap.size w w'
/-- What holds at the label. -/
def SeqI (L : List (Int × Int)) (t : Int) (w w' : World) (bf br : Nat) (vf vo vp : Value) (at_ kq : Nat) : Prop :=
  ∃ n m fm rd free out B, St w w' bf br n m fm rd vf free vo (ky L) vp out ∧ Inv L t fm rd free out B n at_ ∧ m ≤ L.length + 2 * at_ ∧ at_ + kq = (ky L).length
theorem may.yes (L : List (Int × Int)) (t : Int) (w : World) (A : Option Addr) (c : Nat) (h : kp.C w A L.length L) (hn : L.length ≤ 1000000) (hin : Ins L) (hok : okL L t) :
    Calls Try.prog 9 #[.slice A L.length c, .int .i64 t] w (fun e w' => e = .returned (.bool true) ∧ Below w.heap.size w w') :=
  (may.calls L t w A c h hn hin).mono fun e w' ⟨b, he, hb, hB⟩ => by
    rw [hb.2 hok] at he; exact ⟨he, hB⟩
theorem may.no (L : List (Int × Int)) (t : Int) (w : World) (A : Option Addr) (c : Nat) (h : kp.C w A L.length L) (hn : L.length ≤ 1000000) (hin : Ins L) (hok : ¬ okL L t) :
    Calls Try.prog 9 #[.slice A L.length c, .int .i64 t] w (fun e w' => e = .returned (.bool false) ∧ Below w.heap.size w w') :=
  (may.calls L t w A c h hn hin).mono fun e w' ⟨b, he, hb, hB⟩ => by
    have : b = false := by cases b; rfl; exact absurd (hb.1 rfl) hok
    rw [this] at he; exact ⟨he, hB⟩
set_option maxHeartbeats 16000000 in
set_option maxRecDepth 100000 in
theorem Sequence.no (L : List (Int × Int)) (t : Int) (w : World) (A : Option Addr) (c : Nat) (h : kp.C w A L.length L) (hn : L.length ≤ 1000000) (hin : Ins L) (hok : ¬ okL L t) :
    Calls Try.prog 5 #[.slice A L.length c, .int .i64 t] w (SeqP L t w) := by
  have HC := Aside0.mk h
  have HN := Aside0.mk hn
  have HIN := Aside0.mk hin
  have HK := Aside0.mk hok
  clear h hn hin hok
  go_enter Try.func5, Try.ntmps5
  go_wp2
  refine wp_scope_straight ?_
  go_wp2_with (first
    | (go_at_call 9; ((with_reducible refine (may.no L t _ _ _ HC.out HN.out HIN.out HK.out).mono ?_); rintro e w1 ⟨rfl, hB⟩); have HB := Aside0.mk hB; clear hB)
    | fail)
  (try simp only [Exit.noGoto])
  (try go_step)
  go_ret2
  exact ⟨fun h => absurd h HK.out, fun _ => rfl, HB.out⟩
set_option maxHeartbeats 32000000 in
set_option maxRecDepth 100000 in
theorem Sequence.yes (L : List (Int × Int)) (t : Int) (w : World) (A : Option Addr) (c : Nat) (h : kp.C w A L.length L) (hn : L.length ≤ 1000000) (hin : Ins L) (ht : In64 t) (hok : okL L t) :
    Calls Try.prog 5 #[.slice A L.length c, .int .i64 t] w (SeqP L t w) := by
  have HC := Aside0.mk h
  have HN := Aside0.mk hn
  have HIN := Aside0.mk hin
  have HK := Aside0.mk hok
  have HT := Aside0.mk ht
  clear h hn hin hok ht
  go_enter Try.func5, Try.ntmps5
  go_wp2
  refine wp_scope_one (P := Try.prog) (by exact rfl) (fun kq a_ w' => ∃ (bf br at_ : Nat) (vf vo vp u2 u3 u11 u12 u13 u14 u16 u17 u18 u19 u20 u21 u22 u23 u24 u25 u26 u27 u28 u29 u30 u31 u32 u33 u34 u35 u36 u37 u38 u39 u40 u41 u42 u43 u44 u45 u46 u47 u48 u49 u50 u51 u52 u53 u54 u55 u56 u57 u58 u59 u60 u61 u62 u63 u64 u65 u66 u67 u68 u69 u70 u71 u72 u73 u74 u75 u76 u77 u78 u79 u80 u81 u82 u83 u84 u85 u86 u87 u88 u89 u90 u91 u92 u93 u94 u95 u96 u97 u98 u99 u100 u101 u102 u103 u104 u105 u106 u107 u108 u109 u110 u111 u112 u113 u114 u115 u116 u117 u118 u119 u120 u121 u122 u123 u124 u125 u126 u127 u128 u129 u130 u131 u132 u133 u134 u135 u136 u137 u138 u139 u140 u141 u142 u143 u144 u145 u146 u147 u148 u149 u150 u151 u152 u153 u154 u155 u156 u157 u158 u159 u160 u161 u162 u163 u164 u165 u166 u167 : Value), (Aside0 (SeqI L t w w' bf br vf vo vp at_ kq)) ∧ a_ = ⟨([.slice A L.length c, .int .i64 t, u2, u3, .slice none 0 0, .int .i64 0, .map (some bf), .map (some br), vf, vo, vp, u11, u12, u13, u14, .int .i64 at_, u16, u17, u18, u19, u20, u21, u22, u23, u24, u25, u26, u27, u28, u29, u30, u31, u32, u33, u34, u35, u36, u37, u38, u39, u40, u41, u42, u43, u44, u45, u46, u47, u48, u49, u50, u51, u52, u53, u54, u55, u56, u57, u58, u59, u60, u61, u62, u63, u64, u65, u66, u67, u68, u69, u70, u71, u72, u73, u74, u75, u76, u77, u78, u79, u80, u81, u82, u83, u84, u85, u86, u87, u88, u89, u90, u91, u92, u93, u94, u95, u96, u97, u98, u99, u100, u101, u102, u103, u104, u105, u106, u107, u108, u109, u110, u111, u112, u113, u114, u115, u116, u117, u118, u119, u120, u121, u122, u123, u124, u125, u126, u127, u128, u129, u130, u131, u132, u133, u134, u135, u136, u137, u138, u139, u140, u141, u142, u143, u144, u145, u146, u147, u148, u149, u150, u151, u152, u153, u154, u155, u156, u157, u158, u159, u160, u161, u162, u163, u164, u165, u166, u167]).toArray, []⟩) ?p0 ?first
  case p0 =>
    intro gk a_ wr hJ K0 hK0
    obtain ⟨bf, br, at_, vf, vo, vp, hJ⟩ := hJ
    obtain ⟨u2, hJ⟩ := hJ
    obtain ⟨u3, hJ⟩ := hJ
    obtain ⟨u11, hJ⟩ := hJ
    obtain ⟨u12, hJ⟩ := hJ
    obtain ⟨u13, hJ⟩ := hJ
    obtain ⟨u14, hJ⟩ := hJ
    obtain ⟨u16, hJ⟩ := hJ
    obtain ⟨u17, hJ⟩ := hJ
    obtain ⟨u18, hJ⟩ := hJ
    obtain ⟨u19, hJ⟩ := hJ
    obtain ⟨u20, hJ⟩ := hJ
    obtain ⟨u21, hJ⟩ := hJ
    obtain ⟨u22, hJ⟩ := hJ
    obtain ⟨u23, hJ⟩ := hJ
    obtain ⟨u24, hJ⟩ := hJ
    obtain ⟨u25, hJ⟩ := hJ
    obtain ⟨u26, hJ⟩ := hJ
    obtain ⟨u27, hJ⟩ := hJ
    obtain ⟨u28, hJ⟩ := hJ
    obtain ⟨u29, hJ⟩ := hJ
    obtain ⟨u30, hJ⟩ := hJ
    obtain ⟨u31, hJ⟩ := hJ
    obtain ⟨u32, hJ⟩ := hJ
    obtain ⟨u33, hJ⟩ := hJ
    obtain ⟨u34, hJ⟩ := hJ
    obtain ⟨u35, hJ⟩ := hJ
    obtain ⟨u36, hJ⟩ := hJ
    obtain ⟨u37, hJ⟩ := hJ
    obtain ⟨u38, hJ⟩ := hJ
    obtain ⟨u39, hJ⟩ := hJ
    obtain ⟨u40, hJ⟩ := hJ
    obtain ⟨u41, hJ⟩ := hJ
    obtain ⟨u42, hJ⟩ := hJ
    obtain ⟨u43, hJ⟩ := hJ
    obtain ⟨u44, hJ⟩ := hJ
    obtain ⟨u45, hJ⟩ := hJ
    obtain ⟨u46, hJ⟩ := hJ
    obtain ⟨u47, hJ⟩ := hJ
    obtain ⟨u48, hJ⟩ := hJ
    obtain ⟨u49, hJ⟩ := hJ
    obtain ⟨u50, hJ⟩ := hJ
    obtain ⟨u51, hJ⟩ := hJ
    obtain ⟨u52, hJ⟩ := hJ
    obtain ⟨u53, hJ⟩ := hJ
    obtain ⟨u54, hJ⟩ := hJ
    obtain ⟨u55, hJ⟩ := hJ
    obtain ⟨u56, hJ⟩ := hJ
    obtain ⟨u57, hJ⟩ := hJ
    obtain ⟨u58, hJ⟩ := hJ
    obtain ⟨u59, hJ⟩ := hJ
    obtain ⟨u60, hJ⟩ := hJ
    obtain ⟨u61, hJ⟩ := hJ
    obtain ⟨u62, hJ⟩ := hJ
    obtain ⟨u63, hJ⟩ := hJ
    obtain ⟨u64, hJ⟩ := hJ
    obtain ⟨u65, hJ⟩ := hJ
    obtain ⟨u66, hJ⟩ := hJ
    obtain ⟨u67, hJ⟩ := hJ
    obtain ⟨u68, hJ⟩ := hJ
    obtain ⟨u69, hJ⟩ := hJ
    obtain ⟨u70, hJ⟩ := hJ
    obtain ⟨u71, hJ⟩ := hJ
    obtain ⟨u72, hJ⟩ := hJ
    obtain ⟨u73, hJ⟩ := hJ
    obtain ⟨u74, hJ⟩ := hJ
    obtain ⟨u75, hJ⟩ := hJ
    obtain ⟨u76, hJ⟩ := hJ
    obtain ⟨u77, hJ⟩ := hJ
    obtain ⟨u78, hJ⟩ := hJ
    obtain ⟨u79, hJ⟩ := hJ
    obtain ⟨u80, hJ⟩ := hJ
    obtain ⟨u81, hJ⟩ := hJ
    obtain ⟨u82, hJ⟩ := hJ
    obtain ⟨u83, hJ⟩ := hJ
    obtain ⟨u84, hJ⟩ := hJ
    obtain ⟨u85, hJ⟩ := hJ
    obtain ⟨u86, hJ⟩ := hJ
    obtain ⟨u87, hJ⟩ := hJ
    obtain ⟨u88, hJ⟩ := hJ
    obtain ⟨u89, hJ⟩ := hJ
    obtain ⟨u90, hJ⟩ := hJ
    obtain ⟨u91, hJ⟩ := hJ
    obtain ⟨u92, hJ⟩ := hJ
    obtain ⟨u93, hJ⟩ := hJ
    obtain ⟨u94, hJ⟩ := hJ
    obtain ⟨u95, hJ⟩ := hJ
    obtain ⟨u96, hJ⟩ := hJ
    obtain ⟨u97, hJ⟩ := hJ
    obtain ⟨u98, hJ⟩ := hJ
    obtain ⟨u99, hJ⟩ := hJ
    obtain ⟨u100, hJ⟩ := hJ
    obtain ⟨u101, hJ⟩ := hJ
    obtain ⟨u102, hJ⟩ := hJ
    obtain ⟨u103, hJ⟩ := hJ
    obtain ⟨u104, hJ⟩ := hJ
    obtain ⟨u105, hJ⟩ := hJ
    obtain ⟨u106, hJ⟩ := hJ
    obtain ⟨u107, hJ⟩ := hJ
    obtain ⟨u108, hJ⟩ := hJ
    obtain ⟨u109, hJ⟩ := hJ
    obtain ⟨u110, hJ⟩ := hJ
    obtain ⟨u111, hJ⟩ := hJ
    obtain ⟨u112, hJ⟩ := hJ
    obtain ⟨u113, hJ⟩ := hJ
    obtain ⟨u114, hJ⟩ := hJ
    obtain ⟨u115, hJ⟩ := hJ
    obtain ⟨u116, hJ⟩ := hJ
    obtain ⟨u117, hJ⟩ := hJ
    obtain ⟨u118, hJ⟩ := hJ
    obtain ⟨u119, hJ⟩ := hJ
    obtain ⟨u120, hJ⟩ := hJ
    obtain ⟨u121, hJ⟩ := hJ
    obtain ⟨u122, hJ⟩ := hJ
    obtain ⟨u123, hJ⟩ := hJ
    obtain ⟨u124, hJ⟩ := hJ
    obtain ⟨u125, hJ⟩ := hJ
    obtain ⟨u126, hJ⟩ := hJ
    obtain ⟨u127, hJ⟩ := hJ
    obtain ⟨u128, hJ⟩ := hJ
    obtain ⟨u129, hJ⟩ := hJ
    obtain ⟨u130, hJ⟩ := hJ
    obtain ⟨u131, hJ⟩ := hJ
    obtain ⟨u132, hJ⟩ := hJ
    obtain ⟨u133, hJ⟩ := hJ
    obtain ⟨u134, hJ⟩ := hJ
    obtain ⟨u135, hJ⟩ := hJ
    obtain ⟨u136, hJ⟩ := hJ
    obtain ⟨u137, hJ⟩ := hJ
    obtain ⟨u138, hJ⟩ := hJ
    obtain ⟨u139, hJ⟩ := hJ
    obtain ⟨u140, hJ⟩ := hJ
    obtain ⟨u141, hJ⟩ := hJ
    obtain ⟨u142, hJ⟩ := hJ
    obtain ⟨u143, hJ⟩ := hJ
    obtain ⟨u144, hJ⟩ := hJ
    obtain ⟨u145, hJ⟩ := hJ
    obtain ⟨u146, hJ⟩ := hJ
    obtain ⟨u147, hJ⟩ := hJ
    obtain ⟨u148, hJ⟩ := hJ
    obtain ⟨u149, hJ⟩ := hJ
    obtain ⟨u150, hJ⟩ := hJ
    obtain ⟨u151, hJ⟩ := hJ
    obtain ⟨u152, hJ⟩ := hJ
    obtain ⟨u153, hJ⟩ := hJ
    obtain ⟨u154, hJ⟩ := hJ
    obtain ⟨u155, hJ⟩ := hJ
    obtain ⟨u156, hJ⟩ := hJ
    obtain ⟨u157, hJ⟩ := hJ
    obtain ⟨u158, hJ⟩ := hJ
    obtain ⟨u159, hJ⟩ := hJ
    obtain ⟨u160, hJ⟩ := hJ
    obtain ⟨u161, hJ⟩ := hJ
    obtain ⟨u162, hJ⟩ := hJ
    obtain ⟨u163, hJ⟩ := hJ
    obtain ⟨u164, hJ⟩ := hJ
    obtain ⟨u165, hJ⟩ := hJ
    obtain ⟨u166, hJ⟩ := hJ
    obtain ⟨u167, hJ⟩ := hJ
    obtain ⟨HS, ha_⟩ := hJ
    subst ha_
    have AK0 := Aside0.mk hK0
    clear hK0
    obtain ⟨n, m, fm, rd, free, out, B, hS, hI, hm, ha⟩ := HS.out
    obtain ⟨Ao, no, co, rfl, hno, hnc⟩ := hS.o.form'
    have HO := Aside0.mk hno
    have HM := Aside0.mk hm
    have HA := Aside0.mk ha
    have HKL := Aside0.mk (show (ky L).length ≤ L.length from by simp only [List.length_map]; exact nt_le L)
    clear hm ha hno hnc HS
    go_wp2
    go_loopg [8, 10] n (fun kq vf vp w' => ∃ (n3 : Nat) (fm rd : Int → Option Int) (free : List Int) (out : List (Int × Int)), Aside0 (n3 = kq) ∧ Aside0 (St w w' bf br n3 m fm rd vf free (.slice Ao no co) (ky L) vp out) ∧ Aside0 (Inv L t fm rd free out B n3 at_))
    case atStart => exact ⟨n, fm, rd, free, out, ⟨rfl⟩, ⟨hS⟩, ⟨hI⟩⟩
    case round =>
      clear hS hI
      obtain ⟨n3, fm, rd, free, out, HN3, HS, HI⟩ := hrel
      obtain ⟨Af, nf, cf, rfl, hnf, hcf⟩ := HS.out.f.form'
      rcases List.eq_nil_or_concat free with hfree | ⟨fr, r, hfree⟩
      · subst hfree
        have e1 : decide ((nf : Int) > 0) = false := decide_eq_false (by rw [hnf]; decide)
        have e2 : decide (0 < (nf : Int)) = false := decide_eq_false (by rw [hnf]; decide)
        have e3 : decide (0 < nf) = false := decide_eq_false (by rw [hnf]; decide)
        have HNF := Aside0.mk hnf
        clear hnf hcf
        go_wp2
        go_loopg [8, 10, 15] ((ky L).length - at_) (fun kq vf vp v w' => ∃ (a2 : Nat), v = .int .i64 a2 ∧ Aside0 (a2 + kq = (ky L).length ∧ at_ ≤ a2) ∧ Aside0 (St w w' bf br n3 m fm rd vf [] (.slice Ao no co) (ky L) vp out) ∧ Aside0 (Inv L t fm rd [] out B n3 a2))
        case atStart => exact ⟨at_, rfl, ⟨by have := HA.out; omega⟩, HS, HI⟩
        case round =>
          clear HS HI
          obtain ⟨a2, rfl, HA2, HS, HI⟩ := hrel
          clear HNF
          obtain ⟨Af, nf, cf, rfl, hnf, hcf⟩ := HS.out.f.form'
          clear hnf hcf
          by_cases hj : a2 < no
          · have e1n : decide (a2 < no) = true := decide_eq_true hj
            have e1 : decide ((a2 : Int) < (no : Int)) = true := decide_eq_true (by omega)
            have p1 : (0 : Int) ≤ (a2 : Int) := by omega
            have q1 : (a2 : Int) < (no : Int) := by omega
            obtain ⟨g, rfl, hx⟩ := HS.out.o.at a2 hj
            have HR := Aside0.mk (show (ky L)[a2]? = some ((ky L).getD a2 0) from by
              have := HO.out
              rw [List.getD_eq_getElem?_getD, List.getElem?_eq_getElem (by omega)]
              rfl)
            have HKI := Aside0.mk (show In64 ((ky L).getD a2 0) from by
              have hmem := List.mem_of_getElem? HR.out
              obtain ⟨q, hq, e⟩ := List.mem_map.1 (ky_sub L _ hmem)
              rw [← e]; exact (HIN.out q hq).1)
            have hnl : no ≤ 1000000 := by have h1 := HO.out; have h2 := HKL.out; have h3 := HN.out; omega
            have w3 : wrap64 ((a2 : Int) + 1) = (a2 : Int) + 1 := by unfold wrap64; omega
            have w4 : IntKind.i64.wrap ((a2 : Int) + 1) = (a2 : Int) + 1 := (i64_w _).trans w3
            have HJL := Aside0.mk (And.intro hj hnl)
            clear hj hnl
            obtain ⟨x, hxe⟩ : ∃ x, x = (ky L).getD a2 0 := ⟨_, rfl⟩
            rw [← hxe] at hx HKI HR
            clear hxe
            cases hw : (fm x).isSome with
            | false =>
              have HW := Aside0.mk hw
              clear hw
              have HG0 := Aside0.mk (show (fm x).getD 0 = 0 from by
                have := HW.out
                cases e : fm x with
                | none => rfl
                | some s => rw [e] at this; cases this)
              go_wp2_with (first
                | ((with_reducible refine gate_ (.lookup 28 (.tmp 130) (.tmp 131) true) rfl ?_); refine ev_ok' rfl rfl 0 false rfl rfl HS.out.F HKI.out HG0.out HW.out ?_)
                | fail)
              go_roundg ((ky L).length - (a2 + 1))
              case measure => have := HA2.out; have := HJL.out; have := HO.out; omega
              case rel => exact ⟨a2 + 1, by (try simp only [w4, w3]); rfl, ⟨by have := HA2.out; have := HJL.out; have := HO.out; omega⟩, HS, ⟨HI.out.pass HR.out (by
                have := HW.out
                cases e : fm x with
                | none => rfl
                | some s => rw [e] at this; cases this)⟩⟩
            | true =>
              have HW := Aside0.mk hw
              clear hw
              obtain ⟨fx, hfx⟩ : ∃ q, q = (fm x).getD 0 := ⟨_, rfl⟩
              obtain ⟨ix, hxt, hnt, hI2⟩ := HI.out.break_ HK.out HIN.out HT.out HR.out HW.out
              have HFX := Aside0.mk hfx.symm
              have HXT := Aside0.mk hxt
              have HNT := Aside0.mk hnt
              have HI2 := Aside0.mk hI2
              have HNX := Aside0.mk (show n3 < maxLen from by have h1 := HI.out.n_le; have h2 := HKL.out; have h3 := HN.out; unfold maxLen; omega)
              clear ix hxt hnt hI2 hfx
              go_wp2_with (first
                | ((with_reducible refine gate_ (.lookup 28 (.tmp 130) (.tmp 131) true) rfl ?_); refine ev_ok' rfl rfl fx true rfl rfl HS.out.F HKI.out HFX.out HW.out ?_)
                | ((with_reducible refine gate_builtin (b := .append) (xs := #[.tmp 137, .tmp 141]) rfl ?_); at_builtin; refine ev_app2 rfl rfl rfl rfl HS.out.p HS.out.b.size (by have h1 := HI.out.out_le; have h2 := HA2.out; have h3 := HKL.out; have h4 := HN.out; omega) ?_; intro vp' w6 h1 h2 h3; have HS6 := Aside0.mk (HS.out.appP h2 h1); clear h1 h2 h3)
                | ((with_reducible refine gate_ (.range 28 (.tmp 143)) rfl ?_); refine ev_range rfl rfl rfl HS6.out.F ?_; intro ri w7 h0 h1 h2 h3; have HRI := Aside0.mk (show w.heap.size ≤ ri from by have := HS6.out.b.size; omega); have HR7 := Aside0.mk h1; have HS7 := Aside0.mk (HS6.out.grow h2); clear h0 h1 h2 h3)
                | fail)
              go_simp
              go_loopg [] n3 (fun kq w' => ∃ (f : Int → Option Int) (left : Int → Bool), Aside0 (IMR w' bf ri n3 f left kq) ∧ Aside0 (∀ y, f y = if left y = true then fm y else bend fm x t y) ∧ Aside0 (St w w' bf br n3 m f rd (.slice Af nf cf) [] (.slice (some ⟨g, 0, none⟩) no co) (ky L) vp' (out ++ [(t, x)])))
              case atStart => exact ⟨_, _, HR7, ⟨fun y => by
                split
                · rfl
                · rename_i c
                  unfold bend
                  cases e : fm y with
                  | none => rfl
                  | some s => rw [e] at c; exact absurd rfl c⟩, HS7⟩
              case round =>
                clear HR7 HS7 HS6
                obtain ⟨f, left, HR7, HF7, HS7⟩ := hrel
                have HRX := Aside0.mk (show In64 ((rd x).getD 0) from by
                  rw [HI.out.reads x, in64_iff]
                  have h1 : cnt L fm x ≤ (ky L).length := List.countP_le_length
                  have h2 := HKL.out
                  have h3 := HN.out
                  omega)
                have HMX := Aside0.mk (show m + 1 < maxLen from by have h1 := HM.out; have h2 := HA2.out; have h3 := HJL.out; have h4 := HO.out; have h5 := HKL.out; have h6 := HN.out; unfold maxLen; omega)
                go_wp2_with (first
                  | ((with_reducible refine gate_ (.next (.tmp 144) false) rfl ?_); (refine ev_next rfl rfl rfl HR7.out ?_ ?_); all_goals (first | (intro k v w8 c8 h1 h2 h3 h4 h5 h6 h7 h8; have HL := Aside0.mk h1; have HK8 := Aside0.mk h2; have HK3 := Aside0.mk h3; have HR8 := Aside0.mk h5; have HC8 := Aside0.mk h6; have HEN := Aside0.mk h8; have HS8 := Aside0.mk (HS7.out.iter HR7.out HRI.out h7); clear h1 h2 h3 h4 h5 h6 h7 h8; rcases Decidable.em (v = x) with hv | hv; (have g5 : (v == x) = true := beq_iff_eq.mpr hv); rotate_left; (have g5 : (v == x) = false := beq_eq_false_iff_ne.mpr hv); all_goals have HV := Aside0.mk hv; all_goals clear hv) | (intro hl0; have hfb : f = bend fm x t := funext (fun y => by rw [HF7.out y, hl0 y]; rfl); subst hfb)))
                  | ((with_reducible refine gate_ (.entry (.tmp 144)) rfl ?_); refine ev_entry rfl rfl rfl HEN.out ?_)
                  | ((with_reducible refine gate_ (.mapUpdate 28 (.tmp 153) (.tmp 154) (.tmp 155)) rfl ?_); refine ev_upd_r rfl rfl rfl rfl rfl rfl HR8.out HNX.out HK3.out HT.out (by rw [HK8.out]; rfl) ?_; intro w9 hr9 hg9; have HR9 := Aside0.mk hr9; have HS9 := Aside0.mk (HS8.out.updF hg9 hr9.im); clear hr9 hg9)
                  | ((with_reducible refine gate_ (.lookup 28 (.tmp 160) (.tmp 161) false) rfl ?_); refine ev_look' rfl rfl _ rfl rfl HS7.out.R HKI.out rfl ?_)
                  | ((with_reducible refine gate_ (.mapUpdate 28 (.tmp 156) (.tmp 157) (.tmp 162)) rfl ?_); refine ev_upd rfl rfl rfl rfl rfl rfl HS7.out.R (by have := HMX.out; omega) HT.out HRX.out ?_; intro w9 h1 h2; have HS8 := Aside0.mk (HS7.out.updR h2 h1); clear h1 h2)
                  | ((with_reducible refine gate_ (.mapUpdate 28 (.tmp 158) (.tmp 159) (.const (.int .i64 0))) rfl ?_); refine ev_upd rfl rfl rfl rfl rfl rfl HS8.out.R (by have := HMX.out; split <;> omega) HKI.out (by unfold In64; decide) ?_; intro w10 h1 h2; have HS9 := Aside0.mk (HS8.out.updR h2 h1); clear h1 h2)
                  | ((with_reducible refine gate_builtin (b := .append) (xs := #[.tmp 163, .tmp 165]) rfl ?_); at_builtin; refine ev_app rfl rfl rfl rfl HS9.out.f HS9.out.b.size (by simp) ?_; intro vf' w11 h1 h2 h3; have HS10 := Aside0.mk (HS9.out.appF h2 h3 h1); clear h1 h2 h3)
                  | fail)
                · (try (refine wp_goto ?_))
                  (try simp only [Exit.inBlock, Exit.then, one_goto0])
                  refine AK0.out ((ky L).length - (a2 + 1)) _ _ ?measure ?_
                  rotate_left
                  refine ⟨bf, br, a2 + 1, ?_⟩
                  (repeat apply Exists.intro)
                  refine ⟨?rel, rfl⟩
                  case measure => have := HA2.out; have := HA.out; have := HJL.out; have := HO.out; omega
                  case rel => exact ⟨_, _, _, _, _, _, _, HS10.out, HI2.out, (by have := HM.out; have := HA2.out; split <;> split <;> omega), (by have := HA2.out; have := HJL.out; have := HO.out; omega)⟩
                · go_roundg c8
                  case measure => exact HC8.out
                  case rel => exact ⟨f, _, HR8, ⟨(bend_step HF7.out HL.out HK8.out).2 HV.out⟩, HS8⟩
                · go_roundg c8
                  case measure => exact HC8.out
                  case rel => exact ⟨_, _, HR9, ⟨(bend_step HF7.out HL.out HK8.out).1 HV.out⟩, HS9⟩
          · have e1n : decide (a2 < no) = false := decide_eq_false hj
            have e1 : decide ((a2 : Int) < (no : Int)) = false := decide_eq_false (by omega)
            have HE := Aside0.mk (show a2 = (ky L).length from by have := HA2.out; have := HO.out; omega)
            clear hj
            go_wp2
            (try simp only [one_ret])
            go_ret2
            exact ⟨fun _ => ⟨_, out, rfl, HS.out.p, HI.out.ended HE.out⟩, fun h => absurd HK.out h, HS.out.b⟩
      · rw [List.concat_eq_append] at hfree
        subst hfree
        obtain ⟨s, hs, hir, his, hsr, hn0, ⟨rv, hrv, hrv0, hrvl⟩, hI2⟩ := HI.out.give HK.out HIN.out HT.out
        obtain ⟨ji, hji⟩ : ∃ j_ : Int, wrap64 ((nf : Int) - 1) = j_ := ⟨_, rfl⟩
        have hfl := HI.out.free_le
        have hkl := HKL.out
        have hnl := HN.out
        simp only [List.length_append, List.length_cons, List.length_nil] at hnf hfl
        have hjv : ji = (nf : Int) - 1 := by rw [← hji]; unfold wrap64; omega
        have hjw : IntKind.i64.wrap ((nf : Int) - 1) = ji := (i64_w _).trans hji
        have p1 : 0 ≤ ji := by omega
        have q1 : ji < (nf : Int) := by omega
        have q2 : ji ≤ (cf : Int) := by omega
        obtain ⟨g, rfl, hx⟩ := rd_at HS.out.f ji p1 q1
        have hjn : ji.toNat = fr.length := by omega
        rw [show (fr ++ [r]).getD ji.toNat 0 = r from by rw [hjn]; simp [List.getD]] at hx
        have HS1 := Aside0.mk (show St w wr bf br n3 m fm rd (.slice (some ⟨g, 0, none⟩) ji.toNat cf) fr (.slice Ao no co) (ky L) u10 out from by
          have h1 := HS.out.takeF (k := ji.toNat) (by simp; omega)
          rw [show (fr ++ [r]).take ji.toNat = fr from by rw [hjn]; simp] at h1
          exact h1)
        obtain ⟨pj, hpj⟩ : ∃ j_ : Int, wrap64 ((rv : Int) - 1) = j_ := ⟨_, rfl⟩
        have hpv : pj = (rv : Int) - 1 := by rw [← hpj]; unfold wrap64; omega
        have hpw : IntKind.i64.wrap ((rv : Int) - 1) = pj := (i64_w _).trans hpj
        have HPI := Aside0.mk (show In64 pj from by rw [in64_iff]; omega)
        have HMX := Aside0.mk (show m < maxLen from by have h1 := HM.out; have h2 := HA.out; unfold maxLen; omega)
        have HNX := Aside0.mk (show n3 < maxLen from by have h1 := HI.out.n_le; unfold maxLen; omega)
        have HRS := Aside0.mk (show (rd s).isSome = true from by
          cases e : rd s with
          | some z => rfl
          | none => rw [e] at hrv; simp at hrv; omega)
        rw [hrv, ← hpv] at hI2
        have HI2 := Aside0.mk hI2
        have HFS := Aside0.mk hs
        have HIR := Aside0.mk hir
        have HIS := Aside0.mk his
        have HRV := Aside0.mk hrv
        have HN0 := Aside0.mk hn0
        have HPV := Aside0.mk hpv
        have e1 : decide ((nf : Int) > 0) = true := decide_eq_true (by omega)
        have e2 : decide (0 < (nf : Int)) = true := decide_eq_true (by omega)
        have e3 : decide (0 < nf) = true := decide_eq_true (by omega)
        have HFL := Aside0.mk (show fr.length ≤ 1000000 from by omega)
        clear hs hir his hsr hn0 hrv hrv0 hrvl hI2 hfl hkl hnl hnf hcf hjn hjv hpv HS
        obtain ⟨fs, hfs⟩ : ∃ q, q = (mdel fm r s).getD 0 := ⟨_, rfl⟩
        have HFX := Aside0.mk hfs.symm
        clear hfs
        cases hw : (mdel fm r s).isSome with
        | false =>
          have HW := Aside0.mk hw
          clear hw
          go_wp2_with (first
            | ((with_reducible refine gate_ (.lookup 28 (.tmp 87) (.tmp 88) false) rfl ?_); refine ev_look' rfl rfl s rfl rfl HS1.out.F HIR.out (by rw [HFS.out]; rfl) ?_)
            | ((with_reducible refine gate_builtin (b := .delete) (xs := #[.tmp 90, .tmp 91]) rfl ?_); refine ev_del rfl rfl rfl rfl rfl HS1.out.F HIR.out ?_; intro w9 h1 h2; rw [if_pos (by rw [HFS.out]; rfl)] at h1; have HS2 := Aside0.mk (HS1.out.updF h2 h1); clear h1 h2)
            | ((with_reducible refine gate_builtin (b := .append) (xs := #[.tmp 92, .tmp 96]) rfl ?_); at_builtin; refine ev_app2 rfl rfl rfl rfl HS2.out.p HS2.out.b.size (by have h1 := HI.out.out_le; have h2 := HA.out; have h3 := HKL.out; have h4 := HN.out; omega) ?_; intro vp' w10 h1 h2 h3; have HS3 := Aside0.mk (HS2.out.appP h2 h1); clear h1 h2 h3)
            | ((with_reducible refine gate_ (.lookup 28 (.tmp 98) (.tmp 99) false) rfl ?_); refine ev_look' rfl rfl (rv : Int) rfl rfl HS3.out.R HIS.out HRV.out ?_)
            | ((with_reducible refine gate_ (.mapUpdate 28 (.tmp 98) (.tmp 99) (.tmp 101)) rfl ?_); refine ev_upd rfl rfl rfl rfl rfl rfl HS3.out.R HMX.out HIS.out HPI.out ?_; intro w11 h1 h2; rw [if_pos HRS.out] at h1; have HS4 := Aside0.mk (HS3.out.updR h2 h1); clear h1 h2)
            | ((with_reducible refine gate_ (.lookup 28 (.tmp 103) (.tmp 104) true) rfl ?_); refine ev_ok' rfl rfl fs false rfl rfl HS4.out.F HIS.out HFX.out HW.out ?_)
            | fail)
          go_roundg (n3 - 1)
          case measure => have := HN0.out; have := HN3.out; omega
          case rel => exact ⟨_, _, _, _, _, ⟨rfl⟩, HS4, ⟨by
            have h1 := HI2.out
            rw [if_neg (by rw [HW.out]; simp)] at h1
            exact h1⟩⟩
        | true =>
          have HW := Aside0.mk hw
          clear hw
          by_cases hz : pj = 0
          · have g1 : (pj == 0) = true := beq_iff_eq.mpr hz
            have HZ := Aside0.mk hz
            clear hz
            go_wp2_with (first
              | ((with_reducible refine gate_ (.lookup 28 (.tmp 87) (.tmp 88) false) rfl ?_); refine ev_look' rfl rfl s rfl rfl HS1.out.F HIR.out (by rw [HFS.out]; rfl) ?_)
              | ((with_reducible refine gate_builtin (b := .delete) (xs := #[.tmp 90, .tmp 91]) rfl ?_); refine ev_del rfl rfl rfl rfl rfl HS1.out.F HIR.out ?_; intro w9 h1 h2; rw [if_pos (by rw [HFS.out]; rfl)] at h1; have HS2 := Aside0.mk (HS1.out.updF h2 h1); clear h1 h2)
              | ((with_reducible refine gate_builtin (b := .append) (xs := #[.tmp 92, .tmp 96]) rfl ?_); at_builtin; refine ev_app2 rfl rfl rfl rfl HS2.out.p HS2.out.b.size (by have h1 := HI.out.out_le; have h2 := HA.out; have h3 := HKL.out; have h4 := HN.out; omega) ?_; intro vp' w10 h1 h2 h3; have HS3 := Aside0.mk (HS2.out.appP h2 h1); clear h1 h2 h3)
              | ((with_reducible refine gate_ (.lookup 28 (.tmp 98) (.tmp 99) false) rfl ?_); refine ev_look' rfl rfl (rv : Int) rfl rfl HS3.out.R HIS.out HRV.out ?_)
              | ((with_reducible refine gate_ (.mapUpdate 28 (.tmp 98) (.tmp 99) (.tmp 101)) rfl ?_); refine ev_upd rfl rfl rfl rfl rfl rfl HS3.out.R HMX.out HIS.out HPI.out ?_; intro w11 h1 h2; rw [if_pos HRS.out] at h1; have HS4 := Aside0.mk (HS3.out.updR h2 h1); clear h1 h2)
              | ((with_reducible refine gate_ (.lookup 28 (.tmp 103) (.tmp 104) true) rfl ?_); refine ev_ok' rfl rfl fs true rfl rfl HS4.out.F HIS.out HFX.out HW.out ?_)
              | ((with_reducible refine gate_ (.lookup 28 (.tmp 110) (.tmp 111) false) rfl ?_); (try (refine gate_guard (by rfl) ?_; dsimp only)); refine ev_look' rfl rfl pj rfl rfl HS4.out.R HIS.out (by simp [mup]) ?_)
              | ((with_reducible refine gate_builtin (b := .append) (xs := #[.tmp 115, .tmp 117]) rfl ?_); at_builtin; refine ev_app rfl rfl rfl rfl HS4.out.f HS4.out.b.size (by have := HFL.out; omega) ?_; intro vf' w12 h1 h2 h3; have HS5 := Aside0.mk (HS4.out.appF h2 h3 h1); clear h1 h2 h3)
              | fail)
            go_roundg (n3 - 1)
            case measure => have := HN0.out; have := HN3.out; omega
            case rel => exact ⟨_, _, _, _, _, ⟨rfl⟩, HS5, ⟨by
              have h1 := HI2.out
              rw [if_pos ⟨HW.out, by have := HZ.out; have := HPV.out; omega⟩] at h1
              exact h1⟩⟩
          · have g1 : (pj == 0) = false := beq_eq_false_iff_ne.mpr hz
            have HZ := Aside0.mk hz
            clear hz
            go_wp2_with (first
              | ((with_reducible refine gate_ (.lookup 28 (.tmp 87) (.tmp 88) false) rfl ?_); refine ev_look' rfl rfl s rfl rfl HS1.out.F HIR.out (by rw [HFS.out]; rfl) ?_)
              | ((with_reducible refine gate_builtin (b := .delete) (xs := #[.tmp 90, .tmp 91]) rfl ?_); refine ev_del rfl rfl rfl rfl rfl HS1.out.F HIR.out ?_; intro w9 h1 h2; rw [if_pos (by rw [HFS.out]; rfl)] at h1; have HS2 := Aside0.mk (HS1.out.updF h2 h1); clear h1 h2)
              | ((with_reducible refine gate_builtin (b := .append) (xs := #[.tmp 92, .tmp 96]) rfl ?_); at_builtin; refine ev_app2 rfl rfl rfl rfl HS2.out.p HS2.out.b.size (by have h1 := HI.out.out_le; have h2 := HA.out; have h3 := HKL.out; have h4 := HN.out; omega) ?_; intro vp' w10 h1 h2 h3; have HS3 := Aside0.mk (HS2.out.appP h2 h1); clear h1 h2 h3)
              | ((with_reducible refine gate_ (.lookup 28 (.tmp 98) (.tmp 99) false) rfl ?_); refine ev_look' rfl rfl (rv : Int) rfl rfl HS3.out.R HIS.out HRV.out ?_)
              | ((with_reducible refine gate_ (.mapUpdate 28 (.tmp 98) (.tmp 99) (.tmp 101)) rfl ?_); refine ev_upd rfl rfl rfl rfl rfl rfl HS3.out.R HMX.out HIS.out HPI.out ?_; intro w11 h1 h2; rw [if_pos HRS.out] at h1; have HS4 := Aside0.mk (HS3.out.updR h2 h1); clear h1 h2)
              | ((with_reducible refine gate_ (.lookup 28 (.tmp 103) (.tmp 104) true) rfl ?_); refine ev_ok' rfl rfl fs true rfl rfl HS4.out.F HIS.out HFX.out HW.out ?_)
              | ((with_reducible refine gate_ (.lookup 28 (.tmp 110) (.tmp 111) false) rfl ?_); (try (refine gate_guard (by rfl) ?_; dsimp only)); refine ev_look' rfl rfl pj rfl rfl HS4.out.R HIS.out (by simp [mup]) ?_)
              | ((with_reducible refine gate_builtin (b := .append) (xs := #[.tmp 115, .tmp 117]) rfl ?_); at_builtin; refine ev_app rfl rfl rfl rfl HS4.out.f HS4.out.b.size (by have := HFL.out; omega) ?_; intro vf' w12 h1 h2 h3; have HS5 := Aside0.mk (HS4.out.appF h2 h3 h1); clear h1 h2 h3)
              | fail)
            go_roundg (n3 - 1)
            case measure => have := HN0.out; have := HN3.out; omega
            case rel => exact ⟨_, _, _, _, _, ⟨rfl⟩, HS4, ⟨by
              have h1 := HI2.out
              rw [if_neg (fun hh => HZ.out (by have := hh.2; have := HPV.out; omega))] at h1
              exact h1⟩⟩
  case first =>
    intro K0 hL
    have AL := Aside0.mk hL
    clear hL
    go_wp2_with (first
      | (go_at_call 9; ((with_reducible refine (may.yes L t _ _ _ HC.out HN.out HIN.out HK.out).mono ?_); rintro e w1 ⟨rfl, hB⟩); have HB := Aside0.mk hB; clear hB)
      | ((with_reducible refine gate_dst (N := 29) rfl ?_); refine ev_make rfl rfl (fun q hq => by cases hq) ?_; intro bf w2 hb1 hm1 hg1; have HE1 := Aside0.mk hb1; have HM1 := Aside0.mk hm1; have HG1 := Aside0.mk hg1; clear hb1 hm1 hg1)
      | ((with_reducible refine gate_dst (N := 30) rfl ?_); refine ev_make rfl rfl (fun q hq => by cases hq) ?_; intro br w3 hb1 hm1 hg1; have HE2 := Aside0.mk hb1; have HM2 := Aside0.mk hm1; have HG2 := Aside0.mk hg1; clear hb1 hm1 hg1)
      | fail)
    have HS := Aside0.mk (show St w w3 bf br 0 0 (fun _ => none) (fun _ => none) (.slice none 0 0) [] (.slice none 0 0) [] (.slice none 0 0) [] from by
      have h1 := HB.out.size
      have h2 := HG1.out.size
      have h3 := HM1.out.lt
      exact { F := HM1.out.kept HG2.out (by simp), R := HM2.out, f := RI.nil, o := RI.nil, p := RP.nil, sep := (fun b hb => by cases hb), ne := (by have := HE2.out; have := HE1.out; omega), lf := (by have := HE1.out; omega), lr := (by have := HE2.out; omega), b := (HB.out.trans (below_one (B := w.heap.size) HG1.out (fun b e => by cases e) h1)).trans (below_one (B := w.heap.size) HG2.out (fun b e => by cases e) (by omega)) })
    clear HM1 HM2 HG1 HG2 HE1 HE2 HB
    go_loopg [9, 33] L.length (fun kq vo v w' => ∃ (i m : Nat) (rd : Int → Option Int), v = .int .i64 i ∧ Aside0 (i + kq = L.length) ∧ Aside0 (St w w' bf br (ky (L.take i)).length m (fo (L.take i)) rd (.slice none 0 0) [] vo (ky (L.take i)) (.slice none 0 0) []) ∧ Aside0 (m ≤ i ∧ ∀ x, (rd x).getD 0 = ((nt (L.take i)).countP (fun q => decide (q.2 = x)) : Int)))
    case atStart => exact ⟨0, 0, _, rfl, ⟨by omega⟩, HS, ⟨by simp [nt]⟩⟩
    case round =>
      clear HS
      obtain ⟨i, m, rd, rfl, HI, HS, HR⟩ := hrel
      by_cases hi : i < L.length
      · have e1n : decide (i < L.length) = true := decide_eq_true hi
        have e1 : decide ((i : Int) < (L.length : Int)) = true := decide_eq_true (by omega)
        have p1 : (0 : Int) ≤ (i : Int) := by omega
        have q1 : (i : Int) < (L.length : Int) := by omega
        have HC2 := Aside0.mk (Kd.C_below HC.out HS.out.b)
        obtain ⟨ad, rfl, hx, hy⟩ := pair_at HC2.out i hi
        have hk1 := Aside0.mk (HIN.out _ (el_mem hi))
        have HIL := Aside0.mk hi
        clear hi
        have w3 : wrap64 ((i : Int) + 1) = (i : Int) + 1 := by have := HN.out; unfold wrap64; omega
        have w4 : IntKind.i64.wrap ((i : Int) + 1) = (i : Int) + 1 := (i64_w _).trans w3
        by_cases hne : (el L i).1 = (el L i).2
        · have g1 : ((el L i).1 != (el L i).2) = false := bne_eq_false_iff_eq.mpr hne
          have HNE := Aside0.mk hne
          clear hne
          go_wp2_with (first
          | ((with_reducible refine gate_ (.load 31 (.tmp 35)) rfl ?_); refine ev_load rfl rfl rfl hx hy ?_)
          | ((with_reducible refine gate_ (.alloc 31) rfl ?_); refine ev_box rfl rfl rfl ?_; intro g w2 hg hbx hg2; have HE2 := Aside0.mk hg; have HX2 := Aside0.mk hbx; have HG2 := Aside0.mk hg2; clear hbx hg2 hg hx hy)
          | ((with_reducible refine gate_ (.store 31 (.tmp 12) (.tmp 36)) rfl ?_); refine ev_put rfl rfl rfl rfl rfl HX2.out ?_; intro w3 hbx hg3; have HS3 := Aside0.mk (HS.out.grow (HG2.out.andThen hg3 (fun j hj => .inl (by have h2 := HE2.out; have h3 := Option.some.inj hj; omega)))); have hx : w3.cell? ⟨g, 0, none⟩ = some (.int .i64 (el L i).1) := (blk_cell hbx 0).trans rfl; have hy : w3.cell? ⟨g, 1, none⟩ = some (.int .i64 (el L i).2) := (blk_cell hbx 1).trans rfl; clear hbx hg3)
          | fail)
          go_roundg (L.length - (i + 1))
          case measure => have := HI.out; have := HIL.out; omega
          case rel => exact ⟨i + 1, m, rd, by (try simp only [w4, w3]); rfl, ⟨by have := HI.out; have := HIL.out; omega⟩, ⟨by rw [take_el HIL.out, fo_snoc, ky, nt_snoc, if_pos HNE.out, if_pos HNE.out]; exact HS3.out⟩, ⟨by
            rw [take_el HIL.out, nt_snoc, if_pos HNE.out]
            exact ⟨by have := HR.out.1; omega, HR.out.2⟩⟩⟩
        · have g1 : ((el L i).1 != (el L i).2) = true := bne_iff_ne.mpr hne
          have HNE := Aside0.mk hne
          clear hne
          have HKN := Aside0.mk (show (ky (L.take i)).length ≤ 1000000 by have h1 := nt_le (L.take i); have h2 := HN.out; simp only [List.length_map]; simp only [List.length_take] at h1; omega)
          have HFK := Aside0.mk (show ((fo (L.take i)) (el L i).1).isSome = false from (by
            cases e : ((fo (L.take i)) (el L i).1).isSome with
            | false => rfl
            | true =>
              have h1 := ky_sub _ _ ((fo_key _ _).1 e)
              have h2 := HK.out.2.2
              rw [← List.take_append_drop i L, List.map_append, List.nodup_append] at h2
              have h3 : (el L i).1 ∈ (L.drop i).map (·.1) := by
                have hi := HIL.out
                rw [el_get hi]
                exact List.mem_map.2 ⟨L[i], by rw [List.drop_eq_getElem_cons hi]; exact List.mem_cons_self, rfl⟩
              exact absurd rfl (h2.2.2 _ h1 _ h3)))
          have HMX := Aside0.mk (show m < maxLen by have h1 := HR.out.1; have h2 := HN.out; have := HIL.out; unfold maxLen; omega)
          have HNX := Aside0.mk (show (ky (L.take i)).length < maxLen by have h1 := HKN.out; unfold maxLen; omega)
          go_wp2_with (first
          | ((with_reducible refine gate_ (.load 31 (.tmp 35)) rfl ?_); refine ev_load rfl rfl rfl hx hy ?_)
          | ((with_reducible refine gate_ (.alloc 31) rfl ?_); refine ev_box rfl rfl rfl ?_; intro g w2 hg hbx hg2; have HE2 := Aside0.mk hg; have HX2 := Aside0.mk hbx; have HG2 := Aside0.mk hg2; clear hbx hg2 hg hx hy)
          | ((with_reducible refine gate_ (.store 31 (.tmp 12) (.tmp 36)) rfl ?_); refine ev_put rfl rfl rfl rfl rfl HX2.out ?_; intro w3 hbx hg3; have HS3 := Aside0.mk (HS.out.grow (HG2.out.andThen hg3 (fun j hj => .inl (by have h2 := HE2.out; have h3 := Option.some.inj hj; omega)))); have hx : w3.cell? ⟨g, 0, none⟩ = some (.int .i64 (el L i).1) := (blk_cell hbx 0).trans rfl; have hy : w3.cell? ⟨g, 1, none⟩ = some (.int .i64 (el L i).2) := (blk_cell hbx 1).trans rfl; clear hbx hg3)
          | ((with_reducible refine gate_ (.mapUpdate 28 (.tmp 42) (.tmp 44) (.tmp 46)) rfl ?_); refine ev_upd rfl rfl rfl rfl rfl rfl HS3.out.F HNX.out hk1.out.1 hk1.out.2 ?_; intro w4 hm4 hg4; rw [if_neg (by rw [HFK.out]; decide)] at hm4; have hx' := hg4.cell hx (by have h2 := HE2.out; have h3 := HS.out.F.lt; intro e; have h4 := Option.some.inj e; simp only at h4; omega); have hy' := hg4.cell hy (by have h2 := HE2.out; have h3 := HS.out.F.lt; intro e; have h4 := Option.some.inj e; simp only at h4; omega); clear hx hy; have HS4 := Aside0.mk (HS3.out.updF hg4 hm4); clear hm4 hg4)
          | ((with_reducible refine gate_ (.lookup 28 (.tmp 47) (.tmp 49) false) rfl ?_); refine ev_look rfl rfl rfl rfl HS4.out.R hk1.out.2 ?_; intro hv)
          | ((with_reducible refine gate_ (.mapUpdate 28 (.tmp 47) (.tmp 49) (.tmp 51)) rfl ?_); refine ev_upd rfl rfl rfl rfl rfl rfl HS4.out.R HMX.out hk1.out.2 (in64_w64 _) ?_; intro w5 hm5 hg5; have hx := hg5.cell hx' (by have h2 := HE2.out; have h3 := HS.out.R.lt; intro e; have h4 := Option.some.inj e; simp only at h4; omega); clear hx' hy'; have HS5 := Aside0.mk (HS4.out.updR hg5 hm5); clear hm5 hg5)
          | ((with_reducible refine gate_builtin (b := .append) (xs := #[.tmp 52, .tmp 55]) rfl ?_); at_builtin; refine ev_app rfl rfl rfl rfl HS5.out.o HS5.out.b.size (by have := HKN.out; omega) ?_; intro vo' w6 h1 h2 h3; have HS6 := Aside0.mk (HS5.out.appO h2 h3 h1); clear h1 h2 h3)
          | fail)
          go_roundg (L.length - (i + 1))
          case measure => have := HI.out; have := HIL.out; omega
          case rel => exact ⟨i + 1, _, _, by (try simp only [w4, w3]); rfl, ⟨by have := HI.out; have := HIL.out; omega⟩, ⟨by
            have hS := HS6.out
            rw [take_el HIL.out, fo_snoc, ky, nt_snoc, if_neg HNE.out, if_neg HNE.out]
            simp only [List.map_append, List.length_append, List.map_cons, List.map_nil, List.length_cons, List.length_nil, Nat.zero_add]
            exact hS⟩, ⟨by
            rw [take_el HIL.out, nt_snoc, if_neg HNE.out]
            refine ⟨by have := HR.out.1; split <;> omega, fun x => ?_⟩
            have hr := HR.out.2
            have hc := List.countP_le_length (p := fun q : Int × Int => decide (q.2 = (el L i).2)) (l := nt (L.take i))
            have hl := nt_le (L.take i)
            rw [List.length_take] at hl
            have hn := HN.out
            rw [List.countP_append]
            unfold mup
            by_cases e : x = (el L i).2
            · rw [if_pos e, Option.getD_some, hr, e]
              simp only [List.countP_cons, List.countP_nil, decide_true, if_true]
              unfold wrap64
              omega
            · rw [if_neg e, hr]
              simp [List.countP_cons, Ne.symm e]⟩⟩
      · have e1 : decide ((i : Int) < (L.length : Int)) = false := decide_eq_false (by omega)
        have e1n : decide (i < L.length) = false := decide_eq_false hi
        have hil : i = L.length := by have := HI.out; omega
        have HS' := HS.out
        have HR' := HR.out
        rw [hil, List.take_length] at HS' HR'
        obtain ⟨Ao, no, co, rfl, hno, hnc⟩ := HS'.o.form'
        have HO := Aside0.mk hno
        have HOC := Aside0.mk hnc
        have HHI := Aside0.mk hil
        have HR2 := Aside0.mk HR'
        have HS2 := Aside0.mk HS'
        clear hi hil HS' HR' hno hnc HS HR
        go_wp2
        go_loopg [8, 60] no (fun kq vf v w' => ∃ (j : Nat), v = .int .i64 j ∧ Aside0 (j + kq = no) ∧ Aside0 (St w w' bf br (ky L).length m (fo L) rd vf (((ky L).take j).filter (fun r => decide ((rd r).getD 0 = 0))) (.slice Ao no co) (ky L) (.slice none 0 0) []))
        case atStart => exact ⟨0, rfl, ⟨by omega⟩, HS2⟩
        case round =>
          clear HS2
          obtain ⟨j, rfl, HJ, HS⟩ := hrel
          by_cases hj : j < no
          · have e1n : decide (j < no) = true := decide_eq_true hj
            have e1 : decide ((j : Int) < (no : Int)) = true := decide_eq_true (by omega)
            have p1 : (0 : Int) ≤ (j : Int) := by omega
            have q1 : (j : Int) < (no : Int) := by omega
            obtain ⟨g, rfl, hx⟩ := HS.out.o.at j hj
            have hmem : (ky L).getD j 0 ∈ ky L := by
              have := HO.out
              rw [List.getD_eq_getElem?_getD, List.getElem?_eq_getElem (by omega)]
              exact List.getElem_mem _
            have hki : In64 ((ky L).getD j 0) := by
              obtain ⟨q, hq, e⟩ := List.mem_map.1 (ky_sub L _ hmem)
              rw [← e]; exact (HIN.out q hq).1
            have HKI := Aside0.mk hki
            have hnl : no ≤ 1000000 := by have h1 := HO.out; have h2 := nt_le L; have h3 := HN.out; simp only [List.length_map] at h1; omega
            have htk : (ky L).take (j + 1) = (ky L).take j ++ [(ky L).getD j 0] := by
              have := HO.out
              rw [List.getD_eq_getElem?_getD, List.getElem?_eq_getElem (by omega), List.take_succ_eq_append_getElem (by omega)]
              rfl
            have HTK := Aside0.mk htk
            have w3 : wrap64 ((j : Int) + 1) = (j : Int) + 1 := by unfold wrap64; omega
            have w4 : IntKind.i64.wrap ((j : Int) + 1) = (j : Int) + 1 := (i64_w _).trans w3
            have HJL := Aside0.mk (And.intro hj hnl)
            clear hj hnl htk hki hmem
            obtain ⟨x, hxe⟩ : ∃ x, x = (ky L).getD j 0 := ⟨_, rfl⟩
            rw [← hxe] at hx HKI HTK
            clear hxe
            by_cases hz : (rd x).getD 0 = 0
            · have g1 : ((rd x).getD 0 == 0) = true := beq_iff_eq.mpr hz
              have HZ := Aside0.mk hz
              clear hz
              go_wp2_with (first
                | ((with_reducible refine gate_ (.lookup 28 (.tmp 64) (.tmp 65) false) rfl ?_); refine ev_look rfl rfl rfl rfl HS.out.R HKI.out ?_; intro hv)
                | ((with_reducible refine gate_builtin (b := .append) (xs := #[.tmp 68, .tmp 70]) rfl ?_); at_builtin; refine ev_app rfl rfl rfl rfl HS.out.f HS.out.b.size (by have h1 := List.length_filter_le (fun r => decide ((rd r).getD 0 = 0)) ((ky L).take j); have := HJL.out; rw [List.length_take] at h1; omega) ?_; intro vo' w6 h1 h2 h3; have HS6 := Aside0.mk (HS.out.appF h2 h3 h1); clear h1 h2 h3)
                | fail)
              go_roundg (no - (j + 1))
              case measure => have := HJ.out; have := HJL.out; omega
              case rel => exact ⟨j + 1, by (try simp only [w4, w3]); rfl, ⟨by have := HJ.out; have := HJL.out; omega⟩, ⟨by
                rw [HTK.out, List.filter_append, List.filter_cons, if_pos (by simpa using HZ.out)]
                exact HS6.out⟩⟩
            · have g1 : ((rd x).getD 0 == 0) = false := beq_eq_false_iff_ne.mpr hz
              have HZ := Aside0.mk hz
              clear hz
              go_wp2_with (first
                | ((with_reducible refine gate_ (.lookup 28 (.tmp 64) (.tmp 65) false) rfl ?_); refine ev_look rfl rfl rfl rfl HS.out.R HKI.out ?_; intro hv)
                | fail)
              go_roundg (no - (j + 1))
              case measure => have := HJ.out; have := HJL.out; omega
              case rel => exact ⟨j + 1, by (try simp only [w4, w3]); rfl, ⟨by have := HJ.out; have := HJL.out; omega⟩, ⟨by
                rw [HTK.out, List.filter_append, List.filter_cons, if_neg (by simpa using HZ.out), List.filter_nil, List.append_nil]
                exact HS.out⟩⟩
          · have e1 : decide ((j : Int) < (no : Int)) = false := decide_eq_false (by omega)
            have e1n : decide (j < no) = false := decide_eq_false hj
            have hjn : j = no := by have := HJ.out; omega
            have HSI := Aside0.mk (show SeqI L t w wr bf br u8 (.slice Ao no co) (.slice none 0 0) 0 (ky L).length from by
              have h1 := HS.out
              have h2 : (ky L).take no = ky L := by rw [HO.out, List.take_length]
              rw [hjn, h2] at h1
              exact ⟨_, _, _, _, _, _, _, h1, Inv.start HK.out HR2.out.2 rfl, by have := HR2.out.1; have := HHI.out; omega, by omega⟩)
            have HJN := Aside0.mk hjn
            clear hj hjn
            go_wp2
            refine wp_label ?_
            (try simp only [Exit.then])
            (try go_step)
            refine AL.out (ky L).length _ _ ?_
            (repeat apply Exists.intro)
            refine ⟨?rel, rfl⟩
            case rel => exact HSI
end Go.Proofs.Ytdodmjnicnpefaa.Q
