/- A part of the proof, made small by a program: Qx13, Qx14, Qx29, Qx30, Qx1, Qx33. -/
import Derived.Test.YtbmfadmoficfiaaDoorVs2
import Derived.Test.YtbmfadmoficfiaaDoorVs4
import Derived.Test.YtbmfadmoficfiaaDoorVs5
import Derived.Test.YtbmfadmoficfiaaDoorVs6
import Derived.Test.YtbmfadmoficfiaaDoorVs7
namespace Go.Proofs.YtbmfadmoficfiaaDoor.Q
open Go.RowKit Go.Proofs.YtbmfadmoficfiaaDoorW.PrintWords Go.Proofs.YtbmfadmoficfiaaDoorW.PrintLast Go.Proofs.YtbmfadmoficfiaaDoorW.PrintMore
attribute [local go_sem] Z56 Z54 Z61 Z60 Z49 Z48 Z55 Z53
set_option linter.unusedVariables false
set_option linter.unusedSimpArgs false
def Z41.l0 : Nat → ByteArray → Int → List ByteArray → Int → Int → Option (Int × ByteArray × Int × Bool × Int × Int × Bool)
 | 0, _, _, _, _, _ => none
 | k + 1, x0, x1, x8, x9, x10 => if x10 < x9 then (if 0 ≤ x10 then (if x10 < (x8.length : Int) then (if 0 ≤ x1 then (if x1 ≤ (x0.size : Int) then ((strings_HasPrefix.f (x0.extract (x1 : Int).toNat x0.size) (rdOf ByteArray.empty x8 x10)).bind fun t142 => (if t142 = true then (some (4, rdOf ByteArray.empty x8 x10, 0, false, x1, wrap64 (x1 + ((rdOf ByteArray.empty x8 x10).size : Int)), true)) else (Z41.l0 k x0 x1 x8 x9 (wrap64 (x10 + 1))))) else (none)) else (none)) else (none)) else (none)) else (some (0, (⟨#[]⟩ : ByteArray), 0, false, 0, 0, false))
def Z41.f (k : Nat) (a0 : ByteArray) (a1 : Int) : Option (Int × ByteArray × Int × Bool × Int × Int × Bool) := (strings_Fields.f (⟨#[60, 60, 61, 32, 62, 62, 61, 32, 45, 62, 32, 43, 61, 32, 45, 61, 32, 42, 61, 32, 47, 61, 32, 37, 61, 32, 38, 61, 32, 124, 61, 32, 94, 61, 32, 61, 61, 32, 33, 61, 32, 60, 61, 32, 62, 61, 32, 60, 60, 32, 62, 62, 32, 38, 38, 32, 124, 124, 32, 40, 32, 41, 32, 123, 32, 125, 32, 91, 32, 93, 32, 59, 32, 44, 32, 46, 32, 61, 32, 60, 32, 62, 32, 43, 32, 45, 32, 42, 32, 47, 32, 37, 32, 38, 32, 124, 32, 94, 32, 126, 32, 33, 32, 63, 32, 58]⟩ : ByteArray)).bind fun t138 => (Z41.l0 k a0 a1 t138 (t138.length : Int) 0)
theorem Z41.mono_l : ∀ k, (∀ y0 y1 y2 y3 y4, LeO (Z41.l0 k y0 y1 y2 y3 y4) (Z41.l0 (k + 1) y0 y1 y2 y3 y4))
 | 0 => fun _ _ _ _ _ r h => by simp [Z41.l0] at h
 | k + 1 => by
  have ih0 := Z41.mono_l k
  · intro y0 y1 y2 y3 y4
    unfold Z41.l0
    repeat' first
    | (with_reducible exact ih0 _ _ _ _ _)
    | (with_reducible exact LeO.refl _)
    | (with_reducible exact LeO.none _)
    | (with_reducible refine LeO.ite ?_ ?_)
    | (with_reducible refine LeO.bind ?_ (fun _ => ?_))
    | exact ih0 _ _ _ _ _
    | exact LeO.none _
    | refine LeO.ite ?_ ?_
    | refine LeO.bind ?_ (fun _ => ?_)
theorem Z41.mono : ∀ a0 a1 k, LeO (Z41.f k a0 a1) (Z41.f (k + 1) a0 a1) := by
 intro a0 a1 k
 have ih0 := Z41.mono_l k
 unfold Z41.f
 repeat' first
  | (with_reducible exact ih0 _ _ _ _ _)
  | (with_reducible exact LeO.refl _)
  | (with_reducible exact LeO.none _)
  | (with_reducible refine LeO.ite ?_ ?_)
  | (with_reducible refine LeO.bind ?_ (fun _ => ?_))
  | exact ih0 _ _ _ _ _
  | exact LeO.none _
  | refine LeO.ite ?_ ?_
  | refine LeO.bind ?_ (fun _ => ?_)
set_option maxHeartbeats 8000000 in
set_option maxRecDepth 100000 in
theorem Z41.calls (k : Nat) (a0 : ByteArray) (a1 : Int) (r1 : Int) (r2 : ByteArray) (r3 : Int) (r4 : Bool) (r5 : Int) (r6 : Int) (r7 : Bool) (w : World) (hG : PremW w) (h : Z41.f k a0 a1 = some (r1, r2, r3, r4, r5, r6, r7)) :
 Calls Tryd.prog 27 #[.string a0, .int .i64 a1] w fun e w' => e = .returned (.tuple #[.agg #[.int .i64 r1, .string r2, .int .u32 r3, .bool r4, .int .i64 r5, .int .i64 r6], .bool r7]) ∧ Below w.heap.size w w' := by
 have hu24 := Tryd.underlying24
 have HG := Aside0.mk hG
 clear hG
 have HB := Aside0.mk (Below.refl w.heap.size w)
 have H : ((strings_Fields.f (⟨#[60, 60, 61, 32, 62, 62, 61, 32, 45, 62, 32, 43, 61, 32, 45, 61, 32, 42, 61, 32, 47, 61, 32, 37, 61, 32, 38, 61, 32, 124, 61, 32, 94, 61, 32, 61, 61, 32, 33, 61, 32, 60, 61, 32, 62, 61, 32, 60, 60, 32, 62, 62, 32, 38, 38, 32, 124, 124, 32, 40, 32, 41, 32, 123, 32, 125, 32, 91, 32, 93, 32, 59, 32, 44, 32, 46, 32, 61, 32, 60, 32, 62, 32, 43, 32, 45, 32, 42, 32, 47, 32, 37, 32, 38, 32, 124, 32, 94, 32, 126, 32, 33, 32, 63, 32, 58]⟩ : ByteArray)).bind fun t138 => (Z41.l0 k a0 a1 t138 (t138.length : Int) 0)) = some (r1, r2, r3, r4, r5, r6, r7) := h
 clear h
 replace H := Option.bind_eq_some_iff.mp H
 obtain ⟨t138, A30, H⟩ := H
 replace H : (Z41.l0 k a0 a1 t138 (t138.length : Int) 0) = some (r1, r2, r3, r4, r5, r6, r7) := H
 have A3 := Aside0.mk A30
 clear A30
 have H' := Aside0.mk H
 clear H
 go_enter Tryd.func27, Tryd.ntmps27
 go_wp2_with (first | ((with_reducible refine Z52 (N := 4) rfl ?_); refine Z51 ?hg (N := 4) ?hd (cs := #[.int .i64 0, .string (⟨#[]⟩ : ByteArray), .int .u32 0, .bool false, .int .i64 0, .int .i64 0]) (t := 24) ?hr ?_; (case hd => rfl); (case hg => rfl); (case hr => first | (go_simp; done) | (go_simp; rfl)); intro gb137 hg w4 hbox hb; have n0_ := Aside0.mk (Z25 (by repeat (first | (with_reducible first | exact HB.out | apply Z7 | apply Z4 | apply Z6) | exact HB.out)) hb); have n1_ := Aside0.mk (hbox); have n2_ := Aside0.mk ((by rw [hg]; exact (Z27 (by repeat (first | (with_reducible first | exact HB.out | apply Z7 | apply Z4 | apply Z6) | exact HB.out))) : w.heap.size ≤ gb137)); have n3_ := Aside0.mk ((by rw [hg]; exact (Z27 (by repeat (first | (with_reducible first | exact HB.out | apply Z7 | apply Z4 | apply Z6) | exact HB.out))) : w.heap.size ≤ gb137)); clear HB; have HB := n0_; have BK137 := n1_; have GW137 := n2_; have GE137 := n3_; clear n0_ n1_ n2_ n3_; clear hb hbox hg) | ((with_reducible refine Z14 (f := 37) rfl ?_); refine goesL_ (some 8) rfl rfl Tryd.func37 (by kernel_rfl) rfl #[.string (⟨#[60, 60, 61, 32, 62, 62, 61, 32, 45, 62, 32, 43, 61, 32, 45, 61, 32, 42, 61, 32, 47, 61, 32, 37, 61, 32, 38, 61, 32, 124, 61, 32, 94, 61, 32, 61, 61, 32, 33, 61, 32, 60, 61, 32, 62, 61, 32, 60, 60, 32, 62, 62, 32, 38, 38, 32, 124, 124, 32, 40, 32, 41, 32, 123, 32, 125, 32, 91, 32, 93, 32, 59, 32, 44, 32, 46, 32, 61, 32, 60, 32, 62, 32, 43, 32, 45, 32, 42, 32, 47, 32, 37, 32, 38, 32, 124, 32, 94, 32, 126, 32, 33, 32, 63, 32, 58]⟩ : ByteArray)] rfl (by (try simp only [List.map_toArray, List.map_cons, List.map_nil]); first | done | rfl | (simp only [List.length_drop, List.length_take]; rfl)) ?_; (with_reducible refine (strings_Fields.calls (⟨#[60, 60, 61, 32, 62, 62, 61, 32, 45, 62, 32, 43, 61, 32, 45, 61, 32, 42, 61, 32, 47, 61, 32, 37, 61, 32, 38, 61, 32, 124, 61, 32, 94, 61, 32, 61, 61, 32, 33, 61, 32, 60, 61, 32, 62, 61, 32, 60, 60, 32, 62, 62, 32, 38, 38, 32, 124, 124, 32, 40, 32, 41, 32, 123, 32, 125, 32, 91, 32, 93, 32, 59, 32, 44, 32, 46, 32, 61, 32, 60, 32, 62, 32, 43, 32, 45, 32, 42, 32, 47, 32, 37, 32, 38, 32, 124, 32, 94, 32, 126, 32, 33, 32, 63, 32, 58]⟩ : ByteArray) t138 _ ?side1 A3.out).mono ?_); (case side1 => refine PremW.below HG.out ?_; repeat (first | (with_reducible first | exact HB.out | apply Z7 | apply Z4 | apply Z6 | refine Z8 ?_ GE137.out) | exact HB.out)); rintro e w5 ⟨v139, rfl, ho0, hb⟩; refine ⟨_, rfl, ?_⟩; have n0_ := Aside0.mk (Kd.R_lower ho0 (Z27 (by repeat (first | (with_reducible first | exact HB.out | apply Z7 | apply Z4 | apply Z6 | refine Z8 ?_ GE137.out) | exact HB.out)))); have n1_ := Aside0.mk (Z40 (g := gb137) (o := .cells #[.int .i64 0, .string (⟨#[]⟩ : ByteArray), .int .u32 0, .bool false, .int .i64 0, .int .i64 0] 24 (0, 0)) (by (with_reducible repeat (first | refine Z0 ?_ _ | refine Z3 ?_ | refine Z1 ?_ _)); exact BK137.out) hb); have n2_ := Aside0.mk (Z25 (by repeat (first | (with_reducible first | exact HB.out | apply Z7 | apply Z4 | apply Z6 | refine Z8 ?_ GE137.out) | exact HB.out)) hb); clear BK137; clear HB; have HO140 := n0_; have BK137 := n1_; have HB := n2_; clear n0_ n1_ n2_; (try clear hb); (try clear hb2); (try clear hk); (try clear hi); (try clear ho0); obtain ⟨Ao6, co6, eo6⟩ := Kd.R_slice HO140.out; subst eo6))
 go_loopg [10] k (fun kq v10 w' => ∃ (x10_1 : Int) (x138000_1 : Int) (x138001_1 : ByteArray) (x138002_1 : Int) (x138003_1 : Bool) (x138004_1 : Int) (x138005_1 : Int), v10 = .int .i64 x10_1 ∧ Aside0 (Z41.l0 kq a0 a1 t138 (t138.length : Int) x10_1 = some (r1, r2, r3, r4, r5, r6, r7)) ∧ Aside0 (kq ≤ k) ∧ Aside0 (Kd.R Kd.string 9 w' w.heap.size (fun _ => True) (.slice Ao6 t138.length co6) t138) ∧ Aside0 (w'.heap[gb137]? = some (.cells #[.int .i64 x138000_1, .string x138001_1, .int .u32 x138002_1, .bool x138003_1, .int .i64 x138004_1, .int .i64 x138005_1] 24 (0, 0))) ∧ Aside0 (Below w.heap.size w w'))
 case atStart => exact ⟨(0), (0), ((⟨#[]⟩ : ByteArray)), (0), (false), (0), (0), (by first | rfl | (simp; done) | (simp [*]; done)), H', ⟨Nat.le_refl _⟩, ⟨by (with_reducible repeat (first | apply Kd.R_alloc | apply Kd.R_drewN | apply Kd.R_drew)); exact HO140.out⟩, ⟨by (with_reducible repeat (first | refine Z0 ?_ _ | refine Z3 ?_ | refine Z1 ?_ _)); exact BK137.out⟩, ⟨by repeat (first | (with_reducible first | exact HB.out | apply Z7 | apply Z4 | apply Z6 | refine Z8 ?_ GE137.out) | exact HB.out)⟩⟩
 case round =>
  clear H'
  obtain ⟨x10_1, x138000_1, x138001_1, x138002_1, x138003_1, x138004_1, x138005_1, rfl, HA, HK1, HO_8, BK137, HB⟩ := hrel
  cases gk with
  | zero => exact absurd HA.out (by simp [Z41.l0])
  | succ k1 =>
   have H := HA.out
   clear HA
   simp only [Z41.l0] at H
   by_cases c7 : x10_1 < (t138.length : Int)
   · rw [if_pos c7] at H
     have c7b0 : decide (x10_1 < (t138.length : Int)) = true := decide_eq_true c7
     clear c7
     by_cases c8 : 0 ≤ x10_1
     · rw [if_pos c8] at H
       have c8b0 : decide (0 ≤ x10_1) = true := decide_eq_true c8
       clear c8
       by_cases c9 : x10_1 < (t138.length : Int)
       · rw [if_pos c9] at H
         have c9b0 : decide (x10_1 < (t138.length : Int)) = true := decide_eq_true c9
         clear c9
         by_cases c10 : 0 ≤ a1
         · rw [if_pos c10] at H
           have c10b0 := eq_true c10
           have c10b1 : decide (0 ≤ a1) = true := decide_eq_true c10
           clear c10
           by_cases c11 : a1 ≤ (a0.size : Int)
           · rw [if_pos c11] at H
             have c11b0 := eq_true c11
             have c11b1 : decide (a1 ≤ (a0.size : Int)) = true := decide_eq_true c11
             clear c11
             replace H := Option.bind_eq_some_iff.mp H
             obtain ⟨t142, A120, H⟩ := H
             replace H : (if t142 = true then (some (4, rdOf ByteArray.empty t138 x10_1, 0, false, a1, wrap64 (a1 + ((rdOf ByteArray.empty t138 x10_1).size : Int)), true)) else (Z41.l0 k1 a0 a1 t138 (t138.length : Int) (wrap64 (x10_1 + 1)))) = some (r1, r2, r3, r4, r5, r6, r7) := H
             have A12 := Aside0.mk A120
             clear A120
             by_cases c13 : t142 = true
             · subst c13
               have H1 : (some (4, rdOf ByteArray.empty t138 x10_1, 0, false, a1, wrap64 (a1 + ((rdOf ByteArray.empty t138 x10_1).size : Int)), true)) = some (r1, r2, r3, r4, r5, r6, r7) := by rw [if_pos rfl] at H; exact H
               clear H
               have H := H1
               clear H1
               simp only [Option.some.injEq, Prod.mk.injEq] at H
               obtain ⟨rfl, rfl, rfl, rfl, rfl, rfl, rfl⟩ := H
               have p141 : 0 ≤ (x10_1 : Int) := of_decide_eq_true (by first | (with_reducible assumption) | assumption)
               have q141 : x10_1 < (t138.length : Int) := of_decide_eq_true (by first | (with_reducible assumption) | assumption)
               obtain ⟨ad141, e141, hx141_0⟩ := Kd.at_string (Kd.R_reads' HO_8.out).2.2 x10_1 p141 q141
               cases e141
               replace p141 := eq_true p141
               replace q141 := eq_true q141
               go_wp2_with (first | ((with_reducible refine Z14 (f := 34) rfl ?_); refine goesL_ (some 18) rfl rfl Tryd.func34 (by kernel_rfl) rfl #[.string (a0.extract (a1 : Int).toNat a0.size), .string (rdOf ByteArray.empty t138 x10_1)] rfl (by (try simp only [List.map_toArray, List.map_cons, List.map_nil]); first | done | rfl | (simp only [List.length_drop, List.length_take]; rfl)) ?_; (with_reducible refine (strings_HasPrefix.calls (a0.extract (a1 : Int).toNat a0.size) (rdOf ByteArray.empty t138 x10_1) true _ A12.out).mono ?_); rintro e w' ⟨rfl, ⟨nd, rfl⟩⟩; refine ⟨_, rfl, ?_⟩; (try (rw [Z43 wr]; generalize hq_ : World.drewN wr _ = wr; have n0_ : Aside0 (Kd.R Kd.string 9 wr w.heap.size (fun _ => True) (.slice (some ad141) t138.length co6) t138) := ⟨by rw [← hq_]; exact (by (with_reducible repeat (first | apply Kd.R_alloc | apply Kd.R_drewN | apply Kd.R_drew)); exact HO_8.out)⟩; have n1_ : Aside0 (wr.heap[gb137]? = some (.cells #[.int .i64 x138000_1, .string x138001_1, .int .u32 x138002_1, .bool x138003_1, .int .i64 x138004_1, .int .i64 x138005_1] 24 (0, 0))) := ⟨by rw [← hq_]; exact (by (with_reducible repeat (first | refine Z0 ?_ _ | refine Z3 ?_ | refine Z1 ?_ _)); exact BK137.out)⟩; have n2_ : Aside0 (Below w.heap.size w wr) := ⟨by rw [← hq_]; exact (by repeat (first | (with_reducible first | exact HB.out | apply Z7 | apply Z4 | apply Z6 | refine Z8 ?_ GE137.out) | exact HB.out))⟩; clear HO_8 BK137 HB hq_; have HO_8 := n0_; have BK137 := n1_; have HB := n2_; clear n0_ n1_ n2_)); have hcz14_0 : wr.cell? ⟨gb137, 0, none⟩ = some (.int .i64 x138000_1) := (Z5 BK137.out 0).trans rfl; have hcz14_1 : wr.cell? ⟨gb137, 1, none⟩ = some (.string x138001_1) := (Z5 BK137.out 1).trans rfl; have hcz14_2 : wr.cell? ⟨gb137, 2, none⟩ = some (.int .u32 x138002_1) := (Z5 BK137.out 2).trans rfl; have hcz14_3 : wr.cell? ⟨gb137, 3, none⟩ = some (.bool x138003_1) := (Z5 BK137.out 3).trans rfl; have hcz14_4 : wr.cell? ⟨gb137, 4, none⟩ = some (.int .i64 x138004_1) := (Z5 BK137.out 4).trans rfl; have hcz14_5 : wr.cell? ⟨gb137, 5, none⟩ = some (.int .i64 x138005_1) := (Z5 BK137.out 5).trans rfl; have hfz14_0 := Z2 BK137.out 0; have hfz14_1 := Z2 BK137.out 1; have hfz14_2 := Z2 BK137.out 2; have hfz14_3 := Z2 BK137.out 3; have hfz14_4 := Z2 BK137.out 4; have hfz14_5 := Z2 BK137.out 5))
               refine bodyPost_ret (Z46 rfl _ _ gb137 24 #[.int .i64 4, .string (rdOf ByteArray.empty t138 x10_1), .int .u32 0, .bool false, .int .i64 a1, .int .i64 (wrap64 (a1 + ((rdOf ByteArray.empty t138 x10_1).size : Int)))] (0, 0) _ rfl (by (with_reducible repeat (first | refine Z0 ?_ _ | refine Z3 ?_ | refine Z1 ?_ _)); refine Z9 (cs := #[.int .i64 4, .string (rdOf ByteArray.empty t138 x10_1), .int .u32 0, .bool false, .int .i64 a1, .int .i64 x138005_1]) ?_ 5 _ rfl; (with_reducible repeat (first | refine Z0 ?_ _ | refine Z3 ?_ | refine Z1 ?_ _)); refine Z9 (cs := #[.int .i64 4, .string (rdOf ByteArray.empty t138 x10_1), .int .u32 0, .bool false, .int .i64 x138004_1, .int .i64 x138005_1]) ?_ 4 _ rfl; (with_reducible repeat (first | refine Z0 ?_ _ | refine Z3 ?_ | refine Z1 ?_ _)); refine Z9 (cs := #[.int .i64 4, .string (rdOf ByteArray.empty t138 x10_1), .int .u32 0, .bool x138003_1, .int .i64 x138004_1, .int .i64 x138005_1]) ?_ 3 _ rfl; (with_reducible repeat (first | refine Z0 ?_ _ | refine Z3 ?_ | refine Z1 ?_ _)); refine Z9 (cs := #[.int .i64 4, .string (rdOf ByteArray.empty t138 x10_1), .int .u32 x138002_1, .bool x138003_1, .int .i64 x138004_1, .int .i64 x138005_1]) ?_ 2 _ rfl; (with_reducible repeat (first | refine Z0 ?_ _ | refine Z3 ?_ | refine Z1 ?_ _)); refine Z9 (cs := #[.int .i64 4, .string x138001_1, .int .u32 x138002_1, .bool x138003_1, .int .i64 x138004_1, .int .i64 x138005_1]) ?_ 1 _ rfl; (with_reducible repeat (first | refine Z0 ?_ _ | refine Z3 ?_ | refine Z1 ?_ _)); refine Z9 (cs := #[.int .i64 x138000_1, .string x138001_1, .int .u32 x138002_1, .bool x138003_1, .int .i64 x138004_1, .int .i64 x138005_1]) ?_ 0 _ rfl; (with_reducible repeat (first | refine Z0 ?_ _ | refine Z3 ?_ | refine Z1 ?_ _)); exact BK137.out) Tryd.underlying24 rfl (by kernel_rfl)) rfl ?_
               exact ⟨by first | rfl | (simp [Z16, Z15] <;> rfl) | (simp [*, Z16, Z15] <;> rfl), by repeat (first | (with_reducible first | exact HB.out | apply Z7 | apply Z4 | apply Z6 | refine Z8 ?_ GE137.out) | exact HB.out)⟩
             · replace c13 := Bool.eq_false_iff.mpr c13
               subst c13
               have H1 : (Z41.l0 k1 a0 a1 t138 (t138.length : Int) (wrap64 (x10_1 + 1))) = some (r1, r2, r3, r4, r5, r6, r7) := by rw [if_neg (show ¬ (false = true) by decide)] at H; exact H
               clear H
               have H := H1
               clear H1
               have H' := Aside0.mk H
               clear H
               have p141 : 0 ≤ (x10_1 : Int) := of_decide_eq_true (by first | (with_reducible assumption) | assumption)
               have q141 : x10_1 < (t138.length : Int) := of_decide_eq_true (by first | (with_reducible assumption) | assumption)
               obtain ⟨ad141, e141, hx141_0⟩ := Kd.at_string (Kd.R_reads' HO_8.out).2.2 x10_1 p141 q141
               cases e141
               replace p141 := eq_true p141
               replace q141 := eq_true q141
               go_wp2_with (first | ((with_reducible refine Z14 (f := 34) rfl ?_); refine goesL_ (some 18) rfl rfl Tryd.func34 (by kernel_rfl) rfl #[.string (a0.extract (a1 : Int).toNat a0.size), .string (rdOf ByteArray.empty t138 x10_1)] rfl (by (try simp only [List.map_toArray, List.map_cons, List.map_nil]); first | done | rfl | (simp only [List.length_drop, List.length_take]; rfl)) ?_; (with_reducible refine (strings_HasPrefix.calls (a0.extract (a1 : Int).toNat a0.size) (rdOf ByteArray.empty t138 x10_1) false _ A12.out).mono ?_); rintro e w' ⟨rfl, ⟨nd, rfl⟩⟩; refine ⟨_, rfl, ?_⟩))
               go_roundg k1
               case measure => have := HK1.out; omega
               case rel => exact ⟨(wrap64 (x10_1 + 1)), (x138000_1), (x138001_1), (x138002_1), (x138003_1), (x138004_1), (x138005_1), (by first | rfl | (simp; done) | (simp [*]; done)), H', ⟨by have := HK1.out; omega⟩, ⟨by (with_reducible repeat (first | apply Kd.R_alloc | apply Kd.R_drewN | apply Kd.R_drew)); exact HO_8.out⟩, ⟨by (with_reducible repeat (first | refine Z0 ?_ _ | refine Z3 ?_ | refine Z1 ?_ _)); exact BK137.out⟩, ⟨by repeat (first | (with_reducible first | exact HB.out | apply Z7 | apply Z4 | apply Z6 | refine Z8 ?_ GE137.out) | exact HB.out)⟩⟩
           · rw [if_neg c11] at H
             exact absurd H (by simp)
         · rw [if_neg c10] at H
           exact absurd H (by simp)
       · rw [if_neg c9] at H
         exact absurd H (by simp)
     · rw [if_neg c8] at H
       exact absurd H (by simp)
   · rw [if_neg c7] at H
     have c7b0 : decide (x10_1 < (t138.length : Int)) = false := decide_eq_false c7
     clear c7
     simp only [Option.some.injEq, Prod.mk.injEq] at H
     obtain ⟨rfl, rfl, rfl, rfl, rfl, rfl, rfl⟩ := H
     have hcz15_0 : wr.cell? ⟨gb137, 0, none⟩ = some (.int .i64 x138000_1) := (Z5 BK137.out 0).trans rfl
     have hcz15_1 : wr.cell? ⟨gb137, 1, none⟩ = some (.string x138001_1) := (Z5 BK137.out 1).trans rfl
     have hcz15_2 : wr.cell? ⟨gb137, 2, none⟩ = some (.int .u32 x138002_1) := (Z5 BK137.out 2).trans rfl
     have hcz15_3 : wr.cell? ⟨gb137, 3, none⟩ = some (.bool x138003_1) := (Z5 BK137.out 3).trans rfl
     have hcz15_4 : wr.cell? ⟨gb137, 4, none⟩ = some (.int .i64 x138004_1) := (Z5 BK137.out 4).trans rfl
     have hcz15_5 : wr.cell? ⟨gb137, 5, none⟩ = some (.int .i64 x138005_1) := (Z5 BK137.out 5).trans rfl
     have hfz15_0 := Z2 BK137.out 0
     have hfz15_1 := Z2 BK137.out 1
     have hfz15_2 := Z2 BK137.out 2
     have hfz15_3 := Z2 BK137.out 3
     have hfz15_4 := Z2 BK137.out 4
     have hfz15_5 := Z2 BK137.out 5
     go_wp2
     refine bodyPost_ret (Z46 rfl _ _ gb137 24 #[.int .i64 0, .string (⟨#[]⟩ : ByteArray), .int .u32 0, .bool false, .int .i64 0, .int .i64 0] (0, 0) _ rfl (by (with_reducible repeat (first | refine Z0 ?_ _ | refine Z3 ?_ | refine Z1 ?_ _)); refine Z9 (cs := #[.int .i64 0, .string (⟨#[]⟩ : ByteArray), .int .u32 0, .bool false, .int .i64 0, .int .i64 x138005_1]) ?_ 5 _ rfl; (with_reducible repeat (first | refine Z0 ?_ _ | refine Z3 ?_ | refine Z1 ?_ _)); refine Z9 (cs := #[.int .i64 0, .string (⟨#[]⟩ : ByteArray), .int .u32 0, .bool false, .int .i64 x138004_1, .int .i64 x138005_1]) ?_ 4 _ rfl; (with_reducible repeat (first | refine Z0 ?_ _ | refine Z3 ?_ | refine Z1 ?_ _)); refine Z9 (cs := #[.int .i64 0, .string (⟨#[]⟩ : ByteArray), .int .u32 0, .bool x138003_1, .int .i64 x138004_1, .int .i64 x138005_1]) ?_ 3 _ rfl; (with_reducible repeat (first | refine Z0 ?_ _ | refine Z3 ?_ | refine Z1 ?_ _)); refine Z9 (cs := #[.int .i64 0, .string (⟨#[]⟩ : ByteArray), .int .u32 x138002_1, .bool x138003_1, .int .i64 x138004_1, .int .i64 x138005_1]) ?_ 2 _ rfl; (with_reducible repeat (first | refine Z0 ?_ _ | refine Z3 ?_ | refine Z1 ?_ _)); refine Z9 (cs := #[.int .i64 0, .string x138001_1, .int .u32 x138002_1, .bool x138003_1, .int .i64 x138004_1, .int .i64 x138005_1]) ?_ 1 _ rfl; (with_reducible repeat (first | refine Z0 ?_ _ | refine Z3 ?_ | refine Z1 ?_ _)); refine Z9 (cs := #[.int .i64 x138000_1, .string x138001_1, .int .u32 x138002_1, .bool x138003_1, .int .i64 x138004_1, .int .i64 x138005_1]) ?_ 0 _ rfl; (with_reducible repeat (first | refine Z0 ?_ _ | refine Z3 ?_ | refine Z1 ?_ _)); exact BK137.out) Tryd.underlying24 rfl (by kernel_rfl)) rfl ?_
     exact ⟨by first | rfl | (simp [Z16, Z15] <;> rfl) | (simp [*, Z16, Z15] <;> rfl), by repeat (first | (with_reducible first | exact HB.out | apply Z7 | apply Z4 | apply Z6 | refine Z8 ?_ GE137.out) | exact HB.out)⟩
end Go.Proofs.YtbmfadmoficfiaaDoor.Q
namespace Go.Proofs.YtbmfadmoficfiaaDoor.Q
open Go.RowKit Go.Proofs.YtbmfadmoficfiaaDoorW.PrintWords Go.Proofs.YtbmfadmoficfiaaDoorW.PrintLast Go.Proofs.YtbmfadmoficfiaaDoorW.PrintMore
attribute [local go_sem] Z56 Z54 Z61 Z60 Z49 Z48 Z55 Z53
set_option linter.unusedVariables false
set_option linter.unusedSimpArgs false
mutual
def Z29.j0 : Nat → ByteArray → Int → Bool → Option (Int × ByteArray × Int × Bool × Int × Int × Int × Int)
 | 0, _, _, _ => none
 | k + 1, x0, x1, x17 => if x17 = true then (some (0, (⟨#[]⟩ : ByteArray), 0, false, 0, 0, 0, 1)) else ((Z32.f k x0 x1).bind fun bt144 => (if bt144.2 = true then (if bt144.1 = (x0.size : Int) then (some (1, (⟨#[]⟩ : ByteArray), 0, false, bt144.1, bt144.1, 0, 0)) else (if 0 ≤ bt144.1 then (if bt144.1 < (x0.size : Int) then ((Z13.f k (bt x0 bt144.1)).bind fun t147 => (if t147 < 10 then ((Z12.f k x0 bt144.1).bind fun bt148 => (if bt148.2.2.2.2.2.2 = true then (some (bt148.1, bt148.2.1, bt148.2.2.1, bt148.2.2.2.1, bt148.2.2.2.2.1, bt148.2.2.2.2.2.1, 0, 0)) else (some (0, (⟨#[]⟩ : ByteArray), 0, false, 0, 0, bt144.1, 70)))) else ((Z37.f (bt x0 bt144.1)).bind fun t155 => (if t155 = true then ((Z36.f k x0 bt144.1).bind fun bt156 => (some (bt156.1, bt156.2.1, bt156.2.2.1, bt156.2.2.2.1, bt156.2.2.2.2.1, bt156.2.2.2.2.2, 0, 0))) else (if (bt x0 bt144.1) = 39 then (Z29.j1 k x0 bt144.1 true) else (Z29.j1 k x0 bt144.1 ((bt x0 bt144.1) == 34))))))) else (none)) else (none))) else (some (0, (⟨#[]⟩ : ByteArray), 0, false, 0, 0, bt144.1, 70))))
def Z29.j1 : Nat → ByteArray → Int → Bool → Option (Int × ByteArray × Int × Bool × Int × Int × Int × Int)
 | 0, _, _, _ => none
 | k + 1, x0, x1, x61 => if x61 = true then ((Z17.f k x0 x1).bind fun bt162 => (if bt162.2.2.2.2.2.2 = true then (some (bt162.1, bt162.2.1, bt162.2.2.1, bt162.2.2.2.1, bt162.2.2.2.2.1, bt162.2.2.2.2.2.1, 0, 0)) else (some (0, (⟨#[]⟩ : ByteArray), 0, false, 0, 0, x1, 70)))) else ((Z41.f k x0 x1).bind fun bt169 => (if bt169.2.2.2.2.2.2 = true then (some (bt169.1, bt169.2.1, bt169.2.2.1, bt169.2.2.2.1, bt169.2.2.2.2.1, bt169.2.2.2.2.2.1, 0, 0)) else (some (0, (⟨#[]⟩ : ByteArray), 0, false, 0, 0, x1, 70))))
end
def Z29.f (k : Nat) (a0 : ByteArray) (a1 : Int) : Option (Int × ByteArray × Int × Bool × Int × Int × Int × Int) := if a1 < 0 then (Z29.j0 k a0 a1 true) else (Z29.j0 k a0 a1 (decide (a1 > (a0.size : Int))))
theorem Z29.mono_l : ∀ k, (∀ y0 y1 y2, LeO (Z29.j0 k y0 y1 y2) (Z29.j0 (k + 1) y0 y1 y2)) ∧ (∀ y0 y1 y2, LeO (Z29.j1 k y0 y1 y2) (Z29.j1 (k + 1) y0 y1 y2))
 | 0 => ⟨fun _ _ _ r h => by simp [Z29.j0] at h, fun _ _ _ r h => by simp [Z29.j1] at h⟩
 | k + 1 => by
  obtain ⟨ih0, ih1⟩ := Z29.mono_l k
  refine ⟨?_, ?_⟩
  · intro y0 y1 y2
    unfold Z29.j0
    repeat' first
    | (with_reducible exact ih0 _ _ _)
    | (with_reducible exact ih1 _ _ _)
    | (with_reducible exact Z13.mono _ _)
    | (with_reducible exact Z41.mono _ _ _)
    | (with_reducible exact Z36.mono _ _ _)
    | (with_reducible exact Z12.mono _ _ _)
    | (with_reducible exact Z17.mono _ _ _)
    | (with_reducible exact Z32.mono _ _ _)
    | (with_reducible exact LeO.refl _)
    | (with_reducible exact LeO.none _)
    | (with_reducible refine LeO.ite ?_ ?_)
    | (with_reducible refine LeO.bind ?_ (fun _ => ?_))
    | exact ih0 _ _ _
    | exact ih1 _ _ _
    | exact Z13.mono _ _
    | exact Z41.mono _ _ _
    | exact Z36.mono _ _ _
    | exact Z12.mono _ _ _
    | exact Z17.mono _ _ _
    | exact Z32.mono _ _ _
    | exact LeO.none _
    | refine LeO.ite ?_ ?_
    | refine LeO.bind ?_ (fun _ => ?_)
  · intro y0 y1 y2
    unfold Z29.j1
    repeat' first
    | (with_reducible exact ih0 _ _ _)
    | (with_reducible exact ih1 _ _ _)
    | (with_reducible exact Z13.mono _ _)
    | (with_reducible exact Z41.mono _ _ _)
    | (with_reducible exact Z36.mono _ _ _)
    | (with_reducible exact Z12.mono _ _ _)
    | (with_reducible exact Z17.mono _ _ _)
    | (with_reducible exact Z32.mono _ _ _)
    | (with_reducible exact LeO.refl _)
    | (with_reducible exact LeO.none _)
    | (with_reducible refine LeO.ite ?_ ?_)
    | (with_reducible refine LeO.bind ?_ (fun _ => ?_))
    | exact ih0 _ _ _
    | exact ih1 _ _ _
    | exact Z13.mono _ _
    | exact Z41.mono _ _ _
    | exact Z36.mono _ _ _
    | exact Z12.mono _ _ _
    | exact Z17.mono _ _ _
    | exact Z32.mono _ _ _
    | exact LeO.none _
    | refine LeO.ite ?_ ?_
    | refine LeO.bind ?_ (fun _ => ?_)
theorem Z29.mono : ∀ a0 a1 k, LeO (Z29.f k a0 a1) (Z29.f (k + 1) a0 a1) := by
 intro a0 a1 k
 obtain ⟨ih0, ih1⟩ := Z29.mono_l k
 unfold Z29.f
 repeat' first
  | (with_reducible exact ih0 _ _ _)
  | (with_reducible exact ih1 _ _ _)
  | (with_reducible exact Z13.mono _ _)
  | (with_reducible exact Z41.mono _ _ _)
  | (with_reducible exact Z36.mono _ _ _)
  | (with_reducible exact Z12.mono _ _ _)
  | (with_reducible exact Z17.mono _ _ _)
  | (with_reducible exact Z32.mono _ _ _)
  | (with_reducible exact LeO.refl _)
  | (with_reducible exact LeO.none _)
  | (with_reducible refine LeO.ite ?_ ?_)
  | (with_reducible refine LeO.bind ?_ (fun _ => ?_))
  | exact ih0 _ _ _
  | exact ih1 _ _ _
  | exact Z13.mono _ _
  | exact Z41.mono _ _ _
  | exact Z36.mono _ _ _
  | exact Z12.mono _ _ _
  | exact Z17.mono _ _ _
  | exact Z32.mono _ _ _
  | exact LeO.none _
  | refine LeO.ite ?_ ?_
  | refine LeO.bind ?_ (fun _ => ?_)
set_option maxHeartbeats 8000000 in
set_option maxRecDepth 100000 in
theorem Z29.calls (k : Nat) (a0 : ByteArray) (a1 : Int) (r1 : Int) (r2 : ByteArray) (r3 : Int) (r4 : Bool) (r5 : Int) (r6 : Int) (r7 : Int) (r8 : Int) (w : World) (hG : PremW w) (h : Z29.f k a0 a1 = some (r1, r2, r3, r4, r5, r6, r7, r8)) :
 Calls Tryd.prog 9 #[.string a0, .int .i64 a1] w fun e w' => e = .returned (.tuple #[.agg #[.int .i64 r1, .string r2, .int .u32 r3, .bool r4, .int .i64 r5, .int .i64 r6], .int .i64 r7, .int .i64 r8]) ∧ Below w.heap.size w w' := by
 have hu24 := Tryd.underlying24
 have HG := Aside0.mk hG
 clear hG
 have HB := Aside0.mk (Below.refl w.heap.size w)
 have H : (if a1 < 0 then (Z29.j0 k a0 a1 true) else (Z29.j0 k a0 a1 (decide (a1 > (a0.size : Int))))) = some (r1, r2, r3, r4, r5, r6, r7, r8) := h
 clear h
 have HC3 := Aside0.mk H
 clear H
 go_enter Tryd.func9, Tryd.ntmps9
 go_upto_region 1 with (first | ((with_reducible refine Z52 (N := 4) rfl ?_); (try (refine Z66 (by rfl) ?_; dsimp only)); refine Z51 ?hg (N := 4) ?hd (cs := #[.int .i64 0, .string (⟨#[]⟩ : ByteArray), .int .u32 0, .bool false, .int .i64 0, .int .i64 0]) (t := 24) ?hr ?_; (case hd => rfl); (case hg => rfl); (case hr => first | (go_simp; done) | (go_simp; rfl)); intro gb143 hg w4 hbox hb; have n0_ := Aside0.mk (Z25 (by repeat (first | (with_reducible first | exact HB.out | apply Z7 | apply Z4 | apply Z6) | exact HB.out)) hb); have n1_ := Aside0.mk (hbox); have n2_ := Aside0.mk ((by rw [hg]; exact (Z27 (by repeat (first | (with_reducible first | exact HB.out | apply Z7 | apply Z4 | apply Z6) | exact HB.out))) : w.heap.size ≤ gb143)); have n3_ := Aside0.mk ((by rw [hg]; exact (Z27 (by repeat (first | (with_reducible first | exact HB.out | apply Z7 | apply Z4 | apply Z6) | exact HB.out))) : w.heap.size ≤ gb143)); clear HB; have HB := n0_; have BK143 := n1_; have GW143 := n2_; have GE143 := n3_; clear n0_ n1_ n2_ n3_; clear hb hbox hg))
 (try simp only [Act.put, List.setIfInBounds_toArray, List.set_cons_zero, List.set_cons_succ])
 go_cut [17] (fun v17 wc => ∃ (kq : Nat) (x17_2 : Bool), v17 = .bool x17_2 ∧ Aside0 (Z29.j0 kq a0 a1 x17_2 = some (r1, r2, r3, r4, r5, r6, r7, r8)) ∧ Aside0 (kq ≤ k) ∧ Aside0 (wc.heap[gb143]? = some (.cells #[.int .i64 0, .string (⟨#[]⟩ : ByteArray), .int .u32 0, .bool false, .int .i64 0, .int .i64 0] 24 (0, 0))) ∧ Aside0 (Below w.heap.size w wc))
 case first =>
  have H := HC3.out
  clear HC3
  by_cases c5 : a1 < 0
  · rw [if_pos c5] at H
    have c5b0 : decide (a1 < 0) = true := decide_eq_true c5
    clear c5
    (first | rw [c5b0] | (simp only [i64_w, i32_w]; rw [c5b0]) | skip)
    have H' := Aside0.mk H
    clear H
    go_wp2
    go_meet
    case rel => exact ⟨_, (true), (by first | rfl | (simp; done) | (simp [*]; done)), H', ⟨by first | omega | exact Nat.le_refl _⟩, ⟨by (with_reducible repeat (first | refine Z0 ?_ _ | refine Z3 ?_ | refine Z1 ?_ _)); exact BK143.out⟩, ⟨by repeat (first | (with_reducible first | exact HB.out | apply Z7 | apply Z4 | apply Z6 | refine Z8 ?_ GE143.out) | exact HB.out)⟩⟩
  · rw [if_neg c5] at H
    have c5b0 : decide (a1 < 0) = false := decide_eq_false c5
    clear c5
    (first | rw [c5b0] | (simp only [i64_w, i32_w]; rw [c5b0]) | skip)
    have H' := Aside0.mk H
    clear H
    go_wp2
    go_meet
    case rel => exact ⟨_, (decide (a1 > (a0.size : Int))), (by first | rfl | (simp; done) | (simp [*]; done)), H', ⟨by first | omega | exact Nat.le_refl _⟩, ⟨by (with_reducible repeat (first | refine Z0 ?_ _ | refine Z3 ?_ | refine Z1 ?_ _)); exact BK143.out⟩, ⟨by repeat (first | (with_reducible first | exact HB.out | apply Z7 | apply Z4 | apply Z6 | refine Z8 ?_ GE143.out) | exact HB.out)⟩⟩
 case rest =>
  clear HC3
  obtain ⟨kq, x17_2, rfl, HA, HJ2, BK143, HB⟩ := hcut
  cases kq with
  | zero => exact absurd HA.out (by simp [Z29.j0])
  | succ kj2 =>
   have H := HA.out
   clear HA
   simp only [Z29.j0] at H
   by_cases c6 : x17_2 = true
   · subst c6
     have H1 : (some (0, (⟨#[]⟩ : ByteArray), 0, false, 0, 0, 0, 1)) = some (r1, r2, r3, r4, r5, r6, r7, r8) := by rw [if_pos rfl] at H; exact H
     clear H
     have H := H1
     clear H1
     simp only [Option.some.injEq, Prod.mk.injEq] at H
     obtain ⟨rfl, rfl, rfl, rfl, rfl, rfl, rfl, rfl⟩ := H
     have hcz7_0 : wc.cell? ⟨gb143, 0, none⟩ = some (.int .i64 0) := (Z5 BK143.out 0).trans rfl
     have hcz7_1 : wc.cell? ⟨gb143, 1, none⟩ = some (.string (⟨#[]⟩ : ByteArray)) := (Z5 BK143.out 1).trans rfl
     have hcz7_2 : wc.cell? ⟨gb143, 2, none⟩ = some (.int .u32 0) := (Z5 BK143.out 2).trans rfl
     have hcz7_3 : wc.cell? ⟨gb143, 3, none⟩ = some (.bool false) := (Z5 BK143.out 3).trans rfl
     have hcz7_4 : wc.cell? ⟨gb143, 4, none⟩ = some (.int .i64 0) := (Z5 BK143.out 4).trans rfl
     have hcz7_5 : wc.cell? ⟨gb143, 5, none⟩ = some (.int .i64 0) := (Z5 BK143.out 5).trans rfl
     have hfz7_0 := Z2 BK143.out 0
     have hfz7_1 := Z2 BK143.out 1
     have hfz7_2 := Z2 BK143.out 2
     have hfz7_3 := Z2 BK143.out 3
     have hfz7_4 := Z2 BK143.out 4
     have hfz7_5 := Z2 BK143.out 5
     go_wp2
     refine bodyPost_ret (Z62 rfl _ _ gb143 24 #[.int .i64 0, .string (⟨#[]⟩ : ByteArray), .int .u32 0, .bool false, .int .i64 0, .int .i64 0] (0, 0) _ rfl (by (with_reducible repeat (first | refine Z0 ?_ _ | refine Z3 ?_ | refine Z1 ?_ _)); refine Z9 (cs := #[.int .i64 0, .string (⟨#[]⟩ : ByteArray), .int .u32 0, .bool false, .int .i64 0, .int .i64 0]) ?_ 5 _ rfl; (with_reducible repeat (first | refine Z0 ?_ _ | refine Z3 ?_ | refine Z1 ?_ _)); refine Z9 (cs := #[.int .i64 0, .string (⟨#[]⟩ : ByteArray), .int .u32 0, .bool false, .int .i64 0, .int .i64 0]) ?_ 4 _ rfl; (with_reducible repeat (first | refine Z0 ?_ _ | refine Z3 ?_ | refine Z1 ?_ _)); refine Z9 (cs := #[.int .i64 0, .string (⟨#[]⟩ : ByteArray), .int .u32 0, .bool false, .int .i64 0, .int .i64 0]) ?_ 3 _ rfl; (with_reducible repeat (first | refine Z0 ?_ _ | refine Z3 ?_ | refine Z1 ?_ _)); refine Z9 (cs := #[.int .i64 0, .string (⟨#[]⟩ : ByteArray), .int .u32 0, .bool false, .int .i64 0, .int .i64 0]) ?_ 2 _ rfl; (with_reducible repeat (first | refine Z0 ?_ _ | refine Z3 ?_ | refine Z1 ?_ _)); refine Z9 (cs := #[.int .i64 0, .string (⟨#[]⟩ : ByteArray), .int .u32 0, .bool false, .int .i64 0, .int .i64 0]) ?_ 1 _ rfl; (with_reducible repeat (first | refine Z0 ?_ _ | refine Z3 ?_ | refine Z1 ?_ _)); refine Z9 (cs := #[.int .i64 0, .string (⟨#[]⟩ : ByteArray), .int .u32 0, .bool false, .int .i64 0, .int .i64 0]) ?_ 0 _ rfl; (with_reducible repeat (first | refine Z0 ?_ _ | refine Z3 ?_ | refine Z1 ?_ _)); exact BK143.out) Tryd.underlying24 rfl (by kernel_rfl)) rfl ?_
     exact ⟨by first | rfl | (simp [Z16, Z15] <;> rfl) | (simp [*, Z16, Z15] <;> rfl), by repeat (first | (with_reducible first | exact HB.out | apply Z7 | apply Z4 | apply Z6 | refine Z8 ?_ GE143.out) | exact HB.out)⟩
   · replace c6 := Bool.eq_false_iff.mpr c6
     subst c6
     have H1 : ((Z32.f kj2 a0 a1).bind fun bt144 => (if bt144.2 = true then (if bt144.1 = (a0.size : Int) then (some (1, (⟨#[]⟩ : ByteArray), 0, false, bt144.1, bt144.1, 0, 0)) else (if 0 ≤ bt144.1 then (if bt144.1 < (a0.size : Int) then ((Z13.f kj2 (bt a0 bt144.1)).bind fun t147 => (if t147 < 10 then ((Z12.f kj2 a0 bt144.1).bind fun bt148 => (if bt148.2.2.2.2.2.2 = true then (some (bt148.1, bt148.2.1, bt148.2.2.1, bt148.2.2.2.1, bt148.2.2.2.2.1, bt148.2.2.2.2.2.1, 0, 0)) else (some (0, (⟨#[]⟩ : ByteArray), 0, false, 0, 0, bt144.1, 70)))) else ((Z37.f (bt a0 bt144.1)).bind fun t155 => (if t155 = true then ((Z36.f kj2 a0 bt144.1).bind fun bt156 => (some (bt156.1, bt156.2.1, bt156.2.2.1, bt156.2.2.2.1, bt156.2.2.2.2.1, bt156.2.2.2.2.2, 0, 0))) else (if (bt a0 bt144.1) = 39 then (Z29.j1 kj2 a0 bt144.1 true) else (Z29.j1 kj2 a0 bt144.1 ((bt a0 bt144.1) == 34))))))) else (none)) else (none))) else (some (0, (⟨#[]⟩ : ByteArray), 0, false, 0, 0, bt144.1, 70)))) = some (r1, r2, r3, r4, r5, r6, r7, r8) := by rw [if_neg (show ¬ (false = true) by decide)] at H; exact H
     clear H
     have H := H1
     clear H1
     replace H := Option.bind_eq_some_iff.mp H
     obtain ⟨⟨t144, t145⟩, A80, H⟩ := H
     replace H : (if t145 = true then (if t144 = (a0.size : Int) then (some (1, (⟨#[]⟩ : ByteArray), 0, false, t144, t144, 0, 0)) else (if 0 ≤ t144 then (if t144 < (a0.size : Int) then ((Z13.f kj2 (bt a0 t144)).bind fun t147 => (if t147 < 10 then ((Z12.f kj2 a0 t144).bind fun bt148 => (if bt148.2.2.2.2.2.2 = true then (some (bt148.1, bt148.2.1, bt148.2.2.1, bt148.2.2.2.1, bt148.2.2.2.2.1, bt148.2.2.2.2.2.1, 0, 0)) else (some (0, (⟨#[]⟩ : ByteArray), 0, false, 0, 0, t144, 70)))) else ((Z37.f (bt a0 t144)).bind fun t155 => (if t155 = true then ((Z36.f kj2 a0 t144).bind fun bt156 => (some (bt156.1, bt156.2.1, bt156.2.2.1, bt156.2.2.2.1, bt156.2.2.2.2.1, bt156.2.2.2.2.2, 0, 0))) else (if (bt a0 t144) = 39 then (Z29.j1 kj2 a0 t144 true) else (Z29.j1 kj2 a0 t144 ((bt a0 t144) == 34))))))) else (none)) else (none))) else (some (0, (⟨#[]⟩ : ByteArray), 0, false, 0, 0, t144, 70))) = some (r1, r2, r3, r4, r5, r6, r7, r8) := H
     have A8 := Aside0.mk A80
     clear A80
     by_cases c9 : t145 = true
     · subst c9
       have H1 : (if t144 = (a0.size : Int) then (some (1, (⟨#[]⟩ : ByteArray), 0, false, t144, t144, 0, 0)) else (if 0 ≤ t144 then (if t144 < (a0.size : Int) then ((Z13.f kj2 (bt a0 t144)).bind fun t147 => (if t147 < 10 then ((Z12.f kj2 a0 t144).bind fun bt148 => (if bt148.2.2.2.2.2.2 = true then (some (bt148.1, bt148.2.1, bt148.2.2.1, bt148.2.2.2.1, bt148.2.2.2.2.1, bt148.2.2.2.2.2.1, 0, 0)) else (some (0, (⟨#[]⟩ : ByteArray), 0, false, 0, 0, t144, 70)))) else ((Z37.f (bt a0 t144)).bind fun t155 => (if t155 = true then ((Z36.f kj2 a0 t144).bind fun bt156 => (some (bt156.1, bt156.2.1, bt156.2.2.1, bt156.2.2.2.1, bt156.2.2.2.2.1, bt156.2.2.2.2.2, 0, 0))) else (if (bt a0 t144) = 39 then (Z29.j1 kj2 a0 t144 true) else (Z29.j1 kj2 a0 t144 ((bt a0 t144) == 34))))))) else (none)) else (none))) = some (r1, r2, r3, r4, r5, r6, r7, r8) := by rw [if_pos rfl] at H; exact H
       clear H
       have H := H1
       clear H1
       by_cases c10 : t144 = (a0.size : Int)
       · rw [if_pos c10] at H
         have c10b0 : (t144 == (a0.size : Int)) = true := beq_iff_eq.mpr c10
         have c10b1 : (t144 != (a0.size : Int)) = false := bne_eq_false_iff_eq.mpr c10
         clear c10
         simp only [Option.some.injEq, Prod.mk.injEq] at H
         obtain ⟨rfl, rfl, rfl, rfl, rfl, rfl, rfl, rfl⟩ := H
         go_wp2_with (first | ((with_reducible refine Z14 (f := 21) rfl ?_); refine goesL_ (some 22) rfl rfl Tryd.func21 (by kernel_rfl) rfl #[.string a0, .int .i64 a1] rfl (by (try simp only [List.map_toArray, List.map_cons, List.map_nil]); first | done | rfl | (simp only [List.length_drop, List.length_take]; rfl)) ?_; (with_reducible refine (Z32.calls kj2 a0 a1 t144 true _ ?side1 A8.out).mono ?_); (case side1 => refine PremW.below HG.out ?_; repeat (first | (with_reducible first | exact HB.out | apply Z7 | apply Z4 | apply Z6 | refine Z8 ?_ GE143.out) | exact HB.out)); rintro e w11 ⟨rfl, hb⟩; refine ⟨_, rfl, ?_⟩; have n0_ := Aside0.mk (Z40 (g := gb143) (o := .cells #[.int .i64 0, .string (⟨#[]⟩ : ByteArray), .int .u32 0, .bool false, .int .i64 0, .int .i64 0] 24 (0, 0)) (by (with_reducible repeat (first | refine Z0 ?_ _ | refine Z3 ?_ | refine Z1 ?_ _)); exact BK143.out) hb); have n1_ := Aside0.mk (Z25 (by repeat (first | (with_reducible first | exact HB.out | apply Z7 | apply Z4 | apply Z6 | refine Z8 ?_ GE143.out) | exact HB.out)) hb); clear BK143; clear HB; have BK143 := n0_; have HB := n1_; clear n0_ n1_; (try clear hb); (try clear hb2); (try clear hk); (try clear hi); have hcz12_0 : w11.cell? ⟨gb143, 0, none⟩ = some (.int .i64 0) := (Z5 BK143.out 0).trans rfl; have hcz12_1 : w11.cell? ⟨gb143, 1, none⟩ = some (.string (⟨#[]⟩ : ByteArray)) := (Z5 BK143.out 1).trans rfl; have hcz12_2 : w11.cell? ⟨gb143, 2, none⟩ = some (.int .u32 0) := (Z5 BK143.out 2).trans rfl; have hcz12_3 : w11.cell? ⟨gb143, 3, none⟩ = some (.bool false) := (Z5 BK143.out 3).trans rfl; have hcz12_4 : w11.cell? ⟨gb143, 4, none⟩ = some (.int .i64 0) := (Z5 BK143.out 4).trans rfl; have hcz12_5 : w11.cell? ⟨gb143, 5, none⟩ = some (.int .i64 0) := (Z5 BK143.out 5).trans rfl; have hfz12_0 := Z2 BK143.out 0; have hfz12_1 := Z2 BK143.out 1; have hfz12_2 := Z2 BK143.out 2; have hfz12_3 := Z2 BK143.out 3; have hfz12_4 := Z2 BK143.out 4; have hfz12_5 := Z2 BK143.out 5))
         refine bodyPost_ret (Z62 rfl _ _ gb143 24 #[.int .i64 1, .string (⟨#[]⟩ : ByteArray), .int .u32 0, .bool false, .int .i64 t144, .int .i64 t144] (0, 0) _ rfl (by (with_reducible repeat (first | refine Z0 ?_ _ | refine Z3 ?_ | refine Z1 ?_ _)); refine Z9 (cs := #[.int .i64 1, .string (⟨#[]⟩ : ByteArray), .int .u32 0, .bool false, .int .i64 t144, .int .i64 0]) ?_ 5 _ rfl; (with_reducible repeat (first | refine Z0 ?_ _ | refine Z3 ?_ | refine Z1 ?_ _)); refine Z9 (cs := #[.int .i64 1, .string (⟨#[]⟩ : ByteArray), .int .u32 0, .bool false, .int .i64 0, .int .i64 0]) ?_ 4 _ rfl; (with_reducible repeat (first | refine Z0 ?_ _ | refine Z3 ?_ | refine Z1 ?_ _)); refine Z9 (cs := #[.int .i64 1, .string (⟨#[]⟩ : ByteArray), .int .u32 0, .bool false, .int .i64 0, .int .i64 0]) ?_ 3 _ rfl; (with_reducible repeat (first | refine Z0 ?_ _ | refine Z3 ?_ | refine Z1 ?_ _)); refine Z9 (cs := #[.int .i64 1, .string (⟨#[]⟩ : ByteArray), .int .u32 0, .bool false, .int .i64 0, .int .i64 0]) ?_ 2 _ rfl; (with_reducible repeat (first | refine Z0 ?_ _ | refine Z3 ?_ | refine Z1 ?_ _)); refine Z9 (cs := #[.int .i64 1, .string (⟨#[]⟩ : ByteArray), .int .u32 0, .bool false, .int .i64 0, .int .i64 0]) ?_ 1 _ rfl; (with_reducible repeat (first | refine Z0 ?_ _ | refine Z3 ?_ | refine Z1 ?_ _)); refine Z9 (cs := #[.int .i64 0, .string (⟨#[]⟩ : ByteArray), .int .u32 0, .bool false, .int .i64 0, .int .i64 0]) ?_ 0 _ rfl; (with_reducible repeat (first | refine Z0 ?_ _ | refine Z3 ?_ | refine Z1 ?_ _)); exact BK143.out) Tryd.underlying24 rfl (by kernel_rfl)) rfl ?_
         exact ⟨by first | rfl | (simp [Z16, Z15] <;> rfl) | (simp [*, Z16, Z15] <;> rfl), by repeat (first | (with_reducible first | exact HB.out | apply Z7 | apply Z4 | apply Z6 | refine Z8 ?_ GE143.out) | exact HB.out)⟩
       · rw [if_neg c10] at H
         have c10b0 : (t144 == (a0.size : Int)) = false := beq_eq_false_iff_ne.mpr c10
         have c10b1 : (t144 != (a0.size : Int)) = true := bne_iff_ne.mpr c10
         by_cases c13 : 0 ≤ t144
         · rw [if_pos c13] at H
           have c13b0 : decide (0 ≤ t144) = true := decide_eq_true c13
           clear c13
           by_cases c14 : t144 < (a0.size : Int)
           · rw [if_pos c14] at H
             have c14b0 : decide (t144 < (a0.size : Int)) = true := decide_eq_true c14
             clear c14
             replace H := Option.bind_eq_some_iff.mp H
             obtain ⟨t147, A160, H⟩ := H
             replace H : (if t147 < 10 then ((Z12.f kj2 a0 t144).bind fun bt148 => (if bt148.2.2.2.2.2.2 = true then (some (bt148.1, bt148.2.1, bt148.2.2.1, bt148.2.2.2.1, bt148.2.2.2.2.1, bt148.2.2.2.2.2.1, 0, 0)) else (some (0, (⟨#[]⟩ : ByteArray), 0, false, 0, 0, t144, 70)))) else ((Z37.f (bt a0 t144)).bind fun t155 => (if t155 = true then ((Z36.f kj2 a0 t144).bind fun bt156 => (some (bt156.1, bt156.2.1, bt156.2.2.1, bt156.2.2.2.1, bt156.2.2.2.2.1, bt156.2.2.2.2.2, 0, 0))) else (if (bt a0 t144) = 39 then (Z29.j1 kj2 a0 t144 true) else (Z29.j1 kj2 a0 t144 ((bt a0 t144) == 34)))))) = some (r1, r2, r3, r4, r5, r6, r7, r8) := H
             have A16 := Aside0.mk A160
             clear A160
             by_cases c17 : t147 < 10
             · rw [if_pos c17] at H
               have c17b0 : decide (t147 < 10) = true := decide_eq_true c17
               clear c17
               replace H := Option.bind_eq_some_iff.mp H
               obtain ⟨⟨t148, t149, t150, t151, t152, t153, t154⟩, A180, H⟩ := H
               replace H : (if t154 = true then (some (t148, t149, t150, t151, t152, t153, 0, 0)) else (some (0, (⟨#[]⟩ : ByteArray), 0, false, 0, 0, t144, 70))) = some (r1, r2, r3, r4, r5, r6, r7, r8) := H
               have A18 := Aside0.mk A180
               clear A180
               by_cases c19 : t154 = true
               · subst c19
                 have H1 : (some (t148, t149, t150, t151, t152, t153, 0, 0)) = some (r1, r2, r3, r4, r5, r6, r7, r8) := by rw [if_pos rfl] at H; exact H
                 clear H
                 have H := H1
                 clear H1
                 simp only [Option.some.injEq, Prod.mk.injEq] at H
                 obtain ⟨rfl, rfl, rfl, rfl, rfl, rfl, rfl, rfl⟩ := H
                 go_wp2_with (first | ((with_reducible refine Z14 (f := 21) rfl ?_); refine goesL_ (some 22) rfl rfl Tryd.func21 (by kernel_rfl) rfl #[.string a0, .int .i64 a1] rfl (by (try simp only [List.map_toArray, List.map_cons, List.map_nil]); first | done | rfl | (simp only [List.length_drop, List.length_take]; rfl)) ?_; (with_reducible refine (Z32.calls kj2 a0 a1 t144 true _ ?side1 A8.out).mono ?_); (case side1 => refine PremW.below HG.out ?_; repeat (first | (with_reducible first | exact HB.out | apply Z7 | apply Z4 | apply Z6 | refine Z8 ?_ GE143.out) | exact HB.out)); rintro e w20 ⟨rfl, hb⟩; refine ⟨_, rfl, ?_⟩; have n0_ := Aside0.mk (Z40 (g := gb143) (o := .cells #[.int .i64 0, .string (⟨#[]⟩ : ByteArray), .int .u32 0, .bool false, .int .i64 0, .int .i64 0] 24 (0, 0)) (by (with_reducible repeat (first | refine Z0 ?_ _ | refine Z3 ?_ | refine Z1 ?_ _)); exact BK143.out) hb); have n1_ := Aside0.mk (Z25 (by repeat (first | (with_reducible first | exact HB.out | apply Z7 | apply Z4 | apply Z6 | refine Z8 ?_ GE143.out) | exact HB.out)) hb); clear BK143; clear HB; have BK143 := n0_; have HB := n1_; clear n0_ n1_; (try clear hb); (try clear hb2); (try clear hk); (try clear hi)) | ((with_reducible refine Z52 (N := 8) rfl ?_); (try (refine Z66 (by rfl) ?_; dsimp only)); refine Z51 ?hg (N := 8) ?hd (cs := #[.int .i64 0, .string (⟨#[]⟩ : ByteArray), .int .u32 0, .bool false, .int .i64 0, .int .i64 0]) (t := 24) ?hr ?_; (case hd => rfl); (case hg => rfl); (case hr => first | (go_simp; done) | (go_simp; rfl)); intro gb146 hg w21 hbox hb; have n0_ := Aside0.mk (Z40 (g := gb143) (o := .cells #[.int .i64 0, .string (⟨#[]⟩ : ByteArray), .int .u32 0, .bool false, .int .i64 0, .int .i64 0] 24 (0, 0)) (by (with_reducible repeat (first | refine Z0 ?_ _ | refine Z3 ?_ | refine Z1 ?_ _)); exact BK143.out) hb); have n1_ := Aside0.mk (Z25 (by repeat (first | (with_reducible first | exact HB.out | apply Z7 | apply Z4 | apply Z6 | refine Z8 ?_ GE143.out) | exact HB.out)) hb); have n2_ := Aside0.mk (hbox); have n3_ := Aside0.mk ((by rw [hg]; exact (Z27 (by repeat (first | (with_reducible first | exact HB.out | apply Z7 | apply Z4 | apply Z6 | refine Z8 ?_ GE143.out) | exact HB.out))) : w.heap.size ≤ gb146)); have n4_ := Aside0.mk ((by rw [hg]; exact (Z27 (by repeat (first | (with_reducible first | exact HB.out | apply Z7 | apply Z4 | apply Z6 | refine Z8 ?_ GE143.out) | exact HB.out))) : w.heap.size ≤ gb146)); have n5_ := Aside0.mk ((by rw [hg]; exact Nat.ne_of_lt (blk_lt (g := gb143) (o := .cells #[.int .i64 0, .string (⟨#[]⟩ : ByteArray), .int .u32 0, .bool false, .int .i64 0, .int .i64 0] 24 (0, 0)) (by (with_reducible repeat (first | refine Z0 ?_ _ | refine Z3 ?_ | refine Z1 ?_ _)); exact BK143.out)) : gb143 ≠ gb146)); have n6_ := Aside0.mk ((by rw [hg]; exact Nat.ne_of_gt (blk_lt (g := gb143) (o := .cells #[.int .i64 0, .string (⟨#[]⟩ : ByteArray), .int .u32 0, .bool false, .int .i64 0, .int .i64 0] 24 (0, 0)) (by (with_reducible repeat (first | refine Z0 ?_ _ | refine Z3 ?_ | refine Z1 ?_ _)); exact BK143.out)) : gb146 ≠ gb143)); clear BK143; clear HB; have BK143 := n0_; have HB := n1_; have BK146 := n2_; have GW146 := n3_; have GE146 := n4_; have NB143_146 := n5_; have NB146_143 := n6_; clear n0_ n1_ n2_ n3_ n4_ n5_ n6_; clear hb hbox hg; have p15 : 0 ≤ (t144 : Int) := of_decide_eq_true (by first | (with_reducible assumption) | assumption); have q15 : t144 < (a0.size : Int) := of_decide_eq_true (by first | (with_reducible assumption) | assumption); have hx15 := bt_at a0 t144; replace p15 := eq_true p15; replace q15 := eq_true q15) | ((with_reducible refine Z14 (f := 22) rfl ?_); refine goesL_ (some 47) rfl rfl Tryd.func22 (by kernel_rfl) rfl #[.int .u8 (bt a0 t144)] rfl (by (try simp only [List.map_toArray, List.map_cons, List.map_nil]); first | done | rfl | (simp only [List.length_drop, List.length_take]; rfl)) ?_; (with_reducible refine (Z13.calls kj2 (bt a0 t144) t147 _ A16.out).mono ?_); rintro e w' ⟨rfl, ⟨nd, rfl⟩⟩; refine ⟨_, rfl, ?_⟩; (try (rw [Z43 w21]; generalize hq_ : World.drewN w21 _ = w21; have n0_ : Aside0 (w21.heap[gb143]? = some (.cells #[.int .i64 0, .string (⟨#[]⟩ : ByteArray), .int .u32 0, .bool false, .int .i64 0, .int .i64 0] 24 (0, 0))) := ⟨by rw [← hq_]; exact (by (with_reducible repeat (first | refine Z0 ?_ _ | refine Z3 ?_ | refine Z1 ?_ _)); exact BK143.out)⟩; have n1_ : Aside0 (w21.heap[gb146]? = some (.cells #[.int .i64 0, .string (⟨#[]⟩ : ByteArray), .int .u32 0, .bool false, .int .i64 0, .int .i64 0] 24 (0, 0))) := ⟨by rw [← hq_]; exact (by (with_reducible repeat (first | refine Z0 ?_ _ | refine Z3 ?_ | refine Z1 ?_ _)); exact BK146.out)⟩; have n2_ : Aside0 (Below w.heap.size w w21) := ⟨by rw [← hq_]; exact (by repeat (first | (with_reducible first | exact HB.out | apply Z7 | apply Z4 | apply Z6 | refine Z8 ?_ GE143.out | refine Z8 ?_ GE146.out) | exact HB.out))⟩; clear BK143 BK146 HB hq_; have BK143 := n0_; have BK146 := n1_; have HB := n2_; clear n0_ n1_ n2_))) | ((with_reducible refine Z14 (f := 23) rfl ?_); refine goesL_ (some 52) rfl rfl Tryd.func23 (by kernel_rfl) rfl #[.string a0, .int .i64 t144] rfl (by (try simp only [List.map_toArray, List.map_cons, List.map_nil]); first | done | rfl | (simp only [List.length_drop, List.length_take]; rfl)) ?_; (with_reducible refine (Z12.calls kj2 a0 t144 t148 t149 t150 t151 t152 t153 true _ A18.out).mono ?_); rintro e w22 ⟨rfl, hb⟩; refine ⟨_, rfl, ?_⟩; have n0_ := Aside0.mk (Z40 (g := gb143) (o := .cells #[.int .i64 0, .string (⟨#[]⟩ : ByteArray), .int .u32 0, .bool false, .int .i64 0, .int .i64 0] 24 (0, 0)) (by (with_reducible repeat (first | refine Z0 ?_ _ | refine Z3 ?_ | refine Z1 ?_ _)); exact BK143.out) hb); have n1_ := Aside0.mk (Z40 (g := gb146) (o := .cells #[.int .i64 0, .string (⟨#[]⟩ : ByteArray), .int .u32 0, .bool false, .int .i64 0, .int .i64 0] 24 (0, 0)) (by (with_reducible repeat (first | refine Z0 ?_ _ | refine Z3 ?_ | refine Z1 ?_ _)); exact BK146.out) hb); have n2_ := Aside0.mk (Z25 (by repeat (first | (with_reducible first | exact HB.out | apply Z7 | apply Z4 | apply Z6 | refine Z8 ?_ GE143.out | refine Z8 ?_ GE146.out) | exact HB.out)) hb); clear BK143; clear BK146; clear HB; have BK143 := n0_; have BK146 := n1_; have HB := n2_; clear n0_ n1_ n2_; (try clear hb); (try clear hb2); (try clear hk); (try clear hi); have hnb23 := NB146_143.out; have hnc23 := NB143_146.out; have hcz24_0 : w22.cell? ⟨gb146, 0, none⟩ = some (.int .i64 0) := (Z5 BK146.out 0).trans rfl; have hcz24_1 : w22.cell? ⟨gb146, 1, none⟩ = some (.string (⟨#[]⟩ : ByteArray)) := (Z5 BK146.out 1).trans rfl; have hcz24_2 : w22.cell? ⟨gb146, 2, none⟩ = some (.int .u32 0) := (Z5 BK146.out 2).trans rfl; have hcz24_3 : w22.cell? ⟨gb146, 3, none⟩ = some (.bool false) := (Z5 BK146.out 3).trans rfl; have hcz24_4 : w22.cell? ⟨gb146, 4, none⟩ = some (.int .i64 0) := (Z5 BK146.out 4).trans rfl; have hcz24_5 : w22.cell? ⟨gb146, 5, none⟩ = some (.int .i64 0) := (Z5 BK146.out 5).trans rfl; have hfz24_0 := Z2 BK146.out 0; have hfz24_1 := Z2 BK146.out 1; have hfz24_2 := Z2 BK146.out 2; have hfz24_3 := Z2 BK146.out 3; have hfz24_4 := Z2 BK146.out 4; have hfz24_5 := Z2 BK146.out 5; have hcz25_0 : w22.cell? ⟨gb143, 0, none⟩ = some (.int .i64 0) := (Z5 BK143.out 0).trans rfl; have hcz25_1 : w22.cell? ⟨gb143, 1, none⟩ = some (.string (⟨#[]⟩ : ByteArray)) := (Z5 BK143.out 1).trans rfl; have hcz25_2 : w22.cell? ⟨gb143, 2, none⟩ = some (.int .u32 0) := (Z5 BK143.out 2).trans rfl; have hcz25_3 : w22.cell? ⟨gb143, 3, none⟩ = some (.bool false) := (Z5 BK143.out 3).trans rfl; have hcz25_4 : w22.cell? ⟨gb143, 4, none⟩ = some (.int .i64 0) := (Z5 BK143.out 4).trans rfl; have hcz25_5 : w22.cell? ⟨gb143, 5, none⟩ = some (.int .i64 0) := (Z5 BK143.out 5).trans rfl; have hfz25_0 := Z2 BK143.out 0; have hfz25_1 := Z2 BK143.out 1; have hfz25_2 := Z2 BK143.out 2; have hfz25_3 := Z2 BK143.out 3; have hfz25_4 := Z2 BK143.out 4; have hfz25_5 := Z2 BK143.out 5))
                 refine bodyPost_ret (Z62 rfl _ _ gb143 24 #[.int .i64 t148, .string t149, .int .u32 t150, .bool t151, .int .i64 t152, .int .i64 t153] (0, 0) _ rfl (by (with_reducible repeat (first | refine Z0 ?_ _ | refine Z3 ?_ | refine Z1 ?_ _)); refine Z9 (cs := #[.int .i64 t148, .string t149, .int .u32 t150, .bool t151, .int .i64 t152, .int .i64 0]) ?_ 5 _ rfl; (with_reducible repeat (first | refine Z0 ?_ _ | refine Z3 ?_ | refine Z1 ?_ _)); refine Z9 (cs := #[.int .i64 t148, .string t149, .int .u32 t150, .bool t151, .int .i64 0, .int .i64 0]) ?_ 4 _ rfl; (with_reducible repeat (first | refine Z0 ?_ _ | refine Z3 ?_ | refine Z1 ?_ _)); refine Z9 (cs := #[.int .i64 t148, .string t149, .int .u32 t150, .bool false, .int .i64 0, .int .i64 0]) ?_ 3 _ rfl; (with_reducible repeat (first | refine Z0 ?_ _ | refine Z3 ?_ | refine Z1 ?_ _)); refine Z9 (cs := #[.int .i64 t148, .string t149, .int .u32 0, .bool false, .int .i64 0, .int .i64 0]) ?_ 2 _ rfl; (with_reducible repeat (first | refine Z0 ?_ _ | refine Z3 ?_ | refine Z1 ?_ _)); refine Z9 (cs := #[.int .i64 t148, .string (⟨#[]⟩ : ByteArray), .int .u32 0, .bool false, .int .i64 0, .int .i64 0]) ?_ 1 _ rfl; (with_reducible repeat (first | refine Z0 ?_ _ | refine Z3 ?_ | refine Z1 ?_ _)); refine Z9 (cs := #[.int .i64 0, .string (⟨#[]⟩ : ByteArray), .int .u32 0, .bool false, .int .i64 0, .int .i64 0]) ?_ 0 _ rfl; (with_reducible repeat (first | refine Z0 ?_ _ | refine Z3 ?_ | refine Z1 ?_ _)); refine Z22 ?_ NB143_146.out _; (with_reducible repeat (first | refine Z0 ?_ _ | refine Z3 ?_ | refine Z1 ?_ _)); refine Z22 ?_ NB143_146.out _; (with_reducible repeat (first | refine Z0 ?_ _ | refine Z3 ?_ | refine Z1 ?_ _)); refine Z22 ?_ NB143_146.out _; (with_reducible repeat (first | refine Z0 ?_ _ | refine Z3 ?_ | refine Z1 ?_ _)); refine Z22 ?_ NB143_146.out _; (with_reducible repeat (first | refine Z0 ?_ _ | refine Z3 ?_ | refine Z1 ?_ _)); refine Z22 ?_ NB143_146.out _; (with_reducible repeat (first | refine Z0 ?_ _ | refine Z3 ?_ | refine Z1 ?_ _)); refine Z22 ?_ NB143_146.out _; (with_reducible repeat (first | refine Z0 ?_ _ | refine Z3 ?_ | refine Z1 ?_ _)); exact BK143.out) Tryd.underlying24 rfl (by kernel_rfl)) rfl ?_
                 exact ⟨by first | rfl | (simp [Z16, Z15] <;> rfl) | (simp [*, Z16, Z15] <;> rfl), by repeat (first | (with_reducible first | exact HB.out | apply Z7 | apply Z4 | apply Z6 | refine Z8 ?_ GE143.out | refine Z8 ?_ GE146.out) | exact HB.out)⟩
               · replace c19 := Bool.eq_false_iff.mpr c19
                 subst c19
                 have H1 : (some (0, (⟨#[]⟩ : ByteArray), 0, false, 0, 0, t144, 70)) = some (r1, r2, r3, r4, r5, r6, r7, r8) := by rw [if_neg (show ¬ (false = true) by decide)] at H; exact H
                 clear H
                 have H := H1
                 clear H1
                 simp only [Option.some.injEq, Prod.mk.injEq] at H
                 obtain ⟨rfl, rfl, rfl, rfl, rfl, rfl, rfl, rfl⟩ := H
                 go_wp2_with (first | ((with_reducible refine Z14 (f := 21) rfl ?_); refine goesL_ (some 22) rfl rfl Tryd.func21 (by kernel_rfl) rfl #[.string a0, .int .i64 a1] rfl (by (try simp only [List.map_toArray, List.map_cons, List.map_nil]); first | done | rfl | (simp only [List.length_drop, List.length_take]; rfl)) ?_; (with_reducible refine (Z32.calls kj2 a0 a1 t144 true _ ?side1 A8.out).mono ?_); (case side1 => refine PremW.below HG.out ?_; repeat (first | (with_reducible first | exact HB.out | apply Z7 | apply Z4 | apply Z6 | refine Z8 ?_ GE143.out) | exact HB.out)); rintro e w26 ⟨rfl, hb⟩; refine ⟨_, rfl, ?_⟩; have n0_ := Aside0.mk (Z40 (g := gb143) (o := .cells #[.int .i64 0, .string (⟨#[]⟩ : ByteArray), .int .u32 0, .bool false, .int .i64 0, .int .i64 0] 24 (0, 0)) (by (with_reducible repeat (first | refine Z0 ?_ _ | refine Z3 ?_ | refine Z1 ?_ _)); exact BK143.out) hb); have n1_ := Aside0.mk (Z25 (by repeat (first | (with_reducible first | exact HB.out | apply Z7 | apply Z4 | apply Z6 | refine Z8 ?_ GE143.out) | exact HB.out)) hb); clear BK143; clear HB; have BK143 := n0_; have HB := n1_; clear n0_ n1_; (try clear hb); (try clear hb2); (try clear hk); (try clear hi)) | ((with_reducible refine Z52 (N := 8) rfl ?_); (try (refine Z66 (by rfl) ?_; dsimp only)); refine Z51 ?hg (N := 8) ?hd (cs := #[.int .i64 0, .string (⟨#[]⟩ : ByteArray), .int .u32 0, .bool false, .int .i64 0, .int .i64 0]) (t := 24) ?hr ?_; (case hd => rfl); (case hg => rfl); (case hr => first | (go_simp; done) | (go_simp; rfl)); intro gb146 hg w27 hbox hb; have n0_ := Aside0.mk (Z40 (g := gb143) (o := .cells #[.int .i64 0, .string (⟨#[]⟩ : ByteArray), .int .u32 0, .bool false, .int .i64 0, .int .i64 0] 24 (0, 0)) (by (with_reducible repeat (first | refine Z0 ?_ _ | refine Z3 ?_ | refine Z1 ?_ _)); exact BK143.out) hb); have n1_ := Aside0.mk (Z25 (by repeat (first | (with_reducible first | exact HB.out | apply Z7 | apply Z4 | apply Z6 | refine Z8 ?_ GE143.out) | exact HB.out)) hb); have n2_ := Aside0.mk (hbox); have n3_ := Aside0.mk ((by rw [hg]; exact (Z27 (by repeat (first | (with_reducible first | exact HB.out | apply Z7 | apply Z4 | apply Z6 | refine Z8 ?_ GE143.out) | exact HB.out))) : w.heap.size ≤ gb146)); have n4_ := Aside0.mk ((by rw [hg]; exact (Z27 (by repeat (first | (with_reducible first | exact HB.out | apply Z7 | apply Z4 | apply Z6 | refine Z8 ?_ GE143.out) | exact HB.out))) : w.heap.size ≤ gb146)); have n5_ := Aside0.mk ((by rw [hg]; exact Nat.ne_of_lt (blk_lt (g := gb143) (o := .cells #[.int .i64 0, .string (⟨#[]⟩ : ByteArray), .int .u32 0, .bool false, .int .i64 0, .int .i64 0] 24 (0, 0)) (by (with_reducible repeat (first | refine Z0 ?_ _ | refine Z3 ?_ | refine Z1 ?_ _)); exact BK143.out)) : gb143 ≠ gb146)); have n6_ := Aside0.mk ((by rw [hg]; exact Nat.ne_of_gt (blk_lt (g := gb143) (o := .cells #[.int .i64 0, .string (⟨#[]⟩ : ByteArray), .int .u32 0, .bool false, .int .i64 0, .int .i64 0] 24 (0, 0)) (by (with_reducible repeat (first | refine Z0 ?_ _ | refine Z3 ?_ | refine Z1 ?_ _)); exact BK143.out)) : gb146 ≠ gb143)); clear BK143; clear HB; have BK143 := n0_; have HB := n1_; have BK146 := n2_; have GW146 := n3_; have GE146 := n4_; have NB143_146 := n5_; have NB146_143 := n6_; clear n0_ n1_ n2_ n3_ n4_ n5_ n6_; clear hb hbox hg; have p15 : 0 ≤ (t144 : Int) := of_decide_eq_true (by first | (with_reducible assumption) | assumption); have q15 : t144 < (a0.size : Int) := of_decide_eq_true (by first | (with_reducible assumption) | assumption); have hx15 := bt_at a0 t144; replace p15 := eq_true p15; replace q15 := eq_true q15) | ((with_reducible refine Z14 (f := 22) rfl ?_); refine goesL_ (some 47) rfl rfl Tryd.func22 (by kernel_rfl) rfl #[.int .u8 (bt a0 t144)] rfl (by (try simp only [List.map_toArray, List.map_cons, List.map_nil]); first | done | rfl | (simp only [List.length_drop, List.length_take]; rfl)) ?_; (with_reducible refine (Z13.calls kj2 (bt a0 t144) t147 _ A16.out).mono ?_); rintro e w' ⟨rfl, ⟨nd, rfl⟩⟩; refine ⟨_, rfl, ?_⟩; (try (rw [Z43 w27]; generalize hq_ : World.drewN w27 _ = w27; have n0_ : Aside0 (w27.heap[gb143]? = some (.cells #[.int .i64 0, .string (⟨#[]⟩ : ByteArray), .int .u32 0, .bool false, .int .i64 0, .int .i64 0] 24 (0, 0))) := ⟨by rw [← hq_]; exact (by (with_reducible repeat (first | refine Z0 ?_ _ | refine Z3 ?_ | refine Z1 ?_ _)); exact BK143.out)⟩; have n1_ : Aside0 (w27.heap[gb146]? = some (.cells #[.int .i64 0, .string (⟨#[]⟩ : ByteArray), .int .u32 0, .bool false, .int .i64 0, .int .i64 0] 24 (0, 0))) := ⟨by rw [← hq_]; exact (by (with_reducible repeat (first | refine Z0 ?_ _ | refine Z3 ?_ | refine Z1 ?_ _)); exact BK146.out)⟩; have n2_ : Aside0 (Below w.heap.size w w27) := ⟨by rw [← hq_]; exact (by repeat (first | (with_reducible first | exact HB.out | apply Z7 | apply Z4 | apply Z6 | refine Z8 ?_ GE143.out | refine Z8 ?_ GE146.out) | exact HB.out))⟩; clear BK143 BK146 HB hq_; have BK143 := n0_; have BK146 := n1_; have HB := n2_; clear n0_ n1_ n2_))) | ((with_reducible refine Z14 (f := 23) rfl ?_); refine goesL_ (some 52) rfl rfl Tryd.func23 (by kernel_rfl) rfl #[.string a0, .int .i64 t144] rfl (by (try simp only [List.map_toArray, List.map_cons, List.map_nil]); first | done | rfl | (simp only [List.length_drop, List.length_take]; rfl)) ?_; (with_reducible refine (Z12.calls kj2 a0 t144 t148 t149 t150 t151 t152 t153 false _ A18.out).mono ?_); rintro e w28 ⟨rfl, hb⟩; refine ⟨_, rfl, ?_⟩; have n0_ := Aside0.mk (Z40 (g := gb143) (o := .cells #[.int .i64 0, .string (⟨#[]⟩ : ByteArray), .int .u32 0, .bool false, .int .i64 0, .int .i64 0] 24 (0, 0)) (by (with_reducible repeat (first | refine Z0 ?_ _ | refine Z3 ?_ | refine Z1 ?_ _)); exact BK143.out) hb); have n1_ := Aside0.mk (Z40 (g := gb146) (o := .cells #[.int .i64 0, .string (⟨#[]⟩ : ByteArray), .int .u32 0, .bool false, .int .i64 0, .int .i64 0] 24 (0, 0)) (by (with_reducible repeat (first | refine Z0 ?_ _ | refine Z3 ?_ | refine Z1 ?_ _)); exact BK146.out) hb); have n2_ := Aside0.mk (Z25 (by repeat (first | (with_reducible first | exact HB.out | apply Z7 | apply Z4 | apply Z6 | refine Z8 ?_ GE143.out | refine Z8 ?_ GE146.out) | exact HB.out)) hb); clear BK143; clear BK146; clear HB; have BK143 := n0_; have BK146 := n1_; have HB := n2_; clear n0_ n1_ n2_; (try clear hb); (try clear hb2); (try clear hk); (try clear hi); have hnb29 := NB146_143.out; have hnc29 := NB143_146.out; have hcz30_0 : w28.cell? ⟨gb146, 0, none⟩ = some (.int .i64 0) := (Z5 BK146.out 0).trans rfl; have hcz30_1 : w28.cell? ⟨gb146, 1, none⟩ = some (.string (⟨#[]⟩ : ByteArray)) := (Z5 BK146.out 1).trans rfl; have hcz30_2 : w28.cell? ⟨gb146, 2, none⟩ = some (.int .u32 0) := (Z5 BK146.out 2).trans rfl; have hcz30_3 : w28.cell? ⟨gb146, 3, none⟩ = some (.bool false) := (Z5 BK146.out 3).trans rfl; have hcz30_4 : w28.cell? ⟨gb146, 4, none⟩ = some (.int .i64 0) := (Z5 BK146.out 4).trans rfl; have hcz30_5 : w28.cell? ⟨gb146, 5, none⟩ = some (.int .i64 0) := (Z5 BK146.out 5).trans rfl; have hfz30_0 := Z2 BK146.out 0; have hfz30_1 := Z2 BK146.out 1; have hfz30_2 := Z2 BK146.out 2; have hfz30_3 := Z2 BK146.out 3; have hfz30_4 := Z2 BK146.out 4; have hfz30_5 := Z2 BK146.out 5; have hcz31_0 : w28.cell? ⟨gb143, 0, none⟩ = some (.int .i64 0) := (Z5 BK143.out 0).trans rfl; have hcz31_1 : w28.cell? ⟨gb143, 1, none⟩ = some (.string (⟨#[]⟩ : ByteArray)) := (Z5 BK143.out 1).trans rfl; have hcz31_2 : w28.cell? ⟨gb143, 2, none⟩ = some (.int .u32 0) := (Z5 BK143.out 2).trans rfl; have hcz31_3 : w28.cell? ⟨gb143, 3, none⟩ = some (.bool false) := (Z5 BK143.out 3).trans rfl; have hcz31_4 : w28.cell? ⟨gb143, 4, none⟩ = some (.int .i64 0) := (Z5 BK143.out 4).trans rfl; have hcz31_5 : w28.cell? ⟨gb143, 5, none⟩ = some (.int .i64 0) := (Z5 BK143.out 5).trans rfl; have hfz31_0 := Z2 BK143.out 0; have hfz31_1 := Z2 BK143.out 1; have hfz31_2 := Z2 BK143.out 2; have hfz31_3 := Z2 BK143.out 3; have hfz31_4 := Z2 BK143.out 4; have hfz31_5 := Z2 BK143.out 5))
                 refine bodyPost_ret (Z62 rfl _ _ gb143 24 #[.int .i64 0, .string (⟨#[]⟩ : ByteArray), .int .u32 0, .bool false, .int .i64 0, .int .i64 0] (0, 0) _ rfl (by (with_reducible repeat (first | refine Z0 ?_ _ | refine Z3 ?_ | refine Z1 ?_ _)); refine Z9 (cs := #[.int .i64 0, .string (⟨#[]⟩ : ByteArray), .int .u32 0, .bool false, .int .i64 0, .int .i64 0]) ?_ 5 _ rfl; (with_reducible repeat (first | refine Z0 ?_ _ | refine Z3 ?_ | refine Z1 ?_ _)); refine Z9 (cs := #[.int .i64 0, .string (⟨#[]⟩ : ByteArray), .int .u32 0, .bool false, .int .i64 0, .int .i64 0]) ?_ 4 _ rfl; (with_reducible repeat (first | refine Z0 ?_ _ | refine Z3 ?_ | refine Z1 ?_ _)); refine Z9 (cs := #[.int .i64 0, .string (⟨#[]⟩ : ByteArray), .int .u32 0, .bool false, .int .i64 0, .int .i64 0]) ?_ 3 _ rfl; (with_reducible repeat (first | refine Z0 ?_ _ | refine Z3 ?_ | refine Z1 ?_ _)); refine Z9 (cs := #[.int .i64 0, .string (⟨#[]⟩ : ByteArray), .int .u32 0, .bool false, .int .i64 0, .int .i64 0]) ?_ 2 _ rfl; (with_reducible repeat (first | refine Z0 ?_ _ | refine Z3 ?_ | refine Z1 ?_ _)); refine Z9 (cs := #[.int .i64 0, .string (⟨#[]⟩ : ByteArray), .int .u32 0, .bool false, .int .i64 0, .int .i64 0]) ?_ 1 _ rfl; (with_reducible repeat (first | refine Z0 ?_ _ | refine Z3 ?_ | refine Z1 ?_ _)); refine Z9 (cs := #[.int .i64 0, .string (⟨#[]⟩ : ByteArray), .int .u32 0, .bool false, .int .i64 0, .int .i64 0]) ?_ 0 _ rfl; (with_reducible repeat (first | refine Z0 ?_ _ | refine Z3 ?_ | refine Z1 ?_ _)); refine Z22 ?_ NB143_146.out _; (with_reducible repeat (first | refine Z0 ?_ _ | refine Z3 ?_ | refine Z1 ?_ _)); refine Z22 ?_ NB143_146.out _; (with_reducible repeat (first | refine Z0 ?_ _ | refine Z3 ?_ | refine Z1 ?_ _)); refine Z22 ?_ NB143_146.out _; (with_reducible repeat (first | refine Z0 ?_ _ | refine Z3 ?_ | refine Z1 ?_ _)); refine Z22 ?_ NB143_146.out _; (with_reducible repeat (first | refine Z0 ?_ _ | refine Z3 ?_ | refine Z1 ?_ _)); refine Z22 ?_ NB143_146.out _; (with_reducible repeat (first | refine Z0 ?_ _ | refine Z3 ?_ | refine Z1 ?_ _)); refine Z22 ?_ NB143_146.out _; (with_reducible repeat (first | refine Z0 ?_ _ | refine Z3 ?_ | refine Z1 ?_ _)); exact BK143.out) Tryd.underlying24 rfl (by kernel_rfl)) rfl ?_
                 exact ⟨by first | rfl | (simp [Z16, Z15] <;> rfl) | (simp [*, Z16, Z15] <;> rfl), by repeat (first | (with_reducible first | exact HB.out | apply Z7 | apply Z4 | apply Z6 | refine Z8 ?_ GE143.out | refine Z8 ?_ GE146.out) | exact HB.out)⟩
             · rw [if_neg c17] at H
               have c17b0 : decide (t147 < 10) = false := decide_eq_false c17
               clear c17
               replace H := Option.bind_eq_some_iff.mp H
               obtain ⟨t155, A320, H⟩ := H
               replace H : (if t155 = true then ((Z36.f kj2 a0 t144).bind fun bt156 => (some (bt156.1, bt156.2.1, bt156.2.2.1, bt156.2.2.2.1, bt156.2.2.2.2.1, bt156.2.2.2.2.2, 0, 0))) else (if (bt a0 t144) = 39 then (Z29.j1 kj2 a0 t144 true) else (Z29.j1 kj2 a0 t144 ((bt a0 t144) == 34)))) = some (r1, r2, r3, r4, r5, r6, r7, r8) := H
               have A32 := Aside0.mk A320
               clear A320
               by_cases c33 : t155 = true
               · subst c33
                 have H1 : ((Z36.f kj2 a0 t144).bind fun bt156 => (some (bt156.1, bt156.2.1, bt156.2.2.1, bt156.2.2.2.1, bt156.2.2.2.2.1, bt156.2.2.2.2.2, 0, 0))) = some (r1, r2, r3, r4, r5, r6, r7, r8) := by rw [if_pos rfl] at H; exact H
                 clear H
                 have H := H1
                 clear H1
                 replace H := Option.bind_eq_some_iff.mp H
                 obtain ⟨⟨t156, t157, t158, t159, t160, t161⟩, A340, H⟩ := H
                 replace H : (some (t156, t157, t158, t159, t160, t161, 0, 0)) = some (r1, r2, r3, r4, r5, r6, r7, r8) := H
                 have A34 := Aside0.mk A340
                 clear A340
                 simp only [Option.some.injEq, Prod.mk.injEq] at H
                 obtain ⟨rfl, rfl, rfl, rfl, rfl, rfl, rfl, rfl⟩ := H
                 go_wp2_with (first | ((with_reducible refine Z14 (f := 21) rfl ?_); refine goesL_ (some 22) rfl rfl Tryd.func21 (by kernel_rfl) rfl #[.string a0, .int .i64 a1] rfl (by (try simp only [List.map_toArray, List.map_cons, List.map_nil]); first | done | rfl | (simp only [List.length_drop, List.length_take]; rfl)) ?_; (with_reducible refine (Z32.calls kj2 a0 a1 t144 true _ ?side1 A8.out).mono ?_); (case side1 => refine PremW.below HG.out ?_; repeat (first | (with_reducible first | exact HB.out | apply Z7 | apply Z4 | apply Z6 | refine Z8 ?_ GE143.out) | exact HB.out)); rintro e w35 ⟨rfl, hb⟩; refine ⟨_, rfl, ?_⟩; have n0_ := Aside0.mk (Z40 (g := gb143) (o := .cells #[.int .i64 0, .string (⟨#[]⟩ : ByteArray), .int .u32 0, .bool false, .int .i64 0, .int .i64 0] 24 (0, 0)) (by (with_reducible repeat (first | refine Z0 ?_ _ | refine Z3 ?_ | refine Z1 ?_ _)); exact BK143.out) hb); have n1_ := Aside0.mk (Z25 (by repeat (first | (with_reducible first | exact HB.out | apply Z7 | apply Z4 | apply Z6 | refine Z8 ?_ GE143.out) | exact HB.out)) hb); clear BK143; clear HB; have BK143 := n0_; have HB := n1_; clear n0_ n1_; (try clear hb); (try clear hb2); (try clear hk); (try clear hi)) | ((with_reducible refine Z52 (N := 8) rfl ?_); (try (refine Z66 (by rfl) ?_; dsimp only)); refine Z51 ?hg (N := 8) ?hd (cs := #[.int .i64 0, .string (⟨#[]⟩ : ByteArray), .int .u32 0, .bool false, .int .i64 0, .int .i64 0]) (t := 24) ?hr ?_; (case hd => rfl); (case hg => rfl); (case hr => first | (go_simp; done) | (go_simp; rfl)); intro gb146 hg w36 hbox hb; have n0_ := Aside0.mk (Z40 (g := gb143) (o := .cells #[.int .i64 0, .string (⟨#[]⟩ : ByteArray), .int .u32 0, .bool false, .int .i64 0, .int .i64 0] 24 (0, 0)) (by (with_reducible repeat (first | refine Z0 ?_ _ | refine Z3 ?_ | refine Z1 ?_ _)); exact BK143.out) hb); have n1_ := Aside0.mk (Z25 (by repeat (first | (with_reducible first | exact HB.out | apply Z7 | apply Z4 | apply Z6 | refine Z8 ?_ GE143.out) | exact HB.out)) hb); have n2_ := Aside0.mk (hbox); have n3_ := Aside0.mk ((by rw [hg]; exact (Z27 (by repeat (first | (with_reducible first | exact HB.out | apply Z7 | apply Z4 | apply Z6 | refine Z8 ?_ GE143.out) | exact HB.out))) : w.heap.size ≤ gb146)); have n4_ := Aside0.mk ((by rw [hg]; exact (Z27 (by repeat (first | (with_reducible first | exact HB.out | apply Z7 | apply Z4 | apply Z6 | refine Z8 ?_ GE143.out) | exact HB.out))) : w.heap.size ≤ gb146)); have n5_ := Aside0.mk ((by rw [hg]; exact Nat.ne_of_lt (blk_lt (g := gb143) (o := .cells #[.int .i64 0, .string (⟨#[]⟩ : ByteArray), .int .u32 0, .bool false, .int .i64 0, .int .i64 0] 24 (0, 0)) (by (with_reducible repeat (first | refine Z0 ?_ _ | refine Z3 ?_ | refine Z1 ?_ _)); exact BK143.out)) : gb143 ≠ gb146)); have n6_ := Aside0.mk ((by rw [hg]; exact Nat.ne_of_gt (blk_lt (g := gb143) (o := .cells #[.int .i64 0, .string (⟨#[]⟩ : ByteArray), .int .u32 0, .bool false, .int .i64 0, .int .i64 0] 24 (0, 0)) (by (with_reducible repeat (first | refine Z0 ?_ _ | refine Z3 ?_ | refine Z1 ?_ _)); exact BK143.out)) : gb146 ≠ gb143)); clear BK143; clear HB; have BK143 := n0_; have HB := n1_; have BK146 := n2_; have GW146 := n3_; have GE146 := n4_; have NB143_146 := n5_; have NB146_143 := n6_; clear n0_ n1_ n2_ n3_ n4_ n5_ n6_; clear hb hbox hg; have p15 : 0 ≤ (t144 : Int) := of_decide_eq_true (by first | (with_reducible assumption) | assumption); have q15 : t144 < (a0.size : Int) := of_decide_eq_true (by first | (with_reducible assumption) | assumption); have hx15 := bt_at a0 t144; replace p15 := eq_true p15; replace q15 := eq_true q15) | ((with_reducible refine Z14 (f := 22) rfl ?_); refine goesL_ (some 47) rfl rfl Tryd.func22 (by kernel_rfl) rfl #[.int .u8 (bt a0 t144)] rfl (by (try simp only [List.map_toArray, List.map_cons, List.map_nil]); first | done | rfl | (simp only [List.length_drop, List.length_take]; rfl)) ?_; (with_reducible refine (Z13.calls kj2 (bt a0 t144) t147 _ A16.out).mono ?_); rintro e w' ⟨rfl, ⟨nd, rfl⟩⟩; refine ⟨_, rfl, ?_⟩; (try (rw [Z43 w36]; generalize hq_ : World.drewN w36 _ = w36; have n0_ : Aside0 (w36.heap[gb143]? = some (.cells #[.int .i64 0, .string (⟨#[]⟩ : ByteArray), .int .u32 0, .bool false, .int .i64 0, .int .i64 0] 24 (0, 0))) := ⟨by rw [← hq_]; exact (by (with_reducible repeat (first | refine Z0 ?_ _ | refine Z3 ?_ | refine Z1 ?_ _)); exact BK143.out)⟩; have n1_ : Aside0 (w36.heap[gb146]? = some (.cells #[.int .i64 0, .string (⟨#[]⟩ : ByteArray), .int .u32 0, .bool false, .int .i64 0, .int .i64 0] 24 (0, 0))) := ⟨by rw [← hq_]; exact (by (with_reducible repeat (first | refine Z0 ?_ _ | refine Z3 ?_ | refine Z1 ?_ _)); exact BK146.out)⟩; have n2_ : Aside0 (Below w.heap.size w w36) := ⟨by rw [← hq_]; exact (by repeat (first | (with_reducible first | exact HB.out | apply Z7 | apply Z4 | apply Z6 | refine Z8 ?_ GE143.out | refine Z8 ?_ GE146.out) | exact HB.out))⟩; clear BK143 BK146 HB hq_; have BK143 := n0_; have BK146 := n1_; have HB := n2_; clear n0_ n1_ n2_))) | ((with_reducible refine Z14 (f := 24) rfl ?_); refine goesL_ (some 57) rfl rfl Tryd.func24 (by kernel_rfl) rfl #[.int .u8 (bt a0 t144)] rfl (by (try simp only [List.map_toArray, List.map_cons, List.map_nil]); first | done | rfl | (simp only [List.length_drop, List.length_take]; rfl)) ?_; (with_reducible refine (Z37.calls (bt a0 t144) true _ A32.out).mono ?_); rintro e w' ⟨rfl, ⟨nd, rfl⟩⟩; refine ⟨_, rfl, ?_⟩; (try (rw [Z43 w36]; generalize hq_ : World.drewN w36 _ = w36; have n0_ : Aside0 (w36.heap[gb143]? = some (.cells #[.int .i64 0, .string (⟨#[]⟩ : ByteArray), .int .u32 0, .bool false, .int .i64 0, .int .i64 0] 24 (0, 0))) := ⟨by rw [← hq_]; exact (by (with_reducible repeat (first | refine Z0 ?_ _ | refine Z3 ?_ | refine Z1 ?_ _)); exact BK143.out)⟩; have n1_ : Aside0 (w36.heap[gb146]? = some (.cells #[.int .i64 0, .string (⟨#[]⟩ : ByteArray), .int .u32 0, .bool false, .int .i64 0, .int .i64 0] 24 (0, 0))) := ⟨by rw [← hq_]; exact (by (with_reducible repeat (first | refine Z0 ?_ _ | refine Z3 ?_ | refine Z1 ?_ _)); exact BK146.out)⟩; have n2_ : Aside0 (Below w.heap.size w w36) := ⟨by rw [← hq_]; exact (by repeat (first | (with_reducible first | exact HB.out | apply Z7 | apply Z4 | apply Z6 | refine Z8 ?_ GE143.out | refine Z8 ?_ GE146.out) | exact HB.out))⟩; clear BK143 BK146 HB hq_; have BK143 := n0_; have BK146 := n1_; have HB := n2_; clear n0_ n1_ n2_))) | ((with_reducible refine Z14 (f := 25) rfl ?_); refine goesL_ (some 60) rfl rfl Tryd.func25 (by kernel_rfl) rfl #[.string a0, .int .i64 t144] rfl (by (try simp only [List.map_toArray, List.map_cons, List.map_nil]); first | done | rfl | (simp only [List.length_drop, List.length_take]; rfl)) ?_; (with_reducible refine (Z36.calls kj2 a0 t144 t156 t157 t158 t159 t160 t161 _ ?side1 A34.out).mono ?_); (case side1 => refine PremW.below HG.out ?_; repeat (first | (with_reducible first | exact HB.out | apply Z7 | apply Z4 | apply Z6 | refine Z8 ?_ GE143.out | refine Z8 ?_ GE146.out) | exact HB.out)); rintro e w37 ⟨rfl, hb⟩; refine ⟨_, rfl, ?_⟩; have n0_ := Aside0.mk (Z40 (g := gb143) (o := .cells #[.int .i64 0, .string (⟨#[]⟩ : ByteArray), .int .u32 0, .bool false, .int .i64 0, .int .i64 0] 24 (0, 0)) (by (with_reducible repeat (first | refine Z0 ?_ _ | refine Z3 ?_ | refine Z1 ?_ _)); exact BK143.out) hb); have n1_ := Aside0.mk (Z40 (g := gb146) (o := .cells #[.int .i64 0, .string (⟨#[]⟩ : ByteArray), .int .u32 0, .bool false, .int .i64 0, .int .i64 0] 24 (0, 0)) (by (with_reducible repeat (first | refine Z0 ?_ _ | refine Z3 ?_ | refine Z1 ?_ _)); exact BK146.out) hb); have n2_ := Aside0.mk (Z25 (by repeat (first | (with_reducible first | exact HB.out | apply Z7 | apply Z4 | apply Z6 | refine Z8 ?_ GE143.out | refine Z8 ?_ GE146.out) | exact HB.out)) hb); clear BK143; clear BK146; clear HB; have BK143 := n0_; have BK146 := n1_; have HB := n2_; clear n0_ n1_ n2_; (try clear hb); (try clear hb2); (try clear hk); (try clear hi); have hnb38 := NB146_143.out; have hnc38 := NB143_146.out; have hcz39_0 : w37.cell? ⟨gb146, 0, none⟩ = some (.int .i64 0) := (Z5 BK146.out 0).trans rfl; have hcz39_1 : w37.cell? ⟨gb146, 1, none⟩ = some (.string (⟨#[]⟩ : ByteArray)) := (Z5 BK146.out 1).trans rfl; have hcz39_2 : w37.cell? ⟨gb146, 2, none⟩ = some (.int .u32 0) := (Z5 BK146.out 2).trans rfl; have hcz39_3 : w37.cell? ⟨gb146, 3, none⟩ = some (.bool false) := (Z5 BK146.out 3).trans rfl; have hcz39_4 : w37.cell? ⟨gb146, 4, none⟩ = some (.int .i64 0) := (Z5 BK146.out 4).trans rfl; have hcz39_5 : w37.cell? ⟨gb146, 5, none⟩ = some (.int .i64 0) := (Z5 BK146.out 5).trans rfl; have hfz39_0 := Z2 BK146.out 0; have hfz39_1 := Z2 BK146.out 1; have hfz39_2 := Z2 BK146.out 2; have hfz39_3 := Z2 BK146.out 3; have hfz39_4 := Z2 BK146.out 4; have hfz39_5 := Z2 BK146.out 5; have hcz40_0 : w37.cell? ⟨gb143, 0, none⟩ = some (.int .i64 0) := (Z5 BK143.out 0).trans rfl; have hcz40_1 : w37.cell? ⟨gb143, 1, none⟩ = some (.string (⟨#[]⟩ : ByteArray)) := (Z5 BK143.out 1).trans rfl; have hcz40_2 : w37.cell? ⟨gb143, 2, none⟩ = some (.int .u32 0) := (Z5 BK143.out 2).trans rfl; have hcz40_3 : w37.cell? ⟨gb143, 3, none⟩ = some (.bool false) := (Z5 BK143.out 3).trans rfl; have hcz40_4 : w37.cell? ⟨gb143, 4, none⟩ = some (.int .i64 0) := (Z5 BK143.out 4).trans rfl; have hcz40_5 : w37.cell? ⟨gb143, 5, none⟩ = some (.int .i64 0) := (Z5 BK143.out 5).trans rfl; have hfz40_0 := Z2 BK143.out 0; have hfz40_1 := Z2 BK143.out 1; have hfz40_2 := Z2 BK143.out 2; have hfz40_3 := Z2 BK143.out 3; have hfz40_4 := Z2 BK143.out 4; have hfz40_5 := Z2 BK143.out 5))
                 refine bodyPost_ret (Z62 rfl _ _ gb143 24 #[.int .i64 t156, .string t157, .int .u32 t158, .bool t159, .int .i64 t160, .int .i64 t161] (0, 0) _ rfl (by (with_reducible repeat (first | refine Z0 ?_ _ | refine Z3 ?_ | refine Z1 ?_ _)); refine Z9 (cs := #[.int .i64 t156, .string t157, .int .u32 t158, .bool t159, .int .i64 t160, .int .i64 0]) ?_ 5 _ rfl; (with_reducible repeat (first | refine Z0 ?_ _ | refine Z3 ?_ | refine Z1 ?_ _)); refine Z9 (cs := #[.int .i64 t156, .string t157, .int .u32 t158, .bool t159, .int .i64 0, .int .i64 0]) ?_ 4 _ rfl; (with_reducible repeat (first | refine Z0 ?_ _ | refine Z3 ?_ | refine Z1 ?_ _)); refine Z9 (cs := #[.int .i64 t156, .string t157, .int .u32 t158, .bool false, .int .i64 0, .int .i64 0]) ?_ 3 _ rfl; (with_reducible repeat (first | refine Z0 ?_ _ | refine Z3 ?_ | refine Z1 ?_ _)); refine Z9 (cs := #[.int .i64 t156, .string t157, .int .u32 0, .bool false, .int .i64 0, .int .i64 0]) ?_ 2 _ rfl; (with_reducible repeat (first | refine Z0 ?_ _ | refine Z3 ?_ | refine Z1 ?_ _)); refine Z9 (cs := #[.int .i64 t156, .string (⟨#[]⟩ : ByteArray), .int .u32 0, .bool false, .int .i64 0, .int .i64 0]) ?_ 1 _ rfl; (with_reducible repeat (first | refine Z0 ?_ _ | refine Z3 ?_ | refine Z1 ?_ _)); refine Z9 (cs := #[.int .i64 0, .string (⟨#[]⟩ : ByteArray), .int .u32 0, .bool false, .int .i64 0, .int .i64 0]) ?_ 0 _ rfl; (with_reducible repeat (first | refine Z0 ?_ _ | refine Z3 ?_ | refine Z1 ?_ _)); refine Z22 ?_ NB143_146.out _; (with_reducible repeat (first | refine Z0 ?_ _ | refine Z3 ?_ | refine Z1 ?_ _)); refine Z22 ?_ NB143_146.out _; (with_reducible repeat (first | refine Z0 ?_ _ | refine Z3 ?_ | refine Z1 ?_ _)); refine Z22 ?_ NB143_146.out _; (with_reducible repeat (first | refine Z0 ?_ _ | refine Z3 ?_ | refine Z1 ?_ _)); refine Z22 ?_ NB143_146.out _; (with_reducible repeat (first | refine Z0 ?_ _ | refine Z3 ?_ | refine Z1 ?_ _)); refine Z22 ?_ NB143_146.out _; (with_reducible repeat (first | refine Z0 ?_ _ | refine Z3 ?_ | refine Z1 ?_ _)); refine Z22 ?_ NB143_146.out _; (with_reducible repeat (first | refine Z0 ?_ _ | refine Z3 ?_ | refine Z1 ?_ _)); exact BK143.out) Tryd.underlying24 rfl (by kernel_rfl)) rfl ?_
                 exact ⟨by first | rfl | (simp [Z16, Z15] <;> rfl) | (simp [*, Z16, Z15] <;> rfl), by repeat (first | (with_reducible first | exact HB.out | apply Z7 | apply Z4 | apply Z6 | refine Z8 ?_ GE143.out | refine Z8 ?_ GE146.out) | exact HB.out)⟩
               · replace c33 := Bool.eq_false_iff.mpr c33
                 subst c33
                 have H1 : (if (bt a0 t144) = 39 then (Z29.j1 kj2 a0 t144 true) else (Z29.j1 kj2 a0 t144 ((bt a0 t144) == 34))) = some (r1, r2, r3, r4, r5, r6, r7, r8) := by rw [if_neg (show ¬ (false = true) by decide)] at H; exact H
                 clear H
                 have H := H1
                 clear H1
                 have HC41 := Aside0.mk H
                 clear H
                 go_upto_region 15 with (first | ((with_reducible refine Z14 (f := 21) rfl ?_); refine goesL_ (some 22) rfl rfl Tryd.func21 (by kernel_rfl) rfl #[.string a0, .int .i64 a1] rfl (by (try simp only [List.map_toArray, List.map_cons, List.map_nil]); first | done | rfl | (simp only [List.length_drop, List.length_take]; rfl)) ?_; (with_reducible refine (Z32.calls kj2 a0 a1 t144 true _ ?side1 A8.out).mono ?_); (case side1 => refine PremW.below HG.out ?_; repeat (first | (with_reducible first | exact HB.out | apply Z7 | apply Z4 | apply Z6 | refine Z8 ?_ GE143.out) | exact HB.out)); rintro e w42 ⟨rfl, hb⟩; refine ⟨_, rfl, ?_⟩; have n0_ := Aside0.mk (Z40 (g := gb143) (o := .cells #[.int .i64 0, .string (⟨#[]⟩ : ByteArray), .int .u32 0, .bool false, .int .i64 0, .int .i64 0] 24 (0, 0)) (by (with_reducible repeat (first | refine Z0 ?_ _ | refine Z3 ?_ | refine Z1 ?_ _)); exact BK143.out) hb); have n1_ := Aside0.mk (Z25 (by repeat (first | (with_reducible first | exact HB.out | apply Z7 | apply Z4 | apply Z6 | refine Z8 ?_ GE143.out) | exact HB.out)) hb); clear BK143; clear HB; have BK143 := n0_; have HB := n1_; clear n0_ n1_; (try clear hb); (try clear hb2); (try clear hk); (try clear hi)) | ((with_reducible refine Z52 (N := 8) rfl ?_); (try (refine Z66 (by rfl) ?_; dsimp only)); refine Z51 ?hg (N := 8) ?hd (cs := #[.int .i64 0, .string (⟨#[]⟩ : ByteArray), .int .u32 0, .bool false, .int .i64 0, .int .i64 0]) (t := 24) ?hr ?_; (case hd => rfl); (case hg => rfl); (case hr => first | (go_simp; done) | (go_simp; rfl)); intro gb146 hg w43 hbox hb; have n0_ := Aside0.mk (Z40 (g := gb143) (o := .cells #[.int .i64 0, .string (⟨#[]⟩ : ByteArray), .int .u32 0, .bool false, .int .i64 0, .int .i64 0] 24 (0, 0)) (by (with_reducible repeat (first | refine Z0 ?_ _ | refine Z3 ?_ | refine Z1 ?_ _)); exact BK143.out) hb); have n1_ := Aside0.mk (Z25 (by repeat (first | (with_reducible first | exact HB.out | apply Z7 | apply Z4 | apply Z6 | refine Z8 ?_ GE143.out) | exact HB.out)) hb); have n2_ := Aside0.mk (hbox); have n3_ := Aside0.mk ((by rw [hg]; exact (Z27 (by repeat (first | (with_reducible first | exact HB.out | apply Z7 | apply Z4 | apply Z6 | refine Z8 ?_ GE143.out) | exact HB.out))) : w.heap.size ≤ gb146)); have n4_ := Aside0.mk ((by rw [hg]; exact (Z27 (by repeat (first | (with_reducible first | exact HB.out | apply Z7 | apply Z4 | apply Z6 | refine Z8 ?_ GE143.out) | exact HB.out))) : w.heap.size ≤ gb146)); have n5_ := Aside0.mk ((by rw [hg]; exact Nat.ne_of_lt (blk_lt (g := gb143) (o := .cells #[.int .i64 0, .string (⟨#[]⟩ : ByteArray), .int .u32 0, .bool false, .int .i64 0, .int .i64 0] 24 (0, 0)) (by (with_reducible repeat (first | refine Z0 ?_ _ | refine Z3 ?_ | refine Z1 ?_ _)); exact BK143.out)) : gb143 ≠ gb146)); have n6_ := Aside0.mk ((by rw [hg]; exact Nat.ne_of_gt (blk_lt (g := gb143) (o := .cells #[.int .i64 0, .string (⟨#[]⟩ : ByteArray), .int .u32 0, .bool false, .int .i64 0, .int .i64 0] 24 (0, 0)) (by (with_reducible repeat (first | refine Z0 ?_ _ | refine Z3 ?_ | refine Z1 ?_ _)); exact BK143.out)) : gb146 ≠ gb143)); clear BK143; clear HB; have BK143 := n0_; have HB := n1_; have BK146 := n2_; have GW146 := n3_; have GE146 := n4_; have NB143_146 := n5_; have NB146_143 := n6_; clear n0_ n1_ n2_ n3_ n4_ n5_ n6_; clear hb hbox hg; have p15 : 0 ≤ (t144 : Int) := of_decide_eq_true (by first | (with_reducible assumption) | assumption); have q15 : t144 < (a0.size : Int) := of_decide_eq_true (by first | (with_reducible assumption) | assumption); have hx15 := bt_at a0 t144; replace p15 := eq_true p15; replace q15 := eq_true q15) | ((with_reducible refine Z14 (f := 22) rfl ?_); refine goesL_ (some 47) rfl rfl Tryd.func22 (by kernel_rfl) rfl #[.int .u8 (bt a0 t144)] rfl (by (try simp only [List.map_toArray, List.map_cons, List.map_nil]); first | done | rfl | (simp only [List.length_drop, List.length_take]; rfl)) ?_; (with_reducible refine (Z13.calls kj2 (bt a0 t144) t147 _ A16.out).mono ?_); rintro e w' ⟨rfl, ⟨nd, rfl⟩⟩; refine ⟨_, rfl, ?_⟩) | ((with_reducible refine Z14 (f := 24) rfl ?_); refine goesL_ (some 57) rfl rfl Tryd.func24 (by kernel_rfl) rfl #[.int .u8 (bt a0 t144)] rfl (by (try simp only [List.map_toArray, List.map_cons, List.map_nil]); first | done | rfl | (simp only [List.length_drop, List.length_take]; rfl)) ?_; (with_reducible refine (Z37.calls (bt a0 t144) false _ A32.out).mono ?_); rintro e w' ⟨rfl, ⟨nd, rfl⟩⟩; refine ⟨_, rfl, ?_⟩))
                 (try simp only [Act.put, List.setIfInBounds_toArray, List.set_cons_zero, List.set_cons_succ])
                 go_cut [61] (fun v61 wc => ∃ (kq : Nat) (x61_40 : Bool), v61 = .bool x61_40 ∧ Aside0 (Z29.j1 kq a0 t144 x61_40 = some (r1, r2, r3, r4, r5, r6, r7, r8)) ∧ Aside0 (kq ≤ kj2) ∧ Aside0 (wc.heap[gb143]? = some (.cells #[.int .i64 0, .string (⟨#[]⟩ : ByteArray), .int .u32 0, .bool false, .int .i64 0, .int .i64 0] 24 (0, 0))) ∧ Aside0 (wc.heap[gb146]? = some (.cells #[.int .i64 0, .string (⟨#[]⟩ : ByteArray), .int .u32 0, .bool false, .int .i64 0, .int .i64 0] 24 (0, 0))) ∧ Aside0 (Below w.heap.size w wc))
                 case first =>
                  have H := HC41.out
                  clear HC41
                  by_cases c44 : (bt a0 t144) = 39
                  · rw [if_pos c44] at H
                    have c44b0 : ((bt a0 t144) == 39) = true := beq_iff_eq.mpr c44
                    have c44b1 : ((bt a0 t144) != 39) = false := bne_eq_false_iff_eq.mpr c44
                    clear c44
                    (first | rw [c44b0] | (simp only [i64_w, i32_w]; rw [c44b0]) | skip)
                    have H' := Aside0.mk H
                    clear H
                    go_wp2
                    go_meet
                    case rel => exact ⟨_, (true), (by first | rfl | (simp; done) | (simp [*]; done)), H', ⟨by have := HJ2.out; first | omega | exact Nat.le_refl _⟩, ⟨by (with_reducible repeat (first | refine Z0 ?_ _ | refine Z3 ?_ | refine Z1 ?_ _)); exact BK143.out⟩, ⟨by (with_reducible repeat (first | refine Z0 ?_ _ | refine Z3 ?_ | refine Z1 ?_ _)); exact BK146.out⟩, ⟨by repeat (first | (with_reducible first | exact HB.out | apply Z7 | apply Z4 | apply Z6 | refine Z8 ?_ GE143.out | refine Z8 ?_ GE146.out) | exact HB.out)⟩⟩
                  · rw [if_neg c44] at H
                    have c44b0 : ((bt a0 t144) == 39) = false := beq_eq_false_iff_ne.mpr c44
                    have c44b1 : ((bt a0 t144) != 39) = true := bne_iff_ne.mpr c44
                    (first | rw [c44b0] | (simp only [i64_w, i32_w]; rw [c44b0]) | skip)
                    have H' := Aside0.mk H
                    clear H
                    go_wp2
                    go_meet
                    case rel => exact ⟨_, (((bt a0 t144) == 34)), (by first | rfl | (simp; done) | (simp [*]; done)), H', ⟨by have := HJ2.out; first | omega | exact Nat.le_refl _⟩, ⟨by (with_reducible repeat (first | refine Z0 ?_ _ | refine Z3 ?_ | refine Z1 ?_ _)); exact BK143.out⟩, ⟨by (with_reducible repeat (first | refine Z0 ?_ _ | refine Z3 ?_ | refine Z1 ?_ _)); exact BK146.out⟩, ⟨by repeat (first | (with_reducible first | exact HB.out | apply Z7 | apply Z4 | apply Z6 | refine Z8 ?_ GE143.out | refine Z8 ?_ GE146.out) | exact HB.out)⟩⟩
                 case rest =>
                  clear HC41
                  try clear c6
                  try clear c9
                  try clear c10
                  try clear c10b0
                  try clear c10b1
                  try clear c13
                  try clear c13b0
                  try clear c14
                  try clear c14b0
                  try clear p15
                  try clear q15
                  try clear hx15
                  try clear c17
                  try clear c17b0
                  try clear c33
                  try clear p15
                  try clear q15
                  obtain ⟨kq, x61_40, rfl, HA, HJ40, BK143, BK146, HB⟩ := hcut
                  cases kq with
                  | zero => exact absurd HA.out (by simp [Z29.j1])
                  | succ kj40 =>
                   have H := HA.out
                   clear HA
                   simp only [Z29.j1] at H
                   by_cases c45 : x61_40 = true
                   · subst c45
                     have H1 : ((Z17.f kj40 a0 t144).bind fun bt162 => (if bt162.2.2.2.2.2.2 = true then (some (bt162.1, bt162.2.1, bt162.2.2.1, bt162.2.2.2.1, bt162.2.2.2.2.1, bt162.2.2.2.2.2.1, 0, 0)) else (some (0, (⟨#[]⟩ : ByteArray), 0, false, 0, 0, t144, 70)))) = some (r1, r2, r3, r4, r5, r6, r7, r8) := by rw [if_pos rfl] at H; exact H
                     clear H
                     have H := H1
                     clear H1
                     replace H := Option.bind_eq_some_iff.mp H
                     obtain ⟨⟨t162, t163, t164, t165, t166, t167, t168⟩, A460, H⟩ := H
                     replace H : (if t168 = true then (some (t162, t163, t164, t165, t166, t167, 0, 0)) else (some (0, (⟨#[]⟩ : ByteArray), 0, false, 0, 0, t144, 70))) = some (r1, r2, r3, r4, r5, r6, r7, r8) := H
                     have A46 := Aside0.mk A460
                     clear A460
                     by_cases c47 : t168 = true
                     · subst c47
                       have H1 : (some (t162, t163, t164, t165, t166, t167, 0, 0)) = some (r1, r2, r3, r4, r5, r6, r7, r8) := by rw [if_pos rfl] at H; exact H
                       clear H
                       have H := H1
                       clear H1
                       simp only [Option.some.injEq, Prod.mk.injEq] at H
                       obtain ⟨rfl, rfl, rfl, rfl, rfl, rfl, rfl, rfl⟩ := H
                       go_wp2_with (first | ((with_reducible refine Z14 (f := 26) rfl ?_); refine goesL_ (some 71) rfl rfl Tryd.func26 (by kernel_rfl) rfl #[.string a0, .int .i64 t144] rfl (by (try simp only [List.map_toArray, List.map_cons, List.map_nil]); first | done | rfl | (simp only [List.length_drop, List.length_take]; rfl)) ?_; (with_reducible refine (Z17.calls kj40 a0 t144 t162 t163 t164 t165 t166 t167 true _ A46.out).mono ?_); rintro e w48 ⟨rfl, hb⟩; refine ⟨_, rfl, ?_⟩; have n0_ := Aside0.mk (Z40 (g := gb143) (o := .cells #[.int .i64 0, .string (⟨#[]⟩ : ByteArray), .int .u32 0, .bool false, .int .i64 0, .int .i64 0] 24 (0, 0)) (by (with_reducible repeat (first | refine Z0 ?_ _ | refine Z3 ?_ | refine Z1 ?_ _)); exact BK143.out) hb); have n1_ := Aside0.mk (Z40 (g := gb146) (o := .cells #[.int .i64 0, .string (⟨#[]⟩ : ByteArray), .int .u32 0, .bool false, .int .i64 0, .int .i64 0] 24 (0, 0)) (by (with_reducible repeat (first | refine Z0 ?_ _ | refine Z3 ?_ | refine Z1 ?_ _)); exact BK146.out) hb); have n2_ := Aside0.mk (Z25 (by repeat (first | (with_reducible first | exact HB.out | apply Z7 | apply Z4 | apply Z6 | refine Z8 ?_ GE143.out | refine Z8 ?_ GE146.out) | exact HB.out)) hb); clear BK143; clear BK146; clear HB; have BK143 := n0_; have BK146 := n1_; have HB := n2_; clear n0_ n1_ n2_; (try clear hb); (try clear hb2); (try clear hk); (try clear hi); have hnb49 := NB146_143.out; have hnc49 := NB143_146.out; have hcz50_0 : w48.cell? ⟨gb146, 0, none⟩ = some (.int .i64 0) := (Z5 BK146.out 0).trans rfl; have hcz50_1 : w48.cell? ⟨gb146, 1, none⟩ = some (.string (⟨#[]⟩ : ByteArray)) := (Z5 BK146.out 1).trans rfl; have hcz50_2 : w48.cell? ⟨gb146, 2, none⟩ = some (.int .u32 0) := (Z5 BK146.out 2).trans rfl; have hcz50_3 : w48.cell? ⟨gb146, 3, none⟩ = some (.bool false) := (Z5 BK146.out 3).trans rfl; have hcz50_4 : w48.cell? ⟨gb146, 4, none⟩ = some (.int .i64 0) := (Z5 BK146.out 4).trans rfl; have hcz50_5 : w48.cell? ⟨gb146, 5, none⟩ = some (.int .i64 0) := (Z5 BK146.out 5).trans rfl; have hfz50_0 := Z2 BK146.out 0; have hfz50_1 := Z2 BK146.out 1; have hfz50_2 := Z2 BK146.out 2; have hfz50_3 := Z2 BK146.out 3; have hfz50_4 := Z2 BK146.out 4; have hfz50_5 := Z2 BK146.out 5; have hcz51_0 : w48.cell? ⟨gb143, 0, none⟩ = some (.int .i64 0) := (Z5 BK143.out 0).trans rfl; have hcz51_1 : w48.cell? ⟨gb143, 1, none⟩ = some (.string (⟨#[]⟩ : ByteArray)) := (Z5 BK143.out 1).trans rfl; have hcz51_2 : w48.cell? ⟨gb143, 2, none⟩ = some (.int .u32 0) := (Z5 BK143.out 2).trans rfl; have hcz51_3 : w48.cell? ⟨gb143, 3, none⟩ = some (.bool false) := (Z5 BK143.out 3).trans rfl; have hcz51_4 : w48.cell? ⟨gb143, 4, none⟩ = some (.int .i64 0) := (Z5 BK143.out 4).trans rfl; have hcz51_5 : w48.cell? ⟨gb143, 5, none⟩ = some (.int .i64 0) := (Z5 BK143.out 5).trans rfl; have hfz51_0 := Z2 BK143.out 0; have hfz51_1 := Z2 BK143.out 1; have hfz51_2 := Z2 BK143.out 2; have hfz51_3 := Z2 BK143.out 3; have hfz51_4 := Z2 BK143.out 4; have hfz51_5 := Z2 BK143.out 5))
                       refine bodyPost_ret (Z62 rfl _ _ gb143 24 #[.int .i64 t162, .string t163, .int .u32 t164, .bool t165, .int .i64 t166, .int .i64 t167] (0, 0) _ rfl (by (with_reducible repeat (first | refine Z0 ?_ _ | refine Z3 ?_ | refine Z1 ?_ _)); refine Z9 (cs := #[.int .i64 t162, .string t163, .int .u32 t164, .bool t165, .int .i64 t166, .int .i64 0]) ?_ 5 _ rfl; (with_reducible repeat (first | refine Z0 ?_ _ | refine Z3 ?_ | refine Z1 ?_ _)); refine Z9 (cs := #[.int .i64 t162, .string t163, .int .u32 t164, .bool t165, .int .i64 0, .int .i64 0]) ?_ 4 _ rfl; (with_reducible repeat (first | refine Z0 ?_ _ | refine Z3 ?_ | refine Z1 ?_ _)); refine Z9 (cs := #[.int .i64 t162, .string t163, .int .u32 t164, .bool false, .int .i64 0, .int .i64 0]) ?_ 3 _ rfl; (with_reducible repeat (first | refine Z0 ?_ _ | refine Z3 ?_ | refine Z1 ?_ _)); refine Z9 (cs := #[.int .i64 t162, .string t163, .int .u32 0, .bool false, .int .i64 0, .int .i64 0]) ?_ 2 _ rfl; (with_reducible repeat (first | refine Z0 ?_ _ | refine Z3 ?_ | refine Z1 ?_ _)); refine Z9 (cs := #[.int .i64 t162, .string (⟨#[]⟩ : ByteArray), .int .u32 0, .bool false, .int .i64 0, .int .i64 0]) ?_ 1 _ rfl; (with_reducible repeat (first | refine Z0 ?_ _ | refine Z3 ?_ | refine Z1 ?_ _)); refine Z9 (cs := #[.int .i64 0, .string (⟨#[]⟩ : ByteArray), .int .u32 0, .bool false, .int .i64 0, .int .i64 0]) ?_ 0 _ rfl; (with_reducible repeat (first | refine Z0 ?_ _ | refine Z3 ?_ | refine Z1 ?_ _)); refine Z22 ?_ NB143_146.out _; (with_reducible repeat (first | refine Z0 ?_ _ | refine Z3 ?_ | refine Z1 ?_ _)); refine Z22 ?_ NB143_146.out _; (with_reducible repeat (first | refine Z0 ?_ _ | refine Z3 ?_ | refine Z1 ?_ _)); refine Z22 ?_ NB143_146.out _; (with_reducible repeat (first | refine Z0 ?_ _ | refine Z3 ?_ | refine Z1 ?_ _)); refine Z22 ?_ NB143_146.out _; (with_reducible repeat (first | refine Z0 ?_ _ | refine Z3 ?_ | refine Z1 ?_ _)); refine Z22 ?_ NB143_146.out _; (with_reducible repeat (first | refine Z0 ?_ _ | refine Z3 ?_ | refine Z1 ?_ _)); refine Z22 ?_ NB143_146.out _; (with_reducible repeat (first | refine Z0 ?_ _ | refine Z3 ?_ | refine Z1 ?_ _)); exact BK143.out) Tryd.underlying24 rfl (by kernel_rfl)) rfl ?_
                       exact ⟨by first | rfl | (simp [Z16, Z15] <;> rfl) | (simp [*, Z16, Z15] <;> rfl), by repeat (first | (with_reducible first | exact HB.out | apply Z7 | apply Z4 | apply Z6 | refine Z8 ?_ GE143.out | refine Z8 ?_ GE146.out) | exact HB.out)⟩
                     · replace c47 := Bool.eq_false_iff.mpr c47
                       subst c47
                       have H1 : (some (0, (⟨#[]⟩ : ByteArray), 0, false, 0, 0, t144, 70)) = some (r1, r2, r3, r4, r5, r6, r7, r8) := by rw [if_neg (show ¬ (false = true) by decide)] at H; exact H
                       clear H
                       have H := H1
                       clear H1
                       simp only [Option.some.injEq, Prod.mk.injEq] at H
                       obtain ⟨rfl, rfl, rfl, rfl, rfl, rfl, rfl, rfl⟩ := H
                       go_wp2_with (first | ((with_reducible refine Z14 (f := 26) rfl ?_); refine goesL_ (some 71) rfl rfl Tryd.func26 (by kernel_rfl) rfl #[.string a0, .int .i64 t144] rfl (by (try simp only [List.map_toArray, List.map_cons, List.map_nil]); first | done | rfl | (simp only [List.length_drop, List.length_take]; rfl)) ?_; (with_reducible refine (Z17.calls kj40 a0 t144 t162 t163 t164 t165 t166 t167 false _ A46.out).mono ?_); rintro e w52 ⟨rfl, hb⟩; refine ⟨_, rfl, ?_⟩; have n0_ := Aside0.mk (Z40 (g := gb143) (o := .cells #[.int .i64 0, .string (⟨#[]⟩ : ByteArray), .int .u32 0, .bool false, .int .i64 0, .int .i64 0] 24 (0, 0)) (by (with_reducible repeat (first | refine Z0 ?_ _ | refine Z3 ?_ | refine Z1 ?_ _)); exact BK143.out) hb); have n1_ := Aside0.mk (Z40 (g := gb146) (o := .cells #[.int .i64 0, .string (⟨#[]⟩ : ByteArray), .int .u32 0, .bool false, .int .i64 0, .int .i64 0] 24 (0, 0)) (by (with_reducible repeat (first | refine Z0 ?_ _ | refine Z3 ?_ | refine Z1 ?_ _)); exact BK146.out) hb); have n2_ := Aside0.mk (Z25 (by repeat (first | (with_reducible first | exact HB.out | apply Z7 | apply Z4 | apply Z6 | refine Z8 ?_ GE143.out | refine Z8 ?_ GE146.out) | exact HB.out)) hb); clear BK143; clear BK146; clear HB; have BK143 := n0_; have BK146 := n1_; have HB := n2_; clear n0_ n1_ n2_; (try clear hb); (try clear hb2); (try clear hk); (try clear hi); have hnb53 := NB146_143.out; have hnc53 := NB143_146.out; have hcz54_0 : w52.cell? ⟨gb146, 0, none⟩ = some (.int .i64 0) := (Z5 BK146.out 0).trans rfl; have hcz54_1 : w52.cell? ⟨gb146, 1, none⟩ = some (.string (⟨#[]⟩ : ByteArray)) := (Z5 BK146.out 1).trans rfl; have hcz54_2 : w52.cell? ⟨gb146, 2, none⟩ = some (.int .u32 0) := (Z5 BK146.out 2).trans rfl; have hcz54_3 : w52.cell? ⟨gb146, 3, none⟩ = some (.bool false) := (Z5 BK146.out 3).trans rfl; have hcz54_4 : w52.cell? ⟨gb146, 4, none⟩ = some (.int .i64 0) := (Z5 BK146.out 4).trans rfl; have hcz54_5 : w52.cell? ⟨gb146, 5, none⟩ = some (.int .i64 0) := (Z5 BK146.out 5).trans rfl; have hfz54_0 := Z2 BK146.out 0; have hfz54_1 := Z2 BK146.out 1; have hfz54_2 := Z2 BK146.out 2; have hfz54_3 := Z2 BK146.out 3; have hfz54_4 := Z2 BK146.out 4; have hfz54_5 := Z2 BK146.out 5; have hcz55_0 : w52.cell? ⟨gb143, 0, none⟩ = some (.int .i64 0) := (Z5 BK143.out 0).trans rfl; have hcz55_1 : w52.cell? ⟨gb143, 1, none⟩ = some (.string (⟨#[]⟩ : ByteArray)) := (Z5 BK143.out 1).trans rfl; have hcz55_2 : w52.cell? ⟨gb143, 2, none⟩ = some (.int .u32 0) := (Z5 BK143.out 2).trans rfl; have hcz55_3 : w52.cell? ⟨gb143, 3, none⟩ = some (.bool false) := (Z5 BK143.out 3).trans rfl; have hcz55_4 : w52.cell? ⟨gb143, 4, none⟩ = some (.int .i64 0) := (Z5 BK143.out 4).trans rfl; have hcz55_5 : w52.cell? ⟨gb143, 5, none⟩ = some (.int .i64 0) := (Z5 BK143.out 5).trans rfl; have hfz55_0 := Z2 BK143.out 0; have hfz55_1 := Z2 BK143.out 1; have hfz55_2 := Z2 BK143.out 2; have hfz55_3 := Z2 BK143.out 3; have hfz55_4 := Z2 BK143.out 4; have hfz55_5 := Z2 BK143.out 5))
                       refine bodyPost_ret (Z62 rfl _ _ gb143 24 #[.int .i64 0, .string (⟨#[]⟩ : ByteArray), .int .u32 0, .bool false, .int .i64 0, .int .i64 0] (0, 0) _ rfl (by (with_reducible repeat (first | refine Z0 ?_ _ | refine Z3 ?_ | refine Z1 ?_ _)); refine Z9 (cs := #[.int .i64 0, .string (⟨#[]⟩ : ByteArray), .int .u32 0, .bool false, .int .i64 0, .int .i64 0]) ?_ 5 _ rfl; (with_reducible repeat (first | refine Z0 ?_ _ | refine Z3 ?_ | refine Z1 ?_ _)); refine Z9 (cs := #[.int .i64 0, .string (⟨#[]⟩ : ByteArray), .int .u32 0, .bool false, .int .i64 0, .int .i64 0]) ?_ 4 _ rfl; (with_reducible repeat (first | refine Z0 ?_ _ | refine Z3 ?_ | refine Z1 ?_ _)); refine Z9 (cs := #[.int .i64 0, .string (⟨#[]⟩ : ByteArray), .int .u32 0, .bool false, .int .i64 0, .int .i64 0]) ?_ 3 _ rfl; (with_reducible repeat (first | refine Z0 ?_ _ | refine Z3 ?_ | refine Z1 ?_ _)); refine Z9 (cs := #[.int .i64 0, .string (⟨#[]⟩ : ByteArray), .int .u32 0, .bool false, .int .i64 0, .int .i64 0]) ?_ 2 _ rfl; (with_reducible repeat (first | refine Z0 ?_ _ | refine Z3 ?_ | refine Z1 ?_ _)); refine Z9 (cs := #[.int .i64 0, .string (⟨#[]⟩ : ByteArray), .int .u32 0, .bool false, .int .i64 0, .int .i64 0]) ?_ 1 _ rfl; (with_reducible repeat (first | refine Z0 ?_ _ | refine Z3 ?_ | refine Z1 ?_ _)); refine Z9 (cs := #[.int .i64 0, .string (⟨#[]⟩ : ByteArray), .int .u32 0, .bool false, .int .i64 0, .int .i64 0]) ?_ 0 _ rfl; (with_reducible repeat (first | refine Z0 ?_ _ | refine Z3 ?_ | refine Z1 ?_ _)); refine Z22 ?_ NB143_146.out _; (with_reducible repeat (first | refine Z0 ?_ _ | refine Z3 ?_ | refine Z1 ?_ _)); refine Z22 ?_ NB143_146.out _; (with_reducible repeat (first | refine Z0 ?_ _ | refine Z3 ?_ | refine Z1 ?_ _)); refine Z22 ?_ NB143_146.out _; (with_reducible repeat (first | refine Z0 ?_ _ | refine Z3 ?_ | refine Z1 ?_ _)); refine Z22 ?_ NB143_146.out _; (with_reducible repeat (first | refine Z0 ?_ _ | refine Z3 ?_ | refine Z1 ?_ _)); refine Z22 ?_ NB143_146.out _; (with_reducible repeat (first | refine Z0 ?_ _ | refine Z3 ?_ | refine Z1 ?_ _)); refine Z22 ?_ NB143_146.out _; (with_reducible repeat (first | refine Z0 ?_ _ | refine Z3 ?_ | refine Z1 ?_ _)); exact BK143.out) Tryd.underlying24 rfl (by kernel_rfl)) rfl ?_
                       exact ⟨by first | rfl | (simp [Z16, Z15] <;> rfl) | (simp [*, Z16, Z15] <;> rfl), by repeat (first | (with_reducible first | exact HB.out | apply Z7 | apply Z4 | apply Z6 | refine Z8 ?_ GE143.out | refine Z8 ?_ GE146.out) | exact HB.out)⟩
                   · replace c45 := Bool.eq_false_iff.mpr c45
                     subst c45
                     have H1 : ((Z41.f kj40 a0 t144).bind fun bt169 => (if bt169.2.2.2.2.2.2 = true then (some (bt169.1, bt169.2.1, bt169.2.2.1, bt169.2.2.2.1, bt169.2.2.2.2.1, bt169.2.2.2.2.2.1, 0, 0)) else (some (0, (⟨#[]⟩ : ByteArray), 0, false, 0, 0, t144, 70)))) = some (r1, r2, r3, r4, r5, r6, r7, r8) := by rw [if_neg (show ¬ (false = true) by decide)] at H; exact H
                     clear H
                     have H := H1
                     clear H1
                     replace H := Option.bind_eq_some_iff.mp H
                     obtain ⟨⟨t169, t170, t171, t172, t173, t174, t175⟩, A560, H⟩ := H
                     replace H : (if t175 = true then (some (t169, t170, t171, t172, t173, t174, 0, 0)) else (some (0, (⟨#[]⟩ : ByteArray), 0, false, 0, 0, t144, 70))) = some (r1, r2, r3, r4, r5, r6, r7, r8) := H
                     have A56 := Aside0.mk A560
                     clear A560
                     by_cases c57 : t175 = true
                     · subst c57
                       have H1 : (some (t169, t170, t171, t172, t173, t174, 0, 0)) = some (r1, r2, r3, r4, r5, r6, r7, r8) := by rw [if_pos rfl] at H; exact H
                       clear H
                       have H := H1
                       clear H1
                       simp only [Option.some.injEq, Prod.mk.injEq] at H
                       obtain ⟨rfl, rfl, rfl, rfl, rfl, rfl, rfl, rfl⟩ := H
                       go_wp2_with (first | ((with_reducible refine Z14 (f := 27) rfl ?_); refine goesL_ (some 42) rfl rfl Tryd.func27 (by kernel_rfl) rfl #[.string a0, .int .i64 t144] rfl (by (try simp only [List.map_toArray, List.map_cons, List.map_nil]); first | done | rfl | (simp only [List.length_drop, List.length_take]; rfl)) ?_; (with_reducible refine (Z41.calls kj40 a0 t144 t169 t170 t171 t172 t173 t174 true _ ?side1 A56.out).mono ?_); (case side1 => refine PremW.below HG.out ?_; repeat (first | (with_reducible first | exact HB.out | apply Z7 | apply Z4 | apply Z6 | refine Z8 ?_ GE143.out | refine Z8 ?_ GE146.out) | exact HB.out)); rintro e w58 ⟨rfl, hb⟩; refine ⟨_, rfl, ?_⟩; have n0_ := Aside0.mk (Z40 (g := gb143) (o := .cells #[.int .i64 0, .string (⟨#[]⟩ : ByteArray), .int .u32 0, .bool false, .int .i64 0, .int .i64 0] 24 (0, 0)) (by (with_reducible repeat (first | refine Z0 ?_ _ | refine Z3 ?_ | refine Z1 ?_ _)); exact BK143.out) hb); have n1_ := Aside0.mk (Z40 (g := gb146) (o := .cells #[.int .i64 0, .string (⟨#[]⟩ : ByteArray), .int .u32 0, .bool false, .int .i64 0, .int .i64 0] 24 (0, 0)) (by (with_reducible repeat (first | refine Z0 ?_ _ | refine Z3 ?_ | refine Z1 ?_ _)); exact BK146.out) hb); have n2_ := Aside0.mk (Z25 (by repeat (first | (with_reducible first | exact HB.out | apply Z7 | apply Z4 | apply Z6 | refine Z8 ?_ GE143.out | refine Z8 ?_ GE146.out) | exact HB.out)) hb); clear BK143; clear BK146; clear HB; have BK143 := n0_; have BK146 := n1_; have HB := n2_; clear n0_ n1_ n2_; (try clear hb); (try clear hb2); (try clear hk); (try clear hi); have hnb59 := NB146_143.out; have hnc59 := NB143_146.out; have hcz60_0 : w58.cell? ⟨gb146, 0, none⟩ = some (.int .i64 0) := (Z5 BK146.out 0).trans rfl; have hcz60_1 : w58.cell? ⟨gb146, 1, none⟩ = some (.string (⟨#[]⟩ : ByteArray)) := (Z5 BK146.out 1).trans rfl; have hcz60_2 : w58.cell? ⟨gb146, 2, none⟩ = some (.int .u32 0) := (Z5 BK146.out 2).trans rfl; have hcz60_3 : w58.cell? ⟨gb146, 3, none⟩ = some (.bool false) := (Z5 BK146.out 3).trans rfl; have hcz60_4 : w58.cell? ⟨gb146, 4, none⟩ = some (.int .i64 0) := (Z5 BK146.out 4).trans rfl; have hcz60_5 : w58.cell? ⟨gb146, 5, none⟩ = some (.int .i64 0) := (Z5 BK146.out 5).trans rfl; have hfz60_0 := Z2 BK146.out 0; have hfz60_1 := Z2 BK146.out 1; have hfz60_2 := Z2 BK146.out 2; have hfz60_3 := Z2 BK146.out 3; have hfz60_4 := Z2 BK146.out 4; have hfz60_5 := Z2 BK146.out 5; have hcz61_0 : w58.cell? ⟨gb143, 0, none⟩ = some (.int .i64 0) := (Z5 BK143.out 0).trans rfl; have hcz61_1 : w58.cell? ⟨gb143, 1, none⟩ = some (.string (⟨#[]⟩ : ByteArray)) := (Z5 BK143.out 1).trans rfl; have hcz61_2 : w58.cell? ⟨gb143, 2, none⟩ = some (.int .u32 0) := (Z5 BK143.out 2).trans rfl; have hcz61_3 : w58.cell? ⟨gb143, 3, none⟩ = some (.bool false) := (Z5 BK143.out 3).trans rfl; have hcz61_4 : w58.cell? ⟨gb143, 4, none⟩ = some (.int .i64 0) := (Z5 BK143.out 4).trans rfl; have hcz61_5 : w58.cell? ⟨gb143, 5, none⟩ = some (.int .i64 0) := (Z5 BK143.out 5).trans rfl; have hfz61_0 := Z2 BK143.out 0; have hfz61_1 := Z2 BK143.out 1; have hfz61_2 := Z2 BK143.out 2; have hfz61_3 := Z2 BK143.out 3; have hfz61_4 := Z2 BK143.out 4; have hfz61_5 := Z2 BK143.out 5))
                       refine bodyPost_ret (Z62 rfl _ _ gb143 24 #[.int .i64 t169, .string t170, .int .u32 t171, .bool t172, .int .i64 t173, .int .i64 t174] (0, 0) _ rfl (by (with_reducible repeat (first | refine Z0 ?_ _ | refine Z3 ?_ | refine Z1 ?_ _)); refine Z9 (cs := #[.int .i64 t169, .string t170, .int .u32 t171, .bool t172, .int .i64 t173, .int .i64 0]) ?_ 5 _ rfl; (with_reducible repeat (first | refine Z0 ?_ _ | refine Z3 ?_ | refine Z1 ?_ _)); refine Z9 (cs := #[.int .i64 t169, .string t170, .int .u32 t171, .bool t172, .int .i64 0, .int .i64 0]) ?_ 4 _ rfl; (with_reducible repeat (first | refine Z0 ?_ _ | refine Z3 ?_ | refine Z1 ?_ _)); refine Z9 (cs := #[.int .i64 t169, .string t170, .int .u32 t171, .bool false, .int .i64 0, .int .i64 0]) ?_ 3 _ rfl; (with_reducible repeat (first | refine Z0 ?_ _ | refine Z3 ?_ | refine Z1 ?_ _)); refine Z9 (cs := #[.int .i64 t169, .string t170, .int .u32 0, .bool false, .int .i64 0, .int .i64 0]) ?_ 2 _ rfl; (with_reducible repeat (first | refine Z0 ?_ _ | refine Z3 ?_ | refine Z1 ?_ _)); refine Z9 (cs := #[.int .i64 t169, .string (⟨#[]⟩ : ByteArray), .int .u32 0, .bool false, .int .i64 0, .int .i64 0]) ?_ 1 _ rfl; (with_reducible repeat (first | refine Z0 ?_ _ | refine Z3 ?_ | refine Z1 ?_ _)); refine Z9 (cs := #[.int .i64 0, .string (⟨#[]⟩ : ByteArray), .int .u32 0, .bool false, .int .i64 0, .int .i64 0]) ?_ 0 _ rfl; (with_reducible repeat (first | refine Z0 ?_ _ | refine Z3 ?_ | refine Z1 ?_ _)); refine Z22 ?_ NB143_146.out _; (with_reducible repeat (first | refine Z0 ?_ _ | refine Z3 ?_ | refine Z1 ?_ _)); refine Z22 ?_ NB143_146.out _; (with_reducible repeat (first | refine Z0 ?_ _ | refine Z3 ?_ | refine Z1 ?_ _)); refine Z22 ?_ NB143_146.out _; (with_reducible repeat (first | refine Z0 ?_ _ | refine Z3 ?_ | refine Z1 ?_ _)); refine Z22 ?_ NB143_146.out _; (with_reducible repeat (first | refine Z0 ?_ _ | refine Z3 ?_ | refine Z1 ?_ _)); refine Z22 ?_ NB143_146.out _; (with_reducible repeat (first | refine Z0 ?_ _ | refine Z3 ?_ | refine Z1 ?_ _)); refine Z22 ?_ NB143_146.out _; (with_reducible repeat (first | refine Z0 ?_ _ | refine Z3 ?_ | refine Z1 ?_ _)); exact BK143.out) Tryd.underlying24 rfl (by kernel_rfl)) rfl ?_
                       exact ⟨by first | rfl | (simp [Z16, Z15] <;> rfl) | (simp [*, Z16, Z15] <;> rfl), by repeat (first | (with_reducible first | exact HB.out | apply Z7 | apply Z4 | apply Z6 | refine Z8 ?_ GE143.out | refine Z8 ?_ GE146.out) | exact HB.out)⟩
                     · replace c57 := Bool.eq_false_iff.mpr c57
                       subst c57
                       have H1 : (some (0, (⟨#[]⟩ : ByteArray), 0, false, 0, 0, t144, 70)) = some (r1, r2, r3, r4, r5, r6, r7, r8) := by rw [if_neg (show ¬ (false = true) by decide)] at H; exact H
                       clear H
                       have H := H1
                       clear H1
                       simp only [Option.some.injEq, Prod.mk.injEq] at H
                       obtain ⟨rfl, rfl, rfl, rfl, rfl, rfl, rfl, rfl⟩ := H
                       go_wp2_with (first | ((with_reducible refine Z14 (f := 27) rfl ?_); refine goesL_ (some 42) rfl rfl Tryd.func27 (by kernel_rfl) rfl #[.string a0, .int .i64 t144] rfl (by (try simp only [List.map_toArray, List.map_cons, List.map_nil]); first | done | rfl | (simp only [List.length_drop, List.length_take]; rfl)) ?_; (with_reducible refine (Z41.calls kj40 a0 t144 t169 t170 t171 t172 t173 t174 false _ ?side1 A56.out).mono ?_); (case side1 => refine PremW.below HG.out ?_; repeat (first | (with_reducible first | exact HB.out | apply Z7 | apply Z4 | apply Z6 | refine Z8 ?_ GE143.out | refine Z8 ?_ GE146.out) | exact HB.out)); rintro e w62 ⟨rfl, hb⟩; refine ⟨_, rfl, ?_⟩; have n0_ := Aside0.mk (Z40 (g := gb143) (o := .cells #[.int .i64 0, .string (⟨#[]⟩ : ByteArray), .int .u32 0, .bool false, .int .i64 0, .int .i64 0] 24 (0, 0)) (by (with_reducible repeat (first | refine Z0 ?_ _ | refine Z3 ?_ | refine Z1 ?_ _)); exact BK143.out) hb); have n1_ := Aside0.mk (Z40 (g := gb146) (o := .cells #[.int .i64 0, .string (⟨#[]⟩ : ByteArray), .int .u32 0, .bool false, .int .i64 0, .int .i64 0] 24 (0, 0)) (by (with_reducible repeat (first | refine Z0 ?_ _ | refine Z3 ?_ | refine Z1 ?_ _)); exact BK146.out) hb); have n2_ := Aside0.mk (Z25 (by repeat (first | (with_reducible first | exact HB.out | apply Z7 | apply Z4 | apply Z6 | refine Z8 ?_ GE143.out | refine Z8 ?_ GE146.out) | exact HB.out)) hb); clear BK143; clear BK146; clear HB; have BK143 := n0_; have BK146 := n1_; have HB := n2_; clear n0_ n1_ n2_; (try clear hb); (try clear hb2); (try clear hk); (try clear hi); have hnb63 := NB146_143.out; have hnc63 := NB143_146.out; have hcz64_0 : w62.cell? ⟨gb146, 0, none⟩ = some (.int .i64 0) := (Z5 BK146.out 0).trans rfl; have hcz64_1 : w62.cell? ⟨gb146, 1, none⟩ = some (.string (⟨#[]⟩ : ByteArray)) := (Z5 BK146.out 1).trans rfl; have hcz64_2 : w62.cell? ⟨gb146, 2, none⟩ = some (.int .u32 0) := (Z5 BK146.out 2).trans rfl; have hcz64_3 : w62.cell? ⟨gb146, 3, none⟩ = some (.bool false) := (Z5 BK146.out 3).trans rfl; have hcz64_4 : w62.cell? ⟨gb146, 4, none⟩ = some (.int .i64 0) := (Z5 BK146.out 4).trans rfl; have hcz64_5 : w62.cell? ⟨gb146, 5, none⟩ = some (.int .i64 0) := (Z5 BK146.out 5).trans rfl; have hfz64_0 := Z2 BK146.out 0; have hfz64_1 := Z2 BK146.out 1; have hfz64_2 := Z2 BK146.out 2; have hfz64_3 := Z2 BK146.out 3; have hfz64_4 := Z2 BK146.out 4; have hfz64_5 := Z2 BK146.out 5; have hcz65_0 : w62.cell? ⟨gb143, 0, none⟩ = some (.int .i64 0) := (Z5 BK143.out 0).trans rfl; have hcz65_1 : w62.cell? ⟨gb143, 1, none⟩ = some (.string (⟨#[]⟩ : ByteArray)) := (Z5 BK143.out 1).trans rfl; have hcz65_2 : w62.cell? ⟨gb143, 2, none⟩ = some (.int .u32 0) := (Z5 BK143.out 2).trans rfl; have hcz65_3 : w62.cell? ⟨gb143, 3, none⟩ = some (.bool false) := (Z5 BK143.out 3).trans rfl; have hcz65_4 : w62.cell? ⟨gb143, 4, none⟩ = some (.int .i64 0) := (Z5 BK143.out 4).trans rfl; have hcz65_5 : w62.cell? ⟨gb143, 5, none⟩ = some (.int .i64 0) := (Z5 BK143.out 5).trans rfl; have hfz65_0 := Z2 BK143.out 0; have hfz65_1 := Z2 BK143.out 1; have hfz65_2 := Z2 BK143.out 2; have hfz65_3 := Z2 BK143.out 3; have hfz65_4 := Z2 BK143.out 4; have hfz65_5 := Z2 BK143.out 5))
                       refine bodyPost_ret (Z62 rfl _ _ gb143 24 #[.int .i64 0, .string (⟨#[]⟩ : ByteArray), .int .u32 0, .bool false, .int .i64 0, .int .i64 0] (0, 0) _ rfl (by (with_reducible repeat (first | refine Z0 ?_ _ | refine Z3 ?_ | refine Z1 ?_ _)); refine Z9 (cs := #[.int .i64 0, .string (⟨#[]⟩ : ByteArray), .int .u32 0, .bool false, .int .i64 0, .int .i64 0]) ?_ 5 _ rfl; (with_reducible repeat (first | refine Z0 ?_ _ | refine Z3 ?_ | refine Z1 ?_ _)); refine Z9 (cs := #[.int .i64 0, .string (⟨#[]⟩ : ByteArray), .int .u32 0, .bool false, .int .i64 0, .int .i64 0]) ?_ 4 _ rfl; (with_reducible repeat (first | refine Z0 ?_ _ | refine Z3 ?_ | refine Z1 ?_ _)); refine Z9 (cs := #[.int .i64 0, .string (⟨#[]⟩ : ByteArray), .int .u32 0, .bool false, .int .i64 0, .int .i64 0]) ?_ 3 _ rfl; (with_reducible repeat (first | refine Z0 ?_ _ | refine Z3 ?_ | refine Z1 ?_ _)); refine Z9 (cs := #[.int .i64 0, .string (⟨#[]⟩ : ByteArray), .int .u32 0, .bool false, .int .i64 0, .int .i64 0]) ?_ 2 _ rfl; (with_reducible repeat (first | refine Z0 ?_ _ | refine Z3 ?_ | refine Z1 ?_ _)); refine Z9 (cs := #[.int .i64 0, .string (⟨#[]⟩ : ByteArray), .int .u32 0, .bool false, .int .i64 0, .int .i64 0]) ?_ 1 _ rfl; (with_reducible repeat (first | refine Z0 ?_ _ | refine Z3 ?_ | refine Z1 ?_ _)); refine Z9 (cs := #[.int .i64 0, .string (⟨#[]⟩ : ByteArray), .int .u32 0, .bool false, .int .i64 0, .int .i64 0]) ?_ 0 _ rfl; (with_reducible repeat (first | refine Z0 ?_ _ | refine Z3 ?_ | refine Z1 ?_ _)); refine Z22 ?_ NB143_146.out _; (with_reducible repeat (first | refine Z0 ?_ _ | refine Z3 ?_ | refine Z1 ?_ _)); refine Z22 ?_ NB143_146.out _; (with_reducible repeat (first | refine Z0 ?_ _ | refine Z3 ?_ | refine Z1 ?_ _)); refine Z22 ?_ NB143_146.out _; (with_reducible repeat (first | refine Z0 ?_ _ | refine Z3 ?_ | refine Z1 ?_ _)); refine Z22 ?_ NB143_146.out _; (with_reducible repeat (first | refine Z0 ?_ _ | refine Z3 ?_ | refine Z1 ?_ _)); refine Z22 ?_ NB143_146.out _; (with_reducible repeat (first | refine Z0 ?_ _ | refine Z3 ?_ | refine Z1 ?_ _)); refine Z22 ?_ NB143_146.out _; (with_reducible repeat (first | refine Z0 ?_ _ | refine Z3 ?_ | refine Z1 ?_ _)); exact BK143.out) Tryd.underlying24 rfl (by kernel_rfl)) rfl ?_
                       exact ⟨by first | rfl | (simp [Z16, Z15] <;> rfl) | (simp [*, Z16, Z15] <;> rfl), by repeat (first | (with_reducible first | exact HB.out | apply Z7 | apply Z4 | apply Z6 | refine Z8 ?_ GE143.out | refine Z8 ?_ GE146.out) | exact HB.out)⟩
           · rw [if_neg c14] at H
             exact absurd H (by simp)
         · rw [if_neg c13] at H
           exact absurd H (by simp)
     · replace c9 := Bool.eq_false_iff.mpr c9
       subst c9
       have H1 : (some (0, (⟨#[]⟩ : ByteArray), 0, false, 0, 0, t144, 70)) = some (r1, r2, r3, r4, r5, r6, r7, r8) := by rw [if_neg (show ¬ (false = true) by decide)] at H; exact H
       clear H
       have H := H1
       clear H1
       simp only [Option.some.injEq, Prod.mk.injEq] at H
       obtain ⟨rfl, rfl, rfl, rfl, rfl, rfl, rfl, rfl⟩ := H
       go_wp2_with (first | ((with_reducible refine Z14 (f := 21) rfl ?_); refine goesL_ (some 22) rfl rfl Tryd.func21 (by kernel_rfl) rfl #[.string a0, .int .i64 a1] rfl (by (try simp only [List.map_toArray, List.map_cons, List.map_nil]); first | done | rfl | (simp only [List.length_drop, List.length_take]; rfl)) ?_; (with_reducible refine (Z32.calls kj2 a0 a1 t144 false _ ?side1 A8.out).mono ?_); (case side1 => refine PremW.below HG.out ?_; repeat (first | (with_reducible first | exact HB.out | apply Z7 | apply Z4 | apply Z6 | refine Z8 ?_ GE143.out) | exact HB.out)); rintro e w66 ⟨rfl, hb⟩; refine ⟨_, rfl, ?_⟩; have n0_ := Aside0.mk (Z40 (g := gb143) (o := .cells #[.int .i64 0, .string (⟨#[]⟩ : ByteArray), .int .u32 0, .bool false, .int .i64 0, .int .i64 0] 24 (0, 0)) (by (with_reducible repeat (first | refine Z0 ?_ _ | refine Z3 ?_ | refine Z1 ?_ _)); exact BK143.out) hb); have n1_ := Aside0.mk (Z25 (by repeat (first | (with_reducible first | exact HB.out | apply Z7 | apply Z4 | apply Z6 | refine Z8 ?_ GE143.out) | exact HB.out)) hb); clear BK143; clear HB; have BK143 := n0_; have HB := n1_; clear n0_ n1_; (try clear hb); (try clear hb2); (try clear hk); (try clear hi); have hcz67_0 : w66.cell? ⟨gb143, 0, none⟩ = some (.int .i64 0) := (Z5 BK143.out 0).trans rfl; have hcz67_1 : w66.cell? ⟨gb143, 1, none⟩ = some (.string (⟨#[]⟩ : ByteArray)) := (Z5 BK143.out 1).trans rfl; have hcz67_2 : w66.cell? ⟨gb143, 2, none⟩ = some (.int .u32 0) := (Z5 BK143.out 2).trans rfl; have hcz67_3 : w66.cell? ⟨gb143, 3, none⟩ = some (.bool false) := (Z5 BK143.out 3).trans rfl; have hcz67_4 : w66.cell? ⟨gb143, 4, none⟩ = some (.int .i64 0) := (Z5 BK143.out 4).trans rfl; have hcz67_5 : w66.cell? ⟨gb143, 5, none⟩ = some (.int .i64 0) := (Z5 BK143.out 5).trans rfl; have hfz67_0 := Z2 BK143.out 0; have hfz67_1 := Z2 BK143.out 1; have hfz67_2 := Z2 BK143.out 2; have hfz67_3 := Z2 BK143.out 3; have hfz67_4 := Z2 BK143.out 4; have hfz67_5 := Z2 BK143.out 5))
       refine bodyPost_ret (Z62 rfl _ _ gb143 24 #[.int .i64 0, .string (⟨#[]⟩ : ByteArray), .int .u32 0, .bool false, .int .i64 0, .int .i64 0] (0, 0) _ rfl (by (with_reducible repeat (first | refine Z0 ?_ _ | refine Z3 ?_ | refine Z1 ?_ _)); refine Z9 (cs := #[.int .i64 0, .string (⟨#[]⟩ : ByteArray), .int .u32 0, .bool false, .int .i64 0, .int .i64 0]) ?_ 5 _ rfl; (with_reducible repeat (first | refine Z0 ?_ _ | refine Z3 ?_ | refine Z1 ?_ _)); refine Z9 (cs := #[.int .i64 0, .string (⟨#[]⟩ : ByteArray), .int .u32 0, .bool false, .int .i64 0, .int .i64 0]) ?_ 4 _ rfl; (with_reducible repeat (first | refine Z0 ?_ _ | refine Z3 ?_ | refine Z1 ?_ _)); refine Z9 (cs := #[.int .i64 0, .string (⟨#[]⟩ : ByteArray), .int .u32 0, .bool false, .int .i64 0, .int .i64 0]) ?_ 3 _ rfl; (with_reducible repeat (first | refine Z0 ?_ _ | refine Z3 ?_ | refine Z1 ?_ _)); refine Z9 (cs := #[.int .i64 0, .string (⟨#[]⟩ : ByteArray), .int .u32 0, .bool false, .int .i64 0, .int .i64 0]) ?_ 2 _ rfl; (with_reducible repeat (first | refine Z0 ?_ _ | refine Z3 ?_ | refine Z1 ?_ _)); refine Z9 (cs := #[.int .i64 0, .string (⟨#[]⟩ : ByteArray), .int .u32 0, .bool false, .int .i64 0, .int .i64 0]) ?_ 1 _ rfl; (with_reducible repeat (first | refine Z0 ?_ _ | refine Z3 ?_ | refine Z1 ?_ _)); refine Z9 (cs := #[.int .i64 0, .string (⟨#[]⟩ : ByteArray), .int .u32 0, .bool false, .int .i64 0, .int .i64 0]) ?_ 0 _ rfl; (with_reducible repeat (first | refine Z0 ?_ _ | refine Z3 ?_ | refine Z1 ?_ _)); exact BK143.out) Tryd.underlying24 rfl (by kernel_rfl)) rfl ?_
       exact ⟨by first | rfl | (simp [Z16, Z15] <;> rfl) | (simp [*, Z16, Z15] <;> rfl), by repeat (first | (with_reducible first | exact HB.out | apply Z7 | apply Z4 | apply Z6 | refine Z8 ?_ GE143.out) | exact HB.out)⟩
end Go.Proofs.YtbmfadmoficfiaaDoor.Q
namespace Go.Proofs.YtbmfadmoficfiaaDoor.Q
open Go.RowKit Go.Proofs.YtbmfadmoficfiaaDoorW.PrintWords Go.Proofs.YtbmfadmoficfiaaDoorW.PrintLast Go.Proofs.YtbmfadmoficfiaaDoorW.PrintMore
attribute [local go_sem] Z56 Z54 Z61 Z60 Z49 Z48 Z55 Z53
set_option linter.unusedVariables false
set_option linter.unusedSimpArgs false
def Z44.l0 : Nat → ByteArray → List (S24) → Int → Option ((List (S24)) × Int × Int)
 | 0, _, _, _ => none
 | k + 1, x0, x5, x6 => (Z29.f k x0 x6).bind fun bt258 => (if bt258.2.2.2.2.2.2.2 = 0 then (if x5.length < 2932031007402 then ((some (x5 ++ [(⟨bt258.1, bt258.2.1, bt258.2.2.1, bt258.2.2.2.1, bt258.2.2.2.2.1, bt258.2.2.2.2.2.1⟩ : S24)] : List (S24))).bind fun y267 => (if bt258.1 = 1 then (some (y267, 0, 0)) else (Z44.l0 k x0 y267 bt258.2.2.2.2.2.1))) else (none)) else (some (([] : List (S24)), bt258.2.2.2.2.2.2.1, bt258.2.2.2.2.2.2.2)))
def Z44.f (k : Nat) (a0 : ByteArray) : Option ((List (S24)) × Int × Int) := if (a0.size : Int) > 65536 then (some (([] : List (S24)), 0, 3)) else (Z44.l0 k a0 ([] : List (S24)) 0)
theorem Z44.mono_l : ∀ k, (∀ y0 y1 y2, LeO (Z44.l0 k y0 y1 y2) (Z44.l0 (k + 1) y0 y1 y2))
 | 0 => fun _ _ _ r h => by simp [Z44.l0] at h
 | k + 1 => by
  have ih0 := Z44.mono_l k
  · intro y0 y1 y2
    unfold Z44.l0
    repeat' first
    | (with_reducible exact ih0 _ _ _)
    | (with_reducible exact Z29.mono _ _ _)
    | (with_reducible exact LeO.refl _)
    | (with_reducible exact LeO.none _)
    | (with_reducible refine LeO.ite ?_ ?_)
    | (with_reducible refine LeO.bind ?_ (fun _ => ?_))
    | exact ih0 _ _ _
    | exact Z29.mono _ _ _
    | exact LeO.none _
    | refine LeO.ite ?_ ?_
    | refine LeO.bind ?_ (fun _ => ?_)
theorem Z44.mono : ∀ a0 k, LeO (Z44.f k a0) (Z44.f (k + 1) a0) := by
 intro a0 k
 have ih0 := Z44.mono_l k
 unfold Z44.f
 repeat' first
  | (with_reducible exact ih0 _ _ _)
  | (with_reducible exact Z29.mono _ _ _)
  | (with_reducible exact LeO.refl _)
  | (with_reducible exact LeO.none _)
  | (with_reducible refine LeO.ite ?_ ?_)
  | (with_reducible refine LeO.bind ?_ (fun _ => ?_))
  | exact ih0 _ _ _
  | exact Z29.mono _ _ _
  | exact LeO.none _
  | refine LeO.ite ?_ ?_
  | refine LeO.bind ?_ (fun _ => ?_)
set_option maxHeartbeats 8000000 in
set_option maxRecDepth 100000 in
theorem Z44.calls (k : Nat) (a0 : ByteArray) (r1 : List (S24)) (r2 : Int) (r3 : Int) (w : World) (hG : PremW w) (h : Z44.f k a0 = some (r1, r2, r3)) :
 Calls Tryd.prog 12 #[.string a0] w fun e w' => ∃ v0_ : Value, e = .returned (.tuple #[v0_, .int .i64 r2, .int .i64 r3]) ∧ Kd.R k24 24 w' w.heap.size (fun _ => True) v0_ r1 ∧ Below w.heap.size w w' := by
 have hu24 := Tryd.underlying24
 have HG := Aside0.mk hG
 clear hG
 have HB := Aside0.mk (Below.refl w.heap.size w)
 have H : (if (a0.size : Int) > 65536 then (some (([] : List (S24)), 0, 3)) else (Z44.l0 k a0 ([] : List (S24)) 0)) = some (r1, r2, r3) := h
 clear h
 by_cases c2 : (a0.size : Int) > 65536
 · rw [if_pos c2] at H
   have c2b0 : decide (65536 < (a0.size : Int)) = true := decide_eq_true c2
   have c2b1 : decide (65536 < a0.size) = true := decide_eq_true (by omega)
   clear c2
   simp only [Option.some.injEq, Prod.mk.injEq] at H
   obtain ⟨rfl, rfl, rfl⟩ := H
   go_enter Tryd.func12, Tryd.ntmps12
   go_wp2
   go_ret3
   exact ⟨_, by first | rfl | (simp [Z16, Z15] <;> rfl) | (simp [*, Z16, Z15] <;> rfl), by first | exact Kd.R_nil _ _ _ _ _ | exact Kd.N_nil _ _ _ _ _ | exact Kd.V_nil _ _ _ _ _ | exact Kd.Q_nil _ _ _ _ _ | exact Kd.S_nil _ _ _ _ _, by repeat (first | (with_reducible first | exact HB.out | apply Z7 | apply Z4 | apply Z6) | exact HB.out)⟩
 · rw [if_neg c2] at H
   have c2b0 : decide (65536 < (a0.size : Int)) = false := decide_eq_false c2
   have c2b1 : decide (65536 < a0.size) = false := decide_eq_false (by omega)
   clear c2
   have H' := Aside0.mk H
   clear H
   go_enter Tryd.func12, Tryd.ntmps12
   go_wp2
   go_loopg [5, 6] k (fun kq v5 v6 w' => ∃ (x5_1 : List (S24)) (x6_1 : Int), v6 = .int .i64 x6_1 ∧ Aside0 (Z44.l0 kq a0 x5_1 x6_1 = some (r1, r2, r3)) ∧ Aside0 (kq ≤ k) ∧ Aside0 (Kd.R k24 24 w' w.heap.size (fun _ => True) v5 x5_1) ∧ Aside0 (Below w.heap.size w w'))
   case atStart => exact ⟨(([] : List (S24))), (0), (by first | rfl | (simp; done) | (simp [*]; done)), H', ⟨Nat.le_refl _⟩, ⟨by first | exact Kd.R_nil _ _ _ _ _ | exact Kd.N_nil _ _ _ _ _ | exact Kd.V_nil _ _ _ _ _ | exact Kd.Q_nil _ _ _ _ _ | exact Kd.S_nil _ _ _ _ _⟩, ⟨by repeat (first | (with_reducible first | exact HB.out | apply Z7 | apply Z4 | apply Z6) | exact HB.out)⟩⟩
   case round =>
    clear H'
    try clear c2
    try clear c2b0
    try clear c2b1
    obtain ⟨x5_1, x6_1, rfl, HA, HK1, HO_5, HB⟩ := hrel
    cases gk with
    | zero => exact absurd HA.out (by simp [Z44.l0])
    | succ k1 =>
     have H := HA.out
     clear HA
     simp only [Z44.l0] at H
     replace H := Option.bind_eq_some_iff.mp H
     obtain ⟨⟨t258, t259, t260, t261, t262, t263, t264, t265⟩, A30, H⟩ := H
     replace H : (if t265 = 0 then (if x5_1.length < 2932031007402 then ((some (x5_1 ++ [(⟨t258, t259, t260, t261, t262, t263⟩ : S24)] : List (S24))).bind fun y267 => (if t258 = 1 then (some (y267, 0, 0)) else (Z44.l0 k1 a0 y267 t263))) else (none)) else (some (([] : List (S24)), t264, t265))) = some (r1, r2, r3) := H
     have A3 := Aside0.mk A30
     clear A30
     by_cases c4 : t265 = 0
     · rw [if_pos c4] at H
       have c4b0 : (t265 == 0) = true := beq_iff_eq.mpr c4
       have c4b1 : (t265 != 0) = false := bne_eq_false_iff_eq.mpr c4
       clear c4
       by_cases c5 : x5_1.length < 2932031007402
       · rw [if_pos c5] at H
         have LMc5 := Aside0.mk c5
         clear c5
         obtain ⟨y267, hy267⟩ : ∃ y_ : List (S24), y_ = (x5_1 ++ [(⟨t258, t259, t260, t261, t262, t263⟩ : S24)]) := ⟨_, rfl⟩
         replace H : (if t258 = 1 then (some (y267, 0, 0)) else (Z44.l0 k1 a0 y267 t263)) = some (r1, r2, r3) := by first | (rw [hy267]; with_reducible exact H) | (have H2_ := (Option.bind_some _ _).symm.trans H; rw [hy267]; with_reducible exact H2_) | (have H2_ := (Option.bind_some _ _).symm.trans H; with_reducible exact H2_) | with_reducible exact H | (rw [hy267]; exact H) | exact H
         have Ny267 := Aside0.mk hy267
         clear hy267
         by_cases c6 : t258 = 1
         · rw [if_pos c6] at H
           have c6b0 : (t258 == 1) = true := beq_iff_eq.mpr c6
           have c6b1 : (t258 != 1) = false := bne_eq_false_iff_eq.mpr c6
           clear c6
           simp only [Option.some.injEq, Prod.mk.injEq] at H
           obtain ⟨rfl, rfl, rfl⟩ := H
           go_wp2_with (first | ((with_reducible refine Z14 (f := 9) rfl ?_); refine goesL_ (some 16) rfl rfl Tryd.func9 (by kernel_rfl) rfl #[.string a0, .int .i64 x6_1] rfl (by (try simp only [List.map_toArray, List.map_cons, List.map_nil]); first | done | rfl | (simp only [List.length_drop, List.length_take]; rfl)) ?_; (with_reducible refine (Z29.calls k1 a0 x6_1 t258 t259 t260 t261 t262 t263 t264 t265 _ ?side1 A3.out).mono ?_); (case side1 => refine PremW.below HG.out ?_; repeat (first | (with_reducible first | exact HB.out | apply Z7 | apply Z4 | apply Z6) | exact HB.out)); rintro e w7 ⟨rfl, hb⟩; refine ⟨_, rfl, ?_⟩; have n0_ := Aside0.mk (Kd.R_below (by (with_reducible repeat (first | apply Kd.R_alloc | apply Kd.R_drewN | apply Kd.R_drew)); exact HO_5.out) hb); have n1_ := Aside0.mk (Z25 (by repeat (first | (with_reducible first | exact HB.out | apply Z7 | apply Z4 | apply Z6) | exact HB.out)) hb); clear HO_5; clear HB; have HO_5 := n0_; have HB := n1_; clear n0_ n1_; (try clear hb); (try clear hb2); (try clear hk); (try clear hi)) | ((with_reducible refine Z52 (N := 7) rfl ?_); refine Z51 ?hg (N := 7) ?hd (cs := #[.int .i64 0, .string (⟨#[]⟩ : ByteArray), .int .u32 0, .bool false, .int .i64 0, .int .i64 0]) (t := 24) ?hr ?_; (case hd => rfl); (case hg => rfl); (case hr => first | (go_simp; done) | (go_simp; rfl)); intro gb266 hg w8 hbox hb; have n0_ := Aside0.mk (Kd.R_below (Kd.R_elderB (by (with_reducible repeat (first | apply Kd.R_alloc | apply Kd.R_drewN | apply Kd.R_drew)); exact HO_5.out) gb266 (Nat.le_of_eq hg.symm)) hb); have n1_ := Aside0.mk (Z25 (by repeat (first | (with_reducible first | exact HB.out | apply Z7 | apply Z4 | apply Z6) | exact HB.out)) hb); have n2_ := Aside0.mk (hbox); have n3_ := Aside0.mk ((by rw [hg]; exact (Z27 (by repeat (first | (with_reducible first | exact HB.out | apply Z7 | apply Z4 | apply Z6) | exact HB.out))) : w.heap.size ≤ gb266)); have n4_ := Aside0.mk ((by rw [hg]; exact (Z27 (by repeat (first | (with_reducible first | exact HB.out | apply Z7 | apply Z4 | apply Z6) | exact HB.out))) : w.heap.size ≤ gb266)); clear HO_5; clear HB; have HO_5 := n0_; have HB := n1_; have BK266 := n2_; have GW266 := n3_; have GE266 := n4_; clear n0_ n1_ n2_ n3_ n4_; clear hb hbox hg; have hcz9_0 : w8.cell? ⟨gb266, 0, none⟩ = some (.int .i64 0) := (Z5 BK266.out 0).trans rfl; have hcz9_1 : w8.cell? ⟨gb266, 1, none⟩ = some (.string (⟨#[]⟩ : ByteArray)) := (Z5 BK266.out 1).trans rfl; have hcz9_2 : w8.cell? ⟨gb266, 2, none⟩ = some (.int .u32 0) := (Z5 BK266.out 2).trans rfl; have hcz9_3 : w8.cell? ⟨gb266, 3, none⟩ = some (.bool false) := (Z5 BK266.out 3).trans rfl; have hcz9_4 : w8.cell? ⟨gb266, 4, none⟩ = some (.int .i64 0) := (Z5 BK266.out 4).trans rfl; have hcz9_5 : w8.cell? ⟨gb266, 5, none⟩ = some (.int .i64 0) := (Z5 BK266.out 5).trans rfl; have hfz9_0 := Z2 BK266.out 0; have hfz9_1 := Z2 BK266.out 1; have hfz9_2 := Z2 BK266.out 2; have hfz9_3 := Z2 BK266.out 3; have hfz9_4 := Z2 BK266.out 4; have hfz9_5 := Z2 BK266.out 5) | ((with_reducible refine Z69 (b := .append) (xs := #[.tmp 24, .tmp 26]) rfl ?_); at_builtin; refine Kd.R_append k24 (w0 := w) w.heap.size rfl (.tmp 24) (.tmp 26) 30 24 (.agg #[(.int .i64 0), (.string ⟨#[]⟩), (.int .u32 0), (.bool false), (.int .i64 0), (.int .i64 0)]) 48 rfl Tryd.underlying30 info24 rfl (by decide) (by omega) u5 x5_1 (⟨t258, t259, t260, t261, t262, t263⟩ : S24) [.int .i64 t258, .string t259, .int .u32 t260, .bool t261, .int .i64 t262, .int .i64 t263] (fun k_ => k_ ≠ gb266) (fun _ => False) rfl (by first | (go_simp; done) | (go_simp; rfl)) ?aP (fun _ hk => hk.elim) ?aF ?aO ?aB ?aS ?aL ?_; (case aP => exact k24_mkM _ _ _ (⟨t258, t259, t260, t261, t262, t263⟩ : S24)); (case aB => exact (by repeat (first | (with_reducible first | exact HB.out | apply Z7 | apply Z4 | apply Z6 | refine Z8 ?_ GE266.out) | exact HB.out))); (case aF => exact (fun k_ hk => Kd.freshB (g := gb266) (o := .cells #[.int .i64 t258, .string t259, .int .u32 t260, .bool t261, .int .i64 t262, .int .i64 t263] 24 (0, 0)) (by (with_reducible repeat (first | refine Z0 ?_ _ | refine Z3 ?_ | refine Z1 ?_ _)); refine Z9 (cs := #[.int .i64 t258, .string t259, .int .u32 t260, .bool t261, .int .i64 t262, .int .i64 0]) ?_ 5 _ rfl; (with_reducible repeat (first | refine Z0 ?_ _ | refine Z3 ?_ | refine Z1 ?_ _)); refine Z9 (cs := #[.int .i64 t258, .string t259, .int .u32 t260, .bool t261, .int .i64 0, .int .i64 0]) ?_ 4 _ rfl; (with_reducible repeat (first | refine Z0 ?_ _ | refine Z3 ?_ | refine Z1 ?_ _)); refine Z9 (cs := #[.int .i64 t258, .string t259, .int .u32 t260, .bool false, .int .i64 0, .int .i64 0]) ?_ 3 _ rfl; (with_reducible repeat (first | refine Z0 ?_ _ | refine Z3 ?_ | refine Z1 ?_ _)); refine Z9 (cs := #[.int .i64 t258, .string t259, .int .u32 0, .bool false, .int .i64 0, .int .i64 0]) ?_ 2 _ rfl; (with_reducible repeat (first | refine Z0 ?_ _ | refine Z3 ?_ | refine Z1 ?_ _)); refine Z9 (cs := #[.int .i64 t258, .string (⟨#[]⟩ : ByteArray), .int .u32 0, .bool false, .int .i64 0, .int .i64 0]) ?_ 1 _ rfl; (with_reducible repeat (first | refine Z0 ?_ _ | refine Z3 ?_ | refine Z1 ?_ _)); refine Z9 (cs := #[.int .i64 0, .string (⟨#[]⟩ : ByteArray), .int .u32 0, .bool false, .int .i64 0, .int .i64 0]) ?_ 0 _ rfl; (with_reducible repeat (first | refine Z0 ?_ _ | refine Z3 ?_ | refine Z1 ?_ _)); exact BK266.out) k_ hk)); (case aO => exact (by (with_reducible repeat (first | apply Kd.R_alloc | apply Kd.R_drewN | apply Kd.R_drew)); exact Kd.R_mono (Kd.R_far (p := ⟨gb266, 5, none⟩) (Kd.R_far (p := ⟨gb266, 4, none⟩) (Kd.R_far (p := ⟨gb266, 3, none⟩) (Kd.R_far (p := ⟨gb266, 2, none⟩) (Kd.R_far (p := ⟨gb266, 1, none⟩) (Kd.R_far (p := ⟨gb266, 0, none⟩) (Kd.R_mono HO_5.out (fun k_ hk => (⟨hk, hk.2⟩ : _ ∧ k_ ≠ gb266))) (fun _ hk => hk.2) (.int .i64 t258)) (fun _ hk => hk.2) (.string t259)) (fun _ hk => hk.2) (.int .u32 t260)) (fun _ hk => hk.2) (.bool t261)) (fun _ hk => hk.2) (.int .i64 t262)) (fun _ hk => hk.2) (.int .i64 t263)) (fun _ hk => hk.1.2))); (case aS => exact (Z27 (by repeat (first | (with_reducible first | exact HB.out | apply Z7 | apply Z4 | apply Z6 | refine Z8 ?_ GE266.out) | exact HB.out)))); (case aL => have := LMc5.out; omega); intro v268 w10 ho hb hg hat; rw [← Ny267.out] at ho; have n0_ := Aside0.mk (Z89 (g := gb266) (o := .cells #[.int .i64 t258, .string t259, .int .u32 t260, .bool t261, .int .i64 t262, .int .i64 t263] 24 (0, 0)) (by (with_reducible repeat (first | refine Z0 ?_ _ | refine Z3 ?_ | refine Z1 ?_ _)); refine Z9 (cs := #[.int .i64 t258, .string t259, .int .u32 t260, .bool t261, .int .i64 t262, .int .i64 0]) ?_ 5 _ rfl; (with_reducible repeat (first | refine Z0 ?_ _ | refine Z3 ?_ | refine Z1 ?_ _)); refine Z9 (cs := #[.int .i64 t258, .string t259, .int .u32 t260, .bool t261, .int .i64 0, .int .i64 0]) ?_ 4 _ rfl; (with_reducible repeat (first | refine Z0 ?_ _ | refine Z3 ?_ | refine Z1 ?_ _)); refine Z9 (cs := #[.int .i64 t258, .string t259, .int .u32 t260, .bool false, .int .i64 0, .int .i64 0]) ?_ 3 _ rfl; (with_reducible repeat (first | refine Z0 ?_ _ | refine Z3 ?_ | refine Z1 ?_ _)); refine Z9 (cs := #[.int .i64 t258, .string t259, .int .u32 0, .bool false, .int .i64 0, .int .i64 0]) ?_ 2 _ rfl; (with_reducible repeat (first | refine Z0 ?_ _ | refine Z3 ?_ | refine Z1 ?_ _)); refine Z9 (cs := #[.int .i64 t258, .string (⟨#[]⟩ : ByteArray), .int .u32 0, .bool false, .int .i64 0, .int .i64 0]) ?_ 1 _ rfl; (with_reducible repeat (first | refine Z0 ?_ _ | refine Z3 ?_ | refine Z1 ?_ _)); refine Z9 (cs := #[.int .i64 0, .string (⟨#[]⟩ : ByteArray), .int .u32 0, .bool false, .int .i64 0, .int .i64 0]) ?_ 0 _ rfl; (with_reducible repeat (first | refine Z0 ?_ _ | refine Z3 ?_ | refine Z1 ?_ _)); exact BK266.out) hg (Kd.R_away HO_5.out (fun _ hk => hk.2))); have n1_ := Aside0.mk (hb); have n2_ := Aside0.mk (ho); clear BK266; clear HB; clear HO_5; have BK266 := n0_; have HB := n1_; have HO269 := n2_; clear n0_ n1_ n2_; clear ho hb hg hat; have hcz11_0 : w10.cell? ⟨gb266, 0, none⟩ = some (.int .i64 t258) := (Z5 BK266.out 0).trans rfl; have hcz11_1 : w10.cell? ⟨gb266, 1, none⟩ = some (.string t259) := (Z5 BK266.out 1).trans rfl; have hcz11_2 : w10.cell? ⟨gb266, 2, none⟩ = some (.int .u32 t260) := (Z5 BK266.out 2).trans rfl; have hcz11_3 : w10.cell? ⟨gb266, 3, none⟩ = some (.bool t261) := (Z5 BK266.out 3).trans rfl; have hcz11_4 : w10.cell? ⟨gb266, 4, none⟩ = some (.int .i64 t262) := (Z5 BK266.out 4).trans rfl; have hcz11_5 : w10.cell? ⟨gb266, 5, none⟩ = some (.int .i64 t263) := (Z5 BK266.out 5).trans rfl; have hfz11_0 := Z2 BK266.out 0; have hfz11_1 := Z2 BK266.out 1; have hfz11_2 := Z2 BK266.out 2; have hfz11_3 := Z2 BK266.out 3; have hfz11_4 := Z2 BK266.out 4; have hfz11_5 := Z2 BK266.out 5))
           go_ret3
           exact ⟨_, by first | rfl | (simp [Z16, Z15] <;> rfl) | (simp [*, Z16, Z15] <;> rfl), by (with_reducible repeat (first | apply Kd.R_alloc | apply Kd.R_drewN | apply Kd.R_drew)); exact Kd.R_mono HO269.out (fun _ hk => trivial), by repeat (first | (with_reducible first | exact HB.out | apply Z7 | apply Z4 | apply Z6 | refine Z8 ?_ GE266.out) | exact HB.out)⟩
         · rw [if_neg c6] at H
           have c6b0 : (t258 == 1) = false := beq_eq_false_iff_ne.mpr c6
           have c6b1 : (t258 != 1) = true := bne_iff_ne.mpr c6
           have H' := Aside0.mk H
           clear H
           go_wp2_with (first | ((with_reducible refine Z14 (f := 9) rfl ?_); refine goesL_ (some 16) rfl rfl Tryd.func9 (by kernel_rfl) rfl #[.string a0, .int .i64 x6_1] rfl (by (try simp only [List.map_toArray, List.map_cons, List.map_nil]); first | done | rfl | (simp only [List.length_drop, List.length_take]; rfl)) ?_; (with_reducible refine (Z29.calls k1 a0 x6_1 t258 t259 t260 t261 t262 t263 t264 t265 _ ?side1 A3.out).mono ?_); (case side1 => refine PremW.below HG.out ?_; repeat (first | (with_reducible first | exact HB.out | apply Z7 | apply Z4 | apply Z6) | exact HB.out)); rintro e w12 ⟨rfl, hb⟩; refine ⟨_, rfl, ?_⟩; have n0_ := Aside0.mk (Kd.R_below (by (with_reducible repeat (first | apply Kd.R_alloc | apply Kd.R_drewN | apply Kd.R_drew)); exact HO_5.out) hb); have n1_ := Aside0.mk (Z25 (by repeat (first | (with_reducible first | exact HB.out | apply Z7 | apply Z4 | apply Z6) | exact HB.out)) hb); clear HO_5; clear HB; have HO_5 := n0_; have HB := n1_; clear n0_ n1_; (try clear hb); (try clear hb2); (try clear hk); (try clear hi)) | ((with_reducible refine Z52 (N := 7) rfl ?_); refine Z51 ?hg (N := 7) ?hd (cs := #[.int .i64 0, .string (⟨#[]⟩ : ByteArray), .int .u32 0, .bool false, .int .i64 0, .int .i64 0]) (t := 24) ?hr ?_; (case hd => rfl); (case hg => rfl); (case hr => first | (go_simp; done) | (go_simp; rfl)); intro gb266 hg w13 hbox hb; have n0_ := Aside0.mk (Kd.R_below (Kd.R_elderB (by (with_reducible repeat (first | apply Kd.R_alloc | apply Kd.R_drewN | apply Kd.R_drew)); exact HO_5.out) gb266 (Nat.le_of_eq hg.symm)) hb); have n1_ := Aside0.mk (Z25 (by repeat (first | (with_reducible first | exact HB.out | apply Z7 | apply Z4 | apply Z6) | exact HB.out)) hb); have n2_ := Aside0.mk (hbox); have n3_ := Aside0.mk ((by rw [hg]; exact (Z27 (by repeat (first | (with_reducible first | exact HB.out | apply Z7 | apply Z4 | apply Z6) | exact HB.out))) : w.heap.size ≤ gb266)); have n4_ := Aside0.mk ((by rw [hg]; exact (Z27 (by repeat (first | (with_reducible first | exact HB.out | apply Z7 | apply Z4 | apply Z6) | exact HB.out))) : w.heap.size ≤ gb266)); clear HO_5; clear HB; have HO_5 := n0_; have HB := n1_; have BK266 := n2_; have GW266 := n3_; have GE266 := n4_; clear n0_ n1_ n2_ n3_ n4_; clear hb hbox hg; have hcz14_0 : w13.cell? ⟨gb266, 0, none⟩ = some (.int .i64 0) := (Z5 BK266.out 0).trans rfl; have hcz14_1 : w13.cell? ⟨gb266, 1, none⟩ = some (.string (⟨#[]⟩ : ByteArray)) := (Z5 BK266.out 1).trans rfl; have hcz14_2 : w13.cell? ⟨gb266, 2, none⟩ = some (.int .u32 0) := (Z5 BK266.out 2).trans rfl; have hcz14_3 : w13.cell? ⟨gb266, 3, none⟩ = some (.bool false) := (Z5 BK266.out 3).trans rfl; have hcz14_4 : w13.cell? ⟨gb266, 4, none⟩ = some (.int .i64 0) := (Z5 BK266.out 4).trans rfl; have hcz14_5 : w13.cell? ⟨gb266, 5, none⟩ = some (.int .i64 0) := (Z5 BK266.out 5).trans rfl; have hfz14_0 := Z2 BK266.out 0; have hfz14_1 := Z2 BK266.out 1; have hfz14_2 := Z2 BK266.out 2; have hfz14_3 := Z2 BK266.out 3; have hfz14_4 := Z2 BK266.out 4; have hfz14_5 := Z2 BK266.out 5) | ((with_reducible refine Z69 (b := .append) (xs := #[.tmp 24, .tmp 26]) rfl ?_); at_builtin; refine Kd.R_append k24 (w0 := w) w.heap.size rfl (.tmp 24) (.tmp 26) 30 24 (.agg #[(.int .i64 0), (.string ⟨#[]⟩), (.int .u32 0), (.bool false), (.int .i64 0), (.int .i64 0)]) 48 rfl Tryd.underlying30 info24 rfl (by decide) (by omega) u5 x5_1 (⟨t258, t259, t260, t261, t262, t263⟩ : S24) [.int .i64 t258, .string t259, .int .u32 t260, .bool t261, .int .i64 t262, .int .i64 t263] (fun k_ => k_ ≠ gb266) (fun _ => False) rfl (by first | (go_simp; done) | (go_simp; rfl)) ?aP (fun _ hk => hk.elim) ?aF ?aO ?aB ?aS ?aL ?_; (case aP => exact k24_mkM _ _ _ (⟨t258, t259, t260, t261, t262, t263⟩ : S24)); (case aB => exact (by repeat (first | (with_reducible first | exact HB.out | apply Z7 | apply Z4 | apply Z6 | refine Z8 ?_ GE266.out) | exact HB.out))); (case aF => exact (fun k_ hk => Kd.freshB (g := gb266) (o := .cells #[.int .i64 t258, .string t259, .int .u32 t260, .bool t261, .int .i64 t262, .int .i64 t263] 24 (0, 0)) (by (with_reducible repeat (first | refine Z0 ?_ _ | refine Z3 ?_ | refine Z1 ?_ _)); refine Z9 (cs := #[.int .i64 t258, .string t259, .int .u32 t260, .bool t261, .int .i64 t262, .int .i64 0]) ?_ 5 _ rfl; (with_reducible repeat (first | refine Z0 ?_ _ | refine Z3 ?_ | refine Z1 ?_ _)); refine Z9 (cs := #[.int .i64 t258, .string t259, .int .u32 t260, .bool t261, .int .i64 0, .int .i64 0]) ?_ 4 _ rfl; (with_reducible repeat (first | refine Z0 ?_ _ | refine Z3 ?_ | refine Z1 ?_ _)); refine Z9 (cs := #[.int .i64 t258, .string t259, .int .u32 t260, .bool false, .int .i64 0, .int .i64 0]) ?_ 3 _ rfl; (with_reducible repeat (first | refine Z0 ?_ _ | refine Z3 ?_ | refine Z1 ?_ _)); refine Z9 (cs := #[.int .i64 t258, .string t259, .int .u32 0, .bool false, .int .i64 0, .int .i64 0]) ?_ 2 _ rfl; (with_reducible repeat (first | refine Z0 ?_ _ | refine Z3 ?_ | refine Z1 ?_ _)); refine Z9 (cs := #[.int .i64 t258, .string (⟨#[]⟩ : ByteArray), .int .u32 0, .bool false, .int .i64 0, .int .i64 0]) ?_ 1 _ rfl; (with_reducible repeat (first | refine Z0 ?_ _ | refine Z3 ?_ | refine Z1 ?_ _)); refine Z9 (cs := #[.int .i64 0, .string (⟨#[]⟩ : ByteArray), .int .u32 0, .bool false, .int .i64 0, .int .i64 0]) ?_ 0 _ rfl; (with_reducible repeat (first | refine Z0 ?_ _ | refine Z3 ?_ | refine Z1 ?_ _)); exact BK266.out) k_ hk)); (case aO => exact (by (with_reducible repeat (first | apply Kd.R_alloc | apply Kd.R_drewN | apply Kd.R_drew)); exact Kd.R_mono (Kd.R_far (p := ⟨gb266, 5, none⟩) (Kd.R_far (p := ⟨gb266, 4, none⟩) (Kd.R_far (p := ⟨gb266, 3, none⟩) (Kd.R_far (p := ⟨gb266, 2, none⟩) (Kd.R_far (p := ⟨gb266, 1, none⟩) (Kd.R_far (p := ⟨gb266, 0, none⟩) (Kd.R_mono HO_5.out (fun k_ hk => (⟨hk, hk.2⟩ : _ ∧ k_ ≠ gb266))) (fun _ hk => hk.2) (.int .i64 t258)) (fun _ hk => hk.2) (.string t259)) (fun _ hk => hk.2) (.int .u32 t260)) (fun _ hk => hk.2) (.bool t261)) (fun _ hk => hk.2) (.int .i64 t262)) (fun _ hk => hk.2) (.int .i64 t263)) (fun _ hk => hk.1.2))); (case aS => exact (Z27 (by repeat (first | (with_reducible first | exact HB.out | apply Z7 | apply Z4 | apply Z6 | refine Z8 ?_ GE266.out) | exact HB.out)))); (case aL => have := LMc5.out; omega); intro v268 w15 ho hb hg hat; rw [← Ny267.out] at ho; have n0_ := Aside0.mk (Z89 (g := gb266) (o := .cells #[.int .i64 t258, .string t259, .int .u32 t260, .bool t261, .int .i64 t262, .int .i64 t263] 24 (0, 0)) (by (with_reducible repeat (first | refine Z0 ?_ _ | refine Z3 ?_ | refine Z1 ?_ _)); refine Z9 (cs := #[.int .i64 t258, .string t259, .int .u32 t260, .bool t261, .int .i64 t262, .int .i64 0]) ?_ 5 _ rfl; (with_reducible repeat (first | refine Z0 ?_ _ | refine Z3 ?_ | refine Z1 ?_ _)); refine Z9 (cs := #[.int .i64 t258, .string t259, .int .u32 t260, .bool t261, .int .i64 0, .int .i64 0]) ?_ 4 _ rfl; (with_reducible repeat (first | refine Z0 ?_ _ | refine Z3 ?_ | refine Z1 ?_ _)); refine Z9 (cs := #[.int .i64 t258, .string t259, .int .u32 t260, .bool false, .int .i64 0, .int .i64 0]) ?_ 3 _ rfl; (with_reducible repeat (first | refine Z0 ?_ _ | refine Z3 ?_ | refine Z1 ?_ _)); refine Z9 (cs := #[.int .i64 t258, .string t259, .int .u32 0, .bool false, .int .i64 0, .int .i64 0]) ?_ 2 _ rfl; (with_reducible repeat (first | refine Z0 ?_ _ | refine Z3 ?_ | refine Z1 ?_ _)); refine Z9 (cs := #[.int .i64 t258, .string (⟨#[]⟩ : ByteArray), .int .u32 0, .bool false, .int .i64 0, .int .i64 0]) ?_ 1 _ rfl; (with_reducible repeat (first | refine Z0 ?_ _ | refine Z3 ?_ | refine Z1 ?_ _)); refine Z9 (cs := #[.int .i64 0, .string (⟨#[]⟩ : ByteArray), .int .u32 0, .bool false, .int .i64 0, .int .i64 0]) ?_ 0 _ rfl; (with_reducible repeat (first | refine Z0 ?_ _ | refine Z3 ?_ | refine Z1 ?_ _)); exact BK266.out) hg (Kd.R_away HO_5.out (fun _ hk => hk.2))); have n1_ := Aside0.mk (hb); have n2_ := Aside0.mk (ho); clear BK266; clear HB; clear HO_5; have BK266 := n0_; have HB := n1_; have HO269 := n2_; clear n0_ n1_ n2_; clear ho hb hg hat; have hcz16_0 : w15.cell? ⟨gb266, 0, none⟩ = some (.int .i64 t258) := (Z5 BK266.out 0).trans rfl; have hcz16_1 : w15.cell? ⟨gb266, 1, none⟩ = some (.string t259) := (Z5 BK266.out 1).trans rfl; have hcz16_2 : w15.cell? ⟨gb266, 2, none⟩ = some (.int .u32 t260) := (Z5 BK266.out 2).trans rfl; have hcz16_3 : w15.cell? ⟨gb266, 3, none⟩ = some (.bool t261) := (Z5 BK266.out 3).trans rfl; have hcz16_4 : w15.cell? ⟨gb266, 4, none⟩ = some (.int .i64 t262) := (Z5 BK266.out 4).trans rfl; have hcz16_5 : w15.cell? ⟨gb266, 5, none⟩ = some (.int .i64 t263) := (Z5 BK266.out 5).trans rfl; have hfz16_0 := Z2 BK266.out 0; have hfz16_1 := Z2 BK266.out 1; have hfz16_2 := Z2 BK266.out 2; have hfz16_3 := Z2 BK266.out 3; have hfz16_4 := Z2 BK266.out 4; have hfz16_5 := Z2 BK266.out 5))
           go_roundg k1
           case measure => have := HK1.out; omega
           case rel => exact ⟨(y267), (t263), (by first | rfl | (simp; done) | (simp [*]; done)), H', ⟨by have := HK1.out; omega⟩, ⟨by (with_reducible repeat (first | apply Kd.R_alloc | apply Kd.R_drewN | apply Kd.R_drew)); exact Kd.R_mono HO269.out (fun _ hk => trivial)⟩, ⟨by repeat (first | (with_reducible first | exact HB.out | apply Z7 | apply Z4 | apply Z6 | refine Z8 ?_ GE266.out) | exact HB.out)⟩⟩
       · rw [if_neg c5] at H
         exact absurd H (by simp)
     · rw [if_neg c4] at H
       have c4b0 : (t265 == 0) = false := beq_eq_false_iff_ne.mpr c4
       have c4b1 : (t265 != 0) = true := bne_iff_ne.mpr c4
       simp only [Option.some.injEq, Prod.mk.injEq] at H
       obtain ⟨rfl, rfl, rfl⟩ := H
       go_wp2_with (first | ((with_reducible refine Z14 (f := 9) rfl ?_); refine goesL_ (some 16) rfl rfl Tryd.func9 (by kernel_rfl) rfl #[.string a0, .int .i64 x6_1] rfl (by (try simp only [List.map_toArray, List.map_cons, List.map_nil]); first | done | rfl | (simp only [List.length_drop, List.length_take]; rfl)) ?_; (with_reducible refine (Z29.calls k1 a0 x6_1 t258 t259 t260 t261 t262 t263 t264 t265 _ ?side1 A3.out).mono ?_); (case side1 => refine PremW.below HG.out ?_; repeat (first | (with_reducible first | exact HB.out | apply Z7 | apply Z4 | apply Z6) | exact HB.out)); rintro e w17 ⟨rfl, hb⟩; refine ⟨_, rfl, ?_⟩; have n0_ := Aside0.mk (Kd.R_below (by (with_reducible repeat (first | apply Kd.R_alloc | apply Kd.R_drewN | apply Kd.R_drew)); exact HO_5.out) hb); have n1_ := Aside0.mk (Z25 (by repeat (first | (with_reducible first | exact HB.out | apply Z7 | apply Z4 | apply Z6) | exact HB.out)) hb); clear HO_5; clear HB; have HO_5 := n0_; have HB := n1_; clear n0_ n1_; (try clear hb); (try clear hb2); (try clear hk); (try clear hi)) | ((with_reducible refine Z52 (N := 7) rfl ?_); refine Z51 ?hg (N := 7) ?hd (cs := #[.int .i64 0, .string (⟨#[]⟩ : ByteArray), .int .u32 0, .bool false, .int .i64 0, .int .i64 0]) (t := 24) ?hr ?_; (case hd => rfl); (case hg => rfl); (case hr => first | (go_simp; done) | (go_simp; rfl)); intro gb266 hg w18 hbox hb; have n0_ := Aside0.mk (Kd.R_below (Kd.R_elderB (by (with_reducible repeat (first | apply Kd.R_alloc | apply Kd.R_drewN | apply Kd.R_drew)); exact HO_5.out) gb266 (Nat.le_of_eq hg.symm)) hb); have n1_ := Aside0.mk (Z25 (by repeat (first | (with_reducible first | exact HB.out | apply Z7 | apply Z4 | apply Z6) | exact HB.out)) hb); have n2_ := Aside0.mk (hbox); have n3_ := Aside0.mk ((by rw [hg]; exact (Z27 (by repeat (first | (with_reducible first | exact HB.out | apply Z7 | apply Z4 | apply Z6) | exact HB.out))) : w.heap.size ≤ gb266)); have n4_ := Aside0.mk ((by rw [hg]; exact (Z27 (by repeat (first | (with_reducible first | exact HB.out | apply Z7 | apply Z4 | apply Z6) | exact HB.out))) : w.heap.size ≤ gb266)); clear HO_5; clear HB; have HO_5 := n0_; have HB := n1_; have BK266 := n2_; have GW266 := n3_; have GE266 := n4_; clear n0_ n1_ n2_ n3_ n4_; clear hb hbox hg; have hcz19_0 : w18.cell? ⟨gb266, 0, none⟩ = some (.int .i64 0) := (Z5 BK266.out 0).trans rfl; have hcz19_1 : w18.cell? ⟨gb266, 1, none⟩ = some (.string (⟨#[]⟩ : ByteArray)) := (Z5 BK266.out 1).trans rfl; have hcz19_2 : w18.cell? ⟨gb266, 2, none⟩ = some (.int .u32 0) := (Z5 BK266.out 2).trans rfl; have hcz19_3 : w18.cell? ⟨gb266, 3, none⟩ = some (.bool false) := (Z5 BK266.out 3).trans rfl; have hcz19_4 : w18.cell? ⟨gb266, 4, none⟩ = some (.int .i64 0) := (Z5 BK266.out 4).trans rfl; have hcz19_5 : w18.cell? ⟨gb266, 5, none⟩ = some (.int .i64 0) := (Z5 BK266.out 5).trans rfl; have hfz19_0 := Z2 BK266.out 0; have hfz19_1 := Z2 BK266.out 1; have hfz19_2 := Z2 BK266.out 2; have hfz19_3 := Z2 BK266.out 3; have hfz19_4 := Z2 BK266.out 4; have hfz19_5 := Z2 BK266.out 5))
       go_ret3
       exact ⟨_, by first | rfl | (simp [Z16, Z15] <;> rfl) | (simp [*, Z16, Z15] <;> rfl), by first | exact Kd.R_nil _ _ _ _ _ | exact Kd.N_nil _ _ _ _ _ | exact Kd.V_nil _ _ _ _ _ | exact Kd.Q_nil _ _ _ _ _ | exact Kd.S_nil _ _ _ _ _, by repeat (first | (with_reducible first | exact HB.out | apply Z7 | apply Z4 | apply Z6 | refine Z8 ?_ GE266.out) | exact HB.out)⟩
end Go.Proofs.YtbmfadmoficfiaaDoor.Q
namespace Go.Proofs.YtbmfadmoficfiaaDoor.Q
open Go.RowKit Go.Proofs.YtbmfadmoficfiaaDoorW.PrintWords Go.Proofs.YtbmfadmoficfiaaDoorW.PrintLast Go.Proofs.YtbmfadmoficfiaaDoorW.PrintMore
attribute [local go_sem] Z56 Z54 Z61 Z60 Z49 Z48 Z55 Z53
set_option linter.unusedVariables false
set_option linter.unusedSimpArgs false
def cruciblelaw07_awake.f (k : Nat)  : Option (Bool) := (Z44.f k (⟨#[97, 45, 62, 98, 62, 62, 61, 48, 120, 49, 70, 117]⟩ : ByteArray)).bind fun bt270 => (if bt270.2.2 = 0 then (if (bt270.1.length : Int) = 6 then (if 1 < (bt270.1.length : Int) then (if ((rd_T24 bt270.1 1).f1).toList = ([45, 62] : List UInt8) then (if 4 < (bt270.1.length : Int) then (if ((rd_T24 bt270.1 4).f2) = 31 then (some ((rd_T24 bt270.1 4).f3)) else (some false)) else (none)) else (some false)) else (none)) else (some false)) else (some false))
theorem cruciblelaw07_awake.mono : ∀ k, LeO (cruciblelaw07_awake.f k ) (cruciblelaw07_awake.f (k + 1) ) := by
 intro  k
 unfold cruciblelaw07_awake.f
 repeat' first
  | (with_reducible exact Z44.mono _ _)
  | (with_reducible exact LeO.refl _)
  | (with_reducible exact LeO.none _)
  | (with_reducible refine LeO.ite ?_ ?_)
  | (with_reducible refine LeO.bind ?_ (fun _ => ?_))
  | exact Z44.mono _ _
  | exact LeO.none _
  | refine LeO.ite ?_ ?_
  | refine LeO.bind ?_ (fun _ => ?_)
set_option maxHeartbeats 8000000 in
set_option maxRecDepth 100000 in
theorem cruciblelaw07_awake.calls (k : Nat)  (r : Bool) (w : World) (hG : PremW w) (h : cruciblelaw07_awake.f k  = some r) :
 Calls Tryd.prog 11 #[] w fun e w' => e = .returned (.bool r) ∧ Below w.heap.size w w' := by
 have HG := Aside0.mk hG
 clear hG
 have HB := Aside0.mk (Below.refl w.heap.size w)
 have H : ((Z44.f k (⟨#[97, 45, 62, 98, 62, 62, 61, 48, 120, 49, 70, 117]⟩ : ByteArray)).bind fun bt270 => (if bt270.2.2 = 0 then (if (bt270.1.length : Int) = 6 then (if 1 < (bt270.1.length : Int) then (if ((rd_T24 bt270.1 1).f1).toList = ([45, 62] : List UInt8) then (if 4 < (bt270.1.length : Int) then (if ((rd_T24 bt270.1 4).f2) = 31 then (some ((rd_T24 bt270.1 4).f3)) else (some false)) else (none)) else (some false)) else (none)) else (some false)) else (some false))) = some r := h
 clear h
 replace H := Option.bind_eq_some_iff.mp H
 obtain ⟨⟨t270, t271, t272⟩, A10, H⟩ := H
 replace H : (if t272 = 0 then (if (t270.length : Int) = 6 then (if 1 < (t270.length : Int) then (if ((rd_T24 t270 1).f1).toList = ([45, 62] : List UInt8) then (if 4 < (t270.length : Int) then (if ((rd_T24 t270 4).f2) = 31 then (some ((rd_T24 t270 4).f3)) else (some false)) else (none)) else (some false)) else (none)) else (some false)) else (some false)) = some r := H
 have A1 := Aside0.mk A10
 clear A10
 by_cases c2 : t272 = 0
 · rw [if_pos c2] at H
   have c2b0 : (t272 == 0) = true := beq_iff_eq.mpr c2
   have c2b1 : (t272 != 0) = false := bne_eq_false_iff_eq.mpr c2
   clear c2
   by_cases c3 : (t270.length : Int) = 6
   · rw [if_pos c3] at H
     have c3b0 : ((t270.length : Int) == 6) = true := beq_iff_eq.mpr c3
     have c3b1 : ((t270.length : Int) != 6) = false := bne_eq_false_iff_eq.mpr c3
     clear c3
     by_cases c4 : 1 < (t270.length : Int)
     · rw [if_pos c4] at H
       have c4b0 : decide (1 < (t270.length : Int)) = true := decide_eq_true c4
       have c4b1 : decide (1 < t270.length) = true := decide_eq_true (by omega)
       clear c4
       by_cases c5 : ((rd_T24 t270 1).f1).toList = ([45, 62] : List UInt8)
       · rw [if_pos c5] at H
         have c5b0 : (((rd_T24 t270 1).f1).toList == ([45, 62] : List UInt8)) = true := beq_iff_eq.mpr c5
         have c5b1 : (((rd_T24 t270 1).f1).toList != ([45, 62] : List UInt8)) = false := bne_eq_false_iff_eq.mpr c5
         clear c5
         by_cases c6 : 4 < (t270.length : Int)
         · rw [if_pos c6] at H
           have c6b0 : decide (4 < (t270.length : Int)) = true := decide_eq_true c6
           have c6b1 : decide (4 < t270.length) = true := decide_eq_true (by omega)
           clear c6
           by_cases c7 : ((rd_T24 t270 4).f2) = 31
           · rw [if_pos c7] at H
             have c7b0 : (((rd_T24 t270 4).f2) == 31) = true := beq_iff_eq.mpr c7
             have c7b1 : (((rd_T24 t270 4).f2) != 31) = false := bne_eq_false_iff_eq.mpr c7
             clear c7
             obtain rfl := Option.some.inj H
             go_enter Tryd.func11, Tryd.ntmps11
             go_wp2_with (first | ((with_reducible refine Z14 (f := 12) rfl ?_); refine goesL_ (some 5) rfl rfl Tryd.func12 (by kernel_rfl) rfl #[.string (⟨#[97, 45, 62, 98, 62, 62, 61, 48, 120, 49, 70, 117]⟩ : ByteArray)] rfl (by (try simp only [List.map_toArray, List.map_cons, List.map_nil]); first | done | rfl | (simp only [List.length_drop, List.length_take]; rfl)) ?_; (with_reducible refine (Z44.calls k (⟨#[97, 45, 62, 98, 62, 62, 61, 48, 120, 49, 70, 117]⟩ : ByteArray) t270 t271 t272 _ ?side1 A1.out).mono ?_); (case side1 => refine PremW.below HG.out ?_; repeat (first | (with_reducible first | exact HB.out | apply Z7 | apply Z4 | apply Z6) | exact HB.out)); rintro e w8 ⟨v273, rfl, ho0, hb⟩; refine ⟨_, rfl, ?_⟩; have n0_ := Aside0.mk (Kd.R_lower ho0 (Z27 (by repeat (first | (with_reducible first | exact HB.out | apply Z7 | apply Z4 | apply Z6) | exact HB.out)))); have n1_ := Aside0.mk (Z25 (by repeat (first | (with_reducible first | exact HB.out | apply Z7 | apply Z4 | apply Z6) | exact HB.out)) hb); clear HB; have HO274 := n0_; have HB := n1_; clear n0_ n1_; (try clear hb); (try clear hb2); (try clear hk); (try clear hi); (try clear ho0); obtain ⟨Ao9, co9, eo9⟩ := Kd.R_slice HO274.out; subst eo9; have p275 : 0 ≤ (1 : Int) := (by omega); have q275 : 1 < (t270.length : Int) := of_decide_eq_true (by first | (with_reducible assumption) | assumption); obtain ⟨ad275, e275, hx275_0, hx275_1, hx275_2, hx275_3, hx275_4, hx275_5⟩ := at_T24 (Kd.R_reads' HO274.out).2.2 1 p275 q275; cases e275; (try simp only [show (1 : Int).toNat = 1 from rfl, Nat.reduceMul, Nat.reduceEqDiff, Go.Addr.add, ↓reduceIte] at hx275_0); (try simp only [show (1 : Int).toNat = 1 from rfl, Nat.reduceMul, Nat.reduceEqDiff, Go.Addr.add, ↓reduceIte] at hx275_1); (try simp only [show (1 : Int).toNat = 1 from rfl, Nat.reduceMul, Nat.reduceEqDiff, Go.Addr.add, ↓reduceIte] at hx275_2); (try simp only [show (1 : Int).toNat = 1 from rfl, Nat.reduceMul, Nat.reduceEqDiff, Go.Addr.add, ↓reduceIte] at hx275_3); (try simp only [show (1 : Int).toNat = 1 from rfl, Nat.reduceMul, Nat.reduceEqDiff, Go.Addr.add, ↓reduceIte] at hx275_4); (try simp only [show (1 : Int).toNat = 1 from rfl, Nat.reduceMul, Nat.reduceEqDiff, Go.Addr.add, ↓reduceIte] at hx275_5); have qi275 : (1 < t270.length) = True := eq_true (by omega); (try rw [show ((1 : Int)).toNat = 1 from rfl] at hx275_0); (try rw [show 1 * 6 = 6 from rfl] at hx275_0); (try rw [show ((1 : Int)).toNat = 1 from rfl] at hx275_1); (try rw [show 1 * 6 = 6 from rfl] at hx275_1); (try rw [show ((1 : Int)).toNat = 1 from rfl] at hx275_2); (try rw [show 1 * 6 = 6 from rfl] at hx275_2); (try rw [show ((1 : Int)).toNat = 1 from rfl] at hx275_3); (try rw [show 1 * 6 = 6 from rfl] at hx275_3); (try rw [show ((1 : Int)).toNat = 1 from rfl] at hx275_4); (try rw [show 1 * 6 = 6 from rfl] at hx275_4); (try rw [show ((1 : Int)).toNat = 1 from rfl] at hx275_5); (try rw [show 1 * 6 = 6 from rfl] at hx275_5); replace p275 := eq_true p275; replace q275 := eq_true q275; have p276 : 0 ≤ (4 : Int) := (by omega); have q276 : 4 < (t270.length : Int) := of_decide_eq_true (by first | (with_reducible assumption) | assumption); obtain ⟨ad276, e276, hx276_0, hx276_1, hx276_2, hx276_3, hx276_4, hx276_5⟩ := at_T24 (Kd.R_reads' HO274.out).2.2 4 p276 q276; obtain rfl : ad275 = ad276 := (by injection e276); (try simp only [show (4 : Int).toNat = 4 from rfl, Nat.reduceMul, Nat.reduceEqDiff, Go.Addr.add, ↓reduceIte] at hx276_0); (try simp only [show (4 : Int).toNat = 4 from rfl, Nat.reduceMul, Nat.reduceEqDiff, Go.Addr.add, ↓reduceIte] at hx276_1); (try simp only [show (4 : Int).toNat = 4 from rfl, Nat.reduceMul, Nat.reduceEqDiff, Go.Addr.add, ↓reduceIte] at hx276_2); (try simp only [show (4 : Int).toNat = 4 from rfl, Nat.reduceMul, Nat.reduceEqDiff, Go.Addr.add, ↓reduceIte] at hx276_3); (try simp only [show (4 : Int).toNat = 4 from rfl, Nat.reduceMul, Nat.reduceEqDiff, Go.Addr.add, ↓reduceIte] at hx276_4); (try simp only [show (4 : Int).toNat = 4 from rfl, Nat.reduceMul, Nat.reduceEqDiff, Go.Addr.add, ↓reduceIte] at hx276_5); have qi276 : (4 < t270.length) = True := eq_true (by omega); (try rw [show ((4 : Int)).toNat = 4 from rfl] at hx276_0); (try rw [show 4 * 6 = 24 from rfl] at hx276_0); (try rw [show ((4 : Int)).toNat = 4 from rfl] at hx276_1); (try rw [show 4 * 6 = 24 from rfl] at hx276_1); (try rw [show ((4 : Int)).toNat = 4 from rfl] at hx276_2); (try rw [show 4 * 6 = 24 from rfl] at hx276_2); (try rw [show ((4 : Int)).toNat = 4 from rfl] at hx276_3); (try rw [show 4 * 6 = 24 from rfl] at hx276_3); (try rw [show ((4 : Int)).toNat = 4 from rfl] at hx276_4); (try rw [show 4 * 6 = 24 from rfl] at hx276_4); (try rw [show ((4 : Int)).toNat = 4 from rfl] at hx276_5); (try rw [show 4 * 6 = 24 from rfl] at hx276_5); replace p276 := eq_true p276; replace q276 := eq_true q276; have p277 : 0 ≤ (4 : Int) := (by omega); have q277 : 4 < (t270.length : Int) := of_decide_eq_true (by first | (with_reducible assumption) | assumption); obtain ⟨ad277, e277, hx277_0, hx277_1, hx277_2, hx277_3, hx277_4, hx277_5⟩ := at_T24 (Kd.R_reads' HO274.out).2.2 4 p277 q277; obtain rfl : ad275 = ad277 := (by injection e277); (try simp only [show (4 : Int).toNat = 4 from rfl, Nat.reduceMul, Nat.reduceEqDiff, Go.Addr.add, ↓reduceIte] at hx277_0); (try simp only [show (4 : Int).toNat = 4 from rfl, Nat.reduceMul, Nat.reduceEqDiff, Go.Addr.add, ↓reduceIte] at hx277_1); (try simp only [show (4 : Int).toNat = 4 from rfl, Nat.reduceMul, Nat.reduceEqDiff, Go.Addr.add, ↓reduceIte] at hx277_2); (try simp only [show (4 : Int).toNat = 4 from rfl, Nat.reduceMul, Nat.reduceEqDiff, Go.Addr.add, ↓reduceIte] at hx277_3); (try simp only [show (4 : Int).toNat = 4 from rfl, Nat.reduceMul, Nat.reduceEqDiff, Go.Addr.add, ↓reduceIte] at hx277_4); (try simp only [show (4 : Int).toNat = 4 from rfl, Nat.reduceMul, Nat.reduceEqDiff, Go.Addr.add, ↓reduceIte] at hx277_5); have qi277 : (4 < t270.length) = True := eq_true (by omega); (try rw [show ((4 : Int)).toNat = 4 from rfl] at hx277_0); (try rw [show 4 * 6 = 24 from rfl] at hx277_0); (try rw [show ((4 : Int)).toNat = 4 from rfl] at hx277_1); (try rw [show 4 * 6 = 24 from rfl] at hx277_1); (try rw [show ((4 : Int)).toNat = 4 from rfl] at hx277_2); (try rw [show 4 * 6 = 24 from rfl] at hx277_2); (try rw [show ((4 : Int)).toNat = 4 from rfl] at hx277_3); (try rw [show 4 * 6 = 24 from rfl] at hx277_3); (try rw [show ((4 : Int)).toNat = 4 from rfl] at hx277_4); (try rw [show 4 * 6 = 24 from rfl] at hx277_4); (try rw [show ((4 : Int)).toNat = 4 from rfl] at hx277_5); (try rw [show 4 * 6 = 24 from rfl] at hx277_5); replace p277 := eq_true p277; replace q277 := eq_true q277))
             go_ret
             exact ⟨by first | rfl | (simp [Z16, Z15] <;> rfl) | (simp [*, Z16, Z15] <;> rfl), by repeat (first | (with_reducible first | exact HB.out | apply Z7 | apply Z4 | apply Z6) | exact HB.out)⟩
           · rw [if_neg c7] at H
             have c7b0 : (((rd_T24 t270 4).f2) == 31) = false := beq_eq_false_iff_ne.mpr c7
             have c7b1 : (((rd_T24 t270 4).f2) != 31) = true := bne_iff_ne.mpr c7
             obtain rfl := Option.some.inj H
             go_enter Tryd.func11, Tryd.ntmps11
             go_wp2_with (first | ((with_reducible refine Z14 (f := 12) rfl ?_); refine goesL_ (some 5) rfl rfl Tryd.func12 (by kernel_rfl) rfl #[.string (⟨#[97, 45, 62, 98, 62, 62, 61, 48, 120, 49, 70, 117]⟩ : ByteArray)] rfl (by (try simp only [List.map_toArray, List.map_cons, List.map_nil]); first | done | rfl | (simp only [List.length_drop, List.length_take]; rfl)) ?_; (with_reducible refine (Z44.calls k (⟨#[97, 45, 62, 98, 62, 62, 61, 48, 120, 49, 70, 117]⟩ : ByteArray) t270 t271 t272 _ ?side1 A1.out).mono ?_); (case side1 => refine PremW.below HG.out ?_; repeat (first | (with_reducible first | exact HB.out | apply Z7 | apply Z4 | apply Z6) | exact HB.out)); rintro e w10 ⟨v273, rfl, ho0, hb⟩; refine ⟨_, rfl, ?_⟩; have n0_ := Aside0.mk (Kd.R_lower ho0 (Z27 (by repeat (first | (with_reducible first | exact HB.out | apply Z7 | apply Z4 | apply Z6) | exact HB.out)))); have n1_ := Aside0.mk (Z25 (by repeat (first | (with_reducible first | exact HB.out | apply Z7 | apply Z4 | apply Z6) | exact HB.out)) hb); clear HB; have HO274 := n0_; have HB := n1_; clear n0_ n1_; (try clear hb); (try clear hb2); (try clear hk); (try clear hi); (try clear ho0); obtain ⟨Ao11, co11, eo11⟩ := Kd.R_slice HO274.out; subst eo11; have p275 : 0 ≤ (1 : Int) := (by omega); have q275 : 1 < (t270.length : Int) := of_decide_eq_true (by first | (with_reducible assumption) | assumption); obtain ⟨ad275, e275, hx275_0, hx275_1, hx275_2, hx275_3, hx275_4, hx275_5⟩ := at_T24 (Kd.R_reads' HO274.out).2.2 1 p275 q275; cases e275; (try simp only [show (1 : Int).toNat = 1 from rfl, Nat.reduceMul, Nat.reduceEqDiff, Go.Addr.add, ↓reduceIte] at hx275_0); (try simp only [show (1 : Int).toNat = 1 from rfl, Nat.reduceMul, Nat.reduceEqDiff, Go.Addr.add, ↓reduceIte] at hx275_1); (try simp only [show (1 : Int).toNat = 1 from rfl, Nat.reduceMul, Nat.reduceEqDiff, Go.Addr.add, ↓reduceIte] at hx275_2); (try simp only [show (1 : Int).toNat = 1 from rfl, Nat.reduceMul, Nat.reduceEqDiff, Go.Addr.add, ↓reduceIte] at hx275_3); (try simp only [show (1 : Int).toNat = 1 from rfl, Nat.reduceMul, Nat.reduceEqDiff, Go.Addr.add, ↓reduceIte] at hx275_4); (try simp only [show (1 : Int).toNat = 1 from rfl, Nat.reduceMul, Nat.reduceEqDiff, Go.Addr.add, ↓reduceIte] at hx275_5); have qi275 : (1 < t270.length) = True := eq_true (by omega); (try rw [show ((1 : Int)).toNat = 1 from rfl] at hx275_0); (try rw [show 1 * 6 = 6 from rfl] at hx275_0); (try rw [show ((1 : Int)).toNat = 1 from rfl] at hx275_1); (try rw [show 1 * 6 = 6 from rfl] at hx275_1); (try rw [show ((1 : Int)).toNat = 1 from rfl] at hx275_2); (try rw [show 1 * 6 = 6 from rfl] at hx275_2); (try rw [show ((1 : Int)).toNat = 1 from rfl] at hx275_3); (try rw [show 1 * 6 = 6 from rfl] at hx275_3); (try rw [show ((1 : Int)).toNat = 1 from rfl] at hx275_4); (try rw [show 1 * 6 = 6 from rfl] at hx275_4); (try rw [show ((1 : Int)).toNat = 1 from rfl] at hx275_5); (try rw [show 1 * 6 = 6 from rfl] at hx275_5); replace p275 := eq_true p275; replace q275 := eq_true q275; have p276 : 0 ≤ (4 : Int) := (by omega); have q276 : 4 < (t270.length : Int) := of_decide_eq_true (by first | (with_reducible assumption) | assumption); obtain ⟨ad276, e276, hx276_0, hx276_1, hx276_2, hx276_3, hx276_4, hx276_5⟩ := at_T24 (Kd.R_reads' HO274.out).2.2 4 p276 q276; obtain rfl : ad275 = ad276 := (by injection e276); (try simp only [show (4 : Int).toNat = 4 from rfl, Nat.reduceMul, Nat.reduceEqDiff, Go.Addr.add, ↓reduceIte] at hx276_0); (try simp only [show (4 : Int).toNat = 4 from rfl, Nat.reduceMul, Nat.reduceEqDiff, Go.Addr.add, ↓reduceIte] at hx276_1); (try simp only [show (4 : Int).toNat = 4 from rfl, Nat.reduceMul, Nat.reduceEqDiff, Go.Addr.add, ↓reduceIte] at hx276_2); (try simp only [show (4 : Int).toNat = 4 from rfl, Nat.reduceMul, Nat.reduceEqDiff, Go.Addr.add, ↓reduceIte] at hx276_3); (try simp only [show (4 : Int).toNat = 4 from rfl, Nat.reduceMul, Nat.reduceEqDiff, Go.Addr.add, ↓reduceIte] at hx276_4); (try simp only [show (4 : Int).toNat = 4 from rfl, Nat.reduceMul, Nat.reduceEqDiff, Go.Addr.add, ↓reduceIte] at hx276_5); have qi276 : (4 < t270.length) = True := eq_true (by omega); (try rw [show ((4 : Int)).toNat = 4 from rfl] at hx276_0); (try rw [show 4 * 6 = 24 from rfl] at hx276_0); (try rw [show ((4 : Int)).toNat = 4 from rfl] at hx276_1); (try rw [show 4 * 6 = 24 from rfl] at hx276_1); (try rw [show ((4 : Int)).toNat = 4 from rfl] at hx276_2); (try rw [show 4 * 6 = 24 from rfl] at hx276_2); (try rw [show ((4 : Int)).toNat = 4 from rfl] at hx276_3); (try rw [show 4 * 6 = 24 from rfl] at hx276_3); (try rw [show ((4 : Int)).toNat = 4 from rfl] at hx276_4); (try rw [show 4 * 6 = 24 from rfl] at hx276_4); (try rw [show ((4 : Int)).toNat = 4 from rfl] at hx276_5); (try rw [show 4 * 6 = 24 from rfl] at hx276_5); replace p276 := eq_true p276; replace q276 := eq_true q276))
             go_ret
             exact ⟨by first | rfl | (simp [Z16, Z15] <;> rfl) | (simp [*, Z16, Z15] <;> rfl), by repeat (first | (with_reducible first | exact HB.out | apply Z7 | apply Z4 | apply Z6) | exact HB.out)⟩
         · rw [if_neg c6] at H
           exact absurd H (by simp)
       · rw [if_neg c5] at H
         have c5b0 : (((rd_T24 t270 1).f1).toList == ([45, 62] : List UInt8)) = false := beq_eq_false_iff_ne.mpr c5
         have c5b1 : (((rd_T24 t270 1).f1).toList != ([45, 62] : List UInt8)) = true := bne_iff_ne.mpr c5
         obtain rfl := Option.some.inj H
         go_enter Tryd.func11, Tryd.ntmps11
         go_wp2_with (first | ((with_reducible refine Z14 (f := 12) rfl ?_); refine goesL_ (some 5) rfl rfl Tryd.func12 (by kernel_rfl) rfl #[.string (⟨#[97, 45, 62, 98, 62, 62, 61, 48, 120, 49, 70, 117]⟩ : ByteArray)] rfl (by (try simp only [List.map_toArray, List.map_cons, List.map_nil]); first | done | rfl | (simp only [List.length_drop, List.length_take]; rfl)) ?_; (with_reducible refine (Z44.calls k (⟨#[97, 45, 62, 98, 62, 62, 61, 48, 120, 49, 70, 117]⟩ : ByteArray) t270 t271 t272 _ ?side1 A1.out).mono ?_); (case side1 => refine PremW.below HG.out ?_; repeat (first | (with_reducible first | exact HB.out | apply Z7 | apply Z4 | apply Z6) | exact HB.out)); rintro e w12 ⟨v273, rfl, ho0, hb⟩; refine ⟨_, rfl, ?_⟩; have n0_ := Aside0.mk (Kd.R_lower ho0 (Z27 (by repeat (first | (with_reducible first | exact HB.out | apply Z7 | apply Z4 | apply Z6) | exact HB.out)))); have n1_ := Aside0.mk (Z25 (by repeat (first | (with_reducible first | exact HB.out | apply Z7 | apply Z4 | apply Z6) | exact HB.out)) hb); clear HB; have HO274 := n0_; have HB := n1_; clear n0_ n1_; (try clear hb); (try clear hb2); (try clear hk); (try clear hi); (try clear ho0); obtain ⟨Ao13, co13, eo13⟩ := Kd.R_slice HO274.out; subst eo13; have p275 : 0 ≤ (1 : Int) := (by omega); have q275 : 1 < (t270.length : Int) := of_decide_eq_true (by first | (with_reducible assumption) | assumption); obtain ⟨ad275, e275, hx275_0, hx275_1, hx275_2, hx275_3, hx275_4, hx275_5⟩ := at_T24 (Kd.R_reads' HO274.out).2.2 1 p275 q275; cases e275; (try simp only [show (1 : Int).toNat = 1 from rfl, Nat.reduceMul, Nat.reduceEqDiff, Go.Addr.add, ↓reduceIte] at hx275_0); (try simp only [show (1 : Int).toNat = 1 from rfl, Nat.reduceMul, Nat.reduceEqDiff, Go.Addr.add, ↓reduceIte] at hx275_1); (try simp only [show (1 : Int).toNat = 1 from rfl, Nat.reduceMul, Nat.reduceEqDiff, Go.Addr.add, ↓reduceIte] at hx275_2); (try simp only [show (1 : Int).toNat = 1 from rfl, Nat.reduceMul, Nat.reduceEqDiff, Go.Addr.add, ↓reduceIte] at hx275_3); (try simp only [show (1 : Int).toNat = 1 from rfl, Nat.reduceMul, Nat.reduceEqDiff, Go.Addr.add, ↓reduceIte] at hx275_4); (try simp only [show (1 : Int).toNat = 1 from rfl, Nat.reduceMul, Nat.reduceEqDiff, Go.Addr.add, ↓reduceIte] at hx275_5); have qi275 : (1 < t270.length) = True := eq_true (by omega); (try rw [show ((1 : Int)).toNat = 1 from rfl] at hx275_0); (try rw [show 1 * 6 = 6 from rfl] at hx275_0); (try rw [show ((1 : Int)).toNat = 1 from rfl] at hx275_1); (try rw [show 1 * 6 = 6 from rfl] at hx275_1); (try rw [show ((1 : Int)).toNat = 1 from rfl] at hx275_2); (try rw [show 1 * 6 = 6 from rfl] at hx275_2); (try rw [show ((1 : Int)).toNat = 1 from rfl] at hx275_3); (try rw [show 1 * 6 = 6 from rfl] at hx275_3); (try rw [show ((1 : Int)).toNat = 1 from rfl] at hx275_4); (try rw [show 1 * 6 = 6 from rfl] at hx275_4); (try rw [show ((1 : Int)).toNat = 1 from rfl] at hx275_5); (try rw [show 1 * 6 = 6 from rfl] at hx275_5); replace p275 := eq_true p275; replace q275 := eq_true q275))
         go_ret
         exact ⟨by first | rfl | (simp [Z16, Z15] <;> rfl) | (simp [*, Z16, Z15] <;> rfl), by repeat (first | (with_reducible first | exact HB.out | apply Z7 | apply Z4 | apply Z6) | exact HB.out)⟩
     · rw [if_neg c4] at H
       exact absurd H (by simp)
   · rw [if_neg c3] at H
     have c3b0 : ((t270.length : Int) == 6) = false := beq_eq_false_iff_ne.mpr c3
     have c3b1 : ((t270.length : Int) != 6) = true := bne_iff_ne.mpr c3
     obtain rfl := Option.some.inj H
     go_enter Tryd.func11, Tryd.ntmps11
     go_wp2_with (first | ((with_reducible refine Z14 (f := 12) rfl ?_); refine goesL_ (some 5) rfl rfl Tryd.func12 (by kernel_rfl) rfl #[.string (⟨#[97, 45, 62, 98, 62, 62, 61, 48, 120, 49, 70, 117]⟩ : ByteArray)] rfl (by (try simp only [List.map_toArray, List.map_cons, List.map_nil]); first | done | rfl | (simp only [List.length_drop, List.length_take]; rfl)) ?_; (with_reducible refine (Z44.calls k (⟨#[97, 45, 62, 98, 62, 62, 61, 48, 120, 49, 70, 117]⟩ : ByteArray) t270 t271 t272 _ ?side1 A1.out).mono ?_); (case side1 => refine PremW.below HG.out ?_; repeat (first | (with_reducible first | exact HB.out | apply Z7 | apply Z4 | apply Z6) | exact HB.out)); rintro e w14 ⟨v273, rfl, ho0, hb⟩; refine ⟨_, rfl, ?_⟩; have n0_ := Aside0.mk (Kd.R_lower ho0 (Z27 (by repeat (first | (with_reducible first | exact HB.out | apply Z7 | apply Z4 | apply Z6) | exact HB.out)))); have n1_ := Aside0.mk (Z25 (by repeat (first | (with_reducible first | exact HB.out | apply Z7 | apply Z4 | apply Z6) | exact HB.out)) hb); clear HB; have HO274 := n0_; have HB := n1_; clear n0_ n1_; (try clear hb); (try clear hb2); (try clear hk); (try clear hi); (try clear ho0); obtain ⟨Ao15, co15, eo15⟩ := Kd.R_slice HO274.out; subst eo15))
     go_ret
     exact ⟨by first | rfl | (simp [Z16, Z15] <;> rfl) | (simp [*, Z16, Z15] <;> rfl), by repeat (first | (with_reducible first | exact HB.out | apply Z7 | apply Z4 | apply Z6) | exact HB.out)⟩
 · rw [if_neg c2] at H
   have c2b0 : (t272 == 0) = false := beq_eq_false_iff_ne.mpr c2
   have c2b1 : (t272 != 0) = true := bne_iff_ne.mpr c2
   obtain rfl := Option.some.inj H
   go_enter Tryd.func11, Tryd.ntmps11
   go_wp2_with (first | ((with_reducible refine Z14 (f := 12) rfl ?_); refine goesL_ (some 5) rfl rfl Tryd.func12 (by kernel_rfl) rfl #[.string (⟨#[97, 45, 62, 98, 62, 62, 61, 48, 120, 49, 70, 117]⟩ : ByteArray)] rfl (by (try simp only [List.map_toArray, List.map_cons, List.map_nil]); first | done | rfl | (simp only [List.length_drop, List.length_take]; rfl)) ?_; (with_reducible refine (Z44.calls k (⟨#[97, 45, 62, 98, 62, 62, 61, 48, 120, 49, 70, 117]⟩ : ByteArray) t270 t271 t272 _ ?side1 A1.out).mono ?_); (case side1 => refine PremW.below HG.out ?_; repeat (first | (with_reducible first | exact HB.out | apply Z7 | apply Z4 | apply Z6) | exact HB.out)); rintro e w16 ⟨v273, rfl, ho0, hb⟩; refine ⟨_, rfl, ?_⟩; have n0_ := Aside0.mk (Kd.R_lower ho0 (Z27 (by repeat (first | (with_reducible first | exact HB.out | apply Z7 | apply Z4 | apply Z6) | exact HB.out)))); have n1_ := Aside0.mk (Z25 (by repeat (first | (with_reducible first | exact HB.out | apply Z7 | apply Z4 | apply Z6) | exact HB.out)) hb); clear HB; have HO274 := n0_; have HB := n1_; clear n0_ n1_; (try clear hb); (try clear hb2); (try clear hk); (try clear hi); (try clear ho0)))
   go_ret
   exact ⟨by first | rfl | (simp [Z16, Z15] <;> rfl) | (simp [*, Z16, Z15] <;> rfl), by repeat (first | (with_reducible first | exact HB.out | apply Z7 | apply Z4 | apply Z6) | exact HB.out)⟩
end Go.Proofs.YtbmfadmoficfiaaDoor.Q
namespace Go.Proofs.YtbmfadmoficfiaaDoor.Q
open Go.RowKit Go.Proofs.YtbmfadmoficfiaaDoorW.PrintWords Go.Proofs.YtbmfadmoficfiaaDoorW.PrintLast Go.Proofs.YtbmfadmoficfiaaDoorW.PrintMore
attribute [local go_sem] Z56 Z54 Z61 Z60 Z49 Z48 Z55 Z53
set_option linter.unusedVariables false
set_option linter.unusedSimpArgs false
theorem eqA24 (d : Nat) (w : World) (x0 y0 : Int) (x1 y1 : ByteArray) (x2 y2 : Int) (x3 y3 : Bool) (x4 y4 : Int) (x5 y5 : Int) :
 (Op.equalIn (d + 2) 24 (.agg #[.int .i64 x0, .string x1, .int .u32 x2, .bool x3, .int .i64 x4, .int .i64 x5]) (.agg #[.int .i64 y0, .string y1, .int .u32 y2, .bool y3, .int .i64 y4, .int .i64 y5])).run Tryd.prog w = .ok (x0 == y0 && (x1.toList == y1.toList && (x2 == y2 && (x3 == y3 && (x4 == y4 && (x5 == y5)))))) w := by
 refine eqA_of Tryd.underlying24 (by kernel_rfl) ?_
 refine eqf_cons (by rfl) (by go_simp; rfl) (by go_simp; rfl) (by go_simp) ?_
 refine eqf_cons (by rfl) (by go_simp; rfl) (by go_simp; rfl) (by go_simp) ?_
 refine eqf_cons (by rfl) (by go_simp; rfl) (by go_simp; rfl) (by go_simp) ?_
 refine eqf_cons (by rfl) (by go_simp; rfl) (by go_simp; rfl) (by go_simp) ?_
 refine eqf_cons (by rfl) (by go_simp; rfl) (by go_simp; rfl) (by go_simp) ?_
 exact eqf_last (by rfl) (by go_simp; rfl) (by go_simp; rfl) (by go_simp)
end Go.Proofs.YtbmfadmoficfiaaDoor.Q
namespace Go.Proofs.YtbmfadmoficfiaaDoor.Q
open Go.RowKit Go.Proofs.YtbmfadmoficfiaaDoorW.PrintWords Go.Proofs.YtbmfadmoficfiaaDoorW.PrintLast Go.Proofs.YtbmfadmoficfiaaDoorW.PrintMore
attribute [local go_sem] Z56 Z54 Z61 Z60 Z49 Z48 Z55 Z53
set_option linter.unusedVariables false
set_option linter.unusedSimpArgs false
attribute [local go_sem high] eqA24
def Z50.l0 : Nat → List (S24) → List (S24) → Int → Option (Bool)
 | 0, _, _, _ => none
 | k + 1, x0, x1, x5 => if x5 < (x0.length : Int) then (if 0 ≤ x5 then (if x5 < (x1.length : Int) then (if (!(((rd_T24 x0 x5).f0) == ((rd_T24 x1 x5).f0)) || (!((((rd_T24 x0 x5).f1).toList) == (((rd_T24 x1 x5).f1).toList)) || (!(((rd_T24 x0 x5).f2) == ((rd_T24 x1 x5).f2)) || (!(((rd_T24 x0 x5).f3) == ((rd_T24 x1 x5).f3)) || (!(((rd_T24 x0 x5).f4) == ((rd_T24 x1 x5).f4)) || (!(((rd_T24 x0 x5).f5) == ((rd_T24 x1 x5).f5)))))))) = true then (some false) else (Z50.l0 k x0 x1 (wrap64 (x5 + 1)))) else (none)) else (none)) else (some true)
def Z50.f (k : Nat) (l0 : List (S24)) (l1 : List (S24)) : Option (Bool) := if (l0.length : Int) = (l1.length : Int) then (Z50.l0 k l0 l1 0) else (some false)
theorem Z50.mono_l : ∀ k, (∀ y0 y1 y2, LeO (Z50.l0 k y0 y1 y2) (Z50.l0 (k + 1) y0 y1 y2))
 | 0 => fun _ _ _ r h => by simp [Z50.l0] at h
 | k + 1 => by
  have ih0 := Z50.mono_l k
  · intro y0 y1 y2
    unfold Z50.l0
    repeat' first
    | (with_reducible exact ih0 _ _ _)
    | (with_reducible exact LeO.refl _)
    | (with_reducible exact LeO.none _)
    | (with_reducible refine LeO.ite ?_ ?_)
    | (with_reducible refine LeO.bind ?_ (fun _ => ?_))
    | exact ih0 _ _ _
    | exact LeO.none _
    | refine LeO.ite ?_ ?_
    | refine LeO.bind ?_ (fun _ => ?_)
theorem Z50.mono : ∀ a0 a1 k, LeO (Z50.f k a0 a1) (Z50.f (k + 1) a0 a1) := by
 intro a0 a1 k
 have ih0 := Z50.mono_l k
 unfold Z50.f
 repeat' first
  | (with_reducible exact ih0 _ _ _)
  | (with_reducible exact LeO.refl _)
  | (with_reducible exact LeO.none _)
  | (with_reducible refine LeO.ite ?_ ?_)
  | (with_reducible refine LeO.bind ?_ (fun _ => ?_))
  | exact ih0 _ _ _
  | exact LeO.none _
  | refine LeO.ite ?_ ?_
  | refine LeO.bind ?_ (fun _ => ?_)
set_option maxHeartbeats 8000000 in
set_option maxRecDepth 100000 in
theorem Z50.calls (k : Nat) (A0 : Option Addr) (c0 : Nat) (l0 : List (S24)) (A1 : Option Addr) (c1 : Nat) (l1 : List (S24)) (r : Bool) (w : World) (hr0 : Kd.C k24 w A0 l0.length l0) (hc0 : l0.length ≤ c0) (hr1 : Kd.C k24 w A1 l1.length l1) (hc1 : l1.length ≤ c1) (h : Z50.f k l0 l1 = some r) :
 Calls Tryd.prog 14 #[.slice A0 l0.length c0, .slice A1 l1.length c1] w fun e w' => e = .returned (.bool r) ∧ Drawn0 w w' := by
 have hu24 := Tryd.underlying24
 have HR0 := Aside0.mk hr0
 have HC0 := Aside0.mk hc0
 clear hr0 hc0
 have HR1 := Aside0.mk hr1
 have HC1 := Aside0.mk hc1
 clear hr1 hc1
 have H : (if (l0.length : Int) = (l1.length : Int) then (Z50.l0 k l0 l1 0) else (some false)) = some r := h
 clear h
 by_cases c3 : (l0.length : Int) = (l1.length : Int)
 · rw [if_pos c3] at H
   have c3b0 : ((l0.length : Int) == (l1.length : Int)) = true := beq_iff_eq.mpr c3
   have c3b1 : ((l0.length : Int) != (l1.length : Int)) = false := bne_eq_false_iff_eq.mpr c3
   have c3b2 : (l0.length == l1.length) = true := by first | simpa using c3 | (simp at c3 ⊢; omega)
   clear c3
   have H' := Aside0.mk H
   clear H
   go_enter Tryd.func14, Tryd.ntmps14
   go_wp2
   repeat (go_quiet (fail); try go_wp2)
   go_loopg [5] k (fun kq v5 w' => ∃ (x5_1 : Int), v5 = .int .i64 x5_1 ∧ Aside0 (Z50.l0 kq l0 l1 x5_1 = some r) ∧ Aside0 (kq ≤ k) ∧ Drawn0 w w')
   case atStart => exact ⟨(0), (by first | rfl | (simp; done) | (simp [*]; done)), H', ⟨Nat.le_refl _⟩, by repeat (first | exact Drawn0.refl _ | apply Drawn0.step)⟩
   case round =>
    clear H'
    try clear c1
    try clear c3
    try clear c3b0
    try clear c3b1
    try clear c3b2
    obtain ⟨x5_1, rfl, HA, HK1, ⟨m1, rfl⟩⟩ := hrel
    cases gk with
    | zero => exact absurd HA.out (by simp [Z50.l0])
    | succ k1 =>
     have H := HA.out
     clear HA
     simp only [Z50.l0] at H
     by_cases c4 : x5_1 < (l0.length : Int)
     · rw [if_pos c4] at H
       have c4b0 : decide (x5_1 < (l0.length : Int)) = true := decide_eq_true c4
       clear c4
       by_cases c5 : 0 ≤ x5_1
       · rw [if_pos c5] at H
         have c5b0 : decide (0 ≤ x5_1) = true := decide_eq_true c5
         clear c5
         by_cases c6 : x5_1 < (l1.length : Int)
         · rw [if_pos c6] at H
           have c6b0 : decide (x5_1 < (l1.length : Int)) = true := decide_eq_true c6
           clear c6
           by_cases c7 : (!(((rd_T24 l0 x5_1).f0) == ((rd_T24 l1 x5_1).f0)) || (!((((rd_T24 l0 x5_1).f1).toList) == (((rd_T24 l1 x5_1).f1).toList)) || (!(((rd_T24 l0 x5_1).f2) == ((rd_T24 l1 x5_1).f2)) || (!(((rd_T24 l0 x5_1).f3) == ((rd_T24 l1 x5_1).f3)) || (!(((rd_T24 l0 x5_1).f4) == ((rd_T24 l1 x5_1).f4)) || (!(((rd_T24 l0 x5_1).f5) == ((rd_T24 l1 x5_1).f5)))))))) = true
           · rw [if_pos c7] at H
             have c7b0 : (!(((rd_T24 l0 x5_1).f0) == ((rd_T24 l1 x5_1).f0)) || (!((((rd_T24 l0 x5_1).f1).toList) == (((rd_T24 l1 x5_1).f1).toList)) || (!(((rd_T24 l0 x5_1).f2) == ((rd_T24 l1 x5_1).f2)) || (!(((rd_T24 l0 x5_1).f3) == ((rd_T24 l1 x5_1).f3)) || (!(((rd_T24 l0 x5_1).f4) == ((rd_T24 l1 x5_1).f4)) || (!(((rd_T24 l0 x5_1).f5) == ((rd_T24 l1 x5_1).f5)))))))) = true := c7
             clear c7
             obtain rfl := Option.some.inj H
             have p309 : 0 ≤ (x5_1 : Int) := of_decide_eq_true (by first | (with_reducible assumption) | assumption)
             have q309 : x5_1 < (l0.length : Int) := of_decide_eq_true (by first | (with_reducible assumption) | assumption)
             obtain ⟨ad309, e309, hx309_0, hx309_1, hx309_2, hx309_3, hx309_4, hx309_5⟩ := at_T24 HR0.out x5_1 p309 q309
             cases e309
             replace p309 := eq_true p309
             replace q309 := eq_true q309
             have p310 : 0 ≤ (x5_1 : Int) := of_decide_eq_true (by first | (with_reducible assumption) | assumption)
             have q310 : x5_1 < (l1.length : Int) := of_decide_eq_true (by first | (with_reducible assumption) | assumption)
             obtain ⟨ad310, e310, hx310_0, hx310_1, hx310_2, hx310_3, hx310_4, hx310_5⟩ := at_T24 HR1.out x5_1 p310 q310
             cases e310
             replace p310 := eq_true p310
             replace q310 := eq_true q310
             go_wp2
             repeat (go_quiet (fail); try go_wp2)
             go_ret
             exact ⟨by first | rfl | (simp; done) | (simp [*]; done), by repeat (first | exact Drawn0.refl _ | apply Drawn0.step)⟩
           · rw [if_neg c7] at H
             have c7b0 : (!(((rd_T24 l0 x5_1).f0) == ((rd_T24 l1 x5_1).f0)) || (!((((rd_T24 l0 x5_1).f1).toList) == (((rd_T24 l1 x5_1).f1).toList)) || (!(((rd_T24 l0 x5_1).f2) == ((rd_T24 l1 x5_1).f2)) || (!(((rd_T24 l0 x5_1).f3) == ((rd_T24 l1 x5_1).f3)) || (!(((rd_T24 l0 x5_1).f4) == ((rd_T24 l1 x5_1).f4)) || (!(((rd_T24 l0 x5_1).f5) == ((rd_T24 l1 x5_1).f5)))))))) = false := by simpa using c7
             clear c7
             have H' := Aside0.mk H
             clear H
             have p309 : 0 ≤ (x5_1 : Int) := of_decide_eq_true (by first | (with_reducible assumption) | assumption)
             have q309 : x5_1 < (l0.length : Int) := of_decide_eq_true (by first | (with_reducible assumption) | assumption)
             obtain ⟨ad309, e309, hx309_0, hx309_1, hx309_2, hx309_3, hx309_4, hx309_5⟩ := at_T24 HR0.out x5_1 p309 q309
             cases e309
             replace p309 := eq_true p309
             replace q309 := eq_true q309
             have p310 : 0 ≤ (x5_1 : Int) := of_decide_eq_true (by first | (with_reducible assumption) | assumption)
             have q310 : x5_1 < (l1.length : Int) := of_decide_eq_true (by first | (with_reducible assumption) | assumption)
             obtain ⟨ad310, e310, hx310_0, hx310_1, hx310_2, hx310_3, hx310_4, hx310_5⟩ := at_T24 HR1.out x5_1 p310 q310
             cases e310
             replace p310 := eq_true p310
             replace q310 := eq_true q310
             go_wp2
             repeat (go_quiet (fail); try go_wp2)
             go_roundg k1
             case measure => have := HK1.out; omega
             case rel => exact ⟨(wrap64 (x5_1 + 1)), (by first | rfl | (simp; done) | (simp [*]; done)), H', ⟨by have := HK1.out; omega⟩, by repeat (first | exact Drawn0.refl _ | apply Drawn0.step)⟩
         · rw [if_neg c6] at H
           exact absurd H (by simp)
       · rw [if_neg c5] at H
         exact absurd H (by simp)
     · rw [if_neg c4] at H
       have c4b0 : decide (x5_1 < (l0.length : Int)) = false := decide_eq_false c4
       clear c4
       obtain rfl := Option.some.inj H
       go_wp2
       repeat (go_quiet (fail); try go_wp2)
       go_ret
       exact ⟨by first | rfl | (simp; done) | (simp [*]; done), by repeat (first | exact Drawn0.refl _ | apply Drawn0.step)⟩
 · rw [if_neg c3] at H
   have c3b0 : ((l0.length : Int) == (l1.length : Int)) = false := beq_eq_false_iff_ne.mpr c3
   have c3b1 : ((l0.length : Int) != (l1.length : Int)) = true := bne_iff_ne.mpr c3
   have c3b2 : (l0.length == l1.length) = false := by first | simpa using c3 | (simp at c3 ⊢; omega)
   obtain rfl := Option.some.inj H
   go_enter Tryd.func14, Tryd.ntmps14
   go_wp2
   repeat (go_quiet (fail); try go_wp2)
   go_ret
   exact ⟨by first | rfl | (simp; done) | (simp [*]; done), by repeat (first | exact Drawn0.refl _ | apply Drawn0.step)⟩
end Go.Proofs.YtbmfadmoficfiaaDoor.Q
