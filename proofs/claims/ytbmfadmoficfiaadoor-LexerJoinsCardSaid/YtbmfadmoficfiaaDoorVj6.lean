/- A part of the proof, made small by a program: Qx7. -/
import Derived.Test.YtbmfadmoficfiaaDoorVj2
import Derived.Test.YtbmfadmoficfiaaDoorVj4
import Derived.Test.YtbmfadmoficfiaaDoorVj5
namespace Go.Proofs.YtbmfadmoficfiaaDoor.Q
open Go.RowKit Go.Proofs.YtbmfadmoficfiaaDoorW.PrintWords Go.Proofs.YtbmfadmoficfiaaDoorW.PrintLast Go.Proofs.YtbmfadmoficfiaaDoorW.PrintMore
attribute [local go_sem] Z56 Z54 Z61 Z60 Z49 Z48 Z55 Z53
set_option linter.unusedVariables false
set_option linter.unusedSimpArgs false
mutual
def Z12.j0 : Nat → ByteArray → Int → Int → Bool → Int → ByteArray → Int → Bool → Int → Int → Option (Int × ByteArray × Int × Bool × Int × Int × Bool)
 | 0, _, _, _, _, _, _, _, _, _, _ => none
 | k + 1, x0, x7, x8, x38, x109000, x109001, x109002, x109003, x109004, x109005 => if x38 = true then (Z12.j1 k x0 16 (wrap64 (x8 + 2)) x109000 x109001 x109002 x109003 x109004 x109005) else (Z12.j1 k x0 x7 x8 x109000 x109001 x109002 x109003 x109004 x109005)
def Z12.j1 : Nat → ByteArray → Int → Int → Int → ByteArray → Int → Bool → Int → Int → Option (Int × ByteArray × Int × Bool × Int × Int × Bool)
 | 0, _, _, _, _, _, _, _, _, _ => none
 | k + 1, x0, x7, x8, x109000, x109001, x109002, x109003, x109004, x109005 => Z12.l0 k x0 x7 x8 x8 0 x109000 x109001 x109002 x109003 x109004 x109005
def Z12.l0 : Nat → ByteArray → Int → Int → Int → Int → Int → ByteArray → Int → Bool → Int → Int → Option (Int × ByteArray × Int × Bool × Int × Int × Bool)
 | 0, _, _, _, _, _, _, _, _, _, _, _ => none
 | k + 1, x0, x7, x8, x9, x10, x109000, x109001, x109002, x109003, x109004, x109005 => if x8 < (x0.size : Int) then (if 0 ≤ x8 then ((Z13.f k (bt x0 x8)).bind fun t109 => (Z12.j3 k x0 x7 x8 x9 x10 (decide (t109 < x7)) x109000 x109001 x109002 x109003 x109004 x109005)) else (none)) else (Z12.j3 k x0 x7 x8 x9 x10 false x109000 x109001 x109002 x109003 x109004 x109005)
def Z12.j3 : Nat → ByteArray → Int → Int → Int → Int → Bool → Int → ByteArray → Int → Bool → Int → Int → Option (Int × ByteArray × Int × Bool × Int × Int × Bool)
 | 0, _, _, _, _, _, _, _, _, _, _, _, _ => none
 | k + 1, x0, x7, x8, x9, x10, x53, x109000, x109001, x109002, x109003, x109004, x109005 => if x53 = true then (if 0 ≤ x8 then (if x8 < (x0.size : Int) then ((Z13.f k (bt x0 x8)).bind fun t110 => (if (IntKind.u64.wrap ((IntKind.u64.wrap (x10 * (IntKind.u64.wrap (x7)))) + (IntKind.u64.wrap (t110)))) ≥ 4294967296 then (some (x109000, x109001, x109002, x109003, x109004, x109005, false)) else (Z12.l0 k x0 x7 (wrap64 (x8 + 1)) x9 (IntKind.u64.wrap ((IntKind.u64.wrap (x10 * (IntKind.u64.wrap (x7)))) + (IntKind.u64.wrap (t110)))) x109000 x109001 x109002 x109003 x109004 x109005))) else (none)) else (none)) else (if x8 = x9 then (Z12.j4 k x0 x8 x10 true x109000 x109001 x109002 x109003 x109004 x109005) else (if x7 = 10 then (if (wrap64 (x8 - x9)) > 1 then (if 0 ≤ x9 then (if x9 < (x0.size : Int) then (Z12.j4 k x0 x8 x10 ((bt x0 x9) == 48) x109000 x109001 x109002 x109003 x109004 x109005) else (none)) else (none)) else (Z12.j4 k x0 x8 x10 false x109000 x109001 x109002 x109003 x109004 x109005)) else (Z12.j4 k x0 x8 x10 false x109000 x109001 x109002 x109003 x109004 x109005)))
def Z12.j4 : Nat → ByteArray → Int → Int → Bool → Int → ByteArray → Int → Bool → Int → Int → Option (Int × ByteArray × Int × Bool × Int × Int × Bool)
 | 0, _, _, _, _, _, _, _, _, _, _ => none
 | k + 1, x0, x8, x10, x87, x109000, x109001, x109002, x109003, x109004, x109005 => if x87 = true then (some (x109000, x109001, x109002, x109003, x109004, x109005, false)) else (if x8 < (x0.size : Int) then (if 0 ≤ x8 then (if (bt x0 x8) = 117 then (if (wrap64 (x8 + 1)) ≥ (x0.size : Int) then (some (x109000, x109001, (x10) % 4294967296, true, x109004, wrap64 (x8 + 1), true)) else (if 0 ≤ (wrap64 (x8 + 1)) then (if (wrap64 (x8 + 1)) < (x0.size : Int) then ((Z37.f (bt x0 (wrap64 (x8 + 1)))).bind fun t111 => (some (x109000, x109001, (x10) % 4294967296, true, x109004, wrap64 (x8 + 1), !t111))) else (none)) else (none))) else (if (bt x0 x8) = 85 then (if (wrap64 (x8 + 1)) ≥ (x0.size : Int) then (some (x109000, x109001, (x10) % 4294967296, true, x109004, wrap64 (x8 + 1), true)) else (if 0 ≤ (wrap64 (x8 + 1)) then (if (wrap64 (x8 + 1)) < (x0.size : Int) then ((Z37.f (bt x0 (wrap64 (x8 + 1)))).bind fun t112 => (some (x109000, x109001, (x10) % 4294967296, true, x109004, wrap64 (x8 + 1), !t112))) else (none)) else (none))) else (if x8 ≥ (x0.size : Int) then (some (x109000, x109001, (x10) % 4294967296, decide (x10 ≥ 2147483648), x109004, x8, true)) else ((Z37.f (bt x0 x8)).bind fun t113 => (some (x109000, x109001, (x10) % 4294967296, decide (x10 ≥ 2147483648), x109004, x8, !t113)))))) else (none)) else (if x8 ≥ (x0.size : Int) then (some (x109000, x109001, (x10) % 4294967296, decide (x10 ≥ 2147483648), x109004, x8, true)) else (if 0 ≤ x8 then (none) else (none))))
end
def Z12.f (k : Nat) (a0 : ByteArray) (a1 : Int) : Option (Int × ByteArray × Int × Bool × Int × Int × Bool) := if (wrap64 (a1 + 1)) < (a0.size : Int) then (if 0 ≤ a1 then (if a1 < (a0.size : Int) then (if (bt a0 a1) = 48 then (if 0 ≤ (wrap64 (a1 + 1)) then (if (bt a0 (wrap64 (a1 + 1))) = 120 then (Z12.j0 k a0 10 a1 true 5 (⟨#[]⟩ : ByteArray) 0 false a1 0) else (Z12.j0 k a0 10 a1 ((bt a0 (wrap64 (a1 + 1))) == 88) 5 (⟨#[]⟩ : ByteArray) 0 false a1 0)) else (none)) else (Z12.j0 k a0 10 a1 false 5 (⟨#[]⟩ : ByteArray) 0 false a1 0)) else (none)) else (none)) else (Z12.j0 k a0 10 a1 false 5 (⟨#[]⟩ : ByteArray) 0 false a1 0)
theorem Z12.mono_l : ∀ k, (∀ y0 y1 y2 y3 y4 y5 y6 y7 y8 y9, LeO (Z12.j0 k y0 y1 y2 y3 y4 y5 y6 y7 y8 y9) (Z12.j0 (k + 1) y0 y1 y2 y3 y4 y5 y6 y7 y8 y9)) ∧ (∀ y0 y1 y2 y3 y4 y5 y6 y7 y8, LeO (Z12.j1 k y0 y1 y2 y3 y4 y5 y6 y7 y8) (Z12.j1 (k + 1) y0 y1 y2 y3 y4 y5 y6 y7 y8)) ∧ (∀ y0 y1 y2 y3 y4 y5 y6 y7 y8 y9 y10, LeO (Z12.l0 k y0 y1 y2 y3 y4 y5 y6 y7 y8 y9 y10) (Z12.l0 (k + 1) y0 y1 y2 y3 y4 y5 y6 y7 y8 y9 y10)) ∧ (∀ y0 y1 y2 y3 y4 y5 y6 y7 y8 y9 y10 y11, LeO (Z12.j3 k y0 y1 y2 y3 y4 y5 y6 y7 y8 y9 y10 y11) (Z12.j3 (k + 1) y0 y1 y2 y3 y4 y5 y6 y7 y8 y9 y10 y11)) ∧ (∀ y0 y1 y2 y3 y4 y5 y6 y7 y8 y9, LeO (Z12.j4 k y0 y1 y2 y3 y4 y5 y6 y7 y8 y9) (Z12.j4 (k + 1) y0 y1 y2 y3 y4 y5 y6 y7 y8 y9))
 | 0 => ⟨fun _ _ _ _ _ _ _ _ _ _ r h => by simp [Z12.j0] at h, fun _ _ _ _ _ _ _ _ _ r h => by simp [Z12.j1] at h, fun _ _ _ _ _ _ _ _ _ _ _ r h => by simp [Z12.l0] at h, fun _ _ _ _ _ _ _ _ _ _ _ _ r h => by simp [Z12.j3] at h, fun _ _ _ _ _ _ _ _ _ _ r h => by simp [Z12.j4] at h⟩
 | k + 1 => by
  obtain ⟨ih0, ih1, ih2, ih3, ih4⟩ := Z12.mono_l k
  refine ⟨?_, ?_, ?_, ?_, ?_⟩
  · intro y0 y1 y2 y3 y4 y5 y6 y7 y8 y9
    unfold Z12.j0
    repeat' first
    | (with_reducible exact ih0 _ _ _ _ _ _ _ _ _ _)
    | (with_reducible exact ih1 _ _ _ _ _ _ _ _ _)
    | (with_reducible exact ih2 _ _ _ _ _ _ _ _ _ _ _)
    | (with_reducible exact ih3 _ _ _ _ _ _ _ _ _ _ _ _)
    | (with_reducible exact ih4 _ _ _ _ _ _ _ _ _ _)
    | (with_reducible exact Z13.mono _ _)
    | (with_reducible exact LeO.refl _)
    | (with_reducible exact LeO.none _)
    | (with_reducible refine LeO.ite ?_ ?_)
    | (with_reducible refine LeO.bind ?_ (fun _ => ?_))
    | exact ih0 _ _ _ _ _ _ _ _ _ _
    | exact ih1 _ _ _ _ _ _ _ _ _
    | exact ih2 _ _ _ _ _ _ _ _ _ _ _
    | exact ih3 _ _ _ _ _ _ _ _ _ _ _ _
    | exact ih4 _ _ _ _ _ _ _ _ _ _
    | exact Z13.mono _ _
    | exact LeO.none _
    | refine LeO.ite ?_ ?_
    | refine LeO.bind ?_ (fun _ => ?_)
  · intro y0 y1 y2 y3 y4 y5 y6 y7 y8
    unfold Z12.j1
    repeat' first
    | (with_reducible exact ih0 _ _ _ _ _ _ _ _ _ _)
    | (with_reducible exact ih1 _ _ _ _ _ _ _ _ _)
    | (with_reducible exact ih2 _ _ _ _ _ _ _ _ _ _ _)
    | (with_reducible exact ih3 _ _ _ _ _ _ _ _ _ _ _ _)
    | (with_reducible exact ih4 _ _ _ _ _ _ _ _ _ _)
    | (with_reducible exact Z13.mono _ _)
    | (with_reducible exact LeO.refl _)
    | (with_reducible exact LeO.none _)
    | (with_reducible refine LeO.ite ?_ ?_)
    | (with_reducible refine LeO.bind ?_ (fun _ => ?_))
    | exact ih0 _ _ _ _ _ _ _ _ _ _
    | exact ih1 _ _ _ _ _ _ _ _ _
    | exact ih2 _ _ _ _ _ _ _ _ _ _ _
    | exact ih3 _ _ _ _ _ _ _ _ _ _ _ _
    | exact ih4 _ _ _ _ _ _ _ _ _ _
    | exact Z13.mono _ _
    | exact LeO.none _
    | refine LeO.ite ?_ ?_
    | refine LeO.bind ?_ (fun _ => ?_)
  · intro y0 y1 y2 y3 y4 y5 y6 y7 y8 y9 y10
    unfold Z12.l0
    repeat' first
    | (with_reducible exact ih0 _ _ _ _ _ _ _ _ _ _)
    | (with_reducible exact ih1 _ _ _ _ _ _ _ _ _)
    | (with_reducible exact ih2 _ _ _ _ _ _ _ _ _ _ _)
    | (with_reducible exact ih3 _ _ _ _ _ _ _ _ _ _ _ _)
    | (with_reducible exact ih4 _ _ _ _ _ _ _ _ _ _)
    | (with_reducible exact Z13.mono _ _)
    | (with_reducible exact LeO.refl _)
    | (with_reducible exact LeO.none _)
    | (with_reducible refine LeO.ite ?_ ?_)
    | (with_reducible refine LeO.bind ?_ (fun _ => ?_))
    | exact ih0 _ _ _ _ _ _ _ _ _ _
    | exact ih1 _ _ _ _ _ _ _ _ _
    | exact ih2 _ _ _ _ _ _ _ _ _ _ _
    | exact ih3 _ _ _ _ _ _ _ _ _ _ _ _
    | exact ih4 _ _ _ _ _ _ _ _ _ _
    | exact Z13.mono _ _
    | exact LeO.none _
    | refine LeO.ite ?_ ?_
    | refine LeO.bind ?_ (fun _ => ?_)
  · intro y0 y1 y2 y3 y4 y5 y6 y7 y8 y9 y10 y11
    unfold Z12.j3
    repeat' first
    | (with_reducible exact ih0 _ _ _ _ _ _ _ _ _ _)
    | (with_reducible exact ih1 _ _ _ _ _ _ _ _ _)
    | (with_reducible exact ih2 _ _ _ _ _ _ _ _ _ _ _)
    | (with_reducible exact ih3 _ _ _ _ _ _ _ _ _ _ _ _)
    | (with_reducible exact ih4 _ _ _ _ _ _ _ _ _ _)
    | (with_reducible exact Z13.mono _ _)
    | (with_reducible exact LeO.refl _)
    | (with_reducible exact LeO.none _)
    | (with_reducible refine LeO.ite ?_ ?_)
    | (with_reducible refine LeO.bind ?_ (fun _ => ?_))
    | exact ih0 _ _ _ _ _ _ _ _ _ _
    | exact ih1 _ _ _ _ _ _ _ _ _
    | exact ih2 _ _ _ _ _ _ _ _ _ _ _
    | exact ih3 _ _ _ _ _ _ _ _ _ _ _ _
    | exact ih4 _ _ _ _ _ _ _ _ _ _
    | exact Z13.mono _ _
    | exact LeO.none _
    | refine LeO.ite ?_ ?_
    | refine LeO.bind ?_ (fun _ => ?_)
  · intro y0 y1 y2 y3 y4 y5 y6 y7 y8 y9
    unfold Z12.j4
    repeat' first
    | (with_reducible exact ih0 _ _ _ _ _ _ _ _ _ _)
    | (with_reducible exact ih1 _ _ _ _ _ _ _ _ _)
    | (with_reducible exact ih2 _ _ _ _ _ _ _ _ _ _ _)
    | (with_reducible exact ih3 _ _ _ _ _ _ _ _ _ _ _ _)
    | (with_reducible exact ih4 _ _ _ _ _ _ _ _ _ _)
    | (with_reducible exact Z13.mono _ _)
    | (with_reducible exact LeO.refl _)
    | (with_reducible exact LeO.none _)
    | (with_reducible refine LeO.ite ?_ ?_)
    | (with_reducible refine LeO.bind ?_ (fun _ => ?_))
    | exact ih0 _ _ _ _ _ _ _ _ _ _
    | exact ih1 _ _ _ _ _ _ _ _ _
    | exact ih2 _ _ _ _ _ _ _ _ _ _ _
    | exact ih3 _ _ _ _ _ _ _ _ _ _ _ _
    | exact ih4 _ _ _ _ _ _ _ _ _ _
    | exact Z13.mono _ _
    | exact LeO.none _
    | refine LeO.ite ?_ ?_
    | refine LeO.bind ?_ (fun _ => ?_)
theorem Z12.mono : ∀ a0 a1 k, LeO (Z12.f k a0 a1) (Z12.f (k + 1) a0 a1) := by
 intro a0 a1 k
 obtain ⟨ih0, ih1, ih2, ih3, ih4⟩ := Z12.mono_l k
 unfold Z12.f
 repeat' first
  | (with_reducible exact ih0 _ _ _ _ _ _ _ _ _ _)
  | (with_reducible exact ih1 _ _ _ _ _ _ _ _ _)
  | (with_reducible exact ih2 _ _ _ _ _ _ _ _ _ _ _)
  | (with_reducible exact ih3 _ _ _ _ _ _ _ _ _ _ _ _)
  | (with_reducible exact ih4 _ _ _ _ _ _ _ _ _ _)
  | (with_reducible exact Z13.mono _ _)
  | (with_reducible exact LeO.refl _)
  | (with_reducible exact LeO.none _)
  | (with_reducible refine LeO.ite ?_ ?_)
  | (with_reducible refine LeO.bind ?_ (fun _ => ?_))
  | exact ih0 _ _ _ _ _ _ _ _ _ _
  | exact ih1 _ _ _ _ _ _ _ _ _
  | exact ih2 _ _ _ _ _ _ _ _ _ _ _
  | exact ih3 _ _ _ _ _ _ _ _ _ _ _ _
  | exact ih4 _ _ _ _ _ _ _ _ _ _
  | exact Z13.mono _ _
  | exact LeO.none _
  | refine LeO.ite ?_ ?_
  | refine LeO.bind ?_ (fun _ => ?_)
def Z12.T20 : Bool × List (List Nat × List Nat) := (true, [([], []), ([], []), ([], []), ([2], [2]), ([1, 3], [1, 3]), ([4], [4]), ([5], [5]), ([5], [5]), ([6, 7, 5], [5, 6, 7]), ([8, 5, 5], [5, 8]), ([9, 5], [5, 9]), ([5, 10], [5, 10]), ([0, 9, 0], [0]), ([11, 12, 0, 1, 2, 3, 4, 5, 6, 7, 8, 9, 10, 11, 12], [11])])
def Z12.B20 : List Nat := [0, 0, 0, 4, 14, 30, 62, 62, 254, 510, 1022, 2046, 1023, 8191]
theorem Z12.tab20 : rtab .any (opsOf Tryd.f23 20) = Z12.T20 := by kernel_rfl
theorem Z12.bits20 : waitsOk Z12.T20.2 Z12.B20 = true := by kernel_rfl
set_option maxHeartbeats 8000000 in
set_option maxRecDepth 100000 in
theorem Z12.calls (k : Nat) (a0 : ByteArray) (a1 : Int) (r1 : Int) (r2 : ByteArray) (r3 : Int) (r4 : Bool) (r5 : Int) (r6 : Int) (r7 : Bool) (w : World) (h : Z12.f k a0 a1 = some (r1, r2, r3, r4, r5, r6, r7)) :
 Calls Tryd.prog 23 #[.string a0, .int .i64 a1] w fun e w' => e = .returned (.tuple #[.agg #[.int .i64 r1, .string r2, .int .u32 r3, .bool r4, .int .i64 r5, .int .i64 r6], .bool r7]) ∧ Below w.heap.size w w' := by
 have hu24 := Tryd.underlying24
 have HB := Aside0.mk (Below.refl w.heap.size w)
 have H : (if (wrap64 (a1 + 1)) < (a0.size : Int) then (if 0 ≤ a1 then (if a1 < (a0.size : Int) then (if (bt a0 a1) = 48 then (if 0 ≤ (wrap64 (a1 + 1)) then (if (bt a0 (wrap64 (a1 + 1))) = 120 then (Z12.j0 k a0 10 a1 true 5 (⟨#[]⟩ : ByteArray) 0 false a1 0) else (Z12.j0 k a0 10 a1 ((bt a0 (wrap64 (a1 + 1))) == 88) 5 (⟨#[]⟩ : ByteArray) 0 false a1 0)) else (none)) else (Z12.j0 k a0 10 a1 false 5 (⟨#[]⟩ : ByteArray) 0 false a1 0)) else (none)) else (none)) else (Z12.j0 k a0 10 a1 false 5 (⟨#[]⟩ : ByteArray) 0 false a1 0)) = some (r1, r2, r3, r4, r5, r6, r7) := h
 clear h
 have HC3 := Aside0.mk H
 clear H
 go_enter Tryd.func23, Tryd.ntmps23
 go_upto_region 3 with (first | ((with_reducible refine Z52 (N := 4) rfl ?_); refine Z51 ?hg (N := 4) ?hd (cs := #[.int .i64 0, .string (⟨#[]⟩ : ByteArray), .int .u32 0, .bool false, .int .i64 0, .int .i64 0]) (t := 24) ?hr ?_; (case hd => rfl); (case hg => rfl); (case hr => first | (go_simp; done) | (go_simp; rfl)); intro gb107 hg w4 hbox hb; have n0_ := Aside0.mk (Z25 (by repeat (first | (with_reducible first | exact HB.out | apply Z7 | apply Z4 | apply Z6) | exact HB.out)) hb); have n1_ := Aside0.mk (hbox); have n2_ := Aside0.mk ((by rw [hg]; exact (Z27 (by repeat (first | (with_reducible first | exact HB.out | apply Z7 | apply Z4 | apply Z6) | exact HB.out))) : w.heap.size ≤ gb107)); have n3_ := Aside0.mk ((by rw [hg]; exact (Z27 (by repeat (first | (with_reducible first | exact HB.out | apply Z7 | apply Z4 | apply Z6) | exact HB.out))) : w.heap.size ≤ gb107)); clear HB; have HB := n0_; have BK107 := n1_; have GW107 := n2_; have GE107 := n3_; clear n0_ n1_ n2_ n3_; clear hb hbox hg) | ((with_reducible refine Z52 (N := 6) rfl ?_); refine Z51 ?hg (N := 6) ?hd (cs := #[.int .i64 0, .string (⟨#[]⟩ : ByteArray), .int .u32 0, .bool false, .int .i64 0, .int .i64 0]) (t := 24) ?hr ?_; (case hd => rfl); (case hg => rfl); (case hr => first | (go_simp; done) | (go_simp; rfl)); intro gb108 hg w5 hbox hb; have n0_ := Aside0.mk (Z40 (g := gb107) (o := .cells #[.int .i64 0, .string (⟨#[]⟩ : ByteArray), .int .u32 0, .bool false, .int .i64 0, .int .i64 0] 24 (0, 0)) (by (with_reducible repeat (first | refine Z0 ?_ _ | refine Z3 ?_ | refine Z1 ?_ _)); exact BK107.out) hb); have n1_ := Aside0.mk (Z25 (by repeat (first | (with_reducible first | exact HB.out | apply Z7 | apply Z4 | apply Z6 | refine Z8 ?_ GE107.out) | exact HB.out)) hb); have n2_ := Aside0.mk (hbox); have n3_ := Aside0.mk ((by rw [hg]; exact (Z27 (by repeat (first | (with_reducible first | exact HB.out | apply Z7 | apply Z4 | apply Z6 | refine Z8 ?_ GE107.out) | exact HB.out))) : w.heap.size ≤ gb108)); have n4_ := Aside0.mk ((by rw [hg]; exact (Z27 (by repeat (first | (with_reducible first | exact HB.out | apply Z7 | apply Z4 | apply Z6 | refine Z8 ?_ GE107.out) | exact HB.out))) : w.heap.size ≤ gb108)); have n5_ := Aside0.mk ((by rw [hg]; exact Nat.ne_of_lt (blk_lt (g := gb107) (o := .cells #[.int .i64 0, .string (⟨#[]⟩ : ByteArray), .int .u32 0, .bool false, .int .i64 0, .int .i64 0] 24 (0, 0)) (by (with_reducible repeat (first | refine Z0 ?_ _ | refine Z3 ?_ | refine Z1 ?_ _)); exact BK107.out)) : gb107 ≠ gb108)); have n6_ := Aside0.mk ((by rw [hg]; exact Nat.ne_of_gt (blk_lt (g := gb107) (o := .cells #[.int .i64 0, .string (⟨#[]⟩ : ByteArray), .int .u32 0, .bool false, .int .i64 0, .int .i64 0] 24 (0, 0)) (by (with_reducible repeat (first | refine Z0 ?_ _ | refine Z3 ?_ | refine Z1 ?_ _)); exact BK107.out)) : gb108 ≠ gb107)); clear BK107; clear HB; have BK107 := n0_; have HB := n1_; have BK108 := n2_; have GW108 := n3_; have GE108 := n4_; have NB107_108 := n5_; have NB108_107 := n6_; clear n0_ n1_ n2_ n3_ n4_ n5_ n6_; clear hb hbox hg; have hnb6 := NB108_107.out; have hnc6 := NB107_108.out; have hcz7_0 : w5.cell? ⟨gb108, 0, none⟩ = some (.int .i64 0) := (Z5 BK108.out 0).trans rfl; have hcz7_1 : w5.cell? ⟨gb108, 1, none⟩ = some (.string (⟨#[]⟩ : ByteArray)) := (Z5 BK108.out 1).trans rfl; have hcz7_2 : w5.cell? ⟨gb108, 2, none⟩ = some (.int .u32 0) := (Z5 BK108.out 2).trans rfl; have hcz7_3 : w5.cell? ⟨gb108, 3, none⟩ = some (.bool false) := (Z5 BK108.out 3).trans rfl; have hcz7_4 : w5.cell? ⟨gb108, 4, none⟩ = some (.int .i64 0) := (Z5 BK108.out 4).trans rfl; have hcz7_5 : w5.cell? ⟨gb108, 5, none⟩ = some (.int .i64 0) := (Z5 BK108.out 5).trans rfl; have hfz7_0 := Z2 BK108.out 0; have hfz7_1 := Z2 BK108.out 1; have hfz7_2 := Z2 BK108.out 2; have hfz7_3 := Z2 BK108.out 3; have hfz7_4 := Z2 BK108.out 4; have hfz7_5 := Z2 BK108.out 5))
 (try simp only [Act.put, List.setIfInBounds_toArray, List.set_cons_zero, List.set_cons_succ])
 go_cut [38] (fun v38 wc => ∃ (kq : Nat) (x38_2 : Bool), v38 = .bool x38_2 ∧ Aside0 (Z12.j0 kq a0 10 a1 x38_2 5 (⟨#[]⟩ : ByteArray) 0 false a1 0 = some (r1, r2, r3, r4, r5, r6, r7)) ∧ Aside0 (kq ≤ k) ∧ Aside0 (wc.heap[gb107]? = some (.cells #[.int .i64 0, .string (⟨#[]⟩ : ByteArray), .int .u32 0, .bool false, .int .i64 0, .int .i64 0] 24 (0, 0))) ∧ Aside0 (wc.heap[gb108]? = some (.cells #[.int .i64 5, .string (⟨#[]⟩ : ByteArray), .int .u32 0, .bool false, .int .i64 a1, .int .i64 0] 24 (0, 0))) ∧ Aside0 (Below w.heap.size w wc))
 case first =>
  have H := HC3.out
  clear HC3
  by_cases c8 : (wrap64 (a1 + 1)) < (a0.size : Int)
  · rw [if_pos c8] at H
    have c8b0 : decide ((wrap64 (a1 + 1)) < (a0.size : Int)) = true := decide_eq_true c8
    clear c8
    (first | rw [c8b0] | (simp only [i64_w, i32_w]; rw [c8b0]) | skip)
    by_cases c9 : 0 ≤ a1
    · rw [if_pos c9] at H
      have c9b0 : decide (0 ≤ a1) = true := decide_eq_true c9
      clear c9
      by_cases c10 : a1 < (a0.size : Int)
      · rw [if_pos c10] at H
        have c10b0 : decide (a1 < (a0.size : Int)) = true := decide_eq_true c10
        clear c10
        by_cases c12 : (bt a0 a1) = 48
        · rw [if_pos c12] at H
          have c12b0 : ((bt a0 a1) == 48) = true := beq_iff_eq.mpr c12
          have c12b1 : ((bt a0 a1) != 48) = false := bne_eq_false_iff_eq.mpr c12
          clear c12
          obtain ⟨ji13, hji13⟩ : ∃ j_ : Int, (wrap64 (a1 + 1)) = j_ := ⟨_, rfl⟩
          replace H : (if 0 ≤ (ji13) then (if (bt a0 (ji13)) = 120 then (Z12.j0 k a0 10 a1 true 5 (⟨#[]⟩ : ByteArray) 0 false a1 0) else (Z12.j0 k a0 10 a1 ((bt a0 (ji13)) == 88) 5 (⟨#[]⟩ : ByteArray) 0 false a1 0)) else (none)) = some (r1, r2, r3, r4, r5, r6, r7) := by first | (rw [hji13] at H; exact H) | (simp only [hji13] at H ⊢; exact H)
          (try rw [hji13] at c8b0)
          have hji13w : (IntKind.i64.wrap (a1 + 1)) = ji13 := (i64_w _).trans hji13
          by_cases c14 : 0 ≤ (ji13)
          · rw [if_pos c14] at H
            have c14b0 : decide (0 ≤ (ji13)) = true := decide_eq_true c14
            clear c14
            by_cases c16 : (bt a0 (ji13)) = 120
            · rw [if_pos c16] at H
              have c16b0 : ((bt a0 (ji13)) == 120) = true := beq_iff_eq.mpr c16
              have c16b1 : ((bt a0 (ji13)) != 120) = false := bne_eq_false_iff_eq.mpr c16
              clear c16
              have H' := Aside0.mk H
              clear H
              have p11 : 0 ≤ (a1 : Int) := of_decide_eq_true (by first | (with_reducible assumption) | assumption)
              have q11 : a1 < (a0.size : Int) := of_decide_eq_true (by first | (with_reducible assumption) | assumption)
              have hx11 := bt_at a0 a1
              replace p11 := eq_true p11
              replace q11 := eq_true q11
              have p15 : 0 ≤ ((ji13) : Int) := of_decide_eq_true (by first | (with_reducible assumption) | assumption)
              have q15 : (ji13) < (a0.size : Int) := of_decide_eq_true (by first | (with_reducible assumption) | assumption)
              have hx15 := bt_at a0 (ji13)
              replace p15 := eq_true p15
              replace q15 := eq_true q15
              go_wp2
              go_meet
              case rel => exact ⟨_, (true), (by first | rfl | (simp; done) | (simp [*]; done)), H', ⟨by first | omega | exact Nat.le_refl _⟩, ⟨by (with_reducible repeat (first | refine Z0 ?_ _ | refine Z3 ?_ | refine Z1 ?_ _)); refine Z22 ?_ NB107_108.out _; (with_reducible repeat (first | refine Z0 ?_ _ | refine Z3 ?_ | refine Z1 ?_ _)); refine Z22 ?_ NB107_108.out _; (with_reducible repeat (first | refine Z0 ?_ _ | refine Z3 ?_ | refine Z1 ?_ _)); refine Z22 ?_ NB107_108.out _; (with_reducible repeat (first | refine Z0 ?_ _ | refine Z3 ?_ | refine Z1 ?_ _)); refine Z22 ?_ NB107_108.out _; (with_reducible repeat (first | refine Z0 ?_ _ | refine Z3 ?_ | refine Z1 ?_ _)); refine Z22 ?_ NB107_108.out _; (with_reducible repeat (first | refine Z0 ?_ _ | refine Z3 ?_ | refine Z1 ?_ _)); refine Z22 ?_ NB107_108.out _; (with_reducible repeat (first | refine Z0 ?_ _ | refine Z3 ?_ | refine Z1 ?_ _)); exact BK107.out⟩, ⟨by (with_reducible repeat (first | refine Z0 ?_ _ | refine Z3 ?_ | refine Z1 ?_ _)); refine Z9 (cs := #[.int .i64 5, .string (⟨#[]⟩ : ByteArray), .int .u32 0, .bool false, .int .i64 a1, .int .i64 0]) ?_ 5 _ rfl; (with_reducible repeat (first | refine Z0 ?_ _ | refine Z3 ?_ | refine Z1 ?_ _)); refine Z9 (cs := #[.int .i64 5, .string (⟨#[]⟩ : ByteArray), .int .u32 0, .bool false, .int .i64 0, .int .i64 0]) ?_ 4 _ rfl; (with_reducible repeat (first | refine Z0 ?_ _ | refine Z3 ?_ | refine Z1 ?_ _)); refine Z9 (cs := #[.int .i64 5, .string (⟨#[]⟩ : ByteArray), .int .u32 0, .bool false, .int .i64 0, .int .i64 0]) ?_ 3 _ rfl; (with_reducible repeat (first | refine Z0 ?_ _ | refine Z3 ?_ | refine Z1 ?_ _)); refine Z9 (cs := #[.int .i64 5, .string (⟨#[]⟩ : ByteArray), .int .u32 0, .bool false, .int .i64 0, .int .i64 0]) ?_ 2 _ rfl; (with_reducible repeat (first | refine Z0 ?_ _ | refine Z3 ?_ | refine Z1 ?_ _)); refine Z9 (cs := #[.int .i64 5, .string (⟨#[]⟩ : ByteArray), .int .u32 0, .bool false, .int .i64 0, .int .i64 0]) ?_ 1 _ rfl; (with_reducible repeat (first | refine Z0 ?_ _ | refine Z3 ?_ | refine Z1 ?_ _)); refine Z9 (cs := #[.int .i64 0, .string (⟨#[]⟩ : ByteArray), .int .u32 0, .bool false, .int .i64 0, .int .i64 0]) ?_ 0 _ rfl; (with_reducible repeat (first | refine Z0 ?_ _ | refine Z3 ?_ | refine Z1 ?_ _)); exact BK108.out⟩, ⟨by repeat (first | (with_reducible first | exact HB.out | apply Z7 | apply Z4 | apply Z6 | refine Z8 ?_ GE107.out | refine Z8 ?_ GE108.out) | exact HB.out)⟩⟩
            · rw [if_neg c16] at H
              have c16b0 : ((bt a0 (ji13)) == 120) = false := beq_eq_false_iff_ne.mpr c16
              have c16b1 : ((bt a0 (ji13)) != 120) = true := bne_iff_ne.mpr c16
              have H' := Aside0.mk H
              clear H
              have p11 : 0 ≤ (a1 : Int) := of_decide_eq_true (by first | (with_reducible assumption) | assumption)
              have q11 : a1 < (a0.size : Int) := of_decide_eq_true (by first | (with_reducible assumption) | assumption)
              have hx11 := bt_at a0 a1
              replace p11 := eq_true p11
              replace q11 := eq_true q11
              have p15 : 0 ≤ ((ji13) : Int) := of_decide_eq_true (by first | (with_reducible assumption) | assumption)
              have q15 : (ji13) < (a0.size : Int) := of_decide_eq_true (by first | (with_reducible assumption) | assumption)
              have hx15 := bt_at a0 (ji13)
              replace p15 := eq_true p15
              replace q15 := eq_true q15
              have p17 : 0 ≤ ((ji13) : Int) := of_decide_eq_true (by first | (with_reducible assumption) | assumption)
              have q17 : (ji13) < (a0.size : Int) := of_decide_eq_true (by first | (with_reducible assumption) | assumption)
              have hx17 := bt_at a0 (ji13)
              replace p17 := eq_true p17
              replace q17 := eq_true q17
              go_wp2
              go_meet
              case rel => exact ⟨_, (((bt a0 (ji13)) == 88)), (by first | rfl | (simp; done) | (simp only [← hji13] <;> (first | rfl | simp)) | (simp [*]; done)), H', ⟨by first | omega | exact Nat.le_refl _⟩, ⟨by (with_reducible repeat (first | refine Z0 ?_ _ | refine Z3 ?_ | refine Z1 ?_ _)); refine Z22 ?_ NB107_108.out _; (with_reducible repeat (first | refine Z0 ?_ _ | refine Z3 ?_ | refine Z1 ?_ _)); refine Z22 ?_ NB107_108.out _; (with_reducible repeat (first | refine Z0 ?_ _ | refine Z3 ?_ | refine Z1 ?_ _)); refine Z22 ?_ NB107_108.out _; (with_reducible repeat (first | refine Z0 ?_ _ | refine Z3 ?_ | refine Z1 ?_ _)); refine Z22 ?_ NB107_108.out _; (with_reducible repeat (first | refine Z0 ?_ _ | refine Z3 ?_ | refine Z1 ?_ _)); refine Z22 ?_ NB107_108.out _; (with_reducible repeat (first | refine Z0 ?_ _ | refine Z3 ?_ | refine Z1 ?_ _)); refine Z22 ?_ NB107_108.out _; (with_reducible repeat (first | refine Z0 ?_ _ | refine Z3 ?_ | refine Z1 ?_ _)); exact BK107.out⟩, ⟨by (with_reducible repeat (first | refine Z0 ?_ _ | refine Z3 ?_ | refine Z1 ?_ _)); refine Z9 (cs := #[.int .i64 5, .string (⟨#[]⟩ : ByteArray), .int .u32 0, .bool false, .int .i64 a1, .int .i64 0]) ?_ 5 _ rfl; (with_reducible repeat (first | refine Z0 ?_ _ | refine Z3 ?_ | refine Z1 ?_ _)); refine Z9 (cs := #[.int .i64 5, .string (⟨#[]⟩ : ByteArray), .int .u32 0, .bool false, .int .i64 0, .int .i64 0]) ?_ 4 _ rfl; (with_reducible repeat (first | refine Z0 ?_ _ | refine Z3 ?_ | refine Z1 ?_ _)); refine Z9 (cs := #[.int .i64 5, .string (⟨#[]⟩ : ByteArray), .int .u32 0, .bool false, .int .i64 0, .int .i64 0]) ?_ 3 _ rfl; (with_reducible repeat (first | refine Z0 ?_ _ | refine Z3 ?_ | refine Z1 ?_ _)); refine Z9 (cs := #[.int .i64 5, .string (⟨#[]⟩ : ByteArray), .int .u32 0, .bool false, .int .i64 0, .int .i64 0]) ?_ 2 _ rfl; (with_reducible repeat (first | refine Z0 ?_ _ | refine Z3 ?_ | refine Z1 ?_ _)); refine Z9 (cs := #[.int .i64 5, .string (⟨#[]⟩ : ByteArray), .int .u32 0, .bool false, .int .i64 0, .int .i64 0]) ?_ 1 _ rfl; (with_reducible repeat (first | refine Z0 ?_ _ | refine Z3 ?_ | refine Z1 ?_ _)); refine Z9 (cs := #[.int .i64 0, .string (⟨#[]⟩ : ByteArray), .int .u32 0, .bool false, .int .i64 0, .int .i64 0]) ?_ 0 _ rfl; (with_reducible repeat (first | refine Z0 ?_ _ | refine Z3 ?_ | refine Z1 ?_ _)); exact BK108.out⟩, ⟨by repeat (first | (with_reducible first | exact HB.out | apply Z7 | apply Z4 | apply Z6 | refine Z8 ?_ GE107.out | refine Z8 ?_ GE108.out) | exact HB.out)⟩⟩
          · rw [if_neg c14] at H
            exact absurd H (by simp)
        · rw [if_neg c12] at H
          have c12b0 : ((bt a0 a1) == 48) = false := beq_eq_false_iff_ne.mpr c12
          have c12b1 : ((bt a0 a1) != 48) = true := bne_iff_ne.mpr c12
          have H' := Aside0.mk H
          clear H
          have p11 : 0 ≤ (a1 : Int) := of_decide_eq_true (by first | (with_reducible assumption) | assumption)
          have q11 : a1 < (a0.size : Int) := of_decide_eq_true (by first | (with_reducible assumption) | assumption)
          have hx11 := bt_at a0 a1
          replace p11 := eq_true p11
          replace q11 := eq_true q11
          go_wp2
          go_meet
          case rel => exact ⟨_, (false), (by first | rfl | (simp; done) | (simp [*]; done)), H', ⟨by first | omega | exact Nat.le_refl _⟩, ⟨by (with_reducible repeat (first | refine Z0 ?_ _ | refine Z3 ?_ | refine Z1 ?_ _)); refine Z22 ?_ NB107_108.out _; (with_reducible repeat (first | refine Z0 ?_ _ | refine Z3 ?_ | refine Z1 ?_ _)); refine Z22 ?_ NB107_108.out _; (with_reducible repeat (first | refine Z0 ?_ _ | refine Z3 ?_ | refine Z1 ?_ _)); refine Z22 ?_ NB107_108.out _; (with_reducible repeat (first | refine Z0 ?_ _ | refine Z3 ?_ | refine Z1 ?_ _)); refine Z22 ?_ NB107_108.out _; (with_reducible repeat (first | refine Z0 ?_ _ | refine Z3 ?_ | refine Z1 ?_ _)); refine Z22 ?_ NB107_108.out _; (with_reducible repeat (first | refine Z0 ?_ _ | refine Z3 ?_ | refine Z1 ?_ _)); refine Z22 ?_ NB107_108.out _; (with_reducible repeat (first | refine Z0 ?_ _ | refine Z3 ?_ | refine Z1 ?_ _)); exact BK107.out⟩, ⟨by (with_reducible repeat (first | refine Z0 ?_ _ | refine Z3 ?_ | refine Z1 ?_ _)); refine Z9 (cs := #[.int .i64 5, .string (⟨#[]⟩ : ByteArray), .int .u32 0, .bool false, .int .i64 a1, .int .i64 0]) ?_ 5 _ rfl; (with_reducible repeat (first | refine Z0 ?_ _ | refine Z3 ?_ | refine Z1 ?_ _)); refine Z9 (cs := #[.int .i64 5, .string (⟨#[]⟩ : ByteArray), .int .u32 0, .bool false, .int .i64 0, .int .i64 0]) ?_ 4 _ rfl; (with_reducible repeat (first | refine Z0 ?_ _ | refine Z3 ?_ | refine Z1 ?_ _)); refine Z9 (cs := #[.int .i64 5, .string (⟨#[]⟩ : ByteArray), .int .u32 0, .bool false, .int .i64 0, .int .i64 0]) ?_ 3 _ rfl; (with_reducible repeat (first | refine Z0 ?_ _ | refine Z3 ?_ | refine Z1 ?_ _)); refine Z9 (cs := #[.int .i64 5, .string (⟨#[]⟩ : ByteArray), .int .u32 0, .bool false, .int .i64 0, .int .i64 0]) ?_ 2 _ rfl; (with_reducible repeat (first | refine Z0 ?_ _ | refine Z3 ?_ | refine Z1 ?_ _)); refine Z9 (cs := #[.int .i64 5, .string (⟨#[]⟩ : ByteArray), .int .u32 0, .bool false, .int .i64 0, .int .i64 0]) ?_ 1 _ rfl; (with_reducible repeat (first | refine Z0 ?_ _ | refine Z3 ?_ | refine Z1 ?_ _)); refine Z9 (cs := #[.int .i64 0, .string (⟨#[]⟩ : ByteArray), .int .u32 0, .bool false, .int .i64 0, .int .i64 0]) ?_ 0 _ rfl; (with_reducible repeat (first | refine Z0 ?_ _ | refine Z3 ?_ | refine Z1 ?_ _)); exact BK108.out⟩, ⟨by repeat (first | (with_reducible first | exact HB.out | apply Z7 | apply Z4 | apply Z6 | refine Z8 ?_ GE107.out | refine Z8 ?_ GE108.out) | exact HB.out)⟩⟩
      · rw [if_neg c10] at H
        exact absurd H (by simp)
    · rw [if_neg c9] at H
      exact absurd H (by simp)
  · rw [if_neg c8] at H
    have c8b0 : decide ((wrap64 (a1 + 1)) < (a0.size : Int)) = false := decide_eq_false c8
    clear c8
    (first | rw [c8b0] | (simp only [i64_w, i32_w]; rw [c8b0]) | skip)
    have H' := Aside0.mk H
    clear H
    go_wp2
    go_meet
    case rel => exact ⟨_, (false), (by first | rfl | (simp; done) | (simp [*]; done)), H', ⟨by first | omega | exact Nat.le_refl _⟩, ⟨by (with_reducible repeat (first | refine Z0 ?_ _ | refine Z3 ?_ | refine Z1 ?_ _)); refine Z22 ?_ NB107_108.out _; (with_reducible repeat (first | refine Z0 ?_ _ | refine Z3 ?_ | refine Z1 ?_ _)); refine Z22 ?_ NB107_108.out _; (with_reducible repeat (first | refine Z0 ?_ _ | refine Z3 ?_ | refine Z1 ?_ _)); refine Z22 ?_ NB107_108.out _; (with_reducible repeat (first | refine Z0 ?_ _ | refine Z3 ?_ | refine Z1 ?_ _)); refine Z22 ?_ NB107_108.out _; (with_reducible repeat (first | refine Z0 ?_ _ | refine Z3 ?_ | refine Z1 ?_ _)); refine Z22 ?_ NB107_108.out _; (with_reducible repeat (first | refine Z0 ?_ _ | refine Z3 ?_ | refine Z1 ?_ _)); refine Z22 ?_ NB107_108.out _; (with_reducible repeat (first | refine Z0 ?_ _ | refine Z3 ?_ | refine Z1 ?_ _)); exact BK107.out⟩, ⟨by (with_reducible repeat (first | refine Z0 ?_ _ | refine Z3 ?_ | refine Z1 ?_ _)); refine Z9 (cs := #[.int .i64 5, .string (⟨#[]⟩ : ByteArray), .int .u32 0, .bool false, .int .i64 a1, .int .i64 0]) ?_ 5 _ rfl; (with_reducible repeat (first | refine Z0 ?_ _ | refine Z3 ?_ | refine Z1 ?_ _)); refine Z9 (cs := #[.int .i64 5, .string (⟨#[]⟩ : ByteArray), .int .u32 0, .bool false, .int .i64 0, .int .i64 0]) ?_ 4 _ rfl; (with_reducible repeat (first | refine Z0 ?_ _ | refine Z3 ?_ | refine Z1 ?_ _)); refine Z9 (cs := #[.int .i64 5, .string (⟨#[]⟩ : ByteArray), .int .u32 0, .bool false, .int .i64 0, .int .i64 0]) ?_ 3 _ rfl; (with_reducible repeat (first | refine Z0 ?_ _ | refine Z3 ?_ | refine Z1 ?_ _)); refine Z9 (cs := #[.int .i64 5, .string (⟨#[]⟩ : ByteArray), .int .u32 0, .bool false, .int .i64 0, .int .i64 0]) ?_ 2 _ rfl; (with_reducible repeat (first | refine Z0 ?_ _ | refine Z3 ?_ | refine Z1 ?_ _)); refine Z9 (cs := #[.int .i64 5, .string (⟨#[]⟩ : ByteArray), .int .u32 0, .bool false, .int .i64 0, .int .i64 0]) ?_ 1 _ rfl; (with_reducible repeat (first | refine Z0 ?_ _ | refine Z3 ?_ | refine Z1 ?_ _)); refine Z9 (cs := #[.int .i64 0, .string (⟨#[]⟩ : ByteArray), .int .u32 0, .bool false, .int .i64 0, .int .i64 0]) ?_ 0 _ rfl; (with_reducible repeat (first | refine Z0 ?_ _ | refine Z3 ?_ | refine Z1 ?_ _)); exact BK108.out⟩, ⟨by repeat (first | (with_reducible first | exact HB.out | apply Z7 | apply Z4 | apply Z6 | refine Z8 ?_ GE107.out | refine Z8 ?_ GE108.out) | exact HB.out)⟩⟩
 case rest =>
  clear HC3
  try clear hcz7_0
  try clear hcz7_1
  try clear hcz7_2
  try clear hcz7_3
  try clear hcz7_4
  try clear hcz7_5
  try clear hfz7_0
  try clear hfz7_1
  try clear hfz7_2
  try clear hfz7_3
  try clear hfz7_4
  try clear hfz7_5
  obtain ⟨kq, x38_2, rfl, HA, HJ2, BK107, BK108, HB⟩ := hcut
  cases kq with
  | zero => exact absurd HA.out (by simp [Z12.j0])
  | succ kj2 =>
   have H := HA.out
   clear HA
   simp only [Z12.j0] at H
   have HC18 := Aside0.mk H
   clear H
   go_upto_if 38 with (fail)
   go_cut [7, 8] (fun v7 v8 wc => ∃ (kq : Nat) (x7_17 : Int) (x8_17 : Int), v7 = .int .i64 x7_17 ∧ v8 = .int .i64 x8_17 ∧ Aside0 (Z12.j1 kq a0 x7_17 x8_17 5 (⟨#[]⟩ : ByteArray) 0 false a1 0 = some (r1, r2, r3, r4, r5, r6, r7)) ∧ Aside0 (kq ≤ kj2) ∧ Aside0 (wc.heap[gb107]? = some (.cells #[.int .i64 0, .string (⟨#[]⟩ : ByteArray), .int .u32 0, .bool false, .int .i64 0, .int .i64 0] 24 (0, 0))) ∧ Aside0 (wc.heap[gb108]? = some (.cells #[.int .i64 5, .string (⟨#[]⟩ : ByteArray), .int .u32 0, .bool false, .int .i64 a1, .int .i64 0] 24 (0, 0))) ∧ Aside0 (Below w.heap.size w wc))
   case first =>
    have H := HC18.out
    clear HC18
    by_cases c19 : x38_2 = true
    · subst c19
      have H1 : (Z12.j1 kj2 a0 16 (wrap64 (a1 + 2)) 5 (⟨#[]⟩ : ByteArray) 0 false a1 0) = some (r1, r2, r3, r4, r5, r6, r7) := by rw [if_pos rfl] at H; exact H
      clear H
      have H := H1
      clear H1
      have H' := Aside0.mk H
      clear H
      go_wp2
      go_meet
      case rel => exact ⟨_, (16), (wrap64 (a1 + 2)), (by first | rfl | (simp; done) | (simp [*]; done)), (by first | rfl | (simp; done) | (simp [*]; done)), H', ⟨by have := HJ2.out; first | omega | exact Nat.le_refl _⟩, ⟨by (with_reducible repeat (first | refine Z0 ?_ _ | refine Z3 ?_ | refine Z1 ?_ _)); exact BK107.out⟩, ⟨by (with_reducible repeat (first | refine Z0 ?_ _ | refine Z3 ?_ | refine Z1 ?_ _)); exact BK108.out⟩, ⟨by repeat (first | (with_reducible first | exact HB.out | apply Z7 | apply Z4 | apply Z6 | refine Z8 ?_ GE107.out | refine Z8 ?_ GE108.out) | exact HB.out)⟩⟩
    · replace c19 := Bool.eq_false_iff.mpr c19
      subst c19
      have H1 : (Z12.j1 kj2 a0 10 a1 5 (⟨#[]⟩ : ByteArray) 0 false a1 0) = some (r1, r2, r3, r4, r5, r6, r7) := by rw [if_neg (show ¬ (false = true) by decide)] at H; exact H
      clear H
      have H := H1
      clear H1
      have H' := Aside0.mk H
      clear H
      go_wp2
      go_meet
      case rel => exact ⟨_, (10), (a1), (by first | rfl | (simp; done) | (simp [*]; done)), (by first | rfl | (simp; done) | (simp [*]; done)), H', ⟨by have := HJ2.out; first | omega | exact Nat.le_refl _⟩, ⟨by (with_reducible repeat (first | refine Z0 ?_ _ | refine Z3 ?_ | refine Z1 ?_ _)); exact BK107.out⟩, ⟨by (with_reducible repeat (first | refine Z0 ?_ _ | refine Z3 ?_ | refine Z1 ?_ _)); exact BK108.out⟩, ⟨by repeat (first | (with_reducible first | exact HB.out | apply Z7 | apply Z4 | apply Z6 | refine Z8 ?_ GE107.out | refine Z8 ?_ GE108.out) | exact HB.out)⟩⟩
   case rest =>
    clear HC18
    try clear hcz7_0
    try clear hcz7_1
    try clear hcz7_2
    try clear hcz7_3
    try clear hcz7_4
    try clear hcz7_5
    try clear hfz7_0
    try clear hfz7_1
    try clear hfz7_2
    try clear hfz7_3
    try clear hfz7_4
    try clear hfz7_5
    obtain ⟨kq, x7_17, x8_17, rfl, rfl, HA, HJ17, BK107, BK108, HB⟩ := hcut
    cases kq with
    | zero => exact absurd HA.out (by simp [Z12.j1])
    | succ kj17 =>
     have H := HA.out
     clear HA
     simp only [Z12.j1] at H
     have H' := Aside0.mk H
     clear H
     go_wp2
     go_loopg [8, 10] kj17 (fun kq v8 v10 w' => ∃ (x8_3 : Int) (x10_3 : Int) (x108000_3 : Int) (x108001_3 : ByteArray) (x108002_3 : Int) (x108003_3 : Bool) (x108004_3 : Int) (x108005_3 : Int), v8 = .int .i64 x8_3 ∧ v10 = .int .u64 x10_3 ∧ Aside0 (Z12.l0 kq a0 x7_17 x8_3 x8_17 x10_3 5 (⟨#[]⟩ : ByteArray) 0 false a1 0 = some (r1, r2, r3, r4, r5, r6, r7)) ∧ Aside0 (kq ≤ kj17) ∧ Aside0 (w'.heap[gb107]? = some (.cells #[.int .i64 x108000_3, .string x108001_3, .int .u32 x108002_3, .bool x108003_3, .int .i64 x108004_3, .int .i64 x108005_3] 24 (0, 0))) ∧ Aside0 (w'.heap[gb108]? = some (.cells #[.int .i64 5, .string (⟨#[]⟩ : ByteArray), .int .u32 0, .bool false, .int .i64 a1, .int .i64 0] 24 (0, 0))) ∧ Aside0 (Below w.heap.size w w'))
     case atStart => exact ⟨(x8_17), (0), (0), ((⟨#[]⟩ : ByteArray)), (0), (false), (0), (0), (by first | rfl | (simp; done) | (simp [*]; done)), (by first | rfl | (simp; done) | (simp [*]; done)), H', ⟨Nat.le_refl _⟩, ⟨by (with_reducible repeat (first | refine Z0 ?_ _ | refine Z3 ?_ | refine Z1 ?_ _)); exact BK107.out⟩, ⟨by (with_reducible repeat (first | refine Z0 ?_ _ | refine Z3 ?_ | refine Z1 ?_ _)); exact BK108.out⟩, ⟨by repeat (first | (with_reducible first | exact HB.out | apply Z7 | apply Z4 | apply Z6 | refine Z8 ?_ GE107.out | refine Z8 ?_ GE108.out) | exact HB.out)⟩⟩
     case round =>
      clear H'
      try clear hcz7_0
      try clear hcz7_1
      try clear hcz7_2
      try clear hcz7_3
      try clear hcz7_4
      try clear hcz7_5
      try clear hfz7_0
      try clear hfz7_1
      try clear hfz7_2
      try clear hfz7_3
      try clear hfz7_4
      try clear hfz7_5
      obtain ⟨x8_3, x10_3, x108000_3, x108001_3, x108002_3, x108003_3, x108004_3, x108005_3, rfl, rfl, HA, HK3, BK107, BK108, HB⟩ := hrel
      cases gk with
      | zero => exact absurd HA.out (by simp [Z12.l0])
      | succ k3 =>
       have H := HA.out
       clear HA
       simp only [Z12.l0] at H
       have HC20 := Aside0.mk H
       clear H
       go_upto_region 8 with (fail)
       go_cut [53] (fun v53 wc => ∃ (kq : Nat) (x53_19 : Bool), v53 = .bool x53_19 ∧ Aside0 (Z12.j3 kq a0 x7_17 x8_3 x8_17 x10_3 x53_19 5 (⟨#[]⟩ : ByteArray) 0 false a1 0 = some (r1, r2, r3, r4, r5, r6, r7)) ∧ Aside0 (kq ≤ k3) ∧ Aside0 (wc.heap[gb107]? = some (.cells #[.int .i64 x108000_3, .string x108001_3, .int .u32 x108002_3, .bool x108003_3, .int .i64 x108004_3, .int .i64 x108005_3] 24 (0, 0))) ∧ Aside0 (wc.heap[gb108]? = some (.cells #[.int .i64 5, .string (⟨#[]⟩ : ByteArray), .int .u32 0, .bool false, .int .i64 a1, .int .i64 0] 24 (0, 0))) ∧ Aside0 (Below w.heap.size w wc))
       case first =>
        have H := HC20.out
        clear HC20
        by_cases c21 : x8_3 < (a0.size : Int)
        · rw [if_pos c21] at H
          have c21b0 : decide (x8_3 < (a0.size : Int)) = true := decide_eq_true c21
          clear c21
          (first | rw [c21b0] | (simp only [i64_w, i32_w]; rw [c21b0]) | skip)
          by_cases c22 : 0 ≤ x8_3
          · rw [if_pos c22] at H
            have c22b0 : decide (0 ≤ x8_3) = true := decide_eq_true c22
            clear c22
            replace H := Option.bind_eq_some_iff.mp H
            obtain ⟨t109, A240, H⟩ := H
            replace H : (Z12.j3 k3 a0 x7_17 x8_3 x8_17 x10_3 (decide (t109 < x7_17)) 5 (⟨#[]⟩ : ByteArray) 0 false a1 0) = some (r1, r2, r3, r4, r5, r6, r7) := H
            have A24 := Aside0.mk A240
            clear A240
            have H' := Aside0.mk H
            clear H
            have p23 : 0 ≤ (x8_3 : Int) := of_decide_eq_true (by first | (with_reducible assumption) | assumption)
            have q23 : x8_3 < (a0.size : Int) := of_decide_eq_true (by first | (with_reducible assumption) | assumption)
            have hx23 := bt_at a0 x8_3
            replace p23 := eq_true p23
            replace q23 := eq_true q23
            go_wp2_with (first | (go_at_call 22; (with_reducible refine (Z13.calls k3 (bt a0 x8_3) t109 _ A24.out).mono ?_); rintro e w' ⟨rfl, ⟨nd, rfl⟩⟩))
            go_meet
            case rel => exact ⟨_, (decide (t109 < x7_17)), (by first | rfl | (simp; done) | (simp [*]; done)), H', ⟨by have := HJ2.out; have := HJ17.out; have := HK3.out; first | omega | exact Nat.le_refl _⟩, ⟨by (with_reducible repeat (first | refine Z0 ?_ _ | refine Z3 ?_ | refine Z1 ?_ _)); exact BK107.out⟩, ⟨by (with_reducible repeat (first | refine Z0 ?_ _ | refine Z3 ?_ | refine Z1 ?_ _)); exact BK108.out⟩, ⟨by repeat (first | (with_reducible first | exact HB.out | apply Z7 | apply Z4 | apply Z6 | refine Z8 ?_ GE107.out | refine Z8 ?_ GE108.out) | exact HB.out)⟩⟩
          · rw [if_neg c22] at H
            exact absurd H (by simp)
        · rw [if_neg c21] at H
          have c21b0 : decide (x8_3 < (a0.size : Int)) = false := decide_eq_false c21
          clear c21
          (first | rw [c21b0] | (simp only [i64_w, i32_w]; rw [c21b0]) | skip)
          have H' := Aside0.mk H
          clear H
          go_wp2
          go_meet
          case rel => exact ⟨_, (false), (by first | rfl | (simp; done) | (simp [*]; done)), H', ⟨by have := HJ2.out; have := HJ17.out; have := HK3.out; first | omega | exact Nat.le_refl _⟩, ⟨by (with_reducible repeat (first | refine Z0 ?_ _ | refine Z3 ?_ | refine Z1 ?_ _)); exact BK107.out⟩, ⟨by (with_reducible repeat (first | refine Z0 ?_ _ | refine Z3 ?_ | refine Z1 ?_ _)); exact BK108.out⟩, ⟨by repeat (first | (with_reducible first | exact HB.out | apply Z7 | apply Z4 | apply Z6 | refine Z8 ?_ GE107.out | refine Z8 ?_ GE108.out) | exact HB.out)⟩⟩
       case rest =>
        clear HC20
        try clear hcz7_0
        try clear hcz7_1
        try clear hcz7_2
        try clear hcz7_3
        try clear hcz7_4
        try clear hcz7_5
        try clear hfz7_0
        try clear hfz7_1
        try clear hfz7_2
        try clear hfz7_3
        try clear hfz7_4
        try clear hfz7_5
        obtain ⟨kq, x53_19, rfl, HA, HJ19, BK107, BK108, HB⟩ := hcut
        cases kq with
        | zero => exact absurd HA.out (by simp [Z12.j3])
        | succ kj19 =>
         have H := HA.out
         clear HA
         simp only [Z12.j3] at H
         by_cases c25 : x53_19 = true
         · subst c25
           have H1 : (if 0 ≤ x8_3 then (if x8_3 < (a0.size : Int) then ((Z13.f kj19 (bt a0 x8_3)).bind fun t110 => (if (IntKind.u64.wrap ((IntKind.u64.wrap (x10_3 * (IntKind.u64.wrap (x7_17)))) + (IntKind.u64.wrap (t110)))) ≥ 4294967296 then (some (5, (⟨#[]⟩ : ByteArray), 0, false, a1, 0, false)) else (Z12.l0 kj19 a0 x7_17 (wrap64 (x8_3 + 1)) x8_17 (IntKind.u64.wrap ((IntKind.u64.wrap (x10_3 * (IntKind.u64.wrap (x7_17)))) + (IntKind.u64.wrap (t110)))) 5 (⟨#[]⟩ : ByteArray) 0 false a1 0))) else (none)) else (none)) = some (r1, r2, r3, r4, r5, r6, r7) := by rw [if_pos rfl] at H; exact H
           clear H
           have H := H1
           clear H1
           by_cases c26 : 0 ≤ x8_3
           · rw [if_pos c26] at H
             have c26b0 : decide (0 ≤ x8_3) = true := decide_eq_true c26
             clear c26
             by_cases c27 : x8_3 < (a0.size : Int)
             · rw [if_pos c27] at H
               have c27b0 : decide (x8_3 < (a0.size : Int)) = true := decide_eq_true c27
               clear c27
               replace H := Option.bind_eq_some_iff.mp H
               obtain ⟨t110, A290, H⟩ := H
               replace H : (if (IntKind.u64.wrap ((IntKind.u64.wrap (x10_3 * (IntKind.u64.wrap (x7_17)))) + (IntKind.u64.wrap (t110)))) ≥ 4294967296 then (some (5, (⟨#[]⟩ : ByteArray), 0, false, a1, 0, false)) else (Z12.l0 kj19 a0 x7_17 (wrap64 (x8_3 + 1)) x8_17 (IntKind.u64.wrap ((IntKind.u64.wrap (x10_3 * (IntKind.u64.wrap (x7_17)))) + (IntKind.u64.wrap (t110)))) 5 (⟨#[]⟩ : ByteArray) 0 false a1 0)) = some (r1, r2, r3, r4, r5, r6, r7) := H
               have A29 := Aside0.mk A290
               clear A290
               by_cases c30 : (IntKind.u64.wrap ((IntKind.u64.wrap (x10_3 * (IntKind.u64.wrap (x7_17)))) + (IntKind.u64.wrap (t110)))) ≥ 4294967296
               · rw [if_pos c30] at H
                 have c30b0 : decide (4294967296 ≤ (IntKind.u64.wrap ((IntKind.u64.wrap (x10_3 * (IntKind.u64.wrap (x7_17)))) + (IntKind.u64.wrap (t110))))) = true := decide_eq_true c30
                 clear c30
                 simp only [Option.some.injEq, Prod.mk.injEq] at H
                 obtain ⟨rfl, rfl, rfl, rfl, rfl, rfl, rfl⟩ := H
                 have p28 : 0 ≤ (x8_3 : Int) := of_decide_eq_true (by first | (with_reducible assumption) | assumption)
                 have q28 : x8_3 < (a0.size : Int) := of_decide_eq_true (by first | (with_reducible assumption) | assumption)
                 have hx28 := bt_at a0 x8_3
                 replace p28 := eq_true p28
                 replace q28 := eq_true q28
                 go_wp2_with (first | ((with_reducible refine Z14 (f := 22) rfl ?_); refine goesL_ (some 61) rfl rfl Tryd.func22 (by kernel_rfl) rfl #[.int .u8 (bt a0 x8_3)] rfl (by (try simp only [List.map_toArray, List.map_cons, List.map_nil]); first | done | rfl | (simp only [List.length_drop, List.length_take]; rfl)) ?_; (with_reducible refine (Z13.calls kj19 (bt a0 x8_3) t110 _ A29.out).mono ?_); rintro e w' ⟨rfl, ⟨nd, rfl⟩⟩; refine ⟨_, rfl, ?_⟩; (try (rw [Z43 wc]; generalize hq_ : World.drewN wc _ = wc; have n0_ : Aside0 (wc.heap[gb107]? = some (.cells #[.int .i64 x108000_3, .string x108001_3, .int .u32 x108002_3, .bool x108003_3, .int .i64 x108004_3, .int .i64 x108005_3] 24 (0, 0))) := ⟨by rw [← hq_]; exact (by (with_reducible repeat (first | refine Z0 ?_ _ | refine Z3 ?_ | refine Z1 ?_ _)); exact BK107.out)⟩; have n1_ : Aside0 (wc.heap[gb108]? = some (.cells #[.int .i64 5, .string (⟨#[]⟩ : ByteArray), .int .u32 0, .bool false, .int .i64 a1, .int .i64 0] 24 (0, 0))) := ⟨by rw [← hq_]; exact (by (with_reducible repeat (first | refine Z0 ?_ _ | refine Z3 ?_ | refine Z1 ?_ _)); exact BK108.out)⟩; have n2_ : Aside0 (Below w.heap.size w wc) := ⟨by rw [← hq_]; exact (by repeat (first | (with_reducible first | exact HB.out | apply Z7 | apply Z4 | apply Z6 | refine Z8 ?_ GE107.out | refine Z8 ?_ GE108.out) | exact HB.out))⟩; clear BK107 BK108 HB hq_; have BK107 := n0_; have BK108 := n1_; have HB := n2_; clear n0_ n1_ n2_)); have hnb31 := NB108_107.out; have hnc31 := NB107_108.out; have hcz32_0 : wc.cell? ⟨gb108, 0, none⟩ = some (.int .i64 5) := (Z5 BK108.out 0).trans rfl; have hcz32_1 : wc.cell? ⟨gb108, 1, none⟩ = some (.string (⟨#[]⟩ : ByteArray)) := (Z5 BK108.out 1).trans rfl; have hcz32_2 : wc.cell? ⟨gb108, 2, none⟩ = some (.int .u32 0) := (Z5 BK108.out 2).trans rfl; have hcz32_3 : wc.cell? ⟨gb108, 3, none⟩ = some (.bool false) := (Z5 BK108.out 3).trans rfl; have hcz32_4 : wc.cell? ⟨gb108, 4, none⟩ = some (.int .i64 a1) := (Z5 BK108.out 4).trans rfl; have hcz32_5 : wc.cell? ⟨gb108, 5, none⟩ = some (.int .i64 0) := (Z5 BK108.out 5).trans rfl; have hfz32_0 := Z2 BK108.out 0; have hfz32_1 := Z2 BK108.out 1; have hfz32_2 := Z2 BK108.out 2; have hfz32_3 := Z2 BK108.out 3; have hfz32_4 := Z2 BK108.out 4; have hfz32_5 := Z2 BK108.out 5; have hcz33_0 : wc.cell? ⟨gb107, 0, none⟩ = some (.int .i64 x108000_3) := (Z5 BK107.out 0).trans rfl; have hcz33_1 : wc.cell? ⟨gb107, 1, none⟩ = some (.string x108001_3) := (Z5 BK107.out 1).trans rfl; have hcz33_2 : wc.cell? ⟨gb107, 2, none⟩ = some (.int .u32 x108002_3) := (Z5 BK107.out 2).trans rfl; have hcz33_3 : wc.cell? ⟨gb107, 3, none⟩ = some (.bool x108003_3) := (Z5 BK107.out 3).trans rfl; have hcz33_4 : wc.cell? ⟨gb107, 4, none⟩ = some (.int .i64 x108004_3) := (Z5 BK107.out 4).trans rfl; have hcz33_5 : wc.cell? ⟨gb107, 5, none⟩ = some (.int .i64 x108005_3) := (Z5 BK107.out 5).trans rfl; have hfz33_0 := Z2 BK107.out 0; have hfz33_1 := Z2 BK107.out 1; have hfz33_2 := Z2 BK107.out 2; have hfz33_3 := Z2 BK107.out 3; have hfz33_4 := Z2 BK107.out 4; have hfz33_5 := Z2 BK107.out 5))
                 refine bodyPost_ret (Z46 rfl _ _ gb107 24 #[.int .i64 5, .string (⟨#[]⟩ : ByteArray), .int .u32 0, .bool false, .int .i64 a1, .int .i64 0] (0, 0) _ rfl (by (with_reducible repeat (first | refine Z0 ?_ _ | refine Z3 ?_ | refine Z1 ?_ _)); refine Z9 (cs := #[.int .i64 5, .string (⟨#[]⟩ : ByteArray), .int .u32 0, .bool false, .int .i64 a1, .int .i64 x108005_3]) ?_ 5 _ rfl; (with_reducible repeat (first | refine Z0 ?_ _ | refine Z3 ?_ | refine Z1 ?_ _)); refine Z9 (cs := #[.int .i64 5, .string (⟨#[]⟩ : ByteArray), .int .u32 0, .bool false, .int .i64 x108004_3, .int .i64 x108005_3]) ?_ 4 _ rfl; (with_reducible repeat (first | refine Z0 ?_ _ | refine Z3 ?_ | refine Z1 ?_ _)); refine Z9 (cs := #[.int .i64 5, .string (⟨#[]⟩ : ByteArray), .int .u32 0, .bool x108003_3, .int .i64 x108004_3, .int .i64 x108005_3]) ?_ 3 _ rfl; (with_reducible repeat (first | refine Z0 ?_ _ | refine Z3 ?_ | refine Z1 ?_ _)); refine Z9 (cs := #[.int .i64 5, .string (⟨#[]⟩ : ByteArray), .int .u32 x108002_3, .bool x108003_3, .int .i64 x108004_3, .int .i64 x108005_3]) ?_ 2 _ rfl; (with_reducible repeat (first | refine Z0 ?_ _ | refine Z3 ?_ | refine Z1 ?_ _)); refine Z9 (cs := #[.int .i64 5, .string x108001_3, .int .u32 x108002_3, .bool x108003_3, .int .i64 x108004_3, .int .i64 x108005_3]) ?_ 1 _ rfl; (with_reducible repeat (first | refine Z0 ?_ _ | refine Z3 ?_ | refine Z1 ?_ _)); refine Z9 (cs := #[.int .i64 x108000_3, .string x108001_3, .int .u32 x108002_3, .bool x108003_3, .int .i64 x108004_3, .int .i64 x108005_3]) ?_ 0 _ rfl; (with_reducible repeat (first | refine Z0 ?_ _ | refine Z3 ?_ | refine Z1 ?_ _)); exact BK107.out) Tryd.underlying24 rfl (by kernel_rfl)) rfl ?_
                 exact ⟨by first | rfl | (simp [Z16, Z15] <;> rfl) | (simp [*, Z16, Z15] <;> rfl), by repeat (first | (with_reducible first | exact HB.out | apply Z7 | apply Z4 | apply Z6 | refine Z8 ?_ GE107.out | refine Z8 ?_ GE108.out) | exact HB.out)⟩
               · rw [if_neg c30] at H
                 have c30b0 : decide (4294967296 ≤ (IntKind.u64.wrap ((IntKind.u64.wrap (x10_3 * (IntKind.u64.wrap (x7_17)))) + (IntKind.u64.wrap (t110))))) = false := decide_eq_false c30
                 clear c30
                 have H' := Aside0.mk H
                 clear H
                 have p28 : 0 ≤ (x8_3 : Int) := of_decide_eq_true (by first | (with_reducible assumption) | assumption)
                 have q28 : x8_3 < (a0.size : Int) := of_decide_eq_true (by first | (with_reducible assumption) | assumption)
                 have hx28 := bt_at a0 x8_3
                 replace p28 := eq_true p28
                 replace q28 := eq_true q28
                 go_wp2_with (first | ((with_reducible refine Z14 (f := 22) rfl ?_); refine goesL_ (some 61) rfl rfl Tryd.func22 (by kernel_rfl) rfl #[.int .u8 (bt a0 x8_3)] rfl (by (try simp only [List.map_toArray, List.map_cons, List.map_nil]); first | done | rfl | (simp only [List.length_drop, List.length_take]; rfl)) ?_; (with_reducible refine (Z13.calls kj19 (bt a0 x8_3) t110 _ A29.out).mono ?_); rintro e w' ⟨rfl, ⟨nd, rfl⟩⟩; refine ⟨_, rfl, ?_⟩))
                 go_roundg kj19
                 case measure => have := HJ2.out; have := HJ17.out; have := HK3.out; have := HJ19.out; omega
                 case rel => exact ⟨(wrap64 (x8_3 + 1)), (IntKind.u64.wrap ((IntKind.u64.wrap (x10_3 * (IntKind.u64.wrap (x7_17)))) + (IntKind.u64.wrap (t110)))), (x108000_3), (x108001_3), (x108002_3), (x108003_3), (x108004_3), (x108005_3), (by first | rfl | (simp; done) | (simp [*]; done)), (by first | rfl | (simp; done) | (simp [*]; done)), H', ⟨by have := HJ2.out; have := HJ17.out; have := HK3.out; have := HJ19.out; omega⟩, ⟨by (with_reducible repeat (first | refine Z0 ?_ _ | refine Z3 ?_ | refine Z1 ?_ _)); exact BK107.out⟩, ⟨by (with_reducible repeat (first | refine Z0 ?_ _ | refine Z3 ?_ | refine Z1 ?_ _)); exact BK108.out⟩, ⟨by repeat (first | (with_reducible first | exact HB.out | apply Z7 | apply Z4 | apply Z6 | refine Z8 ?_ GE107.out | refine Z8 ?_ GE108.out) | exact HB.out)⟩⟩
             · rw [if_neg c27] at H
               exact absurd H (by simp)
           · rw [if_neg c26] at H
             exact absurd H (by simp)
         · replace c25 := Bool.eq_false_iff.mpr c25
           subst c25
           have H1 : (if x8_3 = x8_17 then (Z12.j4 kj19 a0 x8_3 x10_3 true 5 (⟨#[]⟩ : ByteArray) 0 false a1 0) else (if x7_17 = 10 then (if (wrap64 (x8_3 - x8_17)) > 1 then (if 0 ≤ x8_17 then (if x8_17 < (a0.size : Int) then (Z12.j4 kj19 a0 x8_3 x10_3 ((bt a0 x8_17) == 48) 5 (⟨#[]⟩ : ByteArray) 0 false a1 0) else (none)) else (none)) else (Z12.j4 kj19 a0 x8_3 x10_3 false 5 (⟨#[]⟩ : ByteArray) 0 false a1 0)) else (Z12.j4 kj19 a0 x8_3 x10_3 false 5 (⟨#[]⟩ : ByteArray) 0 false a1 0))) = some (r1, r2, r3, r4, r5, r6, r7) := by rw [if_neg (show ¬ (false = true) by decide)] at H; exact H
           clear H
           have H := H1
           clear H1
           have HC34 := Aside0.mk H
           clear H
           go_upto_region 13 with (fail)
           go_cut [87] (fun v87 wc => ∃ (kq : Nat) (x87_33 : Bool), v87 = .bool x87_33 ∧ Aside0 (Z12.j4 kq a0 x8_3 x10_3 x87_33 5 (⟨#[]⟩ : ByteArray) 0 false a1 0 = some (r1, r2, r3, r4, r5, r6, r7)) ∧ Aside0 (kq ≤ kj19) ∧ Aside0 (wc.heap[gb107]? = some (.cells #[.int .i64 x108000_3, .string x108001_3, .int .u32 x108002_3, .bool x108003_3, .int .i64 x108004_3, .int .i64 x108005_3] 24 (0, 0))) ∧ Aside0 (wc.heap[gb108]? = some (.cells #[.int .i64 5, .string (⟨#[]⟩ : ByteArray), .int .u32 0, .bool false, .int .i64 a1, .int .i64 0] 24 (0, 0))) ∧ Aside0 (Below w.heap.size w wc))
           case first =>
            have H := HC34.out
            clear HC34
            by_cases c35 : x8_3 = x8_17
            · rw [if_pos c35] at H
              have c35b0 : (x8_3 == x8_17) = true := beq_iff_eq.mpr c35
              have c35b1 : (x8_3 != x8_17) = false := bne_eq_false_iff_eq.mpr c35
              clear c35
              (first | rw [c35b0] | (simp only [i64_w, i32_w]; rw [c35b0]) | skip)
              have H' := Aside0.mk H
              clear H
              go_wp2
              go_meet
              case rel => exact ⟨_, (true), (by first | rfl | (simp; done) | (simp [*]; done)), H', ⟨by have := HJ2.out; have := HJ17.out; have := HK3.out; have := HJ19.out; first | omega | exact Nat.le_refl _⟩, ⟨by (with_reducible repeat (first | refine Z0 ?_ _ | refine Z3 ?_ | refine Z1 ?_ _)); exact BK107.out⟩, ⟨by (with_reducible repeat (first | refine Z0 ?_ _ | refine Z3 ?_ | refine Z1 ?_ _)); exact BK108.out⟩, ⟨by repeat (first | (with_reducible first | exact HB.out | apply Z7 | apply Z4 | apply Z6 | refine Z8 ?_ GE107.out | refine Z8 ?_ GE108.out) | exact HB.out)⟩⟩
            · rw [if_neg c35] at H
              have c35b0 : (x8_3 == x8_17) = false := beq_eq_false_iff_ne.mpr c35
              have c35b1 : (x8_3 != x8_17) = true := bne_iff_ne.mpr c35
              (first | rw [c35b0] | (simp only [i64_w, i32_w]; rw [c35b0]) | skip)
              by_cases c36 : x7_17 = 10
              · rw [if_pos c36] at H
                have c36b0 : (x7_17 == 10) = true := beq_iff_eq.mpr c36
                have c36b1 : (x7_17 != 10) = false := bne_eq_false_iff_eq.mpr c36
                clear c36
                by_cases c37 : (wrap64 (x8_3 - x8_17)) > 1
                · rw [if_pos c37] at H
                  have c37b0 : decide (1 < (wrap64 (x8_3 - x8_17))) = true := decide_eq_true c37
                  clear c37
                  by_cases c38 : 0 ≤ x8_17
                  · rw [if_pos c38] at H
                    have c38b0 : decide (0 ≤ x8_17) = true := decide_eq_true c38
                    clear c38
                    by_cases c39 : x8_17 < (a0.size : Int)
                    · rw [if_pos c39] at H
                      have c39b0 : decide (x8_17 < (a0.size : Int)) = true := decide_eq_true c39
                      clear c39
                      have H' := Aside0.mk H
                      clear H
                      have p40 : 0 ≤ (x8_17 : Int) := of_decide_eq_true (by first | (with_reducible assumption) | assumption)
                      have q40 : x8_17 < (a0.size : Int) := of_decide_eq_true (by first | (with_reducible assumption) | assumption)
                      have hx40 := bt_at a0 x8_17
                      replace p40 := eq_true p40
                      replace q40 := eq_true q40
                      go_wp2
                      go_meet
                      case rel => exact ⟨_, (((bt a0 x8_17) == 48)), (by first | rfl | (simp; done) | (simp [*]; done)), H', ⟨by have := HJ2.out; have := HJ17.out; have := HK3.out; have := HJ19.out; first | omega | exact Nat.le_refl _⟩, ⟨by (with_reducible repeat (first | refine Z0 ?_ _ | refine Z3 ?_ | refine Z1 ?_ _)); exact BK107.out⟩, ⟨by (with_reducible repeat (first | refine Z0 ?_ _ | refine Z3 ?_ | refine Z1 ?_ _)); exact BK108.out⟩, ⟨by repeat (first | (with_reducible first | exact HB.out | apply Z7 | apply Z4 | apply Z6 | refine Z8 ?_ GE107.out | refine Z8 ?_ GE108.out) | exact HB.out)⟩⟩
                    · rw [if_neg c39] at H
                      exact absurd H (by simp)
                  · rw [if_neg c38] at H
                    exact absurd H (by simp)
                · rw [if_neg c37] at H
                  have c37b0 : decide (1 < (wrap64 (x8_3 - x8_17))) = false := decide_eq_false c37
                  clear c37
                  have H' := Aside0.mk H
                  clear H
                  go_wp2
                  go_meet
                  case rel => exact ⟨_, (false), (by first | rfl | (simp; done) | (simp [*]; done)), H', ⟨by have := HJ2.out; have := HJ17.out; have := HK3.out; have := HJ19.out; first | omega | exact Nat.le_refl _⟩, ⟨by (with_reducible repeat (first | refine Z0 ?_ _ | refine Z3 ?_ | refine Z1 ?_ _)); exact BK107.out⟩, ⟨by (with_reducible repeat (first | refine Z0 ?_ _ | refine Z3 ?_ | refine Z1 ?_ _)); exact BK108.out⟩, ⟨by repeat (first | (with_reducible first | exact HB.out | apply Z7 | apply Z4 | apply Z6 | refine Z8 ?_ GE107.out | refine Z8 ?_ GE108.out) | exact HB.out)⟩⟩
              · rw [if_neg c36] at H
                have c36b0 : (x7_17 == 10) = false := beq_eq_false_iff_ne.mpr c36
                have c36b1 : (x7_17 != 10) = true := bne_iff_ne.mpr c36
                have H' := Aside0.mk H
                clear H
                go_wp2
                go_meet
                case rel => exact ⟨_, (false), (by first | rfl | (simp; done) | (simp [*]; done)), H', ⟨by have := HJ2.out; have := HJ17.out; have := HK3.out; have := HJ19.out; first | omega | exact Nat.le_refl _⟩, ⟨by (with_reducible repeat (first | refine Z0 ?_ _ | refine Z3 ?_ | refine Z1 ?_ _)); exact BK107.out⟩, ⟨by (with_reducible repeat (first | refine Z0 ?_ _ | refine Z3 ?_ | refine Z1 ?_ _)); exact BK108.out⟩, ⟨by repeat (first | (with_reducible first | exact HB.out | apply Z7 | apply Z4 | apply Z6 | refine Z8 ?_ GE107.out | refine Z8 ?_ GE108.out) | exact HB.out)⟩⟩
           case rest =>
            clear HC34
            try clear c25
            try clear hcz7_0
            try clear hcz7_1
            try clear hcz7_2
            try clear hcz7_3
            try clear hcz7_4
            try clear hcz7_5
            try clear hfz7_0
            try clear hfz7_1
            try clear hfz7_2
            try clear hfz7_3
            try clear hfz7_4
            try clear hfz7_5
            obtain ⟨kq, x87_33, rfl, HA, HJ33, BK107, BK108, HB⟩ := hcut
            cases kq with
            | zero => exact absurd HA.out (by simp [Z12.j4])
            | succ kj33 =>
             have H := HA.out
             clear HA
             simp only [Z12.j4] at H
             by_cases c41 : x87_33 = true
             · subst c41
               have H1 : (some (5, (⟨#[]⟩ : ByteArray), 0, false, a1, 0, false)) = some (r1, r2, r3, r4, r5, r6, r7) := by rw [if_pos rfl] at H; exact H
               clear H
               have H := H1
               clear H1
               simp only [Option.some.injEq, Prod.mk.injEq] at H
               obtain ⟨rfl, rfl, rfl, rfl, rfl, rfl, rfl⟩ := H
               have hnb42 := NB108_107.out
               have hnc42 := NB107_108.out
               have hcz43_0 : wc.cell? ⟨gb108, 0, none⟩ = some (.int .i64 5) := (Z5 BK108.out 0).trans rfl
               have hcz43_1 : wc.cell? ⟨gb108, 1, none⟩ = some (.string (⟨#[]⟩ : ByteArray)) := (Z5 BK108.out 1).trans rfl
               have hcz43_2 : wc.cell? ⟨gb108, 2, none⟩ = some (.int .u32 0) := (Z5 BK108.out 2).trans rfl
               have hcz43_3 : wc.cell? ⟨gb108, 3, none⟩ = some (.bool false) := (Z5 BK108.out 3).trans rfl
               have hcz43_4 : wc.cell? ⟨gb108, 4, none⟩ = some (.int .i64 a1) := (Z5 BK108.out 4).trans rfl
               have hcz43_5 : wc.cell? ⟨gb108, 5, none⟩ = some (.int .i64 0) := (Z5 BK108.out 5).trans rfl
               have hfz43_0 := Z2 BK108.out 0
               have hfz43_1 := Z2 BK108.out 1
               have hfz43_2 := Z2 BK108.out 2
               have hfz43_3 := Z2 BK108.out 3
               have hfz43_4 := Z2 BK108.out 4
               have hfz43_5 := Z2 BK108.out 5
               have hcz44_0 : wc.cell? ⟨gb107, 0, none⟩ = some (.int .i64 x108000_3) := (Z5 BK107.out 0).trans rfl
               have hcz44_1 : wc.cell? ⟨gb107, 1, none⟩ = some (.string x108001_3) := (Z5 BK107.out 1).trans rfl
               have hcz44_2 : wc.cell? ⟨gb107, 2, none⟩ = some (.int .u32 x108002_3) := (Z5 BK107.out 2).trans rfl
               have hcz44_3 : wc.cell? ⟨gb107, 3, none⟩ = some (.bool x108003_3) := (Z5 BK107.out 3).trans rfl
               have hcz44_4 : wc.cell? ⟨gb107, 4, none⟩ = some (.int .i64 x108004_3) := (Z5 BK107.out 4).trans rfl
               have hcz44_5 : wc.cell? ⟨gb107, 5, none⟩ = some (.int .i64 x108005_3) := (Z5 BK107.out 5).trans rfl
               have hfz44_0 := Z2 BK107.out 0
               have hfz44_1 := Z2 BK107.out 1
               have hfz44_2 := Z2 BK107.out 2
               have hfz44_3 := Z2 BK107.out 3
               have hfz44_4 := Z2 BK107.out 4
               have hfz44_5 := Z2 BK107.out 5
               go_wp2
               refine bodyPost_ret (Z46 rfl _ _ gb107 24 #[.int .i64 5, .string (⟨#[]⟩ : ByteArray), .int .u32 0, .bool false, .int .i64 a1, .int .i64 0] (0, 0) _ rfl (by (with_reducible repeat (first | refine Z0 ?_ _ | refine Z3 ?_ | refine Z1 ?_ _)); refine Z9 (cs := #[.int .i64 5, .string (⟨#[]⟩ : ByteArray), .int .u32 0, .bool false, .int .i64 a1, .int .i64 x108005_3]) ?_ 5 _ rfl; (with_reducible repeat (first | refine Z0 ?_ _ | refine Z3 ?_ | refine Z1 ?_ _)); refine Z9 (cs := #[.int .i64 5, .string (⟨#[]⟩ : ByteArray), .int .u32 0, .bool false, .int .i64 x108004_3, .int .i64 x108005_3]) ?_ 4 _ rfl; (with_reducible repeat (first | refine Z0 ?_ _ | refine Z3 ?_ | refine Z1 ?_ _)); refine Z9 (cs := #[.int .i64 5, .string (⟨#[]⟩ : ByteArray), .int .u32 0, .bool x108003_3, .int .i64 x108004_3, .int .i64 x108005_3]) ?_ 3 _ rfl; (with_reducible repeat (first | refine Z0 ?_ _ | refine Z3 ?_ | refine Z1 ?_ _)); refine Z9 (cs := #[.int .i64 5, .string (⟨#[]⟩ : ByteArray), .int .u32 x108002_3, .bool x108003_3, .int .i64 x108004_3, .int .i64 x108005_3]) ?_ 2 _ rfl; (with_reducible repeat (first | refine Z0 ?_ _ | refine Z3 ?_ | refine Z1 ?_ _)); refine Z9 (cs := #[.int .i64 5, .string x108001_3, .int .u32 x108002_3, .bool x108003_3, .int .i64 x108004_3, .int .i64 x108005_3]) ?_ 1 _ rfl; (with_reducible repeat (first | refine Z0 ?_ _ | refine Z3 ?_ | refine Z1 ?_ _)); refine Z9 (cs := #[.int .i64 x108000_3, .string x108001_3, .int .u32 x108002_3, .bool x108003_3, .int .i64 x108004_3, .int .i64 x108005_3]) ?_ 0 _ rfl; (with_reducible repeat (first | refine Z0 ?_ _ | refine Z3 ?_ | refine Z1 ?_ _)); exact BK107.out) Tryd.underlying24 rfl (by kernel_rfl)) rfl ?_
               exact ⟨by first | rfl | (simp [Z16, Z15] <;> rfl) | (simp [*, Z16, Z15] <;> rfl), by repeat (first | (with_reducible first | exact HB.out | apply Z7 | apply Z4 | apply Z6 | refine Z8 ?_ GE107.out | refine Z8 ?_ GE108.out) | exact HB.out)⟩
             · replace c41 := Bool.eq_false_iff.mpr c41
               subst c41
               have H1 : (if x8_3 < (a0.size : Int) then (if 0 ≤ x8_3 then (if (bt a0 x8_3) = 117 then (if (wrap64 (x8_3 + 1)) ≥ (a0.size : Int) then (some (5, (⟨#[]⟩ : ByteArray), (x10_3) % 4294967296, true, a1, wrap64 (x8_3 + 1), true)) else (if 0 ≤ (wrap64 (x8_3 + 1)) then (if (wrap64 (x8_3 + 1)) < (a0.size : Int) then ((Z37.f (bt a0 (wrap64 (x8_3 + 1)))).bind fun t111 => (some (5, (⟨#[]⟩ : ByteArray), (x10_3) % 4294967296, true, a1, wrap64 (x8_3 + 1), !t111))) else (none)) else (none))) else (if (bt a0 x8_3) = 85 then (if (wrap64 (x8_3 + 1)) ≥ (a0.size : Int) then (some (5, (⟨#[]⟩ : ByteArray), (x10_3) % 4294967296, true, a1, wrap64 (x8_3 + 1), true)) else (if 0 ≤ (wrap64 (x8_3 + 1)) then (if (wrap64 (x8_3 + 1)) < (a0.size : Int) then ((Z37.f (bt a0 (wrap64 (x8_3 + 1)))).bind fun t112 => (some (5, (⟨#[]⟩ : ByteArray), (x10_3) % 4294967296, true, a1, wrap64 (x8_3 + 1), !t112))) else (none)) else (none))) else (if x8_3 ≥ (a0.size : Int) then (some (5, (⟨#[]⟩ : ByteArray), (x10_3) % 4294967296, decide (x10_3 ≥ 2147483648), a1, x8_3, true)) else ((Z37.f (bt a0 x8_3)).bind fun t113 => (some (5, (⟨#[]⟩ : ByteArray), (x10_3) % 4294967296, decide (x10_3 ≥ 2147483648), a1, x8_3, !t113)))))) else (none)) else (if x8_3 ≥ (a0.size : Int) then (some (5, (⟨#[]⟩ : ByteArray), (x10_3) % 4294967296, decide (x10_3 ≥ 2147483648), a1, x8_3, true)) else (if 0 ≤ x8_3 then (none) else (none)))) = some (r1, r2, r3, r4, r5, r6, r7) := by rw [if_neg (show ¬ (false = true) by decide)] at H; exact H
               clear H
               have H := H1
               clear H1
               by_cases c45 : x8_3 < (a0.size : Int)
               · rw [if_pos c45] at H
                 have c45b0 : decide (x8_3 < (a0.size : Int)) = true := decide_eq_true c45
                 clear c45
                 by_cases c46 : 0 ≤ x8_3
                 · rw [if_pos c46] at H
                   have c46b0 : decide (0 ≤ x8_3) = true := decide_eq_true c46
                   clear c46
                   by_cases c48 : (bt a0 x8_3) = 117
                   · rw [if_pos c48] at H
                     have c48b0 : ((bt a0 x8_3) == 117) = true := beq_iff_eq.mpr c48
                     have c48b1 : ((bt a0 x8_3) != 117) = false := bne_eq_false_iff_eq.mpr c48
                     clear c48
                     by_cases c49 : (wrap64 (x8_3 + 1)) ≥ (a0.size : Int)
                     · rw [if_pos c49] at H
                       have c49b0 : decide ((a0.size : Int) ≤ (wrap64 (x8_3 + 1))) = true := decide_eq_true c49
                       clear c49
                       simp only [Option.some.injEq, Prod.mk.injEq] at H
                       obtain ⟨rfl, rfl, rfl, rfl, rfl, rfl, rfl⟩ := H
                       have hnb50 := NB108_107.out
                       have hnc50 := NB107_108.out
                       have hcz51_0 : wc.cell? ⟨gb108, 0, none⟩ = some (.int .i64 5) := (Z5 BK108.out 0).trans rfl
                       have hcz51_1 : wc.cell? ⟨gb108, 1, none⟩ = some (.string (⟨#[]⟩ : ByteArray)) := (Z5 BK108.out 1).trans rfl
                       have hcz51_2 : wc.cell? ⟨gb108, 2, none⟩ = some (.int .u32 0) := (Z5 BK108.out 2).trans rfl
                       have hcz51_3 : wc.cell? ⟨gb108, 3, none⟩ = some (.bool false) := (Z5 BK108.out 3).trans rfl
                       have hcz51_4 : wc.cell? ⟨gb108, 4, none⟩ = some (.int .i64 a1) := (Z5 BK108.out 4).trans rfl
                       have hcz51_5 : wc.cell? ⟨gb108, 5, none⟩ = some (.int .i64 0) := (Z5 BK108.out 5).trans rfl
                       have hfz51_0 := Z2 BK108.out 0
                       have hfz51_1 := Z2 BK108.out 1
                       have hfz51_2 := Z2 BK108.out 2
                       have hfz51_3 := Z2 BK108.out 3
                       have hfz51_4 := Z2 BK108.out 4
                       have hfz51_5 := Z2 BK108.out 5
                       have p47 : 0 ≤ (x8_3 : Int) := of_decide_eq_true (by first | (with_reducible assumption) | assumption)
                       have q47 : x8_3 < (a0.size : Int) := of_decide_eq_true (by first | (with_reducible assumption) | assumption)
                       have hx47 := bt_at a0 x8_3
                       replace p47 := eq_true p47
                       replace q47 := eq_true q47
                       try go_wp2
                       have n0_ : Aside0 (((((wc.setCell ⟨gb108, 3, none⟩ (.bool (decide (x10_3 ≥ 2147483648)))).setCell ⟨gb108, 3, none⟩ (.bool true)).setCell ⟨gb108, 2, none⟩ (.int .u32 ((x10_3) % 4294967296))).setCell ⟨gb108, 5, none⟩ (.int .i64 (wrap64 (x8_3 + 1)))).heap[gb107]? = some (.cells #[.int .i64 x108000_3, .string x108001_3, .int .u32 x108002_3, .bool x108003_3, .int .i64 x108004_3, .int .i64 x108005_3] 24 (0, 0))) := ⟨by (with_reducible repeat (first | refine Z0 ?_ _ | refine Z3 ?_ | refine Z1 ?_ _)); refine Z22 ?_ NB107_108.out _; (with_reducible repeat (first | refine Z0 ?_ _ | refine Z3 ?_ | refine Z1 ?_ _)); refine Z22 ?_ NB107_108.out _; (with_reducible repeat (first | refine Z0 ?_ _ | refine Z3 ?_ | refine Z1 ?_ _)); refine Z22 ?_ NB107_108.out _; (with_reducible repeat (first | refine Z0 ?_ _ | refine Z3 ?_ | refine Z1 ?_ _)); refine Z22 ?_ NB107_108.out _; (with_reducible repeat (first | refine Z0 ?_ _ | refine Z3 ?_ | refine Z1 ?_ _)); exact BK107.out⟩
                       have n1_ : Aside0 (((((wc.setCell ⟨gb108, 3, none⟩ (.bool (decide (x10_3 ≥ 2147483648)))).setCell ⟨gb108, 3, none⟩ (.bool true)).setCell ⟨gb108, 2, none⟩ (.int .u32 ((x10_3) % 4294967296))).setCell ⟨gb108, 5, none⟩ (.int .i64 (wrap64 (x8_3 + 1)))).heap[gb108]? = some (.cells #[.int .i64 5, .string (⟨#[]⟩ : ByteArray), .int .u32 ((x10_3) % 4294967296), .bool true, .int .i64 a1, .int .i64 (wrap64 (x8_3 + 1))] 24 (0, 0))) := ⟨by (with_reducible repeat (first | refine Z0 ?_ _ | refine Z3 ?_ | refine Z1 ?_ _)); refine Z9 (cs := #[.int .i64 5, .string (⟨#[]⟩ : ByteArray), .int .u32 ((x10_3) % 4294967296), .bool true, .int .i64 a1, .int .i64 0]) ?_ 5 _ rfl; (with_reducible repeat (first | refine Z0 ?_ _ | refine Z3 ?_ | refine Z1 ?_ _)); refine Z9 (cs := #[.int .i64 5, .string (⟨#[]⟩ : ByteArray), .int .u32 0, .bool true, .int .i64 a1, .int .i64 0]) ?_ 2 _ rfl; (with_reducible repeat (first | refine Z0 ?_ _ | refine Z3 ?_ | refine Z1 ?_ _)); refine Z9 (cs := #[.int .i64 5, .string (⟨#[]⟩ : ByteArray), .int .u32 0, .bool (decide (x10_3 ≥ 2147483648)), .int .i64 a1, .int .i64 0]) ?_ 3 _ rfl; (with_reducible repeat (first | refine Z0 ?_ _ | refine Z3 ?_ | refine Z1 ?_ _)); refine Z9 (cs := #[.int .i64 5, .string (⟨#[]⟩ : ByteArray), .int .u32 0, .bool false, .int .i64 a1, .int .i64 0]) ?_ 3 _ rfl; (with_reducible repeat (first | refine Z0 ?_ _ | refine Z3 ?_ | refine Z1 ?_ _)); exact BK108.out⟩
                       have n2_ : Aside0 (Below w.heap.size w ((((wc.setCell ⟨gb108, 3, none⟩ (.bool (decide (x10_3 ≥ 2147483648)))).setCell ⟨gb108, 3, none⟩ (.bool true)).setCell ⟨gb108, 2, none⟩ (.int .u32 ((x10_3) % 4294967296))).setCell ⟨gb108, 5, none⟩ (.int .i64 (wrap64 (x8_3 + 1))))) := ⟨by repeat (first | (with_reducible first | exact HB.out | apply Z7 | apply Z4 | apply Z6 | refine Z8 ?_ GE107.out | refine Z8 ?_ GE108.out) | exact HB.out)⟩
                       (try clear BK107)
                       (try clear BK108)
                       (try clear HB)
                       generalize ((((wc.setCell ⟨gb108, 3, none⟩ (.bool (decide (x10_3 ≥ 2147483648)))).setCell ⟨gb108, 3, none⟩ (.bool true)).setCell ⟨gb108, 2, none⟩ (.int .u32 ((x10_3) % 4294967296))).setCell ⟨gb108, 5, none⟩ (.int .i64 (wrap64 (x8_3 + 1)))) = w52 at n0_ n1_ n2_ ⊢
                       have BK107 := n0_
                       have BK108 := n1_
                       have HB := n2_
                       clear n0_ n1_ n2_
                       have n0_ := Aside0.mk (Z3 BK107.out)
                       have n1_ := Aside0.mk (Z3 BK108.out)
                       have n2_ := Aside0.mk (Z6 HB.out)
                       clear BK107
                       clear BK108
                       clear HB
                       have BK107 := n0_
                       have BK108 := n1_
                       have HB := n2_
                       clear n0_ n1_ n2_
                       refine start_ (n := 14) (S := fun w' => w'.cell? ⟨gb108, 0, none⟩ = some (.int .i64 5) ∧ w'.cell? ⟨gb108, 1, none⟩ = some (.string (⟨#[]⟩ : ByteArray)) ∧ w'.cell? ⟨gb108, 2, none⟩ = some (.int .u32 ((x10_3) % 4294967296)) ∧ w'.cell? ⟨gb108, 3, none⟩ = some (.bool true) ∧ w'.cell? ⟨gb108, 4, none⟩ = some (.int .i64 a1) ∧ w'.cell? ⟨gb108, 5, none⟩ = some (.int .i64 (wrap64 (x8_3 + 1)))) (ds := []) #[false, false, false, false, false, false, false, false, false, false, false, false, false, false] (by kernel_rfl) rfl rfl ⟨(Z5 BK108.out 0).trans rfl, (Z5 BK108.out 1).trans rfl, (Z5 BK108.out 2).trans rfl, (Z5 BK108.out 3).trans rfl, (Z5 BK108.out 4).trans rfl, (Z5 BK108.out 5).trans rfl⟩ (fun hHeld => ?_); refine Z74 Z12.tab20 Z12.bits20 (fun HT_ HW_ => ?_)
                       generalize w52.drew = w53 at BK107 BK108 HB hHeld ⊢
                       refine pure_ (i := 1) (N := some 117) (v := ?_) (a' := ?_) #[false, true, false, false, false, false, false, false, false, false, false, false, false, false] rfl rfl (any_of HT_.out (by kernel_rfl)) (fun _ _ _ h => h) (Or.inl ⟨by rfl, ?_⟩) ?_ ?_
                       rotate_left
                       · intro w'
                         go_simp
                         with_reducible rfl
                       rotate_left
                       · simp only [Act.put, List.setIfInBounds_toArray, List.set_cons_zero, List.set_cons_succ, i64_w, i32_w]
                         rfl
                       refine pure_ (i := 2) (N := some 118) (v := ?_) (a' := ?_) #[false, true, true, false, false, false, false, false, false, false, false, false, false, false] rfl rfl (any_of HT_.out (by kernel_rfl)) (fun _ _ _ h => h) (Or.inl ⟨by rfl, ?_⟩) ?_ ?_
                       rotate_left
                       · intro w'
                         go_simp
                         with_reducible rfl
                       rotate_left
                       · simp only [Act.put, List.setIfInBounds_toArray, List.set_cons_zero, List.set_cons_succ, i64_w, i32_w]
                         rfl
                       refine pure_ (i := 3) (N := some 119) (v := ?_) (a' := ?_) #[false, true, true, true, false, false, false, false, false, false, false, false, false, false] rfl rfl (any_of HT_.out (by kernel_rfl)) (fun _ _ _ h => h) (Or.inl ⟨by rfl, ?_⟩) ?_ ?_
                       rotate_left
                       · intro w'
                         go_simp
                         with_reducible rfl
                       rotate_left
                       · simp only [Act.put, List.setIfInBounds_toArray, List.set_cons_zero, List.set_cons_succ, i64_w, i32_w]
                         rfl
                       refine pure_ (i := 4) (N := some 120) (v := ?_) (a' := ?_) #[false, true, true, true, true, false, false, false, false, false, false, false, false, false] rfl rfl (any_of HT_.out (by kernel_rfl)) (fun _ _ _ h => h) (Or.inl ⟨by rfl, ?_⟩) ?_ ?_
                       rotate_left
                       · intro w'
                         go_simp
                         with_reducible rfl
                       rotate_left
                       · simp only [Act.put, List.setIfInBounds_toArray, List.set_cons_zero, List.set_cons_succ, i64_w, i32_w]
                         rfl
                       refine pure_ (i := 5) (N := some 121) (v := ?_) (a' := ?_) #[false, true, true, true, true, true, false, false, false, false, false, false, false, false] rfl rfl (any_of HT_.out (by kernel_rfl)) (fun _ _ _ h => h) (Or.inl ⟨by rfl, ?_⟩) ?_ ?_
                       rotate_left
                       · intro w'
                         go_simp
                         with_reducible rfl
                       rotate_left
                       · simp only [Act.put, List.setIfInBounds_toArray, List.set_cons_zero, List.set_cons_succ, i64_w, i32_w]
                         rfl
                       refine pure_ (i := 6) (N := some 122) (v := undef) (a' := ?_) #[false, true, true, true, true, true, true, false, false, false, false, false, false, false] rfl rfl (any_of HT_.out (by kernel_rfl)) (fun _ _ _ h => h) (Or.inr ⟨by rfl, rfl⟩) ?_ ?_
                       rotate_left
                       · simp only [Act.put, List.setIfInBounds_toArray, List.set_cons_zero, List.set_cons_succ, i64_w, i32_w]
                         rfl
                       refine pure_ (i := 7) (N := some 123) (v := undef) (a' := ?_) #[false, true, true, true, true, true, true, true, false, false, false, false, false, false] rfl rfl (any_of HT_.out (by kernel_rfl)) (fun _ _ _ h => h) (Or.inr ⟨by rfl, rfl⟩) ?_ ?_
                       rotate_left
                       · simp only [Act.put, List.setIfInBounds_toArray, List.set_cons_zero, List.set_cons_succ, i64_w, i32_w]
                         rfl
                       refine pure_ (i := 8) (N := some 124) (v := undef) (a' := ?_) #[false, true, true, true, true, true, true, true, true, false, false, false, false, false] rfl rfl (any_of HT_.out (by kernel_rfl)) (fun _ _ _ h => h) (Or.inr ⟨by rfl, rfl⟩) ?_ ?_
                       rotate_left
                       · simp only [Act.put, List.setIfInBounds_toArray, List.set_cons_zero, List.set_cons_succ, i64_w, i32_w]
                         rfl
                       refine pure_ (i := 9) (N := some 125) (v := undef) (a' := ?_) #[false, true, true, true, true, true, true, true, true, true, false, false, false, false] rfl rfl (any_of HT_.out (by kernel_rfl)) (fun _ _ _ h => h) (Or.inr ⟨by rfl, rfl⟩) ?_ ?_
                       rotate_left
                       · simp only [Act.put, List.setIfInBounds_toArray, List.set_cons_zero, List.set_cons_succ, i64_w, i32_w]
                         rfl
                       refine pure_ (i := 10) (N := some 126) (v := undef) (a' := ?_) #[false, true, true, true, true, true, true, true, true, true, true, false, false, false] rfl rfl (any_of HT_.out (by kernel_rfl)) (fun _ _ _ h => h) (Or.inr ⟨by rfl, rfl⟩) ?_ ?_
                       rotate_left
                       · simp only [Act.put, List.setIfInBounds_toArray, List.set_cons_zero, List.set_cons_succ, i64_w, i32_w]
                         rfl
                       refine pure_ (i := 11) (N := some 127) (v := ?_) (a' := ?_) #[false, true, true, true, true, true, true, true, true, true, true, true, false, false] rfl rfl (any_of HT_.out (by kernel_rfl)) (fun _ _ _ h => h) (Or.inl ⟨by rfl, ?_⟩) ?_ ?_
                       rotate_left
                       · intro w'
                         go_simp
                         with_reducible rfl
                       rotate_left
                       · simp only [Act.put, List.setIfInBounds_toArray, List.set_cons_zero, List.set_cons_succ, i64_w, i32_w]
                         rfl
                       refine take_ (i := 0) (N := some 116) (v := ?_) (a' := ?_) #[true, true, true, true, true, true, true, true, true, true, true, true, false, false] rfl rfl (Z67 HT_.out HW_.out (by kernel_rfl)) (fun _ _ _ h => h) (Or.inl ⟨by rfl, ?_⟩) hHeld ?_ ?_
                       rotate_left
                       · rintro w' ⟨s0, s1, s2, s3, s4, s5⟩
                         go_simp
                         with_reducible rfl
                       rotate_left
                       · simp only [Act.put, List.setIfInBounds_toArray, List.set_cons_zero, List.set_cons_succ, i64_w, i32_w]
                         rfl
                       refine one_ (i := 12) (N := none) #[true, true, true, true, true, true, true, true, true, true, true, true, true, false] rfl rfl (one_of HT_.out (by kernel_rfl)) (by decide) (fun K hK => ?_)
                       have hs54 : w53.cell? ⟨gb107, 0, none⟩ = some (.int .i64 x108000_3) := (Z5 BK107.out 0).trans rfl
                       have hfs54 := Z2 BK107.out 0
                       have hns54_1 := NB108_107.out
                       have hms54_1 := NB107_108.out
                       have hs55 : w53.cell? ⟨gb107, 1, none⟩ = some (.string x108001_3) := (Z5 BK107.out 1).trans rfl
                       have hfs55 := Z2 BK107.out 1
                       have hns55_1 := NB108_107.out
                       have hms55_1 := NB107_108.out
                       have hs56 : w53.cell? ⟨gb107, 2, none⟩ = some (.int .u32 x108002_3) := (Z5 BK107.out 2).trans rfl
                       have hfs56 := Z2 BK107.out 2
                       have hns56_1 := NB108_107.out
                       have hms56_1 := NB107_108.out
                       have hs57 : w53.cell? ⟨gb107, 3, none⟩ = some (.bool x108003_3) := (Z5 BK107.out 3).trans rfl
                       have hfs57 := Z2 BK107.out 3
                       have hns57_1 := NB108_107.out
                       have hms57_1 := NB107_108.out
                       have hs58 : w53.cell? ⟨gb107, 4, none⟩ = some (.int .i64 x108004_3) := (Z5 BK107.out 4).trans rfl
                       have hfs58 := Z2 BK107.out 4
                       have hns58_1 := NB108_107.out
                       have hms58_1 := NB107_108.out
                       have hs59 : w53.cell? ⟨gb107, 5, none⟩ = some (.int .i64 x108005_3) := (Z5 BK107.out 5).trans rfl
                       have hfs59 := Z2 BK107.out 5
                       have hns59_1 := NB108_107.out
                       have hms59_1 := NB107_108.out
                       refine skip_ (w1 := ?_) (by rfl) rfl ?_ ?_
                       rotate_left
                       · go_simp
                         rfl
                       refine hK.out _ _ ⟨((Z11 (p := ⟨gb107, _, none⟩) NB108_107.out _).trans (((Z11 (p := ⟨gb107, _, none⟩) NB108_107.out _).trans (((Z11 (p := ⟨gb107, _, none⟩) NB108_107.out _).trans (((Z11 (p := ⟨gb107, _, none⟩) NB108_107.out _).trans (((Z11 (p := ⟨gb107, _, none⟩) NB108_107.out _).trans (((Z11 (p := ⟨gb107, _, none⟩) NB108_107.out _).trans (hHeld.1)))))))))))), ((Z11 (p := ⟨gb107, _, none⟩) NB108_107.out _).trans (((Z11 (p := ⟨gb107, _, none⟩) NB108_107.out _).trans (((Z11 (p := ⟨gb107, _, none⟩) NB108_107.out _).trans (((Z11 (p := ⟨gb107, _, none⟩) NB108_107.out _).trans (((Z11 (p := ⟨gb107, _, none⟩) NB108_107.out _).trans (((Z11 (p := ⟨gb107, _, none⟩) NB108_107.out _).trans (hHeld.2.1)))))))))))), ((Z11 (p := ⟨gb107, _, none⟩) NB108_107.out _).trans (((Z11 (p := ⟨gb107, _, none⟩) NB108_107.out _).trans (((Z11 (p := ⟨gb107, _, none⟩) NB108_107.out _).trans (((Z11 (p := ⟨gb107, _, none⟩) NB108_107.out _).trans (((Z11 (p := ⟨gb107, _, none⟩) NB108_107.out _).trans (((Z11 (p := ⟨gb107, _, none⟩) NB108_107.out _).trans (hHeld.2.2.1)))))))))))), ((Z11 (p := ⟨gb107, _, none⟩) NB108_107.out _).trans (((Z11 (p := ⟨gb107, _, none⟩) NB108_107.out _).trans (((Z11 (p := ⟨gb107, _, none⟩) NB108_107.out _).trans (((Z11 (p := ⟨gb107, _, none⟩) NB108_107.out _).trans (((Z11 (p := ⟨gb107, _, none⟩) NB108_107.out _).trans (((Z11 (p := ⟨gb107, _, none⟩) NB108_107.out _).trans (hHeld.2.2.2.1)))))))))))), ((Z11 (p := ⟨gb107, _, none⟩) NB108_107.out _).trans (((Z11 (p := ⟨gb107, _, none⟩) NB108_107.out _).trans (((Z11 (p := ⟨gb107, _, none⟩) NB108_107.out _).trans (((Z11 (p := ⟨gb107, _, none⟩) NB108_107.out _).trans (((Z11 (p := ⟨gb107, _, none⟩) NB108_107.out _).trans (((Z11 (p := ⟨gb107, _, none⟩) NB108_107.out _).trans (hHeld.2.2.2.2.1)))))))))))), ((Z11 (p := ⟨gb107, _, none⟩) NB108_107.out _).trans (((Z11 (p := ⟨gb107, _, none⟩) NB108_107.out _).trans (((Z11 (p := ⟨gb107, _, none⟩) NB108_107.out _).trans (((Z11 (p := ⟨gb107, _, none⟩) NB108_107.out _).trans (((Z11 (p := ⟨gb107, _, none⟩) NB108_107.out _).trans (((Z11 (p := ⟨gb107, _, none⟩) NB108_107.out _).trans (hHeld.2.2.2.2.2))))))))))))⟩ (fun hHeld => ?_)
                       clear hK K
                       refine pure_ (i := 13) (N := some 5) (v := ?_) (a' := ?_) #[true, true, true, true, true, true, true, true, true, true, true, true, true, true] rfl rfl (any_of HT_.out (by kernel_rfl)) (fun _ _ _ h => h) (Or.inl ⟨by rfl, ?_⟩) ?_ ?_
                       rotate_left
                       · intro w'
                         go_simp
                         with_reducible rfl
                       rotate_left
                       · simp only [Act.put, List.setIfInBounds_toArray, List.set_cons_zero, List.set_cons_succ, i64_w, i32_w]
                         rfl
                       refine done_ (Z83 HT_.out (by kernel_rfl)) ?_
                       try go_wp2
                       refine bodyPost_ret (Z46 rfl _ _ gb107 24 #[.int .i64 5, .string (⟨#[]⟩ : ByteArray), .int .u32 ((x10_3) % 4294967296), .bool true, .int .i64 a1, .int .i64 (wrap64 (x8_3 + 1))] (0, 0) _ rfl (by (with_reducible repeat (first | refine Z0 ?_ _ | refine Z3 ?_ | refine Z1 ?_ _)); refine Z9 (cs := #[.int .i64 5, .string (⟨#[]⟩ : ByteArray), .int .u32 ((x10_3) % 4294967296), .bool true, .int .i64 a1, .int .i64 x108005_3]) ?_ 5 _ rfl; (with_reducible repeat (first | refine Z0 ?_ _ | refine Z3 ?_ | refine Z1 ?_ _)); refine Z9 (cs := #[.int .i64 5, .string (⟨#[]⟩ : ByteArray), .int .u32 ((x10_3) % 4294967296), .bool true, .int .i64 x108004_3, .int .i64 x108005_3]) ?_ 4 _ rfl; (with_reducible repeat (first | refine Z0 ?_ _ | refine Z3 ?_ | refine Z1 ?_ _)); refine Z9 (cs := #[.int .i64 5, .string (⟨#[]⟩ : ByteArray), .int .u32 ((x10_3) % 4294967296), .bool x108003_3, .int .i64 x108004_3, .int .i64 x108005_3]) ?_ 3 _ rfl; (with_reducible repeat (first | refine Z0 ?_ _ | refine Z3 ?_ | refine Z1 ?_ _)); refine Z9 (cs := #[.int .i64 5, .string (⟨#[]⟩ : ByteArray), .int .u32 x108002_3, .bool x108003_3, .int .i64 x108004_3, .int .i64 x108005_3]) ?_ 2 _ rfl; (with_reducible repeat (first | refine Z0 ?_ _ | refine Z3 ?_ | refine Z1 ?_ _)); refine Z9 (cs := #[.int .i64 5, .string x108001_3, .int .u32 x108002_3, .bool x108003_3, .int .i64 x108004_3, .int .i64 x108005_3]) ?_ 1 _ rfl; (with_reducible repeat (first | refine Z0 ?_ _ | refine Z3 ?_ | refine Z1 ?_ _)); refine Z9 (cs := #[.int .i64 x108000_3, .string x108001_3, .int .u32 x108002_3, .bool x108003_3, .int .i64 x108004_3, .int .i64 x108005_3]) ?_ 0 _ rfl; (with_reducible repeat (first | refine Z0 ?_ _ | refine Z3 ?_ | refine Z1 ?_ _)); exact BK107.out) Tryd.underlying24 rfl (by kernel_rfl)) rfl ?_
                       exact ⟨by first | rfl | (simp [Z16, Z15] <;> rfl) | (simp [*, Z16, Z15] <;> rfl), by repeat (first | (with_reducible first | exact HB.out | apply Z7 | apply Z4 | apply Z6 | refine Z8 ?_ GE107.out | refine Z8 ?_ GE108.out) | exact HB.out)⟩
                     · rw [if_neg c49] at H
                       have c49b0 : decide ((a0.size : Int) ≤ (wrap64 (x8_3 + 1))) = false := decide_eq_false c49
                       clear c49
                       obtain ⟨ji60, hji60⟩ : ∃ j_ : Int, (wrap64 (x8_3 + 1)) = j_ := ⟨_, rfl⟩
                       replace H : (if 0 ≤ (ji60) then (if (ji60) < (a0.size : Int) then ((Z37.f (bt a0 (ji60))).bind fun t111 => (some (5, (⟨#[]⟩ : ByteArray), (x10_3) % 4294967296, true, a1, ji60, !t111))) else (none)) else (none)) = some (r1, r2, r3, r4, r5, r6, r7) := by first | (rw [hji60] at H; exact H) | (simp only [hji60] at H ⊢; exact H)
                       (try rw [hji60] at c49b0)
                       have hji60w : (IntKind.i64.wrap (x8_3 + 1)) = ji60 := (i64_w _).trans hji60
                       by_cases c61 : 0 ≤ (ji60)
                       · rw [if_pos c61] at H
                         have c61b0 : decide (0 ≤ (ji60)) = true := decide_eq_true c61
                         clear c61
                         by_cases c62 : (ji60) < (a0.size : Int)
                         · rw [if_pos c62] at H
                           have c62b0 : decide ((ji60) < (a0.size : Int)) = true := decide_eq_true c62
                           clear c62
                           replace H := Option.bind_eq_some_iff.mp H
                           obtain ⟨t111, A640, H⟩ := H
                           replace H : (some (5, (⟨#[]⟩ : ByteArray), (x10_3) % 4294967296, true, a1, ji60, !t111)) = some (r1, r2, r3, r4, r5, r6, r7) := H
                           have A64 := Aside0.mk A640
                           clear A640
                           simp only [Option.some.injEq, Prod.mk.injEq] at H
                           obtain ⟨rfl, rfl, rfl, rfl, rfl, rfl, rfl⟩ := H
                           have hnb65 := NB108_107.out
                           have hnc65 := NB107_108.out
                           have hcz66_0 : wc.cell? ⟨gb108, 0, none⟩ = some (.int .i64 5) := (Z5 BK108.out 0).trans rfl
                           have hcz66_1 : wc.cell? ⟨gb108, 1, none⟩ = some (.string (⟨#[]⟩ : ByteArray)) := (Z5 BK108.out 1).trans rfl
                           have hcz66_2 : wc.cell? ⟨gb108, 2, none⟩ = some (.int .u32 0) := (Z5 BK108.out 2).trans rfl
                           have hcz66_3 : wc.cell? ⟨gb108, 3, none⟩ = some (.bool false) := (Z5 BK108.out 3).trans rfl
                           have hcz66_4 : wc.cell? ⟨gb108, 4, none⟩ = some (.int .i64 a1) := (Z5 BK108.out 4).trans rfl
                           have hcz66_5 : wc.cell? ⟨gb108, 5, none⟩ = some (.int .i64 0) := (Z5 BK108.out 5).trans rfl
                           have hfz66_0 := Z2 BK108.out 0
                           have hfz66_1 := Z2 BK108.out 1
                           have hfz66_2 := Z2 BK108.out 2
                           have hfz66_3 := Z2 BK108.out 3
                           have hfz66_4 := Z2 BK108.out 4
                           have hfz66_5 := Z2 BK108.out 5
                           have p47 : 0 ≤ (x8_3 : Int) := of_decide_eq_true (by first | (with_reducible assumption) | assumption)
                           have q47 : x8_3 < (a0.size : Int) := of_decide_eq_true (by first | (with_reducible assumption) | assumption)
                           have hx47 := bt_at a0 x8_3
                           replace p47 := eq_true p47
                           replace q47 := eq_true q47
                           try go_wp2
                           have n0_ : Aside0 (((((wc.setCell ⟨gb108, 3, none⟩ (.bool (decide (x10_3 ≥ 2147483648)))).setCell ⟨gb108, 3, none⟩ (.bool true)).setCell ⟨gb108, 2, none⟩ (.int .u32 ((x10_3) % 4294967296))).setCell ⟨gb108, 5, none⟩ (.int .i64 ji60)).heap[gb107]? = some (.cells #[.int .i64 x108000_3, .string x108001_3, .int .u32 x108002_3, .bool x108003_3, .int .i64 x108004_3, .int .i64 x108005_3] 24 (0, 0))) := ⟨by (with_reducible repeat (first | refine Z0 ?_ _ | refine Z3 ?_ | refine Z1 ?_ _)); refine Z22 ?_ NB107_108.out _; (with_reducible repeat (first | refine Z0 ?_ _ | refine Z3 ?_ | refine Z1 ?_ _)); refine Z22 ?_ NB107_108.out _; (with_reducible repeat (first | refine Z0 ?_ _ | refine Z3 ?_ | refine Z1 ?_ _)); refine Z22 ?_ NB107_108.out _; (with_reducible repeat (first | refine Z0 ?_ _ | refine Z3 ?_ | refine Z1 ?_ _)); refine Z22 ?_ NB107_108.out _; (with_reducible repeat (first | refine Z0 ?_ _ | refine Z3 ?_ | refine Z1 ?_ _)); exact BK107.out⟩
                           have n1_ : Aside0 (((((wc.setCell ⟨gb108, 3, none⟩ (.bool (decide (x10_3 ≥ 2147483648)))).setCell ⟨gb108, 3, none⟩ (.bool true)).setCell ⟨gb108, 2, none⟩ (.int .u32 ((x10_3) % 4294967296))).setCell ⟨gb108, 5, none⟩ (.int .i64 ji60)).heap[gb108]? = some (.cells #[.int .i64 5, .string (⟨#[]⟩ : ByteArray), .int .u32 ((x10_3) % 4294967296), .bool true, .int .i64 a1, .int .i64 ji60] 24 (0, 0))) := ⟨by (with_reducible repeat (first | refine Z0 ?_ _ | refine Z3 ?_ | refine Z1 ?_ _)); refine Z9 (cs := #[.int .i64 5, .string (⟨#[]⟩ : ByteArray), .int .u32 ((x10_3) % 4294967296), .bool true, .int .i64 a1, .int .i64 0]) ?_ 5 _ rfl; (with_reducible repeat (first | refine Z0 ?_ _ | refine Z3 ?_ | refine Z1 ?_ _)); refine Z9 (cs := #[.int .i64 5, .string (⟨#[]⟩ : ByteArray), .int .u32 0, .bool true, .int .i64 a1, .int .i64 0]) ?_ 2 _ rfl; (with_reducible repeat (first | refine Z0 ?_ _ | refine Z3 ?_ | refine Z1 ?_ _)); refine Z9 (cs := #[.int .i64 5, .string (⟨#[]⟩ : ByteArray), .int .u32 0, .bool (decide (x10_3 ≥ 2147483648)), .int .i64 a1, .int .i64 0]) ?_ 3 _ rfl; (with_reducible repeat (first | refine Z0 ?_ _ | refine Z3 ?_ | refine Z1 ?_ _)); refine Z9 (cs := #[.int .i64 5, .string (⟨#[]⟩ : ByteArray), .int .u32 0, .bool false, .int .i64 a1, .int .i64 0]) ?_ 3 _ rfl; (with_reducible repeat (first | refine Z0 ?_ _ | refine Z3 ?_ | refine Z1 ?_ _)); exact BK108.out⟩
                           have n2_ : Aside0 (Below w.heap.size w ((((wc.setCell ⟨gb108, 3, none⟩ (.bool (decide (x10_3 ≥ 2147483648)))).setCell ⟨gb108, 3, none⟩ (.bool true)).setCell ⟨gb108, 2, none⟩ (.int .u32 ((x10_3) % 4294967296))).setCell ⟨gb108, 5, none⟩ (.int .i64 ji60))) := ⟨by repeat (first | (with_reducible first | exact HB.out | apply Z7 | apply Z4 | apply Z6 | refine Z8 ?_ GE107.out | refine Z8 ?_ GE108.out) | exact HB.out)⟩
                           (try clear BK107)
                           (try clear BK108)
                           (try clear HB)
                           generalize ((((wc.setCell ⟨gb108, 3, none⟩ (.bool (decide (x10_3 ≥ 2147483648)))).setCell ⟨gb108, 3, none⟩ (.bool true)).setCell ⟨gb108, 2, none⟩ (.int .u32 ((x10_3) % 4294967296))).setCell ⟨gb108, 5, none⟩ (.int .i64 ji60)) = w67 at n0_ n1_ n2_ ⊢
                           have BK107 := n0_
                           have BK108 := n1_
                           have HB := n2_
                           clear n0_ n1_ n2_
                           have n0_ := Aside0.mk (Z3 BK107.out)
                           have n1_ := Aside0.mk (Z3 BK108.out)
                           have n2_ := Aside0.mk (Z6 HB.out)
                           clear BK107
                           clear BK108
                           clear HB
                           have BK107 := n0_
                           have BK108 := n1_
                           have HB := n2_
                           clear n0_ n1_ n2_
                           have p63 : 0 ≤ ((ji60) : Int) := of_decide_eq_true (by first | (with_reducible assumption) | assumption)
                           have q63 : (ji60) < (a0.size : Int) := of_decide_eq_true (by first | (with_reducible assumption) | assumption)
                           have hx63 := bt_at a0 (ji60)
                           replace p63 := eq_true p63
                           replace q63 := eq_true q63
                           refine start_ (n := 14) (S := fun w' => w'.cell? ⟨gb108, 0, none⟩ = some (.int .i64 5) ∧ w'.cell? ⟨gb108, 1, none⟩ = some (.string (⟨#[]⟩ : ByteArray)) ∧ w'.cell? ⟨gb108, 2, none⟩ = some (.int .u32 ((x10_3) % 4294967296)) ∧ w'.cell? ⟨gb108, 3, none⟩ = some (.bool true) ∧ w'.cell? ⟨gb108, 4, none⟩ = some (.int .i64 a1) ∧ w'.cell? ⟨gb108, 5, none⟩ = some (.int .i64 ji60)) (ds := []) #[false, false, false, false, false, false, false, false, false, false, false, false, false, false] (by kernel_rfl) rfl rfl ⟨(Z5 BK108.out 0).trans rfl, (Z5 BK108.out 1).trans rfl, (Z5 BK108.out 2).trans rfl, (Z5 BK108.out 3).trans rfl, (Z5 BK108.out 4).trans rfl, (Z5 BK108.out 5).trans rfl⟩ (fun hHeld => ?_); refine Z74 Z12.tab20 Z12.bits20 (fun HT_ HW_ => ?_)
                           generalize w67.drew = w68 at BK107 BK108 HB hHeld ⊢
                           refine pure_ (i := 1) (N := some 117) (v := ?_) (a' := ?_) #[false, true, false, false, false, false, false, false, false, false, false, false, false, false] rfl rfl (any_of HT_.out (by kernel_rfl)) (fun _ _ _ h => h) (Or.inl ⟨by rfl, ?_⟩) ?_ ?_
                           rotate_left
                           · intro w'
                             go_simp
                             with_reducible rfl
                           rotate_left
                           · simp only [Act.put, List.setIfInBounds_toArray, List.set_cons_zero, List.set_cons_succ, i64_w, i32_w]
                             rfl
                           refine pure_ (i := 2) (N := some 118) (v := ?_) (a' := ?_) #[false, true, true, false, false, false, false, false, false, false, false, false, false, false] rfl rfl (any_of HT_.out (by kernel_rfl)) (fun _ _ _ h => h) (Or.inl ⟨by rfl, ?_⟩) ?_ ?_
                           rotate_left
                           · intro w'
                             go_simp
                             with_reducible rfl
                           rotate_left
                           · simp only [Act.put, List.setIfInBounds_toArray, List.set_cons_zero, List.set_cons_succ, i64_w, i32_w]
                             rfl
                           refine pure_ (i := 3) (N := some 119) (v := ?_) (a' := ?_) #[false, true, true, true, false, false, false, false, false, false, false, false, false, false] rfl rfl (any_of HT_.out (by kernel_rfl)) (fun _ _ _ h => h) (Or.inl ⟨by rfl, ?_⟩) ?_ ?_
                           rotate_left
                           · intro w'
                             go_simp
                             with_reducible rfl
                           rotate_left
                           · simp only [Act.put, List.setIfInBounds_toArray, List.set_cons_zero, List.set_cons_succ, i64_w, i32_w]
                             rfl
                           refine pure_ (i := 4) (N := some 120) (v := ?_) (a' := ?_) #[false, true, true, true, true, false, false, false, false, false, false, false, false, false] rfl rfl (any_of HT_.out (by kernel_rfl)) (fun _ _ _ h => h) (Or.inl ⟨by rfl, ?_⟩) ?_ ?_
                           rotate_left
                           · intro w'
                             go_simp
                             with_reducible rfl
                           rotate_left
                           · simp only [Act.put, List.setIfInBounds_toArray, List.set_cons_zero, List.set_cons_succ, i64_w, i32_w]
                             rfl
                           refine pure_ (i := 5) (N := some 121) (v := ?_) (a' := ?_) #[false, true, true, true, true, true, false, false, false, false, false, false, false, false] rfl rfl (any_of HT_.out (by kernel_rfl)) (fun _ _ _ h => h) (Or.inl ⟨by rfl, ?_⟩) ?_ ?_
                           rotate_left
                           · intro w'
                             go_simp
                             with_reducible rfl
                           rotate_left
                           · simp only [Act.put, List.setIfInBounds_toArray, List.set_cons_zero, List.set_cons_succ, i64_w, i32_w]
                             rfl
                           refine pure_ (i := 6) (N := some 122) (v := ?_) (a' := ?_) #[false, true, true, true, true, true, true, false, false, false, false, false, false, false] rfl rfl (any_of HT_.out (by kernel_rfl)) (fun _ _ _ h => h) (Or.inl ⟨by rfl, ?_⟩) ?_ ?_
                           rotate_left
                           · intro w'
                             go_simp
                             with_reducible rfl
                           rotate_left
                           · simp only [Act.put, List.setIfInBounds_toArray, List.set_cons_zero, List.set_cons_succ, i64_w, i32_w]
                             rfl
                           refine pure_ (i := 7) (N := some 123) (v := ?_) (a' := ?_) #[false, true, true, true, true, true, true, true, false, false, false, false, false, false] rfl rfl (any_of HT_.out (by kernel_rfl)) (fun _ _ _ h => h) (Or.inl ⟨by rfl, ?_⟩) ?_ ?_
                           rotate_left
                           · intro w'
                             go_simp
                             with_reducible rfl
                           rotate_left
                           · simp only [Act.put, List.setIfInBounds_toArray, List.set_cons_zero, List.set_cons_succ, i64_w, i32_w]
                             rfl
                           refine take_ (i := 0) (N := some 116) (v := ?_) (a' := ?_) #[true, true, true, true, true, true, true, true, false, false, false, false, false, false] rfl rfl (Z67 HT_.out HW_.out (by kernel_rfl)) (fun _ _ _ h => h) (Or.inl ⟨by rfl, ?_⟩) hHeld ?_ ?_
                           rotate_left
                           · rintro w' ⟨s0, s1, s2, s3, s4, s5⟩
                             go_simp
                             with_reducible rfl
                           rotate_left
                           · simp only [Act.put, List.setIfInBounds_toArray, List.set_cons_zero, List.set_cons_succ, i64_w, i32_w]
                             rfl
                           refine take_ (i := 8) (N := some 124) (v := ?_) (a' := ?_) #[true, true, true, true, true, true, true, true, true, false, false, false, false, false] rfl rfl (Z67 HT_.out HW_.out (by kernel_rfl)) (fun _ _ _ h => h) (Or.inl ⟨by rfl, ?_⟩) hHeld ?_ ?_
                           rotate_left
                           · rintro w' ⟨s0, s1, s2, s3, s4, s5⟩
                             go_simp
                             with_reducible rfl
                           rotate_left
                           · simp only [Act.put, List.setIfInBounds_toArray, List.set_cons_zero, List.set_cons_succ, i64_w, i32_w]
                             rfl
                           refine one_ (i := 9) (N := some 125) #[true, true, true, true, true, true, true, true, true, true, false, false, false, false] rfl rfl (one_of HT_.out (by kernel_rfl)) (by decide) (fun K hK => ?_)
                           refine goes_ Tryd.func24 (by kernel_rfl) rfl #[.int .u8 (bt a0 (ji60))] (by rfl) rfl rfl (by (try simp only [List.map_toArray, List.map_cons, List.map_nil]); first | done | (simp only [hji60]; rfl) | rfl | (simp only [List.length_drop, List.length_take]; rfl)) ?_
                           with_reducible refine (Z37.calls (bt a0 (ji60)) t111 _ A64.out).mono ?_
                           rintro e w' ⟨rfl, ⟨nd, rfl⟩⟩
                           refine ⟨_, rfl, ?_⟩
                           refine hK.out _ _ ⟨(Z5 BK108.out 0).trans rfl, (Z5 BK108.out 1).trans rfl, (Z5 BK108.out 2).trans rfl, (Z5 BK108.out 3).trans rfl, (Z5 BK108.out 4).trans rfl, (Z5 BK108.out 5).trans rfl⟩ (fun hHeld => ?_)
                           clear hK K
                           refine norm_ (a' := ?_) ?_ ?_
                           rotate_left
                           · show Act.put _ (some 125) _ = _
                             simp only [Act.put, List.setIfInBounds_toArray, List.set_cons_zero, List.set_cons_succ, i64_w, i32_w]
                             rfl
                           refine pure_ (i := 10) (N := some 126) (v := ?_) (a' := ?_) #[true, true, true, true, true, true, true, true, true, true, true, false, false, false] rfl rfl (any_of HT_.out (by kernel_rfl)) (fun _ _ _ h => h) (Or.inl ⟨by rfl, ?_⟩) ?_ ?_
                           rotate_left
                           · intro w'
                             go_simp
                             with_reducible rfl
                           rotate_left
                           · simp only [Act.put, List.setIfInBounds_toArray, List.set_cons_zero, List.set_cons_succ, i64_w, i32_w]
                             rfl
                           refine pure_ (i := 11) (N := some 127) (v := ?_) (a' := ?_) #[true, true, true, true, true, true, true, true, true, true, true, true, false, false] rfl rfl (any_of HT_.out (by kernel_rfl)) (fun _ _ _ h => h) (Or.inl ⟨by rfl, ?_⟩) ?_ ?_
                           rotate_left
                           · intro w'
                             go_simp
                             with_reducible rfl
                           rotate_left
                           · simp only [Act.put, List.setIfInBounds_toArray, List.set_cons_zero, List.set_cons_succ, i64_w, i32_w]
                             rfl
                           refine one_ (i := 12) (N := none) #[true, true, true, true, true, true, true, true, true, true, true, true, true, false] rfl rfl (one_of HT_.out (by kernel_rfl)) (by decide) (fun K hK => ?_)
                           have hs69 : w68.cell? ⟨gb107, 0, none⟩ = some (.int .i64 x108000_3) := (Z5 BK107.out 0).trans rfl
                           have hfs69 := Z2 BK107.out 0
                           have hns69_1 := NB108_107.out
                           have hms69_1 := NB107_108.out
                           have hs70 : w68.cell? ⟨gb107, 1, none⟩ = some (.string x108001_3) := (Z5 BK107.out 1).trans rfl
                           have hfs70 := Z2 BK107.out 1
                           have hns70_1 := NB108_107.out
                           have hms70_1 := NB107_108.out
                           have hs71 : w68.cell? ⟨gb107, 2, none⟩ = some (.int .u32 x108002_3) := (Z5 BK107.out 2).trans rfl
                           have hfs71 := Z2 BK107.out 2
                           have hns71_1 := NB108_107.out
                           have hms71_1 := NB107_108.out
                           have hs72 : w68.cell? ⟨gb107, 3, none⟩ = some (.bool x108003_3) := (Z5 BK107.out 3).trans rfl
                           have hfs72 := Z2 BK107.out 3
                           have hns72_1 := NB108_107.out
                           have hms72_1 := NB107_108.out
                           have hs73 : w68.cell? ⟨gb107, 4, none⟩ = some (.int .i64 x108004_3) := (Z5 BK107.out 4).trans rfl
                           have hfs73 := Z2 BK107.out 4
                           have hns73_1 := NB108_107.out
                           have hms73_1 := NB107_108.out
                           have hs74 : w68.cell? ⟨gb107, 5, none⟩ = some (.int .i64 x108005_3) := (Z5 BK107.out 5).trans rfl
                           have hfs74 := Z2 BK107.out 5
                           have hns74_1 := NB108_107.out
                           have hms74_1 := NB107_108.out
                           refine skip_ (w1 := ?_) (by rfl) rfl ?_ ?_
                           rotate_left
                           · go_simp
                             rfl
                           refine hK.out _ _ ⟨((Z11 (p := ⟨gb107, _, none⟩) NB108_107.out _).trans (((Z11 (p := ⟨gb107, _, none⟩) NB108_107.out _).trans (((Z11 (p := ⟨gb107, _, none⟩) NB108_107.out _).trans (((Z11 (p := ⟨gb107, _, none⟩) NB108_107.out _).trans (((Z11 (p := ⟨gb107, _, none⟩) NB108_107.out _).trans (((Z11 (p := ⟨gb107, _, none⟩) NB108_107.out _).trans (hHeld.1)))))))))))), ((Z11 (p := ⟨gb107, _, none⟩) NB108_107.out _).trans (((Z11 (p := ⟨gb107, _, none⟩) NB108_107.out _).trans (((Z11 (p := ⟨gb107, _, none⟩) NB108_107.out _).trans (((Z11 (p := ⟨gb107, _, none⟩) NB108_107.out _).trans (((Z11 (p := ⟨gb107, _, none⟩) NB108_107.out _).trans (((Z11 (p := ⟨gb107, _, none⟩) NB108_107.out _).trans (hHeld.2.1)))))))))))), ((Z11 (p := ⟨gb107, _, none⟩) NB108_107.out _).trans (((Z11 (p := ⟨gb107, _, none⟩) NB108_107.out _).trans (((Z11 (p := ⟨gb107, _, none⟩) NB108_107.out _).trans (((Z11 (p := ⟨gb107, _, none⟩) NB108_107.out _).trans (((Z11 (p := ⟨gb107, _, none⟩) NB108_107.out _).trans (((Z11 (p := ⟨gb107, _, none⟩) NB108_107.out _).trans (hHeld.2.2.1)))))))))))), ((Z11 (p := ⟨gb107, _, none⟩) NB108_107.out _).trans (((Z11 (p := ⟨gb107, _, none⟩) NB108_107.out _).trans (((Z11 (p := ⟨gb107, _, none⟩) NB108_107.out _).trans (((Z11 (p := ⟨gb107, _, none⟩) NB108_107.out _).trans (((Z11 (p := ⟨gb107, _, none⟩) NB108_107.out _).trans (((Z11 (p := ⟨gb107, _, none⟩) NB108_107.out _).trans (hHeld.2.2.2.1)))))))))))), ((Z11 (p := ⟨gb107, _, none⟩) NB108_107.out _).trans (((Z11 (p := ⟨gb107, _, none⟩) NB108_107.out _).trans (((Z11 (p := ⟨gb107, _, none⟩) NB108_107.out _).trans (((Z11 (p := ⟨gb107, _, none⟩) NB108_107.out _).trans (((Z11 (p := ⟨gb107, _, none⟩) NB108_107.out _).trans (((Z11 (p := ⟨gb107, _, none⟩) NB108_107.out _).trans (hHeld.2.2.2.2.1)))))))))))), ((Z11 (p := ⟨gb107, _, none⟩) NB108_107.out _).trans (((Z11 (p := ⟨gb107, _, none⟩) NB108_107.out _).trans (((Z11 (p := ⟨gb107, _, none⟩) NB108_107.out _).trans (((Z11 (p := ⟨gb107, _, none⟩) NB108_107.out _).trans (((Z11 (p := ⟨gb107, _, none⟩) NB108_107.out _).trans (((Z11 (p := ⟨gb107, _, none⟩) NB108_107.out _).trans (hHeld.2.2.2.2.2))))))))))))⟩ (fun hHeld => ?_)
                           clear hK K
                           refine pure_ (i := 13) (N := some 5) (v := ?_) (a' := ?_) #[true, true, true, true, true, true, true, true, true, true, true, true, true, true] rfl rfl (any_of HT_.out (by kernel_rfl)) (fun _ _ _ h => h) (Or.inl ⟨by rfl, ?_⟩) ?_ ?_
                           rotate_left
                           · intro w'
                             go_simp
                             with_reducible rfl
                           rotate_left
                           · simp only [Act.put, List.setIfInBounds_toArray, List.set_cons_zero, List.set_cons_succ, i64_w, i32_w]
                             rfl
                           refine done_ (Z83 HT_.out (by kernel_rfl)) ?_
                           try go_wp2
                           refine bodyPost_ret (Z46 rfl _ _ gb107 24 #[.int .i64 5, .string (⟨#[]⟩ : ByteArray), .int .u32 ((x10_3) % 4294967296), .bool true, .int .i64 a1, .int .i64 ji60] (0, 0) _ rfl (by (with_reducible repeat (first | refine Z0 ?_ _ | refine Z3 ?_ | refine Z1 ?_ _)); refine Z9 (cs := #[.int .i64 5, .string (⟨#[]⟩ : ByteArray), .int .u32 ((x10_3) % 4294967296), .bool true, .int .i64 a1, .int .i64 x108005_3]) ?_ 5 _ rfl; (with_reducible repeat (first | refine Z0 ?_ _ | refine Z3 ?_ | refine Z1 ?_ _)); refine Z9 (cs := #[.int .i64 5, .string (⟨#[]⟩ : ByteArray), .int .u32 ((x10_3) % 4294967296), .bool true, .int .i64 x108004_3, .int .i64 x108005_3]) ?_ 4 _ rfl; (with_reducible repeat (first | refine Z0 ?_ _ | refine Z3 ?_ | refine Z1 ?_ _)); refine Z9 (cs := #[.int .i64 5, .string (⟨#[]⟩ : ByteArray), .int .u32 ((x10_3) % 4294967296), .bool x108003_3, .int .i64 x108004_3, .int .i64 x108005_3]) ?_ 3 _ rfl; (with_reducible repeat (first | refine Z0 ?_ _ | refine Z3 ?_ | refine Z1 ?_ _)); refine Z9 (cs := #[.int .i64 5, .string (⟨#[]⟩ : ByteArray), .int .u32 x108002_3, .bool x108003_3, .int .i64 x108004_3, .int .i64 x108005_3]) ?_ 2 _ rfl; (with_reducible repeat (first | refine Z0 ?_ _ | refine Z3 ?_ | refine Z1 ?_ _)); refine Z9 (cs := #[.int .i64 5, .string x108001_3, .int .u32 x108002_3, .bool x108003_3, .int .i64 x108004_3, .int .i64 x108005_3]) ?_ 1 _ rfl; (with_reducible repeat (first | refine Z0 ?_ _ | refine Z3 ?_ | refine Z1 ?_ _)); refine Z9 (cs := #[.int .i64 x108000_3, .string x108001_3, .int .u32 x108002_3, .bool x108003_3, .int .i64 x108004_3, .int .i64 x108005_3]) ?_ 0 _ rfl; (with_reducible repeat (first | refine Z0 ?_ _ | refine Z3 ?_ | refine Z1 ?_ _)); exact BK107.out) Tryd.underlying24 rfl (by kernel_rfl)) rfl ?_
                           exact ⟨by first | rfl | (simp [Z16, Z15] <;> rfl) | (simp only [← hji60]; first | rfl | (simp [Z16, Z15] <;> rfl)) | (simp [*, Z16, Z15] <;> rfl), by repeat (first | (with_reducible first | exact HB.out | apply Z7 | apply Z4 | apply Z6 | refine Z8 ?_ GE107.out | refine Z8 ?_ GE108.out) | exact HB.out)⟩
                         · rw [if_neg c62] at H
                           exact absurd H (by simp)
                       · rw [if_neg c61] at H
                         exact absurd H (by simp)
                   · rw [if_neg c48] at H
                     have c48b0 : ((bt a0 x8_3) == 117) = false := beq_eq_false_iff_ne.mpr c48
                     have c48b1 : ((bt a0 x8_3) != 117) = true := bne_iff_ne.mpr c48
                     by_cases c76 : (bt a0 x8_3) = 85
                     · rw [if_pos c76] at H
                       have c76b0 : ((bt a0 x8_3) == 85) = true := beq_iff_eq.mpr c76
                       have c76b1 : ((bt a0 x8_3) != 85) = false := bne_eq_false_iff_eq.mpr c76
                       clear c76
                       by_cases c77 : (wrap64 (x8_3 + 1)) ≥ (a0.size : Int)
                       · rw [if_pos c77] at H
                         have c77b0 : decide ((a0.size : Int) ≤ (wrap64 (x8_3 + 1))) = true := decide_eq_true c77
                         clear c77
                         simp only [Option.some.injEq, Prod.mk.injEq] at H
                         obtain ⟨rfl, rfl, rfl, rfl, rfl, rfl, rfl⟩ := H
                         have hnb78 := NB108_107.out
                         have hnc78 := NB107_108.out
                         have hcz79_0 : wc.cell? ⟨gb108, 0, none⟩ = some (.int .i64 5) := (Z5 BK108.out 0).trans rfl
                         have hcz79_1 : wc.cell? ⟨gb108, 1, none⟩ = some (.string (⟨#[]⟩ : ByteArray)) := (Z5 BK108.out 1).trans rfl
                         have hcz79_2 : wc.cell? ⟨gb108, 2, none⟩ = some (.int .u32 0) := (Z5 BK108.out 2).trans rfl
                         have hcz79_3 : wc.cell? ⟨gb108, 3, none⟩ = some (.bool false) := (Z5 BK108.out 3).trans rfl
                         have hcz79_4 : wc.cell? ⟨gb108, 4, none⟩ = some (.int .i64 a1) := (Z5 BK108.out 4).trans rfl
                         have hcz79_5 : wc.cell? ⟨gb108, 5, none⟩ = some (.int .i64 0) := (Z5 BK108.out 5).trans rfl
                         have hfz79_0 := Z2 BK108.out 0
                         have hfz79_1 := Z2 BK108.out 1
                         have hfz79_2 := Z2 BK108.out 2
                         have hfz79_3 := Z2 BK108.out 3
                         have hfz79_4 := Z2 BK108.out 4
                         have hfz79_5 := Z2 BK108.out 5
                         have p47 : 0 ≤ (x8_3 : Int) := of_decide_eq_true (by first | (with_reducible assumption) | assumption)
                         have q47 : x8_3 < (a0.size : Int) := of_decide_eq_true (by first | (with_reducible assumption) | assumption)
                         have hx47 := bt_at a0 x8_3
                         replace p47 := eq_true p47
                         replace q47 := eq_true q47
                         have p75 : 0 ≤ (x8_3 : Int) := of_decide_eq_true (by first | (with_reducible assumption) | assumption)
                         have q75 : x8_3 < (a0.size : Int) := of_decide_eq_true (by first | (with_reducible assumption) | assumption)
                         have hx75 := bt_at a0 x8_3
                         replace p75 := eq_true p75
                         replace q75 := eq_true q75
                         try go_wp2
                         have n0_ : Aside0 (((((wc.setCell ⟨gb108, 3, none⟩ (.bool (decide (x10_3 ≥ 2147483648)))).setCell ⟨gb108, 3, none⟩ (.bool true)).setCell ⟨gb108, 2, none⟩ (.int .u32 ((x10_3) % 4294967296))).setCell ⟨gb108, 5, none⟩ (.int .i64 (wrap64 (x8_3 + 1)))).heap[gb107]? = some (.cells #[.int .i64 x108000_3, .string x108001_3, .int .u32 x108002_3, .bool x108003_3, .int .i64 x108004_3, .int .i64 x108005_3] 24 (0, 0))) := ⟨by (with_reducible repeat (first | refine Z0 ?_ _ | refine Z3 ?_ | refine Z1 ?_ _)); refine Z22 ?_ NB107_108.out _; (with_reducible repeat (first | refine Z0 ?_ _ | refine Z3 ?_ | refine Z1 ?_ _)); refine Z22 ?_ NB107_108.out _; (with_reducible repeat (first | refine Z0 ?_ _ | refine Z3 ?_ | refine Z1 ?_ _)); refine Z22 ?_ NB107_108.out _; (with_reducible repeat (first | refine Z0 ?_ _ | refine Z3 ?_ | refine Z1 ?_ _)); refine Z22 ?_ NB107_108.out _; (with_reducible repeat (first | refine Z0 ?_ _ | refine Z3 ?_ | refine Z1 ?_ _)); exact BK107.out⟩
                         have n1_ : Aside0 (((((wc.setCell ⟨gb108, 3, none⟩ (.bool (decide (x10_3 ≥ 2147483648)))).setCell ⟨gb108, 3, none⟩ (.bool true)).setCell ⟨gb108, 2, none⟩ (.int .u32 ((x10_3) % 4294967296))).setCell ⟨gb108, 5, none⟩ (.int .i64 (wrap64 (x8_3 + 1)))).heap[gb108]? = some (.cells #[.int .i64 5, .string (⟨#[]⟩ : ByteArray), .int .u32 ((x10_3) % 4294967296), .bool true, .int .i64 a1, .int .i64 (wrap64 (x8_3 + 1))] 24 (0, 0))) := ⟨by (with_reducible repeat (first | refine Z0 ?_ _ | refine Z3 ?_ | refine Z1 ?_ _)); refine Z9 (cs := #[.int .i64 5, .string (⟨#[]⟩ : ByteArray), .int .u32 ((x10_3) % 4294967296), .bool true, .int .i64 a1, .int .i64 0]) ?_ 5 _ rfl; (with_reducible repeat (first | refine Z0 ?_ _ | refine Z3 ?_ | refine Z1 ?_ _)); refine Z9 (cs := #[.int .i64 5, .string (⟨#[]⟩ : ByteArray), .int .u32 0, .bool true, .int .i64 a1, .int .i64 0]) ?_ 2 _ rfl; (with_reducible repeat (first | refine Z0 ?_ _ | refine Z3 ?_ | refine Z1 ?_ _)); refine Z9 (cs := #[.int .i64 5, .string (⟨#[]⟩ : ByteArray), .int .u32 0, .bool (decide (x10_3 ≥ 2147483648)), .int .i64 a1, .int .i64 0]) ?_ 3 _ rfl; (with_reducible repeat (first | refine Z0 ?_ _ | refine Z3 ?_ | refine Z1 ?_ _)); refine Z9 (cs := #[.int .i64 5, .string (⟨#[]⟩ : ByteArray), .int .u32 0, .bool false, .int .i64 a1, .int .i64 0]) ?_ 3 _ rfl; (with_reducible repeat (first | refine Z0 ?_ _ | refine Z3 ?_ | refine Z1 ?_ _)); exact BK108.out⟩
                         have n2_ : Aside0 (Below w.heap.size w ((((wc.setCell ⟨gb108, 3, none⟩ (.bool (decide (x10_3 ≥ 2147483648)))).setCell ⟨gb108, 3, none⟩ (.bool true)).setCell ⟨gb108, 2, none⟩ (.int .u32 ((x10_3) % 4294967296))).setCell ⟨gb108, 5, none⟩ (.int .i64 (wrap64 (x8_3 + 1))))) := ⟨by repeat (first | (with_reducible first | exact HB.out | apply Z7 | apply Z4 | apply Z6 | refine Z8 ?_ GE107.out | refine Z8 ?_ GE108.out) | exact HB.out)⟩
                         (try clear BK107)
                         (try clear BK108)
                         (try clear HB)
                         generalize ((((wc.setCell ⟨gb108, 3, none⟩ (.bool (decide (x10_3 ≥ 2147483648)))).setCell ⟨gb108, 3, none⟩ (.bool true)).setCell ⟨gb108, 2, none⟩ (.int .u32 ((x10_3) % 4294967296))).setCell ⟨gb108, 5, none⟩ (.int .i64 (wrap64 (x8_3 + 1)))) = w80 at n0_ n1_ n2_ ⊢
                         have BK107 := n0_
                         have BK108 := n1_
                         have HB := n2_
                         clear n0_ n1_ n2_
                         have n0_ := Aside0.mk (Z3 BK107.out)
                         have n1_ := Aside0.mk (Z3 BK108.out)
                         have n2_ := Aside0.mk (Z6 HB.out)
                         clear BK107
                         clear BK108
                         clear HB
                         have BK107 := n0_
                         have BK108 := n1_
                         have HB := n2_
                         clear n0_ n1_ n2_
                         refine start_ (n := 14) (S := fun w' => w'.cell? ⟨gb108, 0, none⟩ = some (.int .i64 5) ∧ w'.cell? ⟨gb108, 1, none⟩ = some (.string (⟨#[]⟩ : ByteArray)) ∧ w'.cell? ⟨gb108, 2, none⟩ = some (.int .u32 ((x10_3) % 4294967296)) ∧ w'.cell? ⟨gb108, 3, none⟩ = some (.bool true) ∧ w'.cell? ⟨gb108, 4, none⟩ = some (.int .i64 a1) ∧ w'.cell? ⟨gb108, 5, none⟩ = some (.int .i64 (wrap64 (x8_3 + 1)))) (ds := []) #[false, false, false, false, false, false, false, false, false, false, false, false, false, false] (by kernel_rfl) rfl rfl ⟨(Z5 BK108.out 0).trans rfl, (Z5 BK108.out 1).trans rfl, (Z5 BK108.out 2).trans rfl, (Z5 BK108.out 3).trans rfl, (Z5 BK108.out 4).trans rfl, (Z5 BK108.out 5).trans rfl⟩ (fun hHeld => ?_); refine Z74 Z12.tab20 Z12.bits20 (fun HT_ HW_ => ?_)
                         generalize w80.drew = w81 at BK107 BK108 HB hHeld ⊢
                         refine pure_ (i := 1) (N := some 117) (v := ?_) (a' := ?_) #[false, true, false, false, false, false, false, false, false, false, false, false, false, false] rfl rfl (any_of HT_.out (by kernel_rfl)) (fun _ _ _ h => h) (Or.inl ⟨by rfl, ?_⟩) ?_ ?_
                         rotate_left
                         · intro w'
                           go_simp
                           with_reducible rfl
                         rotate_left
                         · simp only [Act.put, List.setIfInBounds_toArray, List.set_cons_zero, List.set_cons_succ, i64_w, i32_w]
                           rfl
                         refine pure_ (i := 2) (N := some 118) (v := ?_) (a' := ?_) #[false, true, true, false, false, false, false, false, false, false, false, false, false, false] rfl rfl (any_of HT_.out (by kernel_rfl)) (fun _ _ _ h => h) (Or.inl ⟨by rfl, ?_⟩) ?_ ?_
                         rotate_left
                         · intro w'
                           go_simp
                           with_reducible rfl
                         rotate_left
                         · simp only [Act.put, List.setIfInBounds_toArray, List.set_cons_zero, List.set_cons_succ, i64_w, i32_w]
                           rfl
                         refine pure_ (i := 3) (N := some 119) (v := ?_) (a' := ?_) #[false, true, true, true, false, false, false, false, false, false, false, false, false, false] rfl rfl (any_of HT_.out (by kernel_rfl)) (fun _ _ _ h => h) (Or.inl ⟨by rfl, ?_⟩) ?_ ?_
                         rotate_left
                         · intro w'
                           go_simp
                           with_reducible rfl
                         rotate_left
                         · simp only [Act.put, List.setIfInBounds_toArray, List.set_cons_zero, List.set_cons_succ, i64_w, i32_w]
                           rfl
                         refine pure_ (i := 4) (N := some 120) (v := ?_) (a' := ?_) #[false, true, true, true, true, false, false, false, false, false, false, false, false, false] rfl rfl (any_of HT_.out (by kernel_rfl)) (fun _ _ _ h => h) (Or.inl ⟨by rfl, ?_⟩) ?_ ?_
                         rotate_left
                         · intro w'
                           go_simp
                           with_reducible rfl
                         rotate_left
                         · simp only [Act.put, List.setIfInBounds_toArray, List.set_cons_zero, List.set_cons_succ, i64_w, i32_w]
                           rfl
                         refine pure_ (i := 5) (N := some 121) (v := ?_) (a' := ?_) #[false, true, true, true, true, true, false, false, false, false, false, false, false, false] rfl rfl (any_of HT_.out (by kernel_rfl)) (fun _ _ _ h => h) (Or.inl ⟨by rfl, ?_⟩) ?_ ?_
                         rotate_left
                         · intro w'
                           go_simp
                           with_reducible rfl
                         rotate_left
                         · simp only [Act.put, List.setIfInBounds_toArray, List.set_cons_zero, List.set_cons_succ, i64_w, i32_w]
                           rfl
                         refine pure_ (i := 6) (N := some 122) (v := undef) (a' := ?_) #[false, true, true, true, true, true, true, false, false, false, false, false, false, false] rfl rfl (any_of HT_.out (by kernel_rfl)) (fun _ _ _ h => h) (Or.inr ⟨by rfl, rfl⟩) ?_ ?_
                         rotate_left
                         · simp only [Act.put, List.setIfInBounds_toArray, List.set_cons_zero, List.set_cons_succ, i64_w, i32_w]
                           rfl
                         refine pure_ (i := 7) (N := some 123) (v := undef) (a' := ?_) #[false, true, true, true, true, true, true, true, false, false, false, false, false, false] rfl rfl (any_of HT_.out (by kernel_rfl)) (fun _ _ _ h => h) (Or.inr ⟨by rfl, rfl⟩) ?_ ?_
                         rotate_left
                         · simp only [Act.put, List.setIfInBounds_toArray, List.set_cons_zero, List.set_cons_succ, i64_w, i32_w]
                           rfl
                         refine pure_ (i := 8) (N := some 124) (v := undef) (a' := ?_) #[false, true, true, true, true, true, true, true, true, false, false, false, false, false] rfl rfl (any_of HT_.out (by kernel_rfl)) (fun _ _ _ h => h) (Or.inr ⟨by rfl, rfl⟩) ?_ ?_
                         rotate_left
                         · simp only [Act.put, List.setIfInBounds_toArray, List.set_cons_zero, List.set_cons_succ, i64_w, i32_w]
                           rfl
                         refine pure_ (i := 9) (N := some 125) (v := undef) (a' := ?_) #[false, true, true, true, true, true, true, true, true, true, false, false, false, false] rfl rfl (any_of HT_.out (by kernel_rfl)) (fun _ _ _ h => h) (Or.inr ⟨by rfl, rfl⟩) ?_ ?_
                         rotate_left
                         · simp only [Act.put, List.setIfInBounds_toArray, List.set_cons_zero, List.set_cons_succ, i64_w, i32_w]
                           rfl
                         refine pure_ (i := 10) (N := some 126) (v := undef) (a' := ?_) #[false, true, true, true, true, true, true, true, true, true, true, false, false, false] rfl rfl (any_of HT_.out (by kernel_rfl)) (fun _ _ _ h => h) (Or.inr ⟨by rfl, rfl⟩) ?_ ?_
                         rotate_left
                         · simp only [Act.put, List.setIfInBounds_toArray, List.set_cons_zero, List.set_cons_succ, i64_w, i32_w]
                           rfl
                         refine pure_ (i := 11) (N := some 127) (v := ?_) (a' := ?_) #[false, true, true, true, true, true, true, true, true, true, true, true, false, false] rfl rfl (any_of HT_.out (by kernel_rfl)) (fun _ _ _ h => h) (Or.inl ⟨by rfl, ?_⟩) ?_ ?_
                         rotate_left
                         · intro w'
                           go_simp
                           with_reducible rfl
                         rotate_left
                         · simp only [Act.put, List.setIfInBounds_toArray, List.set_cons_zero, List.set_cons_succ, i64_w, i32_w]
                           rfl
                         refine take_ (i := 0) (N := some 116) (v := ?_) (a' := ?_) #[true, true, true, true, true, true, true, true, true, true, true, true, false, false] rfl rfl (Z67 HT_.out HW_.out (by kernel_rfl)) (fun _ _ _ h => h) (Or.inl ⟨by rfl, ?_⟩) hHeld ?_ ?_
                         rotate_left
                         · rintro w' ⟨s0, s1, s2, s3, s4, s5⟩
                           go_simp
                           with_reducible rfl
                         rotate_left
                         · simp only [Act.put, List.setIfInBounds_toArray, List.set_cons_zero, List.set_cons_succ, i64_w, i32_w]
                           rfl
                         refine one_ (i := 12) (N := none) #[true, true, true, true, true, true, true, true, true, true, true, true, true, false] rfl rfl (one_of HT_.out (by kernel_rfl)) (by decide) (fun K hK => ?_)
                         have hs82 : w81.cell? ⟨gb107, 0, none⟩ = some (.int .i64 x108000_3) := (Z5 BK107.out 0).trans rfl
                         have hfs82 := Z2 BK107.out 0
                         have hns82_1 := NB108_107.out
                         have hms82_1 := NB107_108.out
                         have hs83 : w81.cell? ⟨gb107, 1, none⟩ = some (.string x108001_3) := (Z5 BK107.out 1).trans rfl
                         have hfs83 := Z2 BK107.out 1
                         have hns83_1 := NB108_107.out
                         have hms83_1 := NB107_108.out
                         have hs84 : w81.cell? ⟨gb107, 2, none⟩ = some (.int .u32 x108002_3) := (Z5 BK107.out 2).trans rfl
                         have hfs84 := Z2 BK107.out 2
                         have hns84_1 := NB108_107.out
                         have hms84_1 := NB107_108.out
                         have hs85 : w81.cell? ⟨gb107, 3, none⟩ = some (.bool x108003_3) := (Z5 BK107.out 3).trans rfl
                         have hfs85 := Z2 BK107.out 3
                         have hns85_1 := NB108_107.out
                         have hms85_1 := NB107_108.out
                         have hs86 : w81.cell? ⟨gb107, 4, none⟩ = some (.int .i64 x108004_3) := (Z5 BK107.out 4).trans rfl
                         have hfs86 := Z2 BK107.out 4
                         have hns86_1 := NB108_107.out
                         have hms86_1 := NB107_108.out
                         have hs87 : w81.cell? ⟨gb107, 5, none⟩ = some (.int .i64 x108005_3) := (Z5 BK107.out 5).trans rfl
                         have hfs87 := Z2 BK107.out 5
                         have hns87_1 := NB108_107.out
                         have hms87_1 := NB107_108.out
                         refine skip_ (w1 := ?_) (by rfl) rfl ?_ ?_
                         rotate_left
                         · go_simp
                           rfl
                         refine hK.out _ _ ⟨((Z11 (p := ⟨gb107, _, none⟩) NB108_107.out _).trans (((Z11 (p := ⟨gb107, _, none⟩) NB108_107.out _).trans (((Z11 (p := ⟨gb107, _, none⟩) NB108_107.out _).trans (((Z11 (p := ⟨gb107, _, none⟩) NB108_107.out _).trans (((Z11 (p := ⟨gb107, _, none⟩) NB108_107.out _).trans (((Z11 (p := ⟨gb107, _, none⟩) NB108_107.out _).trans (hHeld.1)))))))))))), ((Z11 (p := ⟨gb107, _, none⟩) NB108_107.out _).trans (((Z11 (p := ⟨gb107, _, none⟩) NB108_107.out _).trans (((Z11 (p := ⟨gb107, _, none⟩) NB108_107.out _).trans (((Z11 (p := ⟨gb107, _, none⟩) NB108_107.out _).trans (((Z11 (p := ⟨gb107, _, none⟩) NB108_107.out _).trans (((Z11 (p := ⟨gb107, _, none⟩) NB108_107.out _).trans (hHeld.2.1)))))))))))), ((Z11 (p := ⟨gb107, _, none⟩) NB108_107.out _).trans (((Z11 (p := ⟨gb107, _, none⟩) NB108_107.out _).trans (((Z11 (p := ⟨gb107, _, none⟩) NB108_107.out _).trans (((Z11 (p := ⟨gb107, _, none⟩) NB108_107.out _).trans (((Z11 (p := ⟨gb107, _, none⟩) NB108_107.out _).trans (((Z11 (p := ⟨gb107, _, none⟩) NB108_107.out _).trans (hHeld.2.2.1)))))))))))), ((Z11 (p := ⟨gb107, _, none⟩) NB108_107.out _).trans (((Z11 (p := ⟨gb107, _, none⟩) NB108_107.out _).trans (((Z11 (p := ⟨gb107, _, none⟩) NB108_107.out _).trans (((Z11 (p := ⟨gb107, _, none⟩) NB108_107.out _).trans (((Z11 (p := ⟨gb107, _, none⟩) NB108_107.out _).trans (((Z11 (p := ⟨gb107, _, none⟩) NB108_107.out _).trans (hHeld.2.2.2.1)))))))))))), ((Z11 (p := ⟨gb107, _, none⟩) NB108_107.out _).trans (((Z11 (p := ⟨gb107, _, none⟩) NB108_107.out _).trans (((Z11 (p := ⟨gb107, _, none⟩) NB108_107.out _).trans (((Z11 (p := ⟨gb107, _, none⟩) NB108_107.out _).trans (((Z11 (p := ⟨gb107, _, none⟩) NB108_107.out _).trans (((Z11 (p := ⟨gb107, _, none⟩) NB108_107.out _).trans (hHeld.2.2.2.2.1)))))))))))), ((Z11 (p := ⟨gb107, _, none⟩) NB108_107.out _).trans (((Z11 (p := ⟨gb107, _, none⟩) NB108_107.out _).trans (((Z11 (p := ⟨gb107, _, none⟩) NB108_107.out _).trans (((Z11 (p := ⟨gb107, _, none⟩) NB108_107.out _).trans (((Z11 (p := ⟨gb107, _, none⟩) NB108_107.out _).trans (((Z11 (p := ⟨gb107, _, none⟩) NB108_107.out _).trans (hHeld.2.2.2.2.2))))))))))))⟩ (fun hHeld => ?_)
                         clear hK K
                         refine pure_ (i := 13) (N := some 5) (v := ?_) (a' := ?_) #[true, true, true, true, true, true, true, true, true, true, true, true, true, true] rfl rfl (any_of HT_.out (by kernel_rfl)) (fun _ _ _ h => h) (Or.inl ⟨by rfl, ?_⟩) ?_ ?_
                         rotate_left
                         · intro w'
                           go_simp
                           with_reducible rfl
                         rotate_left
                         · simp only [Act.put, List.setIfInBounds_toArray, List.set_cons_zero, List.set_cons_succ, i64_w, i32_w]
                           rfl
                         refine done_ (Z83 HT_.out (by kernel_rfl)) ?_
                         try go_wp2
                         refine bodyPost_ret (Z46 rfl _ _ gb107 24 #[.int .i64 5, .string (⟨#[]⟩ : ByteArray), .int .u32 ((x10_3) % 4294967296), .bool true, .int .i64 a1, .int .i64 (wrap64 (x8_3 + 1))] (0, 0) _ rfl (by (with_reducible repeat (first | refine Z0 ?_ _ | refine Z3 ?_ | refine Z1 ?_ _)); refine Z9 (cs := #[.int .i64 5, .string (⟨#[]⟩ : ByteArray), .int .u32 ((x10_3) % 4294967296), .bool true, .int .i64 a1, .int .i64 x108005_3]) ?_ 5 _ rfl; (with_reducible repeat (first | refine Z0 ?_ _ | refine Z3 ?_ | refine Z1 ?_ _)); refine Z9 (cs := #[.int .i64 5, .string (⟨#[]⟩ : ByteArray), .int .u32 ((x10_3) % 4294967296), .bool true, .int .i64 x108004_3, .int .i64 x108005_3]) ?_ 4 _ rfl; (with_reducible repeat (first | refine Z0 ?_ _ | refine Z3 ?_ | refine Z1 ?_ _)); refine Z9 (cs := #[.int .i64 5, .string (⟨#[]⟩ : ByteArray), .int .u32 ((x10_3) % 4294967296), .bool x108003_3, .int .i64 x108004_3, .int .i64 x108005_3]) ?_ 3 _ rfl; (with_reducible repeat (first | refine Z0 ?_ _ | refine Z3 ?_ | refine Z1 ?_ _)); refine Z9 (cs := #[.int .i64 5, .string (⟨#[]⟩ : ByteArray), .int .u32 x108002_3, .bool x108003_3, .int .i64 x108004_3, .int .i64 x108005_3]) ?_ 2 _ rfl; (with_reducible repeat (first | refine Z0 ?_ _ | refine Z3 ?_ | refine Z1 ?_ _)); refine Z9 (cs := #[.int .i64 5, .string x108001_3, .int .u32 x108002_3, .bool x108003_3, .int .i64 x108004_3, .int .i64 x108005_3]) ?_ 1 _ rfl; (with_reducible repeat (first | refine Z0 ?_ _ | refine Z3 ?_ | refine Z1 ?_ _)); refine Z9 (cs := #[.int .i64 x108000_3, .string x108001_3, .int .u32 x108002_3, .bool x108003_3, .int .i64 x108004_3, .int .i64 x108005_3]) ?_ 0 _ rfl; (with_reducible repeat (first | refine Z0 ?_ _ | refine Z3 ?_ | refine Z1 ?_ _)); exact BK107.out) Tryd.underlying24 rfl (by kernel_rfl)) rfl ?_
                         exact ⟨by first | rfl | (simp [Z16, Z15] <;> rfl) | (simp [*, Z16, Z15] <;> rfl), by repeat (first | (with_reducible first | exact HB.out | apply Z7 | apply Z4 | apply Z6 | refine Z8 ?_ GE107.out | refine Z8 ?_ GE108.out) | exact HB.out)⟩
                       · rw [if_neg c77] at H
                         have c77b0 : decide ((a0.size : Int) ≤ (wrap64 (x8_3 + 1))) = false := decide_eq_false c77
                         clear c77
                         obtain ⟨ji88, hji88⟩ : ∃ j_ : Int, (wrap64 (x8_3 + 1)) = j_ := ⟨_, rfl⟩
                         replace H : (if 0 ≤ (ji88) then (if (ji88) < (a0.size : Int) then ((Z37.f (bt a0 (ji88))).bind fun t112 => (some (5, (⟨#[]⟩ : ByteArray), (x10_3) % 4294967296, true, a1, ji88, !t112))) else (none)) else (none)) = some (r1, r2, r3, r4, r5, r6, r7) := by first | (rw [hji88] at H; exact H) | (simp only [hji88] at H ⊢; exact H)
                         (try rw [hji88] at c77b0)
                         have hji88w : (IntKind.i64.wrap (x8_3 + 1)) = ji88 := (i64_w _).trans hji88
                         by_cases c89 : 0 ≤ (ji88)
                         · rw [if_pos c89] at H
                           have c89b0 : decide (0 ≤ (ji88)) = true := decide_eq_true c89
                           clear c89
                           by_cases c90 : (ji88) < (a0.size : Int)
                           · rw [if_pos c90] at H
                             have c90b0 : decide ((ji88) < (a0.size : Int)) = true := decide_eq_true c90
                             clear c90
                             replace H := Option.bind_eq_some_iff.mp H
                             obtain ⟨t112, A920, H⟩ := H
                             replace H : (some (5, (⟨#[]⟩ : ByteArray), (x10_3) % 4294967296, true, a1, ji88, !t112)) = some (r1, r2, r3, r4, r5, r6, r7) := H
                             have A92 := Aside0.mk A920
                             clear A920
                             simp only [Option.some.injEq, Prod.mk.injEq] at H
                             obtain ⟨rfl, rfl, rfl, rfl, rfl, rfl, rfl⟩ := H
                             have hnb93 := NB108_107.out
                             have hnc93 := NB107_108.out
                             have hcz94_0 : wc.cell? ⟨gb108, 0, none⟩ = some (.int .i64 5) := (Z5 BK108.out 0).trans rfl
                             have hcz94_1 : wc.cell? ⟨gb108, 1, none⟩ = some (.string (⟨#[]⟩ : ByteArray)) := (Z5 BK108.out 1).trans rfl
                             have hcz94_2 : wc.cell? ⟨gb108, 2, none⟩ = some (.int .u32 0) := (Z5 BK108.out 2).trans rfl
                             have hcz94_3 : wc.cell? ⟨gb108, 3, none⟩ = some (.bool false) := (Z5 BK108.out 3).trans rfl
                             have hcz94_4 : wc.cell? ⟨gb108, 4, none⟩ = some (.int .i64 a1) := (Z5 BK108.out 4).trans rfl
                             have hcz94_5 : wc.cell? ⟨gb108, 5, none⟩ = some (.int .i64 0) := (Z5 BK108.out 5).trans rfl
                             have hfz94_0 := Z2 BK108.out 0
                             have hfz94_1 := Z2 BK108.out 1
                             have hfz94_2 := Z2 BK108.out 2
                             have hfz94_3 := Z2 BK108.out 3
                             have hfz94_4 := Z2 BK108.out 4
                             have hfz94_5 := Z2 BK108.out 5
                             have p47 : 0 ≤ (x8_3 : Int) := of_decide_eq_true (by first | (with_reducible assumption) | assumption)
                             have q47 : x8_3 < (a0.size : Int) := of_decide_eq_true (by first | (with_reducible assumption) | assumption)
                             have hx47 := bt_at a0 x8_3
                             replace p47 := eq_true p47
                             replace q47 := eq_true q47
                             have p75 : 0 ≤ (x8_3 : Int) := of_decide_eq_true (by first | (with_reducible assumption) | assumption)
                             have q75 : x8_3 < (a0.size : Int) := of_decide_eq_true (by first | (with_reducible assumption) | assumption)
                             have hx75 := bt_at a0 x8_3
                             replace p75 := eq_true p75
                             replace q75 := eq_true q75
                             try go_wp2
                             have n0_ : Aside0 (((((wc.setCell ⟨gb108, 3, none⟩ (.bool (decide (x10_3 ≥ 2147483648)))).setCell ⟨gb108, 3, none⟩ (.bool true)).setCell ⟨gb108, 2, none⟩ (.int .u32 ((x10_3) % 4294967296))).setCell ⟨gb108, 5, none⟩ (.int .i64 ji88)).heap[gb107]? = some (.cells #[.int .i64 x108000_3, .string x108001_3, .int .u32 x108002_3, .bool x108003_3, .int .i64 x108004_3, .int .i64 x108005_3] 24 (0, 0))) := ⟨by (with_reducible repeat (first | refine Z0 ?_ _ | refine Z3 ?_ | refine Z1 ?_ _)); refine Z22 ?_ NB107_108.out _; (with_reducible repeat (first | refine Z0 ?_ _ | refine Z3 ?_ | refine Z1 ?_ _)); refine Z22 ?_ NB107_108.out _; (with_reducible repeat (first | refine Z0 ?_ _ | refine Z3 ?_ | refine Z1 ?_ _)); refine Z22 ?_ NB107_108.out _; (with_reducible repeat (first | refine Z0 ?_ _ | refine Z3 ?_ | refine Z1 ?_ _)); refine Z22 ?_ NB107_108.out _; (with_reducible repeat (first | refine Z0 ?_ _ | refine Z3 ?_ | refine Z1 ?_ _)); exact BK107.out⟩
                             have n1_ : Aside0 (((((wc.setCell ⟨gb108, 3, none⟩ (.bool (decide (x10_3 ≥ 2147483648)))).setCell ⟨gb108, 3, none⟩ (.bool true)).setCell ⟨gb108, 2, none⟩ (.int .u32 ((x10_3) % 4294967296))).setCell ⟨gb108, 5, none⟩ (.int .i64 ji88)).heap[gb108]? = some (.cells #[.int .i64 5, .string (⟨#[]⟩ : ByteArray), .int .u32 ((x10_3) % 4294967296), .bool true, .int .i64 a1, .int .i64 ji88] 24 (0, 0))) := ⟨by (with_reducible repeat (first | refine Z0 ?_ _ | refine Z3 ?_ | refine Z1 ?_ _)); refine Z9 (cs := #[.int .i64 5, .string (⟨#[]⟩ : ByteArray), .int .u32 ((x10_3) % 4294967296), .bool true, .int .i64 a1, .int .i64 0]) ?_ 5 _ rfl; (with_reducible repeat (first | refine Z0 ?_ _ | refine Z3 ?_ | refine Z1 ?_ _)); refine Z9 (cs := #[.int .i64 5, .string (⟨#[]⟩ : ByteArray), .int .u32 0, .bool true, .int .i64 a1, .int .i64 0]) ?_ 2 _ rfl; (with_reducible repeat (first | refine Z0 ?_ _ | refine Z3 ?_ | refine Z1 ?_ _)); refine Z9 (cs := #[.int .i64 5, .string (⟨#[]⟩ : ByteArray), .int .u32 0, .bool (decide (x10_3 ≥ 2147483648)), .int .i64 a1, .int .i64 0]) ?_ 3 _ rfl; (with_reducible repeat (first | refine Z0 ?_ _ | refine Z3 ?_ | refine Z1 ?_ _)); refine Z9 (cs := #[.int .i64 5, .string (⟨#[]⟩ : ByteArray), .int .u32 0, .bool false, .int .i64 a1, .int .i64 0]) ?_ 3 _ rfl; (with_reducible repeat (first | refine Z0 ?_ _ | refine Z3 ?_ | refine Z1 ?_ _)); exact BK108.out⟩
                             have n2_ : Aside0 (Below w.heap.size w ((((wc.setCell ⟨gb108, 3, none⟩ (.bool (decide (x10_3 ≥ 2147483648)))).setCell ⟨gb108, 3, none⟩ (.bool true)).setCell ⟨gb108, 2, none⟩ (.int .u32 ((x10_3) % 4294967296))).setCell ⟨gb108, 5, none⟩ (.int .i64 ji88))) := ⟨by repeat (first | (with_reducible first | exact HB.out | apply Z7 | apply Z4 | apply Z6 | refine Z8 ?_ GE107.out | refine Z8 ?_ GE108.out) | exact HB.out)⟩
                             (try clear BK107)
                             (try clear BK108)
                             (try clear HB)
                             generalize ((((wc.setCell ⟨gb108, 3, none⟩ (.bool (decide (x10_3 ≥ 2147483648)))).setCell ⟨gb108, 3, none⟩ (.bool true)).setCell ⟨gb108, 2, none⟩ (.int .u32 ((x10_3) % 4294967296))).setCell ⟨gb108, 5, none⟩ (.int .i64 ji88)) = w95 at n0_ n1_ n2_ ⊢
                             have BK107 := n0_
                             have BK108 := n1_
                             have HB := n2_
                             clear n0_ n1_ n2_
                             have n0_ := Aside0.mk (Z3 BK107.out)
                             have n1_ := Aside0.mk (Z3 BK108.out)
                             have n2_ := Aside0.mk (Z6 HB.out)
                             clear BK107
                             clear BK108
                             clear HB
                             have BK107 := n0_
                             have BK108 := n1_
                             have HB := n2_
                             clear n0_ n1_ n2_
                             have p91 : 0 ≤ ((ji88) : Int) := of_decide_eq_true (by first | (with_reducible assumption) | assumption)
                             have q91 : (ji88) < (a0.size : Int) := of_decide_eq_true (by first | (with_reducible assumption) | assumption)
                             have hx91 := bt_at a0 (ji88)
                             replace p91 := eq_true p91
                             replace q91 := eq_true q91
                             refine start_ (n := 14) (S := fun w' => w'.cell? ⟨gb108, 0, none⟩ = some (.int .i64 5) ∧ w'.cell? ⟨gb108, 1, none⟩ = some (.string (⟨#[]⟩ : ByteArray)) ∧ w'.cell? ⟨gb108, 2, none⟩ = some (.int .u32 ((x10_3) % 4294967296)) ∧ w'.cell? ⟨gb108, 3, none⟩ = some (.bool true) ∧ w'.cell? ⟨gb108, 4, none⟩ = some (.int .i64 a1) ∧ w'.cell? ⟨gb108, 5, none⟩ = some (.int .i64 ji88)) (ds := []) #[false, false, false, false, false, false, false, false, false, false, false, false, false, false] (by kernel_rfl) rfl rfl ⟨(Z5 BK108.out 0).trans rfl, (Z5 BK108.out 1).trans rfl, (Z5 BK108.out 2).trans rfl, (Z5 BK108.out 3).trans rfl, (Z5 BK108.out 4).trans rfl, (Z5 BK108.out 5).trans rfl⟩ (fun hHeld => ?_); refine Z74 Z12.tab20 Z12.bits20 (fun HT_ HW_ => ?_)
                             generalize w95.drew = w96 at BK107 BK108 HB hHeld ⊢
                             refine pure_ (i := 1) (N := some 117) (v := ?_) (a' := ?_) #[false, true, false, false, false, false, false, false, false, false, false, false, false, false] rfl rfl (any_of HT_.out (by kernel_rfl)) (fun _ _ _ h => h) (Or.inl ⟨by rfl, ?_⟩) ?_ ?_
                             rotate_left
                             · intro w'
                               go_simp
                               with_reducible rfl
                             rotate_left
                             · simp only [Act.put, List.setIfInBounds_toArray, List.set_cons_zero, List.set_cons_succ, i64_w, i32_w]
                               rfl
                             refine pure_ (i := 2) (N := some 118) (v := ?_) (a' := ?_) #[false, true, true, false, false, false, false, false, false, false, false, false, false, false] rfl rfl (any_of HT_.out (by kernel_rfl)) (fun _ _ _ h => h) (Or.inl ⟨by rfl, ?_⟩) ?_ ?_
                             rotate_left
                             · intro w'
                               go_simp
                               with_reducible rfl
                             rotate_left
                             · simp only [Act.put, List.setIfInBounds_toArray, List.set_cons_zero, List.set_cons_succ, i64_w, i32_w]
                               rfl
                             refine pure_ (i := 3) (N := some 119) (v := ?_) (a' := ?_) #[false, true, true, true, false, false, false, false, false, false, false, false, false, false] rfl rfl (any_of HT_.out (by kernel_rfl)) (fun _ _ _ h => h) (Or.inl ⟨by rfl, ?_⟩) ?_ ?_
                             rotate_left
                             · intro w'
                               go_simp
                               with_reducible rfl
                             rotate_left
                             · simp only [Act.put, List.setIfInBounds_toArray, List.set_cons_zero, List.set_cons_succ, i64_w, i32_w]
                               rfl
                             refine pure_ (i := 4) (N := some 120) (v := ?_) (a' := ?_) #[false, true, true, true, true, false, false, false, false, false, false, false, false, false] rfl rfl (any_of HT_.out (by kernel_rfl)) (fun _ _ _ h => h) (Or.inl ⟨by rfl, ?_⟩) ?_ ?_
                             rotate_left
                             · intro w'
                               go_simp
                               with_reducible rfl
                             rotate_left
                             · simp only [Act.put, List.setIfInBounds_toArray, List.set_cons_zero, List.set_cons_succ, i64_w, i32_w]
                               rfl
                             refine pure_ (i := 5) (N := some 121) (v := ?_) (a' := ?_) #[false, true, true, true, true, true, false, false, false, false, false, false, false, false] rfl rfl (any_of HT_.out (by kernel_rfl)) (fun _ _ _ h => h) (Or.inl ⟨by rfl, ?_⟩) ?_ ?_
                             rotate_left
                             · intro w'
                               go_simp
                               with_reducible rfl
                             rotate_left
                             · simp only [Act.put, List.setIfInBounds_toArray, List.set_cons_zero, List.set_cons_succ, i64_w, i32_w]
                               rfl
                             refine pure_ (i := 6) (N := some 122) (v := ?_) (a' := ?_) #[false, true, true, true, true, true, true, false, false, false, false, false, false, false] rfl rfl (any_of HT_.out (by kernel_rfl)) (fun _ _ _ h => h) (Or.inl ⟨by rfl, ?_⟩) ?_ ?_
                             rotate_left
                             · intro w'
                               go_simp
                               with_reducible rfl
                             rotate_left
                             · simp only [Act.put, List.setIfInBounds_toArray, List.set_cons_zero, List.set_cons_succ, i64_w, i32_w]
                               rfl
                             refine pure_ (i := 7) (N := some 123) (v := ?_) (a' := ?_) #[false, true, true, true, true, true, true, true, false, false, false, false, false, false] rfl rfl (any_of HT_.out (by kernel_rfl)) (fun _ _ _ h => h) (Or.inl ⟨by rfl, ?_⟩) ?_ ?_
                             rotate_left
                             · intro w'
                               go_simp
                               with_reducible rfl
                             rotate_left
                             · simp only [Act.put, List.setIfInBounds_toArray, List.set_cons_zero, List.set_cons_succ, i64_w, i32_w]
                               rfl
                             refine take_ (i := 0) (N := some 116) (v := ?_) (a' := ?_) #[true, true, true, true, true, true, true, true, false, false, false, false, false, false] rfl rfl (Z67 HT_.out HW_.out (by kernel_rfl)) (fun _ _ _ h => h) (Or.inl ⟨by rfl, ?_⟩) hHeld ?_ ?_
                             rotate_left
                             · rintro w' ⟨s0, s1, s2, s3, s4, s5⟩
                               go_simp
                               with_reducible rfl
                             rotate_left
                             · simp only [Act.put, List.setIfInBounds_toArray, List.set_cons_zero, List.set_cons_succ, i64_w, i32_w]
                               rfl
                             refine take_ (i := 8) (N := some 124) (v := ?_) (a' := ?_) #[true, true, true, true, true, true, true, true, true, false, false, false, false, false] rfl rfl (Z67 HT_.out HW_.out (by kernel_rfl)) (fun _ _ _ h => h) (Or.inl ⟨by rfl, ?_⟩) hHeld ?_ ?_
                             rotate_left
                             · rintro w' ⟨s0, s1, s2, s3, s4, s5⟩
                               go_simp
                               with_reducible rfl
                             rotate_left
                             · simp only [Act.put, List.setIfInBounds_toArray, List.set_cons_zero, List.set_cons_succ, i64_w, i32_w]
                               rfl
                             refine one_ (i := 9) (N := some 125) #[true, true, true, true, true, true, true, true, true, true, false, false, false, false] rfl rfl (one_of HT_.out (by kernel_rfl)) (by decide) (fun K hK => ?_)
                             refine goes_ Tryd.func24 (by kernel_rfl) rfl #[.int .u8 (bt a0 (ji88))] (by rfl) rfl rfl (by (try simp only [List.map_toArray, List.map_cons, List.map_nil]); first | done | (simp only [hji88]; rfl) | rfl | (simp only [List.length_drop, List.length_take]; rfl)) ?_
                             with_reducible refine (Z37.calls (bt a0 (ji88)) t112 _ A92.out).mono ?_
                             rintro e w' ⟨rfl, ⟨nd, rfl⟩⟩
                             refine ⟨_, rfl, ?_⟩
                             refine hK.out _ _ ⟨(Z5 BK108.out 0).trans rfl, (Z5 BK108.out 1).trans rfl, (Z5 BK108.out 2).trans rfl, (Z5 BK108.out 3).trans rfl, (Z5 BK108.out 4).trans rfl, (Z5 BK108.out 5).trans rfl⟩ (fun hHeld => ?_)
                             clear hK K
                             refine norm_ (a' := ?_) ?_ ?_
                             rotate_left
                             · show Act.put _ (some 125) _ = _
                               simp only [Act.put, List.setIfInBounds_toArray, List.set_cons_zero, List.set_cons_succ, i64_w, i32_w]
                               rfl
                             refine pure_ (i := 10) (N := some 126) (v := ?_) (a' := ?_) #[true, true, true, true, true, true, true, true, true, true, true, false, false, false] rfl rfl (any_of HT_.out (by kernel_rfl)) (fun _ _ _ h => h) (Or.inl ⟨by rfl, ?_⟩) ?_ ?_
                             rotate_left
                             · intro w'
                               go_simp
                               with_reducible rfl
                             rotate_left
                             · simp only [Act.put, List.setIfInBounds_toArray, List.set_cons_zero, List.set_cons_succ, i64_w, i32_w]
                               rfl
                             refine pure_ (i := 11) (N := some 127) (v := ?_) (a' := ?_) #[true, true, true, true, true, true, true, true, true, true, true, true, false, false] rfl rfl (any_of HT_.out (by kernel_rfl)) (fun _ _ _ h => h) (Or.inl ⟨by rfl, ?_⟩) ?_ ?_
                             rotate_left
                             · intro w'
                               go_simp
                               with_reducible rfl
                             rotate_left
                             · simp only [Act.put, List.setIfInBounds_toArray, List.set_cons_zero, List.set_cons_succ, i64_w, i32_w]
                               rfl
                             refine one_ (i := 12) (N := none) #[true, true, true, true, true, true, true, true, true, true, true, true, true, false] rfl rfl (one_of HT_.out (by kernel_rfl)) (by decide) (fun K hK => ?_)
                             have hs97 : w96.cell? ⟨gb107, 0, none⟩ = some (.int .i64 x108000_3) := (Z5 BK107.out 0).trans rfl
                             have hfs97 := Z2 BK107.out 0
                             have hns97_1 := NB108_107.out
                             have hms97_1 := NB107_108.out
                             have hs98 : w96.cell? ⟨gb107, 1, none⟩ = some (.string x108001_3) := (Z5 BK107.out 1).trans rfl
                             have hfs98 := Z2 BK107.out 1
                             have hns98_1 := NB108_107.out
                             have hms98_1 := NB107_108.out
                             have hs99 : w96.cell? ⟨gb107, 2, none⟩ = some (.int .u32 x108002_3) := (Z5 BK107.out 2).trans rfl
                             have hfs99 := Z2 BK107.out 2
                             have hns99_1 := NB108_107.out
                             have hms99_1 := NB107_108.out
                             have hs100 : w96.cell? ⟨gb107, 3, none⟩ = some (.bool x108003_3) := (Z5 BK107.out 3).trans rfl
                             have hfs100 := Z2 BK107.out 3
                             have hns100_1 := NB108_107.out
                             have hms100_1 := NB107_108.out
                             have hs101 : w96.cell? ⟨gb107, 4, none⟩ = some (.int .i64 x108004_3) := (Z5 BK107.out 4).trans rfl
                             have hfs101 := Z2 BK107.out 4
                             have hns101_1 := NB108_107.out
                             have hms101_1 := NB107_108.out
                             have hs102 : w96.cell? ⟨gb107, 5, none⟩ = some (.int .i64 x108005_3) := (Z5 BK107.out 5).trans rfl
                             have hfs102 := Z2 BK107.out 5
                             have hns102_1 := NB108_107.out
                             have hms102_1 := NB107_108.out
                             refine skip_ (w1 := ?_) (by rfl) rfl ?_ ?_
                             rotate_left
                             · go_simp
                               rfl
                             refine hK.out _ _ ⟨((Z11 (p := ⟨gb107, _, none⟩) NB108_107.out _).trans (((Z11 (p := ⟨gb107, _, none⟩) NB108_107.out _).trans (((Z11 (p := ⟨gb107, _, none⟩) NB108_107.out _).trans (((Z11 (p := ⟨gb107, _, none⟩) NB108_107.out _).trans (((Z11 (p := ⟨gb107, _, none⟩) NB108_107.out _).trans (((Z11 (p := ⟨gb107, _, none⟩) NB108_107.out _).trans (hHeld.1)))))))))))), ((Z11 (p := ⟨gb107, _, none⟩) NB108_107.out _).trans (((Z11 (p := ⟨gb107, _, none⟩) NB108_107.out _).trans (((Z11 (p := ⟨gb107, _, none⟩) NB108_107.out _).trans (((Z11 (p := ⟨gb107, _, none⟩) NB108_107.out _).trans (((Z11 (p := ⟨gb107, _, none⟩) NB108_107.out _).trans (((Z11 (p := ⟨gb107, _, none⟩) NB108_107.out _).trans (hHeld.2.1)))))))))))), ((Z11 (p := ⟨gb107, _, none⟩) NB108_107.out _).trans (((Z11 (p := ⟨gb107, _, none⟩) NB108_107.out _).trans (((Z11 (p := ⟨gb107, _, none⟩) NB108_107.out _).trans (((Z11 (p := ⟨gb107, _, none⟩) NB108_107.out _).trans (((Z11 (p := ⟨gb107, _, none⟩) NB108_107.out _).trans (((Z11 (p := ⟨gb107, _, none⟩) NB108_107.out _).trans (hHeld.2.2.1)))))))))))), ((Z11 (p := ⟨gb107, _, none⟩) NB108_107.out _).trans (((Z11 (p := ⟨gb107, _, none⟩) NB108_107.out _).trans (((Z11 (p := ⟨gb107, _, none⟩) NB108_107.out _).trans (((Z11 (p := ⟨gb107, _, none⟩) NB108_107.out _).trans (((Z11 (p := ⟨gb107, _, none⟩) NB108_107.out _).trans (((Z11 (p := ⟨gb107, _, none⟩) NB108_107.out _).trans (hHeld.2.2.2.1)))))))))))), ((Z11 (p := ⟨gb107, _, none⟩) NB108_107.out _).trans (((Z11 (p := ⟨gb107, _, none⟩) NB108_107.out _).trans (((Z11 (p := ⟨gb107, _, none⟩) NB108_107.out _).trans (((Z11 (p := ⟨gb107, _, none⟩) NB108_107.out _).trans (((Z11 (p := ⟨gb107, _, none⟩) NB108_107.out _).trans (((Z11 (p := ⟨gb107, _, none⟩) NB108_107.out _).trans (hHeld.2.2.2.2.1)))))))))))), ((Z11 (p := ⟨gb107, _, none⟩) NB108_107.out _).trans (((Z11 (p := ⟨gb107, _, none⟩) NB108_107.out _).trans (((Z11 (p := ⟨gb107, _, none⟩) NB108_107.out _).trans (((Z11 (p := ⟨gb107, _, none⟩) NB108_107.out _).trans (((Z11 (p := ⟨gb107, _, none⟩) NB108_107.out _).trans (((Z11 (p := ⟨gb107, _, none⟩) NB108_107.out _).trans (hHeld.2.2.2.2.2))))))))))))⟩ (fun hHeld => ?_)
                             clear hK K
                             refine pure_ (i := 13) (N := some 5) (v := ?_) (a' := ?_) #[true, true, true, true, true, true, true, true, true, true, true, true, true, true] rfl rfl (any_of HT_.out (by kernel_rfl)) (fun _ _ _ h => h) (Or.inl ⟨by rfl, ?_⟩) ?_ ?_
                             rotate_left
                             · intro w'
                               go_simp
                               with_reducible rfl
                             rotate_left
                             · simp only [Act.put, List.setIfInBounds_toArray, List.set_cons_zero, List.set_cons_succ, i64_w, i32_w]
                               rfl
                             refine done_ (Z83 HT_.out (by kernel_rfl)) ?_
                             try go_wp2
                             refine bodyPost_ret (Z46 rfl _ _ gb107 24 #[.int .i64 5, .string (⟨#[]⟩ : ByteArray), .int .u32 ((x10_3) % 4294967296), .bool true, .int .i64 a1, .int .i64 ji88] (0, 0) _ rfl (by (with_reducible repeat (first | refine Z0 ?_ _ | refine Z3 ?_ | refine Z1 ?_ _)); refine Z9 (cs := #[.int .i64 5, .string (⟨#[]⟩ : ByteArray), .int .u32 ((x10_3) % 4294967296), .bool true, .int .i64 a1, .int .i64 x108005_3]) ?_ 5 _ rfl; (with_reducible repeat (first | refine Z0 ?_ _ | refine Z3 ?_ | refine Z1 ?_ _)); refine Z9 (cs := #[.int .i64 5, .string (⟨#[]⟩ : ByteArray), .int .u32 ((x10_3) % 4294967296), .bool true, .int .i64 x108004_3, .int .i64 x108005_3]) ?_ 4 _ rfl; (with_reducible repeat (first | refine Z0 ?_ _ | refine Z3 ?_ | refine Z1 ?_ _)); refine Z9 (cs := #[.int .i64 5, .string (⟨#[]⟩ : ByteArray), .int .u32 ((x10_3) % 4294967296), .bool x108003_3, .int .i64 x108004_3, .int .i64 x108005_3]) ?_ 3 _ rfl; (with_reducible repeat (first | refine Z0 ?_ _ | refine Z3 ?_ | refine Z1 ?_ _)); refine Z9 (cs := #[.int .i64 5, .string (⟨#[]⟩ : ByteArray), .int .u32 x108002_3, .bool x108003_3, .int .i64 x108004_3, .int .i64 x108005_3]) ?_ 2 _ rfl; (with_reducible repeat (first | refine Z0 ?_ _ | refine Z3 ?_ | refine Z1 ?_ _)); refine Z9 (cs := #[.int .i64 5, .string x108001_3, .int .u32 x108002_3, .bool x108003_3, .int .i64 x108004_3, .int .i64 x108005_3]) ?_ 1 _ rfl; (with_reducible repeat (first | refine Z0 ?_ _ | refine Z3 ?_ | refine Z1 ?_ _)); refine Z9 (cs := #[.int .i64 x108000_3, .string x108001_3, .int .u32 x108002_3, .bool x108003_3, .int .i64 x108004_3, .int .i64 x108005_3]) ?_ 0 _ rfl; (with_reducible repeat (first | refine Z0 ?_ _ | refine Z3 ?_ | refine Z1 ?_ _)); exact BK107.out) Tryd.underlying24 rfl (by kernel_rfl)) rfl ?_
                             exact ⟨by first | rfl | (simp [Z16, Z15] <;> rfl) | (simp only [← hji88]; first | rfl | (simp [Z16, Z15] <;> rfl)) | (simp [*, Z16, Z15] <;> rfl), by repeat (first | (with_reducible first | exact HB.out | apply Z7 | apply Z4 | apply Z6 | refine Z8 ?_ GE107.out | refine Z8 ?_ GE108.out) | exact HB.out)⟩
                           · rw [if_neg c90] at H
                             exact absurd H (by simp)
                         · rw [if_neg c89] at H
                           exact absurd H (by simp)
                     · rw [if_neg c76] at H
                       have c76b0 : ((bt a0 x8_3) == 85) = false := beq_eq_false_iff_ne.mpr c76
                       have c76b1 : ((bt a0 x8_3) != 85) = true := bne_iff_ne.mpr c76
                       by_cases c103 : x8_3 ≥ (a0.size : Int)
                       · rw [if_pos c103] at H
                         have c103b0 : decide ((a0.size : Int) ≤ x8_3) = true := decide_eq_true c103
                         clear c103
                         simp only [Option.some.injEq, Prod.mk.injEq] at H
                         obtain ⟨rfl, rfl, rfl, rfl, rfl, rfl, rfl⟩ := H
                         have hnb104 := NB108_107.out
                         have hnc104 := NB107_108.out
                         have hcz105_0 : wc.cell? ⟨gb108, 0, none⟩ = some (.int .i64 5) := (Z5 BK108.out 0).trans rfl
                         have hcz105_1 : wc.cell? ⟨gb108, 1, none⟩ = some (.string (⟨#[]⟩ : ByteArray)) := (Z5 BK108.out 1).trans rfl
                         have hcz105_2 : wc.cell? ⟨gb108, 2, none⟩ = some (.int .u32 0) := (Z5 BK108.out 2).trans rfl
                         have hcz105_3 : wc.cell? ⟨gb108, 3, none⟩ = some (.bool false) := (Z5 BK108.out 3).trans rfl
                         have hcz105_4 : wc.cell? ⟨gb108, 4, none⟩ = some (.int .i64 a1) := (Z5 BK108.out 4).trans rfl
                         have hcz105_5 : wc.cell? ⟨gb108, 5, none⟩ = some (.int .i64 0) := (Z5 BK108.out 5).trans rfl
                         have hfz105_0 := Z2 BK108.out 0
                         have hfz105_1 := Z2 BK108.out 1
                         have hfz105_2 := Z2 BK108.out 2
                         have hfz105_3 := Z2 BK108.out 3
                         have hfz105_4 := Z2 BK108.out 4
                         have hfz105_5 := Z2 BK108.out 5
                         have p47 : 0 ≤ (x8_3 : Int) := of_decide_eq_true (by first | (with_reducible assumption) | assumption)
                         have q47 : x8_3 < (a0.size : Int) := of_decide_eq_true (by first | (with_reducible assumption) | assumption)
                         have hx47 := bt_at a0 x8_3
                         replace p47 := eq_true p47
                         replace q47 := eq_true q47
                         have p75 : 0 ≤ (x8_3 : Int) := of_decide_eq_true (by first | (with_reducible assumption) | assumption)
                         have q75 : x8_3 < (a0.size : Int) := of_decide_eq_true (by first | (with_reducible assumption) | assumption)
                         have hx75 := bt_at a0 x8_3
                         replace p75 := eq_true p75
                         replace q75 := eq_true q75
                         try go_wp2
                         have n0_ : Aside0 ((((wc.setCell ⟨gb108, 3, none⟩ (.bool (decide (x10_3 ≥ 2147483648)))).setCell ⟨gb108, 2, none⟩ (.int .u32 ((x10_3) % 4294967296))).setCell ⟨gb108, 5, none⟩ (.int .i64 x8_3)).heap[gb107]? = some (.cells #[.int .i64 x108000_3, .string x108001_3, .int .u32 x108002_3, .bool x108003_3, .int .i64 x108004_3, .int .i64 x108005_3] 24 (0, 0))) := ⟨by (with_reducible repeat (first | refine Z0 ?_ _ | refine Z3 ?_ | refine Z1 ?_ _)); refine Z22 ?_ NB107_108.out _; (with_reducible repeat (first | refine Z0 ?_ _ | refine Z3 ?_ | refine Z1 ?_ _)); refine Z22 ?_ NB107_108.out _; (with_reducible repeat (first | refine Z0 ?_ _ | refine Z3 ?_ | refine Z1 ?_ _)); refine Z22 ?_ NB107_108.out _; (with_reducible repeat (first | refine Z0 ?_ _ | refine Z3 ?_ | refine Z1 ?_ _)); exact BK107.out⟩
                         have n1_ : Aside0 ((((wc.setCell ⟨gb108, 3, none⟩ (.bool (decide (x10_3 ≥ 2147483648)))).setCell ⟨gb108, 2, none⟩ (.int .u32 ((x10_3) % 4294967296))).setCell ⟨gb108, 5, none⟩ (.int .i64 x8_3)).heap[gb108]? = some (.cells #[.int .i64 5, .string (⟨#[]⟩ : ByteArray), .int .u32 ((x10_3) % 4294967296), .bool (decide (x10_3 ≥ 2147483648)), .int .i64 a1, .int .i64 x8_3] 24 (0, 0))) := ⟨by (with_reducible repeat (first | refine Z0 ?_ _ | refine Z3 ?_ | refine Z1 ?_ _)); refine Z9 (cs := #[.int .i64 5, .string (⟨#[]⟩ : ByteArray), .int .u32 ((x10_3) % 4294967296), .bool (decide (x10_3 ≥ 2147483648)), .int .i64 a1, .int .i64 0]) ?_ 5 _ rfl; (with_reducible repeat (first | refine Z0 ?_ _ | refine Z3 ?_ | refine Z1 ?_ _)); refine Z9 (cs := #[.int .i64 5, .string (⟨#[]⟩ : ByteArray), .int .u32 0, .bool (decide (x10_3 ≥ 2147483648)), .int .i64 a1, .int .i64 0]) ?_ 2 _ rfl; (with_reducible repeat (first | refine Z0 ?_ _ | refine Z3 ?_ | refine Z1 ?_ _)); refine Z9 (cs := #[.int .i64 5, .string (⟨#[]⟩ : ByteArray), .int .u32 0, .bool false, .int .i64 a1, .int .i64 0]) ?_ 3 _ rfl; (with_reducible repeat (first | refine Z0 ?_ _ | refine Z3 ?_ | refine Z1 ?_ _)); exact BK108.out⟩
                         have n2_ : Aside0 (Below w.heap.size w (((wc.setCell ⟨gb108, 3, none⟩ (.bool (decide (x10_3 ≥ 2147483648)))).setCell ⟨gb108, 2, none⟩ (.int .u32 ((x10_3) % 4294967296))).setCell ⟨gb108, 5, none⟩ (.int .i64 x8_3))) := ⟨by repeat (first | (with_reducible first | exact HB.out | apply Z7 | apply Z4 | apply Z6 | refine Z8 ?_ GE107.out | refine Z8 ?_ GE108.out) | exact HB.out)⟩
                         (try clear BK107)
                         (try clear BK108)
                         (try clear HB)
                         generalize (((wc.setCell ⟨gb108, 3, none⟩ (.bool (decide (x10_3 ≥ 2147483648)))).setCell ⟨gb108, 2, none⟩ (.int .u32 ((x10_3) % 4294967296))).setCell ⟨gb108, 5, none⟩ (.int .i64 x8_3)) = w106 at n0_ n1_ n2_ ⊢
                         have BK107 := n0_
                         have BK108 := n1_
                         have HB := n2_
                         clear n0_ n1_ n2_
                         have n0_ := Aside0.mk (Z3 BK107.out)
                         have n1_ := Aside0.mk (Z3 BK108.out)
                         have n2_ := Aside0.mk (Z6 HB.out)
                         clear BK107
                         clear BK108
                         clear HB
                         have BK107 := n0_
                         have BK108 := n1_
                         have HB := n2_
                         clear n0_ n1_ n2_
                         refine start_ (n := 14) (S := fun w' => w'.cell? ⟨gb108, 0, none⟩ = some (.int .i64 5) ∧ w'.cell? ⟨gb108, 1, none⟩ = some (.string (⟨#[]⟩ : ByteArray)) ∧ w'.cell? ⟨gb108, 2, none⟩ = some (.int .u32 ((x10_3) % 4294967296)) ∧ w'.cell? ⟨gb108, 3, none⟩ = some (.bool (decide (x10_3 ≥ 2147483648))) ∧ w'.cell? ⟨gb108, 4, none⟩ = some (.int .i64 a1) ∧ w'.cell? ⟨gb108, 5, none⟩ = some (.int .i64 x8_3)) (ds := []) #[false, false, false, false, false, false, false, false, false, false, false, false, false, false] (by kernel_rfl) rfl rfl ⟨(Z5 BK108.out 0).trans rfl, (Z5 BK108.out 1).trans rfl, (Z5 BK108.out 2).trans rfl, (Z5 BK108.out 3).trans rfl, (Z5 BK108.out 4).trans rfl, (Z5 BK108.out 5).trans rfl⟩ (fun hHeld => ?_); refine Z74 Z12.tab20 Z12.bits20 (fun HT_ HW_ => ?_)
                         generalize w106.drew = w107 at BK107 BK108 HB hHeld ⊢
                         refine pure_ (i := 1) (N := some 117) (v := ?_) (a' := ?_) #[false, true, false, false, false, false, false, false, false, false, false, false, false, false] rfl rfl (any_of HT_.out (by kernel_rfl)) (fun _ _ _ h => h) (Or.inl ⟨by rfl, ?_⟩) ?_ ?_
                         rotate_left
                         · intro w'
                           go_simp
                           with_reducible rfl
                         rotate_left
                         · simp only [Act.put, List.setIfInBounds_toArray, List.set_cons_zero, List.set_cons_succ, i64_w, i32_w]
                           rfl
                         refine pure_ (i := 2) (N := some 118) (v := ?_) (a' := ?_) #[false, true, true, false, false, false, false, false, false, false, false, false, false, false] rfl rfl (any_of HT_.out (by kernel_rfl)) (fun _ _ _ h => h) (Or.inl ⟨by rfl, ?_⟩) ?_ ?_
                         rotate_left
                         · intro w'
                           go_simp
                           with_reducible rfl
                         rotate_left
                         · simp only [Act.put, List.setIfInBounds_toArray, List.set_cons_zero, List.set_cons_succ, i64_w, i32_w]
                           rfl
                         refine pure_ (i := 3) (N := some 119) (v := ?_) (a' := ?_) #[false, true, true, true, false, false, false, false, false, false, false, false, false, false] rfl rfl (any_of HT_.out (by kernel_rfl)) (fun _ _ _ h => h) (Or.inl ⟨by rfl, ?_⟩) ?_ ?_
                         rotate_left
                         · intro w'
                           go_simp
                           with_reducible rfl
                         rotate_left
                         · simp only [Act.put, List.setIfInBounds_toArray, List.set_cons_zero, List.set_cons_succ, i64_w, i32_w]
                           rfl
                         refine pure_ (i := 4) (N := some 120) (v := ?_) (a' := ?_) #[false, true, true, true, true, false, false, false, false, false, false, false, false, false] rfl rfl (any_of HT_.out (by kernel_rfl)) (fun _ _ _ h => h) (Or.inl ⟨by rfl, ?_⟩) ?_ ?_
                         rotate_left
                         · intro w'
                           go_simp
                           with_reducible rfl
                         rotate_left
                         · simp only [Act.put, List.setIfInBounds_toArray, List.set_cons_zero, List.set_cons_succ, i64_w, i32_w]
                           rfl
                         refine pure_ (i := 5) (N := some 121) (v := ?_) (a' := ?_) #[false, true, true, true, true, true, false, false, false, false, false, false, false, false] rfl rfl (any_of HT_.out (by kernel_rfl)) (fun _ _ _ h => h) (Or.inl ⟨by rfl, ?_⟩) ?_ ?_
                         rotate_left
                         · intro w'
                           go_simp
                           with_reducible rfl
                         rotate_left
                         · simp only [Act.put, List.setIfInBounds_toArray, List.set_cons_zero, List.set_cons_succ, i64_w, i32_w]
                           rfl
                         refine pure_ (i := 6) (N := some 122) (v := undef) (a' := ?_) #[false, true, true, true, true, true, true, false, false, false, false, false, false, false] rfl rfl (any_of HT_.out (by kernel_rfl)) (fun _ _ _ h => h) (Or.inr ⟨by rfl, rfl⟩) ?_ ?_
                         rotate_left
                         · simp only [Act.put, List.setIfInBounds_toArray, List.set_cons_zero, List.set_cons_succ, i64_w, i32_w]
                           rfl
                         refine pure_ (i := 7) (N := some 123) (v := undef) (a' := ?_) #[false, true, true, true, true, true, true, true, false, false, false, false, false, false] rfl rfl (any_of HT_.out (by kernel_rfl)) (fun _ _ _ h => h) (Or.inr ⟨by rfl, rfl⟩) ?_ ?_
                         rotate_left
                         · simp only [Act.put, List.setIfInBounds_toArray, List.set_cons_zero, List.set_cons_succ, i64_w, i32_w]
                           rfl
                         refine pure_ (i := 8) (N := some 124) (v := undef) (a' := ?_) #[false, true, true, true, true, true, true, true, true, false, false, false, false, false] rfl rfl (any_of HT_.out (by kernel_rfl)) (fun _ _ _ h => h) (Or.inr ⟨by rfl, rfl⟩) ?_ ?_
                         rotate_left
                         · simp only [Act.put, List.setIfInBounds_toArray, List.set_cons_zero, List.set_cons_succ, i64_w, i32_w]
                           rfl
                         refine pure_ (i := 9) (N := some 125) (v := undef) (a' := ?_) #[false, true, true, true, true, true, true, true, true, true, false, false, false, false] rfl rfl (any_of HT_.out (by kernel_rfl)) (fun _ _ _ h => h) (Or.inr ⟨by rfl, rfl⟩) ?_ ?_
                         rotate_left
                         · simp only [Act.put, List.setIfInBounds_toArray, List.set_cons_zero, List.set_cons_succ, i64_w, i32_w]
                           rfl
                         refine pure_ (i := 10) (N := some 126) (v := undef) (a' := ?_) #[false, true, true, true, true, true, true, true, true, true, true, false, false, false] rfl rfl (any_of HT_.out (by kernel_rfl)) (fun _ _ _ h => h) (Or.inr ⟨by rfl, rfl⟩) ?_ ?_
                         rotate_left
                         · simp only [Act.put, List.setIfInBounds_toArray, List.set_cons_zero, List.set_cons_succ, i64_w, i32_w]
                           rfl
                         refine pure_ (i := 11) (N := some 127) (v := ?_) (a' := ?_) #[false, true, true, true, true, true, true, true, true, true, true, true, false, false] rfl rfl (any_of HT_.out (by kernel_rfl)) (fun _ _ _ h => h) (Or.inl ⟨by rfl, ?_⟩) ?_ ?_
                         rotate_left
                         · intro w'
                           go_simp
                           with_reducible rfl
                         rotate_left
                         · simp only [Act.put, List.setIfInBounds_toArray, List.set_cons_zero, List.set_cons_succ, i64_w, i32_w]
                           rfl
                         refine take_ (i := 0) (N := some 116) (v := ?_) (a' := ?_) #[true, true, true, true, true, true, true, true, true, true, true, true, false, false] rfl rfl (Z67 HT_.out HW_.out (by kernel_rfl)) (fun _ _ _ h => h) (Or.inl ⟨by rfl, ?_⟩) hHeld ?_ ?_
                         rotate_left
                         · rintro w' ⟨s0, s1, s2, s3, s4, s5⟩
                           go_simp
                           with_reducible rfl
                         rotate_left
                         · simp only [Act.put, List.setIfInBounds_toArray, List.set_cons_zero, List.set_cons_succ, i64_w, i32_w]
                           rfl
                         refine one_ (i := 12) (N := none) #[true, true, true, true, true, true, true, true, true, true, true, true, true, false] rfl rfl (one_of HT_.out (by kernel_rfl)) (by decide) (fun K hK => ?_)
                         have hs108 : w107.cell? ⟨gb107, 0, none⟩ = some (.int .i64 x108000_3) := (Z5 BK107.out 0).trans rfl
                         have hfs108 := Z2 BK107.out 0
                         have hns108_1 := NB108_107.out
                         have hms108_1 := NB107_108.out
                         have hs109 : w107.cell? ⟨gb107, 1, none⟩ = some (.string x108001_3) := (Z5 BK107.out 1).trans rfl
                         have hfs109 := Z2 BK107.out 1
                         have hns109_1 := NB108_107.out
                         have hms109_1 := NB107_108.out
                         have hs110 : w107.cell? ⟨gb107, 2, none⟩ = some (.int .u32 x108002_3) := (Z5 BK107.out 2).trans rfl
                         have hfs110 := Z2 BK107.out 2
                         have hns110_1 := NB108_107.out
                         have hms110_1 := NB107_108.out
                         have hs111 : w107.cell? ⟨gb107, 3, none⟩ = some (.bool x108003_3) := (Z5 BK107.out 3).trans rfl
                         have hfs111 := Z2 BK107.out 3
                         have hns111_1 := NB108_107.out
                         have hms111_1 := NB107_108.out
                         have hs112 : w107.cell? ⟨gb107, 4, none⟩ = some (.int .i64 x108004_3) := (Z5 BK107.out 4).trans rfl
                         have hfs112 := Z2 BK107.out 4
                         have hns112_1 := NB108_107.out
                         have hms112_1 := NB107_108.out
                         have hs113 : w107.cell? ⟨gb107, 5, none⟩ = some (.int .i64 x108005_3) := (Z5 BK107.out 5).trans rfl
                         have hfs113 := Z2 BK107.out 5
                         have hns113_1 := NB108_107.out
                         have hms113_1 := NB107_108.out
                         refine skip_ (w1 := ?_) (by rfl) rfl ?_ ?_
                         rotate_left
                         · go_simp
                           rfl
                         refine hK.out _ _ ⟨((Z11 (p := ⟨gb107, _, none⟩) NB108_107.out _).trans (((Z11 (p := ⟨gb107, _, none⟩) NB108_107.out _).trans (((Z11 (p := ⟨gb107, _, none⟩) NB108_107.out _).trans (((Z11 (p := ⟨gb107, _, none⟩) NB108_107.out _).trans (((Z11 (p := ⟨gb107, _, none⟩) NB108_107.out _).trans (((Z11 (p := ⟨gb107, _, none⟩) NB108_107.out _).trans (hHeld.1)))))))))))), ((Z11 (p := ⟨gb107, _, none⟩) NB108_107.out _).trans (((Z11 (p := ⟨gb107, _, none⟩) NB108_107.out _).trans (((Z11 (p := ⟨gb107, _, none⟩) NB108_107.out _).trans (((Z11 (p := ⟨gb107, _, none⟩) NB108_107.out _).trans (((Z11 (p := ⟨gb107, _, none⟩) NB108_107.out _).trans (((Z11 (p := ⟨gb107, _, none⟩) NB108_107.out _).trans (hHeld.2.1)))))))))))), ((Z11 (p := ⟨gb107, _, none⟩) NB108_107.out _).trans (((Z11 (p := ⟨gb107, _, none⟩) NB108_107.out _).trans (((Z11 (p := ⟨gb107, _, none⟩) NB108_107.out _).trans (((Z11 (p := ⟨gb107, _, none⟩) NB108_107.out _).trans (((Z11 (p := ⟨gb107, _, none⟩) NB108_107.out _).trans (((Z11 (p := ⟨gb107, _, none⟩) NB108_107.out _).trans (hHeld.2.2.1)))))))))))), ((Z11 (p := ⟨gb107, _, none⟩) NB108_107.out _).trans (((Z11 (p := ⟨gb107, _, none⟩) NB108_107.out _).trans (((Z11 (p := ⟨gb107, _, none⟩) NB108_107.out _).trans (((Z11 (p := ⟨gb107, _, none⟩) NB108_107.out _).trans (((Z11 (p := ⟨gb107, _, none⟩) NB108_107.out _).trans (((Z11 (p := ⟨gb107, _, none⟩) NB108_107.out _).trans (hHeld.2.2.2.1)))))))))))), ((Z11 (p := ⟨gb107, _, none⟩) NB108_107.out _).trans (((Z11 (p := ⟨gb107, _, none⟩) NB108_107.out _).trans (((Z11 (p := ⟨gb107, _, none⟩) NB108_107.out _).trans (((Z11 (p := ⟨gb107, _, none⟩) NB108_107.out _).trans (((Z11 (p := ⟨gb107, _, none⟩) NB108_107.out _).trans (((Z11 (p := ⟨gb107, _, none⟩) NB108_107.out _).trans (hHeld.2.2.2.2.1)))))))))))), ((Z11 (p := ⟨gb107, _, none⟩) NB108_107.out _).trans (((Z11 (p := ⟨gb107, _, none⟩) NB108_107.out _).trans (((Z11 (p := ⟨gb107, _, none⟩) NB108_107.out _).trans (((Z11 (p := ⟨gb107, _, none⟩) NB108_107.out _).trans (((Z11 (p := ⟨gb107, _, none⟩) NB108_107.out _).trans (((Z11 (p := ⟨gb107, _, none⟩) NB108_107.out _).trans (hHeld.2.2.2.2.2))))))))))))⟩ (fun hHeld => ?_)
                         clear hK K
                         refine pure_ (i := 13) (N := some 5) (v := ?_) (a' := ?_) #[true, true, true, true, true, true, true, true, true, true, true, true, true, true] rfl rfl (any_of HT_.out (by kernel_rfl)) (fun _ _ _ h => h) (Or.inl ⟨by rfl, ?_⟩) ?_ ?_
                         rotate_left
                         · intro w'
                           go_simp
                           with_reducible rfl
                         rotate_left
                         · simp only [Act.put, List.setIfInBounds_toArray, List.set_cons_zero, List.set_cons_succ, i64_w, i32_w]
                           rfl
                         refine done_ (Z83 HT_.out (by kernel_rfl)) ?_
                         try go_wp2
                         refine bodyPost_ret (Z46 rfl _ _ gb107 24 #[.int .i64 5, .string (⟨#[]⟩ : ByteArray), .int .u32 ((x10_3) % 4294967296), .bool (decide (x10_3 ≥ 2147483648)), .int .i64 a1, .int .i64 x8_3] (0, 0) _ rfl (by (with_reducible repeat (first | refine Z0 ?_ _ | refine Z3 ?_ | refine Z1 ?_ _)); refine Z9 (cs := #[.int .i64 5, .string (⟨#[]⟩ : ByteArray), .int .u32 ((x10_3) % 4294967296), .bool (decide (x10_3 ≥ 2147483648)), .int .i64 a1, .int .i64 x108005_3]) ?_ 5 _ rfl; (with_reducible repeat (first | refine Z0 ?_ _ | refine Z3 ?_ | refine Z1 ?_ _)); refine Z9 (cs := #[.int .i64 5, .string (⟨#[]⟩ : ByteArray), .int .u32 ((x10_3) % 4294967296), .bool (decide (x10_3 ≥ 2147483648)), .int .i64 x108004_3, .int .i64 x108005_3]) ?_ 4 _ rfl; (with_reducible repeat (first | refine Z0 ?_ _ | refine Z3 ?_ | refine Z1 ?_ _)); refine Z9 (cs := #[.int .i64 5, .string (⟨#[]⟩ : ByteArray), .int .u32 ((x10_3) % 4294967296), .bool x108003_3, .int .i64 x108004_3, .int .i64 x108005_3]) ?_ 3 _ rfl; (with_reducible repeat (first | refine Z0 ?_ _ | refine Z3 ?_ | refine Z1 ?_ _)); refine Z9 (cs := #[.int .i64 5, .string (⟨#[]⟩ : ByteArray), .int .u32 x108002_3, .bool x108003_3, .int .i64 x108004_3, .int .i64 x108005_3]) ?_ 2 _ rfl; (with_reducible repeat (first | refine Z0 ?_ _ | refine Z3 ?_ | refine Z1 ?_ _)); refine Z9 (cs := #[.int .i64 5, .string x108001_3, .int .u32 x108002_3, .bool x108003_3, .int .i64 x108004_3, .int .i64 x108005_3]) ?_ 1 _ rfl; (with_reducible repeat (first | refine Z0 ?_ _ | refine Z3 ?_ | refine Z1 ?_ _)); refine Z9 (cs := #[.int .i64 x108000_3, .string x108001_3, .int .u32 x108002_3, .bool x108003_3, .int .i64 x108004_3, .int .i64 x108005_3]) ?_ 0 _ rfl; (with_reducible repeat (first | refine Z0 ?_ _ | refine Z3 ?_ | refine Z1 ?_ _)); exact BK107.out) Tryd.underlying24 rfl (by kernel_rfl)) rfl ?_
                         exact ⟨by first | rfl | (simp [Z16, Z15] <;> rfl) | (simp [*, Z16, Z15] <;> rfl), by repeat (first | (with_reducible first | exact HB.out | apply Z7 | apply Z4 | apply Z6 | refine Z8 ?_ GE107.out | refine Z8 ?_ GE108.out) | exact HB.out)⟩
                       · rw [if_neg c103] at H
                         have c103b0 : decide ((a0.size : Int) ≤ x8_3) = false := decide_eq_false c103
                         clear c103
                         replace H := Option.bind_eq_some_iff.mp H
                         obtain ⟨t113, A1150, H⟩ := H
                         replace H : (some (5, (⟨#[]⟩ : ByteArray), (x10_3) % 4294967296, decide (x10_3 ≥ 2147483648), a1, x8_3, !t113)) = some (r1, r2, r3, r4, r5, r6, r7) := H
                         have A115 := Aside0.mk A1150
                         clear A1150
                         simp only [Option.some.injEq, Prod.mk.injEq] at H
                         obtain ⟨rfl, rfl, rfl, rfl, rfl, rfl, rfl⟩ := H
                         have hnb116 := NB108_107.out
                         have hnc116 := NB107_108.out
                         have hcz117_0 : wc.cell? ⟨gb108, 0, none⟩ = some (.int .i64 5) := (Z5 BK108.out 0).trans rfl
                         have hcz117_1 : wc.cell? ⟨gb108, 1, none⟩ = some (.string (⟨#[]⟩ : ByteArray)) := (Z5 BK108.out 1).trans rfl
                         have hcz117_2 : wc.cell? ⟨gb108, 2, none⟩ = some (.int .u32 0) := (Z5 BK108.out 2).trans rfl
                         have hcz117_3 : wc.cell? ⟨gb108, 3, none⟩ = some (.bool false) := (Z5 BK108.out 3).trans rfl
                         have hcz117_4 : wc.cell? ⟨gb108, 4, none⟩ = some (.int .i64 a1) := (Z5 BK108.out 4).trans rfl
                         have hcz117_5 : wc.cell? ⟨gb108, 5, none⟩ = some (.int .i64 0) := (Z5 BK108.out 5).trans rfl
                         have hfz117_0 := Z2 BK108.out 0
                         have hfz117_1 := Z2 BK108.out 1
                         have hfz117_2 := Z2 BK108.out 2
                         have hfz117_3 := Z2 BK108.out 3
                         have hfz117_4 := Z2 BK108.out 4
                         have hfz117_5 := Z2 BK108.out 5
                         have p47 : 0 ≤ (x8_3 : Int) := of_decide_eq_true (by first | (with_reducible assumption) | assumption)
                         have q47 : x8_3 < (a0.size : Int) := of_decide_eq_true (by first | (with_reducible assumption) | assumption)
                         have hx47 := bt_at a0 x8_3
                         replace p47 := eq_true p47
                         replace q47 := eq_true q47
                         have p75 : 0 ≤ (x8_3 : Int) := of_decide_eq_true (by first | (with_reducible assumption) | assumption)
                         have q75 : x8_3 < (a0.size : Int) := of_decide_eq_true (by first | (with_reducible assumption) | assumption)
                         have hx75 := bt_at a0 x8_3
                         replace p75 := eq_true p75
                         replace q75 := eq_true q75
                         try go_wp2
                         have n0_ : Aside0 ((((wc.setCell ⟨gb108, 3, none⟩ (.bool (decide (x10_3 ≥ 2147483648)))).setCell ⟨gb108, 2, none⟩ (.int .u32 ((x10_3) % 4294967296))).setCell ⟨gb108, 5, none⟩ (.int .i64 x8_3)).heap[gb107]? = some (.cells #[.int .i64 x108000_3, .string x108001_3, .int .u32 x108002_3, .bool x108003_3, .int .i64 x108004_3, .int .i64 x108005_3] 24 (0, 0))) := ⟨by (with_reducible repeat (first | refine Z0 ?_ _ | refine Z3 ?_ | refine Z1 ?_ _)); refine Z22 ?_ NB107_108.out _; (with_reducible repeat (first | refine Z0 ?_ _ | refine Z3 ?_ | refine Z1 ?_ _)); refine Z22 ?_ NB107_108.out _; (with_reducible repeat (first | refine Z0 ?_ _ | refine Z3 ?_ | refine Z1 ?_ _)); refine Z22 ?_ NB107_108.out _; (with_reducible repeat (first | refine Z0 ?_ _ | refine Z3 ?_ | refine Z1 ?_ _)); exact BK107.out⟩
                         have n1_ : Aside0 ((((wc.setCell ⟨gb108, 3, none⟩ (.bool (decide (x10_3 ≥ 2147483648)))).setCell ⟨gb108, 2, none⟩ (.int .u32 ((x10_3) % 4294967296))).setCell ⟨gb108, 5, none⟩ (.int .i64 x8_3)).heap[gb108]? = some (.cells #[.int .i64 5, .string (⟨#[]⟩ : ByteArray), .int .u32 ((x10_3) % 4294967296), .bool (decide (x10_3 ≥ 2147483648)), .int .i64 a1, .int .i64 x8_3] 24 (0, 0))) := ⟨by (with_reducible repeat (first | refine Z0 ?_ _ | refine Z3 ?_ | refine Z1 ?_ _)); refine Z9 (cs := #[.int .i64 5, .string (⟨#[]⟩ : ByteArray), .int .u32 ((x10_3) % 4294967296), .bool (decide (x10_3 ≥ 2147483648)), .int .i64 a1, .int .i64 0]) ?_ 5 _ rfl; (with_reducible repeat (first | refine Z0 ?_ _ | refine Z3 ?_ | refine Z1 ?_ _)); refine Z9 (cs := #[.int .i64 5, .string (⟨#[]⟩ : ByteArray), .int .u32 0, .bool (decide (x10_3 ≥ 2147483648)), .int .i64 a1, .int .i64 0]) ?_ 2 _ rfl; (with_reducible repeat (first | refine Z0 ?_ _ | refine Z3 ?_ | refine Z1 ?_ _)); refine Z9 (cs := #[.int .i64 5, .string (⟨#[]⟩ : ByteArray), .int .u32 0, .bool false, .int .i64 a1, .int .i64 0]) ?_ 3 _ rfl; (with_reducible repeat (first | refine Z0 ?_ _ | refine Z3 ?_ | refine Z1 ?_ _)); exact BK108.out⟩
                         have n2_ : Aside0 (Below w.heap.size w (((wc.setCell ⟨gb108, 3, none⟩ (.bool (decide (x10_3 ≥ 2147483648)))).setCell ⟨gb108, 2, none⟩ (.int .u32 ((x10_3) % 4294967296))).setCell ⟨gb108, 5, none⟩ (.int .i64 x8_3))) := ⟨by repeat (first | (with_reducible first | exact HB.out | apply Z7 | apply Z4 | apply Z6 | refine Z8 ?_ GE107.out | refine Z8 ?_ GE108.out) | exact HB.out)⟩
                         (try clear BK107)
                         (try clear BK108)
                         (try clear HB)
                         generalize (((wc.setCell ⟨gb108, 3, none⟩ (.bool (decide (x10_3 ≥ 2147483648)))).setCell ⟨gb108, 2, none⟩ (.int .u32 ((x10_3) % 4294967296))).setCell ⟨gb108, 5, none⟩ (.int .i64 x8_3)) = w118 at n0_ n1_ n2_ ⊢
                         have BK107 := n0_
                         have BK108 := n1_
                         have HB := n2_
                         clear n0_ n1_ n2_
                         have n0_ := Aside0.mk (Z3 BK107.out)
                         have n1_ := Aside0.mk (Z3 BK108.out)
                         have n2_ := Aside0.mk (Z6 HB.out)
                         clear BK107
                         clear BK108
                         clear HB
                         have BK107 := n0_
                         have BK108 := n1_
                         have HB := n2_
                         clear n0_ n1_ n2_
                         have p114 : 0 ≤ (x8_3 : Int) := of_decide_eq_true (by first | (with_reducible assumption) | assumption)
                         have q114 : x8_3 < (a0.size : Int) := of_decide_eq_true (by first | (with_reducible assumption) | assumption)
                         have hx114 := bt_at a0 x8_3
                         replace p114 := eq_true p114
                         replace q114 := eq_true q114
                         refine start_ (n := 14) (S := fun w' => w'.cell? ⟨gb108, 0, none⟩ = some (.int .i64 5) ∧ w'.cell? ⟨gb108, 1, none⟩ = some (.string (⟨#[]⟩ : ByteArray)) ∧ w'.cell? ⟨gb108, 2, none⟩ = some (.int .u32 ((x10_3) % 4294967296)) ∧ w'.cell? ⟨gb108, 3, none⟩ = some (.bool (decide (x10_3 ≥ 2147483648))) ∧ w'.cell? ⟨gb108, 4, none⟩ = some (.int .i64 a1) ∧ w'.cell? ⟨gb108, 5, none⟩ = some (.int .i64 x8_3)) (ds := []) #[false, false, false, false, false, false, false, false, false, false, false, false, false, false] (by kernel_rfl) rfl rfl ⟨(Z5 BK108.out 0).trans rfl, (Z5 BK108.out 1).trans rfl, (Z5 BK108.out 2).trans rfl, (Z5 BK108.out 3).trans rfl, (Z5 BK108.out 4).trans rfl, (Z5 BK108.out 5).trans rfl⟩ (fun hHeld => ?_); refine Z74 Z12.tab20 Z12.bits20 (fun HT_ HW_ => ?_)
                         generalize w118.drew = w119 at BK107 BK108 HB hHeld ⊢
                         refine pure_ (i := 1) (N := some 117) (v := ?_) (a' := ?_) #[false, true, false, false, false, false, false, false, false, false, false, false, false, false] rfl rfl (any_of HT_.out (by kernel_rfl)) (fun _ _ _ h => h) (Or.inl ⟨by rfl, ?_⟩) ?_ ?_
                         rotate_left
                         · intro w'
                           go_simp
                           with_reducible rfl
                         rotate_left
                         · simp only [Act.put, List.setIfInBounds_toArray, List.set_cons_zero, List.set_cons_succ, i64_w, i32_w]
                           rfl
                         refine pure_ (i := 2) (N := some 118) (v := ?_) (a' := ?_) #[false, true, true, false, false, false, false, false, false, false, false, false, false, false] rfl rfl (any_of HT_.out (by kernel_rfl)) (fun _ _ _ h => h) (Or.inl ⟨by rfl, ?_⟩) ?_ ?_
                         rotate_left
                         · intro w'
                           go_simp
                           with_reducible rfl
                         rotate_left
                         · simp only [Act.put, List.setIfInBounds_toArray, List.set_cons_zero, List.set_cons_succ, i64_w, i32_w]
                           rfl
                         refine pure_ (i := 3) (N := some 119) (v := ?_) (a' := ?_) #[false, true, true, true, false, false, false, false, false, false, false, false, false, false] rfl rfl (any_of HT_.out (by kernel_rfl)) (fun _ _ _ h => h) (Or.inl ⟨by rfl, ?_⟩) ?_ ?_
                         rotate_left
                         · intro w'
                           go_simp
                           with_reducible rfl
                         rotate_left
                         · simp only [Act.put, List.setIfInBounds_toArray, List.set_cons_zero, List.set_cons_succ, i64_w, i32_w]
                           rfl
                         refine pure_ (i := 4) (N := some 120) (v := ?_) (a' := ?_) #[false, true, true, true, true, false, false, false, false, false, false, false, false, false] rfl rfl (any_of HT_.out (by kernel_rfl)) (fun _ _ _ h => h) (Or.inl ⟨by rfl, ?_⟩) ?_ ?_
                         rotate_left
                         · intro w'
                           go_simp
                           with_reducible rfl
                         rotate_left
                         · simp only [Act.put, List.setIfInBounds_toArray, List.set_cons_zero, List.set_cons_succ, i64_w, i32_w]
                           rfl
                         refine pure_ (i := 5) (N := some 121) (v := ?_) (a' := ?_) #[false, true, true, true, true, true, false, false, false, false, false, false, false, false] rfl rfl (any_of HT_.out (by kernel_rfl)) (fun _ _ _ h => h) (Or.inl ⟨by rfl, ?_⟩) ?_ ?_
                         rotate_left
                         · intro w'
                           go_simp
                           with_reducible rfl
                         rotate_left
                         · simp only [Act.put, List.setIfInBounds_toArray, List.set_cons_zero, List.set_cons_succ, i64_w, i32_w]
                           rfl
                         refine pure_ (i := 6) (N := some 122) (v := ?_) (a' := ?_) #[false, true, true, true, true, true, true, false, false, false, false, false, false, false] rfl rfl (any_of HT_.out (by kernel_rfl)) (fun _ _ _ h => h) (Or.inl ⟨by rfl, ?_⟩) ?_ ?_
                         rotate_left
                         · intro w'
                           go_simp
                           with_reducible rfl
                         rotate_left
                         · simp only [Act.put, List.setIfInBounds_toArray, List.set_cons_zero, List.set_cons_succ, i64_w, i32_w]
                           rfl
                         refine pure_ (i := 7) (N := some 123) (v := ?_) (a' := ?_) #[false, true, true, true, true, true, true, true, false, false, false, false, false, false] rfl rfl (any_of HT_.out (by kernel_rfl)) (fun _ _ _ h => h) (Or.inl ⟨by rfl, ?_⟩) ?_ ?_
                         rotate_left
                         · intro w'
                           go_simp
                           with_reducible rfl
                         rotate_left
                         · simp only [Act.put, List.setIfInBounds_toArray, List.set_cons_zero, List.set_cons_succ, i64_w, i32_w]
                           rfl
                         refine take_ (i := 0) (N := some 116) (v := ?_) (a' := ?_) #[true, true, true, true, true, true, true, true, false, false, false, false, false, false] rfl rfl (Z67 HT_.out HW_.out (by kernel_rfl)) (fun _ _ _ h => h) (Or.inl ⟨by rfl, ?_⟩) hHeld ?_ ?_
                         rotate_left
                         · rintro w' ⟨s0, s1, s2, s3, s4, s5⟩
                           go_simp
                           with_reducible rfl
                         rotate_left
                         · simp only [Act.put, List.setIfInBounds_toArray, List.set_cons_zero, List.set_cons_succ, i64_w, i32_w]
                           rfl
                         refine take_ (i := 8) (N := some 124) (v := ?_) (a' := ?_) #[true, true, true, true, true, true, true, true, true, false, false, false, false, false] rfl rfl (Z67 HT_.out HW_.out (by kernel_rfl)) (fun _ _ _ h => h) (Or.inl ⟨by rfl, ?_⟩) hHeld ?_ ?_
                         rotate_left
                         · rintro w' ⟨s0, s1, s2, s3, s4, s5⟩
                           go_simp
                           with_reducible rfl
                         rotate_left
                         · simp only [Act.put, List.setIfInBounds_toArray, List.set_cons_zero, List.set_cons_succ, i64_w, i32_w]
                           rfl
                         refine one_ (i := 9) (N := some 125) #[true, true, true, true, true, true, true, true, true, true, false, false, false, false] rfl rfl (one_of HT_.out (by kernel_rfl)) (by decide) (fun K hK => ?_)
                         refine goes_ Tryd.func24 (by kernel_rfl) rfl #[.int .u8 (bt a0 x8_3)] (by rfl) rfl rfl (by (try simp only [List.map_toArray, List.map_cons, List.map_nil]); first | done | rfl | (simp only [List.length_drop, List.length_take]; rfl)) ?_
                         with_reducible refine (Z37.calls (bt a0 x8_3) t113 _ A115.out).mono ?_
                         rintro e w' ⟨rfl, ⟨nd, rfl⟩⟩
                         refine ⟨_, rfl, ?_⟩
                         refine hK.out _ _ ⟨(Z5 BK108.out 0).trans rfl, (Z5 BK108.out 1).trans rfl, (Z5 BK108.out 2).trans rfl, (Z5 BK108.out 3).trans rfl, (Z5 BK108.out 4).trans rfl, (Z5 BK108.out 5).trans rfl⟩ (fun hHeld => ?_)
                         clear hK K
                         refine norm_ (a' := ?_) ?_ ?_
                         rotate_left
                         · show Act.put _ (some 125) _ = _
                           simp only [Act.put, List.setIfInBounds_toArray, List.set_cons_zero, List.set_cons_succ, i64_w, i32_w]
                           rfl
                         refine pure_ (i := 10) (N := some 126) (v := ?_) (a' := ?_) #[true, true, true, true, true, true, true, true, true, true, true, false, false, false] rfl rfl (any_of HT_.out (by kernel_rfl)) (fun _ _ _ h => h) (Or.inl ⟨by rfl, ?_⟩) ?_ ?_
                         rotate_left
                         · intro w'
                           go_simp
                           with_reducible rfl
                         rotate_left
                         · simp only [Act.put, List.setIfInBounds_toArray, List.set_cons_zero, List.set_cons_succ, i64_w, i32_w]
                           rfl
                         refine pure_ (i := 11) (N := some 127) (v := ?_) (a' := ?_) #[true, true, true, true, true, true, true, true, true, true, true, true, false, false] rfl rfl (any_of HT_.out (by kernel_rfl)) (fun _ _ _ h => h) (Or.inl ⟨by rfl, ?_⟩) ?_ ?_
                         rotate_left
                         · intro w'
                           go_simp
                           with_reducible rfl
                         rotate_left
                         · simp only [Act.put, List.setIfInBounds_toArray, List.set_cons_zero, List.set_cons_succ, i64_w, i32_w]
                           rfl
                         refine one_ (i := 12) (N := none) #[true, true, true, true, true, true, true, true, true, true, true, true, true, false] rfl rfl (one_of HT_.out (by kernel_rfl)) (by decide) (fun K hK => ?_)
                         have hs120 : w119.cell? ⟨gb107, 0, none⟩ = some (.int .i64 x108000_3) := (Z5 BK107.out 0).trans rfl
                         have hfs120 := Z2 BK107.out 0
                         have hns120_1 := NB108_107.out
                         have hms120_1 := NB107_108.out
                         have hs121 : w119.cell? ⟨gb107, 1, none⟩ = some (.string x108001_3) := (Z5 BK107.out 1).trans rfl
                         have hfs121 := Z2 BK107.out 1
                         have hns121_1 := NB108_107.out
                         have hms121_1 := NB107_108.out
                         have hs122 : w119.cell? ⟨gb107, 2, none⟩ = some (.int .u32 x108002_3) := (Z5 BK107.out 2).trans rfl
                         have hfs122 := Z2 BK107.out 2
                         have hns122_1 := NB108_107.out
                         have hms122_1 := NB107_108.out
                         have hs123 : w119.cell? ⟨gb107, 3, none⟩ = some (.bool x108003_3) := (Z5 BK107.out 3).trans rfl
                         have hfs123 := Z2 BK107.out 3
                         have hns123_1 := NB108_107.out
                         have hms123_1 := NB107_108.out
                         have hs124 : w119.cell? ⟨gb107, 4, none⟩ = some (.int .i64 x108004_3) := (Z5 BK107.out 4).trans rfl
                         have hfs124 := Z2 BK107.out 4
                         have hns124_1 := NB108_107.out
                         have hms124_1 := NB107_108.out
                         have hs125 : w119.cell? ⟨gb107, 5, none⟩ = some (.int .i64 x108005_3) := (Z5 BK107.out 5).trans rfl
                         have hfs125 := Z2 BK107.out 5
                         have hns125_1 := NB108_107.out
                         have hms125_1 := NB107_108.out
                         refine skip_ (w1 := ?_) (by rfl) rfl ?_ ?_
                         rotate_left
                         · go_simp
                           rfl
                         refine hK.out _ _ ⟨((Z11 (p := ⟨gb107, _, none⟩) NB108_107.out _).trans (((Z11 (p := ⟨gb107, _, none⟩) NB108_107.out _).trans (((Z11 (p := ⟨gb107, _, none⟩) NB108_107.out _).trans (((Z11 (p := ⟨gb107, _, none⟩) NB108_107.out _).trans (((Z11 (p := ⟨gb107, _, none⟩) NB108_107.out _).trans (((Z11 (p := ⟨gb107, _, none⟩) NB108_107.out _).trans (hHeld.1)))))))))))), ((Z11 (p := ⟨gb107, _, none⟩) NB108_107.out _).trans (((Z11 (p := ⟨gb107, _, none⟩) NB108_107.out _).trans (((Z11 (p := ⟨gb107, _, none⟩) NB108_107.out _).trans (((Z11 (p := ⟨gb107, _, none⟩) NB108_107.out _).trans (((Z11 (p := ⟨gb107, _, none⟩) NB108_107.out _).trans (((Z11 (p := ⟨gb107, _, none⟩) NB108_107.out _).trans (hHeld.2.1)))))))))))), ((Z11 (p := ⟨gb107, _, none⟩) NB108_107.out _).trans (((Z11 (p := ⟨gb107, _, none⟩) NB108_107.out _).trans (((Z11 (p := ⟨gb107, _, none⟩) NB108_107.out _).trans (((Z11 (p := ⟨gb107, _, none⟩) NB108_107.out _).trans (((Z11 (p := ⟨gb107, _, none⟩) NB108_107.out _).trans (((Z11 (p := ⟨gb107, _, none⟩) NB108_107.out _).trans (hHeld.2.2.1)))))))))))), ((Z11 (p := ⟨gb107, _, none⟩) NB108_107.out _).trans (((Z11 (p := ⟨gb107, _, none⟩) NB108_107.out _).trans (((Z11 (p := ⟨gb107, _, none⟩) NB108_107.out _).trans (((Z11 (p := ⟨gb107, _, none⟩) NB108_107.out _).trans (((Z11 (p := ⟨gb107, _, none⟩) NB108_107.out _).trans (((Z11 (p := ⟨gb107, _, none⟩) NB108_107.out _).trans (hHeld.2.2.2.1)))))))))))), ((Z11 (p := ⟨gb107, _, none⟩) NB108_107.out _).trans (((Z11 (p := ⟨gb107, _, none⟩) NB108_107.out _).trans (((Z11 (p := ⟨gb107, _, none⟩) NB108_107.out _).trans (((Z11 (p := ⟨gb107, _, none⟩) NB108_107.out _).trans (((Z11 (p := ⟨gb107, _, none⟩) NB108_107.out _).trans (((Z11 (p := ⟨gb107, _, none⟩) NB108_107.out _).trans (hHeld.2.2.2.2.1)))))))))))), ((Z11 (p := ⟨gb107, _, none⟩) NB108_107.out _).trans (((Z11 (p := ⟨gb107, _, none⟩) NB108_107.out _).trans (((Z11 (p := ⟨gb107, _, none⟩) NB108_107.out _).trans (((Z11 (p := ⟨gb107, _, none⟩) NB108_107.out _).trans (((Z11 (p := ⟨gb107, _, none⟩) NB108_107.out _).trans (((Z11 (p := ⟨gb107, _, none⟩) NB108_107.out _).trans (hHeld.2.2.2.2.2))))))))))))⟩ (fun hHeld => ?_)
                         clear hK K
                         refine pure_ (i := 13) (N := some 5) (v := ?_) (a' := ?_) #[true, true, true, true, true, true, true, true, true, true, true, true, true, true] rfl rfl (any_of HT_.out (by kernel_rfl)) (fun _ _ _ h => h) (Or.inl ⟨by rfl, ?_⟩) ?_ ?_
                         rotate_left
                         · intro w'
                           go_simp
                           with_reducible rfl
                         rotate_left
                         · simp only [Act.put, List.setIfInBounds_toArray, List.set_cons_zero, List.set_cons_succ, i64_w, i32_w]
                           rfl
                         refine done_ (Z83 HT_.out (by kernel_rfl)) ?_
                         try go_wp2
                         refine bodyPost_ret (Z46 rfl _ _ gb107 24 #[.int .i64 5, .string (⟨#[]⟩ : ByteArray), .int .u32 ((x10_3) % 4294967296), .bool (decide (x10_3 ≥ 2147483648)), .int .i64 a1, .int .i64 x8_3] (0, 0) _ rfl (by (with_reducible repeat (first | refine Z0 ?_ _ | refine Z3 ?_ | refine Z1 ?_ _)); refine Z9 (cs := #[.int .i64 5, .string (⟨#[]⟩ : ByteArray), .int .u32 ((x10_3) % 4294967296), .bool (decide (x10_3 ≥ 2147483648)), .int .i64 a1, .int .i64 x108005_3]) ?_ 5 _ rfl; (with_reducible repeat (first | refine Z0 ?_ _ | refine Z3 ?_ | refine Z1 ?_ _)); refine Z9 (cs := #[.int .i64 5, .string (⟨#[]⟩ : ByteArray), .int .u32 ((x10_3) % 4294967296), .bool (decide (x10_3 ≥ 2147483648)), .int .i64 x108004_3, .int .i64 x108005_3]) ?_ 4 _ rfl; (with_reducible repeat (first | refine Z0 ?_ _ | refine Z3 ?_ | refine Z1 ?_ _)); refine Z9 (cs := #[.int .i64 5, .string (⟨#[]⟩ : ByteArray), .int .u32 ((x10_3) % 4294967296), .bool x108003_3, .int .i64 x108004_3, .int .i64 x108005_3]) ?_ 3 _ rfl; (with_reducible repeat (first | refine Z0 ?_ _ | refine Z3 ?_ | refine Z1 ?_ _)); refine Z9 (cs := #[.int .i64 5, .string (⟨#[]⟩ : ByteArray), .int .u32 x108002_3, .bool x108003_3, .int .i64 x108004_3, .int .i64 x108005_3]) ?_ 2 _ rfl; (with_reducible repeat (first | refine Z0 ?_ _ | refine Z3 ?_ | refine Z1 ?_ _)); refine Z9 (cs := #[.int .i64 5, .string x108001_3, .int .u32 x108002_3, .bool x108003_3, .int .i64 x108004_3, .int .i64 x108005_3]) ?_ 1 _ rfl; (with_reducible repeat (first | refine Z0 ?_ _ | refine Z3 ?_ | refine Z1 ?_ _)); refine Z9 (cs := #[.int .i64 x108000_3, .string x108001_3, .int .u32 x108002_3, .bool x108003_3, .int .i64 x108004_3, .int .i64 x108005_3]) ?_ 0 _ rfl; (with_reducible repeat (first | refine Z0 ?_ _ | refine Z3 ?_ | refine Z1 ?_ _)); exact BK107.out) Tryd.underlying24 rfl (by kernel_rfl)) rfl ?_
                         exact ⟨by first | rfl | (simp [Z16, Z15] <;> rfl) | (simp [*, Z16, Z15] <;> rfl), by repeat (first | (with_reducible first | exact HB.out | apply Z7 | apply Z4 | apply Z6 | refine Z8 ?_ GE107.out | refine Z8 ?_ GE108.out) | exact HB.out)⟩
                 · rw [if_neg c46] at H
                   exact absurd H (by simp)
               · rw [if_neg c45] at H
                 have c45b0 : decide (x8_3 < (a0.size : Int)) = false := decide_eq_false c45
                 clear c45
                 by_cases c126 : x8_3 ≥ (a0.size : Int)
                 · rw [if_pos c126] at H
                   have c126b0 : decide ((a0.size : Int) ≤ x8_3) = true := decide_eq_true c126
                   clear c126
                   simp only [Option.some.injEq, Prod.mk.injEq] at H
                   obtain ⟨rfl, rfl, rfl, rfl, rfl, rfl, rfl⟩ := H
                   have hnb127 := NB108_107.out
                   have hnc127 := NB107_108.out
                   have hcz128_0 : wc.cell? ⟨gb108, 0, none⟩ = some (.int .i64 5) := (Z5 BK108.out 0).trans rfl
                   have hcz128_1 : wc.cell? ⟨gb108, 1, none⟩ = some (.string (⟨#[]⟩ : ByteArray)) := (Z5 BK108.out 1).trans rfl
                   have hcz128_2 : wc.cell? ⟨gb108, 2, none⟩ = some (.int .u32 0) := (Z5 BK108.out 2).trans rfl
                   have hcz128_3 : wc.cell? ⟨gb108, 3, none⟩ = some (.bool false) := (Z5 BK108.out 3).trans rfl
                   have hcz128_4 : wc.cell? ⟨gb108, 4, none⟩ = some (.int .i64 a1) := (Z5 BK108.out 4).trans rfl
                   have hcz128_5 : wc.cell? ⟨gb108, 5, none⟩ = some (.int .i64 0) := (Z5 BK108.out 5).trans rfl
                   have hfz128_0 := Z2 BK108.out 0
                   have hfz128_1 := Z2 BK108.out 1
                   have hfz128_2 := Z2 BK108.out 2
                   have hfz128_3 := Z2 BK108.out 3
                   have hfz128_4 := Z2 BK108.out 4
                   have hfz128_5 := Z2 BK108.out 5
                   try go_wp2
                   have n0_ : Aside0 ((((wc.setCell ⟨gb108, 3, none⟩ (.bool (decide (x10_3 ≥ 2147483648)))).setCell ⟨gb108, 2, none⟩ (.int .u32 ((x10_3) % 4294967296))).setCell ⟨gb108, 5, none⟩ (.int .i64 x8_3)).heap[gb107]? = some (.cells #[.int .i64 x108000_3, .string x108001_3, .int .u32 x108002_3, .bool x108003_3, .int .i64 x108004_3, .int .i64 x108005_3] 24 (0, 0))) := ⟨by (with_reducible repeat (first | refine Z0 ?_ _ | refine Z3 ?_ | refine Z1 ?_ _)); refine Z22 ?_ NB107_108.out _; (with_reducible repeat (first | refine Z0 ?_ _ | refine Z3 ?_ | refine Z1 ?_ _)); refine Z22 ?_ NB107_108.out _; (with_reducible repeat (first | refine Z0 ?_ _ | refine Z3 ?_ | refine Z1 ?_ _)); refine Z22 ?_ NB107_108.out _; (with_reducible repeat (first | refine Z0 ?_ _ | refine Z3 ?_ | refine Z1 ?_ _)); exact BK107.out⟩
                   have n1_ : Aside0 ((((wc.setCell ⟨gb108, 3, none⟩ (.bool (decide (x10_3 ≥ 2147483648)))).setCell ⟨gb108, 2, none⟩ (.int .u32 ((x10_3) % 4294967296))).setCell ⟨gb108, 5, none⟩ (.int .i64 x8_3)).heap[gb108]? = some (.cells #[.int .i64 5, .string (⟨#[]⟩ : ByteArray), .int .u32 ((x10_3) % 4294967296), .bool (decide (x10_3 ≥ 2147483648)), .int .i64 a1, .int .i64 x8_3] 24 (0, 0))) := ⟨by (with_reducible repeat (first | refine Z0 ?_ _ | refine Z3 ?_ | refine Z1 ?_ _)); refine Z9 (cs := #[.int .i64 5, .string (⟨#[]⟩ : ByteArray), .int .u32 ((x10_3) % 4294967296), .bool (decide (x10_3 ≥ 2147483648)), .int .i64 a1, .int .i64 0]) ?_ 5 _ rfl; (with_reducible repeat (first | refine Z0 ?_ _ | refine Z3 ?_ | refine Z1 ?_ _)); refine Z9 (cs := #[.int .i64 5, .string (⟨#[]⟩ : ByteArray), .int .u32 0, .bool (decide (x10_3 ≥ 2147483648)), .int .i64 a1, .int .i64 0]) ?_ 2 _ rfl; (with_reducible repeat (first | refine Z0 ?_ _ | refine Z3 ?_ | refine Z1 ?_ _)); refine Z9 (cs := #[.int .i64 5, .string (⟨#[]⟩ : ByteArray), .int .u32 0, .bool false, .int .i64 a1, .int .i64 0]) ?_ 3 _ rfl; (with_reducible repeat (first | refine Z0 ?_ _ | refine Z3 ?_ | refine Z1 ?_ _)); exact BK108.out⟩
                   have n2_ : Aside0 (Below w.heap.size w (((wc.setCell ⟨gb108, 3, none⟩ (.bool (decide (x10_3 ≥ 2147483648)))).setCell ⟨gb108, 2, none⟩ (.int .u32 ((x10_3) % 4294967296))).setCell ⟨gb108, 5, none⟩ (.int .i64 x8_3))) := ⟨by repeat (first | (with_reducible first | exact HB.out | apply Z7 | apply Z4 | apply Z6 | refine Z8 ?_ GE107.out | refine Z8 ?_ GE108.out) | exact HB.out)⟩
                   (try clear BK107)
                   (try clear BK108)
                   (try clear HB)
                   generalize (((wc.setCell ⟨gb108, 3, none⟩ (.bool (decide (x10_3 ≥ 2147483648)))).setCell ⟨gb108, 2, none⟩ (.int .u32 ((x10_3) % 4294967296))).setCell ⟨gb108, 5, none⟩ (.int .i64 x8_3)) = w129 at n0_ n1_ n2_ ⊢
                   have BK107 := n0_
                   have BK108 := n1_
                   have HB := n2_
                   clear n0_ n1_ n2_
                   have n0_ := Aside0.mk (Z3 BK107.out)
                   have n1_ := Aside0.mk (Z3 BK108.out)
                   have n2_ := Aside0.mk (Z6 HB.out)
                   clear BK107
                   clear BK108
                   clear HB
                   have BK107 := n0_
                   have BK108 := n1_
                   have HB := n2_
                   clear n0_ n1_ n2_
                   refine start_ (n := 14) (S := fun w' => w'.cell? ⟨gb108, 0, none⟩ = some (.int .i64 5) ∧ w'.cell? ⟨gb108, 1, none⟩ = some (.string (⟨#[]⟩ : ByteArray)) ∧ w'.cell? ⟨gb108, 2, none⟩ = some (.int .u32 ((x10_3) % 4294967296)) ∧ w'.cell? ⟨gb108, 3, none⟩ = some (.bool (decide (x10_3 ≥ 2147483648))) ∧ w'.cell? ⟨gb108, 4, none⟩ = some (.int .i64 a1) ∧ w'.cell? ⟨gb108, 5, none⟩ = some (.int .i64 x8_3)) (ds := []) #[false, false, false, false, false, false, false, false, false, false, false, false, false, false] (by kernel_rfl) rfl rfl ⟨(Z5 BK108.out 0).trans rfl, (Z5 BK108.out 1).trans rfl, (Z5 BK108.out 2).trans rfl, (Z5 BK108.out 3).trans rfl, (Z5 BK108.out 4).trans rfl, (Z5 BK108.out 5).trans rfl⟩ (fun hHeld => ?_); refine Z74 Z12.tab20 Z12.bits20 (fun HT_ HW_ => ?_)
                   generalize w129.drew = w130 at BK107 BK108 HB hHeld ⊢
                   refine pure_ (i := 1) (N := some 117) (v := ?_) (a' := ?_) #[false, true, false, false, false, false, false, false, false, false, false, false, false, false] rfl rfl (any_of HT_.out (by kernel_rfl)) (fun _ _ _ h => h) (Or.inl ⟨by rfl, ?_⟩) ?_ ?_
                   rotate_left
                   · intro w'
                     go_simp
                     with_reducible rfl
                   rotate_left
                   · simp only [Act.put, List.setIfInBounds_toArray, List.set_cons_zero, List.set_cons_succ, i64_w, i32_w]
                     rfl
                   refine pure_ (i := 2) (N := some 118) (v := ?_) (a' := ?_) #[false, true, true, false, false, false, false, false, false, false, false, false, false, false] rfl rfl (any_of HT_.out (by kernel_rfl)) (fun _ _ _ h => h) (Or.inl ⟨by rfl, ?_⟩) ?_ ?_
                   rotate_left
                   · intro w'
                     go_simp
                     with_reducible rfl
                   rotate_left
                   · simp only [Act.put, List.setIfInBounds_toArray, List.set_cons_zero, List.set_cons_succ, i64_w, i32_w]
                     rfl
                   refine pure_ (i := 3) (N := some 119) (v := ?_) (a' := ?_) #[false, true, true, true, false, false, false, false, false, false, false, false, false, false] rfl rfl (any_of HT_.out (by kernel_rfl)) (fun _ _ _ h => h) (Or.inl ⟨by rfl, ?_⟩) ?_ ?_
                   rotate_left
                   · intro w'
                     go_simp
                     with_reducible rfl
                   rotate_left
                   · simp only [Act.put, List.setIfInBounds_toArray, List.set_cons_zero, List.set_cons_succ, i64_w, i32_w]
                     rfl
                   refine pure_ (i := 4) (N := some 120) (v := ?_) (a' := ?_) #[false, true, true, true, true, false, false, false, false, false, false, false, false, false] rfl rfl (any_of HT_.out (by kernel_rfl)) (fun _ _ _ h => h) (Or.inl ⟨by rfl, ?_⟩) ?_ ?_
                   rotate_left
                   · intro w'
                     go_simp
                     with_reducible rfl
                   rotate_left
                   · simp only [Act.put, List.setIfInBounds_toArray, List.set_cons_zero, List.set_cons_succ, i64_w, i32_w]
                     rfl
                   refine pure_ (i := 5) (N := some 121) (v := ?_) (a' := ?_) #[false, true, true, true, true, true, false, false, false, false, false, false, false, false] rfl rfl (any_of HT_.out (by kernel_rfl)) (fun _ _ _ h => h) (Or.inl ⟨by rfl, ?_⟩) ?_ ?_
                   rotate_left
                   · intro w'
                     go_simp
                     with_reducible rfl
                   rotate_left
                   · simp only [Act.put, List.setIfInBounds_toArray, List.set_cons_zero, List.set_cons_succ, i64_w, i32_w]
                     rfl
                   refine pure_ (i := 6) (N := some 122) (v := undef) (a' := ?_) #[false, true, true, true, true, true, true, false, false, false, false, false, false, false] rfl rfl (any_of HT_.out (by kernel_rfl)) (fun _ _ _ h => h) (Or.inr ⟨by rfl, rfl⟩) ?_ ?_
                   rotate_left
                   · simp only [Act.put, List.setIfInBounds_toArray, List.set_cons_zero, List.set_cons_succ, i64_w, i32_w]
                     rfl
                   refine pure_ (i := 7) (N := some 123) (v := undef) (a' := ?_) #[false, true, true, true, true, true, true, true, false, false, false, false, false, false] rfl rfl (any_of HT_.out (by kernel_rfl)) (fun _ _ _ h => h) (Or.inr ⟨by rfl, rfl⟩) ?_ ?_
                   rotate_left
                   · simp only [Act.put, List.setIfInBounds_toArray, List.set_cons_zero, List.set_cons_succ, i64_w, i32_w]
                     rfl
                   refine pure_ (i := 8) (N := some 124) (v := undef) (a' := ?_) #[false, true, true, true, true, true, true, true, true, false, false, false, false, false] rfl rfl (any_of HT_.out (by kernel_rfl)) (fun _ _ _ h => h) (Or.inr ⟨by rfl, rfl⟩) ?_ ?_
                   rotate_left
                   · simp only [Act.put, List.setIfInBounds_toArray, List.set_cons_zero, List.set_cons_succ, i64_w, i32_w]
                     rfl
                   refine pure_ (i := 9) (N := some 125) (v := undef) (a' := ?_) #[false, true, true, true, true, true, true, true, true, true, false, false, false, false] rfl rfl (any_of HT_.out (by kernel_rfl)) (fun _ _ _ h => h) (Or.inr ⟨by rfl, rfl⟩) ?_ ?_
                   rotate_left
                   · simp only [Act.put, List.setIfInBounds_toArray, List.set_cons_zero, List.set_cons_succ, i64_w, i32_w]
                     rfl
                   refine pure_ (i := 10) (N := some 126) (v := undef) (a' := ?_) #[false, true, true, true, true, true, true, true, true, true, true, false, false, false] rfl rfl (any_of HT_.out (by kernel_rfl)) (fun _ _ _ h => h) (Or.inr ⟨by rfl, rfl⟩) ?_ ?_
                   rotate_left
                   · simp only [Act.put, List.setIfInBounds_toArray, List.set_cons_zero, List.set_cons_succ, i64_w, i32_w]
                     rfl
                   refine pure_ (i := 11) (N := some 127) (v := ?_) (a' := ?_) #[false, true, true, true, true, true, true, true, true, true, true, true, false, false] rfl rfl (any_of HT_.out (by kernel_rfl)) (fun _ _ _ h => h) (Or.inl ⟨by rfl, ?_⟩) ?_ ?_
                   rotate_left
                   · intro w'
                     go_simp
                     with_reducible rfl
                   rotate_left
                   · simp only [Act.put, List.setIfInBounds_toArray, List.set_cons_zero, List.set_cons_succ, i64_w, i32_w]
                     rfl
                   refine take_ (i := 0) (N := some 116) (v := ?_) (a' := ?_) #[true, true, true, true, true, true, true, true, true, true, true, true, false, false] rfl rfl (Z67 HT_.out HW_.out (by kernel_rfl)) (fun _ _ _ h => h) (Or.inl ⟨by rfl, ?_⟩) hHeld ?_ ?_
                   rotate_left
                   · rintro w' ⟨s0, s1, s2, s3, s4, s5⟩
                     go_simp
                     with_reducible rfl
                   rotate_left
                   · simp only [Act.put, List.setIfInBounds_toArray, List.set_cons_zero, List.set_cons_succ, i64_w, i32_w]
                     rfl
                   refine one_ (i := 12) (N := none) #[true, true, true, true, true, true, true, true, true, true, true, true, true, false] rfl rfl (one_of HT_.out (by kernel_rfl)) (by decide) (fun K hK => ?_)
                   have hs131 : w130.cell? ⟨gb107, 0, none⟩ = some (.int .i64 x108000_3) := (Z5 BK107.out 0).trans rfl
                   have hfs131 := Z2 BK107.out 0
                   have hns131_1 := NB108_107.out
                   have hms131_1 := NB107_108.out
                   have hs132 : w130.cell? ⟨gb107, 1, none⟩ = some (.string x108001_3) := (Z5 BK107.out 1).trans rfl
                   have hfs132 := Z2 BK107.out 1
                   have hns132_1 := NB108_107.out
                   have hms132_1 := NB107_108.out
                   have hs133 : w130.cell? ⟨gb107, 2, none⟩ = some (.int .u32 x108002_3) := (Z5 BK107.out 2).trans rfl
                   have hfs133 := Z2 BK107.out 2
                   have hns133_1 := NB108_107.out
                   have hms133_1 := NB107_108.out
                   have hs134 : w130.cell? ⟨gb107, 3, none⟩ = some (.bool x108003_3) := (Z5 BK107.out 3).trans rfl
                   have hfs134 := Z2 BK107.out 3
                   have hns134_1 := NB108_107.out
                   have hms134_1 := NB107_108.out
                   have hs135 : w130.cell? ⟨gb107, 4, none⟩ = some (.int .i64 x108004_3) := (Z5 BK107.out 4).trans rfl
                   have hfs135 := Z2 BK107.out 4
                   have hns135_1 := NB108_107.out
                   have hms135_1 := NB107_108.out
                   have hs136 : w130.cell? ⟨gb107, 5, none⟩ = some (.int .i64 x108005_3) := (Z5 BK107.out 5).trans rfl
                   have hfs136 := Z2 BK107.out 5
                   have hns136_1 := NB108_107.out
                   have hms136_1 := NB107_108.out
                   refine skip_ (w1 := ?_) (by rfl) rfl ?_ ?_
                   rotate_left
                   · go_simp
                     rfl
                   refine hK.out _ _ ⟨((Z11 (p := ⟨gb107, _, none⟩) NB108_107.out _).trans (((Z11 (p := ⟨gb107, _, none⟩) NB108_107.out _).trans (((Z11 (p := ⟨gb107, _, none⟩) NB108_107.out _).trans (((Z11 (p := ⟨gb107, _, none⟩) NB108_107.out _).trans (((Z11 (p := ⟨gb107, _, none⟩) NB108_107.out _).trans (((Z11 (p := ⟨gb107, _, none⟩) NB108_107.out _).trans (hHeld.1)))))))))))), ((Z11 (p := ⟨gb107, _, none⟩) NB108_107.out _).trans (((Z11 (p := ⟨gb107, _, none⟩) NB108_107.out _).trans (((Z11 (p := ⟨gb107, _, none⟩) NB108_107.out _).trans (((Z11 (p := ⟨gb107, _, none⟩) NB108_107.out _).trans (((Z11 (p := ⟨gb107, _, none⟩) NB108_107.out _).trans (((Z11 (p := ⟨gb107, _, none⟩) NB108_107.out _).trans (hHeld.2.1)))))))))))), ((Z11 (p := ⟨gb107, _, none⟩) NB108_107.out _).trans (((Z11 (p := ⟨gb107, _, none⟩) NB108_107.out _).trans (((Z11 (p := ⟨gb107, _, none⟩) NB108_107.out _).trans (((Z11 (p := ⟨gb107, _, none⟩) NB108_107.out _).trans (((Z11 (p := ⟨gb107, _, none⟩) NB108_107.out _).trans (((Z11 (p := ⟨gb107, _, none⟩) NB108_107.out _).trans (hHeld.2.2.1)))))))))))), ((Z11 (p := ⟨gb107, _, none⟩) NB108_107.out _).trans (((Z11 (p := ⟨gb107, _, none⟩) NB108_107.out _).trans (((Z11 (p := ⟨gb107, _, none⟩) NB108_107.out _).trans (((Z11 (p := ⟨gb107, _, none⟩) NB108_107.out _).trans (((Z11 (p := ⟨gb107, _, none⟩) NB108_107.out _).trans (((Z11 (p := ⟨gb107, _, none⟩) NB108_107.out _).trans (hHeld.2.2.2.1)))))))))))), ((Z11 (p := ⟨gb107, _, none⟩) NB108_107.out _).trans (((Z11 (p := ⟨gb107, _, none⟩) NB108_107.out _).trans (((Z11 (p := ⟨gb107, _, none⟩) NB108_107.out _).trans (((Z11 (p := ⟨gb107, _, none⟩) NB108_107.out _).trans (((Z11 (p := ⟨gb107, _, none⟩) NB108_107.out _).trans (((Z11 (p := ⟨gb107, _, none⟩) NB108_107.out _).trans (hHeld.2.2.2.2.1)))))))))))), ((Z11 (p := ⟨gb107, _, none⟩) NB108_107.out _).trans (((Z11 (p := ⟨gb107, _, none⟩) NB108_107.out _).trans (((Z11 (p := ⟨gb107, _, none⟩) NB108_107.out _).trans (((Z11 (p := ⟨gb107, _, none⟩) NB108_107.out _).trans (((Z11 (p := ⟨gb107, _, none⟩) NB108_107.out _).trans (((Z11 (p := ⟨gb107, _, none⟩) NB108_107.out _).trans (hHeld.2.2.2.2.2))))))))))))⟩ (fun hHeld => ?_)
                   clear hK K
                   refine pure_ (i := 13) (N := some 5) (v := ?_) (a' := ?_) #[true, true, true, true, true, true, true, true, true, true, true, true, true, true] rfl rfl (any_of HT_.out (by kernel_rfl)) (fun _ _ _ h => h) (Or.inl ⟨by rfl, ?_⟩) ?_ ?_
                   rotate_left
                   · intro w'
                     go_simp
                     with_reducible rfl
                   rotate_left
                   · simp only [Act.put, List.setIfInBounds_toArray, List.set_cons_zero, List.set_cons_succ, i64_w, i32_w]
                     rfl
                   refine done_ (Z83 HT_.out (by kernel_rfl)) ?_
                   try go_wp2
                   refine bodyPost_ret (Z46 rfl _ _ gb107 24 #[.int .i64 5, .string (⟨#[]⟩ : ByteArray), .int .u32 ((x10_3) % 4294967296), .bool (decide (x10_3 ≥ 2147483648)), .int .i64 a1, .int .i64 x8_3] (0, 0) _ rfl (by (with_reducible repeat (first | refine Z0 ?_ _ | refine Z3 ?_ | refine Z1 ?_ _)); refine Z9 (cs := #[.int .i64 5, .string (⟨#[]⟩ : ByteArray), .int .u32 ((x10_3) % 4294967296), .bool (decide (x10_3 ≥ 2147483648)), .int .i64 a1, .int .i64 x108005_3]) ?_ 5 _ rfl; (with_reducible repeat (first | refine Z0 ?_ _ | refine Z3 ?_ | refine Z1 ?_ _)); refine Z9 (cs := #[.int .i64 5, .string (⟨#[]⟩ : ByteArray), .int .u32 ((x10_3) % 4294967296), .bool (decide (x10_3 ≥ 2147483648)), .int .i64 x108004_3, .int .i64 x108005_3]) ?_ 4 _ rfl; (with_reducible repeat (first | refine Z0 ?_ _ | refine Z3 ?_ | refine Z1 ?_ _)); refine Z9 (cs := #[.int .i64 5, .string (⟨#[]⟩ : ByteArray), .int .u32 ((x10_3) % 4294967296), .bool x108003_3, .int .i64 x108004_3, .int .i64 x108005_3]) ?_ 3 _ rfl; (with_reducible repeat (first | refine Z0 ?_ _ | refine Z3 ?_ | refine Z1 ?_ _)); refine Z9 (cs := #[.int .i64 5, .string (⟨#[]⟩ : ByteArray), .int .u32 x108002_3, .bool x108003_3, .int .i64 x108004_3, .int .i64 x108005_3]) ?_ 2 _ rfl; (with_reducible repeat (first | refine Z0 ?_ _ | refine Z3 ?_ | refine Z1 ?_ _)); refine Z9 (cs := #[.int .i64 5, .string x108001_3, .int .u32 x108002_3, .bool x108003_3, .int .i64 x108004_3, .int .i64 x108005_3]) ?_ 1 _ rfl; (with_reducible repeat (first | refine Z0 ?_ _ | refine Z3 ?_ | refine Z1 ?_ _)); refine Z9 (cs := #[.int .i64 x108000_3, .string x108001_3, .int .u32 x108002_3, .bool x108003_3, .int .i64 x108004_3, .int .i64 x108005_3]) ?_ 0 _ rfl; (with_reducible repeat (first | refine Z0 ?_ _ | refine Z3 ?_ | refine Z1 ?_ _)); exact BK107.out) Tryd.underlying24 rfl (by kernel_rfl)) rfl ?_
                   exact ⟨by first | rfl | (simp [Z16, Z15] <;> rfl) | (simp [*, Z16, Z15] <;> rfl), by repeat (first | (with_reducible first | exact HB.out | apply Z7 | apply Z4 | apply Z6 | refine Z8 ?_ GE107.out | refine Z8 ?_ GE108.out) | exact HB.out)⟩
                 · rw [if_neg c126] at H
                   have c126b0 : decide ((a0.size : Int) ≤ x8_3) = false := decide_eq_false c126
                   clear c126
                   by_cases c137 : 0 ≤ x8_3
                   · rw [if_pos c137] at H
                     exact absurd H (by simp)
                   · rw [if_neg c137] at H
                     exact absurd H (by simp)
end Go.Proofs.YtbmfadmoficfiaaDoor.Q
