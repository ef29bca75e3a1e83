/- A part of the proof, made small by a program: Qx23, Qx24, Qx25. -/
import Derived.Test.YtbmfadmoficfiaaDoorVa2
import Derived.Test.YtbmfadmoficfiaaDoorVa4
import Derived.Test.YtbmfadmoficfiaaDoorVa8
import Derived.Test.YtbmfadmoficfiaaDoorVa9
namespace Go.Proofs.YtbmfadmoficfiaaDoor.Q
open Go.RowKit Go.Proofs.YtbmfadmoficfiaaDoorW.PrintWords Go.Proofs.YtbmfadmoficfiaaDoorW.PrintLast Go.Proofs.YtbmfadmoficfiaaDoorW.PrintMore
attribute [local go_sem] Z56 Z54 Z61 Z60 Z49 Z48 Z55 Z53
set_option linter.unusedVariables false
set_option linter.unusedSimpArgs false
mutual
def Z10.j0 : Nat → ByteArray → Int → Int → Int → Bool → Int → ByteArray → Int → Bool → Int → Int → Option (Int × ByteArray × Int × Bool × Int × Int × Bool)
 | 0, _, _, _, _, _, _, _, _, _, _, _ => none
 | k + 1, x0, x1, x7, x8, x22, x185000, x185001, x185002, x185003, x185004, x185005 => if x22 = true then (Z10.j1 k x0 16 (wrap64 (x1 + 2)) x185000 x185001 x185002 x185003 x185004 x185005) else (Z10.j1 k x0 x7 x8 x185000 x185001 x185002 x185003 x185004 x185005)
def Z10.j1 : Nat → ByteArray → Int → Int → Int → ByteArray → Int → Bool → Int → Int → Option (Int × ByteArray × Int × Bool × Int × Int × Bool)
 | 0, _, _, _, _, _, _, _, _, _ => none
 | k + 1, x0, x7, x8, x185000, x185001, x185002, x185003, x185004, x185005 => Z10.l0 k x0 x7 x8 x8 0 true x185000 x185001 x185002 x185003 x185004 x185005
def Z10.l0 : Nat → ByteArray → Int → Int → Int → Int → Bool → Int → ByteArray → Int → Bool → Int → Int → Option (Int × ByteArray × Int × Bool × Int × Int × Bool)
 | 0, _, _, _, _, _, _, _, _, _, _, _, _ => none
 | k + 1, x0, x7, x8, x9, x10, x11, x185000, x185001, x185002, x185003, x185004, x185005 => if x8 < (x0.size : Int) then (if 0 ≤ x8 then ((Z26.f k (bt x0 x8)).bind fun t187 => (Z10.j3 k x0 x7 x8 x9 x10 x11 (decide (t187 < x7)) x185000 x185001 x185002 x185003 x185004 x185005)) else (none)) else (Z10.j3 k x0 x7 x8 x9 x10 x11 false x185000 x185001 x185002 x185003 x185004 x185005)
def Z10.j3 : Nat → ByteArray → Int → Int → Int → Int → Bool → Bool → Int → ByteArray → Int → Bool → Int → Int → Option (Int × ByteArray × Int × Bool × Int × Int × Bool)
 | 0, _, _, _, _, _, _, _, _, _, _, _, _, _ => none
 | k + 1, x0, x7, x8, x9, x10, x11, x37, x185000, x185001, x185002, x185003, x185004, x185005 => if x37 = true then (if 0 ≤ x8 then (if x8 < (x0.size : Int) then ((Z26.f k (bt x0 x8)).bind fun t188 => (if (IntKind.u64.wrap ((IntKind.u64.wrap (x10 * (IntKind.u64.wrap (x7)))) + (IntKind.u64.wrap (t188)))) ≥ 4294967296 then (Z10.l0 k x0 x7 (wrap64 (x8 + 1)) x9 4294967296 false x185000 x185001 x185002 x185003 x185004 x185005) else (Z10.l0 k x0 x7 (wrap64 (x8 + 1)) x9 (IntKind.u64.wrap ((IntKind.u64.wrap (x10 * (IntKind.u64.wrap (x7)))) + (IntKind.u64.wrap (t188)))) x11 x185000 x185001 x185002 x185003 x185004 x185005))) else (none)) else (none)) else (if x8 = x9 then (Z10.j4 k x0 x8 x10 x11 true x185000 x185001 x185002 x185003 x185004 x185005) else (if x7 = 10 then (if (wrap64 (x8 - x9)) > 1 then (if 0 ≤ x9 then (if x9 < (x0.size : Int) then (Z10.j4 k x0 x8 x10 x11 ((bt x0 x9) == 48) x185000 x185001 x185002 x185003 x185004 x185005) else (none)) else (none)) else (Z10.j4 k x0 x8 x10 x11 false x185000 x185001 x185002 x185003 x185004 x185005)) else (Z10.j4 k x0 x8 x10 x11 false x185000 x185001 x185002 x185003 x185004 x185005)))
def Z10.j4 : Nat → ByteArray → Int → Int → Bool → Bool → Int → ByteArray → Int → Bool → Int → Int → Option (Int × ByteArray × Int × Bool × Int × Int × Bool)
 | 0, _, _, _, _, _, _, _, _, _, _, _ => none
 | k + 1, x0, x8, x10, x11, x70, x185000, x185001, x185002, x185003, x185004, x185005 => if x70 = true then (Z10.j5 k x0 x8 x10 false x185000 x185001 x185002 x185003 x185004 x185005) else (Z10.j5 k x0 x8 x10 x11 x185000 x185001 x185002 x185003 x185004 x185005)
def Z10.j5 : Nat → ByteArray → Int → Int → Bool → Int → ByteArray → Int → Bool → Int → Int → Option (Int × ByteArray × Int × Bool × Int × Int × Bool)
 | 0, _, _, _, _, _, _, _, _, _, _ => none
 | k + 1, x0, x8, x10, x11, x185000, x185001, x185002, x185003, x185004, x185005 => (Z34.f x0 x8).bind fun t189 => (if t189 = 117 then (Z10.j6 k x0 x8 x10 x11 true x185000 x185001 x185002 x185003 x185004 x185005) else ((Z34.f x0 x8).bind fun t190 => (Z10.j6 k x0 x8 x10 x11 (t190 == 85) x185000 x185001 x185002 x185003 x185004 x185005)))
def Z10.j6 : Nat → ByteArray → Int → Int → Bool → Bool → Int → ByteArray → Int → Bool → Int → Int → Option (Int × ByteArray × Int × Bool × Int × Int × Bool)
 | 0, _, _, _, _, _, _, _, _, _, _, _ => none
 | k + 1, x0, x8, x10, x11, x80, x185000, x185001, x185002, x185003, x185004, x185005 => if x80 = true then (Z10.j7 k x0 (wrap64 (x8 + 1)) x10 x11 x185000 x185001 x185002 true x185004 x185005) else (Z10.j7 k x0 x8 x10 x11 x185000 x185001 x185002 x185003 x185004 x185005)
def Z10.j7 : Nat → ByteArray → Int → Int → Bool → Int → ByteArray → Int → Bool → Int → Int → Option (Int × ByteArray × Int × Bool × Int × Int × Bool)
 | 0, _, _, _, _, _, _, _, _, _, _ => none
 | k + 1, x0, x8, x10, x11, x185000, x185001, x185002, x185003, x185004, x185005 => (Z34.f x0 x8).bind fun t191 => ((Z35.f t191).bind fun t192 => (if t192 = true then (if x185003 = true then (some (x185000, x185001, (x10) % 4294967296, true, x185004, x8, false)) else (some (x185000, x185001, (x10) % 4294967296, decide (x10 ≥ 2147483648), x185004, x8, false))) else ((Z34.f x0 x8).bind fun t193 => ((Z33.f t193).bind fun t194 => (if t194 = true then (if x185003 = true then (some (x185000, x185001, (x10) % 4294967296, true, x185004, x8, false)) else (some (x185000, x185001, (x10) % 4294967296, decide (x10 ≥ 2147483648), x185004, x8, false))) else (if x185003 = true then (some (x185000, x185001, (x10) % 4294967296, true, x185004, x8, x11)) else (some (x185000, x185001, (x10) % 4294967296, decide (x10 ≥ 2147483648), x185004, x8, x11))))))))
end
def Z10.f (k : Nat) (a0 : ByteArray) (a1 : Int) : Option (Int × ByteArray × Int × Bool × Int × Int × Bool) := (Z45.f a0 a1 (⟨#[48, 120]⟩ : ByteArray)).bind fun t185 => (if t185 = true then (Z10.j0 k a0 a1 10 a1 true 5 (⟨#[]⟩ : ByteArray) 0 false a1 0) else ((Z45.f a0 a1 (⟨#[48, 88]⟩ : ByteArray)).bind fun t186 => (Z10.j0 k a0 a1 10 a1 t186 5 (⟨#[]⟩ : ByteArray) 0 false a1 0)))
theorem Z10.mono_l : ∀ k, (∀ y0 y1 y2 y3 y4 y5 y6 y7 y8 y9 y10, LeO (Z10.j0 k y0 y1 y2 y3 y4 y5 y6 y7 y8 y9 y10) (Z10.j0 (k + 1) y0 y1 y2 y3 y4 y5 y6 y7 y8 y9 y10)) ∧ (∀ y0 y1 y2 y3 y4 y5 y6 y7 y8, LeO (Z10.j1 k y0 y1 y2 y3 y4 y5 y6 y7 y8) (Z10.j1 (k + 1) y0 y1 y2 y3 y4 y5 y6 y7 y8)) ∧ (∀ y0 y1 y2 y3 y4 y5 y6 y7 y8 y9 y10 y11, LeO (Z10.l0 k y0 y1 y2 y3 y4 y5 y6 y7 y8 y9 y10 y11) (Z10.l0 (k + 1) y0 y1 y2 y3 y4 y5 y6 y7 y8 y9 y10 y11)) ∧ (∀ y0 y1 y2 y3 y4 y5 y6 y7 y8 y9 y10 y11 y12, LeO (Z10.j3 k y0 y1 y2 y3 y4 y5 y6 y7 y8 y9 y10 y11 y12) (Z10.j3 (k + 1) y0 y1 y2 y3 y4 y5 y6 y7 y8 y9 y10 y11 y12)) ∧ (∀ y0 y1 y2 y3 y4 y5 y6 y7 y8 y9 y10, LeO (Z10.j4 k y0 y1 y2 y3 y4 y5 y6 y7 y8 y9 y10) (Z10.j4 (k + 1) y0 y1 y2 y3 y4 y5 y6 y7 y8 y9 y10)) ∧ (∀ y0 y1 y2 y3 y4 y5 y6 y7 y8 y9, LeO (Z10.j5 k y0 y1 y2 y3 y4 y5 y6 y7 y8 y9) (Z10.j5 (k + 1) y0 y1 y2 y3 y4 y5 y6 y7 y8 y9)) ∧ (∀ y0 y1 y2 y3 y4 y5 y6 y7 y8 y9 y10, LeO (Z10.j6 k y0 y1 y2 y3 y4 y5 y6 y7 y8 y9 y10) (Z10.j6 (k + 1) y0 y1 y2 y3 y4 y5 y6 y7 y8 y9 y10)) ∧ (∀ y0 y1 y2 y3 y4 y5 y6 y7 y8 y9, LeO (Z10.j7 k y0 y1 y2 y3 y4 y5 y6 y7 y8 y9) (Z10.j7 (k + 1) y0 y1 y2 y3 y4 y5 y6 y7 y8 y9))
 | 0 => ⟨fun _ _ _ _ _ _ _ _ _ _ _ r h => by simp [Z10.j0] at h, fun _ _ _ _ _ _ _ _ _ r h => by simp [Z10.j1] at h, fun _ _ _ _ _ _ _ _ _ _ _ _ r h => by simp [Z10.l0] at h, fun _ _ _ _ _ _ _ _ _ _ _ _ _ r h => by simp [Z10.j3] at h, fun _ _ _ _ _ _ _ _ _ _ _ r h => by simp [Z10.j4] at h, fun _ _ _ _ _ _ _ _ _ _ r h => by simp [Z10.j5] at h, fun _ _ _ _ _ _ _ _ _ _ _ r h => by simp [Z10.j6] at h, fun _ _ _ _ _ _ _ _ _ _ r h => by simp [Z10.j7] at h⟩
 | k + 1 => by
  obtain ⟨ih0, ih1, ih2, ih3, ih4, ih5, ih6, ih7⟩ := Z10.mono_l k
  refine ⟨?_, ?_, ?_, ?_, ?_, ?_, ?_, ?_⟩
  · intro y0 y1 y2 y3 y4 y5 y6 y7 y8 y9 y10
    unfold Z10.j0
    repeat' first
    | (with_reducible exact ih0 _ _ _ _ _ _ _ _ _ _ _)
    | (with_reducible exact ih1 _ _ _ _ _ _ _ _ _)
    | (with_reducible exact ih2 _ _ _ _ _ _ _ _ _ _ _ _)
    | (with_reducible exact ih3 _ _ _ _ _ _ _ _ _ _ _ _ _)
    | (with_reducible exact ih4 _ _ _ _ _ _ _ _ _ _ _)
    | (with_reducible exact ih5 _ _ _ _ _ _ _ _ _ _)
    | (with_reducible exact ih6 _ _ _ _ _ _ _ _ _ _ _)
    | (with_reducible exact ih7 _ _ _ _ _ _ _ _ _ _)
    | (with_reducible exact Z26.mono _ _)
    | (with_reducible exact LeO.refl _)
    | (with_reducible exact LeO.none _)
    | (with_reducible refine LeO.ite ?_ ?_)
    | (with_reducible refine LeO.bind ?_ (fun _ => ?_))
    | exact ih0 _ _ _ _ _ _ _ _ _ _ _
    | exact ih1 _ _ _ _ _ _ _ _ _
    | exact ih2 _ _ _ _ _ _ _ _ _ _ _ _
    | exact ih3 _ _ _ _ _ _ _ _ _ _ _ _ _
    | exact ih4 _ _ _ _ _ _ _ _ _ _ _
    | exact ih5 _ _ _ _ _ _ _ _ _ _
    | exact ih6 _ _ _ _ _ _ _ _ _ _ _
    | exact ih7 _ _ _ _ _ _ _ _ _ _
    | exact Z26.mono _ _
    | exact LeO.none _
    | refine LeO.ite ?_ ?_
    | refine LeO.bind ?_ (fun _ => ?_)
  · intro y0 y1 y2 y3 y4 y5 y6 y7 y8
    unfold Z10.j1
    repeat' first
    | (with_reducible exact ih0 _ _ _ _ _ _ _ _ _ _ _)
    | (with_reducible exact ih1 _ _ _ _ _ _ _ _ _)
    | (with_reducible exact ih2 _ _ _ _ _ _ _ _ _ _ _ _)
    | (with_reducible exact ih3 _ _ _ _ _ _ _ _ _ _ _ _ _)
    | (with_reducible exact ih4 _ _ _ _ _ _ _ _ _ _ _)
    | (with_reducible exact ih5 _ _ _ _ _ _ _ _ _ _)
    | (with_reducible exact ih6 _ _ _ _ _ _ _ _ _ _ _)
    | (with_reducible exact ih7 _ _ _ _ _ _ _ _ _ _)
    | (with_reducible exact Z26.mono _ _)
    | (with_reducible exact LeO.refl _)
    | (with_reducible exact LeO.none _)
    | (with_reducible refine LeO.ite ?_ ?_)
    | (with_reducible refine LeO.bind ?_ (fun _ => ?_))
    | exact ih0 _ _ _ _ _ _ _ _ _ _ _
    | exact ih1 _ _ _ _ _ _ _ _ _
    | exact ih2 _ _ _ _ _ _ _ _ _ _ _ _
    | exact ih3 _ _ _ _ _ _ _ _ _ _ _ _ _
    | exact ih4 _ _ _ _ _ _ _ _ _ _ _
    | exact ih5 _ _ _ _ _ _ _ _ _ _
    | exact ih6 _ _ _ _ _ _ _ _ _ _ _
    | exact ih7 _ _ _ _ _ _ _ _ _ _
    | exact Z26.mono _ _
    | exact LeO.none _
    | refine LeO.ite ?_ ?_
    | refine LeO.bind ?_ (fun _ => ?_)
  · intro y0 y1 y2 y3 y4 y5 y6 y7 y8 y9 y10 y11
    unfold Z10.l0
    repeat' first
    | (with_reducible exact ih0 _ _ _ _ _ _ _ _ _ _ _)
    | (with_reducible exact ih1 _ _ _ _ _ _ _ _ _)
    | (with_reducible exact ih2 _ _ _ _ _ _ _ _ _ _ _ _)
    | (with_reducible exact ih3 _ _ _ _ _ _ _ _ _ _ _ _ _)
    | (with_reducible exact ih4 _ _ _ _ _ _ _ _ _ _ _)
    | (with_reducible exact ih5 _ _ _ _ _ _ _ _ _ _)
    | (with_reducible exact ih6 _ _ _ _ _ _ _ _ _ _ _)
    | (with_reducible exact ih7 _ _ _ _ _ _ _ _ _ _)
    | (with_reducible exact Z26.mono _ _)
    | (with_reducible exact LeO.refl _)
    | (with_reducible exact LeO.none _)
    | (with_reducible refine LeO.ite ?_ ?_)
    | (with_reducible refine LeO.bind ?_ (fun _ => ?_))
    | exact ih0 _ _ _ _ _ _ _ _ _ _ _
    | exact ih1 _ _ _ _ _ _ _ _ _
    | exact ih2 _ _ _ _ _ _ _ _ _ _ _ _
    | exact ih3 _ _ _ _ _ _ _ _ _ _ _ _ _
    | exact ih4 _ _ _ _ _ _ _ _ _ _ _
    | exact ih5 _ _ _ _ _ _ _ _ _ _
    | exact ih6 _ _ _ _ _ _ _ _ _ _ _
    | exact ih7 _ _ _ _ _ _ _ _ _ _
    | exact Z26.mono _ _
    | exact LeO.none _
    | refine LeO.ite ?_ ?_
    | refine LeO.bind ?_ (fun _ => ?_)
  · intro y0 y1 y2 y3 y4 y5 y6 y7 y8 y9 y10 y11 y12
    unfold Z10.j3
    repeat' first
    | (with_reducible exact ih0 _ _ _ _ _ _ _ _ _ _ _)
    | (with_reducible exact ih1 _ _ _ _ _ _ _ _ _)
    | (with_reducible exact ih2 _ _ _ _ _ _ _ _ _ _ _ _)
    | (with_reducible exact ih3 _ _ _ _ _ _ _ _ _ _ _ _ _)
    | (with_reducible exact ih4 _ _ _ _ _ _ _ _ _ _ _)
    | (with_reducible exact ih5 _ _ _ _ _ _ _ _ _ _)
    | (with_reducible exact ih6 _ _ _ _ _ _ _ _ _ _ _)
    | (with_reducible exact ih7 _ _ _ _ _ _ _ _ _ _)
    | (with_reducible exact Z26.mono _ _)
    | (with_reducible exact LeO.refl _)
    | (with_reducible exact LeO.none _)
    | (with_reducible refine LeO.ite ?_ ?_)
    | (with_reducible refine LeO.bind ?_ (fun _ => ?_))
    | exact ih0 _ _ _ _ _ _ _ _ _ _ _
    | exact ih1 _ _ _ _ _ _ _ _ _
    | exact ih2 _ _ _ _ _ _ _ _ _ _ _ _
    | exact ih3 _ _ _ _ _ _ _ _ _ _ _ _ _
    | exact ih4 _ _ _ _ _ _ _ _ _ _ _
    | exact ih5 _ _ _ _ _ _ _ _ _ _
    | exact ih6 _ _ _ _ _ _ _ _ _ _ _
    | exact ih7 _ _ _ _ _ _ _ _ _ _
    | exact Z26.mono _ _
    | exact LeO.none _
    | refine LeO.ite ?_ ?_
    | refine LeO.bind ?_ (fun _ => ?_)
  · intro y0 y1 y2 y3 y4 y5 y6 y7 y8 y9 y10
    unfold Z10.j4
    repeat' first
    | (with_reducible exact ih0 _ _ _ _ _ _ _ _ _ _ _)
    | (with_reducible exact ih1 _ _ _ _ _ _ _ _ _)
    | (with_reducible exact ih2 _ _ _ _ _ _ _ _ _ _ _ _)
    | (with_reducible exact ih3 _ _ _ _ _ _ _ _ _ _ _ _ _)
    | (with_reducible exact ih4 _ _ _ _ _ _ _ _ _ _ _)
    | (with_reducible exact ih5 _ _ _ _ _ _ _ _ _ _)
    | (with_reducible exact ih6 _ _ _ _ _ _ _ _ _ _ _)
    | (with_reducible exact ih7 _ _ _ _ _ _ _ _ _ _)
    | (with_reducible exact Z26.mono _ _)
    | (with_reducible exact LeO.refl _)
    | (with_reducible exact LeO.none _)
    | (with_reducible refine LeO.ite ?_ ?_)
    | (with_reducible refine LeO.bind ?_ (fun _ => ?_))
    | exact ih0 _ _ _ _ _ _ _ _ _ _ _
    | exact ih1 _ _ _ _ _ _ _ _ _
    | exact ih2 _ _ _ _ _ _ _ _ _ _ _ _
    | exact ih3 _ _ _ _ _ _ _ _ _ _ _ _ _
    | exact ih4 _ _ _ _ _ _ _ _ _ _ _
    | exact ih5 _ _ _ _ _ _ _ _ _ _
    | exact ih6 _ _ _ _ _ _ _ _ _ _ _
    | exact ih7 _ _ _ _ _ _ _ _ _ _
    | exact Z26.mono _ _
    | exact LeO.none _
    | refine LeO.ite ?_ ?_
    | refine LeO.bind ?_ (fun _ => ?_)
  · intro y0 y1 y2 y3 y4 y5 y6 y7 y8 y9
    unfold Z10.j5
    repeat' first
    | (with_reducible exact ih0 _ _ _ _ _ _ _ _ _ _ _)
    | (with_reducible exact ih1 _ _ _ _ _ _ _ _ _)
    | (with_reducible exact ih2 _ _ _ _ _ _ _ _ _ _ _ _)
    | (with_reducible exact ih3 _ _ _ _ _ _ _ _ _ _ _ _ _)
    | (with_reducible exact ih4 _ _ _ _ _ _ _ _ _ _ _)
    | (with_reducible exact ih5 _ _ _ _ _ _ _ _ _ _)
    | (with_reducible exact ih6 _ _ _ _ _ _ _ _ _ _ _)
    | (with_reducible exact ih7 _ _ _ _ _ _ _ _ _ _)
    | (with_reducible exact Z26.mono _ _)
    | (with_reducible exact LeO.refl _)
    | (with_reducible exact LeO.none _)
    | (with_reducible refine LeO.ite ?_ ?_)
    | (with_reducible refine LeO.bind ?_ (fun _ => ?_))
    | exact ih0 _ _ _ _ _ _ _ _ _ _ _
    | exact ih1 _ _ _ _ _ _ _ _ _
    | exact ih2 _ _ _ _ _ _ _ _ _ _ _ _
    | exact ih3 _ _ _ _ _ _ _ _ _ _ _ _ _
    | exact ih4 _ _ _ _ _ _ _ _ _ _ _
    | exact ih5 _ _ _ _ _ _ _ _ _ _
    | exact ih6 _ _ _ _ _ _ _ _ _ _ _
    | exact ih7 _ _ _ _ _ _ _ _ _ _
    | exact Z26.mono _ _
    | exact LeO.none _
    | refine LeO.ite ?_ ?_
    | refine LeO.bind ?_ (fun _ => ?_)
  · intro y0 y1 y2 y3 y4 y5 y6 y7 y8 y9 y10
    unfold Z10.j6
    repeat' first
    | (with_reducible exact ih0 _ _ _ _ _ _ _ _ _ _ _)
    | (with_reducible exact ih1 _ _ _ _ _ _ _ _ _)
    | (with_reducible exact ih2 _ _ _ _ _ _ _ _ _ _ _ _)
    | (with_reducible exact ih3 _ _ _ _ _ _ _ _ _ _ _ _ _)
    | (with_reducible exact ih4 _ _ _ _ _ _ _ _ _ _ _)
    | (with_reducible exact ih5 _ _ _ _ _ _ _ _ _ _)
    | (with_reducible exact ih6 _ _ _ _ _ _ _ _ _ _ _)
    | (with_reducible exact ih7 _ _ _ _ _ _ _ _ _ _)
    | (with_reducible exact Z26.mono _ _)
    | (with_reducible exact LeO.refl _)
    | (with_reducible exact LeO.none _)
    | (with_reducible refine LeO.ite ?_ ?_)
    | (with_reducible refine LeO.bind ?_ (fun _ => ?_))
    | exact ih0 _ _ _ _ _ _ _ _ _ _ _
    | exact ih1 _ _ _ _ _ _ _ _ _
    | exact ih2 _ _ _ _ _ _ _ _ _ _ _ _
    | exact ih3 _ _ _ _ _ _ _ _ _ _ _ _ _
    | exact ih4 _ _ _ _ _ _ _ _ _ _ _
    | exact ih5 _ _ _ _ _ _ _ _ _ _
    | exact ih6 _ _ _ _ _ _ _ _ _ _ _
    | exact ih7 _ _ _ _ _ _ _ _ _ _
    | exact Z26.mono _ _
    | exact LeO.none _
    | refine LeO.ite ?_ ?_
    | refine LeO.bind ?_ (fun _ => ?_)
  · intro y0 y1 y2 y3 y4 y5 y6 y7 y8 y9
    unfold Z10.j7
    repeat' first
    | (with_reducible exact ih0 _ _ _ _ _ _ _ _ _ _ _)
    | (with_reducible exact ih1 _ _ _ _ _ _ _ _ _)
    | (with_reducible exact ih2 _ _ _ _ _ _ _ _ _ _ _ _)
    | (with_reducible exact ih3 _ _ _ _ _ _ _ _ _ _ _ _ _)
    | (with_reducible exact ih4 _ _ _ _ _ _ _ _ _ _ _)
    | (with_reducible exact ih5 _ _ _ _ _ _ _ _ _ _)
    | (with_reducible exact ih6 _ _ _ _ _ _ _ _ _ _ _)
    | (with_reducible exact ih7 _ _ _ _ _ _ _ _ _ _)
    | (with_reducible exact Z26.mono _ _)
    | (with_reducible exact LeO.refl _)
    | (with_reducible exact LeO.none _)
    | (with_reducible refine LeO.ite ?_ ?_)
    | (with_reducible refine LeO.bind ?_ (fun _ => ?_))
    | exact ih0 _ _ _ _ _ _ _ _ _ _ _
    | exact ih1 _ _ _ _ _ _ _ _ _
    | exact ih2 _ _ _ _ _ _ _ _ _ _ _ _
    | exact ih3 _ _ _ _ _ _ _ _ _ _ _ _ _
    | exact ih4 _ _ _ _ _ _ _ _ _ _ _
    | exact ih5 _ _ _ _ _ _ _ _ _ _
    | exact ih6 _ _ _ _ _ _ _ _ _ _ _
    | exact ih7 _ _ _ _ _ _ _ _ _ _
    | exact Z26.mono _ _
    | exact LeO.none _
    | refine LeO.ite ?_ ?_
    | refine LeO.bind ?_ (fun _ => ?_)
theorem Z10.mono : ∀ a0 a1 k, LeO (Z10.f k a0 a1) (Z10.f (k + 1) a0 a1) := by
 intro a0 a1 k
 obtain ⟨ih0, ih1, ih2, ih3, ih4, ih5, ih6, ih7⟩ := Z10.mono_l k
 unfold Z10.f
 repeat' first
  | (with_reducible exact ih0 _ _ _ _ _ _ _ _ _ _ _)
  | (with_reducible exact ih1 _ _ _ _ _ _ _ _ _)
  | (with_reducible exact ih2 _ _ _ _ _ _ _ _ _ _ _ _)
  | (with_reducible exact ih3 _ _ _ _ _ _ _ _ _ _ _ _ _)
  | (with_reducible exact ih4 _ _ _ _ _ _ _ _ _ _ _)
  | (with_reducible exact ih5 _ _ _ _ _ _ _ _ _ _)
  | (with_reducible exact ih6 _ _ _ _ _ _ _ _ _ _ _)
  | (with_reducible exact ih7 _ _ _ _ _ _ _ _ _ _)
  | (with_reducible exact Z26.mono _ _)
  | (with_reducible exact LeO.refl _)
  | (with_reducible exact LeO.none _)
  | (with_reducible refine LeO.ite ?_ ?_)
  | (with_reducible refine LeO.bind ?_ (fun _ => ?_))
  | exact ih0 _ _ _ _ _ _ _ _ _ _ _
  | exact ih1 _ _ _ _ _ _ _ _ _
  | exact ih2 _ _ _ _ _ _ _ _ _ _ _ _
  | exact ih3 _ _ _ _ _ _ _ _ _ _ _ _ _
  | exact ih4 _ _ _ _ _ _ _ _ _ _ _
  | exact ih5 _ _ _ _ _ _ _ _ _ _
  | exact ih6 _ _ _ _ _ _ _ _ _ _ _
  | exact ih7 _ _ _ _ _ _ _ _ _ _
  | exact Z26.mono _ _
  | exact LeO.none _
  | refine LeO.ite ?_ ?_
  | refine LeO.bind ?_ (fun _ => ?_)
set_option maxHeartbeats 8000000 in
set_option maxRecDepth 100000 in
theorem Z10.calls (k : Nat) (a0 : ByteArray) (a1 : Int) (r1 : Int) (r2 : ByteArray) (r3 : Int) (r4 : Bool) (r5 : Int) (r6 : Int) (r7 : Bool) (w : World) (h : Z10.f k a0 a1 = some (r1, r2, r3, r4, r5, r6, r7)) :
 Calls Tryd.prog 39 #[.string a0, .int .i64 a1] w fun e w' => e = .returned (.tuple #[.agg #[.int .i64 r1, .string r2, .int .u32 r3, .bool r4, .int .i64 r5, .int .i64 r6], .bool r7]) ∧ Below w.heap.size w w' := by
 have hu24 := Tryd.underlying24
 have HB := Aside0.mk (Below.refl w.heap.size w)
 have H : ((Z45.f a0 a1 (⟨#[48, 120]⟩ : ByteArray)).bind fun t185 => (if t185 = true then (Z10.j0 k a0 a1 10 a1 true 5 (⟨#[]⟩ : ByteArray) 0 false a1 0) else ((Z45.f a0 a1 (⟨#[48, 88]⟩ : ByteArray)).bind fun t186 => (Z10.j0 k a0 a1 10 a1 t186 5 (⟨#[]⟩ : ByteArray) 0 false a1 0)))) = some (r1, r2, r3, r4, r5, r6, r7) := h
 clear h
 have HC3 := Aside0.mk H
 clear H
 go_enter Tryd.func39, Tryd.ntmps39
 go_upto_region 4 with (first | ((with_reducible refine Z52 (N := 4) rfl ?_); refine Z51 ?hg (N := 4) ?hd (cs := #[.int .i64 0, .string (⟨#[]⟩ : ByteArray), .int .u32 0, .bool false, .int .i64 0, .int .i64 0]) (t := 24) ?hr ?_; (case hd => rfl); (case hg => rfl); (case hr => first | (go_simp; done) | (go_simp; rfl)); intro gb183 hg w4 hbox hb; have n0_ := Aside0.mk (Z25 (by repeat (first | (with_reducible first | exact HB.out | apply Z7 | apply Z4 | apply Z6) | exact HB.out)) hb); have n1_ := Aside0.mk (hbox); have n2_ := Aside0.mk ((by rw [hg]; exact (Z27 (by repeat (first | (with_reducible first | exact HB.out | apply Z7 | apply Z4 | apply Z6) | exact HB.out))) : w.heap.size ≤ gb183)); have n3_ := Aside0.mk ((by rw [hg]; exact (Z27 (by repeat (first | (with_reducible first | exact HB.out | apply Z7 | apply Z4 | apply Z6) | exact HB.out))) : w.heap.size ≤ gb183)); clear HB; have HB := n0_; have BK183 := n1_; have GW183 := n2_; have GE183 := n3_; clear n0_ n1_ n2_ n3_; clear hb hbox hg) | ((with_reducible refine Z52 (N := 6) rfl ?_); refine Z51 ?hg (N := 6) ?hd (cs := #[.int .i64 0, .string (⟨#[]⟩ : ByteArray), .int .u32 0, .bool false, .int .i64 0, .int .i64 0]) (t := 24) ?hr ?_; (case hd => rfl); (case hg => rfl); (case hr => first | (go_simp; done) | (go_simp; rfl)); intro gb184 hg w5 hbox hb; have n0_ := Aside0.mk (Z40 (g := gb183) (o := .cells #[.int .i64 0, .string (⟨#[]⟩ : ByteArray), .int .u32 0, .bool false, .int .i64 0, .int .i64 0] 24 (0, 0)) (by (with_reducible repeat (first | refine Z0 ?_ _ | refine Z3 ?_ | refine Z1 ?_ _)); exact BK183.out) hb); have n1_ := Aside0.mk (Z25 (by repeat (first | (with_reducible first | exact HB.out | apply Z7 | apply Z4 | apply Z6 | refine Z8 ?_ GE183.out) | exact HB.out)) hb); have n2_ := Aside0.mk (hbox); have n3_ := Aside0.mk ((by rw [hg]; exact (Z27 (by repeat (first | (with_reducible first | exact HB.out | apply Z7 | apply Z4 | apply Z6 | refine Z8 ?_ GE183.out) | exact HB.out))) : w.heap.size ≤ gb184)); have n4_ := Aside0.mk ((by rw [hg]; exact (Z27 (by repeat (first | (with_reducible first | exact HB.out | apply Z7 | apply Z4 | apply Z6 | refine Z8 ?_ GE183.out) | exact HB.out))) : w.heap.size ≤ gb184)); have n5_ := Aside0.mk ((by rw [hg]; exact Nat.ne_of_lt (blk_lt (g := gb183) (o := .cells #[.int .i64 0, .string (⟨#[]⟩ : ByteArray), .int .u32 0, .bool false, .int .i64 0, .int .i64 0] 24 (0, 0)) (by (with_reducible repeat (first | refine Z0 ?_ _ | refine Z3 ?_ | refine Z1 ?_ _)); exact BK183.out)) : gb183 ≠ gb184)); have n6_ := Aside0.mk ((by rw [hg]; exact Nat.ne_of_gt (blk_lt (g := gb183) (o := .cells #[.int .i64 0, .string (⟨#[]⟩ : ByteArray), .int .u32 0, .bool false, .int .i64 0, .int .i64 0] 24 (0, 0)) (by (with_reducible repeat (first | refine Z0 ?_ _ | refine Z3 ?_ | refine Z1 ?_ _)); exact BK183.out)) : gb184 ≠ gb183)); clear BK183; clear HB; have BK183 := n0_; have HB := n1_; have BK184 := n2_; have GW184 := n3_; have GE184 := n4_; have NB183_184 := n5_; have NB184_183 := n6_; clear n0_ n1_ n2_ n3_ n4_ n5_ n6_; clear hb hbox hg; have hnb6 := NB184_183.out; have hnc6 := NB183_184.out; have hcz7_0 : w5.cell? ⟨gb184, 0, none⟩ = some (.int .i64 0) := (Z5 BK184.out 0).trans rfl; have hcz7_1 : w5.cell? ⟨gb184, 1, none⟩ = some (.string (⟨#[]⟩ : ByteArray)) := (Z5 BK184.out 1).trans rfl; have hcz7_2 : w5.cell? ⟨gb184, 2, none⟩ = some (.int .u32 0) := (Z5 BK184.out 2).trans rfl; have hcz7_3 : w5.cell? ⟨gb184, 3, none⟩ = some (.bool false) := (Z5 BK184.out 3).trans rfl; have hcz7_4 : w5.cell? ⟨gb184, 4, none⟩ = some (.int .i64 0) := (Z5 BK184.out 4).trans rfl; have hcz7_5 : w5.cell? ⟨gb184, 5, none⟩ = some (.int .i64 0) := (Z5 BK184.out 5).trans rfl; have hfz7_0 := Z2 BK184.out 0; have hfz7_1 := Z2 BK184.out 1; have hfz7_2 := Z2 BK184.out 2; have hfz7_3 := Z2 BK184.out 3; have hfz7_4 := Z2 BK184.out 4; have hfz7_5 := Z2 BK184.out 5))
 (try simp only [Act.put, List.setIfInBounds_toArray, List.set_cons_zero, List.set_cons_succ])
 go_cut [22] (fun v22 wc => ∃ (kq : Nat) (x22_2 : Bool), v22 = .bool x22_2 ∧ Aside0 (Z10.j0 kq a0 a1 10 a1 x22_2 5 (⟨#[]⟩ : ByteArray) 0 false a1 0 = some (r1, r2, r3, r4, r5, r6, r7)) ∧ Aside0 (kq ≤ k) ∧ Aside0 (wc.heap[gb183]? = some (.cells #[.int .i64 0, .string (⟨#[]⟩ : ByteArray), .int .u32 0, .bool false, .int .i64 0, .int .i64 0] 24 (0, 0))) ∧ Aside0 (wc.heap[gb184]? = some (.cells #[.int .i64 5, .string (⟨#[]⟩ : ByteArray), .int .u32 0, .bool false, .int .i64 a1, .int .i64 0] 24 (0, 0))) ∧ Aside0 (Below w.heap.size w wc))
 case first =>
  have H := HC3.out
  clear HC3
  replace H := Option.bind_eq_some_iff.mp H
  obtain ⟨t185, A80, H⟩ := H
  replace H : (if t185 = true then (Z10.j0 k a0 a1 10 a1 true 5 (⟨#[]⟩ : ByteArray) 0 false a1 0) else ((Z45.f a0 a1 (⟨#[48, 88]⟩ : ByteArray)).bind fun t186 => (Z10.j0 k a0 a1 10 a1 t186 5 (⟨#[]⟩ : ByteArray) 0 false a1 0))) = some (r1, r2, r3, r4, r5, r6, r7) := H
  have A8 := Aside0.mk A80
  clear A80
  by_cases c9 : t185 = true
  · subst c9
    have H1 : (Z10.j0 k a0 a1 10 a1 true 5 (⟨#[]⟩ : ByteArray) 0 false a1 0) = some (r1, r2, r3, r4, r5, r6, r7) := by rw [if_pos rfl] at H; exact H
    clear H
    have H := H1
    clear H1
    have H' := Aside0.mk H
    clear H
    go_wp2_with (first | ((with_reducible refine Z14 (f := 38) rfl ?_); refine goesL_ (some 17) rfl rfl Tryd.func38 (by kernel_rfl) rfl #[.string a0, .int .i64 a1, .string (⟨#[48, 120]⟩ : ByteArray)] rfl (by (try simp only [List.map_toArray, List.map_cons, List.map_nil]); first | done | rfl | (simp only [List.length_drop, List.length_take]; rfl)) ?_; (with_reducible refine (Z45.calls a0 a1 (⟨#[48, 120]⟩ : ByteArray) true _ A8.out).mono ?_); rintro e w' ⟨rfl, ⟨nd, rfl⟩⟩; refine ⟨_, rfl, ?_⟩))
    go_meet
    case rel => exact ⟨_, (true), (by first | rfl | (simp; done) | (simp [*]; done)), H', ⟨by first | omega | exact Nat.le_refl _⟩, ⟨by (with_reducible repeat (first | refine Z0 ?_ _ | refine Z3 ?_ | refine Z1 ?_ _)); refine Z22 ?_ NB183_184.out _; (with_reducible repeat (first | refine Z0 ?_ _ | refine Z3 ?_ | refine Z1 ?_ _)); refine Z22 ?_ NB183_184.out _; (with_reducible repeat (first | refine Z0 ?_ _ | refine Z3 ?_ | refine Z1 ?_ _)); refine Z22 ?_ NB183_184.out _; (with_reducible repeat (first | refine Z0 ?_ _ | refine Z3 ?_ | refine Z1 ?_ _)); refine Z22 ?_ NB183_184.out _; (with_reducible repeat (first | refine Z0 ?_ _ | refine Z3 ?_ | refine Z1 ?_ _)); refine Z22 ?_ NB183_184.out _; (with_reducible repeat (first | refine Z0 ?_ _ | refine Z3 ?_ | refine Z1 ?_ _)); refine Z22 ?_ NB183_184.out _; (with_reducible repeat (first | refine Z0 ?_ _ | refine Z3 ?_ | refine Z1 ?_ _)); exact BK183.out⟩, ⟨by (with_reducible repeat (first | refine Z0 ?_ _ | refine Z3 ?_ | refine Z1 ?_ _)); refine Z9 (cs := #[.int .i64 5, .string (⟨#[]⟩ : ByteArray), .int .u32 0, .bool false, .int .i64 a1, .int .i64 0]) ?_ 5 _ rfl; (with_reducible repeat (first | refine Z0 ?_ _ | refine Z3 ?_ | refine Z1 ?_ _)); refine Z9 (cs := #[.int .i64 5, .string (⟨#[]⟩ : ByteArray), .int .u32 0, .bool false, .int .i64 0, .int .i64 0]) ?_ 4 _ rfl; (with_reducible repeat (first | refine Z0 ?_ _ | refine Z3 ?_ | refine Z1 ?_ _)); refine Z9 (cs := #[.int .i64 5, .string (⟨#[]⟩ : ByteArray), .int .u32 0, .bool false, .int .i64 0, .int .i64 0]) ?_ 3 _ rfl; (with_reducible repeat (first | refine Z0 ?_ _ | refine Z3 ?_ | refine Z1 ?_ _)); refine Z9 (cs := #[.int .i64 5, .string (⟨#[]⟩ : ByteArray), .int .u32 0, .bool false, .int .i64 0, .int .i64 0]) ?_ 2 _ rfl; (with_reducible repeat (first | refine Z0 ?_ _ | refine Z3 ?_ | refine Z1 ?_ _)); refine Z9 (cs := #[.int .i64 5, .string (⟨#[]⟩ : ByteArray), .int .u32 0, .bool false, .int .i64 0, .int .i64 0]) ?_ 1 _ rfl; (with_reducible repeat (first | refine Z0 ?_ _ | refine Z3 ?_ | refine Z1 ?_ _)); refine Z9 (cs := #[.int .i64 0, .string (⟨#[]⟩ : ByteArray), .int .u32 0, .bool false, .int .i64 0, .int .i64 0]) ?_ 0 _ rfl; (with_reducible repeat (first | refine Z0 ?_ _ | refine Z3 ?_ | refine Z1 ?_ _)); exact BK184.out⟩, ⟨by repeat (first | (with_reducible first | exact HB.out | apply Z7 | apply Z4 | apply Z6 | refine Z8 ?_ GE183.out | refine Z8 ?_ GE184.out) | exact HB.out)⟩⟩
  · replace c9 := Bool.eq_false_iff.mpr c9
    subst c9
    have H1 : ((Z45.f a0 a1 (⟨#[48, 88]⟩ : ByteArray)).bind fun t186 => (Z10.j0 k a0 a1 10 a1 t186 5 (⟨#[]⟩ : ByteArray) 0 false a1 0)) = some (r1, r2, r3, r4, r5, r6, r7) := by rw [if_neg (show ¬ (false = true) by decide)] at H; exact H
    clear H
    have H := H1
    clear H1
    replace H := Option.bind_eq_some_iff.mp H
    obtain ⟨t186, A100, H⟩ := H
    replace H : (Z10.j0 k a0 a1 10 a1 t186 5 (⟨#[]⟩ : ByteArray) 0 false a1 0) = some (r1, r2, r3, r4, r5, r6, r7) := H
    have A10 := Aside0.mk A100
    clear A100
    have H' := Aside0.mk H
    clear H
    go_wp2_with (first | ((with_reducible refine Z14 (f := 38) rfl ?_); refine goesL_ (some 17) rfl rfl Tryd.func38 (by kernel_rfl) rfl #[.string a0, .int .i64 a1, .string (⟨#[48, 120]⟩ : ByteArray)] rfl (by (try simp only [List.map_toArray, List.map_cons, List.map_nil]); first | done | rfl | (simp only [List.length_drop, List.length_take]; rfl)) ?_; (with_reducible refine (Z45.calls a0 a1 (⟨#[48, 120]⟩ : ByteArray) false _ A8.out).mono ?_); rintro e w' ⟨rfl, ⟨nd, rfl⟩⟩; refine ⟨_, rfl, ?_⟩) | (go_at_call 38; (with_reducible refine (Z45.calls a0 a1 (⟨#[48, 88]⟩ : ByteArray) t186 _ A10.out).mono ?_); rintro e w' ⟨rfl, ⟨nd, rfl⟩⟩))
    go_meet
    case rel => exact ⟨_, (t186), (by first | rfl | (simp; done) | (simp [*]; done)), H', ⟨by first | omega | exact Nat.le_refl _⟩, ⟨by (with_reducible repeat (first | refine Z0 ?_ _ | refine Z3 ?_ | refine Z1 ?_ _)); refine Z22 ?_ NB183_184.out _; (with_reducible repeat (first | refine Z0 ?_ _ | refine Z3 ?_ | refine Z1 ?_ _)); refine Z22 ?_ NB183_184.out _; (with_reducible repeat (first | refine Z0 ?_ _ | refine Z3 ?_ | refine Z1 ?_ _)); refine Z22 ?_ NB183_184.out _; (with_reducible repeat (first | refine Z0 ?_ _ | refine Z3 ?_ | refine Z1 ?_ _)); refine Z22 ?_ NB183_184.out _; (with_reducible repeat (first | refine Z0 ?_ _ | refine Z3 ?_ | refine Z1 ?_ _)); refine Z22 ?_ NB183_184.out _; (with_reducible repeat (first | refine Z0 ?_ _ | refine Z3 ?_ | refine Z1 ?_ _)); refine Z22 ?_ NB183_184.out _; (with_reducible repeat (first | refine Z0 ?_ _ | refine Z3 ?_ | refine Z1 ?_ _)); exact BK183.out⟩, ⟨by (with_reducible repeat (first | refine Z0 ?_ _ | refine Z3 ?_ | refine Z1 ?_ _)); refine Z9 (cs := #[.int .i64 5, .string (⟨#[]⟩ : ByteArray), .int .u32 0, .bool false, .int .i64 a1, .int .i64 0]) ?_ 5 _ rfl; (with_reducible repeat (first | refine Z0 ?_ _ | refine Z3 ?_ | refine Z1 ?_ _)); refine Z9 (cs := #[.int .i64 5, .string (⟨#[]⟩ : ByteArray), .int .u32 0, .bool false, .int .i64 0, .int .i64 0]) ?_ 4 _ rfl; (with_reducible repeat (first | refine Z0 ?_ _ | refine Z3 ?_ | refine Z1 ?_ _)); refine Z9 (cs := #[.int .i64 5, .string (⟨#[]⟩ : ByteArray), .int .u32 0, .bool false, .int .i64 0, .int .i64 0]) ?_ 3 _ rfl; (with_reducible repeat (first | refine Z0 ?_ _ | refine Z3 ?_ | refine Z1 ?_ _)); refine Z9 (cs := #[.int .i64 5, .string (⟨#[]⟩ : ByteArray), .int .u32 0, .bool false, .int .i64 0, .int .i64 0]) ?_ 2 _ rfl; (with_reducible repeat (first | refine Z0 ?_ _ | refine Z3 ?_ | refine Z1 ?_ _)); refine Z9 (cs := #[.int .i64 5, .string (⟨#[]⟩ : ByteArray), .int .u32 0, .bool false, .int .i64 0, .int .i64 0]) ?_ 1 _ rfl; (with_reducible repeat (first | refine Z0 ?_ _ | refine Z3 ?_ | refine Z1 ?_ _)); refine Z9 (cs := #[.int .i64 0, .string (⟨#[]⟩ : ByteArray), .int .u32 0, .bool false, .int .i64 0, .int .i64 0]) ?_ 0 _ rfl; (with_reducible repeat (first | refine Z0 ?_ _ | refine Z3 ?_ | refine Z1 ?_ _)); exact BK184.out⟩, ⟨by repeat (first | (with_reducible first | exact HB.out | apply Z7 | apply Z4 | apply Z6 | refine Z8 ?_ GE183.out | refine Z8 ?_ GE184.out) | exact HB.out)⟩⟩
 case rest =>
  clear HC3
  try clear hcz7_0
  try clear hcz7_1
  try clear hcz7_2
  try clear hcz7_3
  try clear hcz7_4
  try clear hcz7_5
  try clear hfz7_0
  try clear hfz7_1
  try clear hfz7_2
  try clear hfz7_3
  try clear hfz7_4
  try clear hfz7_5
  obtain ⟨kq, x22_2, rfl, HA, HJ2, BK183, BK184, HB⟩ := hcut
  cases kq with
  | zero => exact absurd HA.out (by simp [Z10.j0])
  | succ kj2 =>
   have H := HA.out
   clear HA
   simp only [Z10.j0] at H
   have HC11 := Aside0.mk H
   clear H
   go_upto_if 22 with (fail)
   go_cut [7, 8] (fun v7 v8 wc => ∃ (kq : Nat) (x7_10 : Int) (x8_10 : Int), v7 = .int .i64 x7_10 ∧ v8 = .int .i64 x8_10 ∧ Aside0 (Z10.j1 kq a0 x7_10 x8_10 5 (⟨#[]⟩ : ByteArray) 0 false a1 0 = some (r1, r2, r3, r4, r5, r6, r7)) ∧ Aside0 (kq ≤ kj2) ∧ Aside0 (wc.heap[gb183]? = some (.cells #[.int .i64 0, .string (⟨#[]⟩ : ByteArray), .int .u32 0, .bool false, .int .i64 0, .int .i64 0] 24 (0, 0))) ∧ Aside0 (wc.heap[gb184]? = some (.cells #[.int .i64 5, .string (⟨#[]⟩ : ByteArray), .int .u32 0, .bool false, .int .i64 a1, .int .i64 0] 24 (0, 0))) ∧ Aside0 (Below w.heap.size w wc))
   case first =>
    have H := HC11.out
    clear HC11
    by_cases c12 : x22_2 = true
    · subst c12
      have H1 : (Z10.j1 kj2 a0 16 (wrap64 (a1 + 2)) 5 (⟨#[]⟩ : ByteArray) 0 false a1 0) = some (r1, r2, r3, r4, r5, r6, r7) := by rw [if_pos rfl] at H; exact H
      clear H
      have H := H1
      clear H1
      have H' := Aside0.mk H
      clear H
      go_wp2
      go_meet
      case rel => exact ⟨_, (16), (wrap64 (a1 + 2)), (by first | rfl | (simp; done) | (simp [*]; done)), (by first | rfl | (simp; done) | (simp [*]; done)), H', ⟨by have := HJ2.out; first | omega | exact Nat.le_refl _⟩, ⟨by (with_reducible repeat (first | refine Z0 ?_ _ | refine Z3 ?_ | refine Z1 ?_ _)); exact BK183.out⟩, ⟨by (with_reducible repeat (first | refine Z0 ?_ _ | refine Z3 ?_ | refine Z1 ?_ _)); exact BK184.out⟩, ⟨by repeat (first | (with_reducible first | exact HB.out | apply Z7 | apply Z4 | apply Z6 | refine Z8 ?_ GE183.out | refine Z8 ?_ GE184.out) | exact HB.out)⟩⟩
    · replace c12 := Bool.eq_false_iff.mpr c12
      subst c12
      have H1 : (Z10.j1 kj2 a0 10 a1 5 (⟨#[]⟩ : ByteArray) 0 false a1 0) = some (r1, r2, r3, r4, r5, r6, r7) := by rw [if_neg (show ¬ (false = true) by decide)] at H; exact H
      clear H
      have H := H1
      clear H1
      have H' := Aside0.mk H
      clear H
      go_wp2
      go_meet
      case rel => exact ⟨_, (10), (a1), (by first | rfl | (simp; done) | (simp [*]; done)), (by first | rfl | (simp; done) | (simp [*]; done)), H', ⟨by have := HJ2.out; first | omega | exact Nat.le_refl _⟩, ⟨by (with_reducible repeat (first | refine Z0 ?_ _ | refine Z3 ?_ | refine Z1 ?_ _)); exact BK183.out⟩, ⟨by (with_reducible repeat (first | refine Z0 ?_ _ | refine Z3 ?_ | refine Z1 ?_ _)); exact BK184.out⟩, ⟨by repeat (first | (with_reducible first | exact HB.out | apply Z7 | apply Z4 | apply Z6 | refine Z8 ?_ GE183.out | refine Z8 ?_ GE184.out) | exact HB.out)⟩⟩
   case rest =>
    clear HC11
    try clear hcz7_0
    try clear hcz7_1
    try clear hcz7_2
    try clear hcz7_3
    try clear hcz7_4
    try clear hcz7_5
    try clear hfz7_0
    try clear hfz7_1
    try clear hfz7_2
    try clear hfz7_3
    try clear hfz7_4
    try clear hfz7_5
    obtain ⟨kq, x7_10, x8_10, rfl, rfl, HA, HJ10, BK183, BK184, HB⟩ := hcut
    cases kq with
    | zero => exact absurd HA.out (by simp [Z10.j1])
    | succ kj10 =>
     have H := HA.out
     clear HA
     simp only [Z10.j1] at H
     have H' := Aside0.mk H
     clear H
     go_wp2
     go_loopg [8, 10, 11] kj10 (fun kq v8 v10 v11 w' => ∃ (x8_3 : Int) (x10_3 : Int) (x11_3 : Bool), v8 = .int .i64 x8_3 ∧ v10 = .int .u64 x10_3 ∧ v11 = .bool x11_3 ∧ Aside0 (Z10.l0 kq a0 x7_10 x8_3 x8_10 x10_3 x11_3 5 (⟨#[]⟩ : ByteArray) 0 false a1 0 = some (r1, r2, r3, r4, r5, r6, r7)) ∧ Aside0 (kq ≤ kj10) ∧ Aside0 (w'.heap[gb183]? = some (.cells #[.int .i64 0, .string (⟨#[]⟩ : ByteArray), .int .u32 0, .bool false, .int .i64 0, .int .i64 0] 24 (0, 0))) ∧ Aside0 (w'.heap[gb184]? = some (.cells #[.int .i64 5, .string (⟨#[]⟩ : ByteArray), .int .u32 0, .bool false, .int .i64 a1, .int .i64 0] 24 (0, 0))) ∧ Aside0 (Below w.heap.size w w'))
     case atStart => exact ⟨(x8_10), (0), (true), (by first | rfl | (simp; done) | (simp [*]; done)), (by first | rfl | (simp; done) | (simp [*]; done)), (by first | rfl | (simp; done) | (simp [*]; done)), H', ⟨Nat.le_refl _⟩, ⟨by (with_reducible repeat (first | refine Z0 ?_ _ | refine Z3 ?_ | refine Z1 ?_ _)); exact BK183.out⟩, ⟨by (with_reducible repeat (first | refine Z0 ?_ _ | refine Z3 ?_ | refine Z1 ?_ _)); exact BK184.out⟩, ⟨by repeat (first | (with_reducible first | exact HB.out | apply Z7 | apply Z4 | apply Z6 | refine Z8 ?_ GE183.out | refine Z8 ?_ GE184.out) | exact HB.out)⟩⟩
     case round =>
      clear H'
      try clear hcz7_0
      try clear hcz7_1
      try clear hcz7_2
      try clear hcz7_3
      try clear hcz7_4
      try clear hcz7_5
      try clear hfz7_0
      try clear hfz7_1
      try clear hfz7_2
      try clear hfz7_3
      try clear hfz7_4
      try clear hfz7_5
      obtain ⟨x8_3, x10_3, x11_3, rfl, rfl, rfl, HA, HK3, BK183, BK184, HB⟩ := hrel
      cases gk with
      | zero => exact absurd HA.out (by simp [Z10.l0])
      | succ k3 =>
       have H := HA.out
       clear HA
       simp only [Z10.l0] at H
       have HC13 := Aside0.mk H
       clear H
       go_upto_region 10 with (fail)
       go_cut [37] (fun v37 wc => ∃ (kq : Nat) (x37_12 : Bool), v37 = .bool x37_12 ∧ Aside0 (Z10.j3 kq a0 x7_10 x8_3 x8_10 x10_3 x11_3 x37_12 5 (⟨#[]⟩ : ByteArray) 0 false a1 0 = some (r1, r2, r3, r4, r5, r6, r7)) ∧ Aside0 (kq ≤ k3) ∧ Aside0 (wc.heap[gb183]? = some (.cells #[.int .i64 0, .string (⟨#[]⟩ : ByteArray), .int .u32 0, .bool false, .int .i64 0, .int .i64 0] 24 (0, 0))) ∧ Aside0 (wc.heap[gb184]? = some (.cells #[.int .i64 5, .string (⟨#[]⟩ : ByteArray), .int .u32 0, .bool false, .int .i64 a1, .int .i64 0] 24 (0, 0))) ∧ Aside0 (Below w.heap.size w wc))
       case first =>
        have H := HC13.out
        clear HC13
        by_cases c14 : x8_3 < (a0.size : Int)
        · rw [if_pos c14] at H
          have c14b0 : decide (x8_3 < (a0.size : Int)) = true := decide_eq_true c14
          clear c14
          (first | rw [c14b0] | (simp only [i64_w, i32_w]; rw [c14b0]) | skip)
          by_cases c15 : 0 ≤ x8_3
          · rw [if_pos c15] at H
            have c15b0 : decide (0 ≤ x8_3) = true := decide_eq_true c15
            clear c15
            replace H := Option.bind_eq_some_iff.mp H
            obtain ⟨t187, A170, H⟩ := H
            replace H : (Z10.j3 k3 a0 x7_10 x8_3 x8_10 x10_3 x11_3 (decide (t187 < x7_10)) 5 (⟨#[]⟩ : ByteArray) 0 false a1 0) = some (r1, r2, r3, r4, r5, r6, r7) := H
            have A17 := Aside0.mk A170
            clear A170
            have H' := Aside0.mk H
            clear H
            have p16 : 0 ≤ (x8_3 : Int) := of_decide_eq_true (by first | (with_reducible assumption) | assumption)
            have q16 : x8_3 < (a0.size : Int) := of_decide_eq_true (by first | (with_reducible assumption) | assumption)
            have hx16 := bt_at a0 x8_3
            replace p16 := eq_true p16
            replace q16 := eq_true q16
            go_wp2_with (first | (go_at_call 47; (with_reducible refine (Z26.calls k3 (bt a0 x8_3) t187 _ A17.out).mono ?_); rintro e w' ⟨rfl, ⟨nd, rfl⟩⟩))
            go_meet
            case rel => exact ⟨_, (decide (t187 < x7_10)), (by first | rfl | (simp; done) | (simp [*]; done)), H', ⟨by have := HJ2.out; have := HJ10.out; have := HK3.out; first | omega | exact Nat.le_refl _⟩, ⟨by (with_reducible repeat (first | refine Z0 ?_ _ | refine Z3 ?_ | refine Z1 ?_ _)); exact BK183.out⟩, ⟨by (with_reducible repeat (first | refine Z0 ?_ _ | refine Z3 ?_ | refine Z1 ?_ _)); exact BK184.out⟩, ⟨by repeat (first | (with_reducible first | exact HB.out | apply Z7 | apply Z4 | apply Z6 | refine Z8 ?_ GE183.out | refine Z8 ?_ GE184.out) | exact HB.out)⟩⟩
          · rw [if_neg c15] at H
            exact absurd H (by simp)
        · rw [if_neg c14] at H
          have c14b0 : decide (x8_3 < (a0.size : Int)) = false := decide_eq_false c14
          clear c14
          (first | rw [c14b0] | (simp only [i64_w, i32_w]; rw [c14b0]) | skip)
          have H' := Aside0.mk H
          clear H
          go_wp2
          go_meet
          case rel => exact ⟨_, (false), (by first | rfl | (simp; done) | (simp [*]; done)), H', ⟨by have := HJ2.out; have := HJ10.out; have := HK3.out; first | omega | exact Nat.le_refl _⟩, ⟨by (with_reducible repeat (first | refine Z0 ?_ _ | refine Z3 ?_ | refine Z1 ?_ _)); exact BK183.out⟩, ⟨by (with_reducible repeat (first | refine Z0 ?_ _ | refine Z3 ?_ | refine Z1 ?_ _)); exact BK184.out⟩, ⟨by repeat (first | (with_reducible first | exact HB.out | apply Z7 | apply Z4 | apply Z6 | refine Z8 ?_ GE183.out | refine Z8 ?_ GE184.out) | exact HB.out)⟩⟩
       case rest =>
        clear HC13
        try clear hcz7_0
        try clear hcz7_1
        try clear hcz7_2
        try clear hcz7_3
        try clear hcz7_4
        try clear hcz7_5
        try clear hfz7_0
        try clear hfz7_1
        try clear hfz7_2
        try clear hfz7_3
        try clear hfz7_4
        try clear hfz7_5
        obtain ⟨kq, x37_12, rfl, HA, HJ12, BK183, BK184, HB⟩ := hcut
        cases kq with
        | zero => exact absurd HA.out (by simp [Z10.j3])
        | succ kj12 =>
         have H := HA.out
         clear HA
         simp only [Z10.j3] at H
         by_cases c18 : x37_12 = true
         · subst c18
           have H1 : (if 0 ≤ x8_3 then (if x8_3 < (a0.size : Int) then ((Z26.f kj12 (bt a0 x8_3)).bind fun t188 => (if (IntKind.u64.wrap ((IntKind.u64.wrap (x10_3 * (IntKind.u64.wrap (x7_10)))) + (IntKind.u64.wrap (t188)))) ≥ 4294967296 then (Z10.l0 kj12 a0 x7_10 (wrap64 (x8_3 + 1)) x8_10 4294967296 false 5 (⟨#[]⟩ : ByteArray) 0 false a1 0) else (Z10.l0 kj12 a0 x7_10 (wrap64 (x8_3 + 1)) x8_10 (IntKind.u64.wrap ((IntKind.u64.wrap (x10_3 * (IntKind.u64.wrap (x7_10)))) + (IntKind.u64.wrap (t188)))) x11_3 5 (⟨#[]⟩ : ByteArray) 0 false a1 0))) else (none)) else (none)) = some (r1, r2, r3, r4, r5, r6, r7) := by rw [if_pos rfl] at H; exact H
           clear H
           have H := H1
           clear H1
           by_cases c19 : 0 ≤ x8_3
           · rw [if_pos c19] at H
             have c19b0 : decide (0 ≤ x8_3) = true := decide_eq_true c19
             clear c19
             by_cases c20 : x8_3 < (a0.size : Int)
             · rw [if_pos c20] at H
               have c20b0 : decide (x8_3 < (a0.size : Int)) = true := decide_eq_true c20
               clear c20
               replace H := Option.bind_eq_some_iff.mp H
               obtain ⟨t188, A220, H⟩ := H
               replace H : (if (IntKind.u64.wrap ((IntKind.u64.wrap (x10_3 * (IntKind.u64.wrap (x7_10)))) + (IntKind.u64.wrap (t188)))) ≥ 4294967296 then (Z10.l0 kj12 a0 x7_10 (wrap64 (x8_3 + 1)) x8_10 4294967296 false 5 (⟨#[]⟩ : ByteArray) 0 false a1 0) else (Z10.l0 kj12 a0 x7_10 (wrap64 (x8_3 + 1)) x8_10 (IntKind.u64.wrap ((IntKind.u64.wrap (x10_3 * (IntKind.u64.wrap (x7_10)))) + (IntKind.u64.wrap (t188)))) x11_3 5 (⟨#[]⟩ : ByteArray) 0 false a1 0)) = some (r1, r2, r3, r4, r5, r6, r7) := H
               have A22 := Aside0.mk A220
               clear A220
               by_cases c23 : (IntKind.u64.wrap ((IntKind.u64.wrap (x10_3 * (IntKind.u64.wrap (x7_10)))) + (IntKind.u64.wrap (t188)))) ≥ 4294967296
               · rw [if_pos c23] at H
                 have c23b0 : decide (4294967296 ≤ (IntKind.u64.wrap ((IntKind.u64.wrap (x10_3 * (IntKind.u64.wrap (x7_10)))) + (IntKind.u64.wrap (t188))))) = true := decide_eq_true c23
                 clear c23
                 have H' := Aside0.mk H
                 clear H
                 have p21 : 0 ≤ (x8_3 : Int) := of_decide_eq_true (by first | (with_reducible assumption) | assumption)
                 have q21 : x8_3 < (a0.size : Int) := of_decide_eq_true (by first | (with_reducible assumption) | assumption)
                 have hx21 := bt_at a0 x8_3
                 replace p21 := eq_true p21
                 replace q21 := eq_true q21
                 go_wp2_with (first | ((with_reducible refine Z14 (f := 47) rfl ?_); refine goesL_ (some 45) rfl rfl Tryd.func47 (by kernel_rfl) rfl #[.int .u8 (bt a0 x8_3)] rfl (by (try simp only [List.map_toArray, List.map_cons, List.map_nil]); first | done | rfl | (simp only [List.length_drop, List.length_take]; rfl)) ?_; (with_reducible refine (Z26.calls kj12 (bt a0 x8_3) t188 _ A22.out).mono ?_); rintro e w' ⟨rfl, ⟨nd, rfl⟩⟩; refine ⟨_, rfl, ?_⟩))
                 go_roundg kj12
                 case measure => have := HJ2.out; have := HJ10.out; have := HK3.out; have := HJ12.out; omega
                 case rel => exact ⟨(wrap64 (x8_3 + 1)), (4294967296), (false), (by first | rfl | (simp; done) | (simp [*]; done)), (by first | rfl | (simp; done) | (simp [*]; done)), (by first | rfl | (simp; done) | (simp [*]; done)), H', ⟨by have := HJ2.out; have := HJ10.out; have := HK3.out; have := HJ12.out; omega⟩, ⟨by (with_reducible repeat (first | refine Z0 ?_ _ | refine Z3 ?_ | refine Z1 ?_ _)); exact BK183.out⟩, ⟨by (with_reducible repeat (first | refine Z0 ?_ _ | refine Z3 ?_ | refine Z1 ?_ _)); exact BK184.out⟩, ⟨by repeat (first | (with_reducible first | exact HB.out | apply Z7 | apply Z4 | apply Z6 | refine Z8 ?_ GE183.out | refine Z8 ?_ GE184.out) | exact HB.out)⟩⟩
               · rw [if_neg c23] at H
                 have c23b0 : decide (4294967296 ≤ (IntKind.u64.wrap ((IntKind.u64.wrap (x10_3 * (IntKind.u64.wrap (x7_10)))) + (IntKind.u64.wrap (t188))))) = false := decide_eq_false c23
                 clear c23
                 have H' := Aside0.mk H
                 clear H
                 have p21 : 0 ≤ (x8_3 : Int) := of_decide_eq_true (by first | (with_reducible assumption) | assumption)
                 have q21 : x8_3 < (a0.size : Int) := of_decide_eq_true (by first | (with_reducible assumption) | assumption)
                 have hx21 := bt_at a0 x8_3
                 replace p21 := eq_true p21
                 replace q21 := eq_true q21
                 go_wp2_with (first | ((with_reducible refine Z14 (f := 47) rfl ?_); refine goesL_ (some 45) rfl rfl Tryd.func47 (by kernel_rfl) rfl #[.int .u8 (bt a0 x8_3)] rfl (by (try simp only [List.map_toArray, List.map_cons, List.map_nil]); first | done | rfl | (simp only [List.length_drop, List.length_take]; rfl)) ?_; (with_reducible refine (Z26.calls kj12 (bt a0 x8_3) t188 _ A22.out).mono ?_); rintro e w' ⟨rfl, ⟨nd, rfl⟩⟩; refine ⟨_, rfl, ?_⟩))
                 go_roundg kj12
                 case measure => have := HJ2.out; have := HJ10.out; have := HK3.out; have := HJ12.out; omega
                 case rel => exact ⟨(wrap64 (x8_3 + 1)), (IntKind.u64.wrap ((IntKind.u64.wrap (x10_3 * (IntKind.u64.wrap (x7_10)))) + (IntKind.u64.wrap (t188)))), (x11_3), (by first | rfl | (simp; done) | (simp [*]; done)), (by first | rfl | (simp; done) | (simp [*]; done)), (by first | rfl | (simp; done) | (simp [*]; done)), H', ⟨by have := HJ2.out; have := HJ10.out; have := HK3.out; have := HJ12.out; omega⟩, ⟨by (with_reducible repeat (first | refine Z0 ?_ _ | refine Z3 ?_ | refine Z1 ?_ _)); exact BK183.out⟩, ⟨by (with_reducible repeat (first | refine Z0 ?_ _ | refine Z3 ?_ | refine Z1 ?_ _)); exact BK184.out⟩, ⟨by repeat (first | (with_reducible first | exact HB.out | apply Z7 | apply Z4 | apply Z6 | refine Z8 ?_ GE183.out | refine Z8 ?_ GE184.out) | exact HB.out)⟩⟩
             · rw [if_neg c20] at H
               exact absurd H (by simp)
           · rw [if_neg c19] at H
             exact absurd H (by simp)
         · replace c18 := Bool.eq_false_iff.mpr c18
           subst c18
           have H1 : (if x8_3 = x8_10 then (Z10.j4 kj12 a0 x8_3 x10_3 x11_3 true 5 (⟨#[]⟩ : ByteArray) 0 false a1 0) else (if x7_10 = 10 then (if (wrap64 (x8_3 - x8_10)) > 1 then (if 0 ≤ x8_10 then (if x8_10 < (a0.size : Int) then (Z10.j4 kj12 a0 x8_3 x10_3 x11_3 ((bt a0 x8_10) == 48) 5 (⟨#[]⟩ : ByteArray) 0 false a1 0) else (none)) else (none)) else (Z10.j4 kj12 a0 x8_3 x10_3 x11_3 false 5 (⟨#[]⟩ : ByteArray) 0 false a1 0)) else (Z10.j4 kj12 a0 x8_3 x10_3 x11_3 false 5 (⟨#[]⟩ : ByteArray) 0 false a1 0))) = some (r1, r2, r3, r4, r5, r6, r7) := by rw [if_neg (show ¬ (false = true) by decide)] at H; exact H
           clear H
           have H := H1
           clear H1
           have HC24 := Aside0.mk H
           clear H
           go_upto_region 16 with (fail)
           go_cut [70] (fun v70 wc => ∃ (kq : Nat) (x70_23 : Bool), v70 = .bool x70_23 ∧ Aside0 (Z10.j4 kq a0 x8_3 x10_3 x11_3 x70_23 5 (⟨#[]⟩ : ByteArray) 0 false a1 0 = some (r1, r2, r3, r4, r5, r6, r7)) ∧ Aside0 (kq ≤ kj12) ∧ Aside0 (wc.heap[gb183]? = some (.cells #[.int .i64 0, .string (⟨#[]⟩ : ByteArray), .int .u32 0, .bool false, .int .i64 0, .int .i64 0] 24 (0, 0))) ∧ Aside0 (wc.heap[gb184]? = some (.cells #[.int .i64 5, .string (⟨#[]⟩ : ByteArray), .int .u32 0, .bool false, .int .i64 a1, .int .i64 0] 24 (0, 0))) ∧ Aside0 (Below w.heap.size w wc))
           case first =>
            have H := HC24.out
            clear HC24
            by_cases c25 : x8_3 = x8_10
            · rw [if_pos c25] at H
              have c25b0 : (x8_3 == x8_10) = true := beq_iff_eq.mpr c25
              have c25b1 : (x8_3 != x8_10) = false := bne_eq_false_iff_eq.mpr c25
              clear c25
              (first | rw [c25b0] | (simp only [i64_w, i32_w]; rw [c25b0]) | skip)
              have H' := Aside0.mk H
              clear H
              go_wp2
              go_meet
              case rel => exact ⟨_, (true), (by first | rfl | (simp; done) | (simp [*]; done)), H', ⟨by have := HJ2.out; have := HJ10.out; have := HK3.out; have := HJ12.out; first | omega | exact Nat.le_refl _⟩, ⟨by (with_reducible repeat (first | refine Z0 ?_ _ | refine Z3 ?_ | refine Z1 ?_ _)); exact BK183.out⟩, ⟨by (with_reducible repeat (first | refine Z0 ?_ _ | refine Z3 ?_ | refine Z1 ?_ _)); exact BK184.out⟩, ⟨by repeat (first | (with_reducible first | exact HB.out | apply Z7 | apply Z4 | apply Z6 | refine Z8 ?_ GE183.out | refine Z8 ?_ GE184.out) | exact HB.out)⟩⟩
            · rw [if_neg c25] at H
              have c25b0 : (x8_3 == x8_10) = false := beq_eq_false_iff_ne.mpr c25
              have c25b1 : (x8_3 != x8_10) = true := bne_iff_ne.mpr c25
              (first | rw [c25b0] | (simp only [i64_w, i32_w]; rw [c25b0]) | skip)
              by_cases c26 : x7_10 = 10
              · rw [if_pos c26] at H
                have c26b0 : (x7_10 == 10) = true := beq_iff_eq.mpr c26
                have c26b1 : (x7_10 != 10) = false := bne_eq_false_iff_eq.mpr c26
                clear c26
                by_cases c27 : (wrap64 (x8_3 - x8_10)) > 1
                · rw [if_pos c27] at H
                  have c27b0 : decide (1 < (wrap64 (x8_3 - x8_10))) = true := decide_eq_true c27
                  clear c27
                  by_cases c28 : 0 ≤ x8_10
                  · rw [if_pos c28] at H
                    have c28b0 : decide (0 ≤ x8_10) = true := decide_eq_true c28
                    clear c28
                    by_cases c29 : x8_10 < (a0.size : Int)
                    · rw [if_pos c29] at H
                      have c29b0 : decide (x8_10 < (a0.size : Int)) = true := decide_eq_true c29
                      clear c29
                      have H' := Aside0.mk H
                      clear H
                      have p30 : 0 ≤ (x8_10 : Int) := of_decide_eq_true (by first | (with_reducible assumption) | assumption)
                      have q30 : x8_10 < (a0.size : Int) := of_decide_eq_true (by first | (with_reducible assumption) | assumption)
                      have hx30 := bt_at a0 x8_10
                      replace p30 := eq_true p30
                      replace q30 := eq_true q30
                      go_wp2
                      go_meet
                      case rel => exact ⟨_, (((bt a0 x8_10) == 48)), (by first | rfl | (simp; done) | (simp [*]; done)), H', ⟨by have := HJ2.out; have := HJ10.out; have := HK3.out; have := HJ12.out; first | omega | exact Nat.le_refl _⟩, ⟨by (with_reducible repeat (first | refine Z0 ?_ _ | refine Z3 ?_ | refine Z1 ?_ _)); exact BK183.out⟩, ⟨by (with_reducible repeat (first | refine Z0 ?_ _ | refine Z3 ?_ | refine Z1 ?_ _)); exact BK184.out⟩, ⟨by repeat (first | (with_reducible first | exact HB.out | apply Z7 | apply Z4 | apply Z6 | refine Z8 ?_ GE183.out | refine Z8 ?_ GE184.out) | exact HB.out)⟩⟩
                    · rw [if_neg c29] at H
                      exact absurd H (by simp)
                  · rw [if_neg c28] at H
                    exact absurd H (by simp)
                · rw [if_neg c27] at H
                  have c27b0 : decide (1 < (wrap64 (x8_3 - x8_10))) = false := decide_eq_false c27
                  clear c27
                  have H' := Aside0.mk H
                  clear H
                  go_wp2
                  go_meet
                  case rel => exact ⟨_, (false), (by first | rfl | (simp; done) | (simp [*]; done)), H', ⟨by have := HJ2.out; have := HJ10.out; have := HK3.out; have := HJ12.out; first | omega | exact Nat.le_refl _⟩, ⟨by (with_reducible repeat (first | refine Z0 ?_ _ | refine Z3 ?_ | refine Z1 ?_ _)); exact BK183.out⟩, ⟨by (with_reducible repeat (first | refine Z0 ?_ _ | refine Z3 ?_ | refine Z1 ?_ _)); exact BK184.out⟩, ⟨by repeat (first | (with_reducible first | exact HB.out | apply Z7 | apply Z4 | apply Z6 | refine Z8 ?_ GE183.out | refine Z8 ?_ GE184.out) | exact HB.out)⟩⟩
              · rw [if_neg c26] at H
                have c26b0 : (x7_10 == 10) = false := beq_eq_false_iff_ne.mpr c26
                have c26b1 : (x7_10 != 10) = true := bne_iff_ne.mpr c26
                have H' := Aside0.mk H
                clear H
                go_wp2
                go_meet
                case rel => exact ⟨_, (false), (by first | rfl | (simp; done) | (simp [*]; done)), H', ⟨by have := HJ2.out; have := HJ10.out; have := HK3.out; have := HJ12.out; first | omega | exact Nat.le_refl _⟩, ⟨by (with_reducible repeat (first | refine Z0 ?_ _ | refine Z3 ?_ | refine Z1 ?_ _)); exact BK183.out⟩, ⟨by (with_reducible repeat (first | refine Z0 ?_ _ | refine Z3 ?_ | refine Z1 ?_ _)); exact BK184.out⟩, ⟨by repeat (first | (with_reducible first | exact HB.out | apply Z7 | apply Z4 | apply Z6 | refine Z8 ?_ GE183.out | refine Z8 ?_ GE184.out) | exact HB.out)⟩⟩
           case rest =>
            clear HC24
            try clear c18
            try clear hcz7_0
            try clear hcz7_1
            try clear hcz7_2
            try clear hcz7_3
            try clear hcz7_4
            try clear hcz7_5
            try clear hfz7_0
            try clear hfz7_1
            try clear hfz7_2
            try clear hfz7_3
            try clear hfz7_4
            try clear hfz7_5
            obtain ⟨kq, x70_23, rfl, HA, HJ23, BK183, BK184, HB⟩ := hcut
            cases kq with
            | zero => exact absurd HA.out (by simp [Z10.j4])
            | succ kj23 =>
             have H := HA.out
             clear HA
             simp only [Z10.j4] at H
             have HC31 := Aside0.mk H
             clear H
             go_upto_if 70 with (fail)
             go_cut [11] (fun v11 wc => ∃ (kq : Nat) (x11_30 : Bool), v11 = .bool x11_30 ∧ Aside0 (Z10.j5 kq a0 x8_3 x10_3 x11_30 5 (⟨#[]⟩ : ByteArray) 0 false a1 0 = some (r1, r2, r3, r4, r5, r6, r7)) ∧ Aside0 (kq ≤ kj23) ∧ Aside0 (wc.heap[gb183]? = some (.cells #[.int .i64 0, .string (⟨#[]⟩ : ByteArray), .int .u32 0, .bool false, .int .i64 0, .int .i64 0] 24 (0, 0))) ∧ Aside0 (wc.heap[gb184]? = some (.cells #[.int .i64 5, .string (⟨#[]⟩ : ByteArray), .int .u32 0, .bool false, .int .i64 a1, .int .i64 0] 24 (0, 0))) ∧ Aside0 (Below w.heap.size w wc))
             case first =>
              have H := HC31.out
              clear HC31
              by_cases c32 : x70_23 = true
              · subst c32
                have H1 : (Z10.j5 kj23 a0 x8_3 x10_3 false 5 (⟨#[]⟩ : ByteArray) 0 false a1 0) = some (r1, r2, r3, r4, r5, r6, r7) := by rw [if_pos rfl] at H; exact H
                clear H
                have H := H1
                clear H1
                have H' := Aside0.mk H
                clear H
                go_wp2
                go_meet
                case rel => exact ⟨_, (false), (by first | rfl | (simp; done) | (simp [*]; done)), H', ⟨by have := HJ2.out; have := HJ10.out; have := HK3.out; have := HJ12.out; have := HJ23.out; first | omega | exact Nat.le_refl _⟩, ⟨by (with_reducible repeat (first | refine Z0 ?_ _ | refine Z3 ?_ | refine Z1 ?_ _)); exact BK183.out⟩, ⟨by (with_reducible repeat (first | refine Z0 ?_ _ | refine Z3 ?_ | refine Z1 ?_ _)); exact BK184.out⟩, ⟨by repeat (first | (with_reducible first | exact HB.out | apply Z7 | apply Z4 | apply Z6 | refine Z8 ?_ GE183.out | refine Z8 ?_ GE184.out) | exact HB.out)⟩⟩
              · replace c32 := Bool.eq_false_iff.mpr c32
                subst c32
                have H1 : (Z10.j5 kj23 a0 x8_3 x10_3 x11_3 5 (⟨#[]⟩ : ByteArray) 0 false a1 0) = some (r1, r2, r3, r4, r5, r6, r7) := by rw [if_neg (show ¬ (false = true) by decide)] at H; exact H
                clear H
                have H := H1
                clear H1
                have H' := Aside0.mk H
                clear H
                go_wp2
                go_meet
                case rel => exact ⟨_, (x11_3), (by first | rfl | (simp; done) | (simp [*]; done)), H', ⟨by have := HJ2.out; have := HJ10.out; have := HK3.out; have := HJ12.out; have := HJ23.out; first | omega | exact Nat.le_refl _⟩, ⟨by (with_reducible repeat (first | refine Z0 ?_ _ | refine Z3 ?_ | refine Z1 ?_ _)); exact BK183.out⟩, ⟨by (with_reducible repeat (first | refine Z0 ?_ _ | refine Z3 ?_ | refine Z1 ?_ _)); exact BK184.out⟩, ⟨by repeat (first | (with_reducible first | exact HB.out | apply Z7 | apply Z4 | apply Z6 | refine Z8 ?_ GE183.out | refine Z8 ?_ GE184.out) | exact HB.out)⟩⟩
             case rest =>
              clear HC31
              try clear c18
              try clear hcz7_0
              try clear hcz7_1
              try clear hcz7_2
              try clear hcz7_3
              try clear hcz7_4
              try clear hcz7_5
              try clear hfz7_0
              try clear hfz7_1
              try clear hfz7_2
              try clear hfz7_3
              try clear hfz7_4
              try clear hfz7_5
              obtain ⟨kq, x11_30, rfl, HA, HJ30, BK183, BK184, HB⟩ := hcut
              cases kq with
              | zero => exact absurd HA.out (by simp [Z10.j5])
              | succ kj30 =>
               have H := HA.out
               clear HA
               simp only [Z10.j5] at H
               have HC33 := Aside0.mk H
               clear H
               go_upto_region 18 with (fail)
               go_cut [80] (fun v80 wc => ∃ (kq : Nat) (x80_32 : Bool), v80 = .bool x80_32 ∧ Aside0 (Z10.j6 kq a0 x8_3 x10_3 x11_30 x80_32 5 (⟨#[]⟩ : ByteArray) 0 false a1 0 = some (r1, r2, r3, r4, r5, r6, r7)) ∧ Aside0 (kq ≤ kj30) ∧ Aside0 (wc.heap[gb183]? = some (.cells #[.int .i64 0, .string (⟨#[]⟩ : ByteArray), .int .u32 0, .bool false, .int .i64 0, .int .i64 0] 24 (0, 0))) ∧ Aside0 (wc.heap[gb184]? = some (.cells #[.int .i64 5, .string (⟨#[]⟩ : ByteArray), .int .u32 0, .bool false, .int .i64 a1, .int .i64 0] 24 (0, 0))) ∧ Aside0 (Below w.heap.size w wc))
               case first =>
                have H := HC33.out
                clear HC33
                replace H := Option.bind_eq_some_iff.mp H
                obtain ⟨t189, A340, H⟩ := H
                replace H : (if t189 = 117 then (Z10.j6 kj30 a0 x8_3 x10_3 x11_30 true 5 (⟨#[]⟩ : ByteArray) 0 false a1 0) else ((Z34.f a0 x8_3).bind fun t190 => (Z10.j6 kj30 a0 x8_3 x10_3 x11_30 (t190 == 85) 5 (⟨#[]⟩ : ByteArray) 0 false a1 0))) = some (r1, r2, r3, r4, r5, r6, r7) := H
                have A34 := Aside0.mk A340
                clear A340
                by_cases c35 : t189 = 117
                · rw [if_pos c35] at H
                  have c35b0 : (t189 == 117) = true := beq_iff_eq.mpr c35
                  have c35b1 : (t189 != 117) = false := bne_eq_false_iff_eq.mpr c35
                  clear c35
                  (first | rw [c35b0] | (simp only [i64_w, i32_w]; rw [c35b0]) | skip)
                  have H' := Aside0.mk H
                  clear H
                  go_wp2_with (first | ((with_reducible refine Z14 (f := 48) rfl ?_); refine goesL_ (some 73) rfl rfl Tryd.func48 (by kernel_rfl) rfl #[.string a0, .int .i64 x8_3] rfl (by (try simp only [List.map_toArray, List.map_cons, List.map_nil]); first | done | rfl | (simp only [List.length_drop, List.length_take]; rfl)) ?_; (with_reducible refine (Z34.calls a0 x8_3 t189 _ A34.out).mono ?_); rintro e w' ⟨rfl, ⟨nd, rfl⟩⟩; refine ⟨_, rfl, ?_⟩))
                  go_meet
                  case rel => exact ⟨_, (true), (by first | rfl | (simp; done) | (simp [*]; done)), H', ⟨by have := HJ2.out; have := HJ10.out; have := HK3.out; have := HJ12.out; have := HJ23.out; have := HJ30.out; first | omega | exact Nat.le_refl _⟩, ⟨by (with_reducible repeat (first | refine Z0 ?_ _ | refine Z3 ?_ | refine Z1 ?_ _)); exact BK183.out⟩, ⟨by (with_reducible repeat (first | refine Z0 ?_ _ | refine Z3 ?_ | refine Z1 ?_ _)); exact BK184.out⟩, ⟨by repeat (first | (with_reducible first | exact HB.out | apply Z7 | apply Z4 | apply Z6 | refine Z8 ?_ GE183.out | refine Z8 ?_ GE184.out) | exact HB.out)⟩⟩
                · rw [if_neg c35] at H
                  have c35b0 : (t189 == 117) = false := beq_eq_false_iff_ne.mpr c35
                  have c35b1 : (t189 != 117) = true := bne_iff_ne.mpr c35
                  (first | rw [c35b0] | (simp only [i64_w, i32_w]; rw [c35b0]) | skip)
                  replace H := Option.bind_eq_some_iff.mp H
                  obtain ⟨t190, A360, H⟩ := H
                  replace H : (Z10.j6 kj30 a0 x8_3 x10_3 x11_30 (t190 == 85) 5 (⟨#[]⟩ : ByteArray) 0 false a1 0) = some (r1, r2, r3, r4, r5, r6, r7) := H
                  have A36 := Aside0.mk A360
                  clear A360
                  have H' := Aside0.mk H
                  clear H
                  go_wp2_with (first | ((with_reducible refine Z14 (f := 48) rfl ?_); refine goesL_ (some 73) rfl rfl Tryd.func48 (by kernel_rfl) rfl #[.string a0, .int .i64 x8_3] rfl (by (try simp only [List.map_toArray, List.map_cons, List.map_nil]); first | done | rfl | (simp only [List.length_drop, List.length_take]; rfl)) ?_; (with_reducible refine (Z34.calls a0 x8_3 t189 _ A34.out).mono ?_); rintro e w' ⟨rfl, ⟨nd, rfl⟩⟩; refine ⟨_, rfl, ?_⟩) | (go_at_call 48; (with_reducible refine (Z34.calls a0 x8_3 t190 _ A36.out).mono ?_); rintro e w' ⟨rfl, ⟨nd, rfl⟩⟩))
                  go_meet
                  case rel => exact ⟨_, ((t190 == 85)), (by first | rfl | (simp; done) | (simp [*]; done)), H', ⟨by have := HJ2.out; have := HJ10.out; have := HK3.out; have := HJ12.out; have := HJ23.out; have := HJ30.out; first | omega | exact Nat.le_refl _⟩, ⟨by (with_reducible repeat (first | refine Z0 ?_ _ | refine Z3 ?_ | refine Z1 ?_ _)); exact BK183.out⟩, ⟨by (with_reducible repeat (first | refine Z0 ?_ _ | refine Z3 ?_ | refine Z1 ?_ _)); exact BK184.out⟩, ⟨by repeat (first | (with_reducible first | exact HB.out | apply Z7 | apply Z4 | apply Z6 | refine Z8 ?_ GE183.out | refine Z8 ?_ GE184.out) | exact HB.out)⟩⟩
               case rest =>
                clear HC33
                try clear c18
                try clear hcz7_0
                try clear hcz7_1
                try clear hcz7_2
                try clear hcz7_3
                try clear hcz7_4
                try clear hcz7_5
                try clear hfz7_0
                try clear hfz7_1
                try clear hfz7_2
                try clear hfz7_3
                try clear hfz7_4
                try clear hfz7_5
                obtain ⟨kq, x80_32, rfl, HA, HJ32, BK183, BK184, HB⟩ := hcut
                cases kq with
                | zero => exact absurd HA.out (by simp [Z10.j6])
                | succ kj32 =>
                 have H := HA.out
                 clear HA
                 simp only [Z10.j6] at H
                 have HC37 := Aside0.mk H
                 clear H
                 go_upto_if 80 with (fail)
                 go_cut [8] (fun v8 wc => ∃ (kq : Nat) (x8_36 : Int) (x185003_36 : Bool), v8 = .int .i64 x8_36 ∧ Aside0 (Z10.j7 kq a0 x8_36 x10_3 x11_30 5 (⟨#[]⟩ : ByteArray) 0 x185003_36 a1 0 = some (r1, r2, r3, r4, r5, r6, r7)) ∧ Aside0 (kq ≤ kj32) ∧ Aside0 (wc.heap[gb183]? = some (.cells #[.int .i64 0, .string (⟨#[]⟩ : ByteArray), .int .u32 0, .bool false, .int .i64 0, .int .i64 0] 24 (0, 0))) ∧ Aside0 (wc.heap[gb184]? = some (.cells #[.int .i64 5, .string (⟨#[]⟩ : ByteArray), .int .u32 0, .bool x185003_36, .int .i64 a1, .int .i64 0] 24 (0, 0))) ∧ Aside0 (Below w.heap.size w wc))
                 case first =>
                  have H := HC37.out
                  clear HC37
                  by_cases c38 : x80_32 = true
                  · subst c38
                    have H1 : (Z10.j7 kj32 a0 (wrap64 (x8_3 + 1)) x10_3 x11_30 5 (⟨#[]⟩ : ByteArray) 0 true a1 0) = some (r1, r2, r3, r4, r5, r6, r7) := by rw [if_pos rfl] at H; exact H
                    clear H
                    have H := H1
                    clear H1
                    have H' := Aside0.mk H
                    clear H
                    have hnb39 := NB184_183.out
                    have hnc39 := NB183_184.out
                    have hcz40_0 : wc.cell? ⟨gb184, 0, none⟩ = some (.int .i64 5) := (Z5 BK184.out 0).trans rfl
                    have hcz40_1 : wc.cell? ⟨gb184, 1, none⟩ = some (.string (⟨#[]⟩ : ByteArray)) := (Z5 BK184.out 1).trans rfl
                    have hcz40_2 : wc.cell? ⟨gb184, 2, none⟩ = some (.int .u32 0) := (Z5 BK184.out 2).trans rfl
                    have hcz40_3 : wc.cell? ⟨gb184, 3, none⟩ = some (.bool false) := (Z5 BK184.out 3).trans rfl
                    have hcz40_4 : wc.cell? ⟨gb184, 4, none⟩ = some (.int .i64 a1) := (Z5 BK184.out 4).trans rfl
                    have hcz40_5 : wc.cell? ⟨gb184, 5, none⟩ = some (.int .i64 0) := (Z5 BK184.out 5).trans rfl
                    have hfz40_0 := Z2 BK184.out 0
                    have hfz40_1 := Z2 BK184.out 1
                    have hfz40_2 := Z2 BK184.out 2
                    have hfz40_3 := Z2 BK184.out 3
                    have hfz40_4 := Z2 BK184.out 4
                    have hfz40_5 := Z2 BK184.out 5
                    go_wp2
                    go_meet
                    case rel => exact ⟨_, (wrap64 (x8_3 + 1)), (true), (by first | rfl | (simp; done) | (simp [*]; done)), H', ⟨by have := HJ2.out; have := HJ10.out; have := HK3.out; have := HJ12.out; have := HJ23.out; have := HJ30.out; have := HJ32.out; first | omega | exact Nat.le_refl _⟩, ⟨by (with_reducible repeat (first | refine Z0 ?_ _ | refine Z3 ?_ | refine Z1 ?_ _)); refine Z22 ?_ NB183_184.out _; (with_reducible repeat (first | refine Z0 ?_ _ | refine Z3 ?_ | refine Z1 ?_ _)); exact BK183.out⟩, ⟨by (with_reducible repeat (first | refine Z0 ?_ _ | refine Z3 ?_ | refine Z1 ?_ _)); refine Z9 (cs := #[.int .i64 5, .string (⟨#[]⟩ : ByteArray), .int .u32 0, .bool false, .int .i64 a1, .int .i64 0]) ?_ 3 _ rfl; (with_reducible repeat (first | refine Z0 ?_ _ | refine Z3 ?_ | refine Z1 ?_ _)); exact BK184.out⟩, ⟨by repeat (first | (with_reducible first | exact HB.out | apply Z7 | apply Z4 | apply Z6 | refine Z8 ?_ GE183.out | refine Z8 ?_ GE184.out) | exact HB.out)⟩⟩
                  · replace c38 := Bool.eq_false_iff.mpr c38
                    subst c38
                    have H1 : (Z10.j7 kj32 a0 x8_3 x10_3 x11_30 5 (⟨#[]⟩ : ByteArray) 0 false a1 0) = some (r1, r2, r3, r4, r5, r6, r7) := by rw [if_neg (show ¬ (false = true) by decide)] at H; exact H
                    clear H
                    have H := H1
                    clear H1
                    have H' := Aside0.mk H
                    clear H
                    go_wp2
                    go_meet
                    case rel => exact ⟨_, (x8_3), (false), (by first | rfl | (simp; done) | (simp [*]; done)), H', ⟨by have := HJ2.out; have := HJ10.out; have := HK3.out; have := HJ12.out; have := HJ23.out; have := HJ30.out; have := HJ32.out; first | omega | exact Nat.le_refl _⟩, ⟨by (with_reducible repeat (first | refine Z0 ?_ _ | refine Z3 ?_ | refine Z1 ?_ _)); exact BK183.out⟩, ⟨by (with_reducible repeat (first | refine Z0 ?_ _ | refine Z3 ?_ | refine Z1 ?_ _)); exact BK184.out⟩, ⟨by repeat (first | (with_reducible first | exact HB.out | apply Z7 | apply Z4 | apply Z6 | refine Z8 ?_ GE183.out | refine Z8 ?_ GE184.out) | exact HB.out)⟩⟩
                 case rest =>
                  clear HC37
                  try clear c18
                  try clear hcz7_0
                  try clear hcz7_1
                  try clear hcz7_2
                  try clear hcz7_3
                  try clear hcz7_4
                  try clear hcz7_5
                  try clear hfz7_0
                  try clear hfz7_1
                  try clear hfz7_2
                  try clear hfz7_3
                  try clear hfz7_4
                  try clear hfz7_5
                  obtain ⟨kq, x8_36, x185003_36, rfl, HA, HJ36, BK183, BK184, HB⟩ := hcut
                  cases kq with
                  | zero => exact absurd HA.out (by simp [Z10.j7])
                  | succ kj36 =>
                   have H := HA.out
                   clear HA
                   simp only [Z10.j7] at H
                   replace H := Option.bind_eq_some_iff.mp H
                   obtain ⟨t191, A410, H⟩ := H
                   replace H : ((Z35.f t191).bind fun t192 => (if t192 = true then (if x185003_36 = true then (some (5, (⟨#[]⟩ : ByteArray), (x10_3) % 4294967296, true, a1, x8_36, false)) else (some (5, (⟨#[]⟩ : ByteArray), (x10_3) % 4294967296, decide (x10_3 ≥ 2147483648), a1, x8_36, false))) else ((Z34.f a0 x8_36).bind fun t193 => ((Z33.f t193).bind fun t194 => (if t194 = true then (if x185003_36 = true then (some (5, (⟨#[]⟩ : ByteArray), (x10_3) % 4294967296, true, a1, x8_36, false)) else (some (5, (⟨#[]⟩ : ByteArray), (x10_3) % 4294967296, decide (x10_3 ≥ 2147483648), a1, x8_36, false))) else (if x185003_36 = true then (some (5, (⟨#[]⟩ : ByteArray), (x10_3) % 4294967296, true, a1, x8_36, x11_30)) else (some (5, (⟨#[]⟩ : ByteArray), (x10_3) % 4294967296, decide (x10_3 ≥ 2147483648), a1, x8_36, x11_30)))))))) = some (r1, r2, r3, r4, r5, r6, r7) := H
                   have A41 := Aside0.mk A410
                   clear A410
                   replace H := Option.bind_eq_some_iff.mp H
                   obtain ⟨t192, A420, H⟩ := H
                   replace H : (if t192 = true then (if x185003_36 = true then (some (5, (⟨#[]⟩ : ByteArray), (x10_3) % 4294967296, true, a1, x8_36, false)) else (some (5, (⟨#[]⟩ : ByteArray), (x10_3) % 4294967296, decide (x10_3 ≥ 2147483648), a1, x8_36, false))) else ((Z34.f a0 x8_36).bind fun t193 => ((Z33.f t193).bind fun t194 => (if t194 = true then (if x185003_36 = true then (some (5, (⟨#[]⟩ : ByteArray), (x10_3) % 4294967296, true, a1, x8_36, false)) else (some (5, (⟨#[]⟩ : ByteArray), (x10_3) % 4294967296, decide (x10_3 ≥ 2147483648), a1, x8_36, false))) else (if x185003_36 = true then (some (5, (⟨#[]⟩ : ByteArray), (x10_3) % 4294967296, true, a1, x8_36, x11_30)) else (some (5, (⟨#[]⟩ : ByteArray), (x10_3) % 4294967296, decide (x10_3 ≥ 2147483648), a1, x8_36, x11_30))))))) = some (r1, r2, r3, r4, r5, r6, r7) := H
                   have A42 := Aside0.mk A420
                   clear A420
                   by_cases c43 : t192 = true
                   · subst c43
                     have H1 : (if x185003_36 = true then (some (5, (⟨#[]⟩ : ByteArray), (x10_3) % 4294967296, true, a1, x8_36, false)) else (some (5, (⟨#[]⟩ : ByteArray), (x10_3) % 4294967296, decide (x10_3 ≥ 2147483648), a1, x8_36, false))) = some (r1, r2, r3, r4, r5, r6, r7) := by rw [if_pos rfl] at H; exact H
                     clear H
                     have H := H1
                     clear H1
                     by_cases c44 : x185003_36 = true
                     · subst c44
                       have H1 : (some (5, (⟨#[]⟩ : ByteArray), (x10_3) % 4294967296, true, a1, x8_36, false)) = some (r1, r2, r3, r4, r5, r6, r7) := by rw [if_pos rfl] at H; exact H
                       clear H
                       have H := H1
                       clear H1
                       simp only [Option.some.injEq, Prod.mk.injEq] at H
                       obtain ⟨rfl, rfl, rfl, rfl, rfl, rfl, rfl⟩ := H
                       go_wp2_with (first | ((with_reducible refine Z14 (f := 48) rfl ?_); refine goesL_ (some 86) rfl rfl Tryd.func48 (by kernel_rfl) rfl #[.string a0, .int .i64 x8_36] rfl (by (try simp only [List.map_toArray, List.map_cons, List.map_nil]); first | done | rfl | (simp only [List.length_drop, List.length_take]; rfl)) ?_; (with_reducible refine (Z34.calls a0 x8_36 t191 _ A41.out).mono ?_); rintro e w' ⟨rfl, ⟨nd, rfl⟩⟩; refine ⟨_, rfl, ?_⟩; (try (rw [Z43 wc]; generalize hq_ : World.drewN wc _ = wc; have n0_ : Aside0 (wc.heap[gb183]? = some (.cells #[.int .i64 0, .string (⟨#[]⟩ : ByteArray), .int .u32 0, .bool false, .int .i64 0, .int .i64 0] 24 (0, 0))) := ⟨by rw [← hq_]; exact (by (with_reducible repeat (first | refine Z0 ?_ _ | refine Z3 ?_ | refine Z1 ?_ _)); exact BK183.out)⟩; have n1_ : Aside0 (wc.heap[gb184]? = some (.cells #[.int .i64 5, .string (⟨#[]⟩ : ByteArray), .int .u32 0, .bool true, .int .i64 a1, .int .i64 0] 24 (0, 0))) := ⟨by rw [← hq_]; exact (by (with_reducible repeat (first | refine Z0 ?_ _ | refine Z3 ?_ | refine Z1 ?_ _)); exact BK184.out)⟩; have n2_ : Aside0 (Below w.heap.size w wc) := ⟨by rw [← hq_]; exact (by repeat (first | (with_reducible first | exact HB.out | apply Z7 | apply Z4 | apply Z6 | refine Z8 ?_ GE183.out | refine Z8 ?_ GE184.out) | exact HB.out))⟩; clear BK183 BK184 HB hq_; have BK183 := n0_; have BK184 := n1_; have HB := n2_; clear n0_ n1_ n2_))) | ((with_reducible refine Z14 (f := 31) rfl ?_); refine goesL_ (some 87) rfl rfl Tryd.func31 (by kernel_rfl) rfl #[.int .u8 t191] rfl (by (try simp only [List.map_toArray, List.map_cons, List.map_nil]); first | done | rfl | (simp only [List.length_drop, List.length_take]; rfl)) ?_; (with_reducible refine (Z35.calls t191 true _ A42.out).mono ?_); rintro e w' ⟨rfl, ⟨nd, rfl⟩⟩; refine ⟨_, rfl, ?_⟩; (try (rw [Z43 wc]; generalize hq_ : World.drewN wc _ = wc; have n0_ : Aside0 (wc.heap[gb183]? = some (.cells #[.int .i64 0, .string (⟨#[]⟩ : ByteArray), .int .u32 0, .bool false, .int .i64 0, .int .i64 0] 24 (0, 0))) := ⟨by rw [← hq_]; exact (by (with_reducible repeat (first | refine Z0 ?_ _ | refine Z3 ?_ | refine Z1 ?_ _)); exact BK183.out)⟩; have n1_ : Aside0 (wc.heap[gb184]? = some (.cells #[.int .i64 5, .string (⟨#[]⟩ : ByteArray), .int .u32 0, .bool true, .int .i64 a1, .int .i64 0] 24 (0, 0))) := ⟨by rw [← hq_]; exact (by (with_reducible repeat (first | refine Z0 ?_ _ | refine Z3 ?_ | refine Z1 ?_ _)); exact BK184.out)⟩; have n2_ : Aside0 (Below w.heap.size w wc) := ⟨by rw [← hq_]; exact (by repeat (first | (with_reducible first | exact HB.out | apply Z7 | apply Z4 | apply Z6 | refine Z8 ?_ GE183.out | refine Z8 ?_ GE184.out) | exact HB.out))⟩; clear BK183 BK184 HB hq_; have BK183 := n0_; have BK184 := n1_; have HB := n2_; clear n0_ n1_ n2_)); have hnb45 := NB184_183.out; have hnc45 := NB183_184.out; have hcz46_0 : wc.cell? ⟨gb184, 0, none⟩ = some (.int .i64 5) := (Z5 BK184.out 0).trans rfl; have hcz46_1 : wc.cell? ⟨gb184, 1, none⟩ = some (.string (⟨#[]⟩ : ByteArray)) := (Z5 BK184.out 1).trans rfl; have hcz46_2 : wc.cell? ⟨gb184, 2, none⟩ = some (.int .u32 0) := (Z5 BK184.out 2).trans rfl; have hcz46_3 : wc.cell? ⟨gb184, 3, none⟩ = some (.bool true) := (Z5 BK184.out 3).trans rfl; have hcz46_4 : wc.cell? ⟨gb184, 4, none⟩ = some (.int .i64 a1) := (Z5 BK184.out 4).trans rfl; have hcz46_5 : wc.cell? ⟨gb184, 5, none⟩ = some (.int .i64 0) := (Z5 BK184.out 5).trans rfl; have hfz46_0 := Z2 BK184.out 0; have hfz46_1 := Z2 BK184.out 1; have hfz46_2 := Z2 BK184.out 2; have hfz46_3 := Z2 BK184.out 3; have hfz46_4 := Z2 BK184.out 4; have hfz46_5 := Z2 BK184.out 5; have hcz47_0 : wc.cell? ⟨gb183, 0, none⟩ = some (.int .i64 0) := (Z5 BK183.out 0).trans rfl; have hcz47_1 : wc.cell? ⟨gb183, 1, none⟩ = some (.string (⟨#[]⟩ : ByteArray)) := (Z5 BK183.out 1).trans rfl; have hcz47_2 : wc.cell? ⟨gb183, 2, none⟩ = some (.int .u32 0) := (Z5 BK183.out 2).trans rfl; have hcz47_3 : wc.cell? ⟨gb183, 3, none⟩ = some (.bool false) := (Z5 BK183.out 3).trans rfl; have hcz47_4 : wc.cell? ⟨gb183, 4, none⟩ = some (.int .i64 0) := (Z5 BK183.out 4).trans rfl; have hcz47_5 : wc.cell? ⟨gb183, 5, none⟩ = some (.int .i64 0) := (Z5 BK183.out 5).trans rfl; have hfz47_0 := Z2 BK183.out 0; have hfz47_1 := Z2 BK183.out 1; have hfz47_2 := Z2 BK183.out 2; have hfz47_3 := Z2 BK183.out 3; have hfz47_4 := Z2 BK183.out 4; have hfz47_5 := Z2 BK183.out 5))
                       refine bodyPost_ret (Z46 rfl _ _ gb183 24 #[.int .i64 5, .string (⟨#[]⟩ : ByteArray), .int .u32 ((x10_3) % 4294967296), .bool true, .int .i64 a1, .int .i64 x8_36] (0, 0) _ rfl (by (with_reducible repeat (first | refine Z0 ?_ _ | refine Z3 ?_ | refine Z1 ?_ _)); refine Z9 (cs := #[.int .i64 5, .string (⟨#[]⟩ : ByteArray), .int .u32 ((x10_3) % 4294967296), .bool true, .int .i64 a1, .int .i64 0]) ?_ 5 _ rfl; (with_reducible repeat (first | refine Z0 ?_ _ | refine Z3 ?_ | refine Z1 ?_ _)); refine Z9 (cs := #[.int .i64 5, .string (⟨#[]⟩ : ByteArray), .int .u32 ((x10_3) % 4294967296), .bool true, .int .i64 0, .int .i64 0]) ?_ 4 _ rfl; (with_reducible repeat (first | refine Z0 ?_ _ | refine Z3 ?_ | refine Z1 ?_ _)); refine Z9 (cs := #[.int .i64 5, .string (⟨#[]⟩ : ByteArray), .int .u32 ((x10_3) % 4294967296), .bool false, .int .i64 0, .int .i64 0]) ?_ 3 _ rfl; (with_reducible repeat (first | refine Z0 ?_ _ | refine Z3 ?_ | refine Z1 ?_ _)); refine Z9 (cs := #[.int .i64 5, .string (⟨#[]⟩ : ByteArray), .int .u32 0, .bool false, .int .i64 0, .int .i64 0]) ?_ 2 _ rfl; (with_reducible repeat (first | refine Z0 ?_ _ | refine Z3 ?_ | refine Z1 ?_ _)); refine Z9 (cs := #[.int .i64 5, .string (⟨#[]⟩ : ByteArray), .int .u32 0, .bool false, .int .i64 0, .int .i64 0]) ?_ 1 _ rfl; (with_reducible repeat (first | refine Z0 ?_ _ | refine Z3 ?_ | refine Z1 ?_ _)); refine Z9 (cs := #[.int .i64 0, .string (⟨#[]⟩ : ByteArray), .int .u32 0, .bool false, .int .i64 0, .int .i64 0]) ?_ 0 _ rfl; (with_reducible repeat (first | refine Z0 ?_ _ | refine Z3 ?_ | refine Z1 ?_ _)); refine Z22 ?_ NB183_184.out _; (with_reducible repeat (first | refine Z0 ?_ _ | refine Z3 ?_ | refine Z1 ?_ _)); refine Z22 ?_ NB183_184.out _; (with_reducible repeat (first | refine Z0 ?_ _ | refine Z3 ?_ | refine Z1 ?_ _)); refine Z22 ?_ NB183_184.out _; (with_reducible repeat (first | refine Z0 ?_ _ | refine Z3 ?_ | refine Z1 ?_ _)); exact BK183.out) Tryd.underlying24 rfl (by kernel_rfl)) rfl ?_
                       exact ⟨by first | rfl | (simp [Z16, Z15] <;> rfl) | (simp [*, Z16, Z15] <;> rfl), by repeat (first | (with_reducible first | exact HB.out | apply Z7 | apply Z4 | apply Z6 | refine Z8 ?_ GE183.out | refine Z8 ?_ GE184.out) | exact HB.out)⟩
                     · replace c44 := Bool.eq_false_iff.mpr c44
                       subst c44
                       have H1 : (some (5, (⟨#[]⟩ : ByteArray), (x10_3) % 4294967296, decide (x10_3 ≥ 2147483648), a1, x8_36, false)) = some (r1, r2, r3, r4, r5, r6, r7) := by rw [if_neg (show ¬ (false = true) by decide)] at H; exact H
                       clear H
                       have H := H1
                       clear H1
                       simp only [Option.some.injEq, Prod.mk.injEq] at H
                       obtain ⟨rfl, rfl, rfl, rfl, rfl, rfl, rfl⟩ := H
                       go_wp2_with (first | ((with_reducible refine Z14 (f := 48) rfl ?_); refine goesL_ (some 86) rfl rfl Tryd.func48 (by kernel_rfl) rfl #[.string a0, .int .i64 x8_36] rfl (by (try simp only [List.map_toArray, List.map_cons, List.map_nil]); first | done | rfl | (simp only [List.length_drop, List.length_take]; rfl)) ?_; (with_reducible refine (Z34.calls a0 x8_36 t191 _ A41.out).mono ?_); rintro e w' ⟨rfl, ⟨nd, rfl⟩⟩; refine ⟨_, rfl, ?_⟩; (try (rw [Z43 wc]; generalize hq_ : World.drewN wc _ = wc; have n0_ : Aside0 (wc.heap[gb183]? = some (.cells #[.int .i64 0, .string (⟨#[]⟩ : ByteArray), .int .u32 0, .bool false, .int .i64 0, .int .i64 0] 24 (0, 0))) := ⟨by rw [← hq_]; exact (by (with_reducible repeat (first | refine Z0 ?_ _ | refine Z3 ?_ | refine Z1 ?_ _)); exact BK183.out)⟩; have n1_ : Aside0 (wc.heap[gb184]? = some (.cells #[.int .i64 5, .string (⟨#[]⟩ : ByteArray), .int .u32 0, .bool false, .int .i64 a1, .int .i64 0] 24 (0, 0))) := ⟨by rw [← hq_]; exact (by (with_reducible repeat (first | refine Z0 ?_ _ | refine Z3 ?_ | refine Z1 ?_ _)); exact BK184.out)⟩; have n2_ : Aside0 (Below w.heap.size w wc) := ⟨by rw [← hq_]; exact (by repeat (first | (with_reducible first | exact HB.out | apply Z7 | apply Z4 | apply Z6 | refine Z8 ?_ GE183.out | refine Z8 ?_ GE184.out) | exact HB.out))⟩; clear BK183 BK184 HB hq_; have BK183 := n0_; have BK184 := n1_; have HB := n2_; clear n0_ n1_ n2_))) | ((with_reducible refine Z14 (f := 31) rfl ?_); refine goesL_ (some 87) rfl rfl Tryd.func31 (by kernel_rfl) rfl #[.int .u8 t191] rfl (by (try simp only [List.map_toArray, List.map_cons, List.map_nil]); first | done | rfl | (simp only [List.length_drop, List.length_take]; rfl)) ?_; (with_reducible refine (Z35.calls t191 true _ A42.out).mono ?_); rintro e w' ⟨rfl, ⟨nd, rfl⟩⟩; refine ⟨_, rfl, ?_⟩; (try (rw [Z43 wc]; generalize hq_ : World.drewN wc _ = wc; have n0_ : Aside0 (wc.heap[gb183]? = some (.cells #[.int .i64 0, .string (⟨#[]⟩ : ByteArray), .int .u32 0, .bool false, .int .i64 0, .int .i64 0] 24 (0, 0))) := ⟨by rw [← hq_]; exact (by (with_reducible repeat (first | refine Z0 ?_ _ | refine Z3 ?_ | refine Z1 ?_ _)); exact BK183.out)⟩; have n1_ : Aside0 (wc.heap[gb184]? = some (.cells #[.int .i64 5, .string (⟨#[]⟩ : ByteArray), .int .u32 0, .bool false, .int .i64 a1, .int .i64 0] 24 (0, 0))) := ⟨by rw [← hq_]; exact (by (with_reducible repeat (first | refine Z0 ?_ _ | refine Z3 ?_ | refine Z1 ?_ _)); exact BK184.out)⟩; have n2_ : Aside0 (Below w.heap.size w wc) := ⟨by rw [← hq_]; exact (by repeat (first | (with_reducible first | exact HB.out | apply Z7 | apply Z4 | apply Z6 | refine Z8 ?_ GE183.out | refine Z8 ?_ GE184.out) | exact HB.out))⟩; clear BK183 BK184 HB hq_; have BK183 := n0_; have BK184 := n1_; have HB := n2_; clear n0_ n1_ n2_)); have hnb48 := NB184_183.out; have hnc48 := NB183_184.out; have hcz49_0 : wc.cell? ⟨gb184, 0, none⟩ = some (.int .i64 5) := (Z5 BK184.out 0).trans rfl; have hcz49_1 : wc.cell? ⟨gb184, 1, none⟩ = some (.string (⟨#[]⟩ : ByteArray)) := (Z5 BK184.out 1).trans rfl; have hcz49_2 : wc.cell? ⟨gb184, 2, none⟩ = some (.int .u32 0) := (Z5 BK184.out 2).trans rfl; have hcz49_3 : wc.cell? ⟨gb184, 3, none⟩ = some (.bool false) := (Z5 BK184.out 3).trans rfl; have hcz49_4 : wc.cell? ⟨gb184, 4, none⟩ = some (.int .i64 a1) := (Z5 BK184.out 4).trans rfl; have hcz49_5 : wc.cell? ⟨gb184, 5, none⟩ = some (.int .i64 0) := (Z5 BK184.out 5).trans rfl; have hfz49_0 := Z2 BK184.out 0; have hfz49_1 := Z2 BK184.out 1; have hfz49_2 := Z2 BK184.out 2; have hfz49_3 := Z2 BK184.out 3; have hfz49_4 := Z2 BK184.out 4; have hfz49_5 := Z2 BK184.out 5; have hcz50_0 : wc.cell? ⟨gb183, 0, none⟩ = some (.int .i64 0) := (Z5 BK183.out 0).trans rfl; have hcz50_1 : wc.cell? ⟨gb183, 1, none⟩ = some (.string (⟨#[]⟩ : ByteArray)) := (Z5 BK183.out 1).trans rfl; have hcz50_2 : wc.cell? ⟨gb183, 2, none⟩ = some (.int .u32 0) := (Z5 BK183.out 2).trans rfl; have hcz50_3 : wc.cell? ⟨gb183, 3, none⟩ = some (.bool false) := (Z5 BK183.out 3).trans rfl; have hcz50_4 : wc.cell? ⟨gb183, 4, none⟩ = some (.int .i64 0) := (Z5 BK183.out 4).trans rfl; have hcz50_5 : wc.cell? ⟨gb183, 5, none⟩ = some (.int .i64 0) := (Z5 BK183.out 5).trans rfl; have hfz50_0 := Z2 BK183.out 0; have hfz50_1 := Z2 BK183.out 1; have hfz50_2 := Z2 BK183.out 2; have hfz50_3 := Z2 BK183.out 3; have hfz50_4 := Z2 BK183.out 4; have hfz50_5 := Z2 BK183.out 5))
                       refine bodyPost_ret (Z46 rfl _ _ gb183 24 #[.int .i64 5, .string (⟨#[]⟩ : ByteArray), .int .u32 ((x10_3) % 4294967296), .bool (decide (x10_3 ≥ 2147483648)), .int .i64 a1, .int .i64 x8_36] (0, 0) _ rfl (by (with_reducible repeat (first | refine Z0 ?_ _ | refine Z3 ?_ | refine Z1 ?_ _)); refine Z9 (cs := #[.int .i64 5, .string (⟨#[]⟩ : ByteArray), .int .u32 ((x10_3) % 4294967296), .bool (decide (x10_3 ≥ 2147483648)), .int .i64 a1, .int .i64 0]) ?_ 5 _ rfl; (with_reducible repeat (first | refine Z0 ?_ _ | refine Z3 ?_ | refine Z1 ?_ _)); refine Z9 (cs := #[.int .i64 5, .string (⟨#[]⟩ : ByteArray), .int .u32 ((x10_3) % 4294967296), .bool (decide (x10_3 ≥ 2147483648)), .int .i64 0, .int .i64 0]) ?_ 4 _ rfl; (with_reducible repeat (first | refine Z0 ?_ _ | refine Z3 ?_ | refine Z1 ?_ _)); refine Z9 (cs := #[.int .i64 5, .string (⟨#[]⟩ : ByteArray), .int .u32 ((x10_3) % 4294967296), .bool false, .int .i64 0, .int .i64 0]) ?_ 3 _ rfl; (with_reducible repeat (first | refine Z0 ?_ _ | refine Z3 ?_ | refine Z1 ?_ _)); refine Z9 (cs := #[.int .i64 5, .string (⟨#[]⟩ : ByteArray), .int .u32 0, .bool false, .int .i64 0, .int .i64 0]) ?_ 2 _ rfl; (with_reducible repeat (first | refine Z0 ?_ _ | refine Z3 ?_ | refine Z1 ?_ _)); refine Z9 (cs := #[.int .i64 5, .string (⟨#[]⟩ : ByteArray), .int .u32 0, .bool false, .int .i64 0, .int .i64 0]) ?_ 1 _ rfl; (with_reducible repeat (first | refine Z0 ?_ _ | refine Z3 ?_ | refine Z1 ?_ _)); refine Z9 (cs := #[.int .i64 0, .string (⟨#[]⟩ : ByteArray), .int .u32 0, .bool false, .int .i64 0, .int .i64 0]) ?_ 0 _ rfl; (with_reducible repeat (first | refine Z0 ?_ _ | refine Z3 ?_ | refine Z1 ?_ _)); refine Z22 ?_ NB183_184.out _; (with_reducible repeat (first | refine Z0 ?_ _ | refine Z3 ?_ | refine Z1 ?_ _)); refine Z22 ?_ NB183_184.out _; (with_reducible repeat (first | refine Z0 ?_ _ | refine Z3 ?_ | refine Z1 ?_ _)); refine Z22 ?_ NB183_184.out _; (with_reducible repeat (first | refine Z0 ?_ _ | refine Z3 ?_ | refine Z1 ?_ _)); exact BK183.out) Tryd.underlying24 rfl (by kernel_rfl)) rfl ?_
                       exact ⟨by first | rfl | (simp [Z16, Z15] <;> rfl) | (simp [*, Z16, Z15] <;> rfl), by repeat (first | (with_reducible first | exact HB.out | apply Z7 | apply Z4 | apply Z6 | refine Z8 ?_ GE183.out | refine Z8 ?_ GE184.out) | exact HB.out)⟩
                   · replace c43 := Bool.eq_false_iff.mpr c43
                     subst c43
                     have H1 : ((Z34.f a0 x8_36).bind fun t193 => ((Z33.f t193).bind fun t194 => (if t194 = true then (if x185003_36 = true then (some (5, (⟨#[]⟩ : ByteArray), (x10_3) % 4294967296, true, a1, x8_36, false)) else (some (5, (⟨#[]⟩ : ByteArray), (x10_3) % 4294967296, decide (x10_3 ≥ 2147483648), a1, x8_36, false))) else (if x185003_36 = true then (some (5, (⟨#[]⟩ : ByteArray), (x10_3) % 4294967296, true, a1, x8_36, x11_30)) else (some (5, (⟨#[]⟩ : ByteArray), (x10_3) % 4294967296, decide (x10_3 ≥ 2147483648), a1, x8_36, x11_30)))))) = some (r1, r2, r3, r4, r5, r6, r7) := by rw [if_neg (show ¬ (false = true) by decide)] at H; exact H
                     clear H
                     have H := H1
                     clear H1
                     replace H := Option.bind_eq_some_iff.mp H
                     obtain ⟨t193, A510, H⟩ := H
                     replace H : ((Z33.f t193).bind fun t194 => (if t194 = true then (if x185003_36 = true then (some (5, (⟨#[]⟩ : ByteArray), (x10_3) % 4294967296, true, a1, x8_36, false)) else (some (5, (⟨#[]⟩ : ByteArray), (x10_3) % 4294967296, decide (x10_3 ≥ 2147483648), a1, x8_36, false))) else (if x185003_36 = true then (some (5, (⟨#[]⟩ : ByteArray), (x10_3) % 4294967296, true, a1, x8_36, x11_30)) else (some (5, (⟨#[]⟩ : ByteArray), (x10_3) % 4294967296, decide (x10_3 ≥ 2147483648), a1, x8_36, x11_30))))) = some (r1, r2, r3, r4, r5, r6, r7) := H
                     have A51 := Aside0.mk A510
                     clear A510
                     replace H := Option.bind_eq_some_iff.mp H
                     obtain ⟨t194, A520, H⟩ := H
                     replace H : (if t194 = true then (if x185003_36 = true then (some (5, (⟨#[]⟩ : ByteArray), (x10_3) % 4294967296, true, a1, x8_36, false)) else (some (5, (⟨#[]⟩ : ByteArray), (x10_3) % 4294967296, decide (x10_3 ≥ 2147483648), a1, x8_36, false))) else (if x185003_36 = true then (some (5, (⟨#[]⟩ : ByteArray), (x10_3) % 4294967296, true, a1, x8_36, x11_30)) else (some (5, (⟨#[]⟩ : ByteArray), (x10_3) % 4294967296, decide (x10_3 ≥ 2147483648), a1, x8_36, x11_30)))) = some (r1, r2, r3, r4, r5, r6, r7) := H
                     have A52 := Aside0.mk A520
                     clear A520
                     by_cases c53 : t194 = true
                     · subst c53
                       have H1 : (if x185003_36 = true then (some (5, (⟨#[]⟩ : ByteArray), (x10_3) % 4294967296, true, a1, x8_36, false)) else (some (5, (⟨#[]⟩ : ByteArray), (x10_3) % 4294967296, decide (x10_3 ≥ 2147483648), a1, x8_36, false))) = some (r1, r2, r3, r4, r5, r6, r7) := by rw [if_pos rfl] at H; exact H
                       clear H
                       have H := H1
                       clear H1
                       by_cases c54 : x185003_36 = true
                       · subst c54
                         have H1 : (some (5, (⟨#[]⟩ : ByteArray), (x10_3) % 4294967296, true, a1, x8_36, false)) = some (r1, r2, r3, r4, r5, r6, r7) := by rw [if_pos rfl] at H; exact H
                         clear H
                         have H := H1
                         clear H1
                         simp only [Option.some.injEq, Prod.mk.injEq] at H
                         obtain ⟨rfl, rfl, rfl, rfl, rfl, rfl, rfl⟩ := H
                         go_wp2_with (first | ((with_reducible refine Z14 (f := 48) rfl ?_); refine goesL_ (some 86) rfl rfl Tryd.func48 (by kernel_rfl) rfl #[.string a0, .int .i64 x8_36] rfl (by (try simp only [List.map_toArray, List.map_cons, List.map_nil]); first | done | rfl | (simp only [List.length_drop, List.length_take]; rfl)) ?_; (with_reducible refine (Z34.calls a0 x8_36 t191 _ A41.out).mono ?_); rintro e w' ⟨rfl, ⟨nd, rfl⟩⟩; refine ⟨_, rfl, ?_⟩; (try (rw [Z43 wc]; generalize hq_ : World.drewN wc _ = wc; have n0_ : Aside0 (wc.heap[gb183]? = some (.cells #[.int .i64 0, .string (⟨#[]⟩ : ByteArray), .int .u32 0, .bool false, .int .i64 0, .int .i64 0] 24 (0, 0))) := ⟨by rw [← hq_]; exact (by (with_reducible repeat (first | refine Z0 ?_ _ | refine Z3 ?_ | refine Z1 ?_ _)); exact BK183.out)⟩; have n1_ : Aside0 (wc.heap[gb184]? = some (.cells #[.int .i64 5, .string (⟨#[]⟩ : ByteArray), .int .u32 0, .bool true, .int .i64 a1, .int .i64 0] 24 (0, 0))) := ⟨by rw [← hq_]; exact (by (with_reducible repeat (first | refine Z0 ?_ _ | refine Z3 ?_ | refine Z1 ?_ _)); exact BK184.out)⟩; have n2_ : Aside0 (Below w.heap.size w wc) := ⟨by rw [← hq_]; exact (by repeat (first | (with_reducible first | exact HB.out | apply Z7 | apply Z4 | apply Z6 | refine Z8 ?_ GE183.out | refine Z8 ?_ GE184.out) | exact HB.out))⟩; clear BK183 BK184 HB hq_; have BK183 := n0_; have BK184 := n1_; have HB := n2_; clear n0_ n1_ n2_))) | ((with_reducible refine Z14 (f := 31) rfl ?_); refine goesL_ (some 87) rfl rfl Tryd.func31 (by kernel_rfl) rfl #[.int .u8 t191] rfl (by (try simp only [List.map_toArray, List.map_cons, List.map_nil]); first | done | rfl | (simp only [List.length_drop, List.length_take]; rfl)) ?_; (with_reducible refine (Z35.calls t191 false _ A42.out).mono ?_); rintro e w' ⟨rfl, ⟨nd, rfl⟩⟩; refine ⟨_, rfl, ?_⟩; (try (rw [Z43 wc]; generalize hq_ : World.drewN wc _ = wc; have n0_ : Aside0 (wc.heap[gb183]? = some (.cells #[.int .i64 0, .string (⟨#[]⟩ : ByteArray), .int .u32 0, .bool false, .int .i64 0, .int .i64 0] 24 (0, 0))) := ⟨by rw [← hq_]; exact (by (with_reducible repeat (first | refine Z0 ?_ _ | refine Z3 ?_ | refine Z1 ?_ _)); exact BK183.out)⟩; have n1_ : Aside0 (wc.heap[gb184]? = some (.cells #[.int .i64 5, .string (⟨#[]⟩ : ByteArray), .int .u32 0, .bool true, .int .i64 a1, .int .i64 0] 24 (0, 0))) := ⟨by rw [← hq_]; exact (by (with_reducible repeat (first | refine Z0 ?_ _ | refine Z3 ?_ | refine Z1 ?_ _)); exact BK184.out)⟩; have n2_ : Aside0 (Below w.heap.size w wc) := ⟨by rw [← hq_]; exact (by repeat (first | (with_reducible first | exact HB.out | apply Z7 | apply Z4 | apply Z6 | refine Z8 ?_ GE183.out | refine Z8 ?_ GE184.out) | exact HB.out))⟩; clear BK183 BK184 HB hq_; have BK183 := n0_; have BK184 := n1_; have HB := n2_; clear n0_ n1_ n2_))) | (go_at_call 48; (with_reducible refine (Z34.calls a0 x8_36 t193 _ A51.out).mono ?_); rintro e w' ⟨rfl, ⟨nd, rfl⟩⟩; (try (rw [Z43 wc]; generalize hq_ : World.drewN wc _ = wc; have n0_ : Aside0 (wc.heap[gb183]? = some (.cells #[.int .i64 0, .string (⟨#[]⟩ : ByteArray), .int .u32 0, .bool false, .int .i64 0, .int .i64 0] 24 (0, 0))) := ⟨by rw [← hq_]; exact (by (with_reducible repeat (first | refine Z0 ?_ _ | refine Z3 ?_ | refine Z1 ?_ _)); exact BK183.out)⟩; have n1_ : Aside0 (wc.heap[gb184]? = some (.cells #[.int .i64 5, .string (⟨#[]⟩ : ByteArray), .int .u32 0, .bool true, .int .i64 a1, .int .i64 0] 24 (0, 0))) := ⟨by rw [← hq_]; exact (by (with_reducible repeat (first | refine Z0 ?_ _ | refine Z3 ?_ | refine Z1 ?_ _)); exact BK184.out)⟩; have n2_ : Aside0 (Below w.heap.size w wc) := ⟨by rw [← hq_]; exact (by repeat (first | (with_reducible first | exact HB.out | apply Z7 | apply Z4 | apply Z6 | refine Z8 ?_ GE183.out | refine Z8 ?_ GE184.out) | exact HB.out))⟩; clear BK183 BK184 HB hq_; have BK183 := n0_; have BK184 := n1_; have HB := n2_; clear n0_ n1_ n2_))) | (go_at_call 32; (with_reducible refine (Z33.calls t193 true _ A52.out).mono ?_); rintro e w' ⟨rfl, ⟨nd, rfl⟩⟩; (try (rw [Z43 wc]; generalize hq_ : World.drewN wc _ = wc; have n0_ : Aside0 (wc.heap[gb183]? = some (.cells #[.int .i64 0, .string (⟨#[]⟩ : ByteArray), .int .u32 0, .bool false, .int .i64 0, .int .i64 0] 24 (0, 0))) := ⟨by rw [← hq_]; exact (by (with_reducible repeat (first | refine Z0 ?_ _ | refine Z3 ?_ | refine Z1 ?_ _)); exact BK183.out)⟩; have n1_ : Aside0 (wc.heap[gb184]? = some (.cells #[.int .i64 5, .string (⟨#[]⟩ : ByteArray), .int .u32 0, .bool true, .int .i64 a1, .int .i64 0] 24 (0, 0))) := ⟨by rw [← hq_]; exact (by (with_reducible repeat (first | refine Z0 ?_ _ | refine Z3 ?_ | refine Z1 ?_ _)); exact BK184.out)⟩; have n2_ : Aside0 (Below w.heap.size w wc) := ⟨by rw [← hq_]; exact (by repeat (first | (with_reducible first | exact HB.out | apply Z7 | apply Z4 | apply Z6 | refine Z8 ?_ GE183.out | refine Z8 ?_ GE184.out) | exact HB.out))⟩; clear BK183 BK184 HB hq_; have BK183 := n0_; have BK184 := n1_; have HB := n2_; clear n0_ n1_ n2_)); have hnb55 := NB184_183.out; have hnc55 := NB183_184.out; have hcz56_0 : wc.cell? ⟨gb184, 0, none⟩ = some (.int .i64 5) := (Z5 BK184.out 0).trans rfl; have hcz56_1 : wc.cell? ⟨gb184, 1, none⟩ = some (.string (⟨#[]⟩ : ByteArray)) := (Z5 BK184.out 1).trans rfl; have hcz56_2 : wc.cell? ⟨gb184, 2, none⟩ = some (.int .u32 0) := (Z5 BK184.out 2).trans rfl; have hcz56_3 : wc.cell? ⟨gb184, 3, none⟩ = some (.bool true) := (Z5 BK184.out 3).trans rfl; have hcz56_4 : wc.cell? ⟨gb184, 4, none⟩ = some (.int .i64 a1) := (Z5 BK184.out 4).trans rfl; have hcz56_5 : wc.cell? ⟨gb184, 5, none⟩ = some (.int .i64 0) := (Z5 BK184.out 5).trans rfl; have hfz56_0 := Z2 BK184.out 0; have hfz56_1 := Z2 BK184.out 1; have hfz56_2 := Z2 BK184.out 2; have hfz56_3 := Z2 BK184.out 3; have hfz56_4 := Z2 BK184.out 4; have hfz56_5 := Z2 BK184.out 5; have hcz57_0 : wc.cell? ⟨gb183, 0, none⟩ = some (.int .i64 0) := (Z5 BK183.out 0).trans rfl; have hcz57_1 : wc.cell? ⟨gb183, 1, none⟩ = some (.string (⟨#[]⟩ : ByteArray)) := (Z5 BK183.out 1).trans rfl; have hcz57_2 : wc.cell? ⟨gb183, 2, none⟩ = some (.int .u32 0) := (Z5 BK183.out 2).trans rfl; have hcz57_3 : wc.cell? ⟨gb183, 3, none⟩ = some (.bool false) := (Z5 BK183.out 3).trans rfl; have hcz57_4 : wc.cell? ⟨gb183, 4, none⟩ = some (.int .i64 0) := (Z5 BK183.out 4).trans rfl; have hcz57_5 : wc.cell? ⟨gb183, 5, none⟩ = some (.int .i64 0) := (Z5 BK183.out 5).trans rfl; have hfz57_0 := Z2 BK183.out 0; have hfz57_1 := Z2 BK183.out 1; have hfz57_2 := Z2 BK183.out 2; have hfz57_3 := Z2 BK183.out 3; have hfz57_4 := Z2 BK183.out 4; have hfz57_5 := Z2 BK183.out 5))
                         refine bodyPost_ret (Z46 rfl _ _ gb183 24 #[.int .i64 5, .string (⟨#[]⟩ : ByteArray), .int .u32 ((x10_3) % 4294967296), .bool true, .int .i64 a1, .int .i64 x8_36] (0, 0) _ rfl (by (with_reducible repeat (first | refine Z0 ?_ _ | refine Z3 ?_ | refine Z1 ?_ _)); refine Z9 (cs := #[.int .i64 5, .string (⟨#[]⟩ : ByteArray), .int .u32 ((x10_3) % 4294967296), .bool true, .int .i64 a1, .int .i64 0]) ?_ 5 _ rfl; (with_reducible repeat (first | refine Z0 ?_ _ | refine Z3 ?_ | refine Z1 ?_ _)); refine Z9 (cs := #[.int .i64 5, .string (⟨#[]⟩ : ByteArray), .int .u32 ((x10_3) % 4294967296), .bool true, .int .i64 0, .int .i64 0]) ?_ 4 _ rfl; (with_reducible repeat (first | refine Z0 ?_ _ | refine Z3 ?_ | refine Z1 ?_ _)); refine Z9 (cs := #[.int .i64 5, .string (⟨#[]⟩ : ByteArray), .int .u32 ((x10_3) % 4294967296), .bool false, .int .i64 0, .int .i64 0]) ?_ 3 _ rfl; (with_reducible repeat (first | refine Z0 ?_ _ | refine Z3 ?_ | refine Z1 ?_ _)); refine Z9 (cs := #[.int .i64 5, .string (⟨#[]⟩ : ByteArray), .int .u32 0, .bool false, .int .i64 0, .int .i64 0]) ?_ 2 _ rfl; (with_reducible repeat (first | refine Z0 ?_ _ | refine Z3 ?_ | refine Z1 ?_ _)); refine Z9 (cs := #[.int .i64 5, .string (⟨#[]⟩ : ByteArray), .int .u32 0, .bool false, .int .i64 0, .int .i64 0]) ?_ 1 _ rfl; (with_reducible repeat (first | refine Z0 ?_ _ | refine Z3 ?_ | refine Z1 ?_ _)); refine Z9 (cs := #[.int .i64 0, .string (⟨#[]⟩ : ByteArray), .int .u32 0, .bool false, .int .i64 0, .int .i64 0]) ?_ 0 _ rfl; (with_reducible repeat (first | refine Z0 ?_ _ | refine Z3 ?_ | refine Z1 ?_ _)); refine Z22 ?_ NB183_184.out _; (with_reducible repeat (first | refine Z0 ?_ _ | refine Z3 ?_ | refine Z1 ?_ _)); refine Z22 ?_ NB183_184.out _; (with_reducible repeat (first | refine Z0 ?_ _ | refine Z3 ?_ | refine Z1 ?_ _)); refine Z22 ?_ NB183_184.out _; (with_reducible repeat (first | refine Z0 ?_ _ | refine Z3 ?_ | refine Z1 ?_ _)); exact BK183.out) Tryd.underlying24 rfl (by kernel_rfl)) rfl ?_
                         exact ⟨by first | rfl | (simp [Z16, Z15] <;> rfl) | (simp [*, Z16, Z15] <;> rfl), by repeat (first | (with_reducible first | exact HB.out | apply Z7 | apply Z4 | apply Z6 | refine Z8 ?_ GE183.out | refine Z8 ?_ GE184.out) | exact HB.out)⟩
                       · replace c54 := Bool.eq_false_iff.mpr c54
                         subst c54
                         have H1 : (some (5, (⟨#[]⟩ : ByteArray), (x10_3) % 4294967296, decide (x10_3 ≥ 2147483648), a1, x8_36, false)) = some (r1, r2, r3, r4, r5, r6, r7) := by rw [if_neg (show ¬ (false = true) by decide)] at H; exact H
                         clear H
                         have H := H1
                         clear H1
                         simp only [Option.some.injEq, Prod.mk.injEq] at H
                         obtain ⟨rfl, rfl, rfl, rfl, rfl, rfl, rfl⟩ := H
                         go_wp2_with (first | ((with_reducible refine Z14 (f := 48) rfl ?_); refine goesL_ (some 86) rfl rfl Tryd.func48 (by kernel_rfl) rfl #[.string a0, .int .i64 x8_36] rfl (by (try simp only [List.map_toArray, List.map_cons, List.map_nil]); first | done | rfl | (simp only [List.length_drop, List.length_take]; rfl)) ?_; (with_reducible refine (Z34.calls a0 x8_36 t191 _ A41.out).mono ?_); rintro e w' ⟨rfl, ⟨nd, rfl⟩⟩; refine ⟨_, rfl, ?_⟩; (try (rw [Z43 wc]; generalize hq_ : World.drewN wc _ = wc; have n0_ : Aside0 (wc.heap[gb183]? = some (.cells #[.int .i64 0, .string (⟨#[]⟩ : ByteArray), .int .u32 0, .bool false, .int .i64 0, .int .i64 0] 24 (0, 0))) := ⟨by rw [← hq_]; exact (by (with_reducible repeat (first | refine Z0 ?_ _ | refine Z3 ?_ | refine Z1 ?_ _)); exact BK183.out)⟩; have n1_ : Aside0 (wc.heap[gb184]? = some (.cells #[.int .i64 5, .string (⟨#[]⟩ : ByteArray), .int .u32 0, .bool false, .int .i64 a1, .int .i64 0] 24 (0, 0))) := ⟨by rw [← hq_]; exact (by (with_reducible repeat (first | refine Z0 ?_ _ | refine Z3 ?_ | refine Z1 ?_ _)); exact BK184.out)⟩; have n2_ : Aside0 (Below w.heap.size w wc) := ⟨by rw [← hq_]; exact (by repeat (first | (with_reducible first | exact HB.out | apply Z7 | apply Z4 | apply Z6 | refine Z8 ?_ GE183.out | refine Z8 ?_ GE184.out) | exact HB.out))⟩; clear BK183 BK184 HB hq_; have BK183 := n0_; have BK184 := n1_; have HB := n2_; clear n0_ n1_ n2_))) | ((with_reducible refine Z14 (f := 31) rfl ?_); refine goesL_ (some 87) rfl rfl Tryd.func31 (by kernel_rfl) rfl #[.int .u8 t191] rfl (by (try simp only [List.map_toArray, List.map_cons, List.map_nil]); first | done | rfl | (simp only [List.length_drop, List.length_take]; rfl)) ?_; (with_reducible refine (Z35.calls t191 false _ A42.out).mono ?_); rintro e w' ⟨rfl, ⟨nd, rfl⟩⟩; refine ⟨_, rfl, ?_⟩; (try (rw [Z43 wc]; generalize hq_ : World.drewN wc _ = wc; have n0_ : Aside0 (wc.heap[gb183]? = some (.cells #[.int .i64 0, .string (⟨#[]⟩ : ByteArray), .int .u32 0, .bool false, .int .i64 0, .int .i64 0] 24 (0, 0))) := ⟨by rw [← hq_]; exact (by (with_reducible repeat (first | refine Z0 ?_ _ | refine Z3 ?_ | refine Z1 ?_ _)); exact BK183.out)⟩; have n1_ : Aside0 (wc.heap[gb184]? = some (.cells #[.int .i64 5, .string (⟨#[]⟩ : ByteArray), .int .u32 0, .bool false, .int .i64 a1, .int .i64 0] 24 (0, 0))) := ⟨by rw [← hq_]; exact (by (with_reducible repeat (first | refine Z0 ?_ _ | refine Z3 ?_ | refine Z1 ?_ _)); exact BK184.out)⟩; have n2_ : Aside0 (Below w.heap.size w wc) := ⟨by rw [← hq_]; exact (by repeat (first | (with_reducible first | exact HB.out | apply Z7 | apply Z4 | apply Z6 | refine Z8 ?_ GE183.out | refine Z8 ?_ GE184.out) | exact HB.out))⟩; clear BK183 BK184 HB hq_; have BK183 := n0_; have BK184 := n1_; have HB := n2_; clear n0_ n1_ n2_))) | (go_at_call 48; (with_reducible refine (Z34.calls a0 x8_36 t193 _ A51.out).mono ?_); rintro e w' ⟨rfl, ⟨nd, rfl⟩⟩; (try (rw [Z43 wc]; generalize hq_ : World.drewN wc _ = wc; have n0_ : Aside0 (wc.heap[gb183]? = some (.cells #[.int .i64 0, .string (⟨#[]⟩ : ByteArray), .int .u32 0, .bool false, .int .i64 0, .int .i64 0] 24 (0, 0))) := ⟨by rw [← hq_]; exact (by (with_reducible repeat (first | refine Z0 ?_ _ | refine Z3 ?_ | refine Z1 ?_ _)); exact BK183.out)⟩; have n1_ : Aside0 (wc.heap[gb184]? = some (.cells #[.int .i64 5, .string (⟨#[]⟩ : ByteArray), .int .u32 0, .bool false, .int .i64 a1, .int .i64 0] 24 (0, 0))) := ⟨by rw [← hq_]; exact (by (with_reducible repeat (first | refine Z0 ?_ _ | refine Z3 ?_ | refine Z1 ?_ _)); exact BK184.out)⟩; have n2_ : Aside0 (Below w.heap.size w wc) := ⟨by rw [← hq_]; exact (by repeat (first | (with_reducible first | exact HB.out | apply Z7 | apply Z4 | apply Z6 | refine Z8 ?_ GE183.out | refine Z8 ?_ GE184.out) | exact HB.out))⟩; clear BK183 BK184 HB hq_; have BK183 := n0_; have BK184 := n1_; have HB := n2_; clear n0_ n1_ n2_))) | (go_at_call 32; (with_reducible refine (Z33.calls t193 true _ A52.out).mono ?_); rintro e w' ⟨rfl, ⟨nd, rfl⟩⟩; (try (rw [Z43 wc]; generalize hq_ : World.drewN wc _ = wc; have n0_ : Aside0 (wc.heap[gb183]? = some (.cells #[.int .i64 0, .string (⟨#[]⟩ : ByteArray), .int .u32 0, .bool false, .int .i64 0, .int .i64 0] 24 (0, 0))) := ⟨by rw [← hq_]; exact (by (with_reducible repeat (first | refine Z0 ?_ _ | refine Z3 ?_ | refine Z1 ?_ _)); exact BK183.out)⟩; have n1_ : Aside0 (wc.heap[gb184]? = some (.cells #[.int .i64 5, .string (⟨#[]⟩ : ByteArray), .int .u32 0, .bool false, .int .i64 a1, .int .i64 0] 24 (0, 0))) := ⟨by rw [← hq_]; exact (by (with_reducible repeat (first | refine Z0 ?_ _ | refine Z3 ?_ | refine Z1 ?_ _)); exact BK184.out)⟩; have n2_ : Aside0 (Below w.heap.size w wc) := ⟨by rw [← hq_]; exact (by repeat (first | (with_reducible first | exact HB.out | apply Z7 | apply Z4 | apply Z6 | refine Z8 ?_ GE183.out | refine Z8 ?_ GE184.out) | exact HB.out))⟩; clear BK183 BK184 HB hq_; have BK183 := n0_; have BK184 := n1_; have HB := n2_; clear n0_ n1_ n2_)); have hnb58 := NB184_183.out; have hnc58 := NB183_184.out; have hcz59_0 : wc.cell? ⟨gb184, 0, none⟩ = some (.int .i64 5) := (Z5 BK184.out 0).trans rfl; have hcz59_1 : wc.cell? ⟨gb184, 1, none⟩ = some (.string (⟨#[]⟩ : ByteArray)) := (Z5 BK184.out 1).trans rfl; have hcz59_2 : wc.cell? ⟨gb184, 2, none⟩ = some (.int .u32 0) := (Z5 BK184.out 2).trans rfl; have hcz59_3 : wc.cell? ⟨gb184, 3, none⟩ = some (.bool false) := (Z5 BK184.out 3).trans rfl; have hcz59_4 : wc.cell? ⟨gb184, 4, none⟩ = some (.int .i64 a1) := (Z5 BK184.out 4).trans rfl; have hcz59_5 : wc.cell? ⟨gb184, 5, none⟩ = some (.int .i64 0) := (Z5 BK184.out 5).trans rfl; have hfz59_0 := Z2 BK184.out 0; have hfz59_1 := Z2 BK184.out 1; have hfz59_2 := Z2 BK184.out 2; have hfz59_3 := Z2 BK184.out 3; have hfz59_4 := Z2 BK184.out 4; have hfz59_5 := Z2 BK184.out 5; have hcz60_0 : wc.cell? ⟨gb183, 0, none⟩ = some (.int .i64 0) := (Z5 BK183.out 0).trans rfl; have hcz60_1 : wc.cell? ⟨gb183, 1, none⟩ = some (.string (⟨#[]⟩ : ByteArray)) := (Z5 BK183.out 1).trans rfl; have hcz60_2 : wc.cell? ⟨gb183, 2, none⟩ = some (.int .u32 0) := (Z5 BK183.out 2).trans rfl; have hcz60_3 : wc.cell? ⟨gb183, 3, none⟩ = some (.bool false) := (Z5 BK183.out 3).trans rfl; have hcz60_4 : wc.cell? ⟨gb183, 4, none⟩ = some (.int .i64 0) := (Z5 BK183.out 4).trans rfl; have hcz60_5 : wc.cell? ⟨gb183, 5, none⟩ = some (.int .i64 0) := (Z5 BK183.out 5).trans rfl; have hfz60_0 := Z2 BK183.out 0; have hfz60_1 := Z2 BK183.out 1; have hfz60_2 := Z2 BK183.out 2; have hfz60_3 := Z2 BK183.out 3; have hfz60_4 := Z2 BK183.out 4; have hfz60_5 := Z2 BK183.out 5))
                         refine bodyPost_ret (Z46 rfl _ _ gb183 24 #[.int .i64 5, .string (⟨#[]⟩ : ByteArray), .int .u32 ((x10_3) % 4294967296), .bool (decide (x10_3 ≥ 2147483648)), .int .i64 a1, .int .i64 x8_36] (0, 0) _ rfl (by (with_reducible repeat (first | refine Z0 ?_ _ | refine Z3 ?_ | refine Z1 ?_ _)); refine Z9 (cs := #[.int .i64 5, .string (⟨#[]⟩ : ByteArray), .int .u32 ((x10_3) % 4294967296), .bool (decide (x10_3 ≥ 2147483648)), .int .i64 a1, .int .i64 0]) ?_ 5 _ rfl; (with_reducible repeat (first | refine Z0 ?_ _ | refine Z3 ?_ | refine Z1 ?_ _)); refine Z9 (cs := #[.int .i64 5, .string (⟨#[]⟩ : ByteArray), .int .u32 ((x10_3) % 4294967296), .bool (decide (x10_3 ≥ 2147483648)), .int .i64 0, .int .i64 0]) ?_ 4 _ rfl; (with_reducible repeat (first | refine Z0 ?_ _ | refine Z3 ?_ | refine Z1 ?_ _)); refine Z9 (cs := #[.int .i64 5, .string (⟨#[]⟩ : ByteArray), .int .u32 ((x10_3) % 4294967296), .bool false, .int .i64 0, .int .i64 0]) ?_ 3 _ rfl; (with_reducible repeat (first | refine Z0 ?_ _ | refine Z3 ?_ | refine Z1 ?_ _)); refine Z9 (cs := #[.int .i64 5, .string (⟨#[]⟩ : ByteArray), .int .u32 0, .bool false, .int .i64 0, .int .i64 0]) ?_ 2 _ rfl; (with_reducible repeat (first | refine Z0 ?_ _ | refine Z3 ?_ | refine Z1 ?_ _)); refine Z9 (cs := #[.int .i64 5, .string (⟨#[]⟩ : ByteArray), .int .u32 0, .bool false, .int .i64 0, .int .i64 0]) ?_ 1 _ rfl; (with_reducible repeat (first | refine Z0 ?_ _ | refine Z3 ?_ | refine Z1 ?_ _)); refine Z9 (cs := #[.int .i64 0, .string (⟨#[]⟩ : ByteArray), .int .u32 0, .bool false, .int .i64 0, .int .i64 0]) ?_ 0 _ rfl; (with_reducible repeat (first | refine Z0 ?_ _ | refine Z3 ?_ | refine Z1 ?_ _)); refine Z22 ?_ NB183_184.out _; (with_reducible repeat (first | refine Z0 ?_ _ | refine Z3 ?_ | refine Z1 ?_ _)); refine Z22 ?_ NB183_184.out _; (with_reducible repeat (first | refine Z0 ?_ _ | refine Z3 ?_ | refine Z1 ?_ _)); refine Z22 ?_ NB183_184.out _; (with_reducible repeat (first | refine Z0 ?_ _ | refine Z3 ?_ | refine Z1 ?_ _)); exact BK183.out) Tryd.underlying24 rfl (by kernel_rfl)) rfl ?_
                         exact ⟨by first | rfl | (simp [Z16, Z15] <;> rfl) | (simp [*, Z16, Z15] <;> rfl), by repeat (first | (with_reducible first | exact HB.out | apply Z7 | apply Z4 | apply Z6 | refine Z8 ?_ GE183.out | refine Z8 ?_ GE184.out) | exact HB.out)⟩
                     · replace c53 := Bool.eq_false_iff.mpr c53
                       subst c53
                       have H1 : (if x185003_36 = true then (some (5, (⟨#[]⟩ : ByteArray), (x10_3) % 4294967296, true, a1, x8_36, x11_30)) else (some (5, (⟨#[]⟩ : ByteArray), (x10_3) % 4294967296, decide (x10_3 ≥ 2147483648), a1, x8_36, x11_30))) = some (r1, r2, r3, r4, r5, r6, r7) := by rw [if_neg (show ¬ (false = true) by decide)] at H; exact H
                       clear H
                       have H := H1
                       clear H1
                       by_cases c61 : x185003_36 = true
                       · subst c61
                         have H1 : (some (5, (⟨#[]⟩ : ByteArray), (x10_3) % 4294967296, true, a1, x8_36, x11_30)) = some (r1, r2, r3, r4, r5, r6, r7) := by rw [if_pos rfl] at H; exact H
                         clear H
                         have H := H1
                         clear H1
                         simp only [Option.some.injEq, Prod.mk.injEq] at H
                         obtain ⟨rfl, rfl, rfl, rfl, rfl, rfl, rfl⟩ := H
                         go_wp2_with (first | ((with_reducible refine Z14 (f := 48) rfl ?_); refine goesL_ (some 86) rfl rfl Tryd.func48 (by kernel_rfl) rfl #[.string a0, .int .i64 x8_36] rfl (by (try simp only [List.map_toArray, List.map_cons, List.map_nil]); first | done | rfl | (simp only [List.length_drop, List.length_take]; rfl)) ?_; (with_reducible refine (Z34.calls a0 x8_36 t191 _ A41.out).mono ?_); rintro e w' ⟨rfl, ⟨nd, rfl⟩⟩; refine ⟨_, rfl, ?_⟩; (try (rw [Z43 wc]; generalize hq_ : World.drewN wc _ = wc; have n0_ : Aside0 (wc.heap[gb183]? = some (.cells #[.int .i64 0, .string (⟨#[]⟩ : ByteArray), .int .u32 0, .bool false, .int .i64 0, .int .i64 0] 24 (0, 0))) := ⟨by rw [← hq_]; exact (by (with_reducible repeat (first | refine Z0 ?_ _ | refine Z3 ?_ | refine Z1 ?_ _)); exact BK183.out)⟩; have n1_ : Aside0 (wc.heap[gb184]? = some (.cells #[.int .i64 5, .string (⟨#[]⟩ : ByteArray), .int .u32 0, .bool true, .int .i64 a1, .int .i64 0] 24 (0, 0))) := ⟨by rw [← hq_]; exact (by (with_reducible repeat (first | refine Z0 ?_ _ | refine Z3 ?_ | refine Z1 ?_ _)); exact BK184.out)⟩; have n2_ : Aside0 (Below w.heap.size w wc) := ⟨by rw [← hq_]; exact (by repeat (first | (with_reducible first | exact HB.out | apply Z7 | apply Z4 | apply Z6 | refine Z8 ?_ GE183.out | refine Z8 ?_ GE184.out) | exact HB.out))⟩; clear BK183 BK184 HB hq_; have BK183 := n0_; have BK184 := n1_; have HB := n2_; clear n0_ n1_ n2_))) | ((with_reducible refine Z14 (f := 31) rfl ?_); refine goesL_ (some 87) rfl rfl Tryd.func31 (by kernel_rfl) rfl #[.int .u8 t191] rfl (by (try simp only [List.map_toArray, List.map_cons, List.map_nil]); first | done | rfl | (simp only [List.length_drop, List.length_take]; rfl)) ?_; (with_reducible refine (Z35.calls t191 false _ A42.out).mono ?_); rintro e w' ⟨rfl, ⟨nd, rfl⟩⟩; refine ⟨_, rfl, ?_⟩; (try (rw [Z43 wc]; generalize hq_ : World.drewN wc _ = wc; have n0_ : Aside0 (wc.heap[gb183]? = some (.cells #[.int .i64 0, .string (⟨#[]⟩ : ByteArray), .int .u32 0, .bool false, .int .i64 0, .int .i64 0] 24 (0, 0))) := ⟨by rw [← hq_]; exact (by (with_reducible repeat (first | refine Z0 ?_ _ | refine Z3 ?_ | refine Z1 ?_ _)); exact BK183.out)⟩; have n1_ : Aside0 (wc.heap[gb184]? = some (.cells #[.int .i64 5, .string (⟨#[]⟩ : ByteArray), .int .u32 0, .bool true, .int .i64 a1, .int .i64 0] 24 (0, 0))) := ⟨by rw [← hq_]; exact (by (with_reducible repeat (first | refine Z0 ?_ _ | refine Z3 ?_ | refine Z1 ?_ _)); exact BK184.out)⟩; have n2_ : Aside0 (Below w.heap.size w wc) := ⟨by rw [← hq_]; exact (by repeat (first | (with_reducible first | exact HB.out | apply Z7 | apply Z4 | apply Z6 | refine Z8 ?_ GE183.out | refine Z8 ?_ GE184.out) | exact HB.out))⟩; clear BK183 BK184 HB hq_; have BK183 := n0_; have BK184 := n1_; have HB := n2_; clear n0_ n1_ n2_))) | (go_at_call 48; (with_reducible refine (Z34.calls a0 x8_36 t193 _ A51.out).mono ?_); rintro e w' ⟨rfl, ⟨nd, rfl⟩⟩; (try (rw [Z43 wc]; generalize hq_ : World.drewN wc _ = wc; have n0_ : Aside0 (wc.heap[gb183]? = some (.cells #[.int .i64 0, .string (⟨#[]⟩ : ByteArray), .int .u32 0, .bool false, .int .i64 0, .int .i64 0] 24 (0, 0))) := ⟨by rw [← hq_]; exact (by (with_reducible repeat (first | refine Z0 ?_ _ | refine Z3 ?_ | refine Z1 ?_ _)); exact BK183.out)⟩; have n1_ : Aside0 (wc.heap[gb184]? = some (.cells #[.int .i64 5, .string (⟨#[]⟩ : ByteArray), .int .u32 0, .bool true, .int .i64 a1, .int .i64 0] 24 (0, 0))) := ⟨by rw [← hq_]; exact (by (with_reducible repeat (first | refine Z0 ?_ _ | refine Z3 ?_ | refine Z1 ?_ _)); exact BK184.out)⟩; have n2_ : Aside0 (Below w.heap.size w wc) := ⟨by rw [← hq_]; exact (by repeat (first | (with_reducible first | exact HB.out | apply Z7 | apply Z4 | apply Z6 | refine Z8 ?_ GE183.out | refine Z8 ?_ GE184.out) | exact HB.out))⟩; clear BK183 BK184 HB hq_; have BK183 := n0_; have BK184 := n1_; have HB := n2_; clear n0_ n1_ n2_))) | (go_at_call 32; (with_reducible refine (Z33.calls t193 false _ A52.out).mono ?_); rintro e w' ⟨rfl, ⟨nd, rfl⟩⟩; (try (rw [Z43 wc]; generalize hq_ : World.drewN wc _ = wc; have n0_ : Aside0 (wc.heap[gb183]? = some (.cells #[.int .i64 0, .string (⟨#[]⟩ : ByteArray), .int .u32 0, .bool false, .int .i64 0, .int .i64 0] 24 (0, 0))) := ⟨by rw [← hq_]; exact (by (with_reducible repeat (first | refine Z0 ?_ _ | refine Z3 ?_ | refine Z1 ?_ _)); exact BK183.out)⟩; have n1_ : Aside0 (wc.heap[gb184]? = some (.cells #[.int .i64 5, .string (⟨#[]⟩ : ByteArray), .int .u32 0, .bool true, .int .i64 a1, .int .i64 0] 24 (0, 0))) := ⟨by rw [← hq_]; exact (by (with_reducible repeat (first | refine Z0 ?_ _ | refine Z3 ?_ | refine Z1 ?_ _)); exact BK184.out)⟩; have n2_ : Aside0 (Below w.heap.size w wc) := ⟨by rw [← hq_]; exact (by repeat (first | (with_reducible first | exact HB.out | apply Z7 | apply Z4 | apply Z6 | refine Z8 ?_ GE183.out | refine Z8 ?_ GE184.out) | exact HB.out))⟩; clear BK183 BK184 HB hq_; have BK183 := n0_; have BK184 := n1_; have HB := n2_; clear n0_ n1_ n2_)); have hnb62 := NB184_183.out; have hnc62 := NB183_184.out; have hcz63_0 : wc.cell? ⟨gb184, 0, none⟩ = some (.int .i64 5) := (Z5 BK184.out 0).trans rfl; have hcz63_1 : wc.cell? ⟨gb184, 1, none⟩ = some (.string (⟨#[]⟩ : ByteArray)) := (Z5 BK184.out 1).trans rfl; have hcz63_2 : wc.cell? ⟨gb184, 2, none⟩ = some (.int .u32 0) := (Z5 BK184.out 2).trans rfl; have hcz63_3 : wc.cell? ⟨gb184, 3, none⟩ = some (.bool true) := (Z5 BK184.out 3).trans rfl; have hcz63_4 : wc.cell? ⟨gb184, 4, none⟩ = some (.int .i64 a1) := (Z5 BK184.out 4).trans rfl; have hcz63_5 : wc.cell? ⟨gb184, 5, none⟩ = some (.int .i64 0) := (Z5 BK184.out 5).trans rfl; have hfz63_0 := Z2 BK184.out 0; have hfz63_1 := Z2 BK184.out 1; have hfz63_2 := Z2 BK184.out 2; have hfz63_3 := Z2 BK184.out 3; have hfz63_4 := Z2 BK184.out 4; have hfz63_5 := Z2 BK184.out 5; have hcz64_0 : wc.cell? ⟨gb183, 0, none⟩ = some (.int .i64 0) := (Z5 BK183.out 0).trans rfl; have hcz64_1 : wc.cell? ⟨gb183, 1, none⟩ = some (.string (⟨#[]⟩ : ByteArray)) := (Z5 BK183.out 1).trans rfl; have hcz64_2 : wc.cell? ⟨gb183, 2, none⟩ = some (.int .u32 0) := (Z5 BK183.out 2).trans rfl; have hcz64_3 : wc.cell? ⟨gb183, 3, none⟩ = some (.bool false) := (Z5 BK183.out 3).trans rfl; have hcz64_4 : wc.cell? ⟨gb183, 4, none⟩ = some (.int .i64 0) := (Z5 BK183.out 4).trans rfl; have hcz64_5 : wc.cell? ⟨gb183, 5, none⟩ = some (.int .i64 0) := (Z5 BK183.out 5).trans rfl; have hfz64_0 := Z2 BK183.out 0; have hfz64_1 := Z2 BK183.out 1; have hfz64_2 := Z2 BK183.out 2; have hfz64_3 := Z2 BK183.out 3; have hfz64_4 := Z2 BK183.out 4; have hfz64_5 := Z2 BK183.out 5))
                         refine bodyPost_ret (Z46 rfl _ _ gb183 24 #[.int .i64 5, .string (⟨#[]⟩ : ByteArray), .int .u32 ((x10_3) % 4294967296), .bool true, .int .i64 a1, .int .i64 x8_36] (0, 0) _ rfl (by (with_reducible repeat (first | refine Z0 ?_ _ | refine Z3 ?_ | refine Z1 ?_ _)); refine Z9 (cs := #[.int .i64 5, .string (⟨#[]⟩ : ByteArray), .int .u32 ((x10_3) % 4294967296), .bool true, .int .i64 a1, .int .i64 0]) ?_ 5 _ rfl; (with_reducible repeat (first | refine Z0 ?_ _ | refine Z3 ?_ | refine Z1 ?_ _)); refine Z9 (cs := #[.int .i64 5, .string (⟨#[]⟩ : ByteArray), .int .u32 ((x10_3) % 4294967296), .bool true, .int .i64 0, .int .i64 0]) ?_ 4 _ rfl; (with_reducible repeat (first | refine Z0 ?_ _ | refine Z3 ?_ | refine Z1 ?_ _)); refine Z9 (cs := #[.int .i64 5, .string (⟨#[]⟩ : ByteArray), .int .u32 ((x10_3) % 4294967296), .bool false, .int .i64 0, .int .i64 0]) ?_ 3 _ rfl; (with_reducible repeat (first | refine Z0 ?_ _ | refine Z3 ?_ | refine Z1 ?_ _)); refine Z9 (cs := #[.int .i64 5, .string (⟨#[]⟩ : ByteArray), .int .u32 0, .bool false, .int .i64 0, .int .i64 0]) ?_ 2 _ rfl; (with_reducible repeat (first | refine Z0 ?_ _ | refine Z3 ?_ | refine Z1 ?_ _)); refine Z9 (cs := #[.int .i64 5, .string (⟨#[]⟩ : ByteArray), .int .u32 0, .bool false, .int .i64 0, .int .i64 0]) ?_ 1 _ rfl; (with_reducible repeat (first | refine Z0 ?_ _ | refine Z3 ?_ | refine Z1 ?_ _)); refine Z9 (cs := #[.int .i64 0, .string (⟨#[]⟩ : ByteArray), .int .u32 0, .bool false, .int .i64 0, .int .i64 0]) ?_ 0 _ rfl; (with_reducible repeat (first | refine Z0 ?_ _ | refine Z3 ?_ | refine Z1 ?_ _)); refine Z22 ?_ NB183_184.out _; (with_reducible repeat (first | refine Z0 ?_ _ | refine Z3 ?_ | refine Z1 ?_ _)); refine Z22 ?_ NB183_184.out _; (with_reducible repeat (first | refine Z0 ?_ _ | refine Z3 ?_ | refine Z1 ?_ _)); refine Z22 ?_ NB183_184.out _; (with_reducible repeat (first | refine Z0 ?_ _ | refine Z3 ?_ | refine Z1 ?_ _)); exact BK183.out) Tryd.underlying24 rfl (by kernel_rfl)) rfl ?_
                         exact ⟨by first | rfl | (simp [Z16, Z15] <;> rfl) | (simp [*, Z16, Z15] <;> rfl), by repeat (first | (with_reducible first | exact HB.out | apply Z7 | apply Z4 | apply Z6 | refine Z8 ?_ GE183.out | refine Z8 ?_ GE184.out) | exact HB.out)⟩
                       · replace c61 := Bool.eq_false_iff.mpr c61
                         subst c61
                         have H1 : (some (5, (⟨#[]⟩ : ByteArray), (x10_3) % 4294967296, decide (x10_3 ≥ 2147483648), a1, x8_36, x11_30)) = some (r1, r2, r3, r4, r5, r6, r7) := by rw [if_neg (show ¬ (false = true) by decide)] at H; exact H
                         clear H
                         have H := H1
                         clear H1
                         simp only [Option.some.injEq, Prod.mk.injEq] at H
                         obtain ⟨rfl, rfl, rfl, rfl, rfl, rfl, rfl⟩ := H
                         go_wp2_with (first | ((with_reducible refine Z14 (f := 48) rfl ?_); refine goesL_ (some 86) rfl rfl Tryd.func48 (by kernel_rfl) rfl #[.string a0, .int .i64 x8_36] rfl (by (try simp only [List.map_toArray, List.map_cons, List.map_nil]); first | done | rfl | (simp only [List.length_drop, List.length_take]; rfl)) ?_; (with_reducible refine (Z34.calls a0 x8_36 t191 _ A41.out).mono ?_); rintro e w' ⟨rfl, ⟨nd, rfl⟩⟩; refine ⟨_, rfl, ?_⟩; (try (rw [Z43 wc]; generalize hq_ : World.drewN wc _ = wc; have n0_ : Aside0 (wc.heap[gb183]? = some (.cells #[.int .i64 0, .string (⟨#[]⟩ : ByteArray), .int .u32 0, .bool false, .int .i64 0, .int .i64 0] 24 (0, 0))) := ⟨by rw [← hq_]; exact (by (with_reducible repeat (first | refine Z0 ?_ _ | refine Z3 ?_ | refine Z1 ?_ _)); exact BK183.out)⟩; have n1_ : Aside0 (wc.heap[gb184]? = some (.cells #[.int .i64 5, .string (⟨#[]⟩ : ByteArray), .int .u32 0, .bool false, .int .i64 a1, .int .i64 0] 24 (0, 0))) := ⟨by rw [← hq_]; exact (by (with_reducible repeat (first | refine Z0 ?_ _ | refine Z3 ?_ | refine Z1 ?_ _)); exact BK184.out)⟩; have n2_ : Aside0 (Below w.heap.size w wc) := ⟨by rw [← hq_]; exact (by repeat (first | (with_reducible first | exact HB.out | apply Z7 | apply Z4 | apply Z6 | refine Z8 ?_ GE183.out | refine Z8 ?_ GE184.out) | exact HB.out))⟩; clear BK183 BK184 HB hq_; have BK183 := n0_; have BK184 := n1_; have HB := n2_; clear n0_ n1_ n2_))) | ((with_reducible refine Z14 (f := 31) rfl ?_); refine goesL_ (some 87) rfl rfl Tryd.func31 (by kernel_rfl) rfl #[.int .u8 t191] rfl (by (try simp only [List.map_toArray, List.map_cons, List.map_nil]); first | done | rfl | (simp only [List.length_drop, List.length_take]; rfl)) ?_; (with_reducible refine (Z35.calls t191 false _ A42.out).mono ?_); rintro e w' ⟨rfl, ⟨nd, rfl⟩⟩; refine ⟨_, rfl, ?_⟩; (try (rw [Z43 wc]; generalize hq_ : World.drewN wc _ = wc; have n0_ : Aside0 (wc.heap[gb183]? = some (.cells #[.int .i64 0, .string (⟨#[]⟩ : ByteArray), .int .u32 0, .bool false, .int .i64 0, .int .i64 0] 24 (0, 0))) := ⟨by rw [← hq_]; exact (by (with_reducible repeat (first | refine Z0 ?_ _ | refine Z3 ?_ | refine Z1 ?_ _)); exact BK183.out)⟩; have n1_ : Aside0 (wc.heap[gb184]? = some (.cells #[.int .i64 5, .string (⟨#[]⟩ : ByteArray), .int .u32 0, .bool false, .int .i64 a1, .int .i64 0] 24 (0, 0))) := ⟨by rw [← hq_]; exact (by (with_reducible repeat (first | refine Z0 ?_ _ | refine Z3 ?_ | refine Z1 ?_ _)); exact BK184.out)⟩; have n2_ : Aside0 (Below w.heap.size w wc) := ⟨by rw [← hq_]; exact (by repeat (first | (with_reducible first | exact HB.out | apply Z7 | apply Z4 | apply Z6 | refine Z8 ?_ GE183.out | refine Z8 ?_ GE184.out) | exact HB.out))⟩; clear BK183 BK184 HB hq_; have BK183 := n0_; have BK184 := n1_; have HB := n2_; clear n0_ n1_ n2_))) | (go_at_call 48; (with_reducible refine (Z34.calls a0 x8_36 t193 _ A51.out).mono ?_); rintro e w' ⟨rfl, ⟨nd, rfl⟩⟩; (try (rw [Z43 wc]; generalize hq_ : World.drewN wc _ = wc; have n0_ : Aside0 (wc.heap[gb183]? = some (.cells #[.int .i64 0, .string (⟨#[]⟩ : ByteArray), .int .u32 0, .bool false, .int .i64 0, .int .i64 0] 24 (0, 0))) := ⟨by rw [← hq_]; exact (by (with_reducible repeat (first | refine Z0 ?_ _ | refine Z3 ?_ | refine Z1 ?_ _)); exact BK183.out)⟩; have n1_ : Aside0 (wc.heap[gb184]? = some (.cells #[.int .i64 5, .string (⟨#[]⟩ : ByteArray), .int .u32 0, .bool false, .int .i64 a1, .int .i64 0] 24 (0, 0))) := ⟨by rw [← hq_]; exact (by (with_reducible repeat (first | refine Z0 ?_ _ | refine Z3 ?_ | refine Z1 ?_ _)); exact BK184.out)⟩; have n2_ : Aside0 (Below w.heap.size w wc) := ⟨by rw [← hq_]; exact (by repeat (first | (with_reducible first | exact HB.out | apply Z7 | apply Z4 | apply Z6 | refine Z8 ?_ GE183.out | refine Z8 ?_ GE184.out) | exact HB.out))⟩; clear BK183 BK184 HB hq_; have BK183 := n0_; have BK184 := n1_; have HB := n2_; clear n0_ n1_ n2_))) | (go_at_call 32; (with_reducible refine (Z33.calls t193 false _ A52.out).mono ?_); rintro e w' ⟨rfl, ⟨nd, rfl⟩⟩; (try (rw [Z43 wc]; generalize hq_ : World.drewN wc _ = wc; have n0_ : Aside0 (wc.heap[gb183]? = some (.cells #[.int .i64 0, .string (⟨#[]⟩ : ByteArray), .int .u32 0, .bool false, .int .i64 0, .int .i64 0] 24 (0, 0))) := ⟨by rw [← hq_]; exact (by (with_reducible repeat (first | refine Z0 ?_ _ | refine Z3 ?_ | refine Z1 ?_ _)); exact BK183.out)⟩; have n1_ : Aside0 (wc.heap[gb184]? = some (.cells #[.int .i64 5, .string (⟨#[]⟩ : ByteArray), .int .u32 0, .bool false, .int .i64 a1, .int .i64 0] 24 (0, 0))) := ⟨by rw [← hq_]; exact (by (with_reducible repeat (first | refine Z0 ?_ _ | refine Z3 ?_ | refine Z1 ?_ _)); exact BK184.out)⟩; have n2_ : Aside0 (Below w.heap.size w wc) := ⟨by rw [← hq_]; exact (by repeat (first | (with_reducible first | exact HB.out | apply Z7 | apply Z4 | apply Z6 | refine Z8 ?_ GE183.out | refine Z8 ?_ GE184.out) | exact HB.out))⟩; clear BK183 BK184 HB hq_; have BK183 := n0_; have BK184 := n1_; have HB := n2_; clear n0_ n1_ n2_)); have hnb65 := NB184_183.out; have hnc65 := NB183_184.out; have hcz66_0 : wc.cell? ⟨gb184, 0, none⟩ = some (.int .i64 5) := (Z5 BK184.out 0).trans rfl; have hcz66_1 : wc.cell? ⟨gb184, 1, none⟩ = some (.string (⟨#[]⟩ : ByteArray)) := (Z5 BK184.out 1).trans rfl; have hcz66_2 : wc.cell? ⟨gb184, 2, none⟩ = some (.int .u32 0) := (Z5 BK184.out 2).trans rfl; have hcz66_3 : wc.cell? ⟨gb184, 3, none⟩ = some (.bool false) := (Z5 BK184.out 3).trans rfl; have hcz66_4 : wc.cell? ⟨gb184, 4, none⟩ = some (.int .i64 a1) := (Z5 BK184.out 4).trans rfl; have hcz66_5 : wc.cell? ⟨gb184, 5, none⟩ = some (.int .i64 0) := (Z5 BK184.out 5).trans rfl; have hfz66_0 := Z2 BK184.out 0; have hfz66_1 := Z2 BK184.out 1; have hfz66_2 := Z2 BK184.out 2; have hfz66_3 := Z2 BK184.out 3; have hfz66_4 := Z2 BK184.out 4; have hfz66_5 := Z2 BK184.out 5; have hcz67_0 : wc.cell? ⟨gb183, 0, none⟩ = some (.int .i64 0) := (Z5 BK183.out 0).trans rfl; have hcz67_1 : wc.cell? ⟨gb183, 1, none⟩ = some (.string (⟨#[]⟩ : ByteArray)) := (Z5 BK183.out 1).trans rfl; have hcz67_2 : wc.cell? ⟨gb183, 2, none⟩ = some (.int .u32 0) := (Z5 BK183.out 2).trans rfl; have hcz67_3 : wc.cell? ⟨gb183, 3, none⟩ = some (.bool false) := (Z5 BK183.out 3).trans rfl; have hcz67_4 : wc.cell? ⟨gb183, 4, none⟩ = some (.int .i64 0) := (Z5 BK183.out 4).trans rfl; have hcz67_5 : wc.cell? ⟨gb183, 5, none⟩ = some (.int .i64 0) := (Z5 BK183.out 5).trans rfl; have hfz67_0 := Z2 BK183.out 0; have hfz67_1 := Z2 BK183.out 1; have hfz67_2 := Z2 BK183.out 2; have hfz67_3 := Z2 BK183.out 3; have hfz67_4 := Z2 BK183.out 4; have hfz67_5 := Z2 BK183.out 5))
                         refine bodyPost_ret (Z46 rfl _ _ gb183 24 #[.int .i64 5, .string (⟨#[]⟩ : ByteArray), .int .u32 ((x10_3) % 4294967296), .bool (decide (x10_3 ≥ 2147483648)), .int .i64 a1, .int .i64 x8_36] (0, 0) _ rfl (by (with_reducible repeat (first | refine Z0 ?_ _ | refine Z3 ?_ | refine Z1 ?_ _)); refine Z9 (cs := #[.int .i64 5, .string (⟨#[]⟩ : ByteArray), .int .u32 ((x10_3) % 4294967296), .bool (decide (x10_3 ≥ 2147483648)), .int .i64 a1, .int .i64 0]) ?_ 5 _ rfl; (with_reducible repeat (first | refine Z0 ?_ _ | refine Z3 ?_ | refine Z1 ?_ _)); refine Z9 (cs := #[.int .i64 5, .string (⟨#[]⟩ : ByteArray), .int .u32 ((x10_3) % 4294967296), .bool (decide (x10_3 ≥ 2147483648)), .int .i64 0, .int .i64 0]) ?_ 4 _ rfl; (with_reducible repeat (first | refine Z0 ?_ _ | refine Z3 ?_ | refine Z1 ?_ _)); refine Z9 (cs := #[.int .i64 5, .string (⟨#[]⟩ : ByteArray), .int .u32 ((x10_3) % 4294967296), .bool false, .int .i64 0, .int .i64 0]) ?_ 3 _ rfl; (with_reducible repeat (first | refine Z0 ?_ _ | refine Z3 ?_ | refine Z1 ?_ _)); refine Z9 (cs := #[.int .i64 5, .string (⟨#[]⟩ : ByteArray), .int .u32 0, .bool false, .int .i64 0, .int .i64 0]) ?_ 2 _ rfl; (with_reducible repeat (first | refine Z0 ?_ _ | refine Z3 ?_ | refine Z1 ?_ _)); refine Z9 (cs := #[.int .i64 5, .string (⟨#[]⟩ : ByteArray), .int .u32 0, .bool false, .int .i64 0, .int .i64 0]) ?_ 1 _ rfl; (with_reducible repeat (first | refine Z0 ?_ _ | refine Z3 ?_ | refine Z1 ?_ _)); refine Z9 (cs := #[.int .i64 0, .string (⟨#[]⟩ : ByteArray), .int .u32 0, .bool false, .int .i64 0, .int .i64 0]) ?_ 0 _ rfl; (with_reducible repeat (first | refine Z0 ?_ _ | refine Z3 ?_ | refine Z1 ?_ _)); refine Z22 ?_ NB183_184.out _; (with_reducible repeat (first | refine Z0 ?_ _ | refine Z3 ?_ | refine Z1 ?_ _)); refine Z22 ?_ NB183_184.out _; (with_reducible repeat (first | refine Z0 ?_ _ | refine Z3 ?_ | refine Z1 ?_ _)); refine Z22 ?_ NB183_184.out _; (with_reducible repeat (first | refine Z0 ?_ _ | refine Z3 ?_ | refine Z1 ?_ _)); exact BK183.out) Tryd.underlying24 rfl (by kernel_rfl)) rfl ?_
                         exact ⟨by first | rfl | (simp [Z16, Z15] <;> rfl) | (simp [*, Z16, Z15] <;> rfl), by repeat (first | (with_reducible first | exact HB.out | apply Z7 | apply Z4 | apply Z6 | refine Z8 ?_ GE183.out | refine Z8 ?_ GE184.out) | exact HB.out)⟩
end Go.Proofs.YtbmfadmoficfiaaDoor.Q
namespace Go.Proofs.YtbmfadmoficfiaaDoor.Q
open Go.RowKit Go.Proofs.YtbmfadmoficfiaaDoorW.PrintWords Go.Proofs.YtbmfadmoficfiaaDoorW.PrintLast Go.Proofs.YtbmfadmoficfiaaDoorW.PrintMore
attribute [local go_sem] Z56 Z54 Z61 Z60 Z49 Z48 Z55 Z53
set_option linter.unusedVariables false
set_option linter.unusedSimpArgs false
mutual
def Z28.j0 : Nat → ByteArray → Int → Int → Bool → Option (Int × Int × Bool)
 | 0, _, _, _, _ => none
 | k + 1, x0, x1, x9, x25 => if x25 = true then (some (0, 0, false)) else (if x9 = 92 then ((Z34.f x0 (wrap64 (x1 + 1))).bind fun t196 => (if t196 = 110 then (some (10, wrap64 (x1 + 2), true)) else (if t196 = 116 then (some (9, wrap64 (x1 + 2), true)) else (if t196 = 114 then (some (13, wrap64 (x1 + 2), true)) else (if t196 = 48 then (some (0, wrap64 (x1 + 2), true)) else (if t196 = 92 then (Z28.j1 k x0 x1 t196 (t196 == 92)) else (if t196 = 39 then (Z28.j1 k x0 x1 t196 (t196 == 39)) else (Z28.j1 k x0 x1 t196 (t196 == 34))))))))) else (some (x9, wrap64 (x1 + 1), true)))
def Z28.j1 : Nat → ByteArray → Int → Int → Bool → Option (Int × Int × Bool)
 | 0, _, _, _, _ => none
 | k + 1, x0, x1, x34, x51 => if x51 = true then (if 0 ≤ (wrap64 (x1 + 1)) then (if (wrap64 (x1 + 1)) < (x0.size : Int) then (some (bt x0 (wrap64 (x1 + 1)), wrap64 (x1 + 2), true)) else (none)) else (none)) else (if x34 = 120 then ((Z34.f x0 (wrap64 (x1 + 2))).bind fun t197 => ((Z26.f k t197).bind fun t198 => ((Z34.f x0 (wrap64 (x1 + 3))).bind fun t199 => ((Z26.f k t199).bind fun t200 => (if t198 < 16 then (some ((wrap64 ((wrap64 (t198 * 16)) + t200)) % 256, wrap64 (x1 + 4), decide (t200 < 16))) else (some ((wrap64 ((wrap64 (t198 * 16)) + t200)) % 256, wrap64 (x1 + 4), false))))))) else (some (0, 0, false)))
end
def Z28.f (k : Nat) (a0 : ByteArray) (a1 : Int) (a2 : Int) : Option (Int × Int × Bool) := (Z34.f a0 a1).bind fun t195 => (if t195 < 32 then (Z28.j0 k a0 a1 t195 true) else (if t195 > 126 then (Z28.j0 k a0 a1 t195 true) else (Z28.j0 k a0 a1 t195 (t195 == a2))))
theorem Z28.mono_l : ∀ k, (∀ y0 y1 y2 y3, LeO (Z28.j0 k y0 y1 y2 y3) (Z28.j0 (k + 1) y0 y1 y2 y3)) ∧ (∀ y0 y1 y2 y3, LeO (Z28.j1 k y0 y1 y2 y3) (Z28.j1 (k + 1) y0 y1 y2 y3))
 | 0 => ⟨fun _ _ _ _ r h => by simp [Z28.j0] at h, fun _ _ _ _ r h => by simp [Z28.j1] at h⟩
 | k + 1 => by
  obtain ⟨ih0, ih1⟩ := Z28.mono_l k
  refine ⟨?_, ?_⟩
  · intro y0 y1 y2 y3
    unfold Z28.j0
    repeat' first
    | (with_reducible exact ih0 _ _ _ _)
    | (with_reducible exact ih1 _ _ _ _)
    | (with_reducible exact Z26.mono _ _)
    | (with_reducible exact LeO.refl _)
    | (with_reducible exact LeO.none _)
    | (with_reducible refine LeO.ite ?_ ?_)
    | (with_reducible refine LeO.bind ?_ (fun _ => ?_))
    | exact ih0 _ _ _ _
    | exact ih1 _ _ _ _
    | exact Z26.mono _ _
    | exact LeO.none _
    | refine LeO.ite ?_ ?_
    | refine LeO.bind ?_ (fun _ => ?_)
  · intro y0 y1 y2 y3
    unfold Z28.j1
    repeat' first
    | (with_reducible exact ih0 _ _ _ _)
    | (with_reducible exact ih1 _ _ _ _)
    | (with_reducible exact Z26.mono _ _)
    | (with_reducible exact LeO.refl _)
    | (with_reducible exact LeO.none _)
    | (with_reducible refine LeO.ite ?_ ?_)
    | (with_reducible refine LeO.bind ?_ (fun _ => ?_))
    | exact ih0 _ _ _ _
    | exact ih1 _ _ _ _
    | exact Z26.mono _ _
    | exact LeO.none _
    | refine LeO.ite ?_ ?_
    | refine LeO.bind ?_ (fun _ => ?_)
theorem Z28.mono : ∀ a0 a1 a2 k, LeO (Z28.f k a0 a1 a2) (Z28.f (k + 1) a0 a1 a2) := by
 intro a0 a1 a2 k
 obtain ⟨ih0, ih1⟩ := Z28.mono_l k
 unfold Z28.f
 repeat' first
  | (with_reducible exact ih0 _ _ _ _)
  | (with_reducible exact ih1 _ _ _ _)
  | (with_reducible exact Z26.mono _ _)
  | (with_reducible exact LeO.refl _)
  | (with_reducible exact LeO.none _)
  | (with_reducible refine LeO.ite ?_ ?_)
  | (with_reducible refine LeO.bind ?_ (fun _ => ?_))
  | exact ih0 _ _ _ _
  | exact ih1 _ _ _ _
  | exact Z26.mono _ _
  | exact LeO.none _
  | refine LeO.ite ?_ ?_
  | refine LeO.bind ?_ (fun _ => ?_)
set_option maxHeartbeats 8000000 in
set_option maxRecDepth 100000 in
theorem Z28.calls (k : Nat) (a0 : ByteArray) (a1 : Int) (a2 : Int) (r1 : Int) (r2 : Int) (r3 : Bool) (w : World) (h : Z28.f k a0 a1 a2 = some (r1, r2, r3)) :
 Calls Tryd.prog 49 #[.string a0, .int .i64 a1, .int .u8 a2] w fun e w' => e = .returned (.tuple #[.int .u8 r1, .int .i64 r2, .bool r3]) ∧ Drawn0 w w' := by
 have H : ((Z34.f a0 a1).bind fun t195 => (if t195 < 32 then (Z28.j0 k a0 a1 t195 true) else (if t195 > 126 then (Z28.j0 k a0 a1 t195 true) else (Z28.j0 k a0 a1 t195 (t195 == a2))))) = some (r1, r2, r3) := h
 clear h
 replace H := Option.bind_eq_some_iff.mp H
 obtain ⟨t195, A40, H⟩ := H
 replace H : (if t195 < 32 then (Z28.j0 k a0 a1 t195 true) else (if t195 > 126 then (Z28.j0 k a0 a1 t195 true) else (Z28.j0 k a0 a1 t195 (t195 == a2)))) = some (r1, r2, r3) := H
 have A4 := Aside0.mk A40
 clear A40
 have HC5 := Aside0.mk H
 clear H
 go_enter Tryd.func49, Tryd.ntmps49
 go_upto_region 2 with (first | ((with_reducible refine Z14 (f := 48) rfl ?_); refine goesL_ (some 14) rfl rfl Tryd.func48 (by kernel_rfl) rfl #[.string a0, .int .i64 a1] rfl (by (try simp only [List.map_toArray, List.map_cons, List.map_nil]); first | done | rfl | (simp only [List.length_drop, List.length_take]; rfl)) ?_; (with_reducible refine (Z34.calls a0 a1 t195 _ A4.out).mono ?_); rintro e w' ⟨rfl, ⟨nd, rfl⟩⟩; refine ⟨_, rfl, ?_⟩))
 (try simp only [Act.put, List.setIfInBounds_toArray, List.set_cons_zero, List.set_cons_succ])
 go_cut [25] (fun v25 wc => ∃ (kq : Nat) (x25_4 : Bool), v25 = .bool x25_4 ∧ Aside0 (Z28.j0 kq a0 a1 t195 x25_4 = some (r1, r2, r3)) ∧ Aside0 (kq ≤ k) ∧ Drawn0 w wc)
 case first =>
  have H := HC5.out
  clear HC5
  by_cases c6 : t195 < 32
  · rw [if_pos c6] at H
    have c6b0 : decide (t195 < 32) = true := decide_eq_true c6
    clear c6
    (first | rw [c6b0] | (simp only [i64_w, i32_w]; rw [c6b0]) | skip)
    have H' := Aside0.mk H
    clear H
    go_wp2
    go_meet
    case rel => exact ⟨_, (true), (by first | rfl | (simp; done) | (simp [*]; done)), H', ⟨by first | omega | exact Nat.le_refl _⟩, by repeat (first | exact Drawn0.refl _ | apply Drawn0.step)⟩
  · rw [if_neg c6] at H
    have c6b0 : decide (t195 < 32) = false := decide_eq_false c6
    clear c6
    (first | rw [c6b0] | (simp only [i64_w, i32_w]; rw [c6b0]) | skip)
    by_cases c7 : t195 > 126
    · rw [if_pos c7] at H
      have c7b0 : decide (126 < t195) = true := decide_eq_true c7
      clear c7
      have H' := Aside0.mk H
      clear H
      go_wp2
      go_meet
      case rel => exact ⟨_, (true), (by first | rfl | (simp; done) | (simp [*]; done)), H', ⟨by first | omega | exact Nat.le_refl _⟩, by repeat (first | exact Drawn0.refl _ | apply Drawn0.step)⟩
    · rw [if_neg c7] at H
      have c7b0 : decide (126 < t195) = false := decide_eq_false c7
      clear c7
      have H' := Aside0.mk H
      clear H
      go_wp2
      go_meet
      case rel => exact ⟨_, ((t195 == a2)), (by first | rfl | (simp; done) | (simp [*]; done)), H', ⟨by first | omega | exact Nat.le_refl _⟩, by repeat (first | exact Drawn0.refl _ | apply Drawn0.step)⟩
 case rest =>
  clear HC5
  obtain ⟨kq, x25_4, rfl, HA, HJ4, ⟨mc4, rfl⟩⟩ := hcut
  cases kq with
  | zero => exact absurd HA.out (by simp [Z28.j0])
  | succ kj4 =>
   have H := HA.out
   clear HA
   simp only [Z28.j0] at H
   by_cases c8 : x25_4 = true
   · subst c8
     have H1 : (some (0, 0, false)) = some (r1, r2, r3) := by rw [if_pos rfl] at H; exact H
     clear H
     have H := H1
     clear H1
     simp only [Option.some.injEq, Prod.mk.injEq] at H
     obtain ⟨rfl, rfl, rfl⟩ := H
     go_wp2
     go_ret3
     exact ⟨by first | rfl | (simp; done) | (simp [*]; done), by repeat (first | exact Drawn0.refl _ | apply Drawn0.step)⟩
   · replace c8 := Bool.eq_false_iff.mpr c8
     subst c8
     have H1 : (if t195 = 92 then ((Z34.f a0 (wrap64 (a1 + 1))).bind fun t196 => (if t196 = 110 then (some (10, wrap64 (a1 + 2), true)) else (if t196 = 116 then (some (9, wrap64 (a1 + 2), true)) else (if t196 = 114 then (some (13, wrap64 (a1 + 2), true)) else (if t196 = 48 then (some (0, wrap64 (a1 + 2), true)) else (if t196 = 92 then (Z28.j1 kj4 a0 a1 t196 (t196 == 92)) else (if t196 = 39 then (Z28.j1 kj4 a0 a1 t196 (t196 == 39)) else (Z28.j1 kj4 a0 a1 t196 (t196 == 34))))))))) else (some (t195, wrap64 (a1 + 1), true))) = some (r1, r2, r3) := by rw [if_neg (show ¬ (false = true) by decide)] at H; exact H
     clear H
     have H := H1
     clear H1
     by_cases c9 : t195 = 92
     · rw [if_pos c9] at H
       have c9b0 : (t195 == 92) = true := beq_iff_eq.mpr c9
       have c9b1 : (t195 != 92) = false := bne_eq_false_iff_eq.mpr c9
       clear c9
       replace H := Option.bind_eq_some_iff.mp H
       obtain ⟨t196, A100, H⟩ := H
       replace H : (if t196 = 110 then (some (10, wrap64 (a1 + 2), true)) else (if t196 = 116 then (some (9, wrap64 (a1 + 2), true)) else (if t196 = 114 then (some (13, wrap64 (a1 + 2), true)) else (if t196 = 48 then (some (0, wrap64 (a1 + 2), true)) else (if t196 = 92 then (Z28.j1 kj4 a0 a1 t196 (t196 == 92)) else (if t196 = 39 then (Z28.j1 kj4 a0 a1 t196 (t196 == 39)) else (Z28.j1 kj4 a0 a1 t196 (t196 == 34)))))))) = some (r1, r2, r3) := H
       have A10 := Aside0.mk A100
       clear A100
       by_cases c11 : t196 = 110
       · rw [if_pos c11] at H
         have c11b0 : (t196 == 110) = true := beq_iff_eq.mpr c11
         have c11b1 : (t196 != 110) = false := bne_eq_false_iff_eq.mpr c11
         clear c11
         simp only [Option.some.injEq, Prod.mk.injEq] at H
         obtain ⟨rfl, rfl, rfl⟩ := H
         go_wp2_with (first | ((with_reducible refine Z14 (f := 48) rfl ?_); refine goesL_ (some 34) rfl rfl Tryd.func48 (by kernel_rfl) rfl #[.string a0, .int .i64 (wrap64 (a1 + 1))] rfl (by (try simp only [List.map_toArray, List.map_cons, List.map_nil]); first | done | rfl | (simp only [List.length_drop, List.length_take]; rfl)) ?_; (with_reducible refine (Z34.calls a0 (wrap64 (a1 + 1)) t196 _ A10.out).mono ?_); rintro e w' ⟨rfl, ⟨nd, rfl⟩⟩; refine ⟨_, rfl, ?_⟩))
         go_ret3
         exact ⟨by first | rfl | (simp; done) | (simp [*]; done), by repeat (first | exact Drawn0.refl _ | apply Drawn0.step)⟩
       · rw [if_neg c11] at H
         have c11b0 : (t196 == 110) = false := beq_eq_false_iff_ne.mpr c11
         have c11b1 : (t196 != 110) = true := bne_iff_ne.mpr c11
         by_cases c12 : t196 = 116
         · rw [if_pos c12] at H
           have c12b0 : (t196 == 116) = true := beq_iff_eq.mpr c12
           have c12b1 : (t196 != 116) = false := bne_eq_false_iff_eq.mpr c12
           clear c12
           simp only [Option.some.injEq, Prod.mk.injEq] at H
           obtain ⟨rfl, rfl, rfl⟩ := H
           go_wp2_with (first | ((with_reducible refine Z14 (f := 48) rfl ?_); refine goesL_ (some 34) rfl rfl Tryd.func48 (by kernel_rfl) rfl #[.string a0, .int .i64 (wrap64 (a1 + 1))] rfl (by (try simp only [List.map_toArray, List.map_cons, List.map_nil]); first | done | rfl | (simp only [List.length_drop, List.length_take]; rfl)) ?_; (with_reducible refine (Z34.calls a0 (wrap64 (a1 + 1)) t196 _ A10.out).mono ?_); rintro e w' ⟨rfl, ⟨nd, rfl⟩⟩; refine ⟨_, rfl, ?_⟩))
           go_ret3
           exact ⟨by first | rfl | (simp; done) | (simp [*]; done), by repeat (first | exact Drawn0.refl _ | apply Drawn0.step)⟩
         · rw [if_neg c12] at H
           have c12b0 : (t196 == 116) = false := beq_eq_false_iff_ne.mpr c12
           have c12b1 : (t196 != 116) = true := bne_iff_ne.mpr c12
           by_cases c13 : t196 = 114
           · rw [if_pos c13] at H
             have c13b0 : (t196 == 114) = true := beq_iff_eq.mpr c13
             have c13b1 : (t196 != 114) = false := bne_eq_false_iff_eq.mpr c13
             clear c13
             simp only [Option.some.injEq, Prod.mk.injEq] at H
             obtain ⟨rfl, rfl, rfl⟩ := H
             go_wp2_with (first | ((with_reducible refine Z14 (f := 48) rfl ?_); refine goesL_ (some 34) rfl rfl Tryd.func48 (by kernel_rfl) rfl #[.string a0, .int .i64 (wrap64 (a1 + 1))] rfl (by (try simp only [List.map_toArray, List.map_cons, List.map_nil]); first | done | rfl | (simp only [List.length_drop, List.length_take]; rfl)) ?_; (with_reducible refine (Z34.calls a0 (wrap64 (a1 + 1)) t196 _ A10.out).mono ?_); rintro e w' ⟨rfl, ⟨nd, rfl⟩⟩; refine ⟨_, rfl, ?_⟩))
             go_ret3
             exact ⟨by first | rfl | (simp; done) | (simp [*]; done), by repeat (first | exact Drawn0.refl _ | apply Drawn0.step)⟩
           · rw [if_neg c13] at H
             have c13b0 : (t196 == 114) = false := beq_eq_false_iff_ne.mpr c13
             have c13b1 : (t196 != 114) = true := bne_iff_ne.mpr c13
             by_cases c14 : t196 = 48
             · rw [if_pos c14] at H
               have c14b0 : (t196 == 48) = true := beq_iff_eq.mpr c14
               have c14b1 : (t196 != 48) = false := bne_eq_false_iff_eq.mpr c14
               clear c14
               simp only [Option.some.injEq, Prod.mk.injEq] at H
               obtain ⟨rfl, rfl, rfl⟩ := H
               go_wp2_with (first | ((with_reducible refine Z14 (f := 48) rfl ?_); refine goesL_ (some 34) rfl rfl Tryd.func48 (by kernel_rfl) rfl #[.string a0, .int .i64 (wrap64 (a1 + 1))] rfl (by (try simp only [List.map_toArray, List.map_cons, List.map_nil]); first | done | rfl | (simp only [List.length_drop, List.length_take]; rfl)) ?_; (with_reducible refine (Z34.calls a0 (wrap64 (a1 + 1)) t196 _ A10.out).mono ?_); rintro e w' ⟨rfl, ⟨nd, rfl⟩⟩; refine ⟨_, rfl, ?_⟩))
               go_ret3
               exact ⟨by first | rfl | (simp; done) | (simp [*]; done), by repeat (first | exact Drawn0.refl _ | apply Drawn0.step)⟩
             · rw [if_neg c14] at H
               have c14b0 : (t196 == 48) = false := beq_eq_false_iff_ne.mpr c14
               have c14b1 : (t196 != 48) = true := bne_iff_ne.mpr c14
               have HC15 := Aside0.mk H
               clear H
               go_upto_if 51 with (first | ((with_reducible refine Z14 (f := 48) rfl ?_); refine goesL_ (some 34) rfl rfl Tryd.func48 (by kernel_rfl) rfl #[.string a0, .int .i64 (wrap64 (a1 + 1))] rfl (by (try simp only [List.map_toArray, List.map_cons, List.map_nil]); first | done | rfl | (simp only [List.length_drop, List.length_take]; rfl)) ?_; (with_reducible refine (Z34.calls a0 (wrap64 (a1 + 1)) t196 _ A10.out).mono ?_); rintro e w' ⟨rfl, ⟨nd, rfl⟩⟩; refine ⟨_, rfl, ?_⟩))
               (try simp only [Act.put, List.setIfInBounds_toArray, List.set_cons_zero, List.set_cons_succ])
               go_cut [51] (fun v51 wc => ∃ (kq : Nat) (x51_14 : Bool), v51 = .bool x51_14 ∧ Aside0 (Z28.j1 kq a0 a1 t196 x51_14 = some (r1, r2, r3)) ∧ Aside0 (kq ≤ kj4) ∧ Drawn0 w wc)
               case first =>
                have H := HC15.out
                clear HC15
                by_cases c16 : t196 = 92
                · rw [if_pos c16] at H
                  have c16b0 : (t196 == 92) = true := beq_iff_eq.mpr c16
                  have c16b1 : (t196 != 92) = false := bne_eq_false_iff_eq.mpr c16
                  clear c16
                  (first | rw [c16b0] | (simp only [i64_w, i32_w]; rw [c16b0]) | skip)
                  have H' := Aside0.mk H
                  clear H
                  go_wp2
                  go_meet
                  case rel => exact ⟨_, ((t196 == 92)), (by first | rfl | (simp; done) | (simp [*]; done)), H', ⟨by have := HJ4.out; first | omega | exact Nat.le_refl _⟩, by repeat (first | exact Drawn0.refl _ | apply Drawn0.step)⟩
                · rw [if_neg c16] at H
                  have c16b0 : (t196 == 92) = false := beq_eq_false_iff_ne.mpr c16
                  have c16b1 : (t196 != 92) = true := bne_iff_ne.mpr c16
                  (first | rw [c16b0] | (simp only [i64_w, i32_w]; rw [c16b0]) | skip)
                  by_cases c17 : t196 = 39
                  · rw [if_pos c17] at H
                    have c17b0 : (t196 == 39) = true := beq_iff_eq.mpr c17
                    have c17b1 : (t196 != 39) = false := bne_eq_false_iff_eq.mpr c17
                    clear c17
                    have H' := Aside0.mk H
                    clear H
                    go_wp2
                    go_meet
                    case rel => exact ⟨_, ((t196 == 39)), (by first | rfl | (simp; done) | (simp [*]; done)), H', ⟨by have := HJ4.out; first | omega | exact Nat.le_refl _⟩, by repeat (first | exact Drawn0.refl _ | apply Drawn0.step)⟩
                  · rw [if_neg c17] at H
                    have c17b0 : (t196 == 39) = false := beq_eq_false_iff_ne.mpr c17
                    have c17b1 : (t196 != 39) = true := bne_iff_ne.mpr c17
                    have H' := Aside0.mk H
                    clear H
                    go_wp2
                    go_meet
                    case rel => exact ⟨_, ((t196 == 34)), (by first | rfl | (simp; done) | (simp [*]; done)), H', ⟨by have := HJ4.out; first | omega | exact Nat.le_refl _⟩, by repeat (first | exact Drawn0.refl _ | apply Drawn0.step)⟩
               case rest =>
                clear HC15
                try clear c8
                try clear c9
                try clear c9b0
                try clear c9b1
                try clear c11
                try clear c11b0
                try clear c11b1
                try clear c12
                try clear c12b0
                try clear c12b1
                try clear c13
                try clear c13b0
                try clear c13b1
                try clear c14
                try clear c14b0
                try clear c14b1
                obtain ⟨kq, x51_14, rfl, HA, HJ14, ⟨mc14, rfl⟩⟩ := hcut
                cases kq with
                | zero => exact absurd HA.out (by simp [Z28.j1])
                | succ kj14 =>
                 have H := HA.out
                 clear HA
                 simp only [Z28.j1] at H
                 by_cases c18 : x51_14 = true
                 · subst c18
                   have H1 : (if 0 ≤ (wrap64 (a1 + 1)) then (if (wrap64 (a1 + 1)) < (a0.size : Int) then (some (bt a0 (wrap64 (a1 + 1)), wrap64 (a1 + 2), true)) else (none)) else (none)) = some (r1, r2, r3) := by rw [if_pos rfl] at H; exact H
                   clear H
                   have H := H1
                   clear H1
                   obtain ⟨ji19, hji19⟩ : ∃ j_ : Int, (wrap64 (a1 + 1)) = j_ := ⟨_, rfl⟩
                   replace H : (if 0 ≤ (ji19) then (if (ji19) < (a0.size : Int) then (some (bt a0 (ji19), wrap64 (a1 + 2), true)) else (none)) else (none)) = some (r1, r2, r3) := by first | (rw [hji19] at H; exact H) | (simp only [hji19] at H ⊢; exact H)
                   have hji19w : (IntKind.i64.wrap (a1 + 1)) = ji19 := (i64_w _).trans hji19
                   by_cases c20 : 0 ≤ (ji19)
                   · rw [if_pos c20] at H
                     have c20b0 : decide (0 ≤ (ji19)) = true := decide_eq_true c20
                     clear c20
                     by_cases c21 : (ji19) < (a0.size : Int)
                     · rw [if_pos c21] at H
                       have c21b0 : decide ((ji19) < (a0.size : Int)) = true := decide_eq_true c21
                       clear c21
                       simp only [Option.some.injEq, Prod.mk.injEq] at H
                       obtain ⟨rfl, rfl, rfl⟩ := H
                       have p22 : 0 ≤ ((ji19) : Int) := of_decide_eq_true (by first | (with_reducible assumption) | assumption)
                       have q22 : (ji19) < (a0.size : Int) := of_decide_eq_true (by first | (with_reducible assumption) | assumption)
                       have hx22 := bt_at a0 (ji19)
                       replace p22 := eq_true p22
                       replace q22 := eq_true q22
                       go_wp2
                       go_ret3
                       exact ⟨by first | rfl | (simp; done) | (simp only [← hji19] <;> (first | rfl | simp)) | (simp [*]; done), by repeat (first | exact Drawn0.refl _ | apply Drawn0.step)⟩
                     · rw [if_neg c21] at H
                       exact absurd H (by simp)
                   · rw [if_neg c20] at H
                     exact absurd H (by simp)
                 · replace c18 := Bool.eq_false_iff.mpr c18
                   subst c18
                   have H1 : (if t196 = 120 then ((Z34.f a0 (wrap64 (a1 + 2))).bind fun t197 => ((Z26.f kj14 t197).bind fun t198 => ((Z34.f a0 (wrap64 (a1 + 3))).bind fun t199 => ((Z26.f kj14 t199).bind fun t200 => (if t198 < 16 then (some ((wrap64 ((wrap64 (t198 * 16)) + t200)) % 256, wrap64 (a1 + 4), decide (t200 < 16))) else (some ((wrap64 ((wrap64 (t198 * 16)) + t200)) % 256, wrap64 (a1 + 4), false))))))) else (some (0, 0, false))) = some (r1, r2, r3) := by rw [if_neg (show ¬ (false = true) by decide)] at H; exact H
                   clear H
                   have H := H1
                   clear H1
                   by_cases c23 : t196 = 120
                   · rw [if_pos c23] at H
                     have c23b0 : (t196 == 120) = true := beq_iff_eq.mpr c23
                     have c23b1 : (t196 != 120) = false := bne_eq_false_iff_eq.mpr c23
                     clear c23
                     replace H := Option.bind_eq_some_iff.mp H
                     obtain ⟨t197, A240, H⟩ := H
                     replace H : ((Z26.f kj14 t197).bind fun t198 => ((Z34.f a0 (wrap64 (a1 + 3))).bind fun t199 => ((Z26.f kj14 t199).bind fun t200 => (if t198 < 16 then (some ((wrap64 ((wrap64 (t198 * 16)) + t200)) % 256, wrap64 (a1 + 4), decide (t200 < 16))) else (some ((wrap64 ((wrap64 (t198 * 16)) + t200)) % 256, wrap64 (a1 + 4), false)))))) = some (r1, r2, r3) := H
                     have A24 := Aside0.mk A240
                     clear A240
                     replace H := Option.bind_eq_some_iff.mp H
                     obtain ⟨t198, A250, H⟩ := H
                     replace H : ((Z34.f a0 (wrap64 (a1 + 3))).bind fun t199 => ((Z26.f kj14 t199).bind fun t200 => (if t198 < 16 then (some ((wrap64 ((wrap64 (t198 * 16)) + t200)) % 256, wrap64 (a1 + 4), decide (t200 < 16))) else (some ((wrap64 ((wrap64 (t198 * 16)) + t200)) % 256, wrap64 (a1 + 4), false))))) = some (r1, r2, r3) := H
                     have A25 := Aside0.mk A250
                     clear A250
                     replace H := Option.bind_eq_some_iff.mp H
                     obtain ⟨t199, A260, H⟩ := H
                     replace H : ((Z26.f kj14 t199).bind fun t200 => (if t198 < 16 then (some ((wrap64 ((wrap64 (t198 * 16)) + t200)) % 256, wrap64 (a1 + 4), decide (t200 < 16))) else (some ((wrap64 ((wrap64 (t198 * 16)) + t200)) % 256, wrap64 (a1 + 4), false)))) = some (r1, r2, r3) := H
                     have A26 := Aside0.mk A260
                     clear A260
                     replace H := Option.bind_eq_some_iff.mp H
                     obtain ⟨t200, A270, H⟩ := H
                     replace H : (if t198 < 16 then (some ((wrap64 ((wrap64 (t198 * 16)) + t200)) % 256, wrap64 (a1 + 4), decide (t200 < 16))) else (some ((wrap64 ((wrap64 (t198 * 16)) + t200)) % 256, wrap64 (a1 + 4), false))) = some (r1, r2, r3) := H
                     have A27 := Aside0.mk A270
                     clear A270
                     by_cases c28 : t198 < 16
                     · rw [if_pos c28] at H
                       have c28b0 : decide (t198 < 16) = true := decide_eq_true c28
                       clear c28
                       simp only [Option.some.injEq, Prod.mk.injEq] at H
                       obtain ⟨rfl, rfl, rfl⟩ := H
                       go_wp2_with (first | ((with_reducible refine Z14 (f := 48) rfl ?_); refine goesL_ (some 66) rfl rfl Tryd.func48 (by kernel_rfl) rfl #[.string a0, .int .i64 (wrap64 (a1 + 2))] rfl (by (try simp only [List.map_toArray, List.map_cons, List.map_nil]); first | done | rfl | (simp only [List.length_drop, List.length_take]; rfl)) ?_; (with_reducible refine (Z34.calls a0 (wrap64 (a1 + 2)) t197 _ A24.out).mono ?_); rintro e w' ⟨rfl, ⟨nd, rfl⟩⟩; refine ⟨_, rfl, ?_⟩) | ((with_reducible refine Z14 (f := 47) rfl ?_); refine goesL_ (some 67) rfl rfl Tryd.func47 (by kernel_rfl) rfl #[.int .u8 t197] rfl (by (try simp only [List.map_toArray, List.map_cons, List.map_nil]); first | done | rfl | (simp only [List.length_drop, List.length_take]; rfl)) ?_; (with_reducible refine (Z26.calls kj14 t197 t198 _ A25.out).mono ?_); rintro e w' ⟨rfl, ⟨nd, rfl⟩⟩; refine ⟨_, rfl, ?_⟩) | ((with_reducible refine Z14 (f := 48) rfl ?_); refine goesL_ (some 71) rfl rfl Tryd.func48 (by kernel_rfl) rfl #[.string a0, .int .i64 (wrap64 (a1 + 3))] rfl (by (try simp only [List.map_toArray, List.map_cons, List.map_nil]); first | done | rfl | (simp only [List.length_drop, List.length_take]; rfl)) ?_; (with_reducible refine (Z34.calls a0 (wrap64 (a1 + 3)) t199 _ A26.out).mono ?_); rintro e w' ⟨rfl, ⟨nd, rfl⟩⟩; refine ⟨_, rfl, ?_⟩) | ((with_reducible refine Z14 (f := 47) rfl ?_); refine goesL_ (some 72) rfl rfl Tryd.func47 (by kernel_rfl) rfl #[.int .u8 t199] rfl (by (try simp only [List.map_toArray, List.map_cons, List.map_nil]); first | done | rfl | (simp only [List.length_drop, List.length_take]; rfl)) ?_; (with_reducible refine (Z26.calls kj14 t199 t200 _ A27.out).mono ?_); rintro e w' ⟨rfl, ⟨nd, rfl⟩⟩; refine ⟨_, rfl, ?_⟩))
                       go_ret3
                       exact ⟨by first | rfl | (simp; done) | (simp [*]; done), by repeat (first | exact Drawn0.refl _ | apply Drawn0.step)⟩
                     · rw [if_neg c28] at H
                       have c28b0 : decide (t198 < 16) = false := decide_eq_false c28
                       clear c28
                       simp only [Option.some.injEq, Prod.mk.injEq] at H
                       obtain ⟨rfl, rfl, rfl⟩ := H
                       go_wp2_with (first | ((with_reducible refine Z14 (f := 48) rfl ?_); refine goesL_ (some 66) rfl rfl Tryd.func48 (by kernel_rfl) rfl #[.string a0, .int .i64 (wrap64 (a1 + 2))] rfl (by (try simp only [List.map_toArray, List.map_cons, List.map_nil]); first | done | rfl | (simp only [List.length_drop, List.length_take]; rfl)) ?_; (with_reducible refine (Z34.calls a0 (wrap64 (a1 + 2)) t197 _ A24.out).mono ?_); rintro e w' ⟨rfl, ⟨nd, rfl⟩⟩; refine ⟨_, rfl, ?_⟩) | ((with_reducible refine Z14 (f := 47) rfl ?_); refine goesL_ (some 67) rfl rfl Tryd.func47 (by kernel_rfl) rfl #[.int .u8 t197] rfl (by (try simp only [List.map_toArray, List.map_cons, List.map_nil]); first | done | rfl | (simp only [List.length_drop, List.length_take]; rfl)) ?_; (with_reducible refine (Z26.calls kj14 t197 t198 _ A25.out).mono ?_); rintro e w' ⟨rfl, ⟨nd, rfl⟩⟩; refine ⟨_, rfl, ?_⟩) | ((with_reducible refine Z14 (f := 48) rfl ?_); refine goesL_ (some 71) rfl rfl Tryd.func48 (by kernel_rfl) rfl #[.string a0, .int .i64 (wrap64 (a1 + 3))] rfl (by (try simp only [List.map_toArray, List.map_cons, List.map_nil]); first | done | rfl | (simp only [List.length_drop, List.length_take]; rfl)) ?_; (with_reducible refine (Z34.calls a0 (wrap64 (a1 + 3)) t199 _ A26.out).mono ?_); rintro e w' ⟨rfl, ⟨nd, rfl⟩⟩; refine ⟨_, rfl, ?_⟩) | ((with_reducible refine Z14 (f := 47) rfl ?_); refine goesL_ (some 72) rfl rfl Tryd.func47 (by kernel_rfl) rfl #[.int .u8 t199] rfl (by (try simp only [List.map_toArray, List.map_cons, List.map_nil]); first | done | rfl | (simp only [List.length_drop, List.length_take]; rfl)) ?_; (with_reducible refine (Z26.calls kj14 t199 t200 _ A27.out).mono ?_); rintro e w' ⟨rfl, ⟨nd, rfl⟩⟩; refine ⟨_, rfl, ?_⟩))
                       go_ret3
                       exact ⟨by first | rfl | (simp; done) | (simp [*]; done), by repeat (first | exact Drawn0.refl _ | apply Drawn0.step)⟩
                   · rw [if_neg c23] at H
                     have c23b0 : (t196 == 120) = false := beq_eq_false_iff_ne.mpr c23
                     have c23b1 : (t196 != 120) = true := bne_iff_ne.mpr c23
                     simp only [Option.some.injEq, Prod.mk.injEq] at H
                     obtain ⟨rfl, rfl, rfl⟩ := H
                     go_wp2
                     go_ret3
                     exact ⟨by first | rfl | (simp; done) | (simp [*]; done), by repeat (first | exact Drawn0.refl _ | apply Drawn0.step)⟩
     · rw [if_neg c9] at H
       have c9b0 : (t195 == 92) = false := beq_eq_false_iff_ne.mpr c9
       have c9b1 : (t195 != 92) = true := bne_iff_ne.mpr c9
       simp only [Option.some.injEq, Prod.mk.injEq] at H
       obtain ⟨rfl, rfl, rfl⟩ := H
       go_wp2
       go_ret3
       exact ⟨by first | rfl | (simp; done) | (simp [*]; done), by repeat (first | exact Drawn0.refl _ | apply Drawn0.step)⟩
end Go.Proofs.YtbmfadmoficfiaaDoor.Q
namespace Go.Proofs.YtbmfadmoficfiaaDoor.Q
open Go.RowKit Go.Proofs.YtbmfadmoficfiaaDoorW.PrintWords Go.Proofs.YtbmfadmoficfiaaDoorW.PrintLast Go.Proofs.YtbmfadmoficfiaaDoorW.PrintMore
attribute [local go_sem] Z56 Z54 Z61 Z60 Z49 Z48 Z55 Z53
set_option linter.unusedVariables false
set_option linter.unusedSimpArgs false
mutual
def Z23.l0 : Nat → ByteArray → Int → Int → List Int → Int → Option (Int × ByteArray × Int × Bool × Int × Int × Bool)
 | 0, _, _, _, _, _ => none
 | k + 1, x0, x1, x6, x7, x8 => if x8 < (x0.size : Int) then (if 0 ≤ x8 then (Z23.j1 k x0 x1 x6 x7 x8 ((bt x0 x8) != x6)) else (none)) else (Z23.j1 k x0 x1 x6 x7 x8 false)
def Z23.j1 : Nat → ByteArray → Int → Int → List Int → Int → Bool → Option (Int × ByteArray × Int × Bool × Int × Int × Bool)
 | 0, _, _, _, _, _, _ => none
 | k + 1, x0, x1, x6, x7, x8, x27 => if x27 = true then ((Z28.f k x0 x8 x6).bind fun bt202 => (if bt202.2.2 = true then (if x7.length < 140737488355328 then (Z23.l0 k x0 x1 x6 (x7 ++ [bt202.1]) bt202.2.1) else (none)) else (some (0, (⟨#[]⟩ : ByteArray), 0, false, 0, 0, false)))) else (if x8 ≥ (x0.size : Int) then (some (0, (⟨#[]⟩ : ByteArray), 0, false, 0, 0, false)) else (if x6 = 34 then (some (7, strOfNums x7, 0, false, x1, wrap64 (x8 + 1), true)) else (if (x7.length : Int) = 1 then (if 0 < (x7.length : Int) then (some (6, (⟨#[]⟩ : ByteArray), (rd x7 0) % 4294967296, false, x1, wrap64 (x8 + 1), true)) else (none)) else (some (0, (⟨#[]⟩ : ByteArray), 0, false, 0, 0, false)))))
end
def Z23.f (k : Nat) (a0 : ByteArray) (a1 : Int) : Option (Int × ByteArray × Int × Bool × Int × Int × Bool) := if 0 ≤ a1 then (if a1 < (a0.size : Int) then (Z23.l0 k a0 a1 (bt a0 a1) ([] : List Int) (wrap64 (a1 + 1))) else (none)) else (none)
theorem Z23.mono_l : ∀ k, (∀ y0 y1 y2 y3 y4, LeO (Z23.l0 k y0 y1 y2 y3 y4) (Z23.l0 (k + 1) y0 y1 y2 y3 y4)) ∧ (∀ y0 y1 y2 y3 y4 y5, LeO (Z23.j1 k y0 y1 y2 y3 y4 y5) (Z23.j1 (k + 1) y0 y1 y2 y3 y4 y5))
 | 0 => ⟨fun _ _ _ _ _ r h => by simp [Z23.l0] at h, fun _ _ _ _ _ _ r h => by simp [Z23.j1] at h⟩
 | k + 1 => by
  obtain ⟨ih0, ih1⟩ := Z23.mono_l k
  refine ⟨?_, ?_⟩
  · intro y0 y1 y2 y3 y4
    unfold Z23.l0
    repeat' first
    | (with_reducible exact ih0 _ _ _ _ _)
    | (with_reducible exact ih1 _ _ _ _ _ _)
    | (with_reducible exact Z28.mono _ _ _ _)
    | (with_reducible exact LeO.refl _)
    | (with_reducible exact LeO.none _)
    | (with_reducible refine LeO.ite ?_ ?_)
    | (with_reducible refine LeO.bind ?_ (fun _ => ?_))
    | exact ih0 _ _ _ _ _
    | exact ih1 _ _ _ _ _ _
    | exact Z28.mono _ _ _ _
    | exact LeO.none _
    | refine LeO.ite ?_ ?_
    | refine LeO.bind ?_ (fun _ => ?_)
  · intro y0 y1 y2 y3 y4 y5
    unfold Z23.j1
    repeat' first
    | (with_reducible exact ih0 _ _ _ _ _)
    | (with_reducible exact ih1 _ _ _ _ _ _)
    | (with_reducible exact Z28.mono _ _ _ _)
    | (with_reducible exact LeO.refl _)
    | (with_reducible exact LeO.none _)
    | (with_reducible refine LeO.ite ?_ ?_)
    | (with_reducible refine LeO.bind ?_ (fun _ => ?_))
    | exact ih0 _ _ _ _ _
    | exact ih1 _ _ _ _ _ _
    | exact Z28.mono _ _ _ _
    | exact LeO.none _
    | refine LeO.ite ?_ ?_
    | refine LeO.bind ?_ (fun _ => ?_)
theorem Z23.mono : ∀ a0 a1 k, LeO (Z23.f k a0 a1) (Z23.f (k + 1) a0 a1) := by
 intro a0 a1 k
 obtain ⟨ih0, ih1⟩ := Z23.mono_l k
 unfold Z23.f
 repeat' first
  | (with_reducible exact ih0 _ _ _ _ _)
  | (with_reducible exact ih1 _ _ _ _ _ _)
  | (with_reducible exact Z28.mono _ _ _ _)
  | (with_reducible exact LeO.refl _)
  | (with_reducible exact LeO.none _)
  | (with_reducible refine LeO.ite ?_ ?_)
  | (with_reducible refine LeO.bind ?_ (fun _ => ?_))
  | exact ih0 _ _ _ _ _
  | exact ih1 _ _ _ _ _ _
  | exact Z28.mono _ _ _ _
  | exact LeO.none _
  | refine LeO.ite ?_ ?_
  | refine LeO.bind ?_ (fun _ => ?_)
set_option maxHeartbeats 8000000 in
set_option maxRecDepth 100000 in
theorem Z23.calls (k : Nat) (a0 : ByteArray) (a1 : Int) (r1 : Int) (r2 : ByteArray) (r3 : Int) (r4 : Bool) (r5 : Int) (r6 : Int) (r7 : Bool) (w : World) (h : Z23.f k a0 a1 = some (r1, r2, r3, r4, r5, r6, r7)) :
 Calls Tryd.prog 40 #[.string a0, .int .i64 a1] w fun e w' => e = .returned (.tuple #[.agg #[.int .i64 r1, .string r2, .int .u32 r3, .bool r4, .int .i64 r5, .int .i64 r6], .bool r7]) ∧ Below w.heap.size w w' := by
 have hu24 := Tryd.underlying24
 have HB := Aside0.mk (Below.refl w.heap.size w)
 have H : (if 0 ≤ a1 then (if a1 < (a0.size : Int) then (Z23.l0 k a0 a1 (bt a0 a1) ([] : List Int) (wrap64 (a1 + 1))) else (none)) else (none)) = some (r1, r2, r3, r4, r5, r6, r7) := h
 clear h
 by_cases c3 : 0 ≤ a1
 · rw [if_pos c3] at H
   have c3b0 : decide (0 ≤ a1) = true := decide_eq_true c3
   clear c3
   by_cases c4 : a1 < (a0.size : Int)
   · rw [if_pos c4] at H
     have c4b0 : decide (a1 < (a0.size : Int)) = true := decide_eq_true c4
     clear c4
     have H' := Aside0.mk H
     clear H
     go_enter Tryd.func40, Tryd.ntmps40
     go_wp2_with (first | ((with_reducible refine Z52 (N := 4) rfl ?_); refine Z51 ?hg (N := 4) ?hd (cs := #[.int .i64 0, .string (⟨#[]⟩ : ByteArray), .int .u32 0, .bool false, .int .i64 0, .int .i64 0]) (t := 24) ?hr ?_; (case hd => rfl); (case hg => rfl); (case hr => first | (go_simp; done) | (go_simp; rfl)); intro gb201 hg w6 hbox hb; have n0_ := Aside0.mk (Z25 (by repeat (first | (with_reducible first | exact HB.out | apply Z7 | apply Z4 | apply Z6) | exact HB.out)) hb); have n1_ := Aside0.mk (hbox); have n2_ := Aside0.mk ((by rw [hg]; exact (Z27 (by repeat (first | (with_reducible first | exact HB.out | apply Z7 | apply Z4 | apply Z6) | exact HB.out))) : w.heap.size ≤ gb201)); have n3_ := Aside0.mk ((by rw [hg]; exact (Z27 (by repeat (first | (with_reducible first | exact HB.out | apply Z7 | apply Z4 | apply Z6) | exact HB.out))) : w.heap.size ≤ gb201)); clear HB; have HB := n0_; have BK201 := n1_; have GW201 := n2_; have GE201 := n3_; clear n0_ n1_ n2_ n3_; clear hb hbox hg; have p5 : 0 ≤ (a1 : Int) := of_decide_eq_true (by first | (with_reducible assumption) | assumption); have q5 : a1 < (a0.size : Int) := of_decide_eq_true (by first | (with_reducible assumption) | assumption); have hx5 := bt_at a0 a1; replace p5 := eq_true p5; replace q5 := eq_true q5))
     go_loopg [7, 8] k (fun kq v7 v8 w' => ∃ (x7_1 : List Int) (x8_1 : Int) (x202000_1 : Int) (x202001_1 : ByteArray) (x202002_1 : Int) (x202003_1 : Bool) (x202004_1 : Int) (x202005_1 : Int), v8 = .int .i64 x8_1 ∧ Aside0 (Z23.l0 kq a0 a1 (bt a0 a1) x7_1 x8_1 = some (r1, r2, r3, r4, r5, r6, r7)) ∧ Aside0 (kq ≤ k) ∧ Aside0 (Kd.R (Kd.int .u8) 5 w' w.heap.size (fun _ => True) v7 x7_1) ∧ Aside0 (w'.heap[gb201]? = some (.cells #[.int .i64 x202000_1, .string x202001_1, .int .u32 x202002_1, .bool x202003_1, .int .i64 x202004_1, .int .i64 x202005_1] 24 (0, 0))) ∧ Aside0 (Below w.heap.size w w'))
     case atStart => exact ⟨(([] : List Int)), (wrap64 (a1 + 1)), (0), ((⟨#[]⟩ : ByteArray)), (0), (false), (0), (0), (by first | rfl | (simp; done) | (simp [*]; done)), H', ⟨Nat.le_refl _⟩, ⟨by first | exact Kd.R_nil _ _ _ _ _ | exact Kd.N_nil _ _ _ _ _ | exact Kd.V_nil _ _ _ _ _ | exact Kd.Q_nil _ _ _ _ _ | exact Kd.S_nil _ _ _ _ _⟩, ⟨by (with_reducible repeat (first | refine Z0 ?_ _ | refine Z3 ?_ | refine Z1 ?_ _)); exact BK201.out⟩, ⟨by repeat (first | (with_reducible first | exact HB.out | apply Z7 | apply Z4 | apply Z6 | refine Z8 ?_ GE201.out) | exact HB.out)⟩⟩
     case round =>
      clear H'
      try clear c3
      try clear c3b0
      try clear c4
      try clear c4b0
      try clear p5
      try clear q5
      try clear hx5
      try clear p5
      try clear q5
      obtain ⟨x7_1, x8_1, x202000_1, x202001_1, x202002_1, x202003_1, x202004_1, x202005_1, rfl, HA, HK1, HO_7, BK201, HB⟩ := hrel
      cases gk with
      | zero => exact absurd HA.out (by simp [Z23.l0])
      | succ k1 =>
       have H := HA.out
       clear HA
       simp only [Z23.l0] at H
       have HC7 := Aside0.mk H
       clear H
       go_upto_region 4 with (fail)
       go_cut [27] (fun v27 wc => ∃ (kq : Nat) (x27_6 : Bool), v27 = .bool x27_6 ∧ Aside0 (Z23.j1 kq a0 a1 (bt a0 a1) x7_1 x8_1 x27_6 = some (r1, r2, r3, r4, r5, r6, r7)) ∧ Aside0 (kq ≤ k1) ∧ Aside0 (Kd.R (Kd.int .u8) 5 wc w.heap.size (fun _ => True) u7 x7_1) ∧ Aside0 (wc.heap[gb201]? = some (.cells #[.int .i64 x202000_1, .string x202001_1, .int .u32 x202002_1, .bool x202003_1, .int .i64 x202004_1, .int .i64 x202005_1] 24 (0, 0))) ∧ Aside0 (Below w.heap.size w wc))
       case first =>
        have H := HC7.out
        clear HC7
        by_cases c8 : x8_1 < (a0.size : Int)
        · rw [if_pos c8] at H
          have c8b0 : decide (x8_1 < (a0.size : Int)) = true := decide_eq_true c8
          clear c8
          (first | rw [c8b0] | (simp only [i64_w, i32_w]; rw [c8b0]) | skip)
          by_cases c9 : 0 ≤ x8_1
          · rw [if_pos c9] at H
            have c9b0 : decide (0 ≤ x8_1) = true := decide_eq_true c9
            clear c9
            have H' := Aside0.mk H
            clear H
            have p10 : 0 ≤ (x8_1 : Int) := of_decide_eq_true (by first | (with_reducible assumption) | assumption)
            have q10 : x8_1 < (a0.size : Int) := of_decide_eq_true (by first | (with_reducible assumption) | assumption)
            have hx10 := bt_at a0 x8_1
            replace p10 := eq_true p10
            replace q10 := eq_true q10
            go_wp2
            go_meet
            case rel => exact ⟨_, (((bt a0 x8_1) != (bt a0 a1))), (by first | rfl | (simp; done) | (simp [*]; done)), H', ⟨by have := HK1.out; first | omega | exact Nat.le_refl _⟩, ⟨by (with_reducible repeat (first | apply Kd.R_alloc | apply Kd.R_drewN | apply Kd.R_drew)); exact HO_7.out⟩, ⟨by (with_reducible repeat (first | refine Z0 ?_ _ | refine Z3 ?_ | refine Z1 ?_ _)); exact BK201.out⟩, ⟨by repeat (first | (with_reducible first | exact HB.out | apply Z7 | apply Z4 | apply Z6 | refine Z8 ?_ GE201.out) | exact HB.out)⟩⟩
          · rw [if_neg c9] at H
            exact absurd H (by simp)
        · rw [if_neg c8] at H
          have c8b0 : decide (x8_1 < (a0.size : Int)) = false := decide_eq_false c8
          clear c8
          (first | rw [c8b0] | (simp only [i64_w, i32_w]; rw [c8b0]) | skip)
          have H' := Aside0.mk H
          clear H
          go_wp2
          go_meet
          case rel => exact ⟨_, (false), (by first | rfl | (simp; done) | (simp [*]; done)), H', ⟨by have := HK1.out; first | omega | exact Nat.le_refl _⟩, ⟨by (with_reducible repeat (first | apply Kd.R_alloc | apply Kd.R_drewN | apply Kd.R_drew)); exact HO_7.out⟩, ⟨by (with_reducible repeat (first | refine Z0 ?_ _ | refine Z3 ?_ | refine Z1 ?_ _)); exact BK201.out⟩, ⟨by repeat (first | (with_reducible first | exact HB.out | apply Z7 | apply Z4 | apply Z6 | refine Z8 ?_ GE201.out) | exact HB.out)⟩⟩
       case rest =>
        clear HC7
        try clear c3
        try clear c3b0
        try clear c4
        try clear c4b0
        try clear p5
        try clear q5
        try clear hx5
        try clear p5
        try clear q5
        obtain ⟨kq, x27_6, rfl, HA, HJ6, HO_7, BK201, HB⟩ := hcut
        cases kq with
        | zero => exact absurd HA.out (by simp [Z23.j1])
        | succ kj6 =>
         have H := HA.out
         clear HA
         simp only [Z23.j1] at H
         by_cases c11 : x27_6 = true
         · subst c11
           have H1 : ((Z28.f kj6 a0 x8_1 (bt a0 a1)).bind fun bt202 => (if bt202.2.2 = true then (if x7_1.length < 140737488355328 then (Z23.l0 kj6 a0 a1 (bt a0 a1) (x7_1 ++ [bt202.1]) bt202.2.1) else (none)) else (some (0, (⟨#[]⟩ : ByteArray), 0, false, 0, 0, false)))) = some (r1, r2, r3, r4, r5, r6, r7) := by rw [if_pos rfl] at H; exact H
           clear H
           have H := H1
           clear H1
           replace H := Option.bind_eq_some_iff.mp H
           obtain ⟨⟨t202, t203, t204⟩, A120, H⟩ := H
           replace H : (if t204 = true then (if x7_1.length < 140737488355328 then (Z23.l0 kj6 a0 a1 (bt a0 a1) (x7_1 ++ [t202]) t203) else (none)) else (some (0, (⟨#[]⟩ : ByteArray), 0, false, 0, 0, false))) = some (r1, r2, r3, r4, r5, r6, r7) := H
           have A12 := Aside0.mk A120
           clear A120
           by_cases c13 : t204 = true
           · subst c13
             have H1 : (if x7_1.length < 140737488355328 then (Z23.l0 kj6 a0 a1 (bt a0 a1) (x7_1 ++ [t202]) t203) else (none)) = some (r1, r2, r3, r4, r5, r6, r7) := by rw [if_pos rfl] at H; exact H
             clear H
             have H := H1
             clear H1
             by_cases c14 : x7_1.length < 140737488355328
             · rw [if_pos c14] at H
               have LMc14 := Aside0.mk c14
               clear c14
               obtain ⟨y205, hy205⟩ : ∃ y_ : List Int, y_ = (x7_1 ++ [t202]) := ⟨_, rfl⟩
               replace H : (Z23.l0 kj6 a0 a1 (bt a0 a1) y205 t203) = some (r1, r2, r3, r4, r5, r6, r7) := by first | (rw [hy205]; with_reducible exact H) | (have H2_ := (Option.bind_some _ _).symm.trans H; rw [hy205]; with_reducible exact H2_) | (have H2_ := (Option.bind_some _ _).symm.trans H; with_reducible exact H2_) | with_reducible exact H | (rw [hy205]; exact H) | exact H
               have Ny205 := Aside0.mk hy205
               clear hy205
               have H' := Aside0.mk H
               clear H
               go_wp2_with (first | ((with_reducible refine Z14 (f := 49) rfl ?_); refine goesL_ (some 32) rfl rfl Tryd.func49 (by kernel_rfl) rfl #[.string a0, .int .i64 x8_1, .int .u8 (bt a0 a1)] rfl (by (try simp only [List.map_toArray, List.map_cons, List.map_nil]); first | done | rfl | (simp only [List.length_drop, List.length_take]; rfl)) ?_; (with_reducible refine (Z28.calls kj6 a0 x8_1 (bt a0 a1) t202 t203 true _ A12.out).mono ?_); rintro e w' ⟨rfl, ⟨nd, rfl⟩⟩; refine ⟨_, rfl, ?_⟩) | ((with_reducible refine Z69 (b := .append) (xs := #[.tmp 39, .tmp 41]) rfl ?_); at_builtin; refine Kd.R_append (Kd.int .u8) (w0 := w) w.heap.size rfl (.tmp 39) (.tmp 41) 35 5 (.int .u8 0) 1 rfl Tryd.underlying35 info5 rfl (by decide) (by omega) u7 x7_1 t202 [.int .u8 t202] (fun _ => True) (fun _ => False) rfl rfl ?aP (fun _ hk => hk.elim) ?aF ?aO ?aB ?aS ?aL ?_; (case aP => exact rfl); (case aB => exact (by repeat (first | (with_reducible first | exact HB.out | apply Z7 | apply Z4 | apply Z6 | refine Z8 ?_ GE201.out) | exact HB.out))); (case aF => exact (fun _ _ => trivial)); (case aO => exact (by (with_reducible repeat (first | apply Kd.R_alloc | apply Kd.R_drewN | apply Kd.R_drew)); exact HO_7.out)); (case aS => exact (Z27 (by repeat (first | (with_reducible first | exact HB.out | apply Z7 | apply Z4 | apply Z6 | refine Z8 ?_ GE201.out) | exact HB.out)))); (case aL => have := LMc14.out; omega); intro v206 w15 ho hb hg hat; rw [← Ny205.out] at ho; have n0_ := Aside0.mk (Z89 (g := gb201) (o := .cells #[.int .i64 x202000_1, .string x202001_1, .int .u32 x202002_1, .bool x202003_1, .int .i64 x202004_1, .int .i64 x202005_1] 24 (0, 0)) (by (with_reducible repeat (first | refine Z0 ?_ _ | refine Z3 ?_ | refine Z1 ?_ _)); exact BK201.out) hg (Kd.R_ne HO_7.out BK201.out (by decide))); have n1_ := Aside0.mk (hb); have n2_ := Aside0.mk (ho); clear BK201; clear HB; clear HO_7; have BK201 := n0_; have HB := n1_; have HO207 := n2_; clear n0_ n1_ n2_; clear ho hb hg hat))
               go_roundg kj6
               case measure => have := HK1.out; have := HJ6.out; omega
               case rel => exact ⟨(y205), (t203), (x202000_1), (x202001_1), (x202002_1), (x202003_1), (x202004_1), (x202005_1), (by first | rfl | (simp; done) | (simp [*]; done)), H', ⟨by have := HK1.out; have := HJ6.out; omega⟩, ⟨by (with_reducible repeat (first | apply Kd.R_alloc | apply Kd.R_drewN | apply Kd.R_drew)); exact HO207.out⟩, ⟨by (with_reducible repeat (first | refine Z0 ?_ _ | refine Z3 ?_ | refine Z1 ?_ _)); exact BK201.out⟩, ⟨by repeat (first | (with_reducible first | exact HB.out | apply Z7 | apply Z4 | apply Z6 | refine Z8 ?_ GE201.out) | exact HB.out)⟩⟩
             · rw [if_neg c14] at H
               exact absurd H (by simp)
           · replace c13 := Bool.eq_false_iff.mpr c13
             subst c13
             have H1 : (some (0, (⟨#[]⟩ : ByteArray), 0, false, 0, 0, false)) = some (r1, r2, r3, r4, r5, r6, r7) := by rw [if_neg (show ¬ (false = true) by decide)] at H; exact H
             clear H
             have H := H1
             clear H1
             simp only [Option.some.injEq, Prod.mk.injEq] at H
             obtain ⟨rfl, rfl, rfl, rfl, rfl, rfl, rfl⟩ := H
             go_wp2_with (first | ((with_reducible refine Z14 (f := 49) rfl ?_); refine goesL_ (some 32) rfl rfl Tryd.func49 (by kernel_rfl) rfl #[.string a0, .int .i64 x8_1, .int .u8 (bt a0 a1)] rfl (by (try simp only [List.map_toArray, List.map_cons, List.map_nil]); first | done | rfl | (simp only [List.length_drop, List.length_take]; rfl)) ?_; (with_reducible refine (Z28.calls kj6 a0 x8_1 (bt a0 a1) t202 t203 false _ A12.out).mono ?_); rintro e w' ⟨rfl, ⟨nd, rfl⟩⟩; refine ⟨_, rfl, ?_⟩; (try (rw [Z43 wc]; generalize hq_ : World.drewN wc _ = wc; have n0_ : Aside0 (Kd.R (Kd.int .u8) 5 wc w.heap.size (fun _ => True) u7 x7_1) := ⟨by rw [← hq_]; exact (by (with_reducible repeat (first | apply Kd.R_alloc | apply Kd.R_drewN | apply Kd.R_drew)); exact HO_7.out)⟩; have n1_ : Aside0 (wc.heap[gb201]? = some (.cells #[.int .i64 x202000_1, .string x202001_1, .int .u32 x202002_1, .bool x202003_1, .int .i64 x202004_1, .int .i64 x202005_1] 24 (0, 0))) := ⟨by rw [← hq_]; exact (by (with_reducible repeat (first | refine Z0 ?_ _ | refine Z3 ?_ | refine Z1 ?_ _)); exact BK201.out)⟩; have n2_ : Aside0 (Below w.heap.size w wc) := ⟨by rw [← hq_]; exact (by repeat (first | (with_reducible first | exact HB.out | apply Z7 | apply Z4 | apply Z6 | refine Z8 ?_ GE201.out) | exact HB.out))⟩; clear HO_7 BK201 HB hq_; have HO_7 := n0_; have BK201 := n1_; have HB := n2_; clear n0_ n1_ n2_)); have hcz16_0 : wc.cell? ⟨gb201, 0, none⟩ = some (.int .i64 x202000_1) := (Z5 BK201.out 0).trans rfl; have hcz16_1 : wc.cell? ⟨gb201, 1, none⟩ = some (.string x202001_1) := (Z5 BK201.out 1).trans rfl; have hcz16_2 : wc.cell? ⟨gb201, 2, none⟩ = some (.int .u32 x202002_1) := (Z5 BK201.out 2).trans rfl; have hcz16_3 : wc.cell? ⟨gb201, 3, none⟩ = some (.bool x202003_1) := (Z5 BK201.out 3).trans rfl; have hcz16_4 : wc.cell? ⟨gb201, 4, none⟩ = some (.int .i64 x202004_1) := (Z5 BK201.out 4).trans rfl; have hcz16_5 : wc.cell? ⟨gb201, 5, none⟩ = some (.int .i64 x202005_1) := (Z5 BK201.out 5).trans rfl; have hfz16_0 := Z2 BK201.out 0; have hfz16_1 := Z2 BK201.out 1; have hfz16_2 := Z2 BK201.out 2; have hfz16_3 := Z2 BK201.out 3; have hfz16_4 := Z2 BK201.out 4; have hfz16_5 := Z2 BK201.out 5))
             refine bodyPost_ret (Z46 rfl _ _ gb201 24 #[.int .i64 0, .string (⟨#[]⟩ : ByteArray), .int .u32 0, .bool false, .int .i64 0, .int .i64 0] (0, 0) _ rfl (by (with_reducible repeat (first | refine Z0 ?_ _ | refine Z3 ?_ | refine Z1 ?_ _)); refine Z9 (cs := #[.int .i64 0, .string (⟨#[]⟩ : ByteArray), .int .u32 0, .bool false, .int .i64 0, .int .i64 x202005_1]) ?_ 5 _ rfl; (with_reducible repeat (first | refine Z0 ?_ _ | refine Z3 ?_ | refine Z1 ?_ _)); refine Z9 (cs := #[.int .i64 0, .string (⟨#[]⟩ : ByteArray), .int .u32 0, .bool false, .int .i64 x202004_1, .int .i64 x202005_1]) ?_ 4 _ rfl; (with_reducible repeat (first | refine Z0 ?_ _ | refine Z3 ?_ | refine Z1 ?_ _)); refine Z9 (cs := #[.int .i64 0, .string (⟨#[]⟩ : ByteArray), .int .u32 0, .bool x202003_1, .int .i64 x202004_1, .int .i64 x202005_1]) ?_ 3 _ rfl; (with_reducible repeat (first | refine Z0 ?_ _ | refine Z3 ?_ | refine Z1 ?_ _)); refine Z9 (cs := #[.int .i64 0, .string (⟨#[]⟩ : ByteArray), .int .u32 x202002_1, .bool x202003_1, .int .i64 x202004_1, .int .i64 x202005_1]) ?_ 2 _ rfl; (with_reducible repeat (first | refine Z0 ?_ _ | refine Z3 ?_ | refine Z1 ?_ _)); refine Z9 (cs := #[.int .i64 0, .string x202001_1, .int .u32 x202002_1, .bool x202003_1, .int .i64 x202004_1, .int .i64 x202005_1]) ?_ 1 _ rfl; (with_reducible repeat (first | refine Z0 ?_ _ | refine Z3 ?_ | refine Z1 ?_ _)); refine Z9 (cs := #[.int .i64 x202000_1, .string x202001_1, .int .u32 x202002_1, .bool x202003_1, .int .i64 x202004_1, .int .i64 x202005_1]) ?_ 0 _ rfl; (with_reducible repeat (first | refine Z0 ?_ _ | refine Z3 ?_ | refine Z1 ?_ _)); exact BK201.out) Tryd.underlying24 rfl (by kernel_rfl)) rfl ?_
             exact ⟨by first | rfl | (simp [Z16, Z15] <;> rfl) | (simp [*, Z16, Z15] <;> rfl), by repeat (first | (with_reducible first | exact HB.out | apply Z7 | apply Z4 | apply Z6 | refine Z8 ?_ GE201.out) | exact HB.out)⟩
         · replace c11 := Bool.eq_false_iff.mpr c11
           subst c11
           have H1 : (if x8_1 ≥ (a0.size : Int) then (some (0, (⟨#[]⟩ : ByteArray), 0, false, 0, 0, false)) else (if (bt a0 a1) = 34 then (some (7, strOfNums x7_1, 0, false, a1, wrap64 (x8_1 + 1), true)) else (if (x7_1.length : Int) = 1 then (if 0 < (x7_1.length : Int) then (some (6, (⟨#[]⟩ : ByteArray), (rd x7_1 0) % 4294967296, false, a1, wrap64 (x8_1 + 1), true)) else (none)) else (some (0, (⟨#[]⟩ : ByteArray), 0, false, 0, 0, false))))) = some (r1, r2, r3, r4, r5, r6, r7) := by rw [if_neg (show ¬ (false = true) by decide)] at H; exact H
           clear H
           have H := H1
           clear H1
           by_cases c17 : x8_1 ≥ (a0.size : Int)
           · rw [if_pos c17] at H
             have c17b0 : decide ((a0.size : Int) ≤ x8_1) = true := decide_eq_true c17
             clear c17
             simp only [Option.some.injEq, Prod.mk.injEq] at H
             obtain ⟨rfl, rfl, rfl, rfl, rfl, rfl, rfl⟩ := H
             have hcz18_0 : wc.cell? ⟨gb201, 0, none⟩ = some (.int .i64 x202000_1) := (Z5 BK201.out 0).trans rfl
             have hcz18_1 : wc.cell? ⟨gb201, 1, none⟩ = some (.string x202001_1) := (Z5 BK201.out 1).trans rfl
             have hcz18_2 : wc.cell? ⟨gb201, 2, none⟩ = some (.int .u32 x202002_1) := (Z5 BK201.out 2).trans rfl
             have hcz18_3 : wc.cell? ⟨gb201, 3, none⟩ = some (.bool x202003_1) := (Z5 BK201.out 3).trans rfl
             have hcz18_4 : wc.cell? ⟨gb201, 4, none⟩ = some (.int .i64 x202004_1) := (Z5 BK201.out 4).trans rfl
             have hcz18_5 : wc.cell? ⟨gb201, 5, none⟩ = some (.int .i64 x202005_1) := (Z5 BK201.out 5).trans rfl
             have hfz18_0 := Z2 BK201.out 0
             have hfz18_1 := Z2 BK201.out 1
             have hfz18_2 := Z2 BK201.out 2
             have hfz18_3 := Z2 BK201.out 3
             have hfz18_4 := Z2 BK201.out 4
             have hfz18_5 := Z2 BK201.out 5
             go_wp2
             refine bodyPost_ret (Z46 rfl _ _ gb201 24 #[.int .i64 0, .string (⟨#[]⟩ : ByteArray), .int .u32 0, .bool false, .int .i64 0, .int .i64 0] (0, 0) _ rfl (by (with_reducible repeat (first | refine Z0 ?_ _ | refine Z3 ?_ | refine Z1 ?_ _)); refine Z9 (cs := #[.int .i64 0, .string (⟨#[]⟩ : ByteArray), .int .u32 0, .bool false, .int .i64 0, .int .i64 x202005_1]) ?_ 5 _ rfl; (with_reducible repeat (first | refine Z0 ?_ _ | refine Z3 ?_ | refine Z1 ?_ _)); refine Z9 (cs := #[.int .i64 0, .string (⟨#[]⟩ : ByteArray), .int .u32 0, .bool false, .int .i64 x202004_1, .int .i64 x202005_1]) ?_ 4 _ rfl; (with_reducible repeat (first | refine Z0 ?_ _ | refine Z3 ?_ | refine Z1 ?_ _)); refine Z9 (cs := #[.int .i64 0, .string (⟨#[]⟩ : ByteArray), .int .u32 0, .bool x202003_1, .int .i64 x202004_1, .int .i64 x202005_1]) ?_ 3 _ rfl; (with_reducible repeat (first | refine Z0 ?_ _ | refine Z3 ?_ | refine Z1 ?_ _)); refine Z9 (cs := #[.int .i64 0, .string (⟨#[]⟩ : ByteArray), .int .u32 x202002_1, .bool x202003_1, .int .i64 x202004_1, .int .i64 x202005_1]) ?_ 2 _ rfl; (with_reducible repeat (first | refine Z0 ?_ _ | refine Z3 ?_ | refine Z1 ?_ _)); refine Z9 (cs := #[.int .i64 0, .string x202001_1, .int .u32 x202002_1, .bool x202003_1, .int .i64 x202004_1, .int .i64 x202005_1]) ?_ 1 _ rfl; (with_reducible repeat (first | refine Z0 ?_ _ | refine Z3 ?_ | refine Z1 ?_ _)); refine Z9 (cs := #[.int .i64 x202000_1, .string x202001_1, .int .u32 x202002_1, .bool x202003_1, .int .i64 x202004_1, .int .i64 x202005_1]) ?_ 0 _ rfl; (with_reducible repeat (first | refine Z0 ?_ _ | refine Z3 ?_ | refine Z1 ?_ _)); exact BK201.out) Tryd.underlying24 rfl (by kernel_rfl)) rfl ?_
             exact ⟨by first | rfl | (simp [Z16, Z15] <;> rfl) | (simp [*, Z16, Z15] <;> rfl), by repeat (first | (with_reducible first | exact HB.out | apply Z7 | apply Z4 | apply Z6 | refine Z8 ?_ GE201.out) | exact HB.out)⟩
           · rw [if_neg c17] at H
             have c17b0 : decide ((a0.size : Int) ≤ x8_1) = false := decide_eq_false c17
             clear c17
             by_cases c19 : (bt a0 a1) = 34
             · rw [if_pos c19] at H
               have c19b0 : ((bt a0 a1) == 34) = true := beq_iff_eq.mpr c19
               have c19b1 : ((bt a0 a1) != 34) = false := bne_eq_false_iff_eq.mpr c19
               clear c19
               simp only [Option.some.injEq, Prod.mk.injEq] at H
               obtain ⟨rfl, rfl, rfl, rfl, rfl, rfl, rfl⟩ := H
               have hcv20 := own_string (P := Tryd.prog) Tryd.underlying35 Tryd.underlying5 Tryd.underlying9 (Kd.own_of_R HO_7.out)
               have hcz21_0 : wc.cell? ⟨gb201, 0, none⟩ = some (.int .i64 x202000_1) := (Z5 BK201.out 0).trans rfl
               have hcz21_1 : wc.cell? ⟨gb201, 1, none⟩ = some (.string x202001_1) := (Z5 BK201.out 1).trans rfl
               have hcz21_2 : wc.cell? ⟨gb201, 2, none⟩ = some (.int .u32 x202002_1) := (Z5 BK201.out 2).trans rfl
               have hcz21_3 : wc.cell? ⟨gb201, 3, none⟩ = some (.bool x202003_1) := (Z5 BK201.out 3).trans rfl
               have hcz21_4 : wc.cell? ⟨gb201, 4, none⟩ = some (.int .i64 x202004_1) := (Z5 BK201.out 4).trans rfl
               have hcz21_5 : wc.cell? ⟨gb201, 5, none⟩ = some (.int .i64 x202005_1) := (Z5 BK201.out 5).trans rfl
               have hfz21_0 := Z2 BK201.out 0
               have hfz21_1 := Z2 BK201.out 1
               have hfz21_2 := Z2 BK201.out 2
               have hfz21_3 := Z2 BK201.out 3
               have hfz21_4 := Z2 BK201.out 4
               have hfz21_5 := Z2 BK201.out 5
               go_wp2
               refine bodyPost_ret (Z46 rfl _ _ gb201 24 #[.int .i64 7, .string (strOfNums x7_1), .int .u32 0, .bool false, .int .i64 a1, .int .i64 (wrap64 (x8_1 + 1))] (0, 0) _ rfl (by (with_reducible repeat (first | refine Z0 ?_ _ | refine Z3 ?_ | refine Z1 ?_ _)); refine Z9 (cs := #[.int .i64 7, .string (strOfNums x7_1), .int .u32 0, .bool false, .int .i64 a1, .int .i64 x202005_1]) ?_ 5 _ rfl; (with_reducible repeat (first | refine Z0 ?_ _ | refine Z3 ?_ | refine Z1 ?_ _)); refine Z9 (cs := #[.int .i64 7, .string (strOfNums x7_1), .int .u32 0, .bool false, .int .i64 x202004_1, .int .i64 x202005_1]) ?_ 4 _ rfl; (with_reducible repeat (first | refine Z0 ?_ _ | refine Z3 ?_ | refine Z1 ?_ _)); refine Z9 (cs := #[.int .i64 7, .string (strOfNums x7_1), .int .u32 0, .bool x202003_1, .int .i64 x202004_1, .int .i64 x202005_1]) ?_ 3 _ rfl; (with_reducible repeat (first | refine Z0 ?_ _ | refine Z3 ?_ | refine Z1 ?_ _)); refine Z9 (cs := #[.int .i64 7, .string (strOfNums x7_1), .int .u32 x202002_1, .bool x202003_1, .int .i64 x202004_1, .int .i64 x202005_1]) ?_ 2 _ rfl; (with_reducible repeat (first | refine Z0 ?_ _ | refine Z3 ?_ | refine Z1 ?_ _)); refine Z9 (cs := #[.int .i64 7, .string x202001_1, .int .u32 x202002_1, .bool x202003_1, .int .i64 x202004_1, .int .i64 x202005_1]) ?_ 1 _ rfl; (with_reducible repeat (first | refine Z0 ?_ _ | refine Z3 ?_ | refine Z1 ?_ _)); refine Z9 (cs := #[.int .i64 x202000_1, .string x202001_1, .int .u32 x202002_1, .bool x202003_1, .int .i64 x202004_1, .int .i64 x202005_1]) ?_ 0 _ rfl; (with_reducible repeat (first | refine Z0 ?_ _ | refine Z3 ?_ | refine Z1 ?_ _)); exact BK201.out) Tryd.underlying24 rfl (by kernel_rfl)) rfl ?_
               exact ⟨by first | rfl | (simp [Z16, Z15] <;> rfl) | (simp [*, Z16, Z15] <;> rfl), by repeat (first | (with_reducible first | exact HB.out | apply Z7 | apply Z4 | apply Z6 | refine Z8 ?_ GE201.out) | exact HB.out)⟩
             · rw [if_neg c19] at H
               have c19b0 : ((bt a0 a1) == 34) = false := beq_eq_false_iff_ne.mpr c19
               have c19b1 : ((bt a0 a1) != 34) = true := bne_iff_ne.mpr c19
               by_cases c22 : (x7_1.length : Int) = 1
               · rw [if_pos c22] at H
                 have c22b0 : ((x7_1.length : Int) == 1) = true := beq_iff_eq.mpr c22
                 have c22b1 : ((x7_1.length : Int) != 1) = false := bne_eq_false_iff_eq.mpr c22
                 clear c22
                 by_cases c23 : 0 < (x7_1.length : Int)
                 · rw [if_pos c23] at H
                   have c23b0 : decide (0 < (x7_1.length : Int)) = true := decide_eq_true c23
                   have c23b1 : decide (0 < x7_1.length) = true := decide_eq_true (by omega)
                   clear c23
                   simp only [Option.some.injEq, Prod.mk.injEq] at H
                   obtain ⟨rfl, rfl, rfl, rfl, rfl, rfl, rfl⟩ := H
                   obtain ⟨Ao24, co24, eo24⟩ := Kd.R_slice HO_7.out
                   subst eo24
                   have p208 : 0 ≤ (0 : Int) := (by omega)
                   have q208 : 0 < (x7_1.length : Int) := of_decide_eq_true (by first | (with_reducible assumption) | assumption)
                   obtain ⟨ad208, e208, hx208_0⟩ := Kd.at_int (Kd.R_reads' HO_7.out).2.2 0 p208 q208
                   cases e208
                   have qi208 : (0 < x7_1.length) = True := eq_true (by omega)
                   (try rw [show ((0 : Int)).toNat = 0 from rfl] at hx208_0)
                   (try rw [Addr.add_zero'] at hx208_0)
                   replace p208 := eq_true p208
                   replace q208 := eq_true q208
                   have hcz25_0 : wc.cell? ⟨gb201, 0, none⟩ = some (.int .i64 x202000_1) := (Z5 BK201.out 0).trans rfl
                   have hcz25_1 : wc.cell? ⟨gb201, 1, none⟩ = some (.string x202001_1) := (Z5 BK201.out 1).trans rfl
                   have hcz25_2 : wc.cell? ⟨gb201, 2, none⟩ = some (.int .u32 x202002_1) := (Z5 BK201.out 2).trans rfl
                   have hcz25_3 : wc.cell? ⟨gb201, 3, none⟩ = some (.bool x202003_1) := (Z5 BK201.out 3).trans rfl
                   have hcz25_4 : wc.cell? ⟨gb201, 4, none⟩ = some (.int .i64 x202004_1) := (Z5 BK201.out 4).trans rfl
                   have hcz25_5 : wc.cell? ⟨gb201, 5, none⟩ = some (.int .i64 x202005_1) := (Z5 BK201.out 5).trans rfl
                   have hfz25_0 := Z2 BK201.out 0
                   have hfz25_1 := Z2 BK201.out 1
                   have hfz25_2 := Z2 BK201.out 2
                   have hfz25_3 := Z2 BK201.out 3
                   have hfz25_4 := Z2 BK201.out 4
                   have hfz25_5 := Z2 BK201.out 5
                   go_wp2
                   refine bodyPost_ret (Z46 rfl _ _ gb201 24 #[.int .i64 6, .string (⟨#[]⟩ : ByteArray), .int .u32 ((rd x7_1 0) % 4294967296), .bool false, .int .i64 a1, .int .i64 (wrap64 (x8_1 + 1))] (0, 0) _ rfl (by (with_reducible repeat (first | refine Z0 ?_ _ | refine Z3 ?_ | refine Z1 ?_ _)); refine Z9 (cs := #[.int .i64 6, .string (⟨#[]⟩ : ByteArray), .int .u32 ((rd x7_1 0) % 4294967296), .bool false, .int .i64 a1, .int .i64 x202005_1]) ?_ 5 _ rfl; (with_reducible repeat (first | refine Z0 ?_ _ | refine Z3 ?_ | refine Z1 ?_ _)); refine Z9 (cs := #[.int .i64 6, .string (⟨#[]⟩ : ByteArray), .int .u32 ((rd x7_1 0) % 4294967296), .bool false, .int .i64 x202004_1, .int .i64 x202005_1]) ?_ 4 _ rfl; (with_reducible repeat (first | refine Z0 ?_ _ | refine Z3 ?_ | refine Z1 ?_ _)); refine Z9 (cs := #[.int .i64 6, .string (⟨#[]⟩ : ByteArray), .int .u32 ((rd x7_1 0) % 4294967296), .bool x202003_1, .int .i64 x202004_1, .int .i64 x202005_1]) ?_ 3 _ rfl; (with_reducible repeat (first | refine Z0 ?_ _ | refine Z3 ?_ | refine Z1 ?_ _)); refine Z9 (cs := #[.int .i64 6, .string (⟨#[]⟩ : ByteArray), .int .u32 x202002_1, .bool x202003_1, .int .i64 x202004_1, .int .i64 x202005_1]) ?_ 2 _ rfl; (with_reducible repeat (first | refine Z0 ?_ _ | refine Z3 ?_ | refine Z1 ?_ _)); refine Z9 (cs := #[.int .i64 6, .string x202001_1, .int .u32 x202002_1, .bool x202003_1, .int .i64 x202004_1, .int .i64 x202005_1]) ?_ 1 _ rfl; (with_reducible repeat (first | refine Z0 ?_ _ | refine Z3 ?_ | refine Z1 ?_ _)); refine Z9 (cs := #[.int .i64 x202000_1, .string x202001_1, .int .u32 x202002_1, .bool x202003_1, .int .i64 x202004_1, .int .i64 x202005_1]) ?_ 0 _ rfl; (with_reducible repeat (first | refine Z0 ?_ _ | refine Z3 ?_ | refine Z1 ?_ _)); exact BK201.out) Tryd.underlying24 rfl (by kernel_rfl)) rfl ?_
                   exact ⟨by first | rfl | (simp [Z16, Z15] <;> rfl) | (simp [*, Z16, Z15] <;> rfl), by repeat (first | (with_reducible first | exact HB.out | apply Z7 | apply Z4 | apply Z6 | refine Z8 ?_ GE201.out) | exact HB.out)⟩
                 · rw [if_neg c23] at H
                   exact absurd H (by simp)
               · rw [if_neg c22] at H
                 have c22b0 : ((x7_1.length : Int) == 1) = false := beq_eq_false_iff_ne.mpr c22
                 have c22b1 : ((x7_1.length : Int) != 1) = true := bne_iff_ne.mpr c22
                 simp only [Option.some.injEq, Prod.mk.injEq] at H
                 obtain ⟨rfl, rfl, rfl, rfl, rfl, rfl, rfl⟩ := H
                 obtain ⟨Ao26, co26, eo26⟩ := Kd.R_slice HO_7.out
                 subst eo26
                 have hcz27_0 : wc.cell? ⟨gb201, 0, none⟩ = some (.int .i64 x202000_1) := (Z5 BK201.out 0).trans rfl
                 have hcz27_1 : wc.cell? ⟨gb201, 1, none⟩ = some (.string x202001_1) := (Z5 BK201.out 1).trans rfl
                 have hcz27_2 : wc.cell? ⟨gb201, 2, none⟩ = some (.int .u32 x202002_1) := (Z5 BK201.out 2).trans rfl
                 have hcz27_3 : wc.cell? ⟨gb201, 3, none⟩ = some (.bool x202003_1) := (Z5 BK201.out 3).trans rfl
                 have hcz27_4 : wc.cell? ⟨gb201, 4, none⟩ = some (.int .i64 x202004_1) := (Z5 BK201.out 4).trans rfl
                 have hcz27_5 : wc.cell? ⟨gb201, 5, none⟩ = some (.int .i64 x202005_1) := (Z5 BK201.out 5).trans rfl
                 have hfz27_0 := Z2 BK201.out 0
                 have hfz27_1 := Z2 BK201.out 1
                 have hfz27_2 := Z2 BK201.out 2
                 have hfz27_3 := Z2 BK201.out 3
                 have hfz27_4 := Z2 BK201.out 4
                 have hfz27_5 := Z2 BK201.out 5
                 go_wp2
                 refine bodyPost_ret (Z46 rfl _ _ gb201 24 #[.int .i64 0, .string (⟨#[]⟩ : ByteArray), .int .u32 0, .bool false, .int .i64 0, .int .i64 0] (0, 0) _ rfl (by (with_reducible repeat (first | refine Z0 ?_ _ | refine Z3 ?_ | refine Z1 ?_ _)); refine Z9 (cs := #[.int .i64 0, .string (⟨#[]⟩ : ByteArray), .int .u32 0, .bool false, .int .i64 0, .int .i64 x202005_1]) ?_ 5 _ rfl; (with_reducible repeat (first | refine Z0 ?_ _ | refine Z3 ?_ | refine Z1 ?_ _)); refine Z9 (cs := #[.int .i64 0, .string (⟨#[]⟩ : ByteArray), .int .u32 0, .bool false, .int .i64 x202004_1, .int .i64 x202005_1]) ?_ 4 _ rfl; (with_reducible repeat (first | refine Z0 ?_ _ | refine Z3 ?_ | refine Z1 ?_ _)); refine Z9 (cs := #[.int .i64 0, .string (⟨#[]⟩ : ByteArray), .int .u32 0, .bool x202003_1, .int .i64 x202004_1, .int .i64 x202005_1]) ?_ 3 _ rfl; (with_reducible repeat (first | refine Z0 ?_ _ | refine Z3 ?_ | refine Z1 ?_ _)); refine Z9 (cs := #[.int .i64 0, .string (⟨#[]⟩ : ByteArray), .int .u32 x202002_1, .bool x202003_1, .int .i64 x202004_1, .int .i64 x202005_1]) ?_ 2 _ rfl; (with_reducible repeat (first | refine Z0 ?_ _ | refine Z3 ?_ | refine Z1 ?_ _)); refine Z9 (cs := #[.int .i64 0, .string x202001_1, .int .u32 x202002_1, .bool x202003_1, .int .i64 x202004_1, .int .i64 x202005_1]) ?_ 1 _ rfl; (with_reducible repeat (first | refine Z0 ?_ _ | refine Z3 ?_ | refine Z1 ?_ _)); refine Z9 (cs := #[.int .i64 x202000_1, .string x202001_1, .int .u32 x202002_1, .bool x202003_1, .int .i64 x202004_1, .int .i64 x202005_1]) ?_ 0 _ rfl; (with_reducible repeat (first | refine Z0 ?_ _ | refine Z3 ?_ | refine Z1 ?_ _)); exact BK201.out) Tryd.underlying24 rfl (by kernel_rfl)) rfl ?_
                 exact ⟨by first | rfl | (simp [Z16, Z15] <;> rfl) | (simp [*, Z16, Z15] <;> rfl), by repeat (first | (with_reducible first | exact HB.out | apply Z7 | apply Z4 | apply Z6 | refine Z8 ?_ GE201.out) | exact HB.out)⟩
   · rw [if_neg c4] at H
     exact absurd H (by simp)
 · rw [if_neg c3] at H
   exact absurd H (by simp)
end Go.Proofs.YtbmfadmoficfiaaDoor.Q
