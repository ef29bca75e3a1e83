/- A part of the proof, made small by a program: Qx26, Qx27, Qx28, Qx32, Qx1, Qx33. -/
import Derived.Test.YtbmfadmoficfiaaDoorVa2
import Derived.Test.YtbmfadmoficfiaaDoorVa4
import Derived.Test.YtbmfadmoficfiaaDoorVa8
import Derived.Test.YtbmfadmoficfiaaDoorVa9
import Derived.Test.YtbmfadmoficfiaaDoorVa10
namespace Go.Proofs.YtbmfadmoficfiaaDoor.Q
open Go.RowKit Go.Proofs.YtbmfadmoficfiaaDoorW.PrintWords Go.Proofs.YtbmfadmoficfiaaDoorW.PrintLast Go.Proofs.YtbmfadmoficfiaaDoorW.PrintMore
attribute [local go_sem] Z56 Z54 Z61 Z60 Z49 Z48 Z55 Z53
set_option linter.unusedVariables false
set_option linter.unusedSimpArgs false
def Z64.f  : Option (List ByteArray) := some (([(⟨#[60, 60, 61]⟩ : ByteArray), (⟨#[62, 62, 61]⟩ : ByteArray), (⟨#[45, 62]⟩ : ByteArray), (⟨#[43, 61]⟩ : ByteArray), (⟨#[45, 61]⟩ : ByteArray), (⟨#[42, 61]⟩ : ByteArray), (⟨#[47, 61]⟩ : ByteArray), (⟨#[37, 61]⟩ : ByteArray), (⟨#[38, 61]⟩ : ByteArray), (⟨#[124, 61]⟩ : ByteArray), (⟨#[94, 61]⟩ : ByteArray), (⟨#[61, 61]⟩ : ByteArray), (⟨#[33, 61]⟩ : ByteArray), (⟨#[60, 61]⟩ : ByteArray), (⟨#[62, 61]⟩ : ByteArray), (⟨#[60, 60]⟩ : ByteArray), (⟨#[62, 62]⟩ : ByteArray), (⟨#[38, 38]⟩ : ByteArray), (⟨#[124, 124]⟩ : ByteArray), (⟨#[40]⟩ : ByteArray), (⟨#[41]⟩ : ByteArray), (⟨#[123]⟩ : ByteArray), (⟨#[125]⟩ : ByteArray), (⟨#[91]⟩ : ByteArray), (⟨#[93]⟩ : ByteArray), (⟨#[59]⟩ : ByteArray), (⟨#[44]⟩ : ByteArray), (⟨#[46]⟩ : ByteArray), (⟨#[61]⟩ : ByteArray), (⟨#[60]⟩ : ByteArray), (⟨#[62]⟩ : ByteArray), (⟨#[43]⟩ : ByteArray), (⟨#[45]⟩ : ByteArray), (⟨#[42]⟩ : ByteArray), (⟨#[47]⟩ : ByteArray), (⟨#[37]⟩ : ByteArray), (⟨#[38]⟩ : ByteArray), (⟨#[124]⟩ : ByteArray), (⟨#[94]⟩ : ByteArray), (⟨#[126]⟩ : ByteArray), (⟨#[33]⟩ : ByteArray), (⟨#[63]⟩ : ByteArray), (⟨#[58]⟩ : ByteArray)] : List ByteArray))
set_option maxHeartbeats 8000000 in
set_option maxRecDepth 100000 in
theorem Z64.calls  (r : List ByteArray) (w : World) (h : Z64.f  = some r) :
 Calls Tryd.prog 41 #[] w fun e w' => ∃ v0_ : Value, e = .returned (v0_) ∧ Kd.R Kd.string 9 w' w.heap.size (fun _ => True) v0_ r ∧ Below w.heap.size w w' := by
 have HB := Aside0.mk (Below.refl w.heap.size w)
 have H : (some (([(⟨#[60, 60, 61]⟩ : ByteArray), (⟨#[62, 62, 61]⟩ : ByteArray), (⟨#[45, 62]⟩ : ByteArray), (⟨#[43, 61]⟩ : ByteArray), (⟨#[45, 61]⟩ : ByteArray), (⟨#[42, 61]⟩ : ByteArray), (⟨#[47, 61]⟩ : ByteArray), (⟨#[37, 61]⟩ : ByteArray), (⟨#[38, 61]⟩ : ByteArray), (⟨#[124, 61]⟩ : ByteArray), (⟨#[94, 61]⟩ : ByteArray), (⟨#[61, 61]⟩ : ByteArray), (⟨#[33, 61]⟩ : ByteArray), (⟨#[60, 61]⟩ : ByteArray), (⟨#[62, 61]⟩ : ByteArray), (⟨#[60, 60]⟩ : ByteArray), (⟨#[62, 62]⟩ : ByteArray), (⟨#[38, 38]⟩ : ByteArray), (⟨#[124, 124]⟩ : ByteArray), (⟨#[40]⟩ : ByteArray), (⟨#[41]⟩ : ByteArray), (⟨#[123]⟩ : ByteArray), (⟨#[125]⟩ : ByteArray), (⟨#[91]⟩ : ByteArray), (⟨#[93]⟩ : ByteArray), (⟨#[59]⟩ : ByteArray), (⟨#[44]⟩ : ByteArray), (⟨#[46]⟩ : ByteArray), (⟨#[61]⟩ : ByteArray), (⟨#[60]⟩ : ByteArray), (⟨#[62]⟩ : ByteArray), (⟨#[43]⟩ : ByteArray), (⟨#[45]⟩ : ByteArray), (⟨#[42]⟩ : ByteArray), (⟨#[47]⟩ : ByteArray), (⟨#[37]⟩ : ByteArray), (⟨#[38]⟩ : ByteArray), (⟨#[124]⟩ : ByteArray), (⟨#[94]⟩ : ByteArray), (⟨#[126]⟩ : ByteArray), (⟨#[33]⟩ : ByteArray), (⟨#[63]⟩ : ByteArray), (⟨#[58]⟩ : ByteArray)] : List ByteArray))) = some r := h
 clear h
 obtain ⟨y209, hy209⟩ : ∃ y_ : List ByteArray, y_ = (([(⟨#[60, 60, 61]⟩ : ByteArray), (⟨#[62, 62, 61]⟩ : ByteArray), (⟨#[45, 62]⟩ : ByteArray), (⟨#[43, 61]⟩ : ByteArray), (⟨#[45, 61]⟩ : ByteArray), (⟨#[42, 61]⟩ : ByteArray), (⟨#[47, 61]⟩ : ByteArray), (⟨#[37, 61]⟩ : ByteArray), (⟨#[38, 61]⟩ : ByteArray), (⟨#[124, 61]⟩ : ByteArray), (⟨#[94, 61]⟩ : ByteArray), (⟨#[61, 61]⟩ : ByteArray), (⟨#[33, 61]⟩ : ByteArray), (⟨#[60, 61]⟩ : ByteArray), (⟨#[62, 61]⟩ : ByteArray), (⟨#[60, 60]⟩ : ByteArray), (⟨#[62, 62]⟩ : ByteArray), (⟨#[38, 38]⟩ : ByteArray), (⟨#[124, 124]⟩ : ByteArray), (⟨#[40]⟩ : ByteArray), (⟨#[41]⟩ : ByteArray), (⟨#[123]⟩ : ByteArray), (⟨#[125]⟩ : ByteArray), (⟨#[91]⟩ : ByteArray), (⟨#[93]⟩ : ByteArray), (⟨#[59]⟩ : ByteArray), (⟨#[44]⟩ : ByteArray), (⟨#[46]⟩ : ByteArray), (⟨#[61]⟩ : ByteArray), (⟨#[60]⟩ : ByteArray), (⟨#[62]⟩ : ByteArray), (⟨#[43]⟩ : ByteArray), (⟨#[45]⟩ : ByteArray), (⟨#[42]⟩ : ByteArray), (⟨#[47]⟩ : ByteArray), (⟨#[37]⟩ : ByteArray), (⟨#[38]⟩ : ByteArray), (⟨#[124]⟩ : ByteArray), (⟨#[94]⟩ : ByteArray), (⟨#[126]⟩ : ByteArray), (⟨#[33]⟩ : ByteArray), (⟨#[63]⟩ : ByteArray), (⟨#[58]⟩ : ByteArray)] : List ByteArray)) := ⟨_, rfl⟩
 replace H : (some y209) = some r := by first | (rw [hy209]; with_reducible exact H) | (have H2_ := (Option.bind_some _ _).symm.trans H; rw [hy209]; with_reducible exact H2_) | (have H2_ := (Option.bind_some _ _).symm.trans H; with_reducible exact H2_) | with_reducible exact H | (rw [hy209]; exact H) | exact H
 have Ny209 := Aside0.mk hy209
 clear hy209
 obtain rfl := Option.some.inj H
 go_enter Tryd.func41, Tryd.ntmps41
 go_wp2_with (first | ((with_reducible refine Z52 (N := 1) rfl ?_); refine Kd.R_lit Kd.string _ 9 ?hg (N := 1) ?hd (xs := ([(⟨#[60, 60, 61]⟩ : ByteArray), (⟨#[62, 62, 61]⟩ : ByteArray), (⟨#[45, 62]⟩ : ByteArray), (⟨#[43, 61]⟩ : ByteArray), (⟨#[45, 61]⟩ : ByteArray), (⟨#[42, 61]⟩ : ByteArray), (⟨#[47, 61]⟩ : ByteArray), (⟨#[37, 61]⟩ : ByteArray), (⟨#[38, 61]⟩ : ByteArray), (⟨#[124, 61]⟩ : ByteArray), (⟨#[94, 61]⟩ : ByteArray), (⟨#[61, 61]⟩ : ByteArray), (⟨#[33, 61]⟩ : ByteArray), (⟨#[60, 61]⟩ : ByteArray), (⟨#[62, 61]⟩ : ByteArray), (⟨#[60, 60]⟩ : ByteArray), (⟨#[62, 62]⟩ : ByteArray), (⟨#[38, 38]⟩ : ByteArray), (⟨#[124, 124]⟩ : ByteArray), (⟨#[40]⟩ : ByteArray), (⟨#[41]⟩ : ByteArray), (⟨#[123]⟩ : ByteArray), (⟨#[125]⟩ : ByteArray), (⟨#[91]⟩ : ByteArray), (⟨#[93]⟩ : ByteArray), (⟨#[59]⟩ : ByteArray), (⟨#[44]⟩ : ByteArray), (⟨#[46]⟩ : ByteArray), (⟨#[61]⟩ : ByteArray), (⟨#[60]⟩ : ByteArray), (⟨#[62]⟩ : ByteArray), (⟨#[43]⟩ : ByteArray), (⟨#[45]⟩ : ByteArray), (⟨#[42]⟩ : ByteArray), (⟨#[47]⟩ : ByteArray), (⟨#[37]⟩ : ByteArray), (⟨#[38]⟩ : ByteArray), (⟨#[124]⟩ : ByteArray), (⟨#[94]⟩ : ByteArray), (⟨#[126]⟩ : ByteArray), (⟨#[33]⟩ : ByteArray), (⟨#[63]⟩ : ByteArray), (⟨#[58]⟩ : ByteArray)] : List ByteArray)) (inner := [.string (⟨#[60, 60, 61]⟩ : ByteArray), .string (⟨#[62, 62, 61]⟩ : ByteArray), .string (⟨#[45, 62]⟩ : ByteArray), .string (⟨#[43, 61]⟩ : ByteArray), .string (⟨#[45, 61]⟩ : ByteArray), .string (⟨#[42, 61]⟩ : ByteArray), .string (⟨#[47, 61]⟩ : ByteArray), .string (⟨#[37, 61]⟩ : ByteArray), .string (⟨#[38, 61]⟩ : ByteArray), .string (⟨#[124, 61]⟩ : ByteArray), .string (⟨#[94, 61]⟩ : ByteArray), .string (⟨#[61, 61]⟩ : ByteArray), .string (⟨#[33, 61]⟩ : ByteArray), .string (⟨#[60, 61]⟩ : ByteArray), .string (⟨#[62, 61]⟩ : ByteArray), .string (⟨#[60, 60]⟩ : ByteArray), .string (⟨#[62, 62]⟩ : ByteArray), .string (⟨#[38, 38]⟩ : ByteArray), .string (⟨#[124, 124]⟩ : ByteArray), .string (⟨#[40]⟩ : ByteArray), .string (⟨#[41]⟩ : ByteArray), .string (⟨#[123]⟩ : ByteArray), .string (⟨#[125]⟩ : ByteArray), .string (⟨#[91]⟩ : ByteArray), .string (⟨#[93]⟩ : ByteArray), .string (⟨#[59]⟩ : ByteArray), .string (⟨#[44]⟩ : ByteArray), .string (⟨#[46]⟩ : ByteArray), .string (⟨#[61]⟩ : ByteArray), .string (⟨#[60]⟩ : ByteArray), .string (⟨#[62]⟩ : ByteArray), .string (⟨#[43]⟩ : ByteArray), .string (⟨#[45]⟩ : ByteArray), .string (⟨#[42]⟩ : ByteArray), .string (⟨#[47]⟩ : ByteArray), .string (⟨#[37]⟩ : ByteArray), .string (⟨#[38]⟩ : ByteArray), .string (⟨#[124]⟩ : ByteArray), .string (⟨#[94]⟩ : ByteArray), .string (⟨#[126]⟩ : ByteArray), .string (⟨#[33]⟩ : ByteArray), .string (⟨#[63]⟩ : ByteArray), .string (⟨#[58]⟩ : ByteArray)]) (ok := fun _ => True) (okp := fun _ => True) ?hr ?hp (fun _ hk => hk) trivial (Below.refl _ _) (Nat.le_refl _) (by simp) ?_; (case hd => rfl); (case hg => rfl); (case hr => first | (go_simp; done) | (go_simp; rfl)); (case hp => exact (Reps.one (show Kd.M Kd.string _ _ _ (⟨#[60, 60, 61]⟩ : ByteArray) [.string (⟨#[60, 60, 61]⟩ : ByteArray)] from rfl) (Reps.one (show Kd.M Kd.string _ _ _ (⟨#[62, 62, 61]⟩ : ByteArray) [.string (⟨#[62, 62, 61]⟩ : ByteArray)] from rfl) (Reps.one (show Kd.M Kd.string _ _ _ (⟨#[45, 62]⟩ : ByteArray) [.string (⟨#[45, 62]⟩ : ByteArray)] from rfl) (Reps.one (show Kd.M Kd.string _ _ _ (⟨#[43, 61]⟩ : ByteArray) [.string (⟨#[43, 61]⟩ : ByteArray)] from rfl) (Reps.one (show Kd.M Kd.string _ _ _ (⟨#[45, 61]⟩ : ByteArray) [.string (⟨#[45, 61]⟩ : ByteArray)] from rfl) (Reps.one (show Kd.M Kd.string _ _ _ (⟨#[42, 61]⟩ : ByteArray) [.string (⟨#[42, 61]⟩ : ByteArray)] from rfl) (Reps.one (show Kd.M Kd.string _ _ _ (⟨#[47, 61]⟩ : ByteArray) [.string (⟨#[47, 61]⟩ : ByteArray)] from rfl) (Reps.one (show Kd.M Kd.string _ _ _ (⟨#[37, 61]⟩ : ByteArray) [.string (⟨#[37, 61]⟩ : ByteArray)] from rfl) (Reps.one (show Kd.M Kd.string _ _ _ (⟨#[38, 61]⟩ : ByteArray) [.string (⟨#[38, 61]⟩ : ByteArray)] from rfl) (Reps.one (show Kd.M Kd.string _ _ _ (⟨#[124, 61]⟩ : ByteArray) [.string (⟨#[124, 61]⟩ : ByteArray)] from rfl) (Reps.one (show Kd.M Kd.string _ _ _ (⟨#[94, 61]⟩ : ByteArray) [.string (⟨#[94, 61]⟩ : ByteArray)] from rfl) (Reps.one (show Kd.M Kd.string _ _ _ (⟨#[61, 61]⟩ : ByteArray) [.string (⟨#[61, 61]⟩ : ByteArray)] from rfl) (Reps.one (show Kd.M Kd.string _ _ _ (⟨#[33, 61]⟩ : ByteArray) [.string (⟨#[33, 61]⟩ : ByteArray)] from rfl) (Reps.one (show Kd.M Kd.string _ _ _ (⟨#[60, 61]⟩ : ByteArray) [.string (⟨#[60, 61]⟩ : ByteArray)] from rfl) (Reps.one (show Kd.M Kd.string _ _ _ (⟨#[62, 61]⟩ : ByteArray) [.string (⟨#[62, 61]⟩ : ByteArray)] from rfl) (Reps.one (show Kd.M Kd.string _ _ _ (⟨#[60, 60]⟩ : ByteArray) [.string (⟨#[60, 60]⟩ : ByteArray)] from rfl) (Reps.one (show Kd.M Kd.string _ _ _ (⟨#[62, 62]⟩ : ByteArray) [.string (⟨#[62, 62]⟩ : ByteArray)] from rfl) (Reps.one (show Kd.M Kd.string _ _ _ (⟨#[38, 38]⟩ : ByteArray) [.string (⟨#[38, 38]⟩ : ByteArray)] from rfl) (Reps.one (show Kd.M Kd.string _ _ _ (⟨#[124, 124]⟩ : ByteArray) [.string (⟨#[124, 124]⟩ : ByteArray)] from rfl) (Reps.one (show Kd.M Kd.string _ _ _ (⟨#[40]⟩ : ByteArray) [.string (⟨#[40]⟩ : ByteArray)] from rfl) (Reps.one (show Kd.M Kd.string _ _ _ (⟨#[41]⟩ : ByteArray) [.string (⟨#[41]⟩ : ByteArray)] from rfl) (Reps.one (show Kd.M Kd.string _ _ _ (⟨#[123]⟩ : ByteArray) [.string (⟨#[123]⟩ : ByteArray)] from rfl) (Reps.one (show Kd.M Kd.string _ _ _ (⟨#[125]⟩ : ByteArray) [.string (⟨#[125]⟩ : ByteArray)] from rfl) (Reps.one (show Kd.M Kd.string _ _ _ (⟨#[91]⟩ : ByteArray) [.string (⟨#[91]⟩ : ByteArray)] from rfl) (Reps.one (show Kd.M Kd.string _ _ _ (⟨#[93]⟩ : ByteArray) [.string (⟨#[93]⟩ : ByteArray)] from rfl) (Reps.one (show Kd.M Kd.string _ _ _ (⟨#[59]⟩ : ByteArray) [.string (⟨#[59]⟩ : ByteArray)] from rfl) (Reps.one (show Kd.M Kd.string _ _ _ (⟨#[44]⟩ : ByteArray) [.string (⟨#[44]⟩ : ByteArray)] from rfl) (Reps.one (show Kd.M Kd.string _ _ _ (⟨#[46]⟩ : ByteArray) [.string (⟨#[46]⟩ : ByteArray)] from rfl) (Reps.one (show Kd.M Kd.string _ _ _ (⟨#[61]⟩ : ByteArray) [.string (⟨#[61]⟩ : ByteArray)] from rfl) (Reps.one (show Kd.M Kd.string _ _ _ (⟨#[60]⟩ : ByteArray) [.string (⟨#[60]⟩ : ByteArray)] from rfl) (Reps.one (show Kd.M Kd.string _ _ _ (⟨#[62]⟩ : ByteArray) [.string (⟨#[62]⟩ : ByteArray)] from rfl) (Reps.one (show Kd.M Kd.string _ _ _ (⟨#[43]⟩ : ByteArray) [.string (⟨#[43]⟩ : ByteArray)] from rfl) (Reps.one (show Kd.M Kd.string _ _ _ (⟨#[45]⟩ : ByteArray) [.string (⟨#[45]⟩ : ByteArray)] from rfl) (Reps.one (show Kd.M Kd.string _ _ _ (⟨#[42]⟩ : ByteArray) [.string (⟨#[42]⟩ : ByteArray)] from rfl) (Reps.one (show Kd.M Kd.string _ _ _ (⟨#[47]⟩ : ByteArray) [.string (⟨#[47]⟩ : ByteArray)] from rfl) (Reps.one (show Kd.M Kd.string _ _ _ (⟨#[37]⟩ : ByteArray) [.string (⟨#[37]⟩ : ByteArray)] from rfl) (Reps.one (show Kd.M Kd.string _ _ _ (⟨#[38]⟩ : ByteArray) [.string (⟨#[38]⟩ : ByteArray)] from rfl) (Reps.one (show Kd.M Kd.string _ _ _ (⟨#[124]⟩ : ByteArray) [.string (⟨#[124]⟩ : ByteArray)] from rfl) (Reps.one (show Kd.M Kd.string _ _ _ (⟨#[94]⟩ : ByteArray) [.string (⟨#[94]⟩ : ByteArray)] from rfl) (Reps.one (show Kd.M Kd.string _ _ _ (⟨#[126]⟩ : ByteArray) [.string (⟨#[126]⟩ : ByteArray)] from rfl) (Reps.one (show Kd.M Kd.string _ _ _ (⟨#[33]⟩ : ByteArray) [.string (⟨#[33]⟩ : ByteArray)] from rfl) (Reps.one (show Kd.M Kd.string _ _ _ (⟨#[63]⟩ : ByteArray) [.string (⟨#[63]⟩ : ByteArray)] from rfl) (Reps.one (show Kd.M Kd.string _ _ _ (⟨#[58]⟩ : ByteArray) [.string (⟨#[58]⟩ : ByteArray)] from rfl) (Reps.none _ _))))))))))))))))))))))))))))))))))))))))))))); intro v210 w1 ho2 hb hg_ hnew_; clear hg_ hnew_; (first | rw [← Ny209.out] at ho2 | (simp only [Int.reduceToNat] at ho2; rw [← Ny209.out] at ho2)); have n0_ := Aside0.mk (Kd.R_lower ho2 (Z27 (by repeat (first | (with_reducible first | exact HB.out | apply Z7 | apply Z4 | apply Z6) | exact HB.out)))); have n1_ := Aside0.mk (Z25 (by repeat (first | (with_reducible first | exact HB.out | apply Z7 | apply Z4 | apply Z6) | exact HB.out)) hb); clear HB; have HO211 := n0_; have HB := n1_; clear n0_ n1_; clear hb ho2))
 go_ret
 exact ⟨_, by first | rfl | (simp [Z16, Z15] <;> rfl) | (simp [*, Z16, Z15] <;> rfl), by (with_reducible repeat (first | apply Kd.R_alloc | apply Kd.R_drewN | apply Kd.R_drew)); exact HO211.out, by repeat (first | (with_reducible first | exact HB.out | apply Z7 | apply Z4 | apply Z6) | exact HB.out)⟩
end Go.Proofs.YtbmfadmoficfiaaDoor.Q
namespace Go.Proofs.YtbmfadmoficfiaaDoor.Q
open Go.RowKit Go.Proofs.YtbmfadmoficfiaaDoorW.PrintWords Go.Proofs.YtbmfadmoficfiaaDoorW.PrintLast Go.Proofs.YtbmfadmoficfiaaDoorW.PrintMore
attribute [local go_sem] Z56 Z54 Z61 Z60 Z49 Z48 Z55 Z53
set_option linter.unusedVariables false
set_option linter.unusedSimpArgs false
mutual
def Z20.l0 : Nat → ByteArray → Int → Int → Option (Int × ByteArray × Int × Bool × Int × Int × Bool)
 | 0, _, _, _ => none
 | k + 1, x0, x1, x7 => if x7 < (x0.size : Int) then (if 0 ≤ x7 then ((Z35.f (bt x0 x7)).bind fun t214 => (if t214 = true then (Z20.l0 k x0 x1 (wrap64 (x7 + 1))) else ((Z33.f (bt x0 x7)).bind fun t215 => (if t215 = true then (Z20.l0 k x0 x1 (wrap64 (x7 + 1))) else (if 0 ≤ x1 then (if x1 ≤ x7 then (if x7 ≤ (x0.size : Int) then ((Z18.f k (x0.extract (x1 : Int).toNat (x7 : Int).toNat)).bind fun t216 => (if t216 = true then (some (3, x0.extract (x1 : Int).toNat (x7 : Int).toNat, 0, false, x1, x7, true)) else (some (2, x0.extract (x1 : Int).toNat (x7 : Int).toNat, 0, false, x1, x7, true)))) else (none)) else (none)) else (none)))))) else (none)) else (if 0 ≤ x1 then (if x1 ≤ x7 then (if x7 ≤ (x0.size : Int) then ((Z18.f k (x0.extract (x1 : Int).toNat (x7 : Int).toNat)).bind fun t217 => (if t217 = true then (some (3, x0.extract (x1 : Int).toNat (x7 : Int).toNat, 0, false, x1, x7, true)) else (some (2, x0.extract (x1 : Int).toNat (x7 : Int).toNat, 0, false, x1, x7, true)))) else (none)) else (none)) else (none))
def Z20.l1 : Nat → ByteArray → Int → List ByteArray → Int → Option (Int × ByteArray × Int × Bool × Int × Int × Bool)
 | 0, _, _, _, _ => none
 | k + 1, x0, x1, x9, x10 => if x10 < (x9.length : Int) then (if 0 ≤ x10 then ((Z45.f x0 x1 (rdOf ByteArray.empty x9 x10)).bind fun t244 => (if t244 = true then (some (4, rdOf ByteArray.empty x9 x10, 0, false, x1, wrap64 (x1 + ((rdOf ByteArray.empty x9 x10).size : Int)), true)) else (Z20.l1 k x0 x1 x9 (wrap64 (x10 + 1))))) else (none)) else (some (0, (⟨#[]⟩ : ByteArray), 0, false, 0, 0, false))
end
def Z20.f (k : Nat) (a0 : ByteArray) (a1 : Int) : Option (Int × ByteArray × Int × Bool × Int × Int × Bool) := if 0 ≤ a1 then (if a1 < (a0.size : Int) then ((Z35.f (bt a0 a1)).bind fun t213 => (if t213 = true then (Z20.l0 k a0 a1 a1) else ((Z33.f (bt a0 a1)).bind fun t218 => (if t218 = true then ((Z10.f k a0 a1).bind fun bt219 => (some (bt219.1, bt219.2.1, bt219.2.2.1, bt219.2.2.2.1, bt219.2.2.2.2.1, bt219.2.2.2.2.2.1, bt219.2.2.2.2.2.2))) else (if (bt a0 a1) = 34 then ((Z23.f k a0 a1).bind fun bt226 => (some (bt226.1, bt226.2.1, bt226.2.2.1, bt226.2.2.2.1, bt226.2.2.2.2.1, bt226.2.2.2.2.2.1, bt226.2.2.2.2.2.2))) else (if (bt a0 a1) = 39 then ((Z23.f k a0 a1).bind fun bt233 => (some (bt233.1, bt233.2.1, bt233.2.2.1, bt233.2.2.2.1, bt233.2.2.2.2.1, bt233.2.2.2.2.2.1, bt233.2.2.2.2.2.2))) else ((Z64.f).bind fun t240 => (Z20.l1 k a0 a1 t240 0)))))))) else (none)) else (none)
theorem Z20.mono_l : ∀ k, (∀ y0 y1 y2, LeO (Z20.l0 k y0 y1 y2) (Z20.l0 (k + 1) y0 y1 y2)) ∧ (∀ y0 y1 y2 y3, LeO (Z20.l1 k y0 y1 y2 y3) (Z20.l1 (k + 1) y0 y1 y2 y3))
 | 0 => ⟨fun _ _ _ r h => by simp [Z20.l0] at h, fun _ _ _ _ r h => by simp [Z20.l1] at h⟩
 | k + 1 => by
  obtain ⟨ih0, ih1⟩ := Z20.mono_l k
  refine ⟨?_, ?_⟩
  · intro y0 y1 y2
    unfold Z20.l0
    repeat' first
    | (with_reducible exact ih0 _ _ _)
    | (with_reducible exact ih1 _ _ _ _)
    | (with_reducible exact Z18.mono _ _)
    | (with_reducible exact Z10.mono _ _ _)
    | (with_reducible exact Z23.mono _ _ _)
    | (with_reducible exact LeO.refl _)
    | (with_reducible exact LeO.none _)
    | (with_reducible refine LeO.ite ?_ ?_)
    | (with_reducible refine LeO.bind ?_ (fun _ => ?_))
    | exact ih0 _ _ _
    | exact ih1 _ _ _ _
    | exact Z18.mono _ _
    | exact Z10.mono _ _ _
    | exact Z23.mono _ _ _
    | exact LeO.none _
    | refine LeO.ite ?_ ?_
    | refine LeO.bind ?_ (fun _ => ?_)
  · intro y0 y1 y2 y3
    unfold Z20.l1
    repeat' first
    | (with_reducible exact ih0 _ _ _)
    | (with_reducible exact ih1 _ _ _ _)
    | (with_reducible exact Z18.mono _ _)
    | (with_reducible exact Z10.mono _ _ _)
    | (with_reducible exact Z23.mono _ _ _)
    | (with_reducible exact LeO.refl _)
    | (with_reducible exact LeO.none _)
    | (with_reducible refine LeO.ite ?_ ?_)
    | (with_reducible refine LeO.bind ?_ (fun _ => ?_))
    | exact ih0 _ _ _
    | exact ih1 _ _ _ _
    | exact Z18.mono _ _
    | exact Z10.mono _ _ _
    | exact Z23.mono _ _ _
    | exact LeO.none _
    | refine LeO.ite ?_ ?_
    | refine LeO.bind ?_ (fun _ => ?_)
theorem Z20.mono : ∀ a0 a1 k, LeO (Z20.f k a0 a1) (Z20.f (k + 1) a0 a1) := by
 intro a0 a1 k
 obtain ⟨ih0, ih1⟩ := Z20.mono_l k
 unfold Z20.f
 repeat' first
  | (with_reducible exact ih0 _ _ _)
  | (with_reducible exact ih1 _ _ _ _)
  | (with_reducible exact Z18.mono _ _)
  | (with_reducible exact Z10.mono _ _ _)
  | (with_reducible exact Z23.mono _ _ _)
  | (with_reducible exact LeO.refl _)
  | (with_reducible exact LeO.none _)
  | (with_reducible refine LeO.ite ?_ ?_)
  | (with_reducible refine LeO.bind ?_ (fun _ => ?_))
  | exact ih0 _ _ _
  | exact ih1 _ _ _ _
  | exact Z18.mono _ _
  | exact Z10.mono _ _ _
  | exact Z23.mono _ _ _
  | exact LeO.none _
  | refine LeO.ite ?_ ?_
  | refine LeO.bind ?_ (fun _ => ?_)
def Z20.T19 : Bool × List (List Nat × List Nat) := (true, [([], []), ([], []), ([0, 1], [0, 1]), ([2], [2]), ([], []), ([], []), ([], []), ([], []), ([6, 7], [6, 7]), ([8], [8]), ([9], [9]), ([5, 10], [5, 10]), ([3, 4, 11], [3, 4, 11]), ([12, 0, 1, 2, 3, 4, 5, 6, 7, 8, 9, 10, 11, 12], [12]), ([13, 0, 1, 2, 3, 4, 5, 6, 7, 8, 9, 10, 11, 12, 13], [])])
def Z20.B19 : List Nat := [0, 0, 3, 7, 0, 0, 0, 0, 192, 448, 960, 2016, 4095, 8191, 16383]
theorem Z20.tab19 : rtab .any (opsOf Tryd.f29 19) = Z20.T19 := by kernel_rfl
theorem Z20.bits19 : waitsOk Z20.T19.2 Z20.B19 = true := by kernel_rfl
set_option maxHeartbeats 8000000 in
set_option maxRecDepth 100000 in
theorem Z20.calls (k : Nat) (a0 : ByteArray) (a1 : Int) (r1 : Int) (r2 : ByteArray) (r3 : Int) (r4 : Bool) (r5 : Int) (r6 : Int) (r7 : Bool) (w : World) (h : Z20.f k a0 a1 = some (r1, r2, r3, r4, r5, r6, r7)) :
 Calls Tryd.prog 29 #[.string a0, .int .i64 a1] w fun e w' => e = .returned (.tuple #[.agg #[.int .i64 r1, .string r2, .int .u32 r3, .bool r4, .int .i64 r5, .int .i64 r6], .bool r7]) ∧ Below w.heap.size w w' := by
 have hu24 := Tryd.underlying24
 have HB := Aside0.mk (Below.refl w.heap.size w)
 have H : (if 0 ≤ a1 then (if a1 < (a0.size : Int) then ((Z35.f (bt a0 a1)).bind fun t213 => (if t213 = true then (Z20.l0 k a0 a1 a1) else ((Z33.f (bt a0 a1)).bind fun t218 => (if t218 = true then ((Z10.f k a0 a1).bind fun bt219 => (some (bt219.1, bt219.2.1, bt219.2.2.1, bt219.2.2.2.1, bt219.2.2.2.2.1, bt219.2.2.2.2.2.1, bt219.2.2.2.2.2.2))) else (if (bt a0 a1) = 34 then ((Z23.f k a0 a1).bind fun bt226 => (some (bt226.1, bt226.2.1, bt226.2.2.1, bt226.2.2.2.1, bt226.2.2.2.2.1, bt226.2.2.2.2.2.1, bt226.2.2.2.2.2.2))) else (if (bt a0 a1) = 39 then ((Z23.f k a0 a1).bind fun bt233 => (some (bt233.1, bt233.2.1, bt233.2.2.1, bt233.2.2.2.1, bt233.2.2.2.2.1, bt233.2.2.2.2.2.1, bt233.2.2.2.2.2.2))) else ((Z64.f).bind fun t240 => (Z20.l1 k a0 a1 t240 0)))))))) else (none)) else (none)) = some (r1, r2, r3, r4, r5, r6, r7) := h
 clear h
 by_cases c3 : 0 ≤ a1
 · rw [if_pos c3] at H
   have c3b0 : decide (0 ≤ a1) = true := decide_eq_true c3
   clear c3
   by_cases c4 : a1 < (a0.size : Int)
   · rw [if_pos c4] at H
     have c4b0 : decide (a1 < (a0.size : Int)) = true := decide_eq_true c4
     clear c4
     replace H := Option.bind_eq_some_iff.mp H
     obtain ⟨t213, A60, H⟩ := H
     replace H : (if t213 = true then (Z20.l0 k a0 a1 a1) else ((Z33.f (bt a0 a1)).bind fun t218 => (if t218 = true then ((Z10.f k a0 a1).bind fun bt219 => (some (bt219.1, bt219.2.1, bt219.2.2.1, bt219.2.2.2.1, bt219.2.2.2.2.1, bt219.2.2.2.2.2.1, bt219.2.2.2.2.2.2))) else (if (bt a0 a1) = 34 then ((Z23.f k a0 a1).bind fun bt226 => (some (bt226.1, bt226.2.1, bt226.2.2.1, bt226.2.2.2.1, bt226.2.2.2.2.1, bt226.2.2.2.2.2.1, bt226.2.2.2.2.2.2))) else (if (bt a0 a1) = 39 then ((Z23.f k a0 a1).bind fun bt233 => (some (bt233.1, bt233.2.1, bt233.2.2.1, bt233.2.2.2.1, bt233.2.2.2.2.1, bt233.2.2.2.2.2.1, bt233.2.2.2.2.2.2))) else ((Z64.f).bind fun t240 => (Z20.l1 k a0 a1 t240 0))))))) = some (r1, r2, r3, r4, r5, r6, r7) := H
     have A6 := Aside0.mk A60
     clear A60
     by_cases c7 : t213 = true
     · subst c7
       have H1 : (Z20.l0 k a0 a1 a1) = some (r1, r2, r3, r4, r5, r6, r7) := by rw [if_pos rfl] at H; exact H
       clear H
       have H := H1
       clear H1
       have H' := Aside0.mk H
       clear H
       go_enter Tryd.func29, Tryd.ntmps29
       go_wp2_with (first | ((with_reducible refine Z52 (N := 4) rfl ?_); refine Z51 ?hg (N := 4) ?hd (cs := #[.int .i64 0, .string (⟨#[]⟩ : ByteArray), .int .u32 0, .bool false, .int .i64 0, .int .i64 0]) (t := 24) ?hr ?_; (case hd => rfl); (case hg => rfl); (case hr => first | (go_simp; done) | (go_simp; rfl)); intro gb212 hg w8 hbox hb; have n0_ := Aside0.mk (Z25 (by repeat (first | (with_reducible first | exact HB.out | apply Z7 | apply Z4 | apply Z6) | exact HB.out)) hb); have n1_ := Aside0.mk (hbox); have n2_ := Aside0.mk ((by rw [hg]; exact (Z27 (by repeat (first | (with_reducible first | exact HB.out | apply Z7 | apply Z4 | apply Z6) | exact HB.out))) : w.heap.size ≤ gb212)); have n3_ := Aside0.mk ((by rw [hg]; exact (Z27 (by repeat (first | (with_reducible first | exact HB.out | apply Z7 | apply Z4 | apply Z6) | exact HB.out))) : w.heap.size ≤ gb212)); clear HB; have HB := n0_; have BK212 := n1_; have GW212 := n2_; have GE212 := n3_; clear n0_ n1_ n2_ n3_; clear hb hbox hg; have p5 : 0 ≤ (a1 : Int) := of_decide_eq_true (by first | (with_reducible assumption) | assumption); have q5 : a1 < (a0.size : Int) := of_decide_eq_true (by first | (with_reducible assumption) | assumption); have hx5 := bt_at a0 a1; replace p5 := eq_true p5; replace q5 := eq_true q5) | ((with_reducible refine Z14 (f := 31) rfl ?_); refine goesL_ (some 16) rfl rfl Tryd.func31 (by kernel_rfl) rfl #[.int .u8 (bt a0 a1)] rfl (by (try simp only [List.map_toArray, List.map_cons, List.map_nil]); first | done | rfl | (simp only [List.length_drop, List.length_take]; rfl)) ?_; (with_reducible refine (Z35.calls (bt a0 a1) true _ A6.out).mono ?_); rintro e w' ⟨rfl, ⟨nd, rfl⟩⟩; refine ⟨_, rfl, ?_⟩))
       go_loopg [7] k (fun kq v7 w' => ∃ (x7_1 : Int), v7 = .int .i64 x7_1 ∧ Aside0 (Z20.l0 kq a0 a1 x7_1 = some (r1, r2, r3, r4, r5, r6, r7)) ∧ Aside0 (kq ≤ k) ∧ Aside0 (w'.heap[gb212]? = some (.cells #[.int .i64 0, .string (⟨#[]⟩ : ByteArray), .int .u32 0, .bool false, .int .i64 0, .int .i64 0] 24 (0, 0))) ∧ Aside0 (Below w.heap.size w w'))
       case atStart => exact ⟨(a1), (by first | rfl | (simp; done) | (simp [*]; done)), H', ⟨Nat.le_refl _⟩, ⟨by (with_reducible repeat (first | refine Z0 ?_ _ | refine Z3 ?_ | refine Z1 ?_ _)); exact BK212.out⟩, ⟨by repeat (first | (with_reducible first | exact HB.out | apply Z7 | apply Z4 | apply Z6 | refine Z8 ?_ GE212.out) | exact HB.out)⟩⟩
       case round =>
        clear H'
        try clear c3
        try clear c3b0
        try clear c4
        try clear c4b0
        try clear p5
        try clear q5
        try clear hx5
        try clear c7
        try clear p5
        try clear q5
        obtain ⟨x7_1, rfl, HA, HK1, BK212, HB⟩ := hrel
        cases gk with
        | zero => exact absurd HA.out (by simp [Z20.l0])
        | succ k1 =>
         have H := HA.out
         clear HA
         simp only [Z20.l0] at H
         by_cases c9 : x7_1 < (a0.size : Int)
         · rw [if_pos c9] at H
           have c9b0 : decide (x7_1 < (a0.size : Int)) = true := decide_eq_true c9
           clear c9
           by_cases c10 : 0 ≤ x7_1
           · rw [if_pos c10] at H
             have c10b0 : decide (0 ≤ x7_1) = true := decide_eq_true c10
             clear c10
             replace H := Option.bind_eq_some_iff.mp H
             obtain ⟨t214, A120, H⟩ := H
             replace H : (if t214 = true then (Z20.l0 k1 a0 a1 (wrap64 (x7_1 + 1))) else ((Z33.f (bt a0 x7_1)).bind fun t215 => (if t215 = true then (Z20.l0 k1 a0 a1 (wrap64 (x7_1 + 1))) else (if 0 ≤ a1 then (if a1 ≤ x7_1 then (if x7_1 ≤ (a0.size : Int) then ((Z18.f k1 (a0.extract (a1 : Int).toNat (x7_1 : Int).toNat)).bind fun t216 => (if t216 = true then (some (3, a0.extract (a1 : Int).toNat (x7_1 : Int).toNat, 0, false, a1, x7_1, true)) else (some (2, a0.extract (a1 : Int).toNat (x7_1 : Int).toNat, 0, false, a1, x7_1, true)))) else (none)) else (none)) else (none))))) = some (r1, r2, r3, r4, r5, r6, r7) := H
             have A12 := Aside0.mk A120
             clear A120
             by_cases c13 : t214 = true
             · subst c13
               have H1 : (Z20.l0 k1 a0 a1 (wrap64 (x7_1 + 1))) = some (r1, r2, r3, r4, r5, r6, r7) := by rw [if_pos rfl] at H; exact H
               clear H
               have H := H1
               clear H1
               have H' := Aside0.mk H
               clear H
               have p11 : 0 ≤ (x7_1 : Int) := of_decide_eq_true (by first | (with_reducible assumption) | assumption)
               have q11 : x7_1 < (a0.size : Int) := of_decide_eq_true (by first | (with_reducible assumption) | assumption)
               have hx11 := bt_at a0 x7_1
               replace p11 := eq_true p11
               replace q11 := eq_true q11
               go_wp2_with (first | (go_at_call 31; (with_reducible refine (Z35.calls (bt a0 x7_1) true _ A12.out).mono ?_); rintro e w' ⟨rfl, ⟨nd, rfl⟩⟩))
               go_roundg k1
               case measure => have := HK1.out; omega
               case rel => exact ⟨(wrap64 (x7_1 + 1)), (by first | rfl | (simp; done) | (simp [*]; done)), H', ⟨by have := HK1.out; omega⟩, ⟨by (with_reducible repeat (first | refine Z0 ?_ _ | refine Z3 ?_ | refine Z1 ?_ _)); exact BK212.out⟩, ⟨by repeat (first | (with_reducible first | exact HB.out | apply Z7 | apply Z4 | apply Z6 | refine Z8 ?_ GE212.out) | exact HB.out)⟩⟩
             · replace c13 := Bool.eq_false_iff.mpr c13
               subst c13
               have H1 : ((Z33.f (bt a0 x7_1)).bind fun t215 => (if t215 = true then (Z20.l0 k1 a0 a1 (wrap64 (x7_1 + 1))) else (if 0 ≤ a1 then (if a1 ≤ x7_1 then (if x7_1 ≤ (a0.size : Int) then ((Z18.f k1 (a0.extract (a1 : Int).toNat (x7_1 : Int).toNat)).bind fun t216 => (if t216 = true then (some (3, a0.extract (a1 : Int).toNat (x7_1 : Int).toNat, 0, false, a1, x7_1, true)) else (some (2, a0.extract (a1 : Int).toNat (x7_1 : Int).toNat, 0, false, a1, x7_1, true)))) else (none)) else (none)) else (none)))) = some (r1, r2, r3, r4, r5, r6, r7) := by rw [if_neg (show ¬ (false = true) by decide)] at H; exact H
               clear H
               have H := H1
               clear H1
               replace H := Option.bind_eq_some_iff.mp H
               obtain ⟨t215, A150, H⟩ := H
               replace H : (if t215 = true then (Z20.l0 k1 a0 a1 (wrap64 (x7_1 + 1))) else (if 0 ≤ a1 then (if a1 ≤ x7_1 then (if x7_1 ≤ (a0.size : Int) then ((Z18.f k1 (a0.extract (a1 : Int).toNat (x7_1 : Int).toNat)).bind fun t216 => (if t216 = true then (some (3, a0.extract (a1 : Int).toNat (x7_1 : Int).toNat, 0, false, a1, x7_1, true)) else (some (2, a0.extract (a1 : Int).toNat (x7_1 : Int).toNat, 0, false, a1, x7_1, true)))) else (none)) else (none)) else (none))) = some (r1, r2, r3, r4, r5, r6, r7) := H
               have A15 := Aside0.mk A150
               clear A150
               by_cases c16 : t215 = true
               · subst c16
                 have H1 : (Z20.l0 k1 a0 a1 (wrap64 (x7_1 + 1))) = some (r1, r2, r3, r4, r5, r6, r7) := by rw [if_pos rfl] at H; exact H
                 clear H
                 have H := H1
                 clear H1
                 have H' := Aside0.mk H
                 clear H
                 have p11 : 0 ≤ (x7_1 : Int) := of_decide_eq_true (by first | (with_reducible assumption) | assumption)
                 have q11 : x7_1 < (a0.size : Int) := of_decide_eq_true (by first | (with_reducible assumption) | assumption)
                 have hx11 := bt_at a0 x7_1
                 replace p11 := eq_true p11
                 replace q11 := eq_true q11
                 go_wp2_with (first | (go_at_call 31; (with_reducible refine (Z35.calls (bt a0 x7_1) false _ A12.out).mono ?_); rintro e w' ⟨rfl, ⟨nd, rfl⟩⟩; have p14 : 0 ≤ (x7_1 : Int) := of_decide_eq_true (by first | (with_reducible assumption) | assumption); have q14 : x7_1 < (a0.size : Int) := of_decide_eq_true (by first | (with_reducible assumption) | assumption); have hx14 := bt_at a0 x7_1; replace p14 := eq_true p14; replace q14 := eq_true q14) | (go_at_call 32; (with_reducible refine (Z33.calls (bt a0 x7_1) true _ A15.out).mono ?_); rintro e w' ⟨rfl, ⟨nd, rfl⟩⟩))
                 go_roundg k1
                 case measure => have := HK1.out; omega
                 case rel => exact ⟨(wrap64 (x7_1 + 1)), (by first | rfl | (simp; done) | (simp [*]; done)), H', ⟨by have := HK1.out; omega⟩, ⟨by (with_reducible repeat (first | refine Z0 ?_ _ | refine Z3 ?_ | refine Z1 ?_ _)); exact BK212.out⟩, ⟨by repeat (first | (with_reducible first | exact HB.out | apply Z7 | apply Z4 | apply Z6 | refine Z8 ?_ GE212.out) | exact HB.out)⟩⟩
               · replace c16 := Bool.eq_false_iff.mpr c16
                 subst c16
                 have H1 : (if 0 ≤ a1 then (if a1 ≤ x7_1 then (if x7_1 ≤ (a0.size : Int) then ((Z18.f k1 (a0.extract (a1 : Int).toNat (x7_1 : Int).toNat)).bind fun t216 => (if t216 = true then (some (3, a0.extract (a1 : Int).toNat (x7_1 : Int).toNat, 0, false, a1, x7_1, true)) else (some (2, a0.extract (a1 : Int).toNat (x7_1 : Int).toNat, 0, false, a1, x7_1, true)))) else (none)) else (none)) else (none)) = some (r1, r2, r3, r4, r5, r6, r7) := by rw [if_neg (show ¬ (false = true) by decide)] at H; exact H
                 clear H
                 have H := H1
                 clear H1
                 by_cases c17 : 0 ≤ a1
                 · rw [if_pos c17] at H
                   have c17b0 := eq_true c17
                   have c17b1 : decide (0 ≤ a1) = true := decide_eq_true c17
                   clear c17
                   by_cases c18 : a1 ≤ x7_1
                   · rw [if_pos c18] at H
                     have c18b0 := eq_true c18
                     have c18b1 : decide (a1 ≤ x7_1) = true := decide_eq_true c18
                     clear c18
                     by_cases c19 : x7_1 ≤ (a0.size : Int)
                     · rw [if_pos c19] at H
                       have c19b0 := eq_true c19
                       have c19b1 : decide (x7_1 ≤ (a0.size : Int)) = true := decide_eq_true c19
                       clear c19
                       replace H := Option.bind_eq_some_iff.mp H
                       obtain ⟨t216, A200, H⟩ := H
                       replace H : (if t216 = true then (some (3, a0.extract (a1 : Int).toNat (x7_1 : Int).toNat, 0, false, a1, x7_1, true)) else (some (2, a0.extract (a1 : Int).toNat (x7_1 : Int).toNat, 0, false, a1, x7_1, true))) = some (r1, r2, r3, r4, r5, r6, r7) := H
                       have A20 := Aside0.mk A200
                       clear A200
                       by_cases c21 : t216 = true
                       · subst c21
                         have H1 : (some (3, a0.extract (a1 : Int).toNat (x7_1 : Int).toNat, 0, false, a1, x7_1, true)) = some (r1, r2, r3, r4, r5, r6, r7) := by rw [if_pos rfl] at H; exact H
                         clear H
                         have H := H1
                         clear H1
                         have c22b0 := eq_true (of_decide_eq_true (by first | (with_reducible assumption) | assumption) : 0 ≤ a1)
                         have c23b0 := eq_true (of_decide_eq_true (by first | (with_reducible assumption) | assumption) : a1 ≤ x7_1)
                         have c24b0 := eq_true (of_decide_eq_true (by first | (with_reducible assumption) | assumption) : x7_1 ≤ (a0.size : Int))
                         simp only [Option.some.injEq, Prod.mk.injEq] at H
                         obtain ⟨rfl, rfl, rfl, rfl, rfl, rfl, rfl⟩ := H
                         have p11 : 0 ≤ (x7_1 : Int) := of_decide_eq_true (by first | (with_reducible assumption) | assumption)
                         have q11 : x7_1 < (a0.size : Int) := of_decide_eq_true (by first | (with_reducible assumption) | assumption)
                         have hx11 := bt_at a0 x7_1
                         replace p11 := eq_true p11
                         replace q11 := eq_true q11
                         go_wp2_with (first | (go_at_call 31; (with_reducible refine (Z35.calls (bt a0 x7_1) false _ A12.out).mono ?_); rintro e w' ⟨rfl, ⟨nd, rfl⟩⟩; (try (rw [Z43 wr]; generalize hq_ : World.drewN wr _ = wr; have n0_ : Aside0 (wr.heap[gb212]? = some (.cells #[.int .i64 0, .string (⟨#[]⟩ : ByteArray), .int .u32 0, .bool false, .int .i64 0, .int .i64 0] 24 (0, 0))) := ⟨by rw [← hq_]; exact (by (with_reducible repeat (first | refine Z0 ?_ _ | refine Z3 ?_ | refine Z1 ?_ _)); exact BK212.out)⟩; have n1_ : Aside0 (Below w.heap.size w wr) := ⟨by rw [← hq_]; exact (by repeat (first | (with_reducible first | exact HB.out | apply Z7 | apply Z4 | apply Z6 | refine Z8 ?_ GE212.out) | exact HB.out))⟩; clear BK212 HB hq_; have BK212 := n0_; have HB := n1_; clear n0_ n1_)); have p14 : 0 ≤ (x7_1 : Int) := of_decide_eq_true (by first | (with_reducible assumption) | assumption); have q14 : x7_1 < (a0.size : Int) := of_decide_eq_true (by first | (with_reducible assumption) | assumption); have hx14 := bt_at a0 x7_1; replace p14 := eq_true p14; replace q14 := eq_true q14) | (go_at_call 32; (with_reducible refine (Z33.calls (bt a0 x7_1) false _ A15.out).mono ?_); rintro e w' ⟨rfl, ⟨nd, rfl⟩⟩; (try (rw [Z43 wr]; generalize hq_ : World.drewN wr _ = wr; have n0_ : Aside0 (wr.heap[gb212]? = some (.cells #[.int .i64 0, .string (⟨#[]⟩ : ByteArray), .int .u32 0, .bool false, .int .i64 0, .int .i64 0] 24 (0, 0))) := ⟨by rw [← hq_]; exact (by (with_reducible repeat (first | refine Z0 ?_ _ | refine Z3 ?_ | refine Z1 ?_ _)); exact BK212.out)⟩; have n1_ : Aside0 (Below w.heap.size w wr) := ⟨by rw [← hq_]; exact (by repeat (first | (with_reducible first | exact HB.out | apply Z7 | apply Z4 | apply Z6 | refine Z8 ?_ GE212.out) | exact HB.out))⟩; clear BK212 HB hq_; have BK212 := n0_; have HB := n1_; clear n0_ n1_))) | ((with_reducible refine Z14 (f := 16) rfl ?_); refine goesL_ (some 40) rfl rfl Tryd.func16 (by kernel_rfl) rfl #[.string (a0.extract (a1 : Int).toNat (x7_1 : Int).toNat)] rfl (by (try simp only [List.map_toArray, List.map_cons, List.map_nil]); first | done | rfl | (simp only [List.length_drop, List.length_take]; rfl)) ?_; (with_reducible refine (Z18.calls k1 (a0.extract (a1 : Int).toNat (x7_1 : Int).toNat) true _ A20.out).mono ?_); rintro e w' ⟨rfl, ⟨nd, rfl⟩⟩; refine ⟨_, rfl, ?_⟩; (try (rw [Z43 wr]; generalize hq_ : World.drewN wr _ = wr; have n0_ : Aside0 (wr.heap[gb212]? = some (.cells #[.int .i64 0, .string (⟨#[]⟩ : ByteArray), .int .u32 0, .bool false, .int .i64 0, .int .i64 0] 24 (0, 0))) := ⟨by rw [← hq_]; exact (by (with_reducible repeat (first | refine Z0 ?_ _ | refine Z3 ?_ | refine Z1 ?_ _)); exact BK212.out)⟩; have n1_ : Aside0 (Below w.heap.size w wr) := ⟨by rw [← hq_]; exact (by repeat (first | (with_reducible first | exact HB.out | apply Z7 | apply Z4 | apply Z6 | refine Z8 ?_ GE212.out) | exact HB.out))⟩; clear BK212 HB hq_; have BK212 := n0_; have HB := n1_; clear n0_ n1_)); have hcz25_0 : wr.cell? ⟨gb212, 0, none⟩ = some (.int .i64 0) := (Z5 BK212.out 0).trans rfl; have hcz25_1 : wr.cell? ⟨gb212, 1, none⟩ = some (.string (⟨#[]⟩ : ByteArray)) := (Z5 BK212.out 1).trans rfl; have hcz25_2 : wr.cell? ⟨gb212, 2, none⟩ = some (.int .u32 0) := (Z5 BK212.out 2).trans rfl; have hcz25_3 : wr.cell? ⟨gb212, 3, none⟩ = some (.bool false) := (Z5 BK212.out 3).trans rfl; have hcz25_4 : wr.cell? ⟨gb212, 4, none⟩ = some (.int .i64 0) := (Z5 BK212.out 4).trans rfl; have hcz25_5 : wr.cell? ⟨gb212, 5, none⟩ = some (.int .i64 0) := (Z5 BK212.out 5).trans rfl; have hfz25_0 := Z2 BK212.out 0; have hfz25_1 := Z2 BK212.out 1; have hfz25_2 := Z2 BK212.out 2; have hfz25_3 := Z2 BK212.out 3; have hfz25_4 := Z2 BK212.out 4; have hfz25_5 := Z2 BK212.out 5))
                         refine bodyPost_ret (Z46 rfl _ _ gb212 24 #[.int .i64 3, .string (a0.extract (a1 : Int).toNat (x7_1 : Int).toNat), .int .u32 0, .bool false, .int .i64 a1, .int .i64 x7_1] (0, 0) _ rfl (by (with_reducible repeat (first | refine Z0 ?_ _ | refine Z3 ?_ | refine Z1 ?_ _)); refine Z9 (cs := #[.int .i64 3, .string (a0.extract (a1 : Int).toNat (x7_1 : Int).toNat), .int .u32 0, .bool false, .int .i64 a1, .int .i64 0]) ?_ 5 _ rfl; (with_reducible repeat (first | refine Z0 ?_ _ | refine Z3 ?_ | refine Z1 ?_ _)); refine Z9 (cs := #[.int .i64 3, .string (a0.extract (a1 : Int).toNat (x7_1 : Int).toNat), .int .u32 0, .bool false, .int .i64 0, .int .i64 0]) ?_ 4 _ rfl; (with_reducible repeat (first | refine Z0 ?_ _ | refine Z3 ?_ | refine Z1 ?_ _)); refine Z9 (cs := #[.int .i64 3, .string (a0.extract (a1 : Int).toNat (x7_1 : Int).toNat), .int .u32 0, .bool false, .int .i64 0, .int .i64 0]) ?_ 3 _ rfl; (with_reducible repeat (first | refine Z0 ?_ _ | refine Z3 ?_ | refine Z1 ?_ _)); refine Z9 (cs := #[.int .i64 3, .string (a0.extract (a1 : Int).toNat (x7_1 : Int).toNat), .int .u32 0, .bool false, .int .i64 0, .int .i64 0]) ?_ 2 _ rfl; (with_reducible repeat (first | refine Z0 ?_ _ | refine Z3 ?_ | refine Z1 ?_ _)); refine Z9 (cs := #[.int .i64 3, .string (⟨#[]⟩ : ByteArray), .int .u32 0, .bool false, .int .i64 0, .int .i64 0]) ?_ 1 _ rfl; (with_reducible repeat (first | refine Z0 ?_ _ | refine Z3 ?_ | refine Z1 ?_ _)); refine Z9 (cs := #[.int .i64 0, .string (⟨#[]⟩ : ByteArray), .int .u32 0, .bool false, .int .i64 0, .int .i64 0]) ?_ 0 _ rfl; (with_reducible repeat (first | refine Z0 ?_ _ | refine Z3 ?_ | refine Z1 ?_ _)); exact BK212.out) Tryd.underlying24 rfl (by kernel_rfl)) rfl ?_
                         exact ⟨by first | rfl | (simp [Z16, Z15] <;> rfl) | (simp [*, Z16, Z15] <;> rfl), by repeat (first | (with_reducible first | exact HB.out | apply Z7 | apply Z4 | apply Z6 | refine Z8 ?_ GE212.out) | exact HB.out)⟩
                       · replace c21 := Bool.eq_false_iff.mpr c21
                         subst c21
                         have H1 : (some (2, a0.extract (a1 : Int).toNat (x7_1 : Int).toNat, 0, false, a1, x7_1, true)) = some (r1, r2, r3, r4, r5, r6, r7) := by rw [if_neg (show ¬ (false = true) by decide)] at H; exact H
                         clear H
                         have H := H1
                         clear H1
                         have c26b0 := eq_true (of_decide_eq_true (by first | (with_reducible assumption) | assumption) : 0 ≤ a1)
                         have c27b0 := eq_true (of_decide_eq_true (by first | (with_reducible assumption) | assumption) : a1 ≤ x7_1)
                         have c28b0 := eq_true (of_decide_eq_true (by first | (with_reducible assumption) | assumption) : x7_1 ≤ (a0.size : Int))
                         simp only [Option.some.injEq, Prod.mk.injEq] at H
                         obtain ⟨rfl, rfl, rfl, rfl, rfl, rfl, rfl⟩ := H
                         have p11 : 0 ≤ (x7_1 : Int) := of_decide_eq_true (by first | (with_reducible assumption) | assumption)
                         have q11 : x7_1 < (a0.size : Int) := of_decide_eq_true (by first | (with_reducible assumption) | assumption)
                         have hx11 := bt_at a0 x7_1
                         replace p11 := eq_true p11
                         replace q11 := eq_true q11
                         go_wp2_with (first | (go_at_call 31; (with_reducible refine (Z35.calls (bt a0 x7_1) false _ A12.out).mono ?_); rintro e w' ⟨rfl, ⟨nd, rfl⟩⟩; (try (rw [Z43 wr]; generalize hq_ : World.drewN wr _ = wr; have n0_ : Aside0 (wr.heap[gb212]? = some (.cells #[.int .i64 0, .string (⟨#[]⟩ : ByteArray), .int .u32 0, .bool false, .int .i64 0, .int .i64 0] 24 (0, 0))) := ⟨by rw [← hq_]; exact (by (with_reducible repeat (first | refine Z0 ?_ _ | refine Z3 ?_ | refine Z1 ?_ _)); exact BK212.out)⟩; have n1_ : Aside0 (Below w.heap.size w wr) := ⟨by rw [← hq_]; exact (by repeat (first | (with_reducible first | exact HB.out | apply Z7 | apply Z4 | apply Z6 | refine Z8 ?_ GE212.out) | exact HB.out))⟩; clear BK212 HB hq_; have BK212 := n0_; have HB := n1_; clear n0_ n1_)); have p14 : 0 ≤ (x7_1 : Int) := of_decide_eq_true (by first | (with_reducible assumption) | assumption); have q14 : x7_1 < (a0.size : Int) := of_decide_eq_true (by first | (with_reducible assumption) | assumption); have hx14 := bt_at a0 x7_1; replace p14 := eq_true p14; replace q14 := eq_true q14) | (go_at_call 32; (with_reducible refine (Z33.calls (bt a0 x7_1) false _ A15.out).mono ?_); rintro e w' ⟨rfl, ⟨nd, rfl⟩⟩; (try (rw [Z43 wr]; generalize hq_ : World.drewN wr _ = wr; have n0_ : Aside0 (wr.heap[gb212]? = some (.cells #[.int .i64 0, .string (⟨#[]⟩ : ByteArray), .int .u32 0, .bool false, .int .i64 0, .int .i64 0] 24 (0, 0))) := ⟨by rw [← hq_]; exact (by (with_reducible repeat (first | refine Z0 ?_ _ | refine Z3 ?_ | refine Z1 ?_ _)); exact BK212.out)⟩; have n1_ : Aside0 (Below w.heap.size w wr) := ⟨by rw [← hq_]; exact (by repeat (first | (with_reducible first | exact HB.out | apply Z7 | apply Z4 | apply Z6 | refine Z8 ?_ GE212.out) | exact HB.out))⟩; clear BK212 HB hq_; have BK212 := n0_; have HB := n1_; clear n0_ n1_))) | ((with_reducible refine Z14 (f := 16) rfl ?_); refine goesL_ (some 40) rfl rfl Tryd.func16 (by kernel_rfl) rfl #[.string (a0.extract (a1 : Int).toNat (x7_1 : Int).toNat)] rfl (by (try simp only [List.map_toArray, List.map_cons, List.map_nil]); first | done | rfl | (simp only [List.length_drop, List.length_take]; rfl)) ?_; (with_reducible refine (Z18.calls k1 (a0.extract (a1 : Int).toNat (x7_1 : Int).toNat) false _ A20.out).mono ?_); rintro e w' ⟨rfl, ⟨nd, rfl⟩⟩; refine ⟨_, rfl, ?_⟩; (try (rw [Z43 wr]; generalize hq_ : World.drewN wr _ = wr; have n0_ : Aside0 (wr.heap[gb212]? = some (.cells #[.int .i64 0, .string (⟨#[]⟩ : ByteArray), .int .u32 0, .bool false, .int .i64 0, .int .i64 0] 24 (0, 0))) := ⟨by rw [← hq_]; exact (by (with_reducible repeat (first | refine Z0 ?_ _ | refine Z3 ?_ | refine Z1 ?_ _)); exact BK212.out)⟩; have n1_ : Aside0 (Below w.heap.size w wr) := ⟨by rw [← hq_]; exact (by repeat (first | (with_reducible first | exact HB.out | apply Z7 | apply Z4 | apply Z6 | refine Z8 ?_ GE212.out) | exact HB.out))⟩; clear BK212 HB hq_; have BK212 := n0_; have HB := n1_; clear n0_ n1_)); have hcz29_0 : wr.cell? ⟨gb212, 0, none⟩ = some (.int .i64 0) := (Z5 BK212.out 0).trans rfl; have hcz29_1 : wr.cell? ⟨gb212, 1, none⟩ = some (.string (⟨#[]⟩ : ByteArray)) := (Z5 BK212.out 1).trans rfl; have hcz29_2 : wr.cell? ⟨gb212, 2, none⟩ = some (.int .u32 0) := (Z5 BK212.out 2).trans rfl; have hcz29_3 : wr.cell? ⟨gb212, 3, none⟩ = some (.bool false) := (Z5 BK212.out 3).trans rfl; have hcz29_4 : wr.cell? ⟨gb212, 4, none⟩ = some (.int .i64 0) := (Z5 BK212.out 4).trans rfl; have hcz29_5 : wr.cell? ⟨gb212, 5, none⟩ = some (.int .i64 0) := (Z5 BK212.out 5).trans rfl; have hfz29_0 := Z2 BK212.out 0; have hfz29_1 := Z2 BK212.out 1; have hfz29_2 := Z2 BK212.out 2; have hfz29_3 := Z2 BK212.out 3; have hfz29_4 := Z2 BK212.out 4; have hfz29_5 := Z2 BK212.out 5))
                         refine bodyPost_ret (Z46 rfl _ _ gb212 24 #[.int .i64 2, .string (a0.extract (a1 : Int).toNat (x7_1 : Int).toNat), .int .u32 0, .bool false, .int .i64 a1, .int .i64 x7_1] (0, 0) _ rfl (by (with_reducible repeat (first | refine Z0 ?_ _ | refine Z3 ?_ | refine Z1 ?_ _)); refine Z9 (cs := #[.int .i64 2, .string (a0.extract (a1 : Int).toNat (x7_1 : Int).toNat), .int .u32 0, .bool false, .int .i64 a1, .int .i64 0]) ?_ 5 _ rfl; (with_reducible repeat (first | refine Z0 ?_ _ | refine Z3 ?_ | refine Z1 ?_ _)); refine Z9 (cs := #[.int .i64 2, .string (a0.extract (a1 : Int).toNat (x7_1 : Int).toNat), .int .u32 0, .bool false, .int .i64 0, .int .i64 0]) ?_ 4 _ rfl; (with_reducible repeat (first | refine Z0 ?_ _ | refine Z3 ?_ | refine Z1 ?_ _)); refine Z9 (cs := #[.int .i64 2, .string (a0.extract (a1 : Int).toNat (x7_1 : Int).toNat), .int .u32 0, .bool false, .int .i64 0, .int .i64 0]) ?_ 3 _ rfl; (with_reducible repeat (first | refine Z0 ?_ _ | refine Z3 ?_ | refine Z1 ?_ _)); refine Z9 (cs := #[.int .i64 2, .string (a0.extract (a1 : Int).toNat (x7_1 : Int).toNat), .int .u32 0, .bool false, .int .i64 0, .int .i64 0]) ?_ 2 _ rfl; (with_reducible repeat (first | refine Z0 ?_ _ | refine Z3 ?_ | refine Z1 ?_ _)); refine Z9 (cs := #[.int .i64 2, .string (⟨#[]⟩ : ByteArray), .int .u32 0, .bool false, .int .i64 0, .int .i64 0]) ?_ 1 _ rfl; (with_reducible repeat (first | refine Z0 ?_ _ | refine Z3 ?_ | refine Z1 ?_ _)); refine Z9 (cs := #[.int .i64 0, .string (⟨#[]⟩ : ByteArray), .int .u32 0, .bool false, .int .i64 0, .int .i64 0]) ?_ 0 _ rfl; (with_reducible repeat (first | refine Z0 ?_ _ | refine Z3 ?_ | refine Z1 ?_ _)); exact BK212.out) Tryd.underlying24 rfl (by kernel_rfl)) rfl ?_
                         exact ⟨by first | rfl | (simp [Z16, Z15] <;> rfl) | (simp [*, Z16, Z15] <;> rfl), by repeat (first | (with_reducible first | exact HB.out | apply Z7 | apply Z4 | apply Z6 | refine Z8 ?_ GE212.out) | exact HB.out)⟩
                     · rw [if_neg c19] at H
                       exact absurd H (by simp)
                   · rw [if_neg c18] at H
                     exact absurd H (by simp)
                 · rw [if_neg c17] at H
                   exact absurd H (by simp)
           · rw [if_neg c10] at H
             exact absurd H (by simp)
         · rw [if_neg c9] at H
           have c9b0 : decide (x7_1 < (a0.size : Int)) = false := decide_eq_false c9
           clear c9
           by_cases c30 : 0 ≤ a1
           · rw [if_pos c30] at H
             have c30b0 := eq_true c30
             have c30b1 : decide (0 ≤ a1) = true := decide_eq_true c30
             clear c30
             by_cases c31 : a1 ≤ x7_1
             · rw [if_pos c31] at H
               have c31b0 := eq_true c31
               have c31b1 : decide (a1 ≤ x7_1) = true := decide_eq_true c31
               clear c31
               by_cases c32 : x7_1 ≤ (a0.size : Int)
               · rw [if_pos c32] at H
                 have c32b0 := eq_true c32
                 have c32b1 : decide (x7_1 ≤ (a0.size : Int)) = true := decide_eq_true c32
                 clear c32
                 replace H := Option.bind_eq_some_iff.mp H
                 obtain ⟨t217, A330, H⟩ := H
                 replace H : (if t217 = true then (some (3, a0.extract (a1 : Int).toNat (x7_1 : Int).toNat, 0, false, a1, x7_1, true)) else (some (2, a0.extract (a1 : Int).toNat (x7_1 : Int).toNat, 0, false, a1, x7_1, true))) = some (r1, r2, r3, r4, r5, r6, r7) := H
                 have A33 := Aside0.mk A330
                 clear A330
                 by_cases c34 : t217 = true
                 · subst c34
                   have H1 : (some (3, a0.extract (a1 : Int).toNat (x7_1 : Int).toNat, 0, false, a1, x7_1, true)) = some (r1, r2, r3, r4, r5, r6, r7) := by rw [if_pos rfl] at H; exact H
                   clear H
                   have H := H1
                   clear H1
                   have c35b0 := eq_true (of_decide_eq_true (by first | (with_reducible assumption) | assumption) : 0 ≤ a1)
                   have c36b0 := eq_true (of_decide_eq_true (by first | (with_reducible assumption) | assumption) : a1 ≤ x7_1)
                   have c37b0 := eq_true (of_decide_eq_true (by first | (with_reducible assumption) | assumption) : x7_1 ≤ (a0.size : Int))
                   simp only [Option.some.injEq, Prod.mk.injEq] at H
                   obtain ⟨rfl, rfl, rfl, rfl, rfl, rfl, rfl⟩ := H
                   go_wp2_with (first | ((with_reducible refine Z14 (f := 16) rfl ?_); refine goesL_ (some 40) rfl rfl Tryd.func16 (by kernel_rfl) rfl #[.string (a0.extract (a1 : Int).toNat (x7_1 : Int).toNat)] rfl (by (try simp only [List.map_toArray, List.map_cons, List.map_nil]); first | done | rfl | (simp only [List.length_drop, List.length_take]; rfl)) ?_; (with_reducible refine (Z18.calls k1 (a0.extract (a1 : Int).toNat (x7_1 : Int).toNat) true _ A33.out).mono ?_); rintro e w' ⟨rfl, ⟨nd, rfl⟩⟩; refine ⟨_, rfl, ?_⟩; (try (rw [Z43 wr]; generalize hq_ : World.drewN wr _ = wr; have n0_ : Aside0 (wr.heap[gb212]? = some (.cells #[.int .i64 0, .string (⟨#[]⟩ : ByteArray), .int .u32 0, .bool false, .int .i64 0, .int .i64 0] 24 (0, 0))) := ⟨by rw [← hq_]; exact (by (with_reducible repeat (first | refine Z0 ?_ _ | refine Z3 ?_ | refine Z1 ?_ _)); exact BK212.out)⟩; have n1_ : Aside0 (Below w.heap.size w wr) := ⟨by rw [← hq_]; exact (by repeat (first | (with_reducible first | exact HB.out | apply Z7 | apply Z4 | apply Z6 | refine Z8 ?_ GE212.out) | exact HB.out))⟩; clear BK212 HB hq_; have BK212 := n0_; have HB := n1_; clear n0_ n1_)); have hcz38_0 : wr.cell? ⟨gb212, 0, none⟩ = some (.int .i64 0) := (Z5 BK212.out 0).trans rfl; have hcz38_1 : wr.cell? ⟨gb212, 1, none⟩ = some (.string (⟨#[]⟩ : ByteArray)) := (Z5 BK212.out 1).trans rfl; have hcz38_2 : wr.cell? ⟨gb212, 2, none⟩ = some (.int .u32 0) := (Z5 BK212.out 2).trans rfl; have hcz38_3 : wr.cell? ⟨gb212, 3, none⟩ = some (.bool false) := (Z5 BK212.out 3).trans rfl; have hcz38_4 : wr.cell? ⟨gb212, 4, none⟩ = some (.int .i64 0) := (Z5 BK212.out 4).trans rfl; have hcz38_5 : wr.cell? ⟨gb212, 5, none⟩ = some (.int .i64 0) := (Z5 BK212.out 5).trans rfl; have hfz38_0 := Z2 BK212.out 0; have hfz38_1 := Z2 BK212.out 1; have hfz38_2 := Z2 BK212.out 2; have hfz38_3 := Z2 BK212.out 3; have hfz38_4 := Z2 BK212.out 4; have hfz38_5 := Z2 BK212.out 5))
                   refine bodyPost_ret (Z46 rfl _ _ gb212 24 #[.int .i64 3, .string (a0.extract (a1 : Int).toNat (x7_1 : Int).toNat), .int .u32 0, .bool false, .int .i64 a1, .int .i64 x7_1] (0, 0) _ rfl (by (with_reducible repeat (first | refine Z0 ?_ _ | refine Z3 ?_ | refine Z1 ?_ _)); refine Z9 (cs := #[.int .i64 3, .string (a0.extract (a1 : Int).toNat (x7_1 : Int).toNat), .int .u32 0, .bool false, .int .i64 a1, .int .i64 0]) ?_ 5 _ rfl; (with_reducible repeat (first | refine Z0 ?_ _ | refine Z3 ?_ | refine Z1 ?_ _)); refine Z9 (cs := #[.int .i64 3, .string (a0.extract (a1 : Int).toNat (x7_1 : Int).toNat), .int .u32 0, .bool false, .int .i64 0, .int .i64 0]) ?_ 4 _ rfl; (with_reducible repeat (first | refine Z0 ?_ _ | refine Z3 ?_ | refine Z1 ?_ _)); refine Z9 (cs := #[.int .i64 3, .string (a0.extract (a1 : Int).toNat (x7_1 : Int).toNat), .int .u32 0, .bool false, .int .i64 0, .int .i64 0]) ?_ 3 _ rfl; (with_reducible repeat (first | refine Z0 ?_ _ | refine Z3 ?_ | refine Z1 ?_ _)); refine Z9 (cs := #[.int .i64 3, .string (a0.extract (a1 : Int).toNat (x7_1 : Int).toNat), .int .u32 0, .bool false, .int .i64 0, .int .i64 0]) ?_ 2 _ rfl; (with_reducible repeat (first | refine Z0 ?_ _ | refine Z3 ?_ | refine Z1 ?_ _)); refine Z9 (cs := #[.int .i64 3, .string (⟨#[]⟩ : ByteArray), .int .u32 0, .bool false, .int .i64 0, .int .i64 0]) ?_ 1 _ rfl; (with_reducible repeat (first | refine Z0 ?_ _ | refine Z3 ?_ | refine Z1 ?_ _)); refine Z9 (cs := #[.int .i64 0, .string (⟨#[]⟩ : ByteArray), .int .u32 0, .bool false, .int .i64 0, .int .i64 0]) ?_ 0 _ rfl; (with_reducible repeat (first | refine Z0 ?_ _ | refine Z3 ?_ | refine Z1 ?_ _)); exact BK212.out) Tryd.underlying24 rfl (by kernel_rfl)) rfl ?_
                   exact ⟨by first | rfl | (simp [Z16, Z15] <;> rfl) | (simp [*, Z16, Z15] <;> rfl), by repeat (first | (with_reducible first | exact HB.out | apply Z7 | apply Z4 | apply Z6 | refine Z8 ?_ GE212.out) | exact HB.out)⟩
                 · replace c34 := Bool.eq_false_iff.mpr c34
                   subst c34
                   have H1 : (some (2, a0.extract (a1 : Int).toNat (x7_1 : Int).toNat, 0, false, a1, x7_1, true)) = some (r1, r2, r3, r4, r5, r6, r7) := by rw [if_neg (show ¬ (false = true) by decide)] at H; exact H
                   clear H
                   have H := H1
                   clear H1
                   have c39b0 := eq_true (of_decide_eq_true (by first | (with_reducible assumption) | assumption) : 0 ≤ a1)
                   have c40b0 := eq_true (of_decide_eq_true (by first | (with_reducible assumption) | assumption) : a1 ≤ x7_1)
                   have c41b0 := eq_true (of_decide_eq_true (by first | (with_reducible assumption) | assumption) : x7_1 ≤ (a0.size : Int))
                   simp only [Option.some.injEq, Prod.mk.injEq] at H
                   obtain ⟨rfl, rfl, rfl, rfl, rfl, rfl, rfl⟩ := H
                   go_wp2_with (first | ((with_reducible refine Z14 (f := 16) rfl ?_); refine goesL_ (some 40) rfl rfl Tryd.func16 (by kernel_rfl) rfl #[.string (a0.extract (a1 : Int).toNat (x7_1 : Int).toNat)] rfl (by (try simp only [List.map_toArray, List.map_cons, List.map_nil]); first | done | rfl | (simp only [List.length_drop, List.length_take]; rfl)) ?_; (with_reducible refine (Z18.calls k1 (a0.extract (a1 : Int).toNat (x7_1 : Int).toNat) false _ A33.out).mono ?_); rintro e w' ⟨rfl, ⟨nd, rfl⟩⟩; refine ⟨_, rfl, ?_⟩; (try (rw [Z43 wr]; generalize hq_ : World.drewN wr _ = wr; have n0_ : Aside0 (wr.heap[gb212]? = some (.cells #[.int .i64 0, .string (⟨#[]⟩ : ByteArray), .int .u32 0, .bool false, .int .i64 0, .int .i64 0] 24 (0, 0))) := ⟨by rw [← hq_]; exact (by (with_reducible repeat (first | refine Z0 ?_ _ | refine Z3 ?_ | refine Z1 ?_ _)); exact BK212.out)⟩; have n1_ : Aside0 (Below w.heap.size w wr) := ⟨by rw [← hq_]; exact (by repeat (first | (with_reducible first | exact HB.out | apply Z7 | apply Z4 | apply Z6 | refine Z8 ?_ GE212.out) | exact HB.out))⟩; clear BK212 HB hq_; have BK212 := n0_; have HB := n1_; clear n0_ n1_)); have hcz42_0 : wr.cell? ⟨gb212, 0, none⟩ = some (.int .i64 0) := (Z5 BK212.out 0).trans rfl; have hcz42_1 : wr.cell? ⟨gb212, 1, none⟩ = some (.string (⟨#[]⟩ : ByteArray)) := (Z5 BK212.out 1).trans rfl; have hcz42_2 : wr.cell? ⟨gb212, 2, none⟩ = some (.int .u32 0) := (Z5 BK212.out 2).trans rfl; have hcz42_3 : wr.cell? ⟨gb212, 3, none⟩ = some (.bool false) := (Z5 BK212.out 3).trans rfl; have hcz42_4 : wr.cell? ⟨gb212, 4, none⟩ = some (.int .i64 0) := (Z5 BK212.out 4).trans rfl; have hcz42_5 : wr.cell? ⟨gb212, 5, none⟩ = some (.int .i64 0) := (Z5 BK212.out 5).trans rfl; have hfz42_0 := Z2 BK212.out 0; have hfz42_1 := Z2 BK212.out 1; have hfz42_2 := Z2 BK212.out 2; have hfz42_3 := Z2 BK212.out 3; have hfz42_4 := Z2 BK212.out 4; have hfz42_5 := Z2 BK212.out 5))
                   refine bodyPost_ret (Z46 rfl _ _ gb212 24 #[.int .i64 2, .string (a0.extract (a1 : Int).toNat (x7_1 : Int).toNat), .int .u32 0, .bool false, .int .i64 a1, .int .i64 x7_1] (0, 0) _ rfl (by (with_reducible repeat (first | refine Z0 ?_ _ | refine Z3 ?_ | refine Z1 ?_ _)); refine Z9 (cs := #[.int .i64 2, .string (a0.extract (a1 : Int).toNat (x7_1 : Int).toNat), .int .u32 0, .bool false, .int .i64 a1, .int .i64 0]) ?_ 5 _ rfl; (with_reducible repeat (first | refine Z0 ?_ _ | refine Z3 ?_ | refine Z1 ?_ _)); refine Z9 (cs := #[.int .i64 2, .string (a0.extract (a1 : Int).toNat (x7_1 : Int).toNat), .int .u32 0, .bool false, .int .i64 0, .int .i64 0]) ?_ 4 _ rfl; (with_reducible repeat (first | refine Z0 ?_ _ | refine Z3 ?_ | refine Z1 ?_ _)); refine Z9 (cs := #[.int .i64 2, .string (a0.extract (a1 : Int).toNat (x7_1 : Int).toNat), .int .u32 0, .bool false, .int .i64 0, .int .i64 0]) ?_ 3 _ rfl; (with_reducible repeat (first | refine Z0 ?_ _ | refine Z3 ?_ | refine Z1 ?_ _)); refine Z9 (cs := #[.int .i64 2, .string (a0.extract (a1 : Int).toNat (x7_1 : Int).toNat), .int .u32 0, .bool false, .int .i64 0, .int .i64 0]) ?_ 2 _ rfl; (with_reducible repeat (first | refine Z0 ?_ _ | refine Z3 ?_ | refine Z1 ?_ _)); refine Z9 (cs := #[.int .i64 2, .string (⟨#[]⟩ : ByteArray), .int .u32 0, .bool false, .int .i64 0, .int .i64 0]) ?_ 1 _ rfl; (with_reducible repeat (first | refine Z0 ?_ _ | refine Z3 ?_ | refine Z1 ?_ _)); refine Z9 (cs := #[.int .i64 0, .string (⟨#[]⟩ : ByteArray), .int .u32 0, .bool false, .int .i64 0, .int .i64 0]) ?_ 0 _ rfl; (with_reducible repeat (first | refine Z0 ?_ _ | refine Z3 ?_ | refine Z1 ?_ _)); exact BK212.out) Tryd.underlying24 rfl (by kernel_rfl)) rfl ?_
                   exact ⟨by first | rfl | (simp [Z16, Z15] <;> rfl) | (simp [*, Z16, Z15] <;> rfl), by repeat (first | (with_reducible first | exact HB.out | apply Z7 | apply Z4 | apply Z6 | refine Z8 ?_ GE212.out) | exact HB.out)⟩
               · rw [if_neg c32] at H
                 exact absurd H (by simp)
             · rw [if_neg c31] at H
               exact absurd H (by simp)
           · rw [if_neg c30] at H
             exact absurd H (by simp)
     · replace c7 := Bool.eq_false_iff.mpr c7
       subst c7
       have H1 : ((Z33.f (bt a0 a1)).bind fun t218 => (if t218 = true then ((Z10.f k a0 a1).bind fun bt219 => (some (bt219.1, bt219.2.1, bt219.2.2.1, bt219.2.2.2.1, bt219.2.2.2.2.1, bt219.2.2.2.2.2.1, bt219.2.2.2.2.2.2))) else (if (bt a0 a1) = 34 then ((Z23.f k a0 a1).bind fun bt226 => (some (bt226.1, bt226.2.1, bt226.2.2.1, bt226.2.2.2.1, bt226.2.2.2.2.1, bt226.2.2.2.2.2.1, bt226.2.2.2.2.2.2))) else (if (bt a0 a1) = 39 then ((Z23.f k a0 a1).bind fun bt233 => (some (bt233.1, bt233.2.1, bt233.2.2.1, bt233.2.2.2.1, bt233.2.2.2.2.1, bt233.2.2.2.2.2.1, bt233.2.2.2.2.2.2))) else ((Z64.f).bind fun t240 => (Z20.l1 k a0 a1 t240 0)))))) = some (r1, r2, r3, r4, r5, r6, r7) := by rw [if_neg (show ¬ (false = true) by decide)] at H; exact H
       clear H
       have H := H1
       clear H1
       replace H := Option.bind_eq_some_iff.mp H
       obtain ⟨t218, A430, H⟩ := H
       replace H : (if t218 = true then ((Z10.f k a0 a1).bind fun bt219 => (some (bt219.1, bt219.2.1, bt219.2.2.1, bt219.2.2.2.1, bt219.2.2.2.2.1, bt219.2.2.2.2.2.1, bt219.2.2.2.2.2.2))) else (if (bt a0 a1) = 34 then ((Z23.f k a0 a1).bind fun bt226 => (some (bt226.1, bt226.2.1, bt226.2.2.1, bt226.2.2.2.1, bt226.2.2.2.2.1, bt226.2.2.2.2.2.1, bt226.2.2.2.2.2.2))) else (if (bt a0 a1) = 39 then ((Z23.f k a0 a1).bind fun bt233 => (some (bt233.1, bt233.2.1, bt233.2.2.1, bt233.2.2.2.1, bt233.2.2.2.2.1, bt233.2.2.2.2.2.1, bt233.2.2.2.2.2.2))) else ((Z64.f).bind fun t240 => (Z20.l1 k a0 a1 t240 0))))) = some (r1, r2, r3, r4, r5, r6, r7) := H
       have A43 := Aside0.mk A430
       clear A430
       by_cases c44 : t218 = true
       · subst c44
         have H1 : ((Z10.f k a0 a1).bind fun bt219 => (some (bt219.1, bt219.2.1, bt219.2.2.1, bt219.2.2.2.1, bt219.2.2.2.2.1, bt219.2.2.2.2.2.1, bt219.2.2.2.2.2.2))) = some (r1, r2, r3, r4, r5, r6, r7) := by rw [if_pos rfl] at H; exact H
         clear H
         have H := H1
         clear H1
         replace H := Option.bind_eq_some_iff.mp H
         obtain ⟨⟨t219, t220, t221, t222, t223, t224, t225⟩, A450, H⟩ := H
         replace H : (some (t219, t220, t221, t222, t223, t224, t225)) = some (r1, r2, r3, r4, r5, r6, r7) := H
         have A45 := Aside0.mk A450
         clear A450
         simp only [Option.some.injEq, Prod.mk.injEq] at H
         obtain ⟨rfl, rfl, rfl, rfl, rfl, rfl, rfl⟩ := H
         go_enter Tryd.func29, Tryd.ntmps29
         go_wp2_with (first | ((with_reducible refine Z52 (N := 4) rfl ?_); refine Z51 ?hg (N := 4) ?hd (cs := #[.int .i64 0, .string (⟨#[]⟩ : ByteArray), .int .u32 0, .bool false, .int .i64 0, .int .i64 0]) (t := 24) ?hr ?_; (case hd => rfl); (case hg => rfl); (case hr => first | (go_simp; done) | (go_simp; rfl)); intro gb212 hg w46 hbox hb; have n0_ := Aside0.mk (Z25 (by repeat (first | (with_reducible first | exact HB.out | apply Z7 | apply Z4 | apply Z6) | exact HB.out)) hb); have n1_ := Aside0.mk (hbox); have n2_ := Aside0.mk ((by rw [hg]; exact (Z27 (by repeat (first | (with_reducible first | exact HB.out | apply Z7 | apply Z4 | apply Z6) | exact HB.out))) : w.heap.size ≤ gb212)); have n3_ := Aside0.mk ((by rw [hg]; exact (Z27 (by repeat (first | (with_reducible first | exact HB.out | apply Z7 | apply Z4 | apply Z6) | exact HB.out))) : w.heap.size ≤ gb212)); clear HB; have HB := n0_; have BK212 := n1_; have GW212 := n2_; have GE212 := n3_; clear n0_ n1_ n2_ n3_; clear hb hbox hg; have p5 : 0 ≤ (a1 : Int) := of_decide_eq_true (by first | (with_reducible assumption) | assumption); have q5 : a1 < (a0.size : Int) := of_decide_eq_true (by first | (with_reducible assumption) | assumption); have hx5 := bt_at a0 a1; replace p5 := eq_true p5; replace q5 := eq_true q5) | ((with_reducible refine Z14 (f := 31) rfl ?_); refine goesL_ (some 16) rfl rfl Tryd.func31 (by kernel_rfl) rfl #[.int .u8 (bt a0 a1)] rfl (by (try simp only [List.map_toArray, List.map_cons, List.map_nil]); first | done | rfl | (simp only [List.length_drop, List.length_take]; rfl)) ?_; (with_reducible refine (Z35.calls (bt a0 a1) false _ A6.out).mono ?_); rintro e w' ⟨rfl, ⟨nd, rfl⟩⟩; refine ⟨_, rfl, ?_⟩; (try (rw [Z43 w46]; generalize hq_ : World.drewN w46 _ = w46; have n0_ : Aside0 (w46.heap[gb212]? = some (.cells #[.int .i64 0, .string (⟨#[]⟩ : ByteArray), .int .u32 0, .bool false, .int .i64 0, .int .i64 0] 24 (0, 0))) := ⟨by rw [← hq_]; exact (by (with_reducible repeat (first | refine Z0 ?_ _ | refine Z3 ?_ | refine Z1 ?_ _)); exact BK212.out)⟩; have n1_ : Aside0 (Below w.heap.size w w46) := ⟨by rw [← hq_]; exact (by repeat (first | (with_reducible first | exact HB.out | apply Z7 | apply Z4 | apply Z6 | refine Z8 ?_ GE212.out) | exact HB.out))⟩; clear BK212 HB hq_; have BK212 := n0_; have HB := n1_; clear n0_ n1_))) | ((with_reducible refine Z14 (f := 32) rfl ?_); refine goesL_ (some 51) rfl rfl Tryd.func32 (by kernel_rfl) rfl #[.int .u8 (bt a0 a1)] rfl (by (try simp only [List.map_toArray, List.map_cons, List.map_nil]); first | done | rfl | (simp only [List.length_drop, List.length_take]; rfl)) ?_; (with_reducible refine (Z33.calls (bt a0 a1) true _ A43.out).mono ?_); rintro e w' ⟨rfl, ⟨nd, rfl⟩⟩; refine ⟨_, rfl, ?_⟩; (try (rw [Z43 w46]; generalize hq_ : World.drewN w46 _ = w46; have n0_ : Aside0 (w46.heap[gb212]? = some (.cells #[.int .i64 0, .string (⟨#[]⟩ : ByteArray), .int .u32 0, .bool false, .int .i64 0, .int .i64 0] 24 (0, 0))) := ⟨by rw [← hq_]; exact (by (with_reducible repeat (first | refine Z0 ?_ _ | refine Z3 ?_ | refine Z1 ?_ _)); exact BK212.out)⟩; have n1_ : Aside0 (Below w.heap.size w w46) := ⟨by rw [← hq_]; exact (by repeat (first | (with_reducible first | exact HB.out | apply Z7 | apply Z4 | apply Z6 | refine Z8 ?_ GE212.out) | exact HB.out))⟩; clear BK212 HB hq_; have BK212 := n0_; have HB := n1_; clear n0_ n1_))) | ((with_reducible refine Z14 (f := 39) rfl ?_); refine goesL_ (some 54) rfl rfl Tryd.func39 (by kernel_rfl) rfl #[.string a0, .int .i64 a1] rfl (by (try simp only [List.map_toArray, List.map_cons, List.map_nil]); first | done | rfl | (simp only [List.length_drop, List.length_take]; rfl)) ?_; (with_reducible refine (Z10.calls k a0 a1 t219 t220 t221 t222 t223 t224 t225 _ A45.out).mono ?_); rintro e w47 ⟨rfl, hb⟩; refine ⟨_, rfl, ?_⟩; have n0_ := Aside0.mk (Z40 (g := gb212) (o := .cells #[.int .i64 0, .string (⟨#[]⟩ : ByteArray), .int .u32 0, .bool false, .int .i64 0, .int .i64 0] 24 (0, 0)) (by (with_reducible repeat (first | refine Z0 ?_ _ | refine Z3 ?_ | refine Z1 ?_ _)); exact BK212.out) hb); have n1_ := Aside0.mk (Z25 (by repeat (first | (with_reducible first | exact HB.out | apply Z7 | apply Z4 | apply Z6 | refine Z8 ?_ GE212.out) | exact HB.out)) hb); clear BK212; clear HB; have BK212 := n0_; have HB := n1_; clear n0_ n1_; (try clear hb); (try clear hb2); (try clear hk); (try clear hi); have hcz48_0 : w47.cell? ⟨gb212, 0, none⟩ = some (.int .i64 0) := (Z5 BK212.out 0).trans rfl; have hcz48_1 : w47.cell? ⟨gb212, 1, none⟩ = some (.string (⟨#[]⟩ : ByteArray)) := (Z5 BK212.out 1).trans rfl; have hcz48_2 : w47.cell? ⟨gb212, 2, none⟩ = some (.int .u32 0) := (Z5 BK212.out 2).trans rfl; have hcz48_3 : w47.cell? ⟨gb212, 3, none⟩ = some (.bool false) := (Z5 BK212.out 3).trans rfl; have hcz48_4 : w47.cell? ⟨gb212, 4, none⟩ = some (.int .i64 0) := (Z5 BK212.out 4).trans rfl; have hcz48_5 : w47.cell? ⟨gb212, 5, none⟩ = some (.int .i64 0) := (Z5 BK212.out 5).trans rfl; have hfz48_0 := Z2 BK212.out 0; have hfz48_1 := Z2 BK212.out 1; have hfz48_2 := Z2 BK212.out 2; have hfz48_3 := Z2 BK212.out 3; have hfz48_4 := Z2 BK212.out 4; have hfz48_5 := Z2 BK212.out 5))
         refine bodyPost_ret (Z46 rfl _ _ gb212 24 #[.int .i64 t219, .string t220, .int .u32 t221, .bool t222, .int .i64 t223, .int .i64 t224] (0, 0) _ rfl (by (with_reducible repeat (first | refine Z0 ?_ _ | refine Z3 ?_ | refine Z1 ?_ _)); refine Z9 (cs := #[.int .i64 t219, .string t220, .int .u32 t221, .bool t222, .int .i64 t223, .int .i64 0]) ?_ 5 _ rfl; (with_reducible repeat (first | refine Z0 ?_ _ | refine Z3 ?_ | refine Z1 ?_ _)); refine Z9 (cs := #[.int .i64 t219, .string t220, .int .u32 t221, .bool t222, .int .i64 0, .int .i64 0]) ?_ 4 _ rfl; (with_reducible repeat (first | refine Z0 ?_ _ | refine Z3 ?_ | refine Z1 ?_ _)); refine Z9 (cs := #[.int .i64 t219, .string t220, .int .u32 t221, .bool false, .int .i64 0, .int .i64 0]) ?_ 3 _ rfl; (with_reducible repeat (first | refine Z0 ?_ _ | refine Z3 ?_ | refine Z1 ?_ _)); refine Z9 (cs := #[.int .i64 t219, .string t220, .int .u32 0, .bool false, .int .i64 0, .int .i64 0]) ?_ 2 _ rfl; (with_reducible repeat (first | refine Z0 ?_ _ | refine Z3 ?_ | refine Z1 ?_ _)); refine Z9 (cs := #[.int .i64 t219, .string (⟨#[]⟩ : ByteArray), .int .u32 0, .bool false, .int .i64 0, .int .i64 0]) ?_ 1 _ rfl; (with_reducible repeat (first | refine Z0 ?_ _ | refine Z3 ?_ | refine Z1 ?_ _)); refine Z9 (cs := #[.int .i64 0, .string (⟨#[]⟩ : ByteArray), .int .u32 0, .bool false, .int .i64 0, .int .i64 0]) ?_ 0 _ rfl; (with_reducible repeat (first | refine Z0 ?_ _ | refine Z3 ?_ | refine Z1 ?_ _)); exact BK212.out) Tryd.underlying24 rfl (by kernel_rfl)) rfl ?_
         exact ⟨by first | rfl | (simp [Z16, Z15] <;> rfl) | (simp [*, Z16, Z15] <;> rfl), by repeat (first | (with_reducible first | exact HB.out | apply Z7 | apply Z4 | apply Z6 | refine Z8 ?_ GE212.out) | exact HB.out)⟩
       · replace c44 := Bool.eq_false_iff.mpr c44
         subst c44
         have H1 : (if (bt a0 a1) = 34 then ((Z23.f k a0 a1).bind fun bt226 => (some (bt226.1, bt226.2.1, bt226.2.2.1, bt226.2.2.2.1, bt226.2.2.2.2.1, bt226.2.2.2.2.2.1, bt226.2.2.2.2.2.2))) else (if (bt a0 a1) = 39 then ((Z23.f k a0 a1).bind fun bt233 => (some (bt233.1, bt233.2.1, bt233.2.2.1, bt233.2.2.2.1, bt233.2.2.2.2.1, bt233.2.2.2.2.2.1, bt233.2.2.2.2.2.2))) else ((Z64.f).bind fun t240 => (Z20.l1 k a0 a1 t240 0)))) = some (r1, r2, r3, r4, r5, r6, r7) := by rw [if_neg (show ¬ (false = true) by decide)] at H; exact H
         clear H
         have H := H1
         clear H1
         by_cases c49 : (bt a0 a1) = 34
         · rw [if_pos c49] at H
           have c49b0 : ((bt a0 a1) == 34) = true := beq_iff_eq.mpr c49
           have c49b1 : ((bt a0 a1) != 34) = false := bne_eq_false_iff_eq.mpr c49
           clear c49
           replace H := Option.bind_eq_some_iff.mp H
           obtain ⟨⟨t226, t227, t228, t229, t230, t231, t232⟩, A500, H⟩ := H
           replace H : (some (t226, t227, t228, t229, t230, t231, t232)) = some (r1, r2, r3, r4, r5, r6, r7) := H
           have A50 := Aside0.mk A500
           clear A500
           simp only [Option.some.injEq, Prod.mk.injEq] at H
           obtain ⟨rfl, rfl, rfl, rfl, rfl, rfl, rfl⟩ := H
           go_enter Tryd.func29, Tryd.ntmps29
           go_wp2_with (first | ((with_reducible refine Z52 (N := 4) rfl ?_); refine Z51 ?hg (N := 4) ?hd (cs := #[.int .i64 0, .string (⟨#[]⟩ : ByteArray), .int .u32 0, .bool false, .int .i64 0, .int .i64 0]) (t := 24) ?hr ?_; (case hd => rfl); (case hg => rfl); (case hr => first | (go_simp; done) | (go_simp; rfl)); intro gb212 hg w51 hbox hb; have n0_ := Aside0.mk (Z25 (by repeat (first | (with_reducible first | exact HB.out | apply Z7 | apply Z4 | apply Z6) | exact HB.out)) hb); have n1_ := Aside0.mk (hbox); have n2_ := Aside0.mk ((by rw [hg]; exact (Z27 (by repeat (first | (with_reducible first | exact HB.out | apply Z7 | apply Z4 | apply Z6) | exact HB.out))) : w.heap.size ≤ gb212)); have n3_ := Aside0.mk ((by rw [hg]; exact (Z27 (by repeat (first | (with_reducible first | exact HB.out | apply Z7 | apply Z4 | apply Z6) | exact HB.out))) : w.heap.size ≤ gb212)); clear HB; have HB := n0_; have BK212 := n1_; have GW212 := n2_; have GE212 := n3_; clear n0_ n1_ n2_ n3_; clear hb hbox hg; have p5 : 0 ≤ (a1 : Int) := of_decide_eq_true (by first | (with_reducible assumption) | assumption); have q5 : a1 < (a0.size : Int) := of_decide_eq_true (by first | (with_reducible assumption) | assumption); have hx5 := bt_at a0 a1; replace p5 := eq_true p5; replace q5 := eq_true q5) | ((with_reducible refine Z14 (f := 31) rfl ?_); refine goesL_ (some 16) rfl rfl Tryd.func31 (by kernel_rfl) rfl #[.int .u8 (bt a0 a1)] rfl (by (try simp only [List.map_toArray, List.map_cons, List.map_nil]); first | done | rfl | (simp only [List.length_drop, List.length_take]; rfl)) ?_; (with_reducible refine (Z35.calls (bt a0 a1) false _ A6.out).mono ?_); rintro e w' ⟨rfl, ⟨nd, rfl⟩⟩; refine ⟨_, rfl, ?_⟩; (try (rw [Z43 w51]; generalize hq_ : World.drewN w51 _ = w51; have n0_ : Aside0 (w51.heap[gb212]? = some (.cells #[.int .i64 0, .string (⟨#[]⟩ : ByteArray), .int .u32 0, .bool false, .int .i64 0, .int .i64 0] 24 (0, 0))) := ⟨by rw [← hq_]; exact (by (with_reducible repeat (first | refine Z0 ?_ _ | refine Z3 ?_ | refine Z1 ?_ _)); exact BK212.out)⟩; have n1_ : Aside0 (Below w.heap.size w w51) := ⟨by rw [← hq_]; exact (by repeat (first | (with_reducible first | exact HB.out | apply Z7 | apply Z4 | apply Z6 | refine Z8 ?_ GE212.out) | exact HB.out))⟩; clear BK212 HB hq_; have BK212 := n0_; have HB := n1_; clear n0_ n1_))) | ((with_reducible refine Z14 (f := 32) rfl ?_); refine goesL_ (some 51) rfl rfl Tryd.func32 (by kernel_rfl) rfl #[.int .u8 (bt a0 a1)] rfl (by (try simp only [List.map_toArray, List.map_cons, List.map_nil]); first | done | rfl | (simp only [List.length_drop, List.length_take]; rfl)) ?_; (with_reducible refine (Z33.calls (bt a0 a1) false _ A43.out).mono ?_); rintro e w' ⟨rfl, ⟨nd, rfl⟩⟩; refine ⟨_, rfl, ?_⟩; (try (rw [Z43 w51]; generalize hq_ : World.drewN w51 _ = w51; have n0_ : Aside0 (w51.heap[gb212]? = some (.cells #[.int .i64 0, .string (⟨#[]⟩ : ByteArray), .int .u32 0, .bool false, .int .i64 0, .int .i64 0] 24 (0, 0))) := ⟨by rw [← hq_]; exact (by (with_reducible repeat (first | refine Z0 ?_ _ | refine Z3 ?_ | refine Z1 ?_ _)); exact BK212.out)⟩; have n1_ : Aside0 (Below w.heap.size w w51) := ⟨by rw [← hq_]; exact (by repeat (first | (with_reducible first | exact HB.out | apply Z7 | apply Z4 | apply Z6 | refine Z8 ?_ GE212.out) | exact HB.out))⟩; clear BK212 HB hq_; have BK212 := n0_; have HB := n1_; clear n0_ n1_))) | ((with_reducible refine Z14 (f := 40) rfl ?_); refine goesL_ (some 66) rfl rfl Tryd.func40 (by kernel_rfl) rfl #[.string a0, .int .i64 a1] rfl (by (try simp only [List.map_toArray, List.map_cons, List.map_nil]); first | done | rfl | (simp only [List.length_drop, List.length_take]; rfl)) ?_; (with_reducible refine (Z23.calls k a0 a1 t226 t227 t228 t229 t230 t231 t232 _ A50.out).mono ?_); rintro e w52 ⟨rfl, hb⟩; refine ⟨_, rfl, ?_⟩; have n0_ := Aside0.mk (Z40 (g := gb212) (o := .cells #[.int .i64 0, .string (⟨#[]⟩ : ByteArray), .int .u32 0, .bool false, .int .i64 0, .int .i64 0] 24 (0, 0)) (by (with_reducible repeat (first | refine Z0 ?_ _ | refine Z3 ?_ | refine Z1 ?_ _)); exact BK212.out) hb); have n1_ := Aside0.mk (Z25 (by repeat (first | (with_reducible first | exact HB.out | apply Z7 | apply Z4 | apply Z6 | refine Z8 ?_ GE212.out) | exact HB.out)) hb); clear BK212; clear HB; have BK212 := n0_; have HB := n1_; clear n0_ n1_; (try clear hb); (try clear hb2); (try clear hk); (try clear hi); have hcz53_0 : w52.cell? ⟨gb212, 0, none⟩ = some (.int .i64 0) := (Z5 BK212.out 0).trans rfl; have hcz53_1 : w52.cell? ⟨gb212, 1, none⟩ = some (.string (⟨#[]⟩ : ByteArray)) := (Z5 BK212.out 1).trans rfl; have hcz53_2 : w52.cell? ⟨gb212, 2, none⟩ = some (.int .u32 0) := (Z5 BK212.out 2).trans rfl; have hcz53_3 : w52.cell? ⟨gb212, 3, none⟩ = some (.bool false) := (Z5 BK212.out 3).trans rfl; have hcz53_4 : w52.cell? ⟨gb212, 4, none⟩ = some (.int .i64 0) := (Z5 BK212.out 4).trans rfl; have hcz53_5 : w52.cell? ⟨gb212, 5, none⟩ = some (.int .i64 0) := (Z5 BK212.out 5).trans rfl; have hfz53_0 := Z2 BK212.out 0; have hfz53_1 := Z2 BK212.out 1; have hfz53_2 := Z2 BK212.out 2; have hfz53_3 := Z2 BK212.out 3; have hfz53_4 := Z2 BK212.out 4; have hfz53_5 := Z2 BK212.out 5))
           refine bodyPost_ret (Z46 rfl _ _ gb212 24 #[.int .i64 t226, .string t227, .int .u32 t228, .bool t229, .int .i64 t230, .int .i64 t231] (0, 0) _ rfl (by (with_reducible repeat (first | refine Z0 ?_ _ | refine Z3 ?_ | refine Z1 ?_ _)); refine Z9 (cs := #[.int .i64 t226, .string t227, .int .u32 t228, .bool t229, .int .i64 t230, .int .i64 0]) ?_ 5 _ rfl; (with_reducible repeat (first | refine Z0 ?_ _ | refine Z3 ?_ | refine Z1 ?_ _)); refine Z9 (cs := #[.int .i64 t226, .string t227, .int .u32 t228, .bool t229, .int .i64 0, .int .i64 0]) ?_ 4 _ rfl; (with_reducible repeat (first | refine Z0 ?_ _ | refine Z3 ?_ | refine Z1 ?_ _)); refine Z9 (cs := #[.int .i64 t226, .string t227, .int .u32 t228, .bool false, .int .i64 0, .int .i64 0]) ?_ 3 _ rfl; (with_reducible repeat (first | refine Z0 ?_ _ | refine Z3 ?_ | refine Z1 ?_ _)); refine Z9 (cs := #[.int .i64 t226, .string t227, .int .u32 0, .bool false, .int .i64 0, .int .i64 0]) ?_ 2 _ rfl; (with_reducible repeat (first | refine Z0 ?_ _ | refine Z3 ?_ | refine Z1 ?_ _)); refine Z9 (cs := #[.int .i64 t226, .string (⟨#[]⟩ : ByteArray), .int .u32 0, .bool false, .int .i64 0, .int .i64 0]) ?_ 1 _ rfl; (with_reducible repeat (first | refine Z0 ?_ _ | refine Z3 ?_ | refine Z1 ?_ _)); refine Z9 (cs := #[.int .i64 0, .string (⟨#[]⟩ : ByteArray), .int .u32 0, .bool false, .int .i64 0, .int .i64 0]) ?_ 0 _ rfl; (with_reducible repeat (first | refine Z0 ?_ _ | refine Z3 ?_ | refine Z1 ?_ _)); exact BK212.out) Tryd.underlying24 rfl (by kernel_rfl)) rfl ?_
           exact ⟨by first | rfl | (simp [Z16, Z15] <;> rfl) | (simp [*, Z16, Z15] <;> rfl), by repeat (first | (with_reducible first | exact HB.out | apply Z7 | apply Z4 | apply Z6 | refine Z8 ?_ GE212.out) | exact HB.out)⟩
         · rw [if_neg c49] at H
           have c49b0 : ((bt a0 a1) == 34) = false := beq_eq_false_iff_ne.mpr c49
           have c49b1 : ((bt a0 a1) != 34) = true := bne_iff_ne.mpr c49
           by_cases c54 : (bt a0 a1) = 39
           · rw [if_pos c54] at H
             have c54b0 : ((bt a0 a1) == 39) = true := beq_iff_eq.mpr c54
             have c54b1 : ((bt a0 a1) != 39) = false := bne_eq_false_iff_eq.mpr c54
             clear c54
             replace H := Option.bind_eq_some_iff.mp H
             obtain ⟨⟨t233, t234, t235, t236, t237, t238, t239⟩, A550, H⟩ := H
             replace H : (some (t233, t234, t235, t236, t237, t238, t239)) = some (r1, r2, r3, r4, r5, r6, r7) := H
             have A55 := Aside0.mk A550
             clear A550
             simp only [Option.some.injEq, Prod.mk.injEq] at H
             obtain ⟨rfl, rfl, rfl, rfl, rfl, rfl, rfl⟩ := H
             go_enter Tryd.func29, Tryd.ntmps29
             go_wp2_with (first | ((with_reducible refine Z52 (N := 4) rfl ?_); refine Z51 ?hg (N := 4) ?hd (cs := #[.int .i64 0, .string (⟨#[]⟩ : ByteArray), .int .u32 0, .bool false, .int .i64 0, .int .i64 0]) (t := 24) ?hr ?_; (case hd => rfl); (case hg => rfl); (case hr => first | (go_simp; done) | (go_simp; rfl)); intro gb212 hg w56 hbox hb; have n0_ := Aside0.mk (Z25 (by repeat (first | (with_reducible first | exact HB.out | apply Z7 | apply Z4 | apply Z6) | exact HB.out)) hb); have n1_ := Aside0.mk (hbox); have n2_ := Aside0.mk ((by rw [hg]; exact (Z27 (by repeat (first | (with_reducible first | exact HB.out | apply Z7 | apply Z4 | apply Z6) | exact HB.out))) : w.heap.size ≤ gb212)); have n3_ := Aside0.mk ((by rw [hg]; exact (Z27 (by repeat (first | (with_reducible first | exact HB.out | apply Z7 | apply Z4 | apply Z6) | exact HB.out))) : w.heap.size ≤ gb212)); clear HB; have HB := n0_; have BK212 := n1_; have GW212 := n2_; have GE212 := n3_; clear n0_ n1_ n2_ n3_; clear hb hbox hg; have p5 : 0 ≤ (a1 : Int) := of_decide_eq_true (by first | (with_reducible assumption) | assumption); have q5 : a1 < (a0.size : Int) := of_decide_eq_true (by first | (with_reducible assumption) | assumption); have hx5 := bt_at a0 a1; replace p5 := eq_true p5; replace q5 := eq_true q5) | ((with_reducible refine Z14 (f := 31) rfl ?_); refine goesL_ (some 16) rfl rfl Tryd.func31 (by kernel_rfl) rfl #[.int .u8 (bt a0 a1)] rfl (by (try simp only [List.map_toArray, List.map_cons, List.map_nil]); first | done | rfl | (simp only [List.length_drop, List.length_take]; rfl)) ?_; (with_reducible refine (Z35.calls (bt a0 a1) false _ A6.out).mono ?_); rintro e w' ⟨rfl, ⟨nd, rfl⟩⟩; refine ⟨_, rfl, ?_⟩; (try (rw [Z43 w56]; generalize hq_ : World.drewN w56 _ = w56; have n0_ : Aside0 (w56.heap[gb212]? = some (.cells #[.int .i64 0, .string (⟨#[]⟩ : ByteArray), .int .u32 0, .bool false, .int .i64 0, .int .i64 0] 24 (0, 0))) := ⟨by rw [← hq_]; exact (by (with_reducible repeat (first | refine Z0 ?_ _ | refine Z3 ?_ | refine Z1 ?_ _)); exact BK212.out)⟩; have n1_ : Aside0 (Below w.heap.size w w56) := ⟨by rw [← hq_]; exact (by repeat (first | (with_reducible first | exact HB.out | apply Z7 | apply Z4 | apply Z6 | refine Z8 ?_ GE212.out) | exact HB.out))⟩; clear BK212 HB hq_; have BK212 := n0_; have HB := n1_; clear n0_ n1_))) | ((with_reducible refine Z14 (f := 32) rfl ?_); refine goesL_ (some 51) rfl rfl Tryd.func32 (by kernel_rfl) rfl #[.int .u8 (bt a0 a1)] rfl (by (try simp only [List.map_toArray, List.map_cons, List.map_nil]); first | done | rfl | (simp only [List.length_drop, List.length_take]; rfl)) ?_; (with_reducible refine (Z33.calls (bt a0 a1) false _ A43.out).mono ?_); rintro e w' ⟨rfl, ⟨nd, rfl⟩⟩; refine ⟨_, rfl, ?_⟩; (try (rw [Z43 w56]; generalize hq_ : World.drewN w56 _ = w56; have n0_ : Aside0 (w56.heap[gb212]? = some (.cells #[.int .i64 0, .string (⟨#[]⟩ : ByteArray), .int .u32 0, .bool false, .int .i64 0, .int .i64 0] 24 (0, 0))) := ⟨by rw [← hq_]; exact (by (with_reducible repeat (first | refine Z0 ?_ _ | refine Z3 ?_ | refine Z1 ?_ _)); exact BK212.out)⟩; have n1_ : Aside0 (Below w.heap.size w w56) := ⟨by rw [← hq_]; exact (by repeat (first | (with_reducible first | exact HB.out | apply Z7 | apply Z4 | apply Z6 | refine Z8 ?_ GE212.out) | exact HB.out))⟩; clear BK212 HB hq_; have BK212 := n0_; have HB := n1_; clear n0_ n1_))) | ((with_reducible refine Z14 (f := 40) rfl ?_); refine goesL_ (some 66) rfl rfl Tryd.func40 (by kernel_rfl) rfl #[.string a0, .int .i64 a1] rfl (by (try simp only [List.map_toArray, List.map_cons, List.map_nil]); first | done | rfl | (simp only [List.length_drop, List.length_take]; rfl)) ?_; (with_reducible refine (Z23.calls k a0 a1 t233 t234 t235 t236 t237 t238 t239 _ A55.out).mono ?_); rintro e w57 ⟨rfl, hb⟩; refine ⟨_, rfl, ?_⟩; have n0_ := Aside0.mk (Z40 (g := gb212) (o := .cells #[.int .i64 0, .string (⟨#[]⟩ : ByteArray), .int .u32 0, .bool false, .int .i64 0, .int .i64 0] 24 (0, 0)) (by (with_reducible repeat (first | refine Z0 ?_ _ | refine Z3 ?_ | refine Z1 ?_ _)); exact BK212.out) hb); have n1_ := Aside0.mk (Z25 (by repeat (first | (with_reducible first | exact HB.out | apply Z7 | apply Z4 | apply Z6 | refine Z8 ?_ GE212.out) | exact HB.out)) hb); clear BK212; clear HB; have BK212 := n0_; have HB := n1_; clear n0_ n1_; (try clear hb); (try clear hb2); (try clear hk); (try clear hi); have hcz58_0 : w57.cell? ⟨gb212, 0, none⟩ = some (.int .i64 0) := (Z5 BK212.out 0).trans rfl; have hcz58_1 : w57.cell? ⟨gb212, 1, none⟩ = some (.string (⟨#[]⟩ : ByteArray)) := (Z5 BK212.out 1).trans rfl; have hcz58_2 : w57.cell? ⟨gb212, 2, none⟩ = some (.int .u32 0) := (Z5 BK212.out 2).trans rfl; have hcz58_3 : w57.cell? ⟨gb212, 3, none⟩ = some (.bool false) := (Z5 BK212.out 3).trans rfl; have hcz58_4 : w57.cell? ⟨gb212, 4, none⟩ = some (.int .i64 0) := (Z5 BK212.out 4).trans rfl; have hcz58_5 : w57.cell? ⟨gb212, 5, none⟩ = some (.int .i64 0) := (Z5 BK212.out 5).trans rfl; have hfz58_0 := Z2 BK212.out 0; have hfz58_1 := Z2 BK212.out 1; have hfz58_2 := Z2 BK212.out 2; have hfz58_3 := Z2 BK212.out 3; have hfz58_4 := Z2 BK212.out 4; have hfz58_5 := Z2 BK212.out 5))
             refine bodyPost_ret (Z46 rfl _ _ gb212 24 #[.int .i64 t233, .string t234, .int .u32 t235, .bool t236, .int .i64 t237, .int .i64 t238] (0, 0) _ rfl (by (with_reducible repeat (first | refine Z0 ?_ _ | refine Z3 ?_ | refine Z1 ?_ _)); refine Z9 (cs := #[.int .i64 t233, .string t234, .int .u32 t235, .bool t236, .int .i64 t237, .int .i64 0]) ?_ 5 _ rfl; (with_reducible repeat (first | refine Z0 ?_ _ | refine Z3 ?_ | refine Z1 ?_ _)); refine Z9 (cs := #[.int .i64 t233, .string t234, .int .u32 t235, .bool t236, .int .i64 0, .int .i64 0]) ?_ 4 _ rfl; (with_reducible repeat (first | refine Z0 ?_ _ | refine Z3 ?_ | refine Z1 ?_ _)); refine Z9 (cs := #[.int .i64 t233, .string t234, .int .u32 t235, .bool false, .int .i64 0, .int .i64 0]) ?_ 3 _ rfl; (with_reducible repeat (first | refine Z0 ?_ _ | refine Z3 ?_ | refine Z1 ?_ _)); refine Z9 (cs := #[.int .i64 t233, .string t234, .int .u32 0, .bool false, .int .i64 0, .int .i64 0]) ?_ 2 _ rfl; (with_reducible repeat (first | refine Z0 ?_ _ | refine Z3 ?_ | refine Z1 ?_ _)); refine Z9 (cs := #[.int .i64 t233, .string (⟨#[]⟩ : ByteArray), .int .u32 0, .bool false, .int .i64 0, .int .i64 0]) ?_ 1 _ rfl; (with_reducible repeat (first | refine Z0 ?_ _ | refine Z3 ?_ | refine Z1 ?_ _)); refine Z9 (cs := #[.int .i64 0, .string (⟨#[]⟩ : ByteArray), .int .u32 0, .bool false, .int .i64 0, .int .i64 0]) ?_ 0 _ rfl; (with_reducible repeat (first | refine Z0 ?_ _ | refine Z3 ?_ | refine Z1 ?_ _)); exact BK212.out) Tryd.underlying24 rfl (by kernel_rfl)) rfl ?_
             exact ⟨by first | rfl | (simp [Z16, Z15] <;> rfl) | (simp [*, Z16, Z15] <;> rfl), by repeat (first | (with_reducible first | exact HB.out | apply Z7 | apply Z4 | apply Z6 | refine Z8 ?_ GE212.out) | exact HB.out)⟩
           · rw [if_neg c54] at H
             have c54b0 : ((bt a0 a1) == 39) = false := beq_eq_false_iff_ne.mpr c54
             have c54b1 : ((bt a0 a1) != 39) = true := bne_iff_ne.mpr c54
             replace H := Option.bind_eq_some_iff.mp H
             obtain ⟨t240, A590, H⟩ := H
             replace H : (Z20.l1 k a0 a1 t240 0) = some (r1, r2, r3, r4, r5, r6, r7) := H
             have A59 := Aside0.mk A590
             clear A590
             have H' := Aside0.mk H
             clear H
             go_enter Tryd.func29, Tryd.ntmps29
             go_wp2_with (first | ((with_reducible refine Z52 (N := 4) rfl ?_); refine Z51 ?hg (N := 4) ?hd (cs := #[.int .i64 0, .string (⟨#[]⟩ : ByteArray), .int .u32 0, .bool false, .int .i64 0, .int .i64 0]) (t := 24) ?hr ?_; (case hd => rfl); (case hg => rfl); (case hr => first | (go_simp; done) | (go_simp; rfl)); intro gb212 hg w60 hbox hb; have n0_ := Aside0.mk (Z25 (by repeat (first | (with_reducible first | exact HB.out | apply Z7 | apply Z4 | apply Z6) | exact HB.out)) hb); have n1_ := Aside0.mk (hbox); have n2_ := Aside0.mk ((by rw [hg]; exact (Z27 (by repeat (first | (with_reducible first | exact HB.out | apply Z7 | apply Z4 | apply Z6) | exact HB.out))) : w.heap.size ≤ gb212)); have n3_ := Aside0.mk ((by rw [hg]; exact (Z27 (by repeat (first | (with_reducible first | exact HB.out | apply Z7 | apply Z4 | apply Z6) | exact HB.out))) : w.heap.size ≤ gb212)); clear HB; have HB := n0_; have BK212 := n1_; have GW212 := n2_; have GE212 := n3_; clear n0_ n1_ n2_ n3_; clear hb hbox hg; have p5 : 0 ≤ (a1 : Int) := of_decide_eq_true (by first | (with_reducible assumption) | assumption); have q5 : a1 < (a0.size : Int) := of_decide_eq_true (by first | (with_reducible assumption) | assumption); have hx5 := bt_at a0 a1; replace p5 := eq_true p5; replace q5 := eq_true q5) | ((with_reducible refine Z14 (f := 31) rfl ?_); refine goesL_ (some 16) rfl rfl Tryd.func31 (by kernel_rfl) rfl #[.int .u8 (bt a0 a1)] rfl (by (try simp only [List.map_toArray, List.map_cons, List.map_nil]); first | done | rfl | (simp only [List.length_drop, List.length_take]; rfl)) ?_; (with_reducible refine (Z35.calls (bt a0 a1) false _ A6.out).mono ?_); rintro e w' ⟨rfl, ⟨nd, rfl⟩⟩; refine ⟨_, rfl, ?_⟩) | ((with_reducible refine Z14 (f := 32) rfl ?_); refine goesL_ (some 51) rfl rfl Tryd.func32 (by kernel_rfl) rfl #[.int .u8 (bt a0 a1)] rfl (by (try simp only [List.map_toArray, List.map_cons, List.map_nil]); first | done | rfl | (simp only [List.length_drop, List.length_take]; rfl)) ?_; (with_reducible refine (Z33.calls (bt a0 a1) false _ A43.out).mono ?_); rintro e w' ⟨rfl, ⟨nd, rfl⟩⟩; refine ⟨_, rfl, ?_⟩) | ((with_reducible refine Z14 (f := 41) rfl ?_); refine goesL_ (some 69) rfl rfl Tryd.func41 (by kernel_rfl) rfl #[] rfl (by (try simp only [List.map_toArray, List.map_cons, List.map_nil]); first | done | rfl | (simp only [List.length_drop, List.length_take]; rfl)) ?_; (with_reducible refine (Z64.calls  t240 _ A59.out).mono ?_); rintro e w61 ⟨v241, rfl, ho0, hb⟩; refine ⟨_, rfl, ?_⟩; have n0_ := Aside0.mk (Kd.R_lower ho0 (Z27 (by repeat (first | (with_reducible first | exact HB.out | apply Z7 | apply Z4 | apply Z6 | refine Z8 ?_ GE212.out) | exact HB.out)))); have n1_ := Aside0.mk (Z40 (g := gb212) (o := .cells #[.int .i64 0, .string (⟨#[]⟩ : ByteArray), .int .u32 0, .bool false, .int .i64 0, .int .i64 0] 24 (0, 0)) (by (with_reducible repeat (first | refine Z0 ?_ _ | refine Z3 ?_ | refine Z1 ?_ _)); exact BK212.out) hb); have n2_ := Aside0.mk (Z25 (by repeat (first | (with_reducible first | exact HB.out | apply Z7 | apply Z4 | apply Z6 | refine Z8 ?_ GE212.out) | exact HB.out)) hb); clear BK212; clear HB; have HO242 := n0_; have BK212 := n1_; have HB := n2_; clear n0_ n1_ n2_; (try clear hb); (try clear hb2); (try clear hk); (try clear hi); (try clear ho0)))
             go_loopg [10] k (fun kq v10 w' => ∃ (x10_1 : Int) (x213000_1 : Int) (x213001_1 : ByteArray) (x213002_1 : Int) (x213003_1 : Bool) (x213004_1 : Int) (x213005_1 : Int), v10 = .int .i64 x10_1 ∧ Aside0 (Z20.l1 kq a0 a1 t240 x10_1 = some (r1, r2, r3, r4, r5, r6, r7)) ∧ Aside0 (kq ≤ k) ∧ Aside0 (Kd.R Kd.string 9 w' w.heap.size (fun _ => True) v241 t240) ∧ Aside0 (w'.heap[gb212]? = some (.cells #[.int .i64 x213000_1, .string x213001_1, .int .u32 x213002_1, .bool x213003_1, .int .i64 x213004_1, .int .i64 x213005_1] 24 (0, 0))) ∧ Aside0 (Below w.heap.size w w'))
             case atStart => exact ⟨(0), (0), ((⟨#[]⟩ : ByteArray)), (0), (false), (0), (0), (by first | rfl | (simp; done) | (simp [*]; done)), H', ⟨Nat.le_refl _⟩, ⟨by (with_reducible repeat (first | apply Kd.R_alloc | apply Kd.R_drewN | apply Kd.R_drew)); exact HO242.out⟩, ⟨by (with_reducible repeat (first | refine Z0 ?_ _ | refine Z3 ?_ | refine Z1 ?_ _)); exact BK212.out⟩, ⟨by repeat (first | (with_reducible first | exact HB.out | apply Z7 | apply Z4 | apply Z6 | refine Z8 ?_ GE212.out) | exact HB.out)⟩⟩
             case round =>
              clear H'
              try clear c3
              try clear c3b0
              try clear c4
              try clear c4b0
              try clear p5
              try clear q5
              try clear hx5
              try clear c7
              try clear c44
              try clear c49
              try clear c49b0
              try clear c49b1
              try clear c54
              try clear c54b0
              try clear c54b1
              try clear p5
              try clear q5
              obtain ⟨x10_1, x213000_1, x213001_1, x213002_1, x213003_1, x213004_1, x213005_1, rfl, HA, HK1, HO_9, BK212, HB⟩ := hrel
              cases gk with
              | zero => exact absurd HA.out (by simp [Z20.l1])
              | succ k1 =>
               have H := HA.out
               clear HA
               simp only [Z20.l1] at H
               by_cases c62 : x10_1 < (t240.length : Int)
               · rw [if_pos c62] at H
                 have c62b0 : decide (x10_1 < (t240.length : Int)) = true := decide_eq_true c62
                 clear c62
                 by_cases c63 : 0 ≤ x10_1
                 · rw [if_pos c63] at H
                   have c63b0 : decide (0 ≤ x10_1) = true := decide_eq_true c63
                   clear c63
                   replace H := Option.bind_eq_some_iff.mp H
                   obtain ⟨t244, A640, H⟩ := H
                   replace H : (if t244 = true then (some (4, rdOf ByteArray.empty t240 x10_1, 0, false, a1, wrap64 (a1 + ((rdOf ByteArray.empty t240 x10_1).size : Int)), true)) else (Z20.l1 k1 a0 a1 t240 (wrap64 (x10_1 + 1)))) = some (r1, r2, r3, r4, r5, r6, r7) := H
                   have A64 := Aside0.mk A640
                   clear A640
                   by_cases c65 : t244 = true
                   · subst c65
                     have H1 : (some (4, rdOf ByteArray.empty t240 x10_1, 0, false, a1, wrap64 (a1 + ((rdOf ByteArray.empty t240 x10_1).size : Int)), true)) = some (r1, r2, r3, r4, r5, r6, r7) := by rw [if_pos rfl] at H; exact H
                     clear H
                     have H := H1
                     clear H1
                     simp only [Option.some.injEq, Prod.mk.injEq] at H
                     obtain ⟨rfl, rfl, rfl, rfl, rfl, rfl, rfl⟩ := H
                     obtain ⟨Ao66, co66, eo66⟩ := Kd.R_slice HO_9.out
                     subst eo66
                     have p243 : 0 ≤ (x10_1 : Int) := of_decide_eq_true (by first | (with_reducible assumption) | assumption)
                     have q243 : x10_1 < (t240.length : Int) := of_decide_eq_true (by first | (with_reducible assumption) | assumption)
                     obtain ⟨ad243, e243, hx243_0⟩ := Kd.at_string (Kd.R_reads' HO_9.out).2.2 x10_1 p243 q243
                     cases e243
                     replace p243 := eq_true p243
                     replace q243 := eq_true q243
                     try go_wp2_with (first | ((with_reducible refine Z14 (f := 38) rfl ?_); refine goesL_ (some 82) rfl rfl Tryd.func38 (by kernel_rfl) rfl #[.string a0, .int .i64 a1, .string (rdOf ByteArray.empty t240 x10_1)] rfl (by (try simp only [List.map_toArray, List.map_cons, List.map_nil]); first | done | rfl | (simp only [List.length_drop, List.length_take]; rfl)) ?_; (with_reducible refine (Z45.calls a0 a1 (rdOf ByteArray.empty t240 x10_1) true _ A64.out).mono ?_); rintro e w' ⟨rfl, ⟨nd, rfl⟩⟩; refine ⟨_, rfl, ?_⟩; (try (rw [Z43 wr]; generalize hq_ : World.drewN wr _ = wr; have n0_ : Aside0 (Kd.R Kd.string 9 wr w.heap.size (fun _ => True) (.slice (some ad243) t240.length co66) t240) := ⟨by rw [← hq_]; exact (by (with_reducible repeat (first | apply Kd.R_alloc | apply Kd.R_drewN | apply Kd.R_drew)); exact HO_9.out)⟩; have n1_ : Aside0 (wr.heap[gb212]? = some (.cells #[.int .i64 x213000_1, .string x213001_1, .int .u32 x213002_1, .bool x213003_1, .int .i64 x213004_1, .int .i64 x213005_1] 24 (0, 0))) := ⟨by rw [← hq_]; exact (by (with_reducible repeat (first | refine Z0 ?_ _ | refine Z3 ?_ | refine Z1 ?_ _)); exact BK212.out)⟩; have n2_ : Aside0 (Below w.heap.size w wr) := ⟨by rw [← hq_]; exact (by repeat (first | (with_reducible first | exact HB.out | apply Z7 | apply Z4 | apply Z6 | refine Z8 ?_ GE212.out) | exact HB.out))⟩; clear HO_9 BK212 HB hq_; have HO_9 := n0_; have BK212 := n1_; have HB := n2_; clear n0_ n1_ n2_))))
                     have n0_ := Aside0.mk (Kd.R_drew HO_9.out)
                     have n1_ := Aside0.mk (Z3 BK212.out)
                     have n2_ := Aside0.mk (Z6 HB.out)
                     clear HO_9
                     clear BK212
                     clear HB
                     have HO_9 := n0_
                     have BK212 := n1_
                     have HB := n2_
                     clear n0_ n1_ n2_
                     have p245 : 0 ≤ (x10_1 : Int) := of_decide_eq_true (by first | (with_reducible assumption) | assumption)
                     have q245 : x10_1 < (t240.length : Int) := of_decide_eq_true (by first | (with_reducible assumption) | assumption)
                     obtain ⟨ad245, e245, hx245_0⟩ := Kd.at_string (Kd.R_reads' HO_9.out).2.2 x10_1 p245 q245
                     obtain rfl : ad243 = ad245 := (by injection e245)
                     replace p245 := eq_true p245
                     replace q245 := eq_true q245
                     have p246 : 0 ≤ (x10_1 : Int) := of_decide_eq_true (by first | (with_reducible assumption) | assumption)
                     have q246 : x10_1 < (t240.length : Int) := of_decide_eq_true (by first | (with_reducible assumption) | assumption)
                     obtain ⟨ad246, e246, hx246_0⟩ := Kd.at_string (Kd.R_reads' HO_9.out).2.2 x10_1 p246 q246
                     obtain rfl : ad243 = ad246 := (by injection e246)
                     replace p246 := eq_true p246
                     replace q246 := eq_true q246
                     refine start_ (n := 15) (S := fun w' => w'.cell? (ad243.add (x10_1).toNat) = some (.string (rdOf ByteArray.empty t240 x10_1)) ∧ w'.cell? (ad243.add (x10_1).toNat) = some (.string (rdOf ByteArray.empty t240 x10_1))) (ds := []) #[false, false, false, false, false, false, false, false, false, false, false, false, false, false, false] (by kernel_rfl) rfl rfl ⟨hx245_0, hx246_0⟩ (fun hHeld => ?_); refine Z74 Z20.tab19 Z20.bits19 (fun HT_ HW_ => ?_)
                     generalize wr.drew = w67 at HO_9 BK212 HB hx245_0 hx246_0 hHeld ⊢
                     refine pure_ (i := 0) (N := some 83) (v := ?_) (a' := ?_) #[true, false, false, false, false, false, false, false, false, false, false, false, false, false, false] rfl rfl (any_of HT_.out (by kernel_rfl)) (fun _ _ _ h => h) (Or.inl ⟨by rfl, ?_⟩) ?_ ?_
                     rotate_left
                     · intro w'
                       go_simp
                       with_reducible rfl
                     rotate_left
                     · simp only [Act.put, List.setIfInBounds_toArray, List.set_cons_zero, List.set_cons_succ, i64_w, i32_w]
                       rfl
                     refine pure_ (i := 1) (N := some 84) (v := ?_) (a' := ?_) #[true, true, false, false, false, false, false, false, false, false, false, false, false, false, false] rfl rfl (any_of HT_.out (by kernel_rfl)) (fun _ _ _ h => h) (Or.inl ⟨by rfl, ?_⟩) ?_ ?_
                     rotate_left
                     · intro w'
                       go_simp
                       with_reducible rfl
                     rotate_left
                     · simp only [Act.put, List.setIfInBounds_toArray, List.set_cons_zero, List.set_cons_succ, i64_w, i32_w]
                       rfl
                     refine pure_ (i := 2) (N := some 85) (v := ?_) (a' := ?_) #[true, true, true, false, false, false, false, false, false, false, false, false, false, false, false] rfl rfl (any_of HT_.out (by kernel_rfl)) (fun _ _ _ h => h) (Or.inl ⟨by rfl, ?_⟩) ?_ ?_
                     rotate_left
                     · intro w'
                       go_simp
                       with_reducible rfl
                     rotate_left
                     · simp only [Act.put, List.setIfInBounds_toArray, List.set_cons_zero, List.set_cons_succ, i64_w, i32_w]
                       rfl
                     refine pure_ (i := 4) (N := some 87) (v := ?_) (a' := ?_) #[true, true, true, false, true, false, false, false, false, false, false, false, false, false, false] rfl rfl (any_of HT_.out (by kernel_rfl)) (fun _ _ _ h => h) (Or.inl ⟨by rfl, ?_⟩) ?_ ?_
                     rotate_left
                     · intro w'
                       go_simp
                       with_reducible rfl
                     rotate_left
                     · simp only [Act.put, List.setIfInBounds_toArray, List.set_cons_zero, List.set_cons_succ, i64_w, i32_w]
                       rfl
                     refine pure_ (i := 5) (N := some 88) (v := ?_) (a' := ?_) #[true, true, true, false, true, true, false, false, false, false, false, false, false, false, false] rfl rfl (any_of HT_.out (by kernel_rfl)) (fun _ _ _ h => h) (Or.inl ⟨by rfl, ?_⟩) ?_ ?_
                     rotate_left
                     · intro w'
                       go_simp
                       with_reducible rfl
                     rotate_left
                     · simp only [Act.put, List.setIfInBounds_toArray, List.set_cons_zero, List.set_cons_succ, i64_w, i32_w]
                       rfl
                     refine pure_ (i := 6) (N := some 89) (v := ?_) (a' := ?_) #[true, true, true, false, true, true, true, false, false, false, false, false, false, false, false] rfl rfl (any_of HT_.out (by kernel_rfl)) (fun _ _ _ h => h) (Or.inl ⟨by rfl, ?_⟩) ?_ ?_
                     rotate_left
                     · intro w'
                       go_simp
                       with_reducible rfl
                     rotate_left
                     · simp only [Act.put, List.setIfInBounds_toArray, List.set_cons_zero, List.set_cons_succ, i64_w, i32_w]
                       rfl
                     refine pure_ (i := 7) (N := some 90) (v := ?_) (a' := ?_) #[true, true, true, false, true, true, true, true, false, false, false, false, false, false, false] rfl rfl (any_of HT_.out (by kernel_rfl)) (fun _ _ _ h => h) (Or.inl ⟨by rfl, ?_⟩) ?_ ?_
                     rotate_left
                     · intro w'
                       go_simp
                       with_reducible rfl
                     rotate_left
                     · simp only [Act.put, List.setIfInBounds_toArray, List.set_cons_zero, List.set_cons_succ, i64_w, i32_w]
                       rfl
                     refine pure_ (i := 8) (N := some 91) (v := ?_) (a' := ?_) #[true, true, true, false, true, true, true, true, true, false, false, false, false, false, false] rfl rfl (any_of HT_.out (by kernel_rfl)) (fun _ _ _ h => h) (Or.inl ⟨by rfl, ?_⟩) ?_ ?_
                     rotate_left
                     · intro w'
                       go_simp
                       with_reducible rfl
                     rotate_left
                     · simp only [Act.put, List.setIfInBounds_toArray, List.set_cons_zero, List.set_cons_succ, i64_w, i32_w]
                       rfl
                     refine take_ (i := 3) (N := some 86) (v := ?_) (a' := ?_) #[true, true, true, true, true, true, true, true, true, false, false, false, false, false, false] rfl rfl (Z67 HT_.out HW_.out (by kernel_rfl)) (fun _ _ _ h => h) (Or.inl ⟨by rfl, ?_⟩) hHeld ?_ ?_
                     rotate_left
                     · rintro w' ⟨s0, s1⟩
                       go_simp
                       with_reducible rfl
                     rotate_left
                     · simp only [Act.put, List.setIfInBounds_toArray, List.set_cons_zero, List.set_cons_succ, i64_w, i32_w]
                       rfl
                     refine take_ (i := 9) (N := some 92) (v := ?_) (a' := ?_) #[true, true, true, true, true, true, true, true, true, true, false, false, false, false, false] rfl rfl (Z67 HT_.out HW_.out (by kernel_rfl)) (fun _ _ _ h => h) (Or.inl ⟨by rfl, ?_⟩) hHeld ?_ ?_
                     rotate_left
                     · rintro w' ⟨s0, s1⟩
                       go_simp
                       with_reducible rfl
                     rotate_left
                     · simp only [Act.put, List.setIfInBounds_toArray, List.set_cons_zero, List.set_cons_succ, i64_w, i32_w]
                       rfl
                     refine pure_ (i := 10) (N := some 93) (v := ?_) (a' := ?_) #[true, true, true, true, true, true, true, true, true, true, true, false, false, false, false] rfl rfl (any_of HT_.out (by kernel_rfl)) (fun _ _ _ h => h) (Or.inl ⟨by rfl, ?_⟩) ?_ ?_
                     rotate_left
                     · intro w'
                       go_simp
                       with_reducible rfl
                     rotate_left
                     · simp only [Act.put, List.setIfInBounds_toArray, List.set_cons_zero, List.set_cons_succ, i64_w, i32_w]
                       rfl
                     refine pure_ (i := 11) (N := some 94) (v := ?_) (a' := ?_) #[true, true, true, true, true, true, true, true, true, true, true, true, false, false, false] rfl rfl (any_of HT_.out (by kernel_rfl)) (fun _ _ _ h => h) (Or.inl ⟨by rfl, ?_⟩) ?_ ?_
                     rotate_left
                     · intro w'
                       go_simp
                       with_reducible rfl
                     rotate_left
                     · simp only [Act.put, List.setIfInBounds_toArray, List.set_cons_zero, List.set_cons_succ, i64_w, i32_w]
                       rfl
                     refine pure_ (i := 12) (N := some 95) (v := ?_) (a' := ?_) #[true, true, true, true, true, true, true, true, true, true, true, true, true, false, false] rfl rfl (any_of HT_.out (by kernel_rfl)) (fun _ _ _ h => h) (Or.inl ⟨by rfl, ?_⟩) ?_ ?_
                     rotate_left
                     · intro w'
                       go_simp
                       with_reducible rfl
                     rotate_left
                     · simp only [Act.put, List.setIfInBounds_toArray, List.set_cons_zero, List.set_cons_succ, i64_w, i32_w]
                       rfl
                     refine one_ (i := 13) (N := none) #[true, true, true, true, true, true, true, true, true, true, true, true, true, true, false] rfl rfl (one_of HT_.out (by kernel_rfl)) (by decide) (fun K hK => ?_)
                     have hs68 : w67.cell? ⟨gb212, 0, none⟩ = some (.int .i64 x213000_1) := (Z5 BK212.out 0).trans rfl
                     have hfs68 := Z2 BK212.out 0
                     have hs69 : w67.cell? ⟨gb212, 1, none⟩ = some (.string x213001_1) := (Z5 BK212.out 1).trans rfl
                     have hfs69 := Z2 BK212.out 1
                     have hs70 : w67.cell? ⟨gb212, 2, none⟩ = some (.int .u32 x213002_1) := (Z5 BK212.out 2).trans rfl
                     have hfs70 := Z2 BK212.out 2
                     have hs71 : w67.cell? ⟨gb212, 3, none⟩ = some (.bool x213003_1) := (Z5 BK212.out 3).trans rfl
                     have hfs71 := Z2 BK212.out 3
                     have hs72 : w67.cell? ⟨gb212, 4, none⟩ = some (.int .i64 x213004_1) := (Z5 BK212.out 4).trans rfl
                     have hfs72 := Z2 BK212.out 4
                     have hs73 : w67.cell? ⟨gb212, 5, none⟩ = some (.int .i64 x213005_1) := (Z5 BK212.out 5).trans rfl
                     have hfs73 := Z2 BK212.out 5
                     refine skip_ (w1 := ?_) (by rfl) rfl ?_ ?_
                     rotate_left
                     · go_simp
                       rfl
                     refine hK.out _ _ ⟨((Z11 (p := ⟨gb212, _, none⟩) (by first | exact Kd.own_blk (Kd.R_ne HO_9.out BK212.out (by decide)) | (rw [Z63]; exact Kd.own_blk (Kd.R_ne HO_9.out BK212.out (by decide))) | (show (Addr.add _ _).block ≠ _; rw [Z63]; exact Kd.own_blk (Kd.R_ne HO_9.out BK212.out (by decide))) | (dsimp only; exact Kd.own_blk (Kd.R_ne HO_9.out BK212.out (by decide)))) _).trans (((Z11 (p := ⟨gb212, _, none⟩) (by first | exact Kd.own_blk (Kd.R_ne HO_9.out BK212.out (by decide)) | (rw [Z63]; exact Kd.own_blk (Kd.R_ne HO_9.out BK212.out (by decide))) | (show (Addr.add _ _).block ≠ _; rw [Z63]; exact Kd.own_blk (Kd.R_ne HO_9.out BK212.out (by decide))) | (dsimp only; exact Kd.own_blk (Kd.R_ne HO_9.out BK212.out (by decide)))) _).trans (((Z11 (p := ⟨gb212, _, none⟩) (by first | exact Kd.own_blk (Kd.R_ne HO_9.out BK212.out (by decide)) | (rw [Z63]; exact Kd.own_blk (Kd.R_ne HO_9.out BK212.out (by decide))) | (show (Addr.add _ _).block ≠ _; rw [Z63]; exact Kd.own_blk (Kd.R_ne HO_9.out BK212.out (by decide))) | (dsimp only; exact Kd.own_blk (Kd.R_ne HO_9.out BK212.out (by decide)))) _).trans (((Z11 (p := ⟨gb212, _, none⟩) (by first | exact Kd.own_blk (Kd.R_ne HO_9.out BK212.out (by decide)) | (rw [Z63]; exact Kd.own_blk (Kd.R_ne HO_9.out BK212.out (by decide))) | (show (Addr.add _ _).block ≠ _; rw [Z63]; exact Kd.own_blk (Kd.R_ne HO_9.out BK212.out (by decide))) | (dsimp only; exact Kd.own_blk (Kd.R_ne HO_9.out BK212.out (by decide)))) _).trans (((Z11 (p := ⟨gb212, _, none⟩) (by first | exact Kd.own_blk (Kd.R_ne HO_9.out BK212.out (by decide)) | (rw [Z63]; exact Kd.own_blk (Kd.R_ne HO_9.out BK212.out (by decide))) | (show (Addr.add _ _).block ≠ _; rw [Z63]; exact Kd.own_blk (Kd.R_ne HO_9.out BK212.out (by decide))) | (dsimp only; exact Kd.own_blk (Kd.R_ne HO_9.out BK212.out (by decide)))) _).trans (((Z11 (p := ⟨gb212, _, none⟩) (by first | exact Kd.own_blk (Kd.R_ne HO_9.out BK212.out (by decide)) | (rw [Z63]; exact Kd.own_blk (Kd.R_ne HO_9.out BK212.out (by decide))) | (show (Addr.add _ _).block ≠ _; rw [Z63]; exact Kd.own_blk (Kd.R_ne HO_9.out BK212.out (by decide))) | (dsimp only; exact Kd.own_blk (Kd.R_ne HO_9.out BK212.out (by decide)))) _).trans (hHeld.1)))))))))))), ((Z11 (p := ⟨gb212, _, none⟩) (by first | exact Kd.own_blk (Kd.R_ne HO_9.out BK212.out (by decide)) | (rw [Z63]; exact Kd.own_blk (Kd.R_ne HO_9.out BK212.out (by decide))) | (show (Addr.add _ _).block ≠ _; rw [Z63]; exact Kd.own_blk (Kd.R_ne HO_9.out BK212.out (by decide))) | (dsimp only; exact Kd.own_blk (Kd.R_ne HO_9.out BK212.out (by decide)))) _).trans (((Z11 (p := ⟨gb212, _, none⟩) (by first | exact Kd.own_blk (Kd.R_ne HO_9.out BK212.out (by decide)) | (rw [Z63]; exact Kd.own_blk (Kd.R_ne HO_9.out BK212.out (by decide))) | (show (Addr.add _ _).block ≠ _; rw [Z63]; exact Kd.own_blk (Kd.R_ne HO_9.out BK212.out (by decide))) | (dsimp only; exact Kd.own_blk (Kd.R_ne HO_9.out BK212.out (by decide)))) _).trans (((Z11 (p := ⟨gb212, _, none⟩) (by first | exact Kd.own_blk (Kd.R_ne HO_9.out BK212.out (by decide)) | (rw [Z63]; exact Kd.own_blk (Kd.R_ne HO_9.out BK212.out (by decide))) | (show (Addr.add _ _).block ≠ _; rw [Z63]; exact Kd.own_blk (Kd.R_ne HO_9.out BK212.out (by decide))) | (dsimp only; exact Kd.own_blk (Kd.R_ne HO_9.out BK212.out (by decide)))) _).trans (((Z11 (p := ⟨gb212, _, none⟩) (by first | exact Kd.own_blk (Kd.R_ne HO_9.out BK212.out (by decide)) | (rw [Z63]; exact Kd.own_blk (Kd.R_ne HO_9.out BK212.out (by decide))) | (show (Addr.add _ _).block ≠ _; rw [Z63]; exact Kd.own_blk (Kd.R_ne HO_9.out BK212.out (by decide))) | (dsimp only; exact Kd.own_blk (Kd.R_ne HO_9.out BK212.out (by decide)))) _).trans (((Z11 (p := ⟨gb212, _, none⟩) (by first | exact Kd.own_blk (Kd.R_ne HO_9.out BK212.out (by decide)) | (rw [Z63]; exact Kd.own_blk (Kd.R_ne HO_9.out BK212.out (by decide))) | (show (Addr.add _ _).block ≠ _; rw [Z63]; exact Kd.own_blk (Kd.R_ne HO_9.out BK212.out (by decide))) | (dsimp only; exact Kd.own_blk (Kd.R_ne HO_9.out BK212.out (by decide)))) _).trans (((Z11 (p := ⟨gb212, _, none⟩) (by first | exact Kd.own_blk (Kd.R_ne HO_9.out BK212.out (by decide)) | (rw [Z63]; exact Kd.own_blk (Kd.R_ne HO_9.out BK212.out (by decide))) | (show (Addr.add _ _).block ≠ _; rw [Z63]; exact Kd.own_blk (Kd.R_ne HO_9.out BK212.out (by decide))) | (dsimp only; exact Kd.own_blk (Kd.R_ne HO_9.out BK212.out (by decide)))) _).trans (hHeld.2))))))))))))⟩ (fun hHeld => ?_)
                     clear hK K
                     refine pure_ (i := 14) (N := some 5) (v := ?_) (a' := ?_) #[true, true, true, true, true, true, true, true, true, true, true, true, true, true, true] rfl rfl (any_of HT_.out (by kernel_rfl)) (fun _ _ _ h => h) (Or.inl ⟨by rfl, ?_⟩) ?_ ?_
                     rotate_left
                     · intro w'
                       go_simp
                       with_reducible rfl
                     rotate_left
                     · simp only [Act.put, List.setIfInBounds_toArray, List.set_cons_zero, List.set_cons_succ, i64_w, i32_w]
                       rfl
                     refine done_ (Z83 HT_.out (by kernel_rfl)) ?_
                     try go_wp2
                     refine bodyPost_ret (Z46 rfl _ _ gb212 24 #[.int .i64 4, .string (rdOf ByteArray.empty t240 x10_1), .int .u32 0, .bool false, .int .i64 a1, .int .i64 (wrap64 (a1 + ((rdOf ByteArray.empty t240 x10_1).size : Int)))] (0, 0) _ rfl (by (with_reducible repeat (first | refine Z0 ?_ _ | refine Z3 ?_ | refine Z1 ?_ _)); refine Z9 (cs := #[.int .i64 4, .string (rdOf ByteArray.empty t240 x10_1), .int .u32 0, .bool false, .int .i64 a1, .int .i64 x213005_1]) ?_ 5 _ rfl; (with_reducible repeat (first | refine Z0 ?_ _ | refine Z3 ?_ | refine Z1 ?_ _)); refine Z9 (cs := #[.int .i64 4, .string (rdOf ByteArray.empty t240 x10_1), .int .u32 0, .bool false, .int .i64 x213004_1, .int .i64 x213005_1]) ?_ 4 _ rfl; (with_reducible repeat (first | refine Z0 ?_ _ | refine Z3 ?_ | refine Z1 ?_ _)); refine Z9 (cs := #[.int .i64 4, .string (rdOf ByteArray.empty t240 x10_1), .int .u32 0, .bool x213003_1, .int .i64 x213004_1, .int .i64 x213005_1]) ?_ 3 _ rfl; (with_reducible repeat (first | refine Z0 ?_ _ | refine Z3 ?_ | refine Z1 ?_ _)); refine Z9 (cs := #[.int .i64 4, .string (rdOf ByteArray.empty t240 x10_1), .int .u32 x213002_1, .bool x213003_1, .int .i64 x213004_1, .int .i64 x213005_1]) ?_ 2 _ rfl; (with_reducible repeat (first | refine Z0 ?_ _ | refine Z3 ?_ | refine Z1 ?_ _)); refine Z9 (cs := #[.int .i64 4, .string x213001_1, .int .u32 x213002_1, .bool x213003_1, .int .i64 x213004_1, .int .i64 x213005_1]) ?_ 1 _ rfl; (with_reducible repeat (first | refine Z0 ?_ _ | refine Z3 ?_ | refine Z1 ?_ _)); refine Z9 (cs := #[.int .i64 x213000_1, .string x213001_1, .int .u32 x213002_1, .bool x213003_1, .int .i64 x213004_1, .int .i64 x213005_1]) ?_ 0 _ rfl; (with_reducible repeat (first | refine Z0 ?_ _ | refine Z3 ?_ | refine Z1 ?_ _)); exact BK212.out) Tryd.underlying24 rfl (by kernel_rfl)) rfl ?_
                     exact ⟨by first | rfl | (simp [Z16, Z15] <;> rfl) | (simp [*, Z16, Z15] <;> rfl), by repeat (first | (with_reducible first | exact HB.out | apply Z7 | apply Z4 | apply Z6 | refine Z8 ?_ GE212.out) | exact HB.out)⟩
                   · replace c65 := Bool.eq_false_iff.mpr c65
                     subst c65
                     have H1 : (Z20.l1 k1 a0 a1 t240 (wrap64 (x10_1 + 1))) = some (r1, r2, r3, r4, r5, r6, r7) := by rw [if_neg (show ¬ (false = true) by decide)] at H; exact H
                     clear H
                     have H := H1
                     clear H1
                     have H' := Aside0.mk H
                     clear H
                     obtain ⟨Ao74, co74, eo74⟩ := Kd.R_slice HO_9.out
                     subst eo74
                     have p243 : 0 ≤ (x10_1 : Int) := of_decide_eq_true (by first | (with_reducible assumption) | assumption)
                     have q243 : x10_1 < (t240.length : Int) := of_decide_eq_true (by first | (with_reducible assumption) | assumption)
                     obtain ⟨ad243, e243, hx243_0⟩ := Kd.at_string (Kd.R_reads' HO_9.out).2.2 x10_1 p243 q243
                     cases e243
                     replace p243 := eq_true p243
                     replace q243 := eq_true q243
                     go_wp2_with (first | ((with_reducible refine Z14 (f := 38) rfl ?_); refine goesL_ (some 82) rfl rfl Tryd.func38 (by kernel_rfl) rfl #[.string a0, .int .i64 a1, .string (rdOf ByteArray.empty t240 x10_1)] rfl (by (try simp only [List.map_toArray, List.map_cons, List.map_nil]); first | done | rfl | (simp only [List.length_drop, List.length_take]; rfl)) ?_; (with_reducible refine (Z45.calls a0 a1 (rdOf ByteArray.empty t240 x10_1) false _ A64.out).mono ?_); rintro e w' ⟨rfl, ⟨nd, rfl⟩⟩; refine ⟨_, rfl, ?_⟩))
                     go_roundg k1
                     case measure => have := HK1.out; omega
                     case rel => exact ⟨(wrap64 (x10_1 + 1)), (x213000_1), (x213001_1), (x213002_1), (x213003_1), (x213004_1), (x213005_1), (by first | rfl | (simp; done) | (simp [*]; done)), H', ⟨by have := HK1.out; omega⟩, ⟨by (with_reducible repeat (first | apply Kd.R_alloc | apply Kd.R_drewN | apply Kd.R_drew)); exact HO_9.out⟩, ⟨by (with_reducible repeat (first | refine Z0 ?_ _ | refine Z3 ?_ | refine Z1 ?_ _)); exact BK212.out⟩, ⟨by repeat (first | (with_reducible first | exact HB.out | apply Z7 | apply Z4 | apply Z6 | refine Z8 ?_ GE212.out) | exact HB.out)⟩⟩
                 · rw [if_neg c63] at H
                   exact absurd H (by simp)
               · rw [if_neg c62] at H
                 have c62b0 : decide (x10_1 < (t240.length : Int)) = false := decide_eq_false c62
                 clear c62
                 simp only [Option.some.injEq, Prod.mk.injEq] at H
                 obtain ⟨rfl, rfl, rfl, rfl, rfl, rfl, rfl⟩ := H
                 obtain ⟨Ao75, co75, eo75⟩ := Kd.R_slice HO_9.out
                 subst eo75
                 have hcz76_0 : wr.cell? ⟨gb212, 0, none⟩ = some (.int .i64 x213000_1) := (Z5 BK212.out 0).trans rfl
                 have hcz76_1 : wr.cell? ⟨gb212, 1, none⟩ = some (.string x213001_1) := (Z5 BK212.out 1).trans rfl
                 have hcz76_2 : wr.cell? ⟨gb212, 2, none⟩ = some (.int .u32 x213002_1) := (Z5 BK212.out 2).trans rfl
                 have hcz76_3 : wr.cell? ⟨gb212, 3, none⟩ = some (.bool x213003_1) := (Z5 BK212.out 3).trans rfl
                 have hcz76_4 : wr.cell? ⟨gb212, 4, none⟩ = some (.int .i64 x213004_1) := (Z5 BK212.out 4).trans rfl
                 have hcz76_5 : wr.cell? ⟨gb212, 5, none⟩ = some (.int .i64 x213005_1) := (Z5 BK212.out 5).trans rfl
                 have hfz76_0 := Z2 BK212.out 0
                 have hfz76_1 := Z2 BK212.out 1
                 have hfz76_2 := Z2 BK212.out 2
                 have hfz76_3 := Z2 BK212.out 3
                 have hfz76_4 := Z2 BK212.out 4
                 have hfz76_5 := Z2 BK212.out 5
                 go_wp2
                 refine bodyPost_ret (Z46 rfl _ _ gb212 24 #[.int .i64 0, .string (⟨#[]⟩ : ByteArray), .int .u32 0, .bool false, .int .i64 0, .int .i64 0] (0, 0) _ rfl (by (with_reducible repeat (first | refine Z0 ?_ _ | refine Z3 ?_ | refine Z1 ?_ _)); refine Z9 (cs := #[.int .i64 0, .string (⟨#[]⟩ : ByteArray), .int .u32 0, .bool false, .int .i64 0, .int .i64 x213005_1]) ?_ 5 _ rfl; (with_reducible repeat (first | refine Z0 ?_ _ | refine Z3 ?_ | refine Z1 ?_ _)); refine Z9 (cs := #[.int .i64 0, .string (⟨#[]⟩ : ByteArray), .int .u32 0, .bool false, .int .i64 x213004_1, .int .i64 x213005_1]) ?_ 4 _ rfl; (with_reducible repeat (first | refine Z0 ?_ _ | refine Z3 ?_ | refine Z1 ?_ _)); refine Z9 (cs := #[.int .i64 0, .string (⟨#[]⟩ : ByteArray), .int .u32 0, .bool x213003_1, .int .i64 x213004_1, .int .i64 x213005_1]) ?_ 3 _ rfl; (with_reducible repeat (first | refine Z0 ?_ _ | refine Z3 ?_ | refine Z1 ?_ _)); refine Z9 (cs := #[.int .i64 0, .string (⟨#[]⟩ : ByteArray), .int .u32 x213002_1, .bool x213003_1, .int .i64 x213004_1, .int .i64 x213005_1]) ?_ 2 _ rfl; (with_reducible repeat (first | refine Z0 ?_ _ | refine Z3 ?_ | refine Z1 ?_ _)); refine Z9 (cs := #[.int .i64 0, .string x213001_1, .int .u32 x213002_1, .bool x213003_1, .int .i64 x213004_1, .int .i64 x213005_1]) ?_ 1 _ rfl; (with_reducible repeat (first | refine Z0 ?_ _ | refine Z3 ?_ | refine Z1 ?_ _)); refine Z9 (cs := #[.int .i64 x213000_1, .string x213001_1, .int .u32 x213002_1, .bool x213003_1, .int .i64 x213004_1, .int .i64 x213005_1]) ?_ 0 _ rfl; (with_reducible repeat (first | refine Z0 ?_ _ | refine Z3 ?_ | refine Z1 ?_ _)); exact BK212.out) Tryd.underlying24 rfl (by kernel_rfl)) rfl ?_
                 exact ⟨by first | rfl | (simp [Z16, Z15] <;> rfl) | (simp [*, Z16, Z15] <;> rfl), by repeat (first | (with_reducible first | exact HB.out | apply Z7 | apply Z4 | apply Z6 | refine Z8 ?_ GE212.out) | exact HB.out)⟩
   · rw [if_neg c4] at H
     exact absurd H (by simp)
 · rw [if_neg c3] at H
   exact absurd H (by simp)
end Go.Proofs.YtbmfadmoficfiaaDoor.Q
namespace Go.Proofs.YtbmfadmoficfiaaDoor.Q
open Go.RowKit Go.Proofs.YtbmfadmoficfiaaDoorW.PrintWords Go.Proofs.YtbmfadmoficfiaaDoorW.PrintLast Go.Proofs.YtbmfadmoficfiaaDoorW.PrintMore
attribute [local go_sem] Z56 Z54 Z61 Z60 Z49 Z48 Z55 Z53
set_option linter.unusedVariables false
set_option linter.unusedSimpArgs false
def Z39.j0 : Nat → ByteArray → Int → Bool → Option (Int × ByteArray × Int × Bool × Int × Int × Int × Int)
 | 0, _, _, _ => none
 | k + 1, x0, x1, x18 => if x18 = true then (some (0, (⟨#[]⟩ : ByteArray), 0, false, 0, 0, 0, 1)) else ((Z19.f k x0 x1).bind fun bt248 => (if bt248.2 = true then (if bt248.1 ≥ (x0.size : Int) then (some (1, (⟨#[]⟩ : ByteArray), 0, false, bt248.1, bt248.1, 0, 0)) else ((Z20.f k x0 bt248.1).bind fun bt250 => (if bt250.2.2.2.2.2.2 = true then (some (bt250.1, bt250.2.1, bt250.2.2.1, bt250.2.2.2.1, bt250.2.2.2.2.1, bt250.2.2.2.2.2.1, 0, 0)) else (some (0, (⟨#[]⟩ : ByteArray), 0, false, 0, 0, bt248.1, 70))))) else (some (0, (⟨#[]⟩ : ByteArray), 0, false, 0, 0, bt248.1, 70))))
def Z39.f (k : Nat) (a0 : ByteArray) (a1 : Int) : Option (Int × ByteArray × Int × Bool × Int × Int × Int × Int) := if a1 < 0 then (Z39.j0 k a0 a1 true) else (Z39.j0 k a0 a1 (decide (a1 > (a0.size : Int))))
theorem Z39.mono_l : ∀ k, (∀ y0 y1 y2, LeO (Z39.j0 k y0 y1 y2) (Z39.j0 (k + 1) y0 y1 y2))
 | 0 => fun _ _ _ r h => by simp [Z39.j0] at h
 | k + 1 => by
  have ih0 := Z39.mono_l k
  · intro y0 y1 y2
    unfold Z39.j0
    repeat' first
    | (with_reducible exact ih0 _ _ _)
    | (with_reducible exact Z19.mono _ _ _)
    | (with_reducible exact Z20.mono _ _ _)
    | (with_reducible exact LeO.refl _)
    | (with_reducible exact LeO.none _)
    | (with_reducible refine LeO.ite ?_ ?_)
    | (with_reducible refine LeO.bind ?_ (fun _ => ?_))
    | exact ih0 _ _ _
    | exact Z19.mono _ _ _
    | exact Z20.mono _ _ _
    | exact LeO.none _
    | refine LeO.ite ?_ ?_
    | refine LeO.bind ?_ (fun _ => ?_)
theorem Z39.mono : ∀ a0 a1 k, LeO (Z39.f k a0 a1) (Z39.f (k + 1) a0 a1) := by
 intro a0 a1 k
 have ih0 := Z39.mono_l k
 unfold Z39.f
 repeat' first
  | (with_reducible exact ih0 _ _ _)
  | (with_reducible exact Z19.mono _ _ _)
  | (with_reducible exact Z20.mono _ _ _)
  | (with_reducible exact LeO.refl _)
  | (with_reducible exact LeO.none _)
  | (with_reducible refine LeO.ite ?_ ?_)
  | (with_reducible refine LeO.bind ?_ (fun _ => ?_))
  | exact ih0 _ _ _
  | exact Z19.mono _ _ _
  | exact Z20.mono _ _ _
  | exact LeO.none _
  | refine LeO.ite ?_ ?_
  | refine LeO.bind ?_ (fun _ => ?_)
set_option maxHeartbeats 8000000 in
set_option maxRecDepth 100000 in
theorem Z39.calls (k : Nat) (a0 : ByteArray) (a1 : Int) (r1 : Int) (r2 : ByteArray) (r3 : Int) (r4 : Bool) (r5 : Int) (r6 : Int) (r7 : Int) (r8 : Int) (w : World) (h : Z39.f k a0 a1 = some (r1, r2, r3, r4, r5, r6, r7, r8)) :
 Calls Tryd.prog 10 #[.string a0, .int .i64 a1] w fun e w' => e = .returned (.tuple #[.agg #[.int .i64 r1, .string r2, .int .u32 r3, .bool r4, .int .i64 r5, .int .i64 r6], .int .i64 r7, .int .i64 r8]) ∧ Below w.heap.size w w' := by
 have hu24 := Tryd.underlying24
 have HB := Aside0.mk (Below.refl w.heap.size w)
 have H : (if a1 < 0 then (Z39.j0 k a0 a1 true) else (Z39.j0 k a0 a1 (decide (a1 > (a0.size : Int))))) = some (r1, r2, r3, r4, r5, r6, r7, r8) := h
 clear h
 have HC3 := Aside0.mk H
 clear H
 go_enter Tryd.func10, Tryd.ntmps10
 go_upto_region 1 with (first | ((with_reducible refine Z52 (N := 4) rfl ?_); (try (refine Z66 (by rfl) ?_; dsimp only)); refine Z51 ?hg (N := 4) ?hd (cs := #[.int .i64 0, .string (⟨#[]⟩ : ByteArray), .int .u32 0, .bool false, .int .i64 0, .int .i64 0]) (t := 24) ?hr ?_; (case hd => rfl); (case hg => rfl); (case hr => first | (go_simp; done) | (go_simp; rfl)); intro gb247 hg w4 hbox hb; have n0_ := Aside0.mk (Z25 (by repeat (first | (with_reducible first | exact HB.out | apply Z7 | apply Z4 | apply Z6) | exact HB.out)) hb); have n1_ := Aside0.mk (hbox); have n2_ := Aside0.mk ((by rw [hg]; exact (Z27 (by repeat (first | (with_reducible first | exact HB.out | apply Z7 | apply Z4 | apply Z6) | exact HB.out))) : w.heap.size ≤ gb247)); have n3_ := Aside0.mk ((by rw [hg]; exact (Z27 (by repeat (first | (with_reducible first | exact HB.out | apply Z7 | apply Z4 | apply Z6) | exact HB.out))) : w.heap.size ≤ gb247)); clear HB; have HB := n0_; have BK247 := n1_; have GW247 := n2_; have GE247 := n3_; clear n0_ n1_ n2_ n3_; clear hb hbox hg))
 (try simp only [Act.put, List.setIfInBounds_toArray, List.set_cons_zero, List.set_cons_succ])
 go_cut [18] (fun v18 wc => ∃ (kq : Nat) (x18_2 : Bool), v18 = .bool x18_2 ∧ Aside0 (Z39.j0 kq a0 a1 x18_2 = some (r1, r2, r3, r4, r5, r6, r7, r8)) ∧ Aside0 (kq ≤ k) ∧ Aside0 (wc.heap[gb247]? = some (.cells #[.int .i64 0, .string (⟨#[]⟩ : ByteArray), .int .u32 0, .bool false, .int .i64 0, .int .i64 0] 24 (0, 0))) ∧ Aside0 (Below w.heap.size w wc))
 case first =>
  have H := HC3.out
  clear HC3
  by_cases c5 : a1 < 0
  · rw [if_pos c5] at H
    have c5b0 : decide (a1 < 0) = true := decide_eq_true c5
    clear c5
    (first | rw [c5b0] | (simp only [i64_w, i32_w]; rw [c5b0]) | skip)
    have H' := Aside0.mk H
    clear H
    go_wp2
    go_meet
    case rel => exact ⟨_, (true), (by first | rfl | (simp; done) | (simp [*]; done)), H', ⟨by first | omega | exact Nat.le_refl _⟩, ⟨by (with_reducible repeat (first | refine Z0 ?_ _ | refine Z3 ?_ | refine Z1 ?_ _)); exact BK247.out⟩, ⟨by repeat (first | (with_reducible first | exact HB.out | apply Z7 | apply Z4 | apply Z6 | refine Z8 ?_ GE247.out) | exact HB.out)⟩⟩
  · rw [if_neg c5] at H
    have c5b0 : decide (a1 < 0) = false := decide_eq_false c5
    clear c5
    (first | rw [c5b0] | (simp only [i64_w, i32_w]; rw [c5b0]) | skip)
    have H' := Aside0.mk H
    clear H
    go_wp2
    go_meet
    case rel => exact ⟨_, (decide (a1 > (a0.size : Int))), (by first | rfl | (simp; done) | (simp [*]; done)), H', ⟨by first | omega | exact Nat.le_refl _⟩, ⟨by (with_reducible repeat (first | refine Z0 ?_ _ | refine Z3 ?_ | refine Z1 ?_ _)); exact BK247.out⟩, ⟨by repeat (first | (with_reducible first | exact HB.out | apply Z7 | apply Z4 | apply Z6 | refine Z8 ?_ GE247.out) | exact HB.out)⟩⟩
 case rest =>
  clear HC3
  obtain ⟨kq, x18_2, rfl, HA, HJ2, BK247, HB⟩ := hcut
  cases kq with
  | zero => exact absurd HA.out (by simp [Z39.j0])
  | succ kj2 =>
   have H := HA.out
   clear HA
   simp only [Z39.j0] at H
   by_cases c6 : x18_2 = true
   · subst c6
     have H1 : (some (0, (⟨#[]⟩ : ByteArray), 0, false, 0, 0, 0, 1)) = some (r1, r2, r3, r4, r5, r6, r7, r8) := by rw [if_pos rfl] at H; exact H
     clear H
     have H := H1
     clear H1
     simp only [Option.some.injEq, Prod.mk.injEq] at H
     obtain ⟨rfl, rfl, rfl, rfl, rfl, rfl, rfl, rfl⟩ := H
     have hcz7_0 : wc.cell? ⟨gb247, 0, none⟩ = some (.int .i64 0) := (Z5 BK247.out 0).trans rfl
     have hcz7_1 : wc.cell? ⟨gb247, 1, none⟩ = some (.string (⟨#[]⟩ : ByteArray)) := (Z5 BK247.out 1).trans rfl
     have hcz7_2 : wc.cell? ⟨gb247, 2, none⟩ = some (.int .u32 0) := (Z5 BK247.out 2).trans rfl
     have hcz7_3 : wc.cell? ⟨gb247, 3, none⟩ = some (.bool false) := (Z5 BK247.out 3).trans rfl
     have hcz7_4 : wc.cell? ⟨gb247, 4, none⟩ = some (.int .i64 0) := (Z5 BK247.out 4).trans rfl
     have hcz7_5 : wc.cell? ⟨gb247, 5, none⟩ = some (.int .i64 0) := (Z5 BK247.out 5).trans rfl
     have hfz7_0 := Z2 BK247.out 0
     have hfz7_1 := Z2 BK247.out 1
     have hfz7_2 := Z2 BK247.out 2
     have hfz7_3 := Z2 BK247.out 3
     have hfz7_4 := Z2 BK247.out 4
     have hfz7_5 := Z2 BK247.out 5
     go_wp2
     refine bodyPost_ret (Z62 rfl _ _ gb247 24 #[.int .i64 0, .string (⟨#[]⟩ : ByteArray), .int .u32 0, .bool false, .int .i64 0, .int .i64 0] (0, 0) _ rfl (by (with_reducible repeat (first | refine Z0 ?_ _ | refine Z3 ?_ | refine Z1 ?_ _)); refine Z9 (cs := #[.int .i64 0, .string (⟨#[]⟩ : ByteArray), .int .u32 0, .bool false, .int .i64 0, .int .i64 0]) ?_ 5 _ rfl; (with_reducible repeat (first | refine Z0 ?_ _ | refine Z3 ?_ | refine Z1 ?_ _)); refine Z9 (cs := #[.int .i64 0, .string (⟨#[]⟩ : ByteArray), .int .u32 0, .bool false, .int .i64 0, .int .i64 0]) ?_ 4 _ rfl; (with_reducible repeat (first | refine Z0 ?_ _ | refine Z3 ?_ | refine Z1 ?_ _)); refine Z9 (cs := #[.int .i64 0, .string (⟨#[]⟩ : ByteArray), .int .u32 0, .bool false, .int .i64 0, .int .i64 0]) ?_ 3 _ rfl; (with_reducible repeat (first | refine Z0 ?_ _ | refine Z3 ?_ | refine Z1 ?_ _)); refine Z9 (cs := #[.int .i64 0, .string (⟨#[]⟩ : ByteArray), .int .u32 0, .bool false, .int .i64 0, .int .i64 0]) ?_ 2 _ rfl; (with_reducible repeat (first | refine Z0 ?_ _ | refine Z3 ?_ | refine Z1 ?_ _)); refine Z9 (cs := #[.int .i64 0, .string (⟨#[]⟩ : ByteArray), .int .u32 0, .bool false, .int .i64 0, .int .i64 0]) ?_ 1 _ rfl; (with_reducible repeat (first | refine Z0 ?_ _ | refine Z3 ?_ | refine Z1 ?_ _)); refine Z9 (cs := #[.int .i64 0, .string (⟨#[]⟩ : ByteArray), .int .u32 0, .bool false, .int .i64 0, .int .i64 0]) ?_ 0 _ rfl; (with_reducible repeat (first | refine Z0 ?_ _ | refine Z3 ?_ | refine Z1 ?_ _)); exact BK247.out) Tryd.underlying24 rfl (by kernel_rfl)) rfl ?_
     exact ⟨by first | rfl | (simp [Z16, Z15] <;> rfl) | (simp [*, Z16, Z15] <;> rfl), by repeat (first | (with_reducible first | exact HB.out | apply Z7 | apply Z4 | apply Z6 | refine Z8 ?_ GE247.out) | exact HB.out)⟩
   · replace c6 := Bool.eq_false_iff.mpr c6
     subst c6
     have H1 : ((Z19.f kj2 a0 a1).bind fun bt248 => (if bt248.2 = true then (if bt248.1 ≥ (a0.size : Int) then (some (1, (⟨#[]⟩ : ByteArray), 0, false, bt248.1, bt248.1, 0, 0)) else ((Z20.f kj2 a0 bt248.1).bind fun bt250 => (if bt250.2.2.2.2.2.2 = true then (some (bt250.1, bt250.2.1, bt250.2.2.1, bt250.2.2.2.1, bt250.2.2.2.2.1, bt250.2.2.2.2.2.1, 0, 0)) else (some (0, (⟨#[]⟩ : ByteArray), 0, false, 0, 0, bt248.1, 70))))) else (some (0, (⟨#[]⟩ : ByteArray), 0, false, 0, 0, bt248.1, 70)))) = some (r1, r2, r3, r4, r5, r6, r7, r8) := by rw [if_neg (show ¬ (false = true) by decide)] at H; exact H
     clear H
     have H := H1
     clear H1
     replace H := Option.bind_eq_some_iff.mp H
     obtain ⟨⟨t248, t249⟩, A80, H⟩ := H
     replace H : (if t249 = true then (if t248 ≥ (a0.size : Int) then (some (1, (⟨#[]⟩ : ByteArray), 0, false, t248, t248, 0, 0)) else ((Z20.f kj2 a0 t248).bind fun bt250 => (if bt250.2.2.2.2.2.2 = true then (some (bt250.1, bt250.2.1, bt250.2.2.1, bt250.2.2.2.1, bt250.2.2.2.2.1, bt250.2.2.2.2.2.1, 0, 0)) else (some (0, (⟨#[]⟩ : ByteArray), 0, false, 0, 0, t248, 70))))) else (some (0, (⟨#[]⟩ : ByteArray), 0, false, 0, 0, t248, 70))) = some (r1, r2, r3, r4, r5, r6, r7, r8) := H
     have A8 := Aside0.mk A80
     clear A80
     by_cases c9 : t249 = true
     · subst c9
       have H1 : (if t248 ≥ (a0.size : Int) then (some (1, (⟨#[]⟩ : ByteArray), 0, false, t248, t248, 0, 0)) else ((Z20.f kj2 a0 t248).bind fun bt250 => (if bt250.2.2.2.2.2.2 = true then (some (bt250.1, bt250.2.1, bt250.2.2.1, bt250.2.2.2.1, bt250.2.2.2.2.1, bt250.2.2.2.2.2.1, 0, 0)) else (some (0, (⟨#[]⟩ : ByteArray), 0, false, 0, 0, t248, 70))))) = some (r1, r2, r3, r4, r5, r6, r7, r8) := by rw [if_pos rfl] at H; exact H
       clear H
       have H := H1
       clear H1
       by_cases c10 : t248 ≥ (a0.size : Int)
       · rw [if_pos c10] at H
         have c10b0 : decide ((a0.size : Int) ≤ t248) = true := decide_eq_true c10
         clear c10
         simp only [Option.some.injEq, Prod.mk.injEq] at H
         obtain ⟨rfl, rfl, rfl, rfl, rfl, rfl, rfl, rfl⟩ := H
         go_wp2_with (first | ((with_reducible refine Z14 (f := 28) rfl ?_); refine goesL_ (some 23) rfl rfl Tryd.func28 (by kernel_rfl) rfl #[.string a0, .int .i64 a1] rfl (by (try simp only [List.map_toArray, List.map_cons, List.map_nil]); first | done | rfl | (simp only [List.length_drop, List.length_take]; rfl)) ?_; (with_reducible refine (Z19.calls kj2 a0 a1 t248 true _ A8.out).mono ?_); rintro e w' ⟨rfl, ⟨nd, rfl⟩⟩; refine ⟨_, rfl, ?_⟩; (try (rw [Z43 wc]; generalize hq_ : World.drewN wc _ = wc; have n0_ : Aside0 (wc.heap[gb247]? = some (.cells #[.int .i64 0, .string (⟨#[]⟩ : ByteArray), .int .u32 0, .bool false, .int .i64 0, .int .i64 0] 24 (0, 0))) := ⟨by rw [← hq_]; exact (by (with_reducible repeat (first | refine Z0 ?_ _ | refine Z3 ?_ | refine Z1 ?_ _)); exact BK247.out)⟩; have n1_ : Aside0 (Below w.heap.size w wc) := ⟨by rw [← hq_]; exact (by repeat (first | (with_reducible first | exact HB.out | apply Z7 | apply Z4 | apply Z6 | refine Z8 ?_ GE247.out) | exact HB.out))⟩; clear BK247 HB hq_; have BK247 := n0_; have HB := n1_; clear n0_ n1_)); have hcz11_0 : wc.cell? ⟨gb247, 0, none⟩ = some (.int .i64 0) := (Z5 BK247.out 0).trans rfl; have hcz11_1 : wc.cell? ⟨gb247, 1, none⟩ = some (.string (⟨#[]⟩ : ByteArray)) := (Z5 BK247.out 1).trans rfl; have hcz11_2 : wc.cell? ⟨gb247, 2, none⟩ = some (.int .u32 0) := (Z5 BK247.out 2).trans rfl; have hcz11_3 : wc.cell? ⟨gb247, 3, none⟩ = some (.bool false) := (Z5 BK247.out 3).trans rfl; have hcz11_4 : wc.cell? ⟨gb247, 4, none⟩ = some (.int .i64 0) := (Z5 BK247.out 4).trans rfl; have hcz11_5 : wc.cell? ⟨gb247, 5, none⟩ = some (.int .i64 0) := (Z5 BK247.out 5).trans rfl; have hfz11_0 := Z2 BK247.out 0; have hfz11_1 := Z2 BK247.out 1; have hfz11_2 := Z2 BK247.out 2; have hfz11_3 := Z2 BK247.out 3; have hfz11_4 := Z2 BK247.out 4; have hfz11_5 := Z2 BK247.out 5))
         refine bodyPost_ret (Z62 rfl _ _ gb247 24 #[.int .i64 1, .string (⟨#[]⟩ : ByteArray), .int .u32 0, .bool false, .int .i64 t248, .int .i64 t248] (0, 0) _ rfl (by (with_reducible repeat (first | refine Z0 ?_ _ | refine Z3 ?_ | refine Z1 ?_ _)); refine Z9 (cs := #[.int .i64 1, .string (⟨#[]⟩ : ByteArray), .int .u32 0, .bool false, .int .i64 t248, .int .i64 0]) ?_ 5 _ rfl; (with_reducible repeat (first | refine Z0 ?_ _ | refine Z3 ?_ | refine Z1 ?_ _)); refine Z9 (cs := #[.int .i64 1, .string (⟨#[]⟩ : ByteArray), .int .u32 0, .bool false, .int .i64 0, .int .i64 0]) ?_ 4 _ rfl; (with_reducible repeat (first | refine Z0 ?_ _ | refine Z3 ?_ | refine Z1 ?_ _)); refine Z9 (cs := #[.int .i64 1, .string (⟨#[]⟩ : ByteArray), .int .u32 0, .bool false, .int .i64 0, .int .i64 0]) ?_ 3 _ rfl; (with_reducible repeat (first | refine Z0 ?_ _ | refine Z3 ?_ | refine Z1 ?_ _)); refine Z9 (cs := #[.int .i64 1, .string (⟨#[]⟩ : ByteArray), .int .u32 0, .bool false, .int .i64 0, .int .i64 0]) ?_ 2 _ rfl; (with_reducible repeat (first | refine Z0 ?_ _ | refine Z3 ?_ | refine Z1 ?_ _)); refine Z9 (cs := #[.int .i64 1, .string (⟨#[]⟩ : ByteArray), .int .u32 0, .bool false, .int .i64 0, .int .i64 0]) ?_ 1 _ rfl; (with_reducible repeat (first | refine Z0 ?_ _ | refine Z3 ?_ | refine Z1 ?_ _)); refine Z9 (cs := #[.int .i64 0, .string (⟨#[]⟩ : ByteArray), .int .u32 0, .bool false, .int .i64 0, .int .i64 0]) ?_ 0 _ rfl; (with_reducible repeat (first | refine Z0 ?_ _ | refine Z3 ?_ | refine Z1 ?_ _)); exact BK247.out) Tryd.underlying24 rfl (by kernel_rfl)) rfl ?_
         exact ⟨by first | rfl | (simp [Z16, Z15] <;> rfl) | (simp [*, Z16, Z15] <;> rfl), by repeat (first | (with_reducible first | exact HB.out | apply Z7 | apply Z4 | apply Z6 | refine Z8 ?_ GE247.out) | exact HB.out)⟩
       · rw [if_neg c10] at H
         have c10b0 : decide ((a0.size : Int) ≤ t248) = false := decide_eq_false c10
         clear c10
         replace H := Option.bind_eq_some_iff.mp H
         obtain ⟨⟨t250, t251, t252, t253, t254, t255, t256⟩, A120, H⟩ := H
         replace H : (if t256 = true then (some (t250, t251, t252, t253, t254, t255, 0, 0)) else (some (0, (⟨#[]⟩ : ByteArray), 0, false, 0, 0, t248, 70))) = some (r1, r2, r3, r4, r5, r6, r7, r8) := H
         have A12 := Aside0.mk A120
         clear A120
         by_cases c13 : t256 = true
         · subst c13
           have H1 : (some (t250, t251, t252, t253, t254, t255, 0, 0)) = some (r1, r2, r3, r4, r5, r6, r7, r8) := by rw [if_pos rfl] at H; exact H
           clear H
           have H := H1
           clear H1
           simp only [Option.some.injEq, Prod.mk.injEq] at H
           obtain ⟨rfl, rfl, rfl, rfl, rfl, rfl, rfl, rfl⟩ := H
           go_wp2_with (first | ((with_reducible refine Z14 (f := 28) rfl ?_); refine goesL_ (some 23) rfl rfl Tryd.func28 (by kernel_rfl) rfl #[.string a0, .int .i64 a1] rfl (by (try simp only [List.map_toArray, List.map_cons, List.map_nil]); first | done | rfl | (simp only [List.length_drop, List.length_take]; rfl)) ?_; (with_reducible refine (Z19.calls kj2 a0 a1 t248 true _ A8.out).mono ?_); rintro e w' ⟨rfl, ⟨nd, rfl⟩⟩; refine ⟨_, rfl, ?_⟩; (try (rw [Z43 wc]; generalize hq_ : World.drewN wc _ = wc; have n0_ : Aside0 (wc.heap[gb247]? = some (.cells #[.int .i64 0, .string (⟨#[]⟩ : ByteArray), .int .u32 0, .bool false, .int .i64 0, .int .i64 0] 24 (0, 0))) := ⟨by rw [← hq_]; exact (by (with_reducible repeat (first | refine Z0 ?_ _ | refine Z3 ?_ | refine Z1 ?_ _)); exact BK247.out)⟩; have n1_ : Aside0 (Below w.heap.size w wc) := ⟨by rw [← hq_]; exact (by repeat (first | (with_reducible first | exact HB.out | apply Z7 | apply Z4 | apply Z6 | refine Z8 ?_ GE247.out) | exact HB.out))⟩; clear BK247 HB hq_; have BK247 := n0_; have HB := n1_; clear n0_ n1_))) | ((with_reducible refine Z14 (f := 29) rfl ?_); refine goesL_ (some 40) rfl rfl Tryd.func29 (by kernel_rfl) rfl #[.string a0, .int .i64 t248] rfl (by (try simp only [List.map_toArray, List.map_cons, List.map_nil]); first | done | rfl | (simp only [List.length_drop, List.length_take]; rfl)) ?_; (with_reducible refine (Z20.calls kj2 a0 t248 t250 t251 t252 t253 t254 t255 true _ A12.out).mono ?_); rintro e w14 ⟨rfl, hb⟩; refine ⟨_, rfl, ?_⟩; have n0_ := Aside0.mk (Z40 (g := gb247) (o := .cells #[.int .i64 0, .string (⟨#[]⟩ : ByteArray), .int .u32 0, .bool false, .int .i64 0, .int .i64 0] 24 (0, 0)) (by (with_reducible repeat (first | refine Z0 ?_ _ | refine Z3 ?_ | refine Z1 ?_ _)); exact BK247.out) hb); have n1_ := Aside0.mk (Z25 (by repeat (first | (with_reducible first | exact HB.out | apply Z7 | apply Z4 | apply Z6 | refine Z8 ?_ GE247.out) | exact HB.out)) hb); clear BK247; clear HB; have BK247 := n0_; have HB := n1_; clear n0_ n1_; (try clear hb); (try clear hb2); (try clear hk); (try clear hi)) | ((with_reducible refine Z52 (N := 9) rfl ?_); (try (refine Z66 (by rfl) ?_; dsimp only)); refine Z51 ?hg (N := 9) ?hd (cs := #[.int .i64 0, .string (⟨#[]⟩ : ByteArray), .int .u32 0, .bool false, .int .i64 0, .int .i64 0]) (t := 24) ?hr ?_; (case hd => rfl); (case hg => rfl); (case hr => first | (go_simp; done) | (go_simp; rfl)); intro gb257 hg w15 hbox hb; have n0_ := Aside0.mk (Z40 (g := gb247) (o := .cells #[.int .i64 0, .string (⟨#[]⟩ : ByteArray), .int .u32 0, .bool false, .int .i64 0, .int .i64 0] 24 (0, 0)) (by (with_reducible repeat (first | refine Z0 ?_ _ | refine Z3 ?_ | refine Z1 ?_ _)); exact BK247.out) hb); have n1_ := Aside0.mk (Z25 (by repeat (first | (with_reducible first | exact HB.out | apply Z7 | apply Z4 | apply Z6 | refine Z8 ?_ GE247.out) | exact HB.out)) hb); have n2_ := Aside0.mk (hbox); have n3_ := Aside0.mk ((by rw [hg]; exact (Z27 (by repeat (first | (with_reducible first | exact HB.out | apply Z7 | apply Z4 | apply Z6 | refine Z8 ?_ GE247.out) | exact HB.out))) : w.heap.size ≤ gb257)); have n4_ := Aside0.mk ((by rw [hg]; exact (Z27 (by repeat (first | (with_reducible first | exact HB.out | apply Z7 | apply Z4 | apply Z6 | refine Z8 ?_ GE247.out) | exact HB.out))) : w.heap.size ≤ gb257)); have n5_ := Aside0.mk ((by rw [hg]; exact Nat.ne_of_lt (blk_lt (g := gb247) (o := .cells #[.int .i64 0, .string (⟨#[]⟩ : ByteArray), .int .u32 0, .bool false, .int .i64 0, .int .i64 0] 24 (0, 0)) (by (with_reducible repeat (first | refine Z0 ?_ _ | refine Z3 ?_ | refine Z1 ?_ _)); exact BK247.out)) : gb247 ≠ gb257)); have n6_ := Aside0.mk ((by rw [hg]; exact Nat.ne_of_gt (blk_lt (g := gb247) (o := .cells #[.int .i64 0, .string (⟨#[]⟩ : ByteArray), .int .u32 0, .bool false, .int .i64 0, .int .i64 0] 24 (0, 0)) (by (with_reducible repeat (first | refine Z0 ?_ _ | refine Z3 ?_ | refine Z1 ?_ _)); exact BK247.out)) : gb257 ≠ gb247)); clear BK247; clear HB; have BK247 := n0_; have HB := n1_; have BK257 := n2_; have GW257 := n3_; have GE257 := n4_; have NB247_257 := n5_; have NB257_247 := n6_; clear n0_ n1_ n2_ n3_ n4_ n5_ n6_; clear hb hbox hg; have hnb16 := NB257_247.out; have hnc16 := NB247_257.out; have hcz17_0 : w15.cell? ⟨gb257, 0, none⟩ = some (.int .i64 0) := (Z5 BK257.out 0).trans rfl; have hcz17_1 : w15.cell? ⟨gb257, 1, none⟩ = some (.string (⟨#[]⟩ : ByteArray)) := (Z5 BK257.out 1).trans rfl; have hcz17_2 : w15.cell? ⟨gb257, 2, none⟩ = some (.int .u32 0) := (Z5 BK257.out 2).trans rfl; have hcz17_3 : w15.cell? ⟨gb257, 3, none⟩ = some (.bool false) := (Z5 BK257.out 3).trans rfl; have hcz17_4 : w15.cell? ⟨gb257, 4, none⟩ = some (.int .i64 0) := (Z5 BK257.out 4).trans rfl; have hcz17_5 : w15.cell? ⟨gb257, 5, none⟩ = some (.int .i64 0) := (Z5 BK257.out 5).trans rfl; have hfz17_0 := Z2 BK257.out 0; have hfz17_1 := Z2 BK257.out 1; have hfz17_2 := Z2 BK257.out 2; have hfz17_3 := Z2 BK257.out 3; have hfz17_4 := Z2 BK257.out 4; have hfz17_5 := Z2 BK257.out 5; have hcz18_0 : w15.cell? ⟨gb247, 0, none⟩ = some (.int .i64 0) := (Z5 BK247.out 0).trans rfl; have hcz18_1 : w15.cell? ⟨gb247, 1, none⟩ = some (.string (⟨#[]⟩ : ByteArray)) := (Z5 BK247.out 1).trans rfl; have hcz18_2 : w15.cell? ⟨gb247, 2, none⟩ = some (.int .u32 0) := (Z5 BK247.out 2).trans rfl; have hcz18_3 : w15.cell? ⟨gb247, 3, none⟩ = some (.bool false) := (Z5 BK247.out 3).trans rfl; have hcz18_4 : w15.cell? ⟨gb247, 4, none⟩ = some (.int .i64 0) := (Z5 BK247.out 4).trans rfl; have hcz18_5 : w15.cell? ⟨gb247, 5, none⟩ = some (.int .i64 0) := (Z5 BK247.out 5).trans rfl; have hfz18_0 := Z2 BK247.out 0; have hfz18_1 := Z2 BK247.out 1; have hfz18_2 := Z2 BK247.out 2; have hfz18_3 := Z2 BK247.out 3; have hfz18_4 := Z2 BK247.out 4; have hfz18_5 := Z2 BK247.out 5))
           refine bodyPost_ret (Z62 rfl _ _ gb247 24 #[.int .i64 t250, .string t251, .int .u32 t252, .bool t253, .int .i64 t254, .int .i64 t255] (0, 0) _ rfl (by (with_reducible repeat (first | refine Z0 ?_ _ | refine Z3 ?_ | refine Z1 ?_ _)); refine Z9 (cs := #[.int .i64 t250, .string t251, .int .u32 t252, .bool t253, .int .i64 t254, .int .i64 0]) ?_ 5 _ rfl; (with_reducible repeat (first | refine Z0 ?_ _ | refine Z3 ?_ | refine Z1 ?_ _)); refine Z9 (cs := #[.int .i64 t250, .string t251, .int .u32 t252, .bool t253, .int .i64 0, .int .i64 0]) ?_ 4 _ rfl; (with_reducible repeat (first | refine Z0 ?_ _ | refine Z3 ?_ | refine Z1 ?_ _)); refine Z9 (cs := #[.int .i64 t250, .string t251, .int .u32 t252, .bool false, .int .i64 0, .int .i64 0]) ?_ 3 _ rfl; (with_reducible repeat (first | refine Z0 ?_ _ | refine Z3 ?_ | refine Z1 ?_ _)); refine Z9 (cs := #[.int .i64 t250, .string t251, .int .u32 0, .bool false, .int .i64 0, .int .i64 0]) ?_ 2 _ rfl; (with_reducible repeat (first | refine Z0 ?_ _ | refine Z3 ?_ | refine Z1 ?_ _)); refine Z9 (cs := #[.int .i64 t250, .string (⟨#[]⟩ : ByteArray), .int .u32 0, .bool false, .int .i64 0, .int .i64 0]) ?_ 1 _ rfl; (with_reducible repeat (first | refine Z0 ?_ _ | refine Z3 ?_ | refine Z1 ?_ _)); refine Z9 (cs := #[.int .i64 0, .string (⟨#[]⟩ : ByteArray), .int .u32 0, .bool false, .int .i64 0, .int .i64 0]) ?_ 0 _ rfl; (with_reducible repeat (first | refine Z0 ?_ _ | refine Z3 ?_ | refine Z1 ?_ _)); refine Z22 ?_ NB247_257.out _; (with_reducible repeat (first | refine Z0 ?_ _ | refine Z3 ?_ | refine Z1 ?_ _)); refine Z22 ?_ NB247_257.out _; (with_reducible repeat (first | refine Z0 ?_ _ | refine Z3 ?_ | refine Z1 ?_ _)); refine Z22 ?_ NB247_257.out _; (with_reducible repeat (first | refine Z0 ?_ _ | refine Z3 ?_ | refine Z1 ?_ _)); refine Z22 ?_ NB247_257.out _; (with_reducible repeat (first | refine Z0 ?_ _ | refine Z3 ?_ | refine Z1 ?_ _)); refine Z22 ?_ NB247_257.out _; (with_reducible repeat (first | refine Z0 ?_ _ | refine Z3 ?_ | refine Z1 ?_ _)); refine Z22 ?_ NB247_257.out _; (with_reducible repeat (first | refine Z0 ?_ _ | refine Z3 ?_ | refine Z1 ?_ _)); exact BK247.out) Tryd.underlying24 rfl (by kernel_rfl)) rfl ?_
           exact ⟨by first | rfl | (simp [Z16, Z15] <;> rfl) | (simp [*, Z16, Z15] <;> rfl), by repeat (first | (with_reducible first | exact HB.out | apply Z7 | apply Z4 | apply Z6 | refine Z8 ?_ GE247.out | refine Z8 ?_ GE257.out) | exact HB.out)⟩
         · replace c13 := Bool.eq_false_iff.mpr c13
           subst c13
           have H1 : (some (0, (⟨#[]⟩ : ByteArray), 0, false, 0, 0, t248, 70)) = some (r1, r2, r3, r4, r5, r6, r7, r8) := by rw [if_neg (show ¬ (false = true) by decide)] at H; exact H
           clear H
           have H := H1
           clear H1
           simp only [Option.some.injEq, Prod.mk.injEq] at H
           obtain ⟨rfl, rfl, rfl, rfl, rfl, rfl, rfl, rfl⟩ := H
           go_wp2_with (first | ((with_reducible refine Z14 (f := 28) rfl ?_); refine goesL_ (some 23) rfl rfl Tryd.func28 (by kernel_rfl) rfl #[.string a0, .int .i64 a1] rfl (by (try simp only [List.map_toArray, List.map_cons, List.map_nil]); first | done | rfl | (simp only [List.length_drop, List.length_take]; rfl)) ?_; (with_reducible refine (Z19.calls kj2 a0 a1 t248 true _ A8.out).mono ?_); rintro e w' ⟨rfl, ⟨nd, rfl⟩⟩; refine ⟨_, rfl, ?_⟩; (try (rw [Z43 wc]; generalize hq_ : World.drewN wc _ = wc; have n0_ : Aside0 (wc.heap[gb247]? = some (.cells #[.int .i64 0, .string (⟨#[]⟩ : ByteArray), .int .u32 0, .bool false, .int .i64 0, .int .i64 0] 24 (0, 0))) := ⟨by rw [← hq_]; exact (by (with_reducible repeat (first | refine Z0 ?_ _ | refine Z3 ?_ | refine Z1 ?_ _)); exact BK247.out)⟩; have n1_ : Aside0 (Below w.heap.size w wc) := ⟨by rw [← hq_]; exact (by repeat (first | (with_reducible first | exact HB.out | apply Z7 | apply Z4 | apply Z6 | refine Z8 ?_ GE247.out) | exact HB.out))⟩; clear BK247 HB hq_; have BK247 := n0_; have HB := n1_; clear n0_ n1_))) | ((with_reducible refine Z14 (f := 29) rfl ?_); refine goesL_ (some 40) rfl rfl Tryd.func29 (by kernel_rfl) rfl #[.string a0, .int .i64 t248] rfl (by (try simp only [List.map_toArray, List.map_cons, List.map_nil]); first | done | rfl | (simp only [List.length_drop, List.length_take]; rfl)) ?_; (with_reducible refine (Z20.calls kj2 a0 t248 t250 t251 t252 t253 t254 t255 false _ A12.out).mono ?_); rintro e w19 ⟨rfl, hb⟩; refine ⟨_, rfl, ?_⟩; have n0_ := Aside0.mk (Z40 (g := gb247) (o := .cells #[.int .i64 0, .string (⟨#[]⟩ : ByteArray), .int .u32 0, .bool false, .int .i64 0, .int .i64 0] 24 (0, 0)) (by (with_reducible repeat (first | refine Z0 ?_ _ | refine Z3 ?_ | refine Z1 ?_ _)); exact BK247.out) hb); have n1_ := Aside0.mk (Z25 (by repeat (first | (with_reducible first | exact HB.out | apply Z7 | apply Z4 | apply Z6 | refine Z8 ?_ GE247.out) | exact HB.out)) hb); clear BK247; clear HB; have BK247 := n0_; have HB := n1_; clear n0_ n1_; (try clear hb); (try clear hb2); (try clear hk); (try clear hi)) | ((with_reducible refine Z52 (N := 9) rfl ?_); (try (refine Z66 (by rfl) ?_; dsimp only)); refine Z51 ?hg (N := 9) ?hd (cs := #[.int .i64 0, .string (⟨#[]⟩ : ByteArray), .int .u32 0, .bool false, .int .i64 0, .int .i64 0]) (t := 24) ?hr ?_; (case hd => rfl); (case hg => rfl); (case hr => first | (go_simp; done) | (go_simp; rfl)); intro gb257 hg w20 hbox hb; have n0_ := Aside0.mk (Z40 (g := gb247) (o := .cells #[.int .i64 0, .string (⟨#[]⟩ : ByteArray), .int .u32 0, .bool false, .int .i64 0, .int .i64 0] 24 (0, 0)) (by (with_reducible repeat (first | refine Z0 ?_ _ | refine Z3 ?_ | refine Z1 ?_ _)); exact BK247.out) hb); have n1_ := Aside0.mk (Z25 (by repeat (first | (with_reducible first | exact HB.out | apply Z7 | apply Z4 | apply Z6 | refine Z8 ?_ GE247.out) | exact HB.out)) hb); have n2_ := Aside0.mk (hbox); have n3_ := Aside0.mk ((by rw [hg]; exact (Z27 (by repeat (first | (with_reducible first | exact HB.out | apply Z7 | apply Z4 | apply Z6 | refine Z8 ?_ GE247.out) | exact HB.out))) : w.heap.size ≤ gb257)); have n4_ := Aside0.mk ((by rw [hg]; exact (Z27 (by repeat (first | (with_reducible first | exact HB.out | apply Z7 | apply Z4 | apply Z6 | refine Z8 ?_ GE247.out) | exact HB.out))) : w.heap.size ≤ gb257)); have n5_ := Aside0.mk ((by rw [hg]; exact Nat.ne_of_lt (blk_lt (g := gb247) (o := .cells #[.int .i64 0, .string (⟨#[]⟩ : ByteArray), .int .u32 0, .bool false, .int .i64 0, .int .i64 0] 24 (0, 0)) (by (with_reducible repeat (first | refine Z0 ?_ _ | refine Z3 ?_ | refine Z1 ?_ _)); exact BK247.out)) : gb247 ≠ gb257)); have n6_ := Aside0.mk ((by rw [hg]; exact Nat.ne_of_gt (blk_lt (g := gb247) (o := .cells #[.int .i64 0, .string (⟨#[]⟩ : ByteArray), .int .u32 0, .bool false, .int .i64 0, .int .i64 0] 24 (0, 0)) (by (with_reducible repeat (first | refine Z0 ?_ _ | refine Z3 ?_ | refine Z1 ?_ _)); exact BK247.out)) : gb257 ≠ gb247)); clear BK247; clear HB; have BK247 := n0_; have HB := n1_; have BK257 := n2_; have GW257 := n3_; have GE257 := n4_; have NB247_257 := n5_; have NB257_247 := n6_; clear n0_ n1_ n2_ n3_ n4_ n5_ n6_; clear hb hbox hg; have hnb21 := NB257_247.out; have hnc21 := NB247_257.out; have hcz22_0 : w20.cell? ⟨gb257, 0, none⟩ = some (.int .i64 0) := (Z5 BK257.out 0).trans rfl; have hcz22_1 : w20.cell? ⟨gb257, 1, none⟩ = some (.string (⟨#[]⟩ : ByteArray)) := (Z5 BK257.out 1).trans rfl; have hcz22_2 : w20.cell? ⟨gb257, 2, none⟩ = some (.int .u32 0) := (Z5 BK257.out 2).trans rfl; have hcz22_3 : w20.cell? ⟨gb257, 3, none⟩ = some (.bool false) := (Z5 BK257.out 3).trans rfl; have hcz22_4 : w20.cell? ⟨gb257, 4, none⟩ = some (.int .i64 0) := (Z5 BK257.out 4).trans rfl; have hcz22_5 : w20.cell? ⟨gb257, 5, none⟩ = some (.int .i64 0) := (Z5 BK257.out 5).trans rfl; have hfz22_0 := Z2 BK257.out 0; have hfz22_1 := Z2 BK257.out 1; have hfz22_2 := Z2 BK257.out 2; have hfz22_3 := Z2 BK257.out 3; have hfz22_4 := Z2 BK257.out 4; have hfz22_5 := Z2 BK257.out 5; have hcz23_0 : w20.cell? ⟨gb247, 0, none⟩ = some (.int .i64 0) := (Z5 BK247.out 0).trans rfl; have hcz23_1 : w20.cell? ⟨gb247, 1, none⟩ = some (.string (⟨#[]⟩ : ByteArray)) := (Z5 BK247.out 1).trans rfl; have hcz23_2 : w20.cell? ⟨gb247, 2, none⟩ = some (.int .u32 0) := (Z5 BK247.out 2).trans rfl; have hcz23_3 : w20.cell? ⟨gb247, 3, none⟩ = some (.bool false) := (Z5 BK247.out 3).trans rfl; have hcz23_4 : w20.cell? ⟨gb247, 4, none⟩ = some (.int .i64 0) := (Z5 BK247.out 4).trans rfl; have hcz23_5 : w20.cell? ⟨gb247, 5, none⟩ = some (.int .i64 0) := (Z5 BK247.out 5).trans rfl; have hfz23_0 := Z2 BK247.out 0; have hfz23_1 := Z2 BK247.out 1; have hfz23_2 := Z2 BK247.out 2; have hfz23_3 := Z2 BK247.out 3; have hfz23_4 := Z2 BK247.out 4; have hfz23_5 := Z2 BK247.out 5))
           refine bodyPost_ret (Z62 rfl _ _ gb247 24 #[.int .i64 0, .string (⟨#[]⟩ : ByteArray), .int .u32 0, .bool false, .int .i64 0, .int .i64 0] (0, 0) _ rfl (by (with_reducible repeat (first | refine Z0 ?_ _ | refine Z3 ?_ | refine Z1 ?_ _)); refine Z9 (cs := #[.int .i64 0, .string (⟨#[]⟩ : ByteArray), .int .u32 0, .bool false, .int .i64 0, .int .i64 0]) ?_ 5 _ rfl; (with_reducible repeat (first | refine Z0 ?_ _ | refine Z3 ?_ | refine Z1 ?_ _)); refine Z9 (cs := #[.int .i64 0, .string (⟨#[]⟩ : ByteArray), .int .u32 0, .bool false, .int .i64 0, .int .i64 0]) ?_ 4 _ rfl; (with_reducible repeat (first | refine Z0 ?_ _ | refine Z3 ?_ | refine Z1 ?_ _)); refine Z9 (cs := #[.int .i64 0, .string (⟨#[]⟩ : ByteArray), .int .u32 0, .bool false, .int .i64 0, .int .i64 0]) ?_ 3 _ rfl; (with_reducible repeat (first | refine Z0 ?_ _ | refine Z3 ?_ | refine Z1 ?_ _)); refine Z9 (cs := #[.int .i64 0, .string (⟨#[]⟩ : ByteArray), .int .u32 0, .bool false, .int .i64 0, .int .i64 0]) ?_ 2 _ rfl; (with_reducible repeat (first | refine Z0 ?_ _ | refine Z3 ?_ | refine Z1 ?_ _)); refine Z9 (cs := #[.int .i64 0, .string (⟨#[]⟩ : ByteArray), .int .u32 0, .bool false, .int .i64 0, .int .i64 0]) ?_ 1 _ rfl; (with_reducible repeat (first | refine Z0 ?_ _ | refine Z3 ?_ | refine Z1 ?_ _)); refine Z9 (cs := #[.int .i64 0, .string (⟨#[]⟩ : ByteArray), .int .u32 0, .bool false, .int .i64 0, .int .i64 0]) ?_ 0 _ rfl; (with_reducible repeat (first | refine Z0 ?_ _ | refine Z3 ?_ | refine Z1 ?_ _)); refine Z22 ?_ NB247_257.out _; (with_reducible repeat (first | refine Z0 ?_ _ | refine Z3 ?_ | refine Z1 ?_ _)); refine Z22 ?_ NB247_257.out _; (with_reducible repeat (first | refine Z0 ?_ _ | refine Z3 ?_ | refine Z1 ?_ _)); refine Z22 ?_ NB247_257.out _; (with_reducible repeat (first | refine Z0 ?_ _ | refine Z3 ?_ | refine Z1 ?_ _)); refine Z22 ?_ NB247_257.out _; (with_reducible repeat (first | refine Z0 ?_ _ | refine Z3 ?_ | refine Z1 ?_ _)); refine Z22 ?_ NB247_257.out _; (with_reducible repeat (first | refine Z0 ?_ _ | refine Z3 ?_ | refine Z1 ?_ _)); refine Z22 ?_ NB247_257.out _; (with_reducible repeat (first | refine Z0 ?_ _ | refine Z3 ?_ | refine Z1 ?_ _)); exact BK247.out) Tryd.underlying24 rfl (by kernel_rfl)) rfl ?_
           exact ⟨by first | rfl | (simp [Z16, Z15] <;> rfl) | (simp [*, Z16, Z15] <;> rfl), by repeat (first | (with_reducible first | exact HB.out | apply Z7 | apply Z4 | apply Z6 | refine Z8 ?_ GE247.out | refine Z8 ?_ GE257.out) | exact HB.out)⟩
     · replace c9 := Bool.eq_false_iff.mpr c9
       subst c9
       have H1 : (some (0, (⟨#[]⟩ : ByteArray), 0, false, 0, 0, t248, 70)) = some (r1, r2, r3, r4, r5, r6, r7, r8) := by rw [if_neg (show ¬ (false = true) by decide)] at H; exact H
       clear H
       have H := H1
       clear H1
       simp only [Option.some.injEq, Prod.mk.injEq] at H
       obtain ⟨rfl, rfl, rfl, rfl, rfl, rfl, rfl, rfl⟩ := H
       go_wp2_with (first | ((with_reducible refine Z14 (f := 28) rfl ?_); refine goesL_ (some 23) rfl rfl Tryd.func28 (by kernel_rfl) rfl #[.string a0, .int .i64 a1] rfl (by (try simp only [List.map_toArray, List.map_cons, List.map_nil]); first | done | rfl | (simp only [List.length_drop, List.length_take]; rfl)) ?_; (with_reducible refine (Z19.calls kj2 a0 a1 t248 false _ A8.out).mono ?_); rintro e w' ⟨rfl, ⟨nd, rfl⟩⟩; refine ⟨_, rfl, ?_⟩; (try (rw [Z43 wc]; generalize hq_ : World.drewN wc _ = wc; have n0_ : Aside0 (wc.heap[gb247]? = some (.cells #[.int .i64 0, .string (⟨#[]⟩ : ByteArray), .int .u32 0, .bool false, .int .i64 0, .int .i64 0] 24 (0, 0))) := ⟨by rw [← hq_]; exact (by (with_reducible repeat (first | refine Z0 ?_ _ | refine Z3 ?_ | refine Z1 ?_ _)); exact BK247.out)⟩; have n1_ : Aside0 (Below w.heap.size w wc) := ⟨by rw [← hq_]; exact (by repeat (first | (with_reducible first | exact HB.out | apply Z7 | apply Z4 | apply Z6 | refine Z8 ?_ GE247.out) | exact HB.out))⟩; clear BK247 HB hq_; have BK247 := n0_; have HB := n1_; clear n0_ n1_)); have hcz24_0 : wc.cell? ⟨gb247, 0, none⟩ = some (.int .i64 0) := (Z5 BK247.out 0).trans rfl; have hcz24_1 : wc.cell? ⟨gb247, 1, none⟩ = some (.string (⟨#[]⟩ : ByteArray)) := (Z5 BK247.out 1).trans rfl; have hcz24_2 : wc.cell? ⟨gb247, 2, none⟩ = some (.int .u32 0) := (Z5 BK247.out 2).trans rfl; have hcz24_3 : wc.cell? ⟨gb247, 3, none⟩ = some (.bool false) := (Z5 BK247.out 3).trans rfl; have hcz24_4 : wc.cell? ⟨gb247, 4, none⟩ = some (.int .i64 0) := (Z5 BK247.out 4).trans rfl; have hcz24_5 : wc.cell? ⟨gb247, 5, none⟩ = some (.int .i64 0) := (Z5 BK247.out 5).trans rfl; have hfz24_0 := Z2 BK247.out 0; have hfz24_1 := Z2 BK247.out 1; have hfz24_2 := Z2 BK247.out 2; have hfz24_3 := Z2 BK247.out 3; have hfz24_4 := Z2 BK247.out 4; have hfz24_5 := Z2 BK247.out 5))
       refine bodyPost_ret (Z62 rfl _ _ gb247 24 #[.int .i64 0, .string (⟨#[]⟩ : ByteArray), .int .u32 0, .bool false, .int .i64 0, .int .i64 0] (0, 0) _ rfl (by (with_reducible repeat (first | refine Z0 ?_ _ | refine Z3 ?_ | refine Z1 ?_ _)); refine Z9 (cs := #[.int .i64 0, .string (⟨#[]⟩ : ByteArray), .int .u32 0, .bool false, .int .i64 0, .int .i64 0]) ?_ 5 _ rfl; (with_reducible repeat (first | refine Z0 ?_ _ | refine Z3 ?_ | refine Z1 ?_ _)); refine Z9 (cs := #[.int .i64 0, .string (⟨#[]⟩ : ByteArray), .int .u32 0, .bool false, .int .i64 0, .int .i64 0]) ?_ 4 _ rfl; (with_reducible repeat (first | refine Z0 ?_ _ | refine Z3 ?_ | refine Z1 ?_ _)); refine Z9 (cs := #[.int .i64 0, .string (⟨#[]⟩ : ByteArray), .int .u32 0, .bool false, .int .i64 0, .int .i64 0]) ?_ 3 _ rfl; (with_reducible repeat (first | refine Z0 ?_ _ | refine Z3 ?_ | refine Z1 ?_ _)); refine Z9 (cs := #[.int .i64 0, .string (⟨#[]⟩ : ByteArray), .int .u32 0, .bool false, .int .i64 0, .int .i64 0]) ?_ 2 _ rfl; (with_reducible repeat (first | refine Z0 ?_ _ | refine Z3 ?_ | refine Z1 ?_ _)); refine Z9 (cs := #[.int .i64 0, .string (⟨#[]⟩ : ByteArray), .int .u32 0, .bool false, .int .i64 0, .int .i64 0]) ?_ 1 _ rfl; (with_reducible repeat (first | refine Z0 ?_ _ | refine Z3 ?_ | refine Z1 ?_ _)); refine Z9 (cs := #[.int .i64 0, .string (⟨#[]⟩ : ByteArray), .int .u32 0, .bool false, .int .i64 0, .int .i64 0]) ?_ 0 _ rfl; (with_reducible repeat (first | refine Z0 ?_ _ | refine Z3 ?_ | refine Z1 ?_ _)); exact BK247.out) Tryd.underlying24 rfl (by kernel_rfl)) rfl ?_
       exact ⟨by first | rfl | (simp [Z16, Z15] <;> rfl) | (simp [*, Z16, Z15] <;> rfl), by repeat (first | (with_reducible first | exact HB.out | apply Z7 | apply Z4 | apply Z6 | refine Z8 ?_ GE247.out) | exact HB.out)⟩
end Go.Proofs.YtbmfadmoficfiaaDoor.Q
namespace Go.Proofs.YtbmfadmoficfiaaDoor.Q
open Go.RowKit Go.Proofs.YtbmfadmoficfiaaDoorW.PrintWords Go.Proofs.YtbmfadmoficfiaaDoorW.PrintLast Go.Proofs.YtbmfadmoficfiaaDoorW.PrintMore
attribute [local go_sem] Z56 Z54 Z61 Z60 Z49 Z48 Z55 Z53
set_option linter.unusedVariables false
set_option linter.unusedSimpArgs false
def Z58.l0 : Nat → ByteArray → List (S24) → Int → Option ((List (S24)) × Int × Int)
 | 0, _, _, _ => none
 | k + 1, x0, x5, x6 => (Z39.f k x0 x6).bind fun bt297 => (if bt297.2.2.2.2.2.2.2 = 0 then (if x5.length < 2932031007402 then ((some (x5 ++ [(⟨bt297.1, bt297.2.1, bt297.2.2.1, bt297.2.2.2.1, bt297.2.2.2.2.1, bt297.2.2.2.2.2.1⟩ : S24)] : List (S24))).bind fun y306 => (if bt297.1 = 1 then (some (y306, 0, 0)) else (Z58.l0 k x0 y306 bt297.2.2.2.2.2.1))) else (none)) else (some (([] : List (S24)), bt297.2.2.2.2.2.2.1, bt297.2.2.2.2.2.2.2)))
def Z58.f (k : Nat) (a0 : ByteArray) : Option ((List (S24)) × Int × Int) := if (a0.size : Int) > 65536 then (some (([] : List (S24)), 0, 3)) else (Z58.l0 k a0 ([] : List (S24)) 0)
theorem Z58.mono_l : ∀ k, (∀ y0 y1 y2, LeO (Z58.l0 k y0 y1 y2) (Z58.l0 (k + 1) y0 y1 y2))
 | 0 => fun _ _ _ r h => by simp [Z58.l0] at h
 | k + 1 => by
  have ih0 := Z58.mono_l k
  · intro y0 y1 y2
    unfold Z58.l0
    repeat' first
    | (with_reducible exact ih0 _ _ _)
    | (with_reducible exact Z39.mono _ _ _)
    | (with_reducible exact LeO.refl _)
    | (with_reducible exact LeO.none _)
    | (with_reducible refine LeO.ite ?_ ?_)
    | (with_reducible refine LeO.bind ?_ (fun _ => ?_))
    | exact ih0 _ _ _
    | exact Z39.mono _ _ _
    | exact LeO.none _
    | refine LeO.ite ?_ ?_
    | refine LeO.bind ?_ (fun _ => ?_)
theorem Z58.mono : ∀ a0 k, LeO (Z58.f k a0) (Z58.f (k + 1) a0) := by
 intro a0 k
 have ih0 := Z58.mono_l k
 unfold Z58.f
 repeat' first
  | (with_reducible exact ih0 _ _ _)
  | (with_reducible exact Z39.mono _ _ _)
  | (with_reducible exact LeO.refl _)
  | (with_reducible exact LeO.none _)
  | (with_reducible refine LeO.ite ?_ ?_)
  | (with_reducible refine LeO.bind ?_ (fun _ => ?_))
  | exact ih0 _ _ _
  | exact Z39.mono _ _ _
  | exact LeO.none _
  | refine LeO.ite ?_ ?_
  | refine LeO.bind ?_ (fun _ => ?_)
set_option maxHeartbeats 8000000 in
set_option maxRecDepth 100000 in
theorem Z58.calls (k : Nat) (a0 : ByteArray) (r1 : List (S24)) (r2 : Int) (r3 : Int) (w : World) (h : Z58.f k a0 = some (r1, r2, r3)) :
 Calls Tryd.prog 13 #[.string a0] w fun e w' => ∃ v0_ : Value, e = .returned (.tuple #[v0_, .int .i64 r2, .int .i64 r3]) ∧ Kd.R k24 24 w' w.heap.size (fun _ => True) v0_ r1 ∧ Below w.heap.size w w' := by
 have hu24 := Tryd.underlying24
 have HB := Aside0.mk (Below.refl w.heap.size w)
 have H : (if (a0.size : Int) > 65536 then (some (([] : List (S24)), 0, 3)) else (Z58.l0 k a0 ([] : List (S24)) 0)) = some (r1, r2, r3) := h
 clear h
 by_cases c2 : (a0.size : Int) > 65536
 · rw [if_pos c2] at H
   have c2b0 : decide (65536 < (a0.size : Int)) = true := decide_eq_true c2
   have c2b1 : decide (65536 < a0.size) = true := decide_eq_true (by omega)
   clear c2
   simp only [Option.some.injEq, Prod.mk.injEq] at H
   obtain ⟨rfl, rfl, rfl⟩ := H
   go_enter Tryd.func13, Tryd.ntmps13
   go_wp2
   go_ret3
   exact ⟨_, by first | rfl | (simp [Z16, Z15] <;> rfl) | (simp [*, Z16, Z15] <;> rfl), by first | exact Kd.R_nil _ _ _ _ _ | exact Kd.N_nil _ _ _ _ _ | exact Kd.V_nil _ _ _ _ _ | exact Kd.Q_nil _ _ _ _ _ | exact Kd.S_nil _ _ _ _ _, by repeat (first | (with_reducible first | exact HB.out | apply Z7 | apply Z4 | apply Z6) | exact HB.out)⟩
 · rw [if_neg c2] at H
   have c2b0 : decide (65536 < (a0.size : Int)) = false := decide_eq_false c2
   have c2b1 : decide (65536 < a0.size) = false := decide_eq_false (by omega)
   clear c2
   have H' := Aside0.mk H
   clear H
   go_enter Tryd.func13, Tryd.ntmps13
   go_wp2
   go_loopg [5, 6] k (fun kq v5 v6 w' => ∃ (x5_1 : List (S24)) (x6_1 : Int), v6 = .int .i64 x6_1 ∧ Aside0 (Z58.l0 kq a0 x5_1 x6_1 = some (r1, r2, r3)) ∧ Aside0 (kq ≤ k) ∧ Aside0 (Kd.R k24 24 w' w.heap.size (fun _ => True) v5 x5_1) ∧ Aside0 (Below w.heap.size w w'))
   case atStart => exact ⟨(([] : List (S24))), (0), (by first | rfl | (simp; done) | (simp [*]; done)), H', ⟨Nat.le_refl _⟩, ⟨by first | exact Kd.R_nil _ _ _ _ _ | exact Kd.N_nil _ _ _ _ _ | exact Kd.V_nil _ _ _ _ _ | exact Kd.Q_nil _ _ _ _ _ | exact Kd.S_nil _ _ _ _ _⟩, ⟨by repeat (first | (with_reducible first | exact HB.out | apply Z7 | apply Z4 | apply Z6) | exact HB.out)⟩⟩
   case round =>
    clear H'
    try clear c2
    try clear c2b0
    try clear c2b1
    obtain ⟨x5_1, x6_1, rfl, HA, HK1, HO_5, HB⟩ := hrel
    cases gk with
    | zero => exact absurd HA.out (by simp [Z58.l0])
    | succ k1 =>
     have H := HA.out
     clear HA
     simp only [Z58.l0] at H
     replace H := Option.bind_eq_some_iff.mp H
     obtain ⟨⟨t297, t298, t299, t300, t301, t302, t303, t304⟩, A30, H⟩ := H
     replace H : (if t304 = 0 then (if x5_1.length < 2932031007402 then ((some (x5_1 ++ [(⟨t297, t298, t299, t300, t301, t302⟩ : S24)] : List (S24))).bind fun y306 => (if t297 = 1 then (some (y306, 0, 0)) else (Z58.l0 k1 a0 y306 t302))) else (none)) else (some (([] : List (S24)), t303, t304))) = some (r1, r2, r3) := H
     have A3 := Aside0.mk A30
     clear A30
     by_cases c4 : t304 = 0
     · rw [if_pos c4] at H
       have c4b0 : (t304 == 0) = true := beq_iff_eq.mpr c4
       have c4b1 : (t304 != 0) = false := bne_eq_false_iff_eq.mpr c4
       clear c4
       by_cases c5 : x5_1.length < 2932031007402
       · rw [if_pos c5] at H
         have LMc5 := Aside0.mk c5
         clear c5
         obtain ⟨y306, hy306⟩ : ∃ y_ : List (S24), y_ = (x5_1 ++ [(⟨t297, t298, t299, t300, t301, t302⟩ : S24)]) := ⟨_, rfl⟩
         replace H : (if t297 = 1 then (some (y306, 0, 0)) else (Z58.l0 k1 a0 y306 t302)) = some (r1, r2, r3) := by first | (rw [hy306]; with_reducible exact H) | (have H2_ := (Option.bind_some _ _).symm.trans H; rw [hy306]; with_reducible exact H2_) | (have H2_ := (Option.bind_some _ _).symm.trans H; with_reducible exact H2_) | with_reducible exact H | (rw [hy306]; exact H) | exact H
         have Ny306 := Aside0.mk hy306
         clear hy306
         by_cases c6 : t297 = 1
         · rw [if_pos c6] at H
           have c6b0 : (t297 == 1) = true := beq_iff_eq.mpr c6
           have c6b1 : (t297 != 1) = false := bne_eq_false_iff_eq.mpr c6
           clear c6
           simp only [Option.some.injEq, Prod.mk.injEq] at H
           obtain ⟨rfl, rfl, rfl⟩ := H
           go_wp2_with (first | ((with_reducible refine Z14 (f := 10) rfl ?_); refine goesL_ (some 16) rfl rfl Tryd.func10 (by kernel_rfl) rfl #[.string a0, .int .i64 x6_1] rfl (by (try simp only [List.map_toArray, List.map_cons, List.map_nil]); first | done | rfl | (simp only [List.length_drop, List.length_take]; rfl)) ?_; (with_reducible refine (Z39.calls k1 a0 x6_1 t297 t298 t299 t300 t301 t302 t303 t304 _ A3.out).mono ?_); rintro e w7 ⟨rfl, hb⟩; refine ⟨_, rfl, ?_⟩; have n0_ := Aside0.mk (Kd.R_below (by (with_reducible repeat (first | apply Kd.R_alloc | apply Kd.R_drewN | apply Kd.R_drew)); exact HO_5.out) hb); have n1_ := Aside0.mk (Z25 (by repeat (first | (with_reducible first | exact HB.out | apply Z7 | apply Z4 | apply Z6) | exact HB.out)) hb); clear HO_5; clear HB; have HO_5 := n0_; have HB := n1_; clear n0_ n1_; (try clear hb); (try clear hb2); (try clear hk); (try clear hi)) | ((with_reducible refine Z52 (N := 7) rfl ?_); refine Z51 ?hg (N := 7) ?hd (cs := #[.int .i64 0, .string (⟨#[]⟩ : ByteArray), .int .u32 0, .bool false, .int .i64 0, .int .i64 0]) (t := 24) ?hr ?_; (case hd => rfl); (case hg => rfl); (case hr => first | (go_simp; done) | (go_simp; rfl)); intro gb305 hg w8 hbox hb; have n0_ := Aside0.mk (Kd.R_below (Kd.R_elderB (by (with_reducible repeat (first | apply Kd.R_alloc | apply Kd.R_drewN | apply Kd.R_drew)); exact HO_5.out) gb305 (Nat.le_of_eq hg.symm)) hb); have n1_ := Aside0.mk (Z25 (by repeat (first | (with_reducible first | exact HB.out | apply Z7 | apply Z4 | apply Z6) | exact HB.out)) hb); have n2_ := Aside0.mk (hbox); have n3_ := Aside0.mk ((by rw [hg]; exact (Z27 (by repeat (first | (with_reducible first | exact HB.out | apply Z7 | apply Z4 | apply Z6) | exact HB.out))) : w.heap.size ≤ gb305)); have n4_ := Aside0.mk ((by rw [hg]; exact (Z27 (by repeat (first | (with_reducible first | exact HB.out | apply Z7 | apply Z4 | apply Z6) | exact HB.out))) : w.heap.size ≤ gb305)); clear HO_5; clear HB; have HO_5 := n0_; have HB := n1_; have BK305 := n2_; have GW305 := n3_; have GE305 := n4_; clear n0_ n1_ n2_ n3_ n4_; clear hb hbox hg; have hcz9_0 : w8.cell? ⟨gb305, 0, none⟩ = some (.int .i64 0) := (Z5 BK305.out 0).trans rfl; have hcz9_1 : w8.cell? ⟨gb305, 1, none⟩ = some (.string (⟨#[]⟩ : ByteArray)) := (Z5 BK305.out 1).trans rfl; have hcz9_2 : w8.cell? ⟨gb305, 2, none⟩ = some (.int .u32 0) := (Z5 BK305.out 2).trans rfl; have hcz9_3 : w8.cell? ⟨gb305, 3, none⟩ = some (.bool false) := (Z5 BK305.out 3).trans rfl; have hcz9_4 : w8.cell? ⟨gb305, 4, none⟩ = some (.int .i64 0) := (Z5 BK305.out 4).trans rfl; have hcz9_5 : w8.cell? ⟨gb305, 5, none⟩ = some (.int .i64 0) := (Z5 BK305.out 5).trans rfl; have hfz9_0 := Z2 BK305.out 0; have hfz9_1 := Z2 BK305.out 1; have hfz9_2 := Z2 BK305.out 2; have hfz9_3 := Z2 BK305.out 3; have hfz9_4 := Z2 BK305.out 4; have hfz9_5 := Z2 BK305.out 5) | ((with_reducible refine Z69 (b := .append) (xs := #[.tmp 24, .tmp 26]) rfl ?_); at_builtin; refine Kd.R_append k24 (w0 := w) w.heap.size rfl (.tmp 24) (.tmp 26) 30 24 (.agg #[(.int .i64 0), (.string ⟨#[]⟩), (.int .u32 0), (.bool false), (.int .i64 0), (.int .i64 0)]) 48 rfl Tryd.underlying30 info24 rfl (by decide) (by omega) u5 x5_1 (⟨t297, t298, t299, t300, t301, t302⟩ : S24) [.int .i64 t297, .string t298, .int .u32 t299, .bool t300, .int .i64 t301, .int .i64 t302] (fun k_ => k_ ≠ gb305) (fun _ => False) rfl (by first | (go_simp; done) | (go_simp; rfl)) ?aP (fun _ hk => hk.elim) ?aF ?aO ?aB ?aS ?aL ?_; (case aP => exact k24_mkM _ _ _ (⟨t297, t298, t299, t300, t301, t302⟩ : S24)); (case aB => exact (by repeat (first | (with_reducible first | exact HB.out | apply Z7 | apply Z4 | apply Z6 | refine Z8 ?_ GE305.out) | exact HB.out))); (case aF => exact (fun k_ hk => Kd.freshB (g := gb305) (o := .cells #[.int .i64 t297, .string t298, .int .u32 t299, .bool t300, .int .i64 t301, .int .i64 t302] 24 (0, 0)) (by (with_reducible repeat (first | refine Z0 ?_ _ | refine Z3 ?_ | refine Z1 ?_ _)); refine Z9 (cs := #[.int .i64 t297, .string t298, .int .u32 t299, .bool t300, .int .i64 t301, .int .i64 0]) ?_ 5 _ rfl; (with_reducible repeat (first | refine Z0 ?_ _ | refine Z3 ?_ | refine Z1 ?_ _)); refine Z9 (cs := #[.int .i64 t297, .string t298, .int .u32 t299, .bool t300, .int .i64 0, .int .i64 0]) ?_ 4 _ rfl; (with_reducible repeat (first | refine Z0 ?_ _ | refine Z3 ?_ | refine Z1 ?_ _)); refine Z9 (cs := #[.int .i64 t297, .string t298, .int .u32 t299, .bool false, .int .i64 0, .int .i64 0]) ?_ 3 _ rfl; (with_reducible repeat (first | refine Z0 ?_ _ | refine Z3 ?_ | refine Z1 ?_ _)); refine Z9 (cs := #[.int .i64 t297, .string t298, .int .u32 0, .bool false, .int .i64 0, .int .i64 0]) ?_ 2 _ rfl; (with_reducible repeat (first | refine Z0 ?_ _ | refine Z3 ?_ | refine Z1 ?_ _)); refine Z9 (cs := #[.int .i64 t297, .string (⟨#[]⟩ : ByteArray), .int .u32 0, .bool false, .int .i64 0, .int .i64 0]) ?_ 1 _ rfl; (with_reducible repeat (first | refine Z0 ?_ _ | refine Z3 ?_ | refine Z1 ?_ _)); refine Z9 (cs := #[.int .i64 0, .string (⟨#[]⟩ : ByteArray), .int .u32 0, .bool false, .int .i64 0, .int .i64 0]) ?_ 0 _ rfl; (with_reducible repeat (first | refine Z0 ?_ _ | refine Z3 ?_ | refine Z1 ?_ _)); exact BK305.out) k_ hk)); (case aO => exact (by (with_reducible repeat (first | apply Kd.R_alloc | apply Kd.R_drewN | apply Kd.R_drew)); exact Kd.R_mono (Kd.R_far (p := ⟨gb305, 5, none⟩) (Kd.R_far (p := ⟨gb305, 4, none⟩) (Kd.R_far (p := ⟨gb305, 3, none⟩) (Kd.R_far (p := ⟨gb305, 2, none⟩) (Kd.R_far (p := ⟨gb305, 1, none⟩) (Kd.R_far (p := ⟨gb305, 0, none⟩) (Kd.R_mono HO_5.out (fun k_ hk => (⟨hk, hk.2⟩ : _ ∧ k_ ≠ gb305))) (fun _ hk => hk.2) (.int .i64 t297)) (fun _ hk => hk.2) (.string t298)) (fun _ hk => hk.2) (.int .u32 t299)) (fun _ hk => hk.2) (.bool t300)) (fun _ hk => hk.2) (.int .i64 t301)) (fun _ hk => hk.2) (.int .i64 t302)) (fun _ hk => hk.1.2))); (case aS => exact (Z27 (by repeat (first | (with_reducible first | exact HB.out | apply Z7 | apply Z4 | apply Z6 | refine Z8 ?_ GE305.out) | exact HB.out)))); (case aL => have := LMc5.out; omega); intro v307 w10 ho hb hg hat; rw [← Ny306.out] at ho; have n0_ := Aside0.mk (Z89 (g := gb305) (o := .cells #[.int .i64 t297, .string t298, .int .u32 t299, .bool t300, .int .i64 t301, .int .i64 t302] 24 (0, 0)) (by (with_reducible repeat (first | refine Z0 ?_ _ | refine Z3 ?_ | refine Z1 ?_ _)); refine Z9 (cs := #[.int .i64 t297, .string t298, .int .u32 t299, .bool t300, .int .i64 t301, .int .i64 0]) ?_ 5 _ rfl; (with_reducible repeat (first | refine Z0 ?_ _ | refine Z3 ?_ | refine Z1 ?_ _)); refine Z9 (cs := #[.int .i64 t297, .string t298, .int .u32 t299, .bool t300, .int .i64 0, .int .i64 0]) ?_ 4 _ rfl; (with_reducible repeat (first | refine Z0 ?_ _ | refine Z3 ?_ | refine Z1 ?_ _)); refine Z9 (cs := #[.int .i64 t297, .string t298, .int .u32 t299, .bool false, .int .i64 0, .int .i64 0]) ?_ 3 _ rfl; (with_reducible repeat (first | refine Z0 ?_ _ | refine Z3 ?_ | refine Z1 ?_ _)); refine Z9 (cs := #[.int .i64 t297, .string t298, .int .u32 0, .bool false, .int .i64 0, .int .i64 0]) ?_ 2 _ rfl; (with_reducible repeat (first | refine Z0 ?_ _ | refine Z3 ?_ | refine Z1 ?_ _)); refine Z9 (cs := #[.int .i64 t297, .string (⟨#[]⟩ : ByteArray), .int .u32 0, .bool false, .int .i64 0, .int .i64 0]) ?_ 1 _ rfl; (with_reducible repeat (first | refine Z0 ?_ _ | refine Z3 ?_ | refine Z1 ?_ _)); refine Z9 (cs := #[.int .i64 0, .string (⟨#[]⟩ : ByteArray), .int .u32 0, .bool false, .int .i64 0, .int .i64 0]) ?_ 0 _ rfl; (with_reducible repeat (first | refine Z0 ?_ _ | refine Z3 ?_ | refine Z1 ?_ _)); exact BK305.out) hg (Kd.R_away HO_5.out (fun _ hk => hk.2))); have n1_ := Aside0.mk (hb); have n2_ := Aside0.mk (ho); clear BK305; clear HB; clear HO_5; have BK305 := n0_; have HB := n1_; have HO308 := n2_; clear n0_ n1_ n2_; clear ho hb hg hat; have hcz11_0 : w10.cell? ⟨gb305, 0, none⟩ = some (.int .i64 t297) := (Z5 BK305.out 0).trans rfl; have hcz11_1 : w10.cell? ⟨gb305, 1, none⟩ = some (.string t298) := (Z5 BK305.out 1).trans rfl; have hcz11_2 : w10.cell? ⟨gb305, 2, none⟩ = some (.int .u32 t299) := (Z5 BK305.out 2).trans rfl; have hcz11_3 : w10.cell? ⟨gb305, 3, none⟩ = some (.bool t300) := (Z5 BK305.out 3).trans rfl; have hcz11_4 : w10.cell? ⟨gb305, 4, none⟩ = some (.int .i64 t301) := (Z5 BK305.out 4).trans rfl; have hcz11_5 : w10.cell? ⟨gb305, 5, none⟩ = some (.int .i64 t302) := (Z5 BK305.out 5).trans rfl; have hfz11_0 := Z2 BK305.out 0; have hfz11_1 := Z2 BK305.out 1; have hfz11_2 := Z2 BK305.out 2; have hfz11_3 := Z2 BK305.out 3; have hfz11_4 := Z2 BK305.out 4; have hfz11_5 := Z2 BK305.out 5))
           go_ret3
           exact ⟨_, by first | rfl | (simp [Z16, Z15] <;> rfl) | (simp [*, Z16, Z15] <;> rfl), by (with_reducible repeat (first | apply Kd.R_alloc | apply Kd.R_drewN | apply Kd.R_drew)); exact Kd.R_mono HO308.out (fun _ hk => trivial), by repeat (first | (with_reducible first | exact HB.out | apply Z7 | apply Z4 | apply Z6 | refine Z8 ?_ GE305.out) | exact HB.out)⟩
         · rw [if_neg c6] at H
           have c6b0 : (t297 == 1) = false := beq_eq_false_iff_ne.mpr c6
           have c6b1 : (t297 != 1) = true := bne_iff_ne.mpr c6
           have H' := Aside0.mk H
           clear H
           go_wp2_with (first | ((with_reducible refine Z14 (f := 10) rfl ?_); refine goesL_ (some 16) rfl rfl Tryd.func10 (by kernel_rfl) rfl #[.string a0, .int .i64 x6_1] rfl (by (try simp only [List.map_toArray, List.map_cons, List.map_nil]); first | done | rfl | (simp only [List.length_drop, List.length_take]; rfl)) ?_; (with_reducible refine (Z39.calls k1 a0 x6_1 t297 t298 t299 t300 t301 t302 t303 t304 _ A3.out).mono ?_); rintro e w12 ⟨rfl, hb⟩; refine ⟨_, rfl, ?_⟩; have n0_ := Aside0.mk (Kd.R_below (by (with_reducible repeat (first | apply Kd.R_alloc | apply Kd.R_drewN | apply Kd.R_drew)); exact HO_5.out) hb); have n1_ := Aside0.mk (Z25 (by repeat (first | (with_reducible first | exact HB.out | apply Z7 | apply Z4 | apply Z6) | exact HB.out)) hb); clear HO_5; clear HB; have HO_5 := n0_; have HB := n1_; clear n0_ n1_; (try clear hb); (try clear hb2); (try clear hk); (try clear hi)) | ((with_reducible refine Z52 (N := 7) rfl ?_); refine Z51 ?hg (N := 7) ?hd (cs := #[.int .i64 0, .string (⟨#[]⟩ : ByteArray), .int .u32 0, .bool false, .int .i64 0, .int .i64 0]) (t := 24) ?hr ?_; (case hd => rfl); (case hg => rfl); (case hr => first | (go_simp; done) | (go_simp; rfl)); intro gb305 hg w13 hbox hb; have n0_ := Aside0.mk (Kd.R_below (Kd.R_elderB (by (with_reducible repeat (first | apply Kd.R_alloc | apply Kd.R_drewN | apply Kd.R_drew)); exact HO_5.out) gb305 (Nat.le_of_eq hg.symm)) hb); have n1_ := Aside0.mk (Z25 (by repeat (first | (with_reducible first | exact HB.out | apply Z7 | apply Z4 | apply Z6) | exact HB.out)) hb); have n2_ := Aside0.mk (hbox); have n3_ := Aside0.mk ((by rw [hg]; exact (Z27 (by repeat (first | (with_reducible first | exact HB.out | apply Z7 | apply Z4 | apply Z6) | exact HB.out))) : w.heap.size ≤ gb305)); have n4_ := Aside0.mk ((by rw [hg]; exact (Z27 (by repeat (first | (with_reducible first | exact HB.out | apply Z7 | apply Z4 | apply Z6) | exact HB.out))) : w.heap.size ≤ gb305)); clear HO_5; clear HB; have HO_5 := n0_; have HB := n1_; have BK305 := n2_; have GW305 := n3_; have GE305 := n4_; clear n0_ n1_ n2_ n3_ n4_; clear hb hbox hg; have hcz14_0 : w13.cell? ⟨gb305, 0, none⟩ = some (.int .i64 0) := (Z5 BK305.out 0).trans rfl; have hcz14_1 : w13.cell? ⟨gb305, 1, none⟩ = some (.string (⟨#[]⟩ : ByteArray)) := (Z5 BK305.out 1).trans rfl; have hcz14_2 : w13.cell? ⟨gb305, 2, none⟩ = some (.int .u32 0) := (Z5 BK305.out 2).trans rfl; have hcz14_3 : w13.cell? ⟨gb305, 3, none⟩ = some (.bool false) := (Z5 BK305.out 3).trans rfl; have hcz14_4 : w13.cell? ⟨gb305, 4, none⟩ = some (.int .i64 0) := (Z5 BK305.out 4).trans rfl; have hcz14_5 : w13.cell? ⟨gb305, 5, none⟩ = some (.int .i64 0) := (Z5 BK305.out 5).trans rfl; have hfz14_0 := Z2 BK305.out 0; have hfz14_1 := Z2 BK305.out 1; have hfz14_2 := Z2 BK305.out 2; have hfz14_3 := Z2 BK305.out 3; have hfz14_4 := Z2 BK305.out 4; have hfz14_5 := Z2 BK305.out 5) | ((with_reducible refine Z69 (b := .append) (xs := #[.tmp 24, .tmp 26]) rfl ?_); at_builtin; refine Kd.R_append k24 (w0 := w) w.heap.size rfl (.tmp 24) (.tmp 26) 30 24 (.agg #[(.int .i64 0), (.string ⟨#[]⟩), (.int .u32 0), (.bool false), (.int .i64 0), (.int .i64 0)]) 48 rfl Tryd.underlying30 info24 rfl (by decide) (by omega) u5 x5_1 (⟨t297, t298, t299, t300, t301, t302⟩ : S24) [.int .i64 t297, .string t298, .int .u32 t299, .bool t300, .int .i64 t301, .int .i64 t302] (fun k_ => k_ ≠ gb305) (fun _ => False) rfl (by first | (go_simp; done) | (go_simp; rfl)) ?aP (fun _ hk => hk.elim) ?aF ?aO ?aB ?aS ?aL ?_; (case aP => exact k24_mkM _ _ _ (⟨t297, t298, t299, t300, t301, t302⟩ : S24)); (case aB => exact (by repeat (first | (with_reducible first | exact HB.out | apply Z7 | apply Z4 | apply Z6 | refine Z8 ?_ GE305.out) | exact HB.out))); (case aF => exact (fun k_ hk => Kd.freshB (g := gb305) (o := .cells #[.int .i64 t297, .string t298, .int .u32 t299, .bool t300, .int .i64 t301, .int .i64 t302] 24 (0, 0)) (by (with_reducible repeat (first | refine Z0 ?_ _ | refine Z3 ?_ | refine Z1 ?_ _)); refine Z9 (cs := #[.int .i64 t297, .string t298, .int .u32 t299, .bool t300, .int .i64 t301, .int .i64 0]) ?_ 5 _ rfl; (with_reducible repeat (first | refine Z0 ?_ _ | refine Z3 ?_ | refine Z1 ?_ _)); refine Z9 (cs := #[.int .i64 t297, .string t298, .int .u32 t299, .bool t300, .int .i64 0, .int .i64 0]) ?_ 4 _ rfl; (with_reducible repeat (first | refine Z0 ?_ _ | refine Z3 ?_ | refine Z1 ?_ _)); refine Z9 (cs := #[.int .i64 t297, .string t298, .int .u32 t299, .bool false, .int .i64 0, .int .i64 0]) ?_ 3 _ rfl; (with_reducible repeat (first | refine Z0 ?_ _ | refine Z3 ?_ | refine Z1 ?_ _)); refine Z9 (cs := #[.int .i64 t297, .string t298, .int .u32 0, .bool false, .int .i64 0, .int .i64 0]) ?_ 2 _ rfl; (with_reducible repeat (first | refine Z0 ?_ _ | refine Z3 ?_ | refine Z1 ?_ _)); refine Z9 (cs := #[.int .i64 t297, .string (⟨#[]⟩ : ByteArray), .int .u32 0, .bool false, .int .i64 0, .int .i64 0]) ?_ 1 _ rfl; (with_reducible repeat (first | refine Z0 ?_ _ | refine Z3 ?_ | refine Z1 ?_ _)); refine Z9 (cs := #[.int .i64 0, .string (⟨#[]⟩ : ByteArray), .int .u32 0, .bool false, .int .i64 0, .int .i64 0]) ?_ 0 _ rfl; (with_reducible repeat (first | refine Z0 ?_ _ | refine Z3 ?_ | refine Z1 ?_ _)); exact BK305.out) k_ hk)); (case aO => exact (by (with_reducible repeat (first | apply Kd.R_alloc | apply Kd.R_drewN | apply Kd.R_drew)); exact Kd.R_mono (Kd.R_far (p := ⟨gb305, 5, none⟩) (Kd.R_far (p := ⟨gb305, 4, none⟩) (Kd.R_far (p := ⟨gb305, 3, none⟩) (Kd.R_far (p := ⟨gb305, 2, none⟩) (Kd.R_far (p := ⟨gb305, 1, none⟩) (Kd.R_far (p := ⟨gb305, 0, none⟩) (Kd.R_mono HO_5.out (fun k_ hk => (⟨hk, hk.2⟩ : _ ∧ k_ ≠ gb305))) (fun _ hk => hk.2) (.int .i64 t297)) (fun _ hk => hk.2) (.string t298)) (fun _ hk => hk.2) (.int .u32 t299)) (fun _ hk => hk.2) (.bool t300)) (fun _ hk => hk.2) (.int .i64 t301)) (fun _ hk => hk.2) (.int .i64 t302)) (fun _ hk => hk.1.2))); (case aS => exact (Z27 (by repeat (first | (with_reducible first | exact HB.out | apply Z7 | apply Z4 | apply Z6 | refine Z8 ?_ GE305.out) | exact HB.out)))); (case aL => have := LMc5.out; omega); intro v307 w15 ho hb hg hat; rw [← Ny306.out] at ho; have n0_ := Aside0.mk (Z89 (g := gb305) (o := .cells #[.int .i64 t297, .string t298, .int .u32 t299, .bool t300, .int .i64 t301, .int .i64 t302] 24 (0, 0)) (by (with_reducible repeat (first | refine Z0 ?_ _ | refine Z3 ?_ | refine Z1 ?_ _)); refine Z9 (cs := #[.int .i64 t297, .string t298, .int .u32 t299, .bool t300, .int .i64 t301, .int .i64 0]) ?_ 5 _ rfl; (with_reducible repeat (first | refine Z0 ?_ _ | refine Z3 ?_ | refine Z1 ?_ _)); refine Z9 (cs := #[.int .i64 t297, .string t298, .int .u32 t299, .bool t300, .int .i64 0, .int .i64 0]) ?_ 4 _ rfl; (with_reducible repeat (first | refine Z0 ?_ _ | refine Z3 ?_ | refine Z1 ?_ _)); refine Z9 (cs := #[.int .i64 t297, .string t298, .int .u32 t299, .bool false, .int .i64 0, .int .i64 0]) ?_ 3 _ rfl; (with_reducible repeat (first | refine Z0 ?_ _ | refine Z3 ?_ | refine Z1 ?_ _)); refine Z9 (cs := #[.int .i64 t297, .string t298, .int .u32 0, .bool false, .int .i64 0, .int .i64 0]) ?_ 2 _ rfl; (with_reducible repeat (first | refine Z0 ?_ _ | refine Z3 ?_ | refine Z1 ?_ _)); refine Z9 (cs := #[.int .i64 t297, .string (⟨#[]⟩ : ByteArray), .int .u32 0, .bool false, .int .i64 0, .int .i64 0]) ?_ 1 _ rfl; (with_reducible repeat (first | refine Z0 ?_ _ | refine Z3 ?_ | refine Z1 ?_ _)); refine Z9 (cs := #[.int .i64 0, .string (⟨#[]⟩ : ByteArray), .int .u32 0, .bool false, .int .i64 0, .int .i64 0]) ?_ 0 _ rfl; (with_reducible repeat (first | refine Z0 ?_ _ | refine Z3 ?_ | refine Z1 ?_ _)); exact BK305.out) hg (Kd.R_away HO_5.out (fun _ hk => hk.2))); have n1_ := Aside0.mk (hb); have n2_ := Aside0.mk (ho); clear BK305; clear HB; clear HO_5; have BK305 := n0_; have HB := n1_; have HO308 := n2_; clear n0_ n1_ n2_; clear ho hb hg hat; have hcz16_0 : w15.cell? ⟨gb305, 0, none⟩ = some (.int .i64 t297) := (Z5 BK305.out 0).trans rfl; have hcz16_1 : w15.cell? ⟨gb305, 1, none⟩ = some (.string t298) := (Z5 BK305.out 1).trans rfl; have hcz16_2 : w15.cell? ⟨gb305, 2, none⟩ = some (.int .u32 t299) := (Z5 BK305.out 2).trans rfl; have hcz16_3 : w15.cell? ⟨gb305, 3, none⟩ = some (.bool t300) := (Z5 BK305.out 3).trans rfl; have hcz16_4 : w15.cell? ⟨gb305, 4, none⟩ = some (.int .i64 t301) := (Z5 BK305.out 4).trans rfl; have hcz16_5 : w15.cell? ⟨gb305, 5, none⟩ = some (.int .i64 t302) := (Z5 BK305.out 5).trans rfl; have hfz16_0 := Z2 BK305.out 0; have hfz16_1 := Z2 BK305.out 1; have hfz16_2 := Z2 BK305.out 2; have hfz16_3 := Z2 BK305.out 3; have hfz16_4 := Z2 BK305.out 4; have hfz16_5 := Z2 BK305.out 5))
           go_roundg k1
           case measure => have := HK1.out; omega
           case rel => exact ⟨(y306), (t302), (by first | rfl | (simp; done) | (simp [*]; done)), H', ⟨by have := HK1.out; omega⟩, ⟨by (with_reducible repeat (first | apply Kd.R_alloc | apply Kd.R_drewN | apply Kd.R_drew)); exact Kd.R_mono HO308.out (fun _ hk => trivial)⟩, ⟨by repeat (first | (with_reducible first | exact HB.out | apply Z7 | apply Z4 | apply Z6 | refine Z8 ?_ GE305.out) | exact HB.out)⟩⟩
       · rw [if_neg c5] at H
         exact absurd H (by simp)
     · rw [if_neg c4] at H
       have c4b0 : (t304 == 0) = false := beq_eq_false_iff_ne.mpr c4
       have c4b1 : (t304 != 0) = true := bne_iff_ne.mpr c4
       simp only [Option.some.injEq, Prod.mk.injEq] at H
       obtain ⟨rfl, rfl, rfl⟩ := H
       go_wp2_with (first | ((with_reducible refine Z14 (f := 10) rfl ?_); refine goesL_ (some 16) rfl rfl Tryd.func10 (by kernel_rfl) rfl #[.string a0, .int .i64 x6_1] rfl (by (try simp only [List.map_toArray, List.map_cons, List.map_nil]); first | done | rfl | (simp only [List.length_drop, List.length_take]; rfl)) ?_; (with_reducible refine (Z39.calls k1 a0 x6_1 t297 t298 t299 t300 t301 t302 t303 t304 _ A3.out).mono ?_); rintro e w17 ⟨rfl, hb⟩; refine ⟨_, rfl, ?_⟩; have n0_ := Aside0.mk (Kd.R_below (by (with_reducible repeat (first | apply Kd.R_alloc | apply Kd.R_drewN | apply Kd.R_drew)); exact HO_5.out) hb); have n1_ := Aside0.mk (Z25 (by repeat (first | (with_reducible first | exact HB.out | apply Z7 | apply Z4 | apply Z6) | exact HB.out)) hb); clear HO_5; clear HB; have HO_5 := n0_; have HB := n1_; clear n0_ n1_; (try clear hb); (try clear hb2); (try clear hk); (try clear hi)) | ((with_reducible refine Z52 (N := 7) rfl ?_); refine Z51 ?hg (N := 7) ?hd (cs := #[.int .i64 0, .string (⟨#[]⟩ : ByteArray), .int .u32 0, .bool false, .int .i64 0, .int .i64 0]) (t := 24) ?hr ?_; (case hd => rfl); (case hg => rfl); (case hr => first | (go_simp; done) | (go_simp; rfl)); intro gb305 hg w18 hbox hb; have n0_ := Aside0.mk (Kd.R_below (Kd.R_elderB (by (with_reducible repeat (first | apply Kd.R_alloc | apply Kd.R_drewN | apply Kd.R_drew)); exact HO_5.out) gb305 (Nat.le_of_eq hg.symm)) hb); have n1_ := Aside0.mk (Z25 (by repeat (first | (with_reducible first | exact HB.out | apply Z7 | apply Z4 | apply Z6) | exact HB.out)) hb); have n2_ := Aside0.mk (hbox); have n3_ := Aside0.mk ((by rw [hg]; exact (Z27 (by repeat (first | (with_reducible first | exact HB.out | apply Z7 | apply Z4 | apply Z6) | exact HB.out))) : w.heap.size ≤ gb305)); have n4_ := Aside0.mk ((by rw [hg]; exact (Z27 (by repeat (first | (with_reducible first | exact HB.out | apply Z7 | apply Z4 | apply Z6) | exact HB.out))) : w.heap.size ≤ gb305)); clear HO_5; clear HB; have HO_5 := n0_; have HB := n1_; have BK305 := n2_; have GW305 := n3_; have GE305 := n4_; clear n0_ n1_ n2_ n3_ n4_; clear hb hbox hg; have hcz19_0 : w18.cell? ⟨gb305, 0, none⟩ = some (.int .i64 0) := (Z5 BK305.out 0).trans rfl; have hcz19_1 : w18.cell? ⟨gb305, 1, none⟩ = some (.string (⟨#[]⟩ : ByteArray)) := (Z5 BK305.out 1).trans rfl; have hcz19_2 : w18.cell? ⟨gb305, 2, none⟩ = some (.int .u32 0) := (Z5 BK305.out 2).trans rfl; have hcz19_3 : w18.cell? ⟨gb305, 3, none⟩ = some (.bool false) := (Z5 BK305.out 3).trans rfl; have hcz19_4 : w18.cell? ⟨gb305, 4, none⟩ = some (.int .i64 0) := (Z5 BK305.out 4).trans rfl; have hcz19_5 : w18.cell? ⟨gb305, 5, none⟩ = some (.int .i64 0) := (Z5 BK305.out 5).trans rfl; have hfz19_0 := Z2 BK305.out 0; have hfz19_1 := Z2 BK305.out 1; have hfz19_2 := Z2 BK305.out 2; have hfz19_3 := Z2 BK305.out 3; have hfz19_4 := Z2 BK305.out 4; have hfz19_5 := Z2 BK305.out 5))
       go_ret3
       exact ⟨_, by first | rfl | (simp [Z16, Z15] <;> rfl) | (simp [*, Z16, Z15] <;> rfl), by first | exact Kd.R_nil _ _ _ _ _ | exact Kd.N_nil _ _ _ _ _ | exact Kd.V_nil _ _ _ _ _ | exact Kd.Q_nil _ _ _ _ _ | exact Kd.S_nil _ _ _ _ _, by repeat (first | (with_reducible first | exact HB.out | apply Z7 | apply Z4 | apply Z6 | refine Z8 ?_ GE305.out) | exact HB.out)⟩
end Go.Proofs.YtbmfadmoficfiaaDoor.Q
namespace Go.Proofs.YtbmfadmoficfiaaDoor.Q
open Go.RowKit Go.Proofs.YtbmfadmoficfiaaDoorW.PrintWords Go.Proofs.YtbmfadmoficfiaaDoorW.PrintLast Go.Proofs.YtbmfadmoficfiaaDoorW.PrintMore
attribute [local go_sem] Z56 Z54 Z61 Z60 Z49 Z48 Z55 Z53
set_option linter.unusedVariables false
set_option linter.unusedSimpArgs false
theorem eqA24 (d : Nat) (w : World) (x0 y0 : Int) (x1 y1 : ByteArray) (x2 y2 : Int) (x3 y3 : Bool) (x4 y4 : Int) (x5 y5 : Int) :
 (Op.equalIn (d + 2) 24 (.agg #[.int .i64 x0, .string x1, .int .u32 x2, .bool x3, .int .i64 x4, .int .i64 x5]) (.agg #[.int .i64 y0, .string y1, .int .u32 y2, .bool y3, .int .i64 y4, .int .i64 y5])).run Tryd.prog w = .ok (x0 == y0 && (x1.toList == y1.toList && (x2 == y2 && (x3 == y3 && (x4 == y4 && (x5 == y5)))))) w := by
 refine eqA_of Tryd.underlying24 (by kernel_rfl) ?_
 refine eqf_cons (by rfl) (by go_simp; rfl) (by go_simp; rfl) (by go_simp) ?_
 refine eqf_cons (by rfl) (by go_simp; rfl) (by go_simp; rfl) (by go_simp) ?_
 refine eqf_cons (by rfl) (by go_simp; rfl) (by go_simp; rfl) (by go_simp) ?_
 refine eqf_cons (by rfl) (by go_simp; rfl) (by go_simp; rfl) (by go_simp) ?_
 refine eqf_cons (by rfl) (by go_simp; rfl) (by go_simp; rfl) (by go_simp) ?_
 exact eqf_last (by rfl) (by go_simp; rfl) (by go_simp; rfl) (by go_simp)
end Go.Proofs.YtbmfadmoficfiaaDoor.Q
namespace Go.Proofs.YtbmfadmoficfiaaDoor.Q
open Go.RowKit Go.Proofs.YtbmfadmoficfiaaDoorW.PrintWords Go.Proofs.YtbmfadmoficfiaaDoorW.PrintLast Go.Proofs.YtbmfadmoficfiaaDoorW.PrintMore
attribute [local go_sem] Z56 Z54 Z61 Z60 Z49 Z48 Z55 Z53
set_option linter.unusedVariables false
set_option linter.unusedSimpArgs false
attribute [local go_sem high] eqA24
def Z50.l0 : Nat → List (S24) → List (S24) → Int → Option (Bool)
 | 0, _, _, _ => none
 | k + 1, x0, x1, x5 => if x5 < (x0.length : Int) then (if 0 ≤ x5 then (if x5 < (x1.length : Int) then (if (!(((rd_T24 x0 x5).f0) == ((rd_T24 x1 x5).f0)) || (!((((rd_T24 x0 x5).f1).toList) == (((rd_T24 x1 x5).f1).toList)) || (!(((rd_T24 x0 x5).f2) == ((rd_T24 x1 x5).f2)) || (!(((rd_T24 x0 x5).f3) == ((rd_T24 x1 x5).f3)) || (!(((rd_T24 x0 x5).f4) == ((rd_T24 x1 x5).f4)) || (!(((rd_T24 x0 x5).f5) == ((rd_T24 x1 x5).f5)))))))) = true then (some false) else (Z50.l0 k x0 x1 (wrap64 (x5 + 1)))) else (none)) else (none)) else (some true)
def Z50.f (k : Nat) (l0 : List (S24)) (l1 : List (S24)) : Option (Bool) := if (l0.length : Int) = (l1.length : Int) then (Z50.l0 k l0 l1 0) else (some false)
theorem Z50.mono_l : ∀ k, (∀ y0 y1 y2, LeO (Z50.l0 k y0 y1 y2) (Z50.l0 (k + 1) y0 y1 y2))
 | 0 => fun _ _ _ r h => by simp [Z50.l0] at h
 | k + 1 => by
  have ih0 := Z50.mono_l k
  · intro y0 y1 y2
    unfold Z50.l0
    repeat' first
    | (with_reducible exact ih0 _ _ _)
    | (with_reducible exact LeO.refl _)
    | (with_reducible exact LeO.none _)
    | (with_reducible refine LeO.ite ?_ ?_)
    | (with_reducible refine LeO.bind ?_ (fun _ => ?_))
    | exact ih0 _ _ _
    | exact LeO.none _
    | refine LeO.ite ?_ ?_
    | refine LeO.bind ?_ (fun _ => ?_)
theorem Z50.mono : ∀ a0 a1 k, LeO (Z50.f k a0 a1) (Z50.f (k + 1) a0 a1) := by
 intro a0 a1 k
 have ih0 := Z50.mono_l k
 unfold Z50.f
 repeat' first
  | (with_reducible exact ih0 _ _ _)
  | (with_reducible exact LeO.refl _)
  | (with_reducible exact LeO.none _)
  | (with_reducible refine LeO.ite ?_ ?_)
  | (with_reducible refine LeO.bind ?_ (fun _ => ?_))
  | exact ih0 _ _ _
  | exact LeO.none _
  | refine LeO.ite ?_ ?_
  | refine LeO.bind ?_ (fun _ => ?_)
set_option maxHeartbeats 8000000 in
set_option maxRecDepth 100000 in
theorem Z50.calls (k : Nat) (A0 : Option Addr) (c0 : Nat) (l0 : List (S24)) (A1 : Option Addr) (c1 : Nat) (l1 : List (S24)) (r : Bool) (w : World) (hr0 : Kd.C k24 w A0 l0.length l0) (hc0 : l0.length ≤ c0) (hr1 : Kd.C k24 w A1 l1.length l1) (hc1 : l1.length ≤ c1) (h : Z50.f k l0 l1 = some r) :
 Calls Tryd.prog 14 #[.slice A0 l0.length c0, .slice A1 l1.length c1] w fun e w' => e = .returned (.bool r) ∧ Drawn0 w w' := by
 have hu24 := Tryd.underlying24
 have HR0 := Aside0.mk hr0
 have HC0 := Aside0.mk hc0
 clear hr0 hc0
 have HR1 := Aside0.mk hr1
 have HC1 := Aside0.mk hc1
 clear hr1 hc1
 have H : (if (l0.length : Int) = (l1.length : Int) then (Z50.l0 k l0 l1 0) else (some false)) = some r := h
 clear h
 by_cases c3 : (l0.length : Int) = (l1.length : Int)
 · rw [if_pos c3] at H
   have c3b0 : ((l0.length : Int) == (l1.length : Int)) = true := beq_iff_eq.mpr c3
   have c3b1 : ((l0.length : Int) != (l1.length : Int)) = false := bne_eq_false_iff_eq.mpr c3
   have c3b2 : (l0.length == l1.length) = true := by first | simpa using c3 | (simp at c3 ⊢; omega)
   clear c3
   have H' := Aside0.mk H
   clear H
   go_enter Tryd.func14, Tryd.ntmps14
   go_wp2
   repeat (go_quiet (fail); try go_wp2)
   go_loopg [5] k (fun kq v5 w' => ∃ (x5_1 : Int), v5 = .int .i64 x5_1 ∧ Aside0 (Z50.l0 kq l0 l1 x5_1 = some r) ∧ Aside0 (kq ≤ k) ∧ Drawn0 w w')
   case atStart => exact ⟨(0), (by first | rfl | (simp; done) | (simp [*]; done)), H', ⟨Nat.le_refl _⟩, by repeat (first | exact Drawn0.refl _ | apply Drawn0.step)⟩
   case round =>
    clear H'
    try clear c1
    try clear c3
    try clear c3b0
    try clear c3b1
    try clear c3b2
    obtain ⟨x5_1, rfl, HA, HK1, ⟨m1, rfl⟩⟩ := hrel
    cases gk with
    | zero => exact absurd HA.out (by simp [Z50.l0])
    | succ k1 =>
     have H := HA.out
     clear HA
     simp only [Z50.l0] at H
     by_cases c4 : x5_1 < (l0.length : Int)
     · rw [if_pos c4] at H
       have c4b0 : decide (x5_1 < (l0.length : Int)) = true := decide_eq_true c4
       clear c4
       by_cases c5 : 0 ≤ x5_1
       · rw [if_pos c5] at H
         have c5b0 : decide (0 ≤ x5_1) = true := decide_eq_true c5
         clear c5
         by_cases c6 : x5_1 < (l1.length : Int)
         · rw [if_pos c6] at H
           have c6b0 : decide (x5_1 < (l1.length : Int)) = true := decide_eq_true c6
           clear c6
           by_cases c7 : (!(((rd_T24 l0 x5_1).f0) == ((rd_T24 l1 x5_1).f0)) || (!((((rd_T24 l0 x5_1).f1).toList) == (((rd_T24 l1 x5_1).f1).toList)) || (!(((rd_T24 l0 x5_1).f2) == ((rd_T24 l1 x5_1).f2)) || (!(((rd_T24 l0 x5_1).f3) == ((rd_T24 l1 x5_1).f3)) || (!(((rd_T24 l0 x5_1).f4) == ((rd_T24 l1 x5_1).f4)) || (!(((rd_T24 l0 x5_1).f5) == ((rd_T24 l1 x5_1).f5)))))))) = true
           · rw [if_pos c7] at H
             have c7b0 : (!(((rd_T24 l0 x5_1).f0) == ((rd_T24 l1 x5_1).f0)) || (!((((rd_T24 l0 x5_1).f1).toList) == (((rd_T24 l1 x5_1).f1).toList)) || (!(((rd_T24 l0 x5_1).f2) == ((rd_T24 l1 x5_1).f2)) || (!(((rd_T24 l0 x5_1).f3) == ((rd_T24 l1 x5_1).f3)) || (!(((rd_T24 l0 x5_1).f4) == ((rd_T24 l1 x5_1).f4)) || (!(((rd_T24 l0 x5_1).f5) == ((rd_T24 l1 x5_1).f5)))))))) = true := c7
             clear c7
             obtain rfl := Option.some.inj H
             have p309 : 0 ≤ (x5_1 : Int) := of_decide_eq_true (by first | (with_reducible assumption) | assumption)
             have q309 : x5_1 < (l0.length : Int) := of_decide_eq_true (by first | (with_reducible assumption) | assumption)
             obtain ⟨ad309, e309, hx309_0, hx309_1, hx309_2, hx309_3, hx309_4, hx309_5⟩ := at_T24 HR0.out x5_1 p309 q309
             cases e309
             replace p309 := eq_true p309
             replace q309 := eq_true q309
             have p310 : 0 ≤ (x5_1 : Int) := of_decide_eq_true (by first | (with_reducible assumption) | assumption)
             have q310 : x5_1 < (l1.length : Int) := of_decide_eq_true (by first | (with_reducible assumption) | assumption)
             obtain ⟨ad310, e310, hx310_0, hx310_1, hx310_2, hx310_3, hx310_4, hx310_5⟩ := at_T24 HR1.out x5_1 p310 q310
             cases e310
             replace p310 := eq_true p310
             replace q310 := eq_true q310
             go_wp2
             repeat (go_quiet (fail); try go_wp2)
             go_ret
             exact ⟨by first | rfl | (simp; done) | (simp [*]; done), by repeat (first | exact Drawn0.refl _ | apply Drawn0.step)⟩
           · rw [if_neg c7] at H
             have c7b0 : (!(((rd_T24 l0 x5_1).f0) == ((rd_T24 l1 x5_1).f0)) || (!((((rd_T24 l0 x5_1).f1).toList) == (((rd_T24 l1 x5_1).f1).toList)) || (!(((rd_T24 l0 x5_1).f2) == ((rd_T24 l1 x5_1).f2)) || (!(((rd_T24 l0 x5_1).f3) == ((rd_T24 l1 x5_1).f3)) || (!(((rd_T24 l0 x5_1).f4) == ((rd_T24 l1 x5_1).f4)) || (!(((rd_T24 l0 x5_1).f5) == ((rd_T24 l1 x5_1).f5)))))))) = false := by simpa using c7
             clear c7
             have H' := Aside0.mk H
             clear H
             have p309 : 0 ≤ (x5_1 : Int) := of_decide_eq_true (by first | (with_reducible assumption) | assumption)
             have q309 : x5_1 < (l0.length : Int) := of_decide_eq_true (by first | (with_reducible assumption) | assumption)
             obtain ⟨ad309, e309, hx309_0, hx309_1, hx309_2, hx309_3, hx309_4, hx309_5⟩ := at_T24 HR0.out x5_1 p309 q309
             cases e309
             replace p309 := eq_true p309
             replace q309 := eq_true q309
             have p310 : 0 ≤ (x5_1 : Int) := of_decide_eq_true (by first | (with_reducible assumption) | assumption)
             have q310 : x5_1 < (l1.length : Int) := of_decide_eq_true (by first | (with_reducible assumption) | assumption)
             obtain ⟨ad310, e310, hx310_0, hx310_1, hx310_2, hx310_3, hx310_4, hx310_5⟩ := at_T24 HR1.out x5_1 p310 q310
             cases e310
             replace p310 := eq_true p310
             replace q310 := eq_true q310
             go_wp2
             repeat (go_quiet (fail); try go_wp2)
             go_roundg k1
             case measure => have := HK1.out; omega
             case rel => exact ⟨(wrap64 (x5_1 + 1)), (by first | rfl | (simp; done) | (simp [*]; done)), H', ⟨by have := HK1.out; omega⟩, by repeat (first | exact Drawn0.refl _ | apply Drawn0.step)⟩
         · rw [if_neg c6] at H
           exact absurd H (by simp)
       · rw [if_neg c5] at H
         exact absurd H (by simp)
     · rw [if_neg c4] at H
       have c4b0 : decide (x5_1 < (l0.length : Int)) = false := decide_eq_false c4
       clear c4
       obtain rfl := Option.some.inj H
       go_wp2
       repeat (go_quiet (fail); try go_wp2)
       go_ret
       exact ⟨by first | rfl | (simp; done) | (simp [*]; done), by repeat (first | exact Drawn0.refl _ | apply Drawn0.step)⟩
 · rw [if_neg c3] at H
   have c3b0 : ((l0.length : Int) == (l1.length : Int)) = false := beq_eq_false_iff_ne.mpr c3
   have c3b1 : ((l0.length : Int) != (l1.length : Int)) = true := bne_iff_ne.mpr c3
   have c3b2 : (l0.length == l1.length) = false := by first | simpa using c3 | (simp at c3 ⊢; omega)
   obtain rfl := Option.some.inj H
   go_enter Tryd.func14, Tryd.ntmps14
   go_wp2
   repeat (go_quiet (fail); try go_wp2)
   go_ret
   exact ⟨by first | rfl | (simp; done) | (simp [*]; done), by repeat (first | exact Drawn0.refl _ | apply Drawn0.step)⟩
end Go.Proofs.YtbmfadmoficfiaaDoor.Q
