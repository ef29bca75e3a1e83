/- A part of the proof, made small by a program: BoxSix. -/
import Derived.Test.YtbmfadmoficfiaaDoorVj4
namespace Go.Proofs.YtbmfadmoficfiaaDoor.Q
open Go.RowKit Go.Proofs.YtbmfadmoficfiaaDoorW.PrintWords Go.Proofs.YtbmfadmoficfiaaDoorW.PrintLast Go.Proofs.YtbmfadmoficfiaaDoorW.PrintMore
section
variable {W : World} {g : Nat} {t : TypeId} {a0 a1 a2 a3 a4 a5 b0 b1 b2 b3 b4 b5 : Value}
theorem six_blk (h : W.heap[g]? = some (.cells #[a0, a1, a2, a3, a4, a5] t (0, 0))) : ((((((W.setCell ⟨g, 0, none⟩ b0).setCell ⟨g, 1, none⟩ b1).setCell ⟨g, 2, none⟩ b2).setCell ⟨g, 3, none⟩ b3).setCell ⟨g, 4, none⟩ b4).setCell ⟨g, 5, none⟩ b5).heap[g]? = some (.cells #[b0, b1, b2, b3, b4, b5] t (0, 0)) :=
 Z9 (Z9 (Z9 (Z9 (Z9 (Z9 h 0 b0 rfl) 1 b1 rfl) 2 b2 rfl) 3 b3 rfl) 4 b4 rfl) 5 b5 rfl
theorem six_below {w : World} (h : Below w.heap.size w W) (hg : w.heap.size ≤ g) : Below w.heap.size w ((((((W.setCell ⟨g, 0, none⟩ b0).setCell ⟨g, 1, none⟩ b1).setCell ⟨g, 2, none⟩ b2).setCell ⟨g, 3, none⟩ b3).setCell ⟨g, 4, none⟩ b4).setCell ⟨g, 5, none⟩ b5) :=
 Z8 (Z8 (Z8 (Z8 (Z8 (Z8 h hg) hg) hg) hg) hg) hg
theorem six_R {α : Type} {d : Kd α} {e base : Nat} {ok : Nat → Prop} {v : Value} {xs : List α} (h : d.R e W base ok v xs) (hok : ∀ k, ok k → k ≠ g) : d.R e ((((((W.setCell ⟨g, 0, none⟩ b0).setCell ⟨g, 1, none⟩ b1).setCell ⟨g, 2, none⟩ b2).setCell ⟨g, 3, none⟩ b3).setCell ⟨g, 4, none⟩ b4).setCell ⟨g, 5, none⟩ b5) base ok v xs :=
 Kd.R_far (p := ⟨g, 5, none⟩) (Kd.R_far (p := ⟨g, 4, none⟩) (Kd.R_far (p := ⟨g, 3, none⟩) (Kd.R_far (p := ⟨g, 2, none⟩) (Kd.R_far (p := ⟨g, 1, none⟩) (Kd.R_far (p := ⟨g, 0, none⟩) h hok b0) hok b1) hok b2) hok b3) hok b4) hok b5
theorem six_far {k : Nat} {o : Obj} (h : W.heap[k]? = some o) (hk : k ≠ g) : ((((((W.setCell ⟨g, 0, none⟩ b0).setCell ⟨g, 1, none⟩ b1).setCell ⟨g, 2, none⟩ b2).setCell ⟨g, 3, none⟩ b3).setCell ⟨g, 4, none⟩ b4).setCell ⟨g, 5, none⟩ b5).heap[k]? = some o :=
 (Below.heap_setCell _ ⟨g, 5, none⟩ b5 k hk).trans ((Below.heap_setCell _ ⟨g, 4, none⟩ b4 k hk).trans ((Below.heap_setCell _ ⟨g, 3, none⟩ b3 k hk).trans ((Below.heap_setCell _ ⟨g, 2, none⟩ b2 k hk).trans ((Below.heap_setCell _ ⟨g, 1, none⟩ b1 k hk).trans ((Below.heap_setCell _ ⟨g, 0, none⟩ b0 k hk).trans h)))))
end
end Go.Proofs.YtbmfadmoficfiaaDoor.Q
