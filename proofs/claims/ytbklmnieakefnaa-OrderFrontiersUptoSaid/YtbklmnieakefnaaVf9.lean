/- A part of the proof, made small by a program: Fz. -/
import Derived.Test.YtbklmnieakefnaaVf0
namespace Go.Proofs.YtbklmnieakefnaaW.PrintWords
open Go.RowKit
set_option linter.unusedVariables false
def blank (w : World) (lo hi : Nat) : World:={ w with heap:=w.heap.mapIdx (fun i o => if lo ≤ i ∧ i < hi then .cells #[] 0 (0,0) else o) }
theorem blank_ne {w : World} {lo hi k : Nat} (h : ¬ (lo ≤ k ∧ k < hi)) : (blank w lo hi).heap[k]? = w.heap[k]? := by
 simp only [blank,Array.getElem?_mapIdx,if_neg h];cases w.heap[k]? <;> rfl
theorem blank_size (w : World) (lo hi : Nat) : (blank w lo hi).heap.size = w.heap.size:=by simp [blank]
theorem blank_cell {w : World} {lo hi : Nat} {p : Addr} {v : Value} (h : (blank w lo hi).cell? p = some v) : ¬ (lo ≤ p.block ∧ p.block < hi) ∧ p.block < w.heap.size:=by
 refine ⟨fun e => ?_,?_⟩
 · unfold World.cell? at h;have : (blank w lo hi).heap[p.block]? = w.heap[p.block]?.map (fun _ => Obj.cells #[] 0 (0,0)):=by
    simp only [blank,Array.getElem?_mapIdx,if_pos e]
   rw [this] at h;cases hc : w.heap[p.block]? with
   | none => rw [hc] at h;cases h
   | some o =>
    rw [hc] at h;dsimp only [Option.map_some] at h
    split at h
    · cases h
    · simp at h
 · have:=World.block_lt_of_cell? _ _ h
   rwa [blank_size] at this
structure FZ (w : World) (lo hi : Nat) (W : World) : Prop where
 size : w.heap.size ≤ W.heap.size
 same : ∀ k,k < w.heap.size → ¬ (lo ≤ k ∧ k < hi) → W.heap[k]? = w.heap[k]?
theorem FZ.refl (w : World) (lo hi : Nat) : FZ w lo hi w:=⟨Nat.le_refl _,fun _ _ _ => rfl⟩
theorem FZ.cell {w W : World} {lo hi : Nat} (h : FZ w lo hi W) {p : Addr} {v : Value} (hc : (blank w lo hi).cell? p = some v) : W.cell? p = some v:=by
 obtain ⟨h1,h2⟩:=blank_cell hc;rw [← hc];exact World.cell?_of_block (w:=blank w lo hi) ((h.same _ h2 h1).trans (blank_ne h1).symm)
theorem FZ.below {w W W' : World} {lo hi : Nat} (h : FZ w lo hi W) (hb : Below W.heap.size W W') : FZ w lo hi W' :=
 ⟨Nat.le_trans h.size hb.size,fun k hk hn => (hb.block k (Nat.lt_of_lt_of_le hk h.size)).trans (h.same k hk hn)⟩
theorem FZ.alloc {w W : World} {lo hi : Nat} (h : FZ w lo hi W) (o : Obj) : FZ w lo hi (W.alloc o):=h.below (Z7 (Below.refl _ _) o)
theorem FZ.drew {w W : World} {lo hi : Nat} (h : FZ w lo hi W) : FZ w lo hi W.drew:=h.below (below_drew (Below.refl _ _))
theorem FZ.drewN {w W : World} {lo hi : Nat} (h : FZ w lo hi W) (n : Nat) : FZ w lo hi (W.drewN n):=h.below (Z4 (Below.refl _ _) n)
def PO (w : World) (lo hi : Nat) (k : Nat) : Prop:=(lo ≤ k ∧ k < hi) ∨ w.heap.size ≤ k
theorem FZ.grown {w W W' : World} {lo hi : Nat} (h : FZ w lo hi W) {row : Option Nat} (hg : W.grownBy W' row) (hr : ∀ k,row = some k → PO w lo hi k) : FZ w lo hi W' := by
 refine ⟨Nat.le_trans h.size hg.size,fun k hk hn => (hg.block k (Nat.lt_of_lt_of_le hk h.size) (fun e => ?_)).trans (h.same k hk hn)⟩;rcases hr k e.symm with h1|h1
 · exact hn h1
 · omega
section
variable {α : Type} {d : Kd α} {e base lo hi : Nat} {ok : Nat → Prop} {w w1 : World} {v : Value} {xs : List α}
theorem R_blank (h : Kd.R d e w base ok v xs) (hg : hi ≤ base) : Kd.R d e (blank w lo hi) base (fun _ => True) v xs :=
 Kd.R_mono (Kd.R_move (Kd.R_bound h) (fun k hk => blank_ne (by have:=hk.2.1;omega))) (fun _ _ => trivial)
theorem S_blank (h : Kd.S d e w base ok v xs) (hg : hi ≤ base) : Kd.S d e (blank w lo hi) base (fun _ => True) v xs :=
 Kd.S_mono (Kd.S_move (Kd.S_bound h) (fun k hk => blank_ne (by have:=hk.2.1;omega))) (fun _ _ => trivial)
theorem S_just (h : Kd.S d e w base ok v xs) : Kd.S d e w base (fun k => base ≤ k ∧ k < w.heap.size) v xs :=
 Kd.S_mono (Kd.S_bound h) (fun k hk => ⟨hk.2.1,hk.2.2.1⟩)
theorem S_okown (h : Kd.S d e w base ok v xs) : ∀ k,v.ownBlock = some k → ok k:=by
 obtain ⟨f,h⟩:=h;exact h.1
end
end Go.Proofs.YtbklmnieakefnaaW.PrintWords
