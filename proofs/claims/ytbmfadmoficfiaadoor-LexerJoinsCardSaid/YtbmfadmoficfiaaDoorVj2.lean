/- A part of the proof, made small by a program: Ext, Frame. -/
import Derived.Deep.DeepHandedRow
import Derived.Deep.DeepWitnessRowRef
import Derived.Lib.LaidTab
import Derived.Lib.LaidU8
import Derived.OpenShut
import Derived.ProofKit
import Derived.ShutString
import Derived.SizedLaws
import Derived.Test.YtbmfadmoficfiaaDoorCards
import Derived.Test.YtbmfadmoficfiaaDoorTie
import Derived.WalkKit
import Derived.WalkSmall
import Derived.Test.YtbmfadmoficfiaaDoorVj0
import Derived.Test.YtbmfadmoficfiaaDoorVj1
namespace Go.Proofs.YtbmfadmoficfiaaDoor.Q
open Go.RowKit Go.Proofs.YtbmfadmoficfiaaDoorW.PrintWords Go.Proofs.YtbmfadmoficfiaaDoorW.PrintLast Go.Proofs.YtbmfadmoficfiaaDoorW.PrintMore
structure PremW (w : World) : Prop where
 mk ::
 tab : Lib.TabIs Tryd.prog w "strings.asciiSpace" .u8 Lib.asciiSpaceTab
 len : ∃ m, w.cell? ⟨1, 0, none⟩ = some (.int .i64 m)
theorem glob : Tryd.prog.globalNamed "strings.asciiSpace" = some 0 := by kernel_rfl
theorem PremW.below {w w1 : World} (h : PremW w) (hb : Below w.heap.size w w1) : PremW w1 := by
 obtain ⟨ht, m, hm⟩ := h
 refine ⟨?_, m, Z80 hb hm⟩
 refine var?_below (g := 0) hb glob ?_ ht
 unfold Lib.TabIs World.var? at ht
 rw [glob] at ht
 simp only [Option.bind_some] at ht
 rcases Nat.lt_or_ge 0 w.heap.size with h0 | h0
 · exact h0
 · rw [Array.getElem?_eq_none h0] at ht
   simp at ht
def strings_IndexByte.f (a0 : ByteArray) (a1 : Int) : Option Int := some (Lib.indexByte a0.data.toList a1.toNat.toUInt8)
theorem strings_IndexByte.calls (a0 : ByteArray) (a1 : Int) (r : Int) (w : World) (h : strings_IndexByte.f a0 a1 = some r) :
 Calls Tryd.prog 33 #[.string a0, .int .u8 a1] w fun e w' => e = .returned (.int .i64 r) ∧ Drawn0 w w' := by
 obtain rfl := Option.some.inj h
 refine (Tryd.strings_IndexByte a0 a1 w).mono ?_
 rintro e w' ⟨rfl, rfl⟩
 exact ⟨rfl, Drawn0.refl _⟩
def strings_Index.f (a0 : ByteArray) (a1 : ByteArray) : Option Int := if a0.size < 4294967281 then some (Lib.index a0.data.toList a1.data.toList) else none
theorem strings_Index.calls (a0 : ByteArray) (a1 : ByteArray) (r : Int) (w : World) (hG : PremW w) (h : strings_Index.f a0 a1 = some r) :
 Calls Tryd.prog 35 #[.string a0, .string a1] w fun e w' => e = .returned (.int .i64 r) ∧ Below w.heap.size w w' := by
 unfold strings_Index.f at h
 split at h
 · rename_i hs
   obtain rfl := Option.some.inj h
   obtain ⟨m, hm⟩ := hG.len
   refine (Tryd.strings_Index a0 a1 m w hs hm).mono ?_
   rintro e w' ⟨rfl, rfl⟩
   exact ⟨rfl, Below.refl _ _⟩
 · cases h
def strings_Contains.f (a0 : ByteArray) (a1 : ByteArray) : Option Bool := if a0.size < 4294967281 then some (Lib.contains a0.data.toList a1.data.toList) else none
theorem strings_Contains.calls (a0 : ByteArray) (a1 : ByteArray) (r : Bool) (w : World) (hG : PremW w) (h : strings_Contains.f a0 a1 = some r) :
 Calls Tryd.prog 30 #[.string a0, .string a1] w fun e w' => e = .returned (.bool r) ∧ Below w.heap.size w w' := by
 unfold strings_Contains.f at h
 split at h
 · rename_i hs
   obtain rfl := Option.some.inj h
   obtain ⟨m, hm⟩ := hG.len
   refine (Tryd.strings_Contains a0 a1 m w hs hm).mono ?_
   rintro e w' ⟨rfl, rfl⟩
   exact ⟨rfl, Below.refl _ _⟩
 · cases h
def asciiAll (l : List UInt8) : Bool := l.all fun b => b.toNat < 128
def fieldsOf (a0 : ByteArray) : List ByteArray := (Lib.fields a0.data.toList).map fun l => ⟨l.toArray⟩
def strings_Fields.f (a0 : ByteArray) : Option (List ByteArray) := if a0.size < 4294967281 ∧ asciiAll a0.data.toList = true ∧ (fieldsOf a0).length ≤ 9223372036854775807 then some (fieldsOf a0) else none
theorem reps_strs (P : ByteArray → List Value → Prop) (hP : ∀ x, P x [Value.string x]) : ∀ l : List ByteArray, Reps P 1 l (l.map Value.string)
 | [] => Reps.none _ _
 | x :: l => by
  have h := reps_strs P hP l
  refine ⟨by simp, fun j p hj => ?_⟩
  cases j with
  | zero =>
   simp only [List.getElem?_cons_zero, Option.some.injEq] at hj
   subst hj
   simpa using hP x
  | succ j =>
   have h2 := h.2 j p (by simpa using hj)
   simpa [Nat.succ_mul] using h2
theorem strings_Fields.calls (a0 : ByteArray) (r : List ByteArray) (w : World) (hG : PremW w) (h : strings_Fields.f a0 = some r) :
 Calls Tryd.prog 37 #[.string a0] w fun e w' => ∃ v0_ : Value, e = .returned (v0_) ∧ Kd.R Kd.string 9 w' w.heap.size (fun _ => True) v0_ r ∧ Below w.heap.size w w' := by
 unfold strings_Fields.f at h
 split at h
 · rename_i hs
   obtain rfl := Option.some.inj h
   obtain ⟨h1, h2, h3⟩ := hs
   refine (Tryd.strings_Fields a0 w h1 (fun j b hj => ?_) hG.tab).mono ?_
   · unfold asciiAll at h2
     rw [List.all_eq_true] at h2
     have := h2 b (List.mem_of_getElem? hj)
     simpa using this
   · rintro e w' ⟨rfl, rfl⟩
     have hlen : (fieldsOf a0).length = (Lib.fields a0.data.toList).length := by simp [fieldsOf]
     have hmap : ((Lib.fields a0.data.toList).map fun l => Value.string ⟨l.toArray⟩) = (fieldsOf a0).map Value.string := by simp [fieldsOf]
     rw [hmap, ← hlen]
     refine ⟨_, rfl, ⟨fun _ _ => trivial, (fieldsOf a0).map Value.string, ?_, ?_⟩, Z7 (Below.refl _ _) _⟩
     · have h4 := World.ownsRow_lit (base := w.heap.size) (e := 9) (size := 1) w ((fieldsOf a0).map Value.string).toArray (fieldsOf a0).length (Nat.le_refl _) (by simpa [maxLen] using h3) (by simp)
       rw [List.toList_toArray] at h4
       exact h4
     · exact reps_strs (Kd.string.M _ _ _) (fun x => rfl) (fieldsOf a0)
 · cases h
end Go.Proofs.YtbmfadmoficfiaaDoor.Q
namespace Go.Proofs.YtbmfadmoficfiaaDoor.Frame
open Go.ChangeShapes Go.WideShapes Go.ChangeAt Go.RowKit
open Go.ChangeMaps (open_string shut_string)
theorem own : ownKnob Tryd.prog.godebug = none := by kernel_rfl
theorem gTab : Tryd.prog.globalNamed "strings.asciiSpace" = some 0 := by kernel_rfl
theorem gTabType : (Tryd.prog.globals[0]?).map (·.type) = some 56 := by kernel_rfl
theorem cells56 : Tryd.prog.cellsOf 56 = 256 := by kernel_rfl
theorem cells5 : Tryd.prog.cellsOf 5 = 1 := by kernel_rfl
theorem under56 : Tryd.prog.underlying 56 = some (.array 256 5) := by kernel_rfl
theorem datum : (Rows.laid_strings_asciiSpace : DataW Unit) = Lib.tabData .u8 Lib.asciiSpaceTab := by kernel_rfl
def lst : List (String × DataW Unit) := [("unicode.White_Space", Rows.laid_unicode_White_Space), ("strings.asciiSpace", Rows.laid_strings_asciiSpace)]
theorem table {W : World} (h : laidMet Tryd.prog lst W) : Lib.TabIs Tryd.prog W "strings.asciiSpace" .u8 Lib.asciiSpaceTab := by
 obtain ⟨g', t', cs, fuel, p, hg', ht', hvar, hd⟩ := Lib.laidMet.reads h (n := "strings.asciiSpace") (d := Rows.laid_strings_asciiSpace) (by simp [lst])
 obtain rfl := Option.some.inj (gTab.symm.trans hg')
 obtain rfl := Option.some.inj (gTabType.symm.trans ht')
 rw [datum] at hd
 unfold Lib.TabIs
 rw [hvar, ← Lib.cells_of_tab under56 Tryd.underlying5 cells5 cells56 hd]
theorem prem {W : World} (h : laidMetH Tryd.prog lst W) (hs : W.ShapedOpen Tryd.prog) : Q.PremW W := ⟨table h, Tryd.laysM143.s1_3 W hs⟩
noncomputable def laidWorld (os : Os) : World :=
 let N := (World.settled Tryd.prog os).heap.size
 let w0 := World.holding Tryd.prog os ⟨#[.cells (Lib.whiteT.map fun (z : Nat) => Value.int .u16 (z : Int)).toArray 74, .cells #[.slice (some ⟨N, 0, none⟩) 7 7, .slice none 0 0, .int .i64 2] 71], #[], []⟩
 let put (h : Array Obj) (g : Nat) (cs : Array Value) : Array Obj := h.modify g fun
  | .cells _ t frozen => .cells cs t frozen
  | o => o
 let h1 := put w0.heap 0 (Lib.asciiSpaceTab.map fun z => Value.int .u8 z).toArray
 let h2 := put h1 2 #[.pointer (some ⟨N + 1, 0, none⟩)]
 { w0 with heap := h2 }
end Go.Proofs.YtbmfadmoficfiaaDoor.Frame
