/- A part of the proof, made small by a program: Qx0, E1. -/
import Derived.ArgAppend
import Derived.Below
import Derived.BigQuiet
import Derived.ChangeArms
import Derived.DataReads
import Derived.Deep.AppendLies
import Derived.Deep.CutBlock
import Derived.Deep.DeepCutAuto
import Derived.Deep.Draws
import Derived.Deep.LoopGhost
import Derived.Deep.OwnRows
import Derived.Deep.QuietTactic
import Derived.Deep.RegionHeld3
import Derived.Deep.Slices
import Derived.KernelRfl
import Derived.Laws.BitsLemmas
import Derived.Laws.BytesArg
import Derived.Laws.IdiomCopy
import Derived.Laws.MakeOwn
import Derived.Laws.OwnMore
import Derived.Laws.Rows
import Derived.Laws.Slices
import Derived.Laws.StructEq
import Derived.Lib.AppendStr
import Derived.Lib.ConvBytes
import Derived.Maps.AppendAt
import Derived.OrdersHeld
import Derived.OwnWalk
import Derived.RowKit
import Derived.RowKit3
import Derived.Tactics
import Derived.Test.YtboojhadfhpdeaaGreatDoorProg
import Derived.Test.YtboojhadfhpdeaaGreatDoorRows
import Derived.WalkKit
import Derived.WideLaws
import Derived.Test.YtboojhadfhpdeaaGreatDoorVm1
import Derived.Test.YtboojhadfhpdeaaGreatDoorVm3
namespace Go.Proofs.YtboojhadfhpdeaaGreatDoor.Q
open Go.RowKit Go.Proofs.YtboojhadfhpdeaaGreatDoorW.PrintWords Go.Proofs.YtboojhadfhpdeaaGreatDoorW.PrintLast Go.Proofs.YtboojhadfhpdeaaGreatDoorW.PrintMore
attribute [local go_sem] max2_int min2_int max_two min_two max_three min_three max_four min_four
set_option linter.unusedVariables false
set_option linter.unusedSimpArgs false
def errW : Option Int → Value
 | none => .nilIface
 | some c => .iface 0 (.int .i64 c)
theorem errW_none : errW none = .nilIface := rfl
theorem errW_some (c : Int) : errW (some c) = .iface 0 (.int .i64 c) := rfl
theorem info25 : (Tryz.prog.info? 25).map (fun i => (i.zero, i.size, i.bytes)) = some (some (.agg #[(.int .i64 0), (.string ⟨#[]⟩), (.int .u32 0), (.bool false), (.slice none 0 0), (.int .i64 0)]), 6, 64) := by kernel_rfl
structure S25 where
 f0 : Int
 f1 : ByteArray
 f2 : Int
 f3 : Bool
 f4 : (List S25)
 f5 : Int
def z25 : S25 := ⟨(0 : Int), (⟨#[]⟩ : ByteArray), (0 : Int), false, ([] : List S25), (0 : Int)⟩
def F25 (d : Kd S25) : Kd S25 := Kd.iso (Kd.pair (Kd.int .i64) (Kd.pair Kd.string (Kd.pair (Kd.int .u32) (Kd.pair Kd.bool (Kd.pair (Kd.slice 25 d) (Kd.int .i64)))))) (fun x : S25 => (x.f0, x.f1, x.f2, x.f3, x.f4, x.f5))
theorem mono25 : Kd.Mono F25 := Kd.mono_iso _ (Kd.mono_pair (Kd.mono_const _) (Kd.mono_pair (Kd.mono_const _) (Kd.mono_pair (Kd.mono_const _) (Kd.mono_pair (Kd.mono_const _) (Kd.mono_pair (Kd.mono_slice 25 Kd.mono_id) (Kd.mono_const _))))))
theorem sub25 : Kd.Sub F25 [25] := Kd.sub_iso _ (Kd.sub_pair (Kd.sub_const _ (by decide)) (Kd.sub_pair (Kd.sub_const _ (by decide)) (Kd.sub_pair (Kd.sub_const _ (by decide)) (Kd.sub_pair (Kd.sub_const _ (by decide)) (Kd.sub_pair (Kd.sub_slice 25 (by decide) Kd.sub_id) (Kd.sub_const _ (by decide)))))))
theorem sz25 : ∀ n, (Kd.upto F25 6 [25] n).sz = 6 := Kd.upto_sz (fun _ => rfl)
def k25 : Kd S25 := Kd.fix F25 6 [25] sz25 (Kd.upto_E sub25)
theorem k25_open {w : World} {x : S25} {cs : List Value} (h : k25.K w x cs) : ∃ A4 c4, cs = [.int .i64 x.f0, .string x.f1, .int .u32 x.f2, .bool x.f3, .slice A4 x.f4.length c4, .int .i64 x.f5] ∧ x.f4.length ≤ c4 ∧ k25.C w A4 x.f4.length x.f4 := by
 obtain ⟨n, h⟩ := h
 cases n with
 | zero => exact h.elim
 | succ n =>
  obtain ⟨_, _, rfl, rfl, ⟨_, _, rfl, rfl, ⟨_, _, rfl, rfl, ⟨_, _, rfl, rfl, ⟨_, _, rfl, ⟨A4, c4, rfl, l4, g4⟩, rfl⟩⟩⟩⟩⟩ := h
  exact ⟨A4, c4, rfl, l4, Kd.fix_C g4⟩
theorem k25_mk (w : World) (x : S25) {A4 : Option Addr} {c4 : Nat} (l4 : x.f4.length ≤ c4) (g4 : k25.C w A4 x.f4.length x.f4) : k25.K w x [.int .i64 x.f0, .string x.f1, .int .u32 x.f2, .bool x.f3, .slice A4 x.f4.length c4, .int .i64 x.f5] := by
 obtain ⟨n4, q4⟩ := Kd.fix_C_back mono25 g4
 have r4 := Kd.upto_C_le mono25 sz25 (show n4 ≤ n4 by omega) q4
 exact ⟨n4 + 1, ⟨[.int .i64 x.f0], [.string x.f1, .int .u32 x.f2, .bool x.f3, .slice A4 x.f4.length c4, .int .i64 x.f5], rfl, rfl, ⟨[.string x.f1], [.int .u32 x.f2, .bool x.f3, .slice A4 x.f4.length c4, .int .i64 x.f5], rfl, rfl, ⟨[.int .u32 x.f2], [.bool x.f3, .slice A4 x.f4.length c4, .int .i64 x.f5], rfl, rfl, ⟨[.bool x.f3], [.slice A4 x.f4.length c4, .int .i64 x.f5], rfl, rfl, ⟨[.slice A4 x.f4.length c4], [.int .i64 x.f5], rfl, ⟨A4, c4, rfl, l4, r4⟩, rfl⟩⟩⟩⟩⟩⟩
def rd_T25 (xs : List S25) (i : Int) : S25 := xs.getD i.toNat z25
theorem at_T25 {w : World} {A : Option Addr} {n : Nat} {xs : List S25} (h : Kd.C k25 w A n xs) (i : Int) (h0 : 0 ≤ i) (h1 : i < n) : ∃ ad A4 c4, A = some ad ∧ w.cell? (ad.add (i.toNat * 6)) = some (.int .i64 (rd_T25 xs i).f0) ∧ w.cell? ⟨(ad.add (i.toNat * 6)).block, (ad.add (i.toNat * 6)).off + 1, none⟩ = some (.string (rd_T25 xs i).f1) ∧ w.cell? ⟨(ad.add (i.toNat * 6)).block, (ad.add (i.toNat * 6)).off + 2, none⟩ = some (.int .u32 (rd_T25 xs i).f2) ∧ w.cell? ⟨(ad.add (i.toNat * 6)).block, (ad.add (i.toNat * 6)).off + 3, none⟩ = some (.bool (rd_T25 xs i).f3) ∧ w.cell? ⟨(ad.add (i.toNat * 6)).block, (ad.add (i.toNat * 6)).off + 4, none⟩ = some (.slice A4 (rd_T25 xs i).f4.length c4) ∧ w.cell? ⟨(ad.add (i.toNat * 6)).block, (ad.add (i.toNat * 6)).off + 5, none⟩ = some (.int .i64 (rd_T25 xs i).f5) ∧ (rd_T25 xs i).f4.length ≤ c4 ∧ k25.C w A4 (rd_T25 xs i).f4.length (rd_T25 xs i).f4 := by
 obtain ⟨ad, c, e, _, hK, hc0⟩ := Kd.C_get h z25 i h0 h1
 have hc : ∀ j u, c[j]? = some u → w.cell? (ad.add (i.toNat * 6 + j)) = some u := hc0
 obtain ⟨A4, c4, rfl, l4, g4⟩ := k25_open hK
 exact ⟨ad, A4, c4, e, hc 0 _ rfl, by rw [← add_field _ _ 1 (by omega)]; exact hc 1 _ rfl, by rw [← add_field _ _ 2 (by omega)]; exact hc 2 _ rfl, by rw [← add_field _ _ 3 (by omega)]; exact hc 3 _ rfl, by rw [← add_field _ _ 4 (by omega)]; exact hc 4 _ rfl, by rw [← add_field _ _ 5 (by omega)]; exact hc 5 _ rfl, l4, g4⟩
end Go.Proofs.YtboojhadfhpdeaaGreatDoor.Q
namespace Go.Proofs.YtboojhadfhpdeaaGreatDoor.Q
open Go.Deep Go.RowKit Go.Proofs.YtboojhadfhpdeaaGreatDoorW.PrintWords Go.Proofs.YtboojhadfhpdeaaGreatDoorW.PrintLast Go.Proofs.YtboojhadfhpdeaaGreatDoorW.PrintMore
set_option linter.unusedVariables false
set_option maxRecDepth 100000
section
variable {H : Type} {enc : TypeId × Value → H} {w : World}
theorem add_add_ (a : Addr) (x y : Nat) : a.add (x + y) = (a.add x).add y := by
 unfold Addr.add
 by_cases h1 : x = 0 <;> by_cases h2 : y = 0 <;> simp [h1, h2, Nat.add_assoc]
theorem rd_slice {α : Type} {d : Kd α} {t e : TypeId} {n : Nat} {cs : List Value} {x : DataW H × List MemPlace} (ht : Tryz.prog.underlying t = some (.slice e)) (hc : Tryz.prog.cellsOf e = d.sz)
 (hd : ∀ n' < n, ∀ cs x, DataW.trod enc Tryz.prog w 0 (fun _ => true) true n' e cs = some x → ∃ a : α, d.K w a cs) (h : DataW.trod enc Tryz.prog w 0 (fun _ => true) true n t cs = some x) :
 ∃ (A : Option Addr) (c : Nat) (xs : List α), cs = [.slice A xs.length c] ∧ xs.length ≤ c ∧ d.C w A xs.length xs := by
 rcases DataW.trod_slice ht h with ⟨rfl, rfl⟩ | ⟨a, len, cap, elems, rest, m, rfl, rfl, rfl, _, hlc, hcm, hlen, hel, _⟩
 · exact ⟨none, 0, [], rfl, Nat.le_refl _, rfl, by simp, fun h0 => by simp at h0⟩
 · have h1 : ∀ i : Fin len, ∃ z : α, ∃ cs', w.cells? 0 (a.add (i.1 * d.sz)) d.sz = some cs' ∧ d.K w z cs' := by
    intro i
    have h2 := hel i.1 i.2
    rw [List.getElem?_eq_getElem (by rw [hlen]; exact i.2)] at h2
    obtain ⟨cs', hcs, htr⟩ := Option.bind_eq_some_iff.1 h2
    rw [hc] at hcs
    obtain ⟨z, hK⟩ := hd m (Nat.lt_succ_self m) _ _ htr
    exact ⟨z, cs', hcs, hK⟩
   obtain ⟨f, hf⟩ := Classical.axiomOfChoice h1
   have hl : (List.ofFn f).length = len := List.length_ofFn
   refine ⟨some a, cap, List.ofFn f, by rw [hl], by rw [hl]; exact hlc, rfl, ?_, fun h0 => ⟨a, rfl, fun j p hp => ?_⟩⟩
   · rw [hl]
     have := hcm
     unfold maxLen at this
     omega
   · have hj : j < len := by
      have := (List.getElem?_eq_some_iff.1 hp).1
      rwa [hl] at this
     have hpj : p = f ⟨j, hj⟩ := by
      have := (List.getElem?_eq_some_iff.1 hp).2
      simpa using this.symm
     subst hpj
     obtain ⟨cs', hcs, hK⟩ := hf ⟨j, hj⟩
     obtain ⟨_, hl', hcell⟩ := World.cells?_some hcs
     refine ⟨cs', hl', hK, fun i u hu => ?_⟩
     have hi : i < d.sz := by
      have := (List.getElem?_eq_some_iff.1 hu).1
      omega
     have hq := (hcell i hi).trans hu
     rw [← hq]
     congr 1
     exact add_add_ a _ _
theorem fields_get {fs : Array Field} {xs : List (DataW H × List MemPlace)} {G : Field → Option (DataW H × List MemPlace)} (hxl : xs.length = fs.size) (hf : ∀ (i : Nat) (f : Field), fs[i]? = some f → G f = xs[i]?) : ∀ (i : Nat) (f : Field), fs[i]? = some f → ∃ y, G f = some y := by
 intro i f hi
 have h2 : i < xs.length := by
  have := (Array.getElem?_eq_some_iff.1 hi).1
  rw [hxl]; exact this
 exact ⟨xs[i], (hf i f hi).trans (List.getElem?_eq_getElem h2)⟩
theorem field_one {cs : List Value} {m : Nat} {t : TypeId} {o : Nat} {c : Value} {y : DataW H × List MemPlace} (h1 : Tryz.prog.cellsOf t = 1) (h2 : cs[o]? = some c) (h3 : DataW.trod enc Tryz.prog w 0 (fun _ => true) true m t ((cs.drop o).take (Tryz.prog.cellsOf t)) = some y) : DataW.trod enc Tryz.prog w 0 (fun _ => true) true m t [c] = some y := by
 rw [h1] at h3
 obtain ⟨h4, h5⟩ := List.getElem?_eq_some_iff.1 h2
 rw [List.drop_eq_getElem_cons h4, h5] at h3
 simpa using h3
theorem rd_25 : ∀ (n : Nat) (cs : List Value) (x : DataW H × List MemPlace), DataW.trod enc Tryz.prog w 0 (fun _ => true) true n 25 cs = some x → ∃ a : S25, k25.K w a cs := by
 intro n
 induction n using Nat.strongRecOn with
 | _ n ih =>
 intro cs x h
 obtain ⟨xs, m, rfl, rfl, hl, hxl, hf⟩ := DataW.trod_struct Tryz.underlying25 h
 have hl' : cs.length = 6 := hl.trans (by kernel_rfl)
 obtain ⟨c0, c1, c2, c3, c4, c5, rfl⟩ : ∃ c0 c1 c2 c3 c4 c5, cs = [c0, c1, c2, c3, c4, c5] := by
  match cs, hl' with
  | [c0, c1, c2, c3, c4, c5], _ => exact ⟨c0, c1, c2, c3, c4, c5, rfl⟩
 have g := fields_get hxl hf
 clear hf
 obtain ⟨y0, h0⟩ := g 0 _ rfl
 obtain ⟨y1, h1⟩ := g 1 _ rfl
 obtain ⟨y2, h2⟩ := g 2 _ rfl
 obtain ⟨y3, h3⟩ := g 3 _ rfl
 obtain ⟨y4, h4⟩ := g 4 _ rfl
 obtain ⟨y5, h5⟩ := g 5 _ rfl
 clear g
 replace h0 := field_one (by kernel_rfl) (o := 0) rfl h0
 replace h1 := field_one (by kernel_rfl) (o := 1) rfl h1
 replace h2 := field_one (by kernel_rfl) (o := 2) rfl h2
 replace h3 := field_one (by kernel_rfl) (o := 3) rfl h3
 replace h4 := field_one (by kernel_rfl) (o := 4) rfl h4
 replace h5 := field_one (by kernel_rfl) (o := 5) rfl h5
 obtain ⟨z0, e0, _, _⟩ := DataW.trod_int (k := .i64) (by kernel_rfl) h0
 obtain ⟨z1, e1, _, _⟩ := DataW.trod_string (by kernel_rfl) h1
 obtain ⟨z2, e2, _, _⟩ := DataW.trod_int (k := .u32) (by kernel_rfl) h2
 obtain ⟨z3, e3, _⟩ := DataW.trod_bool (by kernel_rfl) h3
 obtain ⟨A4, d4, z4, e4, l4, g4⟩ := rd_slice (d := k25) (e := 25) (by kernel_rfl) (by kernel_rfl) (fun n' hn => ih n' (by omega)) h4
 obtain ⟨z5, e5, _, _⟩ := DataW.trod_int (k := .i64) (by kernel_rfl) h5
 obtain rfl := (List.cons.inj e0).1
 obtain rfl := (List.cons.inj e1).1
 obtain rfl := (List.cons.inj e2).1
 obtain rfl := (List.cons.inj e3).1
 obtain rfl := (List.cons.inj e4).1
 obtain rfl := (List.cons.inj e5).1
 exact ⟨⟨z0, z1, z2, z3, z4, z5⟩, k25_mk w ⟨z0, z1, z2, z3, z4, z5⟩ l4 g4⟩
end
end Go.Proofs.YtboojhadfhpdeaaGreatDoor.Q
