/- SsaoutSequences: for every input the law returns true; nothing that came in has turned. -/
import Derived.Test.YtdodmjnicnpefaaRows
import Derived.Test.YtdodmjnicnpefaaFy
import Derived.ChangeArms
import Derived.Deep.Slices
import Derived.DataReads
import Derived.WalkKit
import Derived.ProofKit
import Derived.OpenShut
import Derived.ShutString
import Derived.ChangeOld
import Derived.Below
import Derived.SizedLaws
namespace Go.Proofs.Ytdodmjnicnpefaa.Q
open Go.Deep Go.RowKit Go.Proofs.YtdodmjnicnpefaaW.PrintWords Go.Proofs.YtdodmjnicnpefaaW.PrintLast Go.Proofs.YtdodmjnicnpefaaW.PrintMore
set_option linter.unusedVariables false
section
variable {H : Type} {enc : TypeId × Value → H} {w : World}
theorem add_add_ (a : Addr) (x y : Nat) : a.add (x + y) = (a.add x).add y := by
  unfold Addr.add
  by_cases h1 : x = 0 <;> by_cases h2 : y = 0 <;> simp [h1, h2, Nat.add_assoc]
theorem rd_pair (n : Nat) (cs : List Value) (x : DataW H × List MemPlace) (h : DataW.trod enc Try.prog w 0 (fun _ => true) true n 31 cs = some x) : ∃ a : Int × Int, kp.K w a cs ∧ In64 a.1 ∧ In64 a.2 := by
  obtain ⟨xs, m, rfl, rfl, hl, hx, hel⟩ := DataW.trod_array Try.underlying31 h
  have hl' : cs.length = 2 := hl.trans (by kernel_rfl)
  have k3 : Try.prog.cellsOf 3 = 1 := by kernel_rfl
  obtain ⟨c0, c1, rfl⟩ : ∃ c0 c1, cs = [c0, c1] := by
    match cs, hl' with
    | [c0, c1], _ => exact ⟨c0, c1, rfl⟩
  have e0 := hel 0 (by decide)
  have e1 := hel 1 (by decide)
  rw [k3] at e0 e1
  have e0' : DataW.trod enc Try.prog w 0 (fun _ => true) true m 3 [c0] = some xs[0] := e0.trans (List.getElem?_eq_getElem (by omega))
  have e1' : DataW.trod enc Try.prog w 0 (fun _ => true) true m 3 [c1] = some xs[1] := e1.trans (List.getElem?_eq_getElem (by omega))
  obtain ⟨a, ha, _, wa⟩ := DataW.trod_int Try.underlying3 e0'
  obtain ⟨b, hb, _, wb⟩ := DataW.trod_int Try.underlying3 e1'
  obtain rfl := (List.cons.inj ha).1
  obtain rfl := (List.cons.inj hb).1
  exact ⟨(a, b), ⟨_, _, rfl, rfl, rfl⟩, wa, wb⟩
theorem rd_moves (n : Nat) (cs : List Value) (x : DataW H × List MemPlace) (h : DataW.trod enc Try.prog w 0 (fun _ => true) true n 22 cs = some x) : ∃ (L : List (Int × Int)) (A : Option Addr) (c : Nat), cs = [.slice A L.length c] ∧ kp.C w A L.length L ∧ Ins L := by
  rcases open_slice Try.underlying22 h with ⟨rfl, rfl⟩ | ⟨a, len, cap, m, n', D, Pl, rfl, _, hlc, hcm, hm, rfl, hel⟩
  · exact ⟨[], none, 0, rfl, ⟨rfl, by decide, fun h0 => absurd h0 (Nat.lt_irrefl 0)⟩, fun m hm => by cases hm⟩
  · have h1 : ∀ i : Fin len, ∃ z : Int × Int, ∃ cs', w.cells? 0 (a.add (i.1 * 2)) 2 = some cs' ∧ kp.K w z cs' ∧ In64 z.1 ∧ In64 z.2 := by
      intro i
      have hm' : m = cap := by simpa using hm
      obtain ⟨cs', hcs, htr⟩ := hel i.1 (by have := i.2; omega)
      rw [show Try.prog.cellsOf 31 = 2 by kernel_rfl] at hcs
      obtain ⟨z, hK, hg⟩ := rd_pair _ _ _ htr
      exact ⟨z, cs', hcs, hK, hg⟩
    obtain ⟨f, hf⟩ := Classical.axiomOfChoice h1
    have hlen : (List.ofFn f).length = len := List.length_ofFn
    refine ⟨List.ofFn f, some a, cap, by rw [hlen], ⟨rfl, ?_, fun h0 => ⟨a, rfl, fun j p hp => ?_⟩⟩, ?_⟩
    · rw [hlen]
      have := hcm
      unfold maxLen at this
      omega
    · have hj : j < len := by
        have := (List.getElem?_eq_some_iff.1 hp).1
        rwa [hlen] at this
      have hpj : p = f ⟨j, hj⟩ := by
        have := (List.getElem?_eq_some_iff.1 hp).2
        simpa using this.symm
      subst hpj
      obtain ⟨cs', hcs, hK, _⟩ := hf ⟨j, hj⟩
      obtain ⟨_, hl, hcell⟩ := World.cells?_some hcs
      refine ⟨cs', hl, hK, fun i u hu => ?_⟩
      have hi : i < 2 := by
        have := (List.getElem?_eq_some_iff.1 hu).1
        omega
      have hq := (hcell i hi).trans hu
      rw [← hq]
      congr 1
      exact add_add_ a _ _
    · intro x hx
      obtain ⟨i, rfl⟩ := List.mem_ofFn.1 hx
      exact (hf i).choose_spec.2.2
end
theorem SsaoutSequences.calls (L : List (Int × Int)) (t : Int) (w : World) (A : Option Addr) (c : Nat) (h : kp.C w A L.length L) (hin : Ins L) (ht : In64 t) :
    Calls Try.prog 3 #[.slice A L.length c, .int .i64 t] w (LawP w) := by
  by_cases hn : L.length ≤ 200
  · by_cases hok : okL L t
    · exact SsaoutSequences.yes L t w A c h hn hin ht hok
    · exact SsaoutSequences.no L t w A c h hn hin hok
  · exact SsaoutSequences.many L t w A c (by omega)
end Go.Proofs.Ytdodmjnicnpefaa.Q
namespace Go.Proofs.Ytdodmjnicnpefaa.ssaoutSequences
open Go.ChangeShapes Go.WideShapes Go.ChangeAt Go.RowKit
set_option linter.unusedVariables false
theorem own : ownKnob Try.prog.godebug = none := by kernel_rfl
theorem laidOut : laidOutB Try.prog = true := by kernel_rfl
set_option maxRecDepth 100000 in
theorem lifted (os : Os) (started : os.Started) (H : Type) (enc : TypeId × Value → H) :
    ReturnsInHanded {} Try.checked os 3 .any (Rows.ssaoutSequencesSpec.pre6 enc Try.prog Try.f3 Rows.ssaoutSequencesRow.domain false) (Rows.ssaoutSequencesSpec.post enc Try.prog Try.f3 false true false false) := by
  refine returnsInHanded_of_change_sized (C := Try.checked) own started (by kernel_rfl) Try.func3
    (ChangeSpec.witness6 (enc := enc) (C := Try.checked) false ⟨#[], #[.slice none 0 0, .int .i64 0], []⟩ 8 (by kernel_rfl) (by kernel_rfl) (by kernel_rfl) (by kernel_rfl)) ?_
  intro W base args ds gs before hval0 hW hcnd hsz0 _
  have hval : ∀ (j : Nat) t v, Try.f3.params[j]? = some t → args[j]? = some v → Value.okWide Try.prog W .any base t v := hval0
  have hW' := hW
  obtain ⟨p, q, hA0, hV, rfl, hfz, hnd⟩ := hW
  have hA : DataW.TrodAll enc Try.prog W 0 (fun _ => true) true Try.f3.params.toList args.toList ds p := hA0
  rw [Try.params3] at hA hval
  obtain ⟨v0, vs0, d0, ds0, p0, q0, hargs, rfl, rfl, h0, r0⟩ := trodAll_cons hA
  obtain ⟨v1, vs1, d1, ds1, p1, q1, rfl, rfl, rfl, h1, r1⟩ := trodAll_cons r0
  obtain ⟨rfl, rfl, rfl⟩ := trodAll_nil r1
  obtain rfl : args = #[v0, v1] := by cases args; simp_all
  obtain ⟨rfl, rfl⟩ := trodVars_none hV
  obtain ⟨a0, len0, cap0, rfl⟩ := okWide_slice Try.underlying22 (hval 0 22 v0 rfl rfl)
  have k0 := h0
  have lt0 : ∀ x ∈ p0, x.block < W.heap.size := by obtain ⟨m, hm⟩ := k0; exact DataW.trod_lt m _ _ _ hm
  obtain ⟨fuel, hf⟩ := h0
  obtain ⟨L, A, c, hcs, hC, hin⟩ := Q.rd_moves fuel _ _ hf
  simp [Value.cells] at hcs
  obtain ⟨rfl, rfl, rfl⟩ := hcs
  obtain ⟨a1, rfl, rfl, rfl, w1⟩ := open_int Try.underlying3 (hval 1 3 v1 rfl rfl) h1
  clear hA0 hval0 hsz0
  refine (Q.SsaoutSequences.calls L a1 W a0 cap0 hC hin w1).mono fun e W' ⟨he, bel⟩ => ?_
  subst he
  exact ⟨_, rfl, _, _, _, [], _, [], hW', trodAll_mk1 (shut_bool Try.underlying4 _), (trodAll_cons_mk (Below.trod laidOut (by kernel_rfl) (of_decide_eq_true (by kernel_rfl)) k0 bel lt0) (trodAll_cons_mk (shut_int Try.underlying3 w1) trodAll_mk0)), rfl, bel.frame _, fun h => by cases h⟩
theorem over : Rows.ssaoutSequencesRow.holds Try.pinned (OpenSpec.ofChange Rows.ssaoutSequencesSpec) :=
  OpenClaim.holds_of_wide 3 Try.f3 rfl rfl rfl rfl rfl rfl rfl ⟨rfl, rfl, rfl, rfl, rfl⟩ rfl rfl rfl rfl rfl (by kernel_rfl) Try.func3 (by kernel_rfl)
    (of_decide_eq_true (by kernel_rfl)) (by unfold Func.isWrapper; first | (rw [if_pos (by decide +kernel)]; kernel_rfl) | (rw [if_neg (by decide +kernel)]; exact ⟨rfl, rfl⟩))
    (fun os started H enc _ => lifted os started H enc)
theorem said : Rows.SsaoutSequencesSaid := over
end Go.Proofs.Ytdodmjnicnpefaa.ssaoutSequences
#print axioms Go.Proofs.Ytdodmjnicnpefaa.ssaoutSequences.said
