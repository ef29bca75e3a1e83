/- A part of the proof, made small by a program: S1. -/
import Derived.Test.YtboojhadfhpdeaaGreatDoorVp5
import Derived.Test.YtboojhadfhpdeaaGreatDoorVp10
import Derived.Test.YtboojhadfhpdeaaGreatDoorVp11
set_option linter.unusedVariables false
set_option linter.unusedSimpArgs false
set_option maxHeartbeats 8000000
set_option maxRecDepth 100000
namespace Go.Proofs.YtboojhadfhpdeaaGreatDoor.Q
open Go.RowKit Go.Proofs.YtboojhadfhpdeaaGreatDoorW.PrintWords Go.Proofs.YtboojhadfhpdeaaGreatDoor.Lex
abbrev gY (s : ByteArray) : Prop:=s.size ≤ 1048576
theorem gY.sm {s : ByteArray} (h : gY s) : Sm s:=by unfold gY at h;unfold Sm;omega
def jD (s : ByteArray) : Bool:=named s.data.toList && !Z85 s.data.toList
theorem nm_ast (s : ByteArray) (hs : gY s) : Ev (fun k => jB.f k s) (jD s):=by
 unfold jB.f jD;refine Ev.bind (BZ s hs.sm) ?_;cases hn : named s.data.toList with
 | true =>
  refine bD rfl (Ev.bind (DZ s hs.sm) ?_);exact Ev.now _
 | false => exact dM (by decide) (Ev.now _)
theorem nm_ref (s : ByteArray) (hs : gY s) : Ev (fun k => gu.f k s) (jD s):=by
 unfold gu.f jD;refine Ev.bind (Cb s hs.sm) ?_;cases hn : named s.data.toList with
 | true =>
  refine bD rfl (Ev.bind (D5 s hs.sm) ?_);exact Ev.now _
 | false => exact dM (by decide) (Ev.now _)
def nP (l w : Bs) : Bool:=!w.isEmpty && !w.contains 32 && qK ([32] ++ w ++ [32]) l
theorem contains_one (w : Bs) : Lib.contains w [32] = w.contains 32:=by
 rw [nD];induction w with
 | nil => rfl
 | cons c t ih =>
  unfold qK;rw [ih,List.contains_cons];congr 1;simp [List.isPrefixOf]
theorem Jr (l s : ByteArray) (hl : l.size ≤ 1000) (hs : gY s) : iM.f l s = some (nP ([32] ++ l.data.toList ++ [32]) s.data.toList):=by
 unfold gY at hs;unfold iM.f nP;by_cases h0 : s.toList = []
 · rw [if_pos h0];rw [Lib.toList_data] at h0;rw [h0];rfl
 · rw [if_neg h0];rw [Lib.toList_data] at h0;have e0 : s.data.toList.isEmpty = false:=by cases h : s.data.toList with
    | nil => exact absurd h h0
    | cons _ _ => rfl
   rw [e0];rw [show strings_Contains.f s ⟨#[32]⟩ = some (Lib.contains s.data.toList [32]) from by unfold strings_Contains.f;rw [if_pos (by omega)],Option.bind_some,contains_one];cases hc : s.data.toList.contains 32 with
   | true => rw [if_pos rfl];rfl
   | false =>
    have a1 : ((⟨#[32]⟩ : ByteArray) ++ l).size = 1 + l.size:=by rw [ByteArray.size_append];rfl
    have a2 : ((⟨#[32]⟩ : ByteArray) ++ s).size = 1 + s.size:=by rw [ByteArray.size_append];rfl
    have a3 : (((⟨#[32]⟩ : ByteArray) ++ l) ++ (⟨#[32]⟩ : ByteArray)).size = 1 + l.size + 1:=by rw [ByteArray.size_append,a1];rfl
    rw [if_neg (by decide),if_pos (by omega),if_pos (by omega),if_pos (by omega),if_pos (by omega)];unfold strings_Contains.f;rw [if_pos (by omega),Option.bind_some,ou,ou,ou,ou,nD];rfl
theorem wrap_a (i n : Nat) (h : i ≤ 1000) (hn : n ≤ 1048576) : wrap64 (wrap64 ((i : Int) + (n : Int)) + 2) = ((i + n + 2 : Nat) : Int):=by unfold wrap64;omega
theorem wrap_b (i n : Nat) (h : i ≤ 1000) (hn : n ≤ 1048576) : wrap64 (wrap64 ((i : Int) + 1) + (n : Int)) = ((i + 1 + n : Nat) : Int):=by unfold wrap64;omega
section
variable (t s : ByteArray)
theorem sign_no (hs : gY s) (hn : s.size ≠ 0 ∨ True) (d : Nat) : ∀ i : Nat,i ≤ s.size → s.size - i = d → (suf s i).contains 32 = true → Ev (fun k => aK.l0 k t s (i : Int)) false:=by
 unfold gY at hs;induction d with
 | zero =>
  intro i hi hd hc;rw [Z68 s i (by omega)] at hc;cases hc
 | succ d ih =>
  intro i hi hd hc;obtain ⟨c,hc1,hb⟩:=nO s i (by omega);refine Ev.step (fun k => by rw [aK.l0]) (bD (by omega) (bD (by omega) ?_));rw [hb];rw [hc1,List.contains_cons] at hc;by_cases h32 : c = 32
  · exact bD (by rw [h32];rfl) (Ev.now _)
  · refine dM (fun e => h32 (UInt8.toNat_inj.1 (by have : (32 : UInt8).toNat = 32:=rfl;omega))) ?_;rw [w1 i (by omega)];refine ih (i + 1) (by omega) (by omega) ?_;rw [show ((32 : UInt8) == c) = false from beq_eq_false_iff_ne.2 (fun e => h32 e.symm),Bool.false_or] at hc;exact hc
theorem sign_yes (hs : gY s) (r : Bool) (d : Nat) : ∀ i : Nat,i ≤ s.size → s.size - i = d → (suf s i).contains 32 = false → Ev (fun k => aK.l1 k t s 0) r → Ev (fun k => aK.l0 k t s (i : Int)) r:=by
 unfold gY at hs;induction d with
 | zero =>
  intro i hi hd hc h;exact Ev.step (fun k => by rw [aK.l0]) (dM (by omega) h)
 | succ d ih =>
  intro i hi hd hc h;obtain ⟨c,hc1,hb⟩:=nO s i (by omega);refine Ev.step (fun k => by rw [aK.l0]) (bD (by omega) (bD (by omega) ?_));rw [hb];rw [hc1,List.contains_cons,Bool.or_eq_false_iff] at hc;have h32 : c ≠ 32:=fun e => by rw [e] at hc;exact absurd hc.1 (by decide)
  refine dM (fun e => h32 (UInt8.toNat_inj.1 (by have : (32 : UInt8).toNat = 32:=rfl;omega))) ?_;rw [w1 i (by omega)];exact ih (i + 1) (by omega) (by omega) hc.2 h
theorem Me (ht : t.size ≤ 1000) (hs : gY s) (d : Nat) : ∀ i : Nat,i ≤ t.size → t.size - i = d → Ev (fun k => aK.l1 k t s (i : Int)) (qK ([32] ++ s.data.toList ++ [32]) (suf t i)):=by
 unfold gY at hs;have hp : ([32] ++ s.data.toList ++ [32] : Bs).length = s.size + 2:=by
  rw [List.length_append,List.length_append,← Lib.size_eq];simp only [List.length_cons,List.length_nil];omega
 have hl (i : Nat) : (suf t i).length = t.size - i:=Z78 t i;induction d with
 | zero =>
  intro i hi hd;have e1 : wrap64 (wrap64 ((i : Int) + (s.size : Int)) + 2) = ((i + s.size + 2 : Nat) : Int):=wrap_a i s.size (by omega) hs;refine Ev.step (fun k => by rw [aK.l1]) (dM (by rw [e1];omega) ?_);rw [oJ _ _ (by rw [hl,hp];omega)];exact Ev.now _
 | succ d ih =>
  intro i hi hd;have e1 : wrap64 (wrap64 ((i : Int) + (s.size : Int)) + 2) = ((i + s.size + 2 : Nat) : Int):=wrap_a i s.size (by omega) hs;refine Ev.step (fun k => by rw [aK.l1]) ?_;by_cases hr : i + s.size + 2 ≤ t.size
  · obtain ⟨c,hc,hb⟩:=nO t i (by omega);have e2 : wrap64 (wrap64 ((i : Int) + 1) + (s.size : Int)) = ((i + 1 + s.size : Nat) : Int):=wrap_b i s.size (by omega) hs;have next:=ih (i + 1) (by omega) (by omega)
    have hsp:=xw s.data.toList c (suf t (i + 1));refine bD (by rw [e1];omega) (bD (by omega) (bD (by omega) ?_));rw [hb];rw [hc];unfold qK;by_cases h32 : c = 32
    · refine bD (by rw [h32];rfl) ?_;rw [e2,w1 i (by omega)];refine bD (by omega) (bD (by omega) (bD (by omega) ?_));have hx : ((t.extract (((i + 1 : Nat) : Int)).toNat (((i + 1 + s.size : Nat) : Int)).toNat).toList = s.toList) ↔ (suf t (i + 1)).take s.data.toList.length = s.data.toList:=by
       rw [Lib.toList_data,Lib.toList_data,Lib.extract_data,Int.toNat_natCast,Int.toNat_natCast,← Lib.size_eq,Nat.add_sub_cancel_left];rfl
      by_cases heq : (suf t (i + 1)).take s.data.toList.length = s.data.toList
      · refine bD (hx.2 heq) (bD (by omega) (bD (by omega) ?_));obtain ⟨c2,hc2,hb2⟩:=nO t (i + 1 + s.size) (by omega);rw [hb2];have hd2 : (suf t (i + 1)).drop s.data.toList.length = c2 :: suf t (i + 1 + s.size + 1):=by rw [← Lib.size_eq,Z86,hc2]
        by_cases h2 : c2 = 32
        · refine bD (by rw [h2];rfl) ?_;rw [hsp.2 ⟨h32,heq,by rw [hd2,h2];rfl⟩,Bool.true_or];exact Ev.now _
        · refine dM (fun e => h2 (UInt8.toNat_inj.1 (by have : (32 : UInt8).toNat = 32:=rfl;omega))) ?_;have : ([32] ++ s.data.toList ++ [32] : Bs).isPrefixOf (c :: suf t (i + 1)) = false:=by
           rw [Bool.eq_false_iff];intro h;have h3:=(hsp.1 h).2.2;rw [hd2] at h3;simp only [List.head?_cons,Option.some.injEq] at h3;exact h2 h3
          rw [this,Bool.false_or];exact next
      · refine dM (fun h => heq (hx.1 h)) ?_;have : ([32] ++ s.data.toList ++ [32] : Bs).isPrefixOf (c :: suf t (i + 1)) = false:=by
         rw [Bool.eq_false_iff];exact fun h => heq (hsp.1 h).2.1
        rw [this,Bool.false_or];exact next
    · refine dM (fun e => h32 (UInt8.toNat_inj.1 (by have : (32 : UInt8).toNat = 32:=rfl;omega))) ?_;have : ([32] ++ s.data.toList ++ [32] : Bs).isPrefixOf (c :: suf t (i + 1)) = false:=by
       rw [Bool.eq_false_iff];exact fun h => h32 (hsp.1 h).1
      rw [this,Bool.false_or,w1 i (by omega)];exact next
  · refine dM (by rw [e1];omega) ?_;rw [oJ _ _ (by rw [hl,hp];omega)];exact Ev.now _
end
theorem sign_ref (t s : ByteArray) (ht : t.size ≤ 1000) (hs : gY s) : Ev (fun k => aK.f k t s) (nP t.data.toList s.data.toList):=by
 unfold aK.f nP;by_cases h0 : s.toList = []
 · refine bD h0 ?_;rw [Lib.toList_data] at h0;rw [h0];exact Ev.now _
 · refine dM h0 ?_;rw [Lib.toList_data] at h0;have e0 : s.data.toList.isEmpty = false:=by cases h : s.data.toList with
    | nil => exact absurd h h0
    | cons _ _ => rfl
   rw [e0];cases hc : s.data.toList.contains 32 with
   | true => exact sign_no t s hs (Or.inr trivial) s.size 0 (by omega) rfl hc
   | false => exact sign_yes t s hs _ s.size 0 (by omega) rfl hc (Me t s ht hs t.size 0 (by omega) rfl)
end Go.Proofs.YtboojhadfhpdeaaGreatDoor.Q
