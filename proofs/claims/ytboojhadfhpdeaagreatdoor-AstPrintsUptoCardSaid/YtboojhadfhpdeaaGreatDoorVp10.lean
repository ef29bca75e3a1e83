/- A part of the proof, made small by a program: Nm. -/
import Derived.Lib.IndexAny
import Derived.Test.YtboojhadfhpdeaaGreatDoorVp2
import Derived.Test.YtboojhadfhpdeaaGreatDoorVp5
import Derived.Test.YtboojhadfhpdeaaGreatDoorVp9
set_option linter.unusedVariables false
set_option linter.unusedSimpArgs false
set_option maxHeartbeats 8000000
set_option maxRecDepth 100000
namespace Go.Proofs.YtboojhadfhpdeaaGreatDoor.Lex
open Go.RowKit Go.Proofs.YtboojhadfhpdeaaGreatDoorW.PrintWords Go.Proofs.YtboojhadfhpdeaaGreatDoor.Q
abbrev Bs:=List UInt8
def H8 (c : UInt8) : Bool:=decide (48 ≤ c.toNat) && decide (c.toNat ≤ 57)
def Bz (c : UInt8) : Bool:=(decide (97 ≤ c.toNat) && decide (c.toNat ≤ 122)) || (decide (65 ≤ c.toNat) && decide (c.toNat ≤ 90)) || decide (c.toNat = 95)
def wi (c : UInt8) : Bool:=H8 c || Bz c
def hexv (c : UInt8) : Nat :=
 if 48 ≤ c.toNat ∧ c.toNat ≤ 57 then c.toNat - 48
 else if 97 ≤ c.toNat ∧ c.toNat ≤ 102 then c.toNat - 97 + 10
 else if 65 ≤ c.toNat ∧ c.toNat ≤ 70 then c.toNat - 65 + 10
 else 99
def yK : Bs:=[32,98,114,101,97,107,32,99,104,97,114,32,99,111,110,116,105,110,117,101,32,100,111,32,101,108,115,101,32,102,111,114,32,103,101,116,98,121,116,101,32,105,102,32,105,110,116,32,112,117,116,98,121,116,101,32,114,101,116,117,114,110,32,115,105,122,101,111,102,32,115,116,114,117,99,116,32,117,105,110,116,32,118,111,105,100,32,119,104,105,108,101,32]
def named : Bs → Bool
 | [] => false
 | c :: r => !H8 c && (c :: r).all wi
def Z85 (s : Bs) : Bool:=named s && Lib.contains yK ([32] ++ s ++ [32])
section
variable {α β : Type} {r : α}
theorem bD {c : Prop} [Decidable c] {f g : Nat → Option α} (h : c) (k : Ev f r) : Ev (fun n => if c then f n else g n) r:=Ev.congr (fun n => if_pos h) k
theorem dM {c : Prop} [Decidable c] {f g : Nat → Option α} (h : ¬ c) (k : Ev g r) : Ev (fun n => if c then f n else g n) r:=Ev.congr (fun n => if_neg h) k
theorem Z65 {g : Option β} {b : β} {F : Nat → β → Option α} (h : g = some b) (k : Ev (fun n => F n b) r) : Ev (fun n => g.bind (F n)) r:=by
 subst h;exact k
end
theorem w1 (i : Nat) (h : i ≤ 4611686018427387904) : wrap64 ((i : Int) + 1) = ((i + 1 : Nat) : Int):=by unfold wrap64;omega
def suf (s : ByteArray) (i : Nat) : Bs:=s.data.toList.drop i
theorem Z78 (s : ByteArray) (i : Nat) : (suf s i).length = s.size - i:=by unfold suf;rw [List.length_drop,← Lib.size_eq]
theorem Z68 (s : ByteArray) (i : Nat) (h : s.size ≤ i) : suf s i = []:=by
 apply List.eq_nil_of_length_eq_zero;rw [Z78];omega
theorem nO (s : ByteArray) (i : Nat) (h : i < s.size) : ∃ c,suf s i = c :: suf s (i + 1) ∧ bt s (i : Int) = (c.toNat : Int):=by
 have h1:=Lib.data_getElem? s i h;have h2 : i < s.data.toList.length:=by rw [← Lib.size_eq];exact h
 refine ⟨s[i],?_,?_⟩
 · unfold suf;rw [List.drop_eq_getElem_cons h2];rw [List.getElem?_eq_getElem h2] at h1;rw [Option.some.inj h1]
 · unfold bt;rw [dif_pos (by simpa using h)];rfl
theorem Z86 (s : ByteArray) (i k : Nat) : (suf s i).drop k = suf s (i + k):=by unfold suf;rw [List.drop_drop]
theorem ext_suf (s : ByteArray) (i : Nat) : (s.extract ((i : Nat) : Int).toNat s.size).data.toList = suf s i:=by
 rw [Int.toNat_natCast];exact Lib.extract_to_end s i
theorem ext_size (s : ByteArray) (i : Nat) : (s.extract ((i : Nat) : Int).toNat s.size).size ≤ s.size:=by
 rw [Lib.size_eq,ext_suf,Z78];omega
theorem Z87 (c : UInt8) : Ev (fun k => yu.f k (c.toNat : Int)) (hexv c : Int):=by
 have hc:=c.toNat_lt;unfold hexv;by_cases h1 : 48 ≤ c.toNat ∧ c.toNat ≤ 57
 · rw [if_pos h1];refine bD (by omega) (Ev.step (fun k => by rw [yu.j0]) (bD (by simp;omega) ?_));have : ((c.toNat : Int) - 48) % 256 = ((c.toNat - 48 : Nat) : Int):=by omega
   rw [this];exact Ev.now _
 · rw [if_neg h1];have key : Ev (fun k => yu.j0 k (c.toNat : Int) false) ((if 97 ≤ c.toNat ∧ c.toNat ≤ 102 then c.toNat - 97 + 10 else if 65 ≤ c.toNat ∧ c.toNat ≤ 70 then c.toNat - 65 + 10 else 99 : Nat) : Int):=by
    refine Ev.step (fun k => by rw [yu.j0]) (dM (by simp) ?_);have low : ¬ (97 ≤ c.toNat ∧ c.toNat ≤ 102) → Ev (fun k => yu.j1 k (c.toNat : Int) false) ((if 97 ≤ c.toNat ∧ c.toNat ≤ 102 then c.toNat - 97 + 10 else if 65 ≤ c.toNat ∧ c.toNat ≤ 70 then c.toNat - 65 + 10 else 99 : Nat) : Int):=by
     intro h2;rw [if_neg h2];refine Ev.step (fun k => by rw [yu.j1]) (dM (by simp) ?_);by_cases h3 : 65 ≤ c.toNat
     · refine bD (by omega) ?_;by_cases h4 : c.toNat ≤ 70
       · refine bD (by omega) ?_;rw [if_pos ⟨h3,h4⟩];have : ((c.toNat : Int) - 65) % 256 + 10 = ((c.toNat - 65 + 10 : Nat) : Int):=by omega
         rw [this];exact Ev.now _
       · refine dM (by omega) ?_;rw [if_neg (by omega)];exact Ev.now _
     · refine dM (by omega) ?_;rw [if_neg (by omega)];exact Ev.now _
    by_cases h2 : 97 ≤ c.toNat
    · refine bD (by omega) ?_;by_cases h3 : c.toNat ≤ 102
      · rw [decide_eq_true (by omega),if_pos ⟨h2,h3⟩];refine Ev.step (fun k => by rw [yu.j1]) (bD rfl ?_);have : ((c.toNat : Int) - 97) % 256 + 10 = ((c.toNat - 97 + 10 : Nat) : Int):=by omega
        rw [this];exact Ev.now _
      · rw [decide_eq_false (by omega)];exact low (by omega)
    · refine dM (by omega) ?_;exact low (by omega)
   by_cases h2 : 48 ≤ c.toNat
   · refine bD (by omega) ?_;rw [decide_eq_false (by omega)];exact key
   · refine dM (by omega) ?_;exact key
theorem Mc (c : UInt8) : hexv c < 10 ↔ H8 c = true:=by
 unfold hexv H8;simp only [Bool.and_eq_true,decide_eq_true_eq]
 split
 · omega
 · split
   · omega
   · split <;> omega
theorem wi_some (c : UInt8) : Z37.f (c.toNat : Int) = some (wi c):=by
 have hc:=c.toNat_lt;have e : ((c.toNat : Int) == 95) = decide (c.toNat = 95):=by
  by_cases h : c.toNat = 95
  · simp [h]
  · rw [decide_eq_false h];simp;omega
 unfold Z37.f wi H8 Bz;rw [e]
 repeat' split
 all_goals refine congrArg some ?_
 all_goals rw [Bool.eq_iff_iff]
 all_goals simp only [Bool.or_eq_true,Bool.and_eq_true,decide_eq_true_eq,true_iff]
 all_goals omega
theorem Fq (c : UInt8) : Z35.f (c.toNat : Int) = some (Bz c):=by
 have hc:=c.toNat_lt;have e : ((c.toNat : Int) == 95) = decide (c.toNat = 95):=by
  by_cases h : c.toNat = 95
  · simp [h]
  · rw [decide_eq_false h];simp;omega
 unfold Z35.f Bz;rw [e]
 repeat' split
 all_goals refine congrArg some ?_
 all_goals rw [Bool.eq_iff_iff]
 all_goals simp only [Bool.or_eq_true,Bool.and_eq_true,decide_eq_true_eq,true_iff]
 all_goals omega
theorem dig_ref (c : UInt8) : Z33.f (c.toNat : Int) = some (H8 c):=by
 unfold Z33.f H8
 split
 all_goals refine congrArg some ?_
 all_goals rw [Bool.eq_iff_iff]
 all_goals simp only [Bool.and_eq_true,decide_eq_true_eq,Bool.false_eq_true,false_iff]
 all_goals omega
abbrev Sm (s : ByteArray) : Prop:=s.size ≤ 1152921504606846976
theorem DY (a t : Bs) (h : a.length < t.length) : t.isPrefixOf a = false:=by
 rw [Bool.eq_false_iff];intro e;have:=(List.isPrefixOf_iff_prefix.1 e).length_le;omega
theorem let_wi (c : UInt8) : Bz c = (wi c && !H8 c):=by
 unfold wi Bz H8;rw [Bool.eq_iff_iff];simp only [Bool.or_eq_true,Bool.and_eq_true,decide_eq_true_eq,Bool.not_eq_true',Bool.and_eq_false_iff,decide_eq_false_iff_not];omega
theorem Md (s : ByteArray) (hs : Sm s) (d : Nat) : ∀ i : Nat,i ≤ s.size → s.size - i = d → Ev (fun k => sW.l0 k s (s.size : Int) (i : Int)) ((suf s i).all wi):=by
 unfold Sm at hs;induction d with
 | zero =>
  intro i hi hd;refine Ev.step (fun k => by rw [sW.l0]) (dM (by omega) ?_);rw [Z68 s i (by omega)];exact Ev.now _
 | succ d ih =>
  intro i hi hd;obtain ⟨c,hc,hb⟩:=nO s i (by omega);refine Ev.step (fun k => by rw [sW.l0]) (bD (by omega) (bD (by omega) (bD (by omega) ?_)));rw [hb];refine Z65 (wi_some c) ?_;rw [hc,List.all_cons];cases hw : wi c with
  | true =>
   refine bD rfl ?_;rw [w1 i (by omega),Bool.true_and];exact ih (i + 1) (by omega) (by omega)
  | false => exact dM (by decide) (Ev.now _)
theorem zL (s : ByteArray) : s.toList = [] ↔ s.size = 0:=by
 rw [Lib.toList_data,Lib.size_eq];exact List.eq_nil_iff_length_eq_zero
theorem suf0 (s : ByteArray) : suf s 0 = s.data.toList:=rfl
theorem BZ (s : ByteArray) (hs : Sm s) : Ev (fun k => sW.f k s) (named s.data.toList):=by
 unfold sW.f;by_cases h0 : s.size = 0
 · refine bD ((zL s).2 h0) (Ev.step (fun k => by rw [sW.j0]) (bD rfl ?_));rw [← suf0,Z68 s 0 (by omega)];exact Ev.now _
 · refine dM (fun h => h0 ((zL s).1 h)) (bD (by omega) ?_);obtain ⟨c,hc,hb⟩:=nO s 0 (by omega);rw [show (bt s 0) = (c.toNat : Int) from hb];refine Ev.bind (Z87 c) ?_;rw [← suf0,hc];have hn : named (c :: suf s (0 + 1)) = (!H8 c && (suf s 0).all wi):=by rw [hc];rfl
   rw [hn];refine Ev.step (fun k => by rw [sW.j0]) ?_;have hd:=Mc c;cases hg : H8 c with
   | true =>
    have h1:=hd.2 hg;exact bD (by simp;omega) (Ev.now _)
   | false =>
    have h1 : ¬ hexv c < 10:=fun h => by rw [hd.1 h] at hg;cases hg
    refine dM (by simp;omega) ?_;exact Md s hs s.size 0 (by omega) rfl
theorem Af (s : ByteArray) (hs : Sm s) (d : Nat) : ∀ i : Nat,1 ≤ i → i ≤ s.size → s.size - i = d → Ev (fun k => vJ.l0 k s (i : Int)) ((suf s i).all wi):=by
 unfold Sm at hs;induction d with
 | zero =>
  intro i h1 hi hd;refine Ev.step (fun k => by rw [vJ.l0]) (dM (by omega) ?_);rw [Z68 s i (by omega)];have : (s.toList != ([] : List UInt8)) = true:=by
   rw [bne_iff_ne];exact fun h => by have:=(zL s).1 h;omega
  rw [this];exact Ev.now _
 | succ d ih =>
  intro i h1 hi hd;obtain ⟨c,hc,hb⟩:=nO s i (by omega);refine Ev.step (fun k => by rw [vJ.l0]) (bD (by omega) (bD (by omega) ?_));rw [hb];refine Z65 (Fq c) ?_;rw [hc,List.all_cons];have next:=ih (i + 1) (by omega) (by omega) (by omega)
  cases hl : Bz c with
  | true =>
   refine bD rfl ?_;have hw : wi c = true:=by unfold wi;rw [hl,Bool.or_true]
   rw [w1 i (by omega),hw,Bool.true_and];exact next
  | false =>
   refine dM (by decide) (dM (by omega) (Z65 (dig_ref c) ?_));cases hg : H8 c with
   | true =>
    refine bD rfl ?_;have hw : wi c = true:=by unfold wi;rw [hg,Bool.true_or]
    rw [w1 i (by omega),hw,Bool.true_and];exact next
   | false =>
    have hw : wi c = false:=by unfold wi;rw [hg,hl];rfl
    rw [hw];exact dM (by decide) (Ev.now _)
theorem Cb (s : ByteArray) (hs : Sm s) : Ev (fun k => vJ.f k s) (named s.data.toList):=by
 unfold vJ.f;rw [← suf0];by_cases h0 : s.size = 0
 · refine Ev.step (fun k => by rw [vJ.l0]) (dM (by omega) ?_);rw [Z68 s 0 (by omega)];have : (s.toList != ([] : List UInt8)) = false:=by
    rw [(zL s).2 h0];rfl
   rw [this];exact Ev.now _
 · obtain ⟨c,hc,hb⟩:=nO s 0 (by omega);refine Ev.step (fun k => by rw [vJ.l0]) (bD (by omega) (bD (by omega) ?_));rw [show (bt s 0) = (c.toNat : Int) from hb];refine Z65 (Fq c) ?_;rw [hc];have hn : named (c :: suf s (0 + 1)) = (Bz c && (suf s 1).all wi):=by
    show (!H8 c && List.all (c :: suf s (0 + 1)) wi) = _
    rw [let_wi,List.all_cons,Nat.zero_add];cases H8 c <;> cases wi c <;> rfl
   rw [hn];cases hl : Bz c with
   | true =>
    refine bD rfl ?_;rw [Bool.true_and,show wrap64 (0 + 1) = ((1 : Nat) : Int) from w1 0 (by omega)];exact Af s hs (s.size - 1) 1 (by omega) (by omega) rfl
   | false => exact dM (by decide) (bD rfl (Ev.now _))
theorem ou (a b : ByteArray) : (a ++ b).data.toList = a.data.toList ++ b.data.toList:=by
 rw [ByteArray.data_append,Array.toList_append]
def qK (pat : Bs) : Bs → Bool
 | [] => pat.isEmpty
 | b :: l => pat.isPrefixOf (b :: l) || qK pat l
theorem nD (pat : Bs) : ∀ l : Bs,Lib.contains l pat = qK pat l
 | [] => by
  unfold Lib.contains Lib.index qK;cases pat <;> rfl
 | b :: l => by
  have h:=nD pat l;have hg:=Lib.index_ge l pat;unfold Lib.contains at h ⊢;unfold Lib.index qK;cases hp : pat.isPrefixOf (b :: l) with
  | true => rfl
  | false =>
   rw [if_neg (by decide),Bool.false_or,← h];by_cases h1 : Lib.index l pat = -1
   · rw [h1];rfl
   · have h3 : (Lib.index l pat == -1) = false:=by rw [beq_eq_false_iff_ne];exact h1
     rw [h3,if_neg (by decide)];rw [Bool.eq_iff_iff,decide_eq_true_iff,decide_eq_true_iff];omega
theorem oJ (pat : Bs) : ∀ l : Bs,l.length < pat.length → qK pat l = false
 | [],h => by
  cases pat with
  | nil => simp at h
  | cons _ _ => rfl
 | b :: l,h => by
  unfold qK;rw [DY _ _ h,oJ pat l (by simp only [List.length_cons] at h;omega)];rfl
theorem DZ (s : ByteArray) (hs : Sm s) : Ev (fun k => Z42.f k s) (Z85 s.data.toList):=by
 unfold Z42.f Z85;refine Ev.bind (BZ s hs) ?_;unfold Sm at hs;cases hn : named s.data.toList with
 | true =>
  have h1 : ((⟨#[32]⟩ : ByteArray) ++ s).size = 1 + s.size:=by rw [ByteArray.size_append];rfl
  refine bD rfl (bD (by omega) (bD (by omega) ?_));refine Z65 (show strings_Contains.f _ _ = some (Lib.contains yK ([32] ++ s.data.toList ++ [32])) by
   unfold strings_Contains.f;rw [if_pos (by decide),ou,ou];rfl) ?_
  exact Ev.now _
 | false => exact dM (by decide) (Ev.now _)
def lI : ByteArray:=⟨#[32,98,114,101,97,107,32,99,104,97,114,32,99,111,110,116,105,110,117,101,32,100,111,32,101,108,115,101,32,102,111,114,32,103,101,116,98,121,116,101,32,105,102,32,105,110,116,32,112,117,116,98,121,116,101,32,114,101,116,117,114,110,32,115,105,122,101,111,102,32,115,116,114,117,99,116,32,117,105,110,116,32,118,111,105,100,32,119,104,105,108,101,32]⟩
theorem tN : lI.size = 93:=rfl
theorem Fv : lI.data.toList = yK:=rfl
theorem xw (s : Bs) (c : UInt8) (t : Bs) : ([32] ++ s ++ [32]).isPrefixOf (c :: t) = true ↔ c = 32 ∧ t.take s.length = s ∧ (t.drop s.length).head? = some 32:=by
 rw [List.isPrefixOf_iff_prefix];constructor
 · rintro ⟨u,hu⟩;simp only [List.cons_append,List.nil_append,List.append_assoc,List.cons.injEq] at hu;obtain ⟨h1,h2⟩:=hu;subst h2;exact ⟨h1.symm,by simp,by simp⟩
 · rintro ⟨h1,h2,h3⟩;subst h1;cases hd : t.drop s.length with
   | nil => rw [hd] at h3;simp at h3
   | cons x u =>
    rw [hd] at h3;simp only [List.head?_cons,Option.some.injEq] at h3;subst h3;refine ⟨u,?_⟩;have:=List.take_append_drop s.length t;rw [h2,hd] at this;simp [← this]
theorem xA (s : ByteArray) (hs : Sm s) (d : Nat) : ∀ i : Nat,i ≤ 93 → 93 - i = d → Ev (fun k => zl.l0 k s (i : Int)) (qK ([32] ++ s.data.toList ++ [32]) (suf lI i)):=by
 unfold Sm at hs;have hp : ([32] ++ s.data.toList ++ [32] : Bs).length = s.size + 2:=by
  rw [List.length_append,List.length_append,← Lib.size_eq];simp only [List.length_cons,List.length_nil];omega
 have hl (i : Nat) : (suf lI i).length = 93 - i:=by rw [Z78,tN]
 induction d with
 | zero =>
  intro i hi hd;have e1 : wrap64 (wrap64 ((i : Int) + (s.size : Int)) + 2) = ((i + s.size + 2 : Nat) : Int):=by unfold wrap64;omega
  refine Ev.step (fun k => by rw [zl.l0]) (dM (by rw [e1];omega) ?_);rw [oJ _ _ (by rw [hl,hp];omega)];exact Ev.now _
 | succ d ih =>
  intro i hi hd;have e1 : wrap64 (wrap64 ((i : Int) + (s.size : Int)) + 2) = ((i + s.size + 2 : Nat) : Int):=by unfold wrap64;omega
  refine Ev.step (fun k => by rw [zl.l0]) ?_;by_cases hr : i + s.size + 2 ≤ 93
  · obtain ⟨c,hc,hb⟩:=nO lI i (by rw [tN];omega);have e2 : wrap64 (wrap64 ((i : Int) + 1) + (s.size : Int)) = ((i + 1 + s.size : Nat) : Int):=by unfold wrap64;omega
    have next:=ih (i + 1) (by omega) (by omega)
    have hsp:=xw s.data.toList c (suf lI (i + 1));refine bD (by rw [e1];omega) (bD (by omega) (bD (by omega) ?_));rw [show bt (⟨#[32,98,114,101,97,107,32,99,104,97,114,32,99,111,110,116,105,110,117,101,32,100,111,32,101,108,115,101,32,102,111,114,32,103,101,116,98,121,116,101,32,105,102,32,105,110,116,32,112,117,116,98,121,116,101,32,114,101,116,117,114,110,32,115,105,122,101,111,102,32,115,116,114,117,99,116,32,117,105,110,116,32,118,111,105,100,32,119,104,105,108,101,32]⟩ : ByteArray) (i : Int) = (c.toNat : Int) from hb];rw [hc];unfold qK;by_cases h32 : c = 32
    · refine bD (by rw [h32];rfl) ?_;rw [e2,w1 i (by omega)];refine bD (by omega) (bD (by omega) (bD (by omega) ?_));have hx : ((lI.extract (((i + 1 : Nat) : Int)).toNat (((i + 1 + s.size : Nat) : Int)).toNat).toList = s.toList) ↔ (suf lI (i + 1)).take s.data.toList.length = s.data.toList:=by
       rw [Lib.toList_data,Lib.toList_data,Lib.extract_data,Int.toNat_natCast,Int.toNat_natCast,← Lib.size_eq,Nat.add_sub_cancel_left];rfl
      by_cases heq : (suf lI (i + 1)).take s.data.toList.length = s.data.toList
      · refine bD (hx.2 heq) (bD (by omega) (bD (by omega) ?_));obtain ⟨c2,hc2,hb2⟩:=nO lI (i + 1 + s.size) (by rw [tN];omega);rw [show bt (⟨#[32,98,114,101,97,107,32,99,104,97,114,32,99,111,110,116,105,110,117,101,32,100,111,32,101,108,115,101,32,102,111,114,32,103,101,116,98,121,116,101,32,105,102,32,105,110,116,32,112,117,116,98,121,116,101,32,114,101,116,117,114,110,32,115,105,122,101,111,102,32,115,116,114,117,99,116,32,117,105,110,116,32,118,111,105,100,32,119,104,105,108,101,32]⟩ : ByteArray) ((i + 1 + s.size : Nat) : Int) = (c2.toNat : Int) from hb2];have hd2 : (suf lI (i + 1)).drop s.data.toList.length = c2 :: suf lI (i + 1 + s.size + 1):=by rw [← Lib.size_eq,Z86,hc2]
        by_cases h2 : c2 = 32
        · refine bD (by rw [h2];rfl) ?_;rw [hsp.2 ⟨h32,heq,by rw [hd2,h2];rfl⟩,Bool.true_or];exact Ev.now _
        · refine dM (fun e => h2 (UInt8.toNat_inj.1 (by have : (32 : UInt8).toNat = 32:=rfl;omega))) ?_;have : ([32] ++ s.data.toList ++ [32] : Bs).isPrefixOf (c :: suf lI (i + 1)) = false:=by
           rw [Bool.eq_false_iff];intro h;have h3:=(hsp.1 h).2.2;rw [hd2] at h3;simp only [List.head?_cons,Option.some.injEq] at h3;exact h2 h3
          rw [this,Bool.false_or];exact next
      · refine dM (fun h => heq (hx.1 h)) ?_;have : ([32] ++ s.data.toList ++ [32] : Bs).isPrefixOf (c :: suf lI (i + 1)) = false:=by
         rw [Bool.eq_false_iff];exact fun h => heq (hsp.1 h).2.1
        rw [this,Bool.false_or];exact next
    · refine dM (fun e => h32 (UInt8.toNat_inj.1 (by have : (32 : UInt8).toNat = 32:=rfl;omega))) ?_;have : ([32] ++ s.data.toList ++ [32] : Bs).isPrefixOf (c :: suf lI (i + 1)) = false:=by
       rw [Bool.eq_false_iff];exact fun h => h32 (hsp.1 h).1
      rw [this,Bool.false_or,w1 i (by omega)];exact next
  · refine dM (by rw [e1];omega) ?_;rw [oJ _ _ (by rw [hl,hp];omega)];exact Ev.now _
theorem D5 (s : ByteArray) (hs : Sm s) : Ev (fun k => zl.f k s) (Z85 s.data.toList):=by
 unfold zl.f Z85;refine Ev.bind (Cb s hs) ?_;cases hn : named s.data.toList with
 | true =>
  refine bD rfl ?_;rw [Bool.true_and,nD,← Fv];exact xA s hs 93 0 (by omega) rfl
 | false => exact dM (by decide) (Ev.now _)
end Go.Proofs.YtboojhadfhpdeaaGreatDoor.Lex
