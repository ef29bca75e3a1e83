/- A part of the proof, made small by a program: S1, S2, A1. -/
import Derived.Shelf.Abstract
import Derived.StillTactics
import Derived.StillTail
import Derived.Test.YtboojhadfhpdeaaGreatDoorVq2
import Derived.Test.YtboojhadfhpdeaaGreatDoorVq4
import Derived.Test.YtboojhadfhpdeaaGreatDoorVq8
import Derived.Test.YtboojhadfhpdeaaGreatDoorVq9
set_option linter.unusedVariables false
set_option linter.unusedSimpArgs false
set_option maxHeartbeats 8000000
set_option maxRecDepth 100000
namespace Go.Proofs.YtboojhadfhpdeaaGreatDoor.Q
open Go.RowKit Go.Proofs.YtboojhadfhpdeaaGreatDoorW.PrintWords Go.Proofs.YtboojhadfhpdeaaGreatDoor.Lex
abbrev oV (s : ByteArray) : Prop:=s.size ≤ 1048576
theorem oV.sm {s : ByteArray} (h : oV s) : Sm s:=by unfold oV at h;unfold Sm;omega
def uF (s : ByteArray) : Bool:=named s.data.toList && !reserved s.data.toList
theorem nm_ast (s : ByteArray) (hs : oV s) : Ev (fun k => jK.f k s) (uF s):=by
 unfold jK.f uF;refine Ev.bind (FB s hs.sm) ?_;cases hn : named s.data.toList with
 | true =>
  refine eH rfl (Ev.bind (IG s hs.sm) ?_);exact Ev.now _
 | false => exact iQ (by decide) (Ev.now _)
theorem nm_ref (s : ByteArray) (hs : oV s) : Ev (fun k => iO.f k s) (uF s):=by
 unfold iO.f uF;refine Ev.bind (FC s hs.sm) ?_;cases hn : named s.data.toList with
 | true =>
  refine eH rfl (Ev.bind (II s hs.sm) ?_);exact Ev.now _
 | false => exact iQ (by decide) (Ev.now _)
def IJ (l w : Bs) : Bool:=!w.isEmpty && !w.contains 32 && uS ([32] ++ w ++ [32]) l
theorem contains_one (w : Bs) : Lib.contains w [32] = w.contains 32:=by
 rw [qB];induction w with
 | nil => rfl
 | cons c t ih =>
  unfold uS;rw [ih,List.contains_cons];congr 1;simp [List.isPrefixOf]
theorem Pg (l s : ByteArray) (hl : l.size ≤ 1000) (hs : oV s) : kD.f l s = some (IJ ([32] ++ l.data.toList ++ [32]) s.data.toList):=by
 unfold oV at hs;unfold kD.f IJ;by_cases h0 : s.toList = []
 · rw [if_pos h0];rw [Lib.toList_data] at h0;rw [h0];rfl
 · rw [if_neg h0];rw [Lib.toList_data] at h0;have e0 : s.data.toList.isEmpty = false:=by cases h : s.data.toList with
    | nil => exact absurd h h0
    | cons _ _ => rfl
   rw [e0];rw [show strings_Contains.f s ⟨#[32]⟩ = some (Lib.contains s.data.toList [32]) from by unfold strings_Contains.f;rw [if_pos (by omega)],Option.bind_some,contains_one];cases hc : s.data.toList.contains 32 with
   | true => rw [if_pos rfl];rfl
   | false =>
    have a1 : ((⟨#[32]⟩ : ByteArray) ++ l).size = 1 + l.size:=by rw [ByteArray.size_append];rfl
    have a2 : ((⟨#[32]⟩ : ByteArray) ++ s).size = 1 + s.size:=by rw [ByteArray.size_append];rfl
    have a3 : (((⟨#[32]⟩ : ByteArray) ++ l) ++ (⟨#[32]⟩ : ByteArray)).size = 1 + l.size + 1:=by rw [ByteArray.size_append,a1];rfl
    rw [if_neg (by decide),if_pos (by omega),if_pos (by omega),if_pos (by omega),if_pos (by omega)];unfold strings_Contains.f;rw [if_pos (by omega),Option.bind_some,su,su,su,su,qB];rfl
theorem wrap_a (i n : Nat) (h : i ≤ 1000) (hn : n ≤ 1048576) : wrap64 (wrap64 ((i : Int) + (n : Int)) + 2) = ((i + n + 2 : Nat) : Int):=by unfold wrap64;omega
theorem wrap_b (i n : Nat) (h : i ≤ 1000) (hn : n ≤ 1048576) : wrap64 (wrap64 ((i : Int) + 1) + (n : Int)) = ((i + 1 + n : Nat) : Int):=by unfold wrap64;omega
section
variable (t s : ByteArray)
theorem sign_no (hs : oV s) (hn : s.size ≠ 0 ∨ True) (d : Nat) : ∀ i : Nat,i ≤ s.size → s.size - i = d → (suf s i).contains 32 = true → Ev (fun k => bF.l0 k t s (i : Int)) false:=by
 unfold oV at hs;induction d with
 | zero =>
  intro i hi hd hc;rw [xH s i (by omega)] at hc;cases hc
 | succ d ih =>
  intro i hi hd hc;obtain ⟨c,hc1,hb⟩:=sU s i (by omega);refine Ev.step (fun k => by rw [bF.l0]) (eH (by omega) (eH (by omega) ?_));rw [hb];rw [hc1,List.contains_cons] at hc;by_cases h32 : c = 32
  · exact eH (by rw [h32];rfl) (Ev.now _)
  · refine iQ (fun e => h32 (UInt8.toNat_inj.1 (by have : (32 : UInt8).toNat = 32:=rfl;omega))) ?_;rw [w1 i (by omega)];refine ih (i + 1) (by omega) (by omega) ?_;rw [show ((32 : UInt8) == c) = false from beq_eq_false_iff_ne.2 (fun e => h32 e.symm),Bool.false_or] at hc;exact hc
theorem sign_yes (hs : oV s) (r : Bool) (d : Nat) : ∀ i : Nat,i ≤ s.size → s.size - i = d → (suf s i).contains 32 = false → Ev (fun k => bF.l1 k t s 0) r → Ev (fun k => bF.l0 k t s (i : Int)) r:=by
 unfold oV at hs;induction d with
 | zero =>
  intro i hi hd hc h;exact Ev.step (fun k => by rw [bF.l0]) (iQ (by omega) h)
 | succ d ih =>
  intro i hi hd hc h;obtain ⟨c,hc1,hb⟩:=sU s i (by omega);refine Ev.step (fun k => by rw [bF.l0]) (eH (by omega) (eH (by omega) ?_));rw [hb];rw [hc1,List.contains_cons,Bool.or_eq_false_iff] at hc;have h32 : c ≠ 32:=fun e => by rw [e] at hc;exact absurd hc.1 (by decide)
  refine iQ (fun e => h32 (UInt8.toNat_inj.1 (by have : (32 : UInt8).toNat = 32:=rfl;omega))) ?_;rw [w1 i (by omega)];exact ih (i + 1) (by omega) (by omega) hc.2 h
theorem Rh (ht : t.size ≤ 1000) (hs : oV s) (d : Nat) : ∀ i : Nat,i ≤ t.size → t.size - i = d → Ev (fun k => bF.l1 k t s (i : Int)) (uS ([32] ++ s.data.toList ++ [32]) (suf t i)):=by
 unfold oV at hs;have hp : ([32] ++ s.data.toList ++ [32] : Bs).length = s.size + 2:=by
  rw [List.length_append,List.length_append,← Lib.size_eq];simp only [List.length_cons,List.length_nil];omega
 have hl (i : Nat) : (suf t i).length = t.size - i:=Cc t i;induction d with
 | zero =>
  intro i hi hd;have e1 : wrap64 (wrap64 ((i : Int) + (s.size : Int)) + 2) = ((i + s.size + 2 : Nat) : Int):=wrap_a i s.size (by omega) hs;refine Ev.step (fun k => by rw [bF.l1]) (iQ (by rw [e1];omega) ?_);rw [sV _ _ (by rw [hl,hp];omega)];exact Ev.now _
 | succ d ih =>
  intro i hi hd;have e1 : wrap64 (wrap64 ((i : Int) + (s.size : Int)) + 2) = ((i + s.size + 2 : Nat) : Int):=wrap_a i s.size (by omega) hs;refine Ev.step (fun k => by rw [bF.l1]) ?_;by_cases hr : i + s.size + 2 ≤ t.size
  · obtain ⟨c,hc,hb⟩:=sU t i (by omega);have e2 : wrap64 (wrap64 ((i : Int) + 1) + (s.size : Int)) = ((i + 1 + s.size : Nat) : Int):=wrap_b i s.size (by omega) hs;have next:=ih (i + 1) (by omega) (by omega)
    have hsp:=zi s.data.toList c (suf t (i + 1));refine eH (by rw [e1];omega) (eH (by omega) (eH (by omega) ?_));rw [hb];rw [hc];unfold uS;by_cases h32 : c = 32
    · refine eH (by rw [h32];rfl) ?_;rw [e2,w1 i (by omega)];refine eH (by omega) (eH (by omega) (eH (by omega) ?_));have hx : ((t.extract (((i + 1 : Nat) : Int)).toNat (((i + 1 + s.size : Nat) : Int)).toNat).toList = s.toList) ↔ (suf t (i + 1)).take s.data.toList.length = s.data.toList:=by
       rw [Lib.toList_data,Lib.toList_data,Lib.extract_data,Int.toNat_natCast,Int.toNat_natCast,← Lib.size_eq,Nat.add_sub_cancel_left];rfl
      by_cases heq : (suf t (i + 1)).take s.data.toList.length = s.data.toList
      · refine eH (hx.2 heq) (eH (by omega) (eH (by omega) ?_));obtain ⟨c2,hc2,hb2⟩:=sU t (i + 1 + s.size) (by omega);rw [hb2];have hd2 : (suf t (i + 1)).drop s.data.toList.length = c2 :: suf t (i + 1 + s.size + 1):=by rw [← Lib.size_eq,JZ,hc2]
        by_cases h2 : c2 = 32
        · refine eH (by rw [h2];rfl) ?_;rw [hsp.2 ⟨h32,heq,by rw [hd2,h2];rfl⟩,Bool.true_or];exact Ev.now _
        · refine iQ (fun e => h2 (UInt8.toNat_inj.1 (by have : (32 : UInt8).toNat = 32:=rfl;omega))) ?_;have : ([32] ++ s.data.toList ++ [32] : Bs).isPrefixOf (c :: suf t (i + 1)) = false:=by
           rw [Bool.eq_false_iff];intro h;have h3:=(hsp.1 h).2.2;rw [hd2] at h3;simp only [List.head?_cons,Option.some.injEq] at h3;exact h2 h3
          rw [this,Bool.false_or];exact next
      · refine iQ (fun h => heq (hx.1 h)) ?_;have : ([32] ++ s.data.toList ++ [32] : Bs).isPrefixOf (c :: suf t (i + 1)) = false:=by
         rw [Bool.eq_false_iff];exact fun h => heq (hsp.1 h).2.1
        rw [this,Bool.false_or];exact next
    · refine iQ (fun e => h32 (UInt8.toNat_inj.1 (by have : (32 : UInt8).toNat = 32:=rfl;omega))) ?_;have : ([32] ++ s.data.toList ++ [32] : Bs).isPrefixOf (c :: suf t (i + 1)) = false:=by
       rw [Bool.eq_false_iff];exact fun h => h32 (hsp.1 h).1
      rw [this,Bool.false_or,w1 i (by omega)];exact next
  · refine iQ (by rw [e1];omega) ?_;rw [sV _ _ (by rw [hl,hp];omega)];exact Ev.now _
end
theorem sign_ref (t s : ByteArray) (ht : t.size ≤ 1000) (hs : oV s) : Ev (fun k => bF.f k t s) (IJ t.data.toList s.data.toList):=by
 unfold bF.f IJ;by_cases h0 : s.toList = []
 · refine eH h0 ?_;rw [Lib.toList_data] at h0;rw [h0];exact Ev.now _
 · refine iQ h0 ?_;rw [Lib.toList_data] at h0;have e0 : s.data.toList.isEmpty = false:=by cases h : s.data.toList with
    | nil => exact absurd h h0
    | cons _ _ => rfl
   rw [e0];cases hc : s.data.toList.contains 32 with
   | true => exact sign_no t s hs (Or.inr trivial) s.size 0 (by omega) rfl hc
   | false => exact sign_yes t s hs _ s.size 0 (by omega) rfl hc (Rh t s ht hs t.size 0 (by omega) rfl)
theorem pre_word (w v r : Bs) (hw : w.contains 32 = false) (hv : v.contains 32 = false) : (w ++ [32]).isPrefixOf (v ++ 32 :: r) = (w == v):=by
 induction w generalizing v with
 | nil =>
  cases v with
  | nil => rfl
  | cons c t =>
   rw [List.contains_cons,Bool.or_eq_false_iff] at hv;simp only [List.nil_append,List.cons_append,List.isPrefixOf];rw [hv.1];rfl
 | cons a w ih =>
  rw [List.contains_cons,Bool.or_eq_false_iff] at hw;cases v with
  | nil =>
   simp only [List.nil_append,List.cons_append,List.isPrefixOf];rw [show (a == (32 : UInt8)) = false from beq_eq_false_iff_ne.2 (fun e => absurd (beq_eq_false_iff_ne.1 hw.1) (fun h => h e.symm))];rfl
  | cons c t =>
   rw [List.contains_cons,Bool.or_eq_false_iff] at hv;simp only [List.cons_append,List.isPrefixOf];rw [ih t hw.2 hv.2];rfl
theorem uT (w v r : Bs) (hw : w.contains 32 = false) (hv : v.contains 32 = false) : uS ([32] ++ w ++ [32]) (32 :: (v ++ 32 :: r)) = ((w == v) || uS ([32] ++ w ++ [32]) (32 :: r)):=by
 have h1 : ∀ v : Bs,v.contains 32 = false → uS ([32] ++ w ++ [32]) (v ++ 32 :: r) = uS ([32] ++ w ++ [32]) (32 :: r):=by
  intro v;induction v with
  | nil => intro _;rfl
  | cons c t ih =>
   intro hv;rw [List.contains_cons,Bool.or_eq_false_iff] at hv;show (([32] ++ w ++ [32] : Bs).isPrefixOf (c :: (t ++ 32 :: r)) || uS ([32] ++ w ++ [32]) (t ++ 32 :: r)) = _
   rw [show ([32] ++ w ++ [32] : Bs).isPrefixOf (c :: (t ++ 32 :: r)) = false from by
    simp only [List.cons_append,List.nil_append,List.isPrefixOf];rw [hv.1];rfl,Bool.false_or]
   exact ih hv.2
 show (([32] ++ w ++ [32] : Bs).isPrefixOf (32 :: (v ++ 32 :: r)) || uS ([32] ++ w ++ [32]) (v ++ 32 :: r)) = _
 rw [h1 v hv];congr 1;simp only [List.cons_append,List.nil_append,List.isPrefixOf];rw [pre_word w v r hw hv];rfl
theorem J7 (w : Bs) (h0 : w.isEmpty = false) (hw : w.contains 32 = false) : uS ([32] ++ w ++ [32]) [32] = false:=by
 cases w with
 | nil => cases h0
 | cons a w => rfl
abbrev wInt : Bs:=[105,110,116]
abbrev Ph : Bs:=[117,105,110,116]
abbrev Pj : Bs:=[99,104,97,114]
abbrev Pm : Bs:=[118,111,105,100]
abbrev IK : Bs:=[115,116,114,117,99,116,32]
def J8 (s : Bs) : Bool:=s == wInt || s == Ph || s == Pj || s == Pm
theorem one_four (s : Bs) : IJ ([32] ++ [105,110,116,32,117,105,110,116,32,99,104,97,114,32,118,111,105,100] ++ [32]) s = J8 s:=by
 unfold IJ;cases h0 : s.isEmpty with
 | true =>
  have : s = []:=by cases s with
   | nil => rfl
   | cons _ _ => cases h0
  subst this;rfl
 | false =>
  cases hc : s.contains 32 with
  | true =>
   have hn : ∀ v : Bs,v.contains 32 = false → (s == v) = false:=fun v hv => by
    rw [beq_eq_false_iff_ne];intro e;rw [e,hv] at hc;cases hc
   unfold J8;rw [hn wInt (by decide),hn Ph (by decide),hn Pj (by decide),hn Pm (by decide)];rfl
  | false =>
   have e1:=uT s wInt ([117,105,110,116] ++ 32 :: ([99,104,97,114] ++ 32 :: ([118,111,105,100] ++ 32 :: []))) hc (by decide);have e2:=uT s Ph ([99,104,97,114] ++ 32 :: ([118,111,105,100] ++ 32 :: [])) hc (by decide);have e3:=uT s Pj ([118,111,105,100] ++ 32 :: []) hc (by decide);have e4:=uT s Pm [] hc (by decide);rw [e2,e3,e4,J7 s h0 hc] at e1;simp only [Bool.not_false,Bool.true_and];refine Eq.trans e1 ?_;unfold J8;cases (s == wInt) <;> cases (s == Ph) <;> cases (s == Pj) <;> cases (s == Pm) <;> rfl
def tyB (s : ByteArray) : Bool:=(IK.isPrefixOf s.data.toList && uF (s.extract 7 s.size)) || J8 s.data.toList
theorem hp_some (a b : ByteArray) : stringslite_HasPrefix.f a b = some (b.data.toList.isPrefixOf a.data.toList):=by
 unfold stringslite_HasPrefix.f;by_cases h : (a.size : Int) ≥ (b.size : Int)
 · rw [if_pos h,if_pos (by omega),if_pos h];simp only [Option.some.injEq];rw [Lib.toList_data,Lib.toList_data,Int.toNat_natCast,Lib.extract_data,List.drop_zero,Nat.sub_zero,Lib.size_eq b];rw [Bool.eq_iff_iff,beq_iff_eq,List.isPrefixOf_iff_prefix];constructor
   · intro e;rw [← e];exact List.take_prefix _ _
   · intro e;obtain ⟨t,ht⟩:=e;rw [← ht];simp
 · rw [if_neg h];simp only [Option.some.injEq];symm;rw [Bool.eq_false_iff];intro e;have:=(List.isPrefixOf_iff_prefix.1 e).length_le;rw [← Lib.size_eq,← Lib.size_eq] at this;omega
theorem J9 {s : ByteArray} (h : IK.isPrefixOf s.data.toList = true) : 7 ≤ s.size:=by
 have:=(List.isPrefixOf_iff_prefix.1 h).length_le;rw [← Lib.size_eq] at this;exact this
theorem ext_sml {s : ByteArray} (hs : oV s) (i : Nat) : oV (s.extract i s.size):=by
 have h1:=ext_size s i;rw [Int.toNat_natCast] at h1;unfold oV at *;omega
theorem ty_ast (s : ByteArray) (hs : oV s) : Ev (fun k => nJ.f k s) (tyB s):=by
 have h1 : kD.f (⟨#[105,110,116,32,117,105,110,116,32,99,104,97,114,32,118,111,105,100]⟩ : ByteArray) s = some (J8 s.data.toList):=by
  rw [Pg _ s (by decide) hs];exact congrArg some (one_four s.data.toList)
 unfold nJ.f strings_CutPrefix.f stringslite_CutPrefix.f tyB;rw [hp_some,h1];simp only [Option.bind_some];cases hp : IK.isPrefixOf s.data.toList with
 | true =>
  have h7:=J9 hp;have hz : ((⟨#[115,116,114,117,99,116,32]⟩ : ByteArray).size : Int) = 7:=rfl;rw [if_pos rfl,if_pos (by rw [hz];omega),if_pos (by rw [hz];omega)];simp only [Option.bind_some,if_true,hz];refine Ev.bind (nm_ast _ (ext_sml hs 7)) ?_;rw [show ((7 : Int)).toNat = 7 from rfl];cases uF (s.extract 7 s.size) with
  | true => exact Ev.now _
  | false => exact Ev.now _
 | false =>
  exact Ev.now _
open Go.Proofs.YtboojhadfhpdeaaGreatDoorW.PrintLast Go.Proofs.YtboojhadfhpdeaaGreatDoorW.PrintMore
abbrev val (x : bn) (A : Option Addr) (c : Nat) : Value:=.agg #[.int .i64 x.f0,.string x.f1,.int .u32 x.f2,.bool x.f3,.slice A x.f4.length c,.int .i64 x.f5]
structure ND (w : World) (x : bn) (A : Option Addr) (c : Nat) : Prop where
 le : x.f4.length ≤ c
 C : Kd.C k25 w A x.f4.length x.f4
theorem ND.below {w w' : World} {x : bn} {A : Option Addr} {c : Nat} (h : ND w x A c) (hb : Below w.heap.size w w') : ND w' x A c:=⟨h.le,Kd.dP h.C hb⟩
def NB (w : World) (g : Nat) (x : bn) (A : Option Addr) (c : Nat) : Prop:=w.heap[g]? = some (.cells #[.int .i64 x.f0,.string x.f1,.int .u32 x.f2,.bool x.f3,.slice A x.f4.length c,.int .i64 x.f5] 25 (0,0))
theorem bI {w w' : World} {g : Nat} {o : Obj} (h : w.heap[g]? = some o) (hb : Below w.heap.size w w') : w'.heap[g]? = some o:=(hb.block g (Array.getElem?_eq_some_iff.1 h).1).trans h
theorem NB.below {w w' : World} {g : Nat} {x : bn} {A : Option Addr} {c : Nat} (h : NB w g x A c) (hb : Below w.heap.size w w') : NB w' g x A c:=bI h hb
theorem NB.cells {w : World} {g : Nat} {x : bn} {A : Option Addr} {c : Nat} (h : NB w g x A c) : w.cell? ⟨g,0,none⟩ = some (.int .i64 x.f0) ∧ w.cell? ⟨g,1,none⟩ = some (.string x.f1) ∧ w.cell? ⟨g,2,none⟩ = some (.int .u32 x.f2) ∧ w.cell? ⟨g,3,none⟩ = some (.bool x.f3) ∧ w.cell? ⟨g,4,none⟩ = some (.slice A x.f4.length c) ∧ w.cell? ⟨g,5,none⟩ = some (.int .i64 x.f5) :=
 ⟨(ak h 0).trans rfl,(ak h 1).trans rfl,(ak h 2).trans rfl,(ak h 3).trans rfl,(ak h 4).trans rfl,(ak h 5).trans rfl⟩
section
variable {ops : Array Oper} {rest : List Oper} {o : Oper} {a : Act} {Q : Exit → Act → World → Prop} {W : World}
theorem ev_node (hgd : o.guard = none) {N : Tmp} (_hd : o.dst = some N) {p : Operand} (ho : o.op = .box 25 p) {x : bn} {A : Option Addr} {c : Nat} (hx : a.eval p = val x A c)
 (K : ∀ g w',W.heap.size ≤ g → NB w' g x A c → Below W.heap.size W w' → wpList Tryz.prog ops Q rest (a.put o.dst (.pointer (some ⟨g,0,none⟩))) w') : wpList Tryz.prog ops Q (o :: rest) a W:=by
 refine dB hgd _hd (cs:=#[.int .i64 x.f0,.string x.f1,.int .u32 x.f2,.bool x.f3,.slice A x.f4.length c,.int .i64 x.f5]) (t:=25) ?_ (fun g hg w1 h1 h2 => K g w1 (by omega) h1 h2);simp only [execOp,ho,hx];go_simp;try rfl
end
def Asks (g : FuncId) (caps : Array Value) (p : bn → Bool) (xs : List bn) (w : World) : Prop :=
 ∀ x ∈ xs,∀ (W : World) (A : Option Addr) (c : Nat),Below w.heap.size w W → ND W x A c → Calls Tryz.prog g (#[val x A c] ++ caps) W fun e W' => e = .returned (.bool (p x)) ∧ Below W.heap.size W W'
theorem Asks.below {g : FuncId} {caps : Array Value} {p : bn → Bool} {xs : List bn} {w w' : World} (h : Asks g caps p xs w) (hb : Below w.heap.size w w') : Asks g caps p xs w' :=
 fun x hx W A c hW hn => h x hx W A c (bQ hb hb.size hW) hn
def nd (xs : List bn) (i : Nat) : bn:=xs.getD i z25
theorem fH {xs : List bn} {i : Nat} (h : i < xs.length) : nd xs i ∈ xs:=by
 have : nd xs i = xs[i]:=by simp [nd,h]
 rw [this];exact List.getElem_mem h
theorem jo {w : World} {A : Option Addr} {n : Nat} {xs : List bn} (h : Kd.C k25 w A n xs) (i : Nat) (hi : i < n) :
 ∃ ad A' c',A = some ad ∧ ND w (nd xs i) A' c' ∧ w.cell? (ad.add (i * 6)) = some (.int .i64 (nd xs i).f0) ∧ w.cell? ⟨(ad.add (i * 6)).block,(ad.add (i * 6)).off + 1,none⟩ = some (.string (nd xs i).f1) ∧ w.cell? ⟨(ad.add (i * 6)).block,(ad.add (i * 6)).off + 2,none⟩ = some (.int .u32 (nd xs i).f2) ∧ w.cell? ⟨(ad.add (i * 6)).block,(ad.add (i * 6)).off + 3,none⟩ = some (.bool (nd xs i).f3) ∧ w.cell? ⟨(ad.add (i * 6)).block,(ad.add (i * 6)).off + 4,none⟩ = some (.slice A' (nd xs i).f4.length c') ∧ w.cell? ⟨(ad.add (i * 6)).block,(ad.add (i * 6)).off + 5,none⟩ = some (.int .i64 (nd xs i).f5):=by
 obtain ⟨ad,c,e,_,hK,hc0⟩:=Kd.C_get h z25 (i : Int) (by omega) (by omega);simp only [Int.toNat_natCast] at hK hc0;have hc : ∀ j u,c[j]? = some u → w.cell? (ad.add (i * 6 + j)) = some u:=hc0;obtain ⟨A4,c4,rfl,l4,g4⟩:=yH hK;exact ⟨ad,A4,c4,e,⟨l4,g4⟩,hc 0 _ rfl,by rw [← nI _ _ 1 (by omega)];exact hc 1 _ rfl,by rw [← nI _ _ 2 (by omega)];exact hc 2 _ rfl,by rw [← nI _ _ 3 (by omega)];exact hc 3 _ rfl,by rw [← nI _ _ 4 (by omega)];exact hc 4 _ rfl,by rw [← nI _ _ 5 (by omega)];exact hc 5 _ rfl⟩
def IndexP (p : bn → Bool) (xs : List bn) (w : World) (e : Ending) (w' : World) : Prop:=∃ r : Int,e = .returned (.int .i64 r) ∧ (0 ≤ r ↔ xs.any p = true) ∧ Below w.heap.size w w'
theorem IndexFunc.calls (xs : List bn) (A : Option Addr) (c : Nat) (w : World) (hC : Kd.C k25 w A xs.length xs) (g : FuncId) (caps : Array Value) (p : bn → Bool) (hent : Enters Tryz.prog g) (h : Asks g caps p xs w) :
 Calls Tryz.prog 80 #[.slice A xs.length c,.func (.func g) #[] caps] w (IndexP p xs w):=by
 have HC:=ah.mk hC;have HA:=ah.mk h;have HN:=ah.mk hC.2.1;clear hC h;unfold Enters at hent;go_enter Tryz.func80,Tryz.ntmps80
 go_wp2
 go_loopg [8] xs.length (fun kq v w' => ∃ i : Nat,v = .int .i64 i ∧ ah (i + kq = xs.length) ∧ ah ((xs.take i).any p = false) ∧ ah (Below w.heap.size w w'))
 case atStart => exact ⟨0,rfl,⟨by omega⟩,⟨rfl⟩,⟨Below.refl _ _⟩⟩
 case round =>
  obtain ⟨i,rfl,HI,HP,HB⟩:=hrel;by_cases hi : i < xs.length
  · have EP : decide (i < xs.length) = true:=decide_eq_true hi;have e1 : decide ((i : Int) < (xs.length : Int)) = true:=decide_eq_true (by omega);have p1 : (0 : Int) ≤ (i : Int):=by omega
    have q1 : (i : Int) < (xs.length : Int):=by omega
    have HC2:=ah.mk (Kd.dP HC.out HB.out);obtain ⟨ad,A',c',rfl,hnd,c0,c1,c2,c3,c4,c5⟩:=jo HC2.out i hi;have HND:=ah.mk hnd;have qg:=ah.mk hi;clear hi hnd;have w3 : wrap64 ((i : Int) + 1) = (i : Int) + 1:=by have:=HN.out;have:=qg.out;unfold wrap64;omega
    have w4 : IntKind.i64.wrap ((i : Int) + 1) = (i : Int) + 1:=(bW _).trans w3;have HASK:=ah.mk (HA.out (nd xs i) (fH qg.out) _ A' c' HB.out HND.out);have HTK:=ah.mk (show xs.take (i + 1) = xs.take i ++ [nd xs i] from by
     have hi:=qg.out;rw [List.take_succ_eq_append_getElem hi];simp [nd,hi])
    go_wp2_with fail
    refine HASK.out.mono ?_;rintro e w3 ⟨rfl,hB⟩;have HB3:=ah.mk (bQ HB.out HB.out.size hB);clear hB c0 c1 c2 c3 c4 c5;cases hp : p (nd xs i) with
    | true =>
     have HPT:=ah.mk hp;clear hp;go_wp2
     go_ret
     refine ⟨(i : Int),rfl,⟨fun _ => ?_,fun _ => by omega⟩,HB3.out⟩;exact List.any_eq_true.2 ⟨_,fH qg.out,HPT.out⟩
    | false =>
     have HPT:=ah.mk hp;clear hp;go_wp2
     go_roundg (xs.length - (i + 1))
     case measure => have:=HI.out;have:=qg.out;omega
     case rel => exact ⟨i + 1,by (try simp only [w4,w3]);rfl,⟨by have:=HI.out;have:=qg.out;omega⟩,⟨by rw [HTK.out,List.any_append,HP.out];simp [HPT.out]⟩,HB3⟩
  · have EP : decide (i < xs.length) = false:=decide_eq_false hi;have e1 : decide ((i : Int) < (xs.length : Int)) = false:=decide_eq_false (by omega);have HPX:=ah.mk (show xs.any p = false from by
     have h1:=HP.out;rw [show i = xs.length from by have:=HI.out;omega,List.take_length] at h1;exact h1)
    clear hi HP HI;go_wp2
    go_ret
    exact ⟨-1,rfl,⟨fun h => absurd h (by decide),fun h => by rw [HPX.out] at h;cases h⟩,HB.out⟩
theorem ContainsFunc.calls (xs : List bn) (A : Option Addr) (c : Nat) (w : World) (hC : Kd.C k25 w A xs.length xs) (g : FuncId) (caps : Array Value) (p : bn → Bool) (hent : Enters Tryz.prog g) (h : Asks g caps p xs w) :
 Calls Tryz.prog 45 #[.slice A xs.length c,.func (.func g) #[] caps] w fun e w' => e = .returned (.bool (xs.any p)) ∧ Below w.heap.size w w' := by
 have HC:=ah.mk hC;have HA:=ah.mk h;have HE:=ah.mk hent;clear hC h hent;go_enter Tryz.func45,Tryz.ntmps45
 go_wp2_with (first
  | (go_at_call 80;((with_reducible refine (IndexFunc.calls xs A c _ HC.out g caps p HE.out HA.out).mono ?_);rintro e w1 ⟨r,rfl,h1,h2⟩);have HB:=ah.mk h2;have HR:=ah.mk h1;clear h1 h2;cases hp : decide (0 ≤ r);all_goals have HP:=ah.mk hp;all_goals (have hp2 : decide (r ≥ 0) = decide (0 ≤ r):=rfl))
  | fail)
 all_goals go_ret
 · refine ⟨?_,HB.out⟩;have h1 : ¬ 0 ≤ r:=of_decide_eq_false HP.out;have h2 : xs.any p = false:=by
    cases e : xs.any p with
    | false => rfl
    | true => exact absurd (HR.out.2 e) h1
   rw [h2];rfl
 · refine ⟨?_,HB.out⟩;have h1 : 0 ≤ r:=of_decide_eq_true HP.out;rw [HR.out.1 h1];rfl
theorem every1.calls (x : bn) (A : Option Addr) (c : Nat) (w : World) (hn : ND w x A c) (q : Nat) (g : FuncId) (caps : Array Value) (p : bn → Bool) (hent : Enters Tryz.prog g) (hq : w.heap[q]? = some (.cells #[.func (.func g) #[] caps] 29 (0,0)))
 (h : ∀ (W : World) (A : Option Addr) (c : Nat),Below w.heap.size w W → ND W x A c → Calls Tryz.prog g (#[val x A c] ++ caps) W fun e W' => e = .returned (.bool (p x)) ∧ Below W.heap.size W W') :
 Calls Tryz.prog 46 #[val x A c,.pointer (some ⟨q,0,none⟩)] w fun e w' => e = .returned (.bool (!p x)) ∧ Below w.heap.size w w' := by
 have HN:=ah.mk hn;have HQ:=ah.mk hq;have HA:=ah.mk h;clear hn hq h;unfold Enters at hent;go_enter Tryz.func46,Tryz.ntmps46
 go_wp2_with (first
  | ((with_reducible refine dL (N:=2) rfl ?_);refine ev_node rfl rfl rfl rfl ?_;intro b w1 h1 h2 h3;have HB1:=ah.mk h3;have hcq:=(ak (bI HQ.out h3) 0).trans rfl;obtain ⟨c0,c1,c2,c3,c4,c5⟩:=h2.cells;clear h1 h2 h3)
  | fail)
 have HASK:=ah.mk (HA.out _ A c HB1.out (HN.out.below HB1.out));refine HASK.out.mono ?_;rintro e w3 ⟨rfl,hB⟩;have HB3:=ah.mk (bQ HB1.out HB1.out.size hB);clear hB c0 c1 c2 c3 c4 c5 hcq;obtain ⟨pb,hpb⟩ : ∃ q,q = p x:=⟨_,rfl⟩
 rw [← hpb];have HPB:=ah.mk hpb;clear hpb;go_wp2
 go_ret
 exact ⟨by rw [← HPB.out];rfl,HB3.out⟩
def fB (b : Bool) (w : World) (e : Ending) (w' : World) : Prop:=e = .returned (.bool b) ∧ Below w.heap.size w w'
theorem every.calls (xs : List bn) (A : Option Addr) (c : Nat) (w : World) (hC : Kd.C k25 w A xs.length xs) (g : FuncId) (caps : Array Value) (p : bn → Bool) (hent : Enters Tryz.prog g) (h : Asks g caps p xs w) :
 Calls Tryz.prog 33 #[.slice A xs.length c,.func (.func g) #[] caps] w (fB (xs.all p) w):=by
 have HC:=ah.mk hC;have HA:=ah.mk h;have HE:=ah.mk hent;have H46:=ah.mk (show Enters Tryz.prog 46 from enters_of Tryz.func46 (by kernel_rfl) rfl);clear hC h hent;go_enter Tryz.func33,Tryz.ntmps33
 have HQ:=ah.mk (eP w (.cells #[.func (.func g) #[] caps] 29 (0,0)));have HB1:=ah.mk (au (Below.refl w.heap.size w) (.cells #[.func (.func g) #[] caps] 29 (0,0)));have HK:=ah.mk (show Asks 46 #[.pointer (some ⟨w.heap.size,0,none⟩)] (fun x => !p x) xs (w.alloc (.cells #[.func (.func g) #[] caps] 29 (0,0))) from
  fun x hx W A' c' hW hn => every1.calls x A' c' W hn w.heap.size g caps p HE.out (bI HQ.out hW) (fun W2 A2 c2 hW2 hn2 => HA.out x hx W2 A2 c2 (bQ HB1.out HB1.out.size (bQ hW hW.size hW2)) hn2))
 go_wp2_with (first
  | (go_at_call 45;((with_reducible refine (ContainsFunc.calls xs A c _ (Kd.dP HC.out HB1.out) 46 _ (fun x => !p x) H46.out HK.out).mono ?_);rintro e w2 ⟨rfl,hB⟩);have HB2:=ah.mk (bQ HB1.out HB1.out.size hB);clear hB;obtain ⟨pb,hpb⟩ : ∃ q,q = xs.any (fun x => !p x):=⟨_,rfl⟩;rw [← hpb];have HPB:=ah.mk hpb;clear hpb)
  | fail)
 go_ret
 refine ⟨?_,HB2.out⟩;have e1 : xs.all p = !pb:=by rw [HPB.out,List.all_eq_not_any_not]
 rw [e1];rfl
end Go.Proofs.YtboojhadfhpdeaaGreatDoor.Q
