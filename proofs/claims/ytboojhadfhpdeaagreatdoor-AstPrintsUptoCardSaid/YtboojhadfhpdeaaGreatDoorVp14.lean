/- A part of the proof, made small by a program: S2, F1. -/
import Derived.Test.YtboojhadfhpdeaaGreatDoorVp6
import Derived.Test.YtboojhadfhpdeaaGreatDoorVp12
import Derived.Test.YtboojhadfhpdeaaGreatDoorVp13
set_option linter.unusedVariables false
set_option linter.unusedSimpArgs false
set_option maxHeartbeats 8000000
set_option maxRecDepth 100000
namespace Go.Proofs.YtboojhadfhpdeaaGreatDoor.Q
open Go.RowKit Go.Proofs.YtboojhadfhpdeaaGreatDoorW.PrintWords Go.Proofs.YtboojhadfhpdeaaGreatDoor.Lex
theorem pre_word (w v r : Bs) (hw : w.contains 32 = false) (hv : v.contains 32 = false) : (w ++ [32]).isPrefixOf (v ++ 32 :: r) = (w == v):=by
 induction w generalizing v with
 | nil =>
  cases v with
  | nil => rfl
  | cons c t =>
   rw [List.contains_cons,Bool.or_eq_false_iff] at hv;simp only [List.nil_append,List.cons_append,List.isPrefixOf];rw [hv.1];rfl
 | cons a w ih =>
  rw [List.contains_cons,Bool.or_eq_false_iff] at hw;cases v with
  | nil =>
   simp only [List.nil_append,List.cons_append,List.isPrefixOf];rw [show (a == (32 : UInt8)) = false from beq_eq_false_iff_ne.2 (fun e => absurd (beq_eq_false_iff_ne.1 hw.1) (fun h => h e.symm))];rfl
  | cons c t =>
   rw [List.contains_cons,Bool.or_eq_false_iff] at hv;simp only [List.cons_append,List.isPrefixOf];rw [ih t hw.2 hv.2];rfl
theorem qL (w v r : Bs) (hw : w.contains 32 = false) (hv : v.contains 32 = false) : qK ([32] ++ w ++ [32]) (32 :: (v ++ 32 :: r)) = ((w == v) || qK ([32] ++ w ++ [32]) (32 :: r)):=by
 have h1 : ∀ v : Bs,v.contains 32 = false → qK ([32] ++ w ++ [32]) (v ++ 32 :: r) = qK ([32] ++ w ++ [32]) (32 :: r):=by
  intro v;induction v with
  | nil => intro _;rfl
  | cons c t ih =>
   intro hv;rw [List.contains_cons,Bool.or_eq_false_iff] at hv;show (([32] ++ w ++ [32] : Bs).isPrefixOf (c :: (t ++ 32 :: r)) || qK ([32] ++ w ++ [32]) (t ++ 32 :: r)) = _
   rw [show ([32] ++ w ++ [32] : Bs).isPrefixOf (c :: (t ++ 32 :: r)) = false from by
    simp only [List.cons_append,List.nil_append,List.isPrefixOf];rw [hv.1];rfl,Bool.false_or]
   exact ih hv.2
 show (([32] ++ w ++ [32] : Bs).isPrefixOf (32 :: (v ++ 32 :: r)) || qK ([32] ++ w ++ [32]) (v ++ 32 :: r)) = _
 rw [h1 v hv];congr 1;simp only [List.cons_append,List.nil_append,List.isPrefixOf];rw [pre_word w v r hw hv];rfl
theorem Fz (w : Bs) (h0 : w.isEmpty = false) (hw : w.contains 32 = false) : qK ([32] ++ w ++ [32]) [32] = false:=by
 cases w with
 | nil => cases h0
 | cons a w => rfl
abbrev MB : Bs:=[105,110,116]
abbrev Cj : Bs:=[117,105,110,116]
abbrev Cm : Bs:=[99,104,97,114]
abbrev Jv : Bs:=[118,111,105,100]
abbrev rE : Bs:=[115,116,114,117,99,116,32]
def zn (s : Bs) : Bool:=s == MB || s == Cj || s == Cm || s == Jv
theorem one_four (s : Bs) : nP ([32] ++ [105,110,116,32,117,105,110,116,32,99,104,97,114,32,118,111,105,100] ++ [32]) s = zn s:=by
 unfold nP;cases h0 : s.isEmpty with
 | true =>
  have : s = []:=by cases s with
   | nil => rfl
   | cons _ _ => cases h0
  subst this;rfl
 | false =>
  cases hc : s.contains 32 with
  | true =>
   have hn : ∀ v : Bs,v.contains 32 = false → (s == v) = false:=fun v hv => by
    rw [beq_eq_false_iff_ne];intro e;rw [e,hv] at hc;cases hc
   unfold zn;rw [hn MB (by decide),hn Cj (by decide),hn Cm (by decide),hn Jv (by decide)];rfl
  | false =>
   have e1:=qL s MB ([117,105,110,116] ++ 32 :: ([99,104,97,114] ++ 32 :: ([118,111,105,100] ++ 32 :: []))) hc (by decide);have e2:=qL s Cj ([99,104,97,114] ++ 32 :: ([118,111,105,100] ++ 32 :: [])) hc (by decide);have e3:=qL s Cm ([118,111,105,100] ++ 32 :: []) hc (by decide);have e4:=qL s Jv [] hc (by decide);rw [e2,e3,e4,Fz s h0 hc] at e1;simp only [Bool.not_false,Bool.true_and];refine Eq.trans e1 ?_;unfold zn;cases (s == MB) <;> cases (s == Cj) <;> cases (s == Cm) <;> cases (s == Jv) <;> rfl
def tyB (s : ByteArray) : Bool:=(rE.isPrefixOf s.data.toList && jD (s.extract 7 s.size)) || zn s.data.toList
theorem hp_some (a b : ByteArray) : stringslite_HasPrefix.f a b = some (b.data.toList.isPrefixOf a.data.toList):=by
 unfold stringslite_HasPrefix.f;by_cases h : (a.size : Int) ≥ (b.size : Int)
 · rw [if_pos h,if_pos (by omega),if_pos h];simp only [Option.some.injEq];rw [Lib.toList_data,Lib.toList_data,Int.toNat_natCast,Lib.extract_data,List.drop_zero,Nat.sub_zero,Lib.size_eq b];rw [Bool.eq_iff_iff,beq_iff_eq,List.isPrefixOf_iff_prefix];constructor
   · intro e;rw [← e];exact List.take_prefix _ _
   · intro e;obtain ⟨t,ht⟩:=e;rw [← ht];simp
 · rw [if_neg h];simp only [Option.some.injEq];symm;rw [Bool.eq_false_iff];intro e;have:=(List.isPrefixOf_iff_prefix.1 e).length_le;rw [← Lib.size_eq,← Lib.size_eq] at this;omega
theorem zo {s : ByteArray} (h : rE.isPrefixOf s.data.toList = true) : 7 ≤ s.size:=by
 have:=(List.isPrefixOf_iff_prefix.1 h).length_le;rw [← Lib.size_eq] at this;exact this
theorem Jw {s : ByteArray} (hs : gY s) (i : Nat) : gY (s.extract i s.size):=by
 have h1:=ext_size s i;rw [Int.toNat_natCast] at h1;unfold gY at *;omega
theorem ty_ast (s : ByteArray) (hs : gY s) : Ev (fun k => oq.f k s) (tyB s):=by
 have h1 : iM.f (⟨#[105,110,116,32,117,105,110,116,32,99,104,97,114,32,118,111,105,100]⟩ : ByteArray) s = some (zn s.data.toList):=by
  rw [Jr _ s (by decide) hs];exact congrArg some (one_four s.data.toList)
 unfold oq.f strings_CutPrefix.f stringslite_CutPrefix.f tyB;rw [hp_some,h1];simp only [Option.bind_some];cases hp : rE.isPrefixOf s.data.toList with
 | true =>
  have h7:=zo hp;have hz : ((⟨#[115,116,114,117,99,116,32]⟩ : ByteArray).size : Int) = 7:=rfl;rw [if_pos rfl,if_pos (by rw [hz];omega),if_pos (by rw [hz];omega)];simp only [Option.bind_some,if_true,hz];refine Ev.bind (nm_ast _ (Jw hs 7)) ?_;rw [show ((7 : Int)).toNat = 7 from rfl];cases jD (s.extract 7 s.size) with
  | true => exact Ev.now _
  | false => exact Ev.now _
 | false =>
  exact Ev.now _
theorem four_ref (s : ByteArray) : (if s.toList = ([105,110,116] : List UInt8) then (some true) else (if s.toList = ([117,105,110,116] : List UInt8) then (some true) else (if s.toList = ([99,104,97,114] : List UInt8) then (some true) else (some (s.toList == ([118,111,105,100] : List UInt8)))))) = some (zn s.data.toList):=by
 rw [Lib.toList_data];unfold zn;by_cases h1 : s.data.toList = MB
 · rw [if_pos h1,h1];rfl
 · rw [if_neg h1,show (s.data.toList == MB) = false from beq_eq_false_iff_ne.2 h1];by_cases h2 : s.data.toList = Cj
   · rw [if_pos h2,h2];rfl
   · rw [if_neg h2,show (s.data.toList == Cj) = false from beq_eq_false_iff_ne.2 h2];by_cases h3 : s.data.toList = Cm
     · rw [if_pos h3,h3];rfl
     · rw [if_neg h3,show (s.data.toList == Cm) = false from beq_eq_false_iff_ne.2 h3];rfl
theorem Ah {s : Bs} (h : rE.isPrefixOf s = true) : zn s = false:=by
 obtain ⟨t,rfl⟩:=List.isPrefixOf_iff_prefix.1 h;rfl
theorem nm_nil (s : ByteArray) (h : s.data.toList = []) : jD s = false:=by
 unfold jD;rw [h];rfl
theorem H9 (x : ak) (hs : gY x.f1) (b : Bool) : Ev (fun k => bF.j0 k b x.f0 x.f1 x.f2 x.f3 x.f4 x.f5) (!b && tyB x.f1):=by
 refine Ev.step (fun k => by rw [bF.j0]) ?_;cases b with
 | true => exact bD rfl (Ev.now _)
 | false =>
  refine dM (by decide) ?_;rw [Bool.not_false,Bool.true_and,four_ref];unfold tyB;cases hp : rE.isPrefixOf x.f1.data.toList with
  | true =>
   have h7:=zo hp;rw [Ah hp,Bool.or_false,Bool.true_and];by_cases h8 : (x.f1.size : Int) > 7
   · refine bD h8 (bD (by omega) (bD (by omega) (bD ?_ ?_)))
     · rw [Lib.toList_data,Lib.extract_data,List.drop_zero];obtain ⟨t,ht⟩:=List.isPrefixOf_iff_prefix.1 hp;rw [← ht];simp
     · exact Ev.bind (nm_ref _ (Jw hs 7)) (Ev.now _)
   · refine dM h8 ?_;rw [nm_nil _ (by rw [Lib.extract_data];rw [List.drop_eq_nil_of_le (by rw [← Lib.size_eq];omega)];simp)];exact Ev.now _
  | false =>
   rw [Bool.false_and,Bool.false_or];by_cases h8 : (x.f1.size : Int) > 7
   · refine bD h8 (bD (by omega) (bD (by omega) (dM ?_ (Ev.now _))));intro e;rw [Lib.toList_data,Lib.extract_data,List.drop_zero] at e;have : rE.isPrefixOf x.f1.data.toList = true:=by
      rw [List.isPrefixOf_iff_prefix,show rE = List.take (7 - 0) x.f1.data.toList from e.symm];exact List.take_prefix _ _
     rw [this] at hp;cases hp
   · exact dM h8 (Ev.now _)
open Go.Proofs.YtboojhadfhpdeaaGreatDoorW.PrintLast Go.Proofs.YtboojhadfhpdeaaGreatDoorW.PrintMore
def FnAsk (w : World) (f : Value) (p : ak → Bool) (x : ak) : Prop :=
 ∃ g caps,f = .func (.func g) #[] caps ∧ Enters Tryz.prog g ∧ ∀ (W : World) (A : Option Addr) (c : Nat),Below w.heap.size w W → ND W x A c → Calls Tryz.prog g (#[val x A c] ++ caps) W fun e W' => e = .returned (.bool (p x)) ∧ Below W.heap.size W W'
def yL (ps : List (ak → Bool)) (i : Nat) : ak → Bool:=ps.getD i (fun _ => false)
def mP (ps : List (ak → Bool)) (xs : List ak) (i : Nat) : Bool:=(List.range i).all fun j => yL ps j (nd xs j)
theorem D6 (ps : List (ak → Bool)) (xs : List ak) (i : Nat) : mP ps xs (i + 1) = (mP ps xs i && yL ps i (nd xs i)):=by
 simp [mP,List.range_succ]
theorem BA {ps : List (ak → Bool)} {xs : List ak} {i n : Nat} (h : i < n) (hp : yL ps i (nd xs i) = false) : mP ps xs n = false:=by
 cases e : mP ps xs n with
 | false => rfl
 | true =>
  have h1:=List.all_eq_true.1 e i (List.mem_range.2 h);rw [hp] at h1;cases h1
def aU (ps : List (ak → Bool)) (xs : List ak) : Bool:=decide (xs.length = ps.length) && mP ps xs ps.length
theorem shape.calls (xs : List ak) (A : Option Addr) (c : Nat) (w : World) (hC : Kd.C k25 w A xs.length xs) (q cap : Nat) (fs : List Value) (ps : List (ak → Bool)) (hn : fs.length = ps.length) (h4 : ps.length ≤ 8)
 (hq : w.heap[q]? = some (.cells fs.toArray 29 (0,0))) (h : ∀ (i : Nat) (f : Value),fs[i]? = some f → i < xs.length → FnAsk w f (yL ps i) (nd xs i)) :
 Calls Tryz.prog 67 #[.slice A xs.length c,.slice (some ⟨q,0,none⟩) ps.length cap] w (bg (aU ps xs) w):=by
 have HC:=Am hC;have HA:=Am h;have HN:=Am hC.2.1;have HL:=Am hn;have H4:=Am h4;have HQ:=Am hq;by_cases hlen : xs.length = ps.length
 · have HLEN:=Am hlen;have e2 : decide ((xs.length : Int) ≠ (ps.length : Int)) = false:=decide_eq_false (by omega);have e3 : ((xs.length : Int) = (ps.length : Int)):=by omega
   clear hC h hn h4 hq hlen;go_enter Tryz.func67,Tryz.ntmps67
   go_wp2
   go_loopg [14] ps.length (fun kq v w' => ∃ i : Nat,v = .int .i64 i ∧ Ad (i + kq = ps.length) ∧ Ad (mP ps xs i = true) ∧ Ad (Below w.heap.size w w'))
   case atStart => exact ⟨0,rfl,⟨by omega⟩,⟨rfl⟩,⟨Below.refl _ _⟩⟩
   case round =>
    obtain ⟨i,rfl,HI,HP,HB⟩:=hrel;by_cases hi : i < ps.length
    · have qp : decide (i < ps.length) = true:=decide_eq_true hi;have e1 : decide ((i : Int) < (ps.length : Int)) = true:=decide_eq_true (by omega);have p1 : (0 : Int) ≤ (i : Int):=by omega
      have q1 : (i : Int) < (ps.length : Int):=by omega
      have q2 : (i : Int) < (xs.length : Int):=by have:=HLEN.out;omega
      have hix : i < xs.length:=by have:=HLEN.out;omega
      have HC2:=Am (Kd.dV HC.out HB.out);obtain ⟨ad,A',c',rfl,hnd,c0,c1,c2,c3,c4,c5⟩:=fG HC2.out i hix;have hif : i < fs.length:=by have:=HL.out;omega
      obtain ⟨g,caps,hf,hent,hask⟩:=HA.out i _ (List.getElem?_eq_getElem hif) hix;have cf:=(Z5 (o7 HQ.out HB.out) i).trans (show fs.toArray[i]? = some (.func (.func g) #[] caps) from by rw [← hf];simp [hif]);have uM:=Am hnd;have gZ:=Am hi;have HASK:=Am (hask _ A' c' HB.out uM.out);clear hi hnd hix hif hf hask;unfold Enters at hent;have w3 : wrap64 ((i : Int) + 1) = (i : Int) + 1:=by have:=H4.out;have:=gZ.out;unfold wrap64;omega
      have w4 : IntKind.i64.wrap ((i : Int) + 1) = (i : Int) + 1:=(bY _).trans w3;go_wp2_with fail
      refine HASK.out.mono ?_;rintro e w3 ⟨rfl,hB⟩;have HB3:=Am (aJ HB.out HB.out.size hB);clear hB c0 c1 c2 c3 c4 c5 cf;cases hp : yL ps i (nd xs i) with
      | true =>
       have HPT:=Am hp;clear hp;go_wp2
       go_roundg (ps.length - (i + 1))
       case measure => have:=HI.out;have:=gZ.out;omega
       case rel => exact ⟨i + 1,by (try simp only [w4,w3]);rfl,⟨by have:=HI.out;have:=gZ.out;omega⟩,⟨by rw [D6,HP.out,HPT.out];rfl⟩,HB3⟩
      | false =>
       have HPT:=Am hp;clear hp;go_wp2
       go_ret
       exact ⟨by rw [show aU ps xs = false from by unfold aU;rw [BA gZ.out HPT.out];simp];rfl,HB3.out⟩
    · have qp : decide (i < ps.length) = false:=decide_eq_false hi;have e1 : decide ((i : Int) < (ps.length : Int)) = false:=decide_eq_false (by omega);have HX:=Am (show aU ps xs = true from by
       have h1:=HP.out;rw [show i = ps.length from by have:=HI.out;omega] at h1;unfold aU;rw [h1,decide_eq_true HLEN.out];rfl)
      clear hi HI HP;go_wp2
      go_ret
      exact ⟨by rw [HX.out];rfl,HB.out⟩
 · have e2 : decide ((xs.length : Int) ≠ (ps.length : Int)) = true:=decide_eq_true (by omega);have e3 : ¬ ((xs.length : Int) = (ps.length : Int)):=by omega
   have HX:=Am (show aU ps xs = false by simp [aU,hlen]);clear hC h hn h4 hq hlen;go_enter Tryz.func67,Tryz.ntmps67
   go_wp2
   go_ret
   exact ⟨by rw [HX.out];rfl,Below.refl _ _⟩
end Go.Proofs.YtboojhadfhpdeaaGreatDoor.Q
