/- A part of the proof, made small by a program: Nm. -/
import Derived.Lib.IndexAny
import Derived.Test.YtboojhadfhpdeaaGreatDoorVq2
import Derived.Test.YtboojhadfhpdeaaGreatDoorVq7
set_option linter.unusedVariables false
set_option linter.unusedSimpArgs false
set_option maxHeartbeats 8000000
set_option maxRecDepth 100000
namespace Go.Proofs.YtboojhadfhpdeaaGreatDoor.Lex
open Go.RowKit Go.Proofs.YtboojhadfhpdeaaGreatDoorW.PrintWords Go.Proofs.YtboojhadfhpdeaaGreatDoor.Q
abbrev Bs:=List UInt8
def LC (c : UInt8) : Bool:=decide (48 ≤ c.toNat) && decide (c.toNat ≤ 57)
def EL (c : UInt8) : Bool:=(decide (97 ≤ c.toNat) && decide (c.toNat ≤ 122)) || (decide (65 ≤ c.toNat) && decide (c.toNat ≤ 90)) || decide (c.toNat = 95)
def wi (c : UInt8) : Bool:=LC c || EL c
def DT (c : UInt8) : Nat :=
 if 48 ≤ c.toNat ∧ c.toNat ≤ 57 then c.toNat - 48
 else if 97 ≤ c.toNat ∧ c.toNat ≤ 102 then c.toNat - 97 + 10
 else if 65 ≤ c.toNat ∧ c.toNat ≤ 70 then c.toNat - 65 + 10
 else 99
def blank (c : UInt8) : Bool:=c == 32 || c == 9 || c == 10 || c == 13
def Cb : Bs → Nat
 | [] => 0
 | c :: r => if c = 10 then 0 else Cb r + 1
def comEnd : Bs → Option Nat
 | [] => none
 | c :: r => if List.isPrefixOf [42,47] (c :: r) = true then some 2 else (comEnd r).map (· + 1)
def gap (l : Bs) : Nat × Bool :=
 match l with
 | [] => (0,true)
 | c :: r =>
  if blank c = true then ((gap r).1 + 1,(gap r).2)
  else if c = 47 then
   match r with
   | [] => (0,true)
   | d :: q =>
    if d = 47 then ((gap (q.drop (Cb q))).1 + (Cb q + 2),(gap (q.drop (Cb q))).2)
    else if d = 42 then
     match comEnd q with
     | none => (0,false)
     | some m => ((gap (q.drop m)).1 + (m + 2),(gap (q.drop m)).2)
    else (0,true)
  else (0,true)
termination_by l.length
decreasing_by all_goals simp_wf;(try omega)
structure Tk where
 kind : Nat
 text : Bs
 num : Nat
 uns : Bool
 len : Nat
def numVal (base : Nat) (ds : Bs) : Nat:=ds.foldl (fun v c => v * base + DT c) 0
def isHex : Bs → Bool
 | c :: d :: _ => c == 48 && (d == 120 || d == 88)
 | _ => false
def isU : Bs → Bool
 | c :: _ => c == 117 || c == 85
 | [] => false
def headWi : Bs → Bool
 | c :: _ => wi c
 | [] => false
def numTok (s : Bs) : Option Tk :=
 let pre:=if isHex s then 2 else 0
 let base:=if isHex s then 16 else 10
 let ds:=(s.drop pre).takeWhile fun c => decide (DT c < base)
 let v:=numVal base ds
 let e:=pre + ds.length
 let u:=isU (s.drop e)
 let e' := if u then e + 1 else e
 if ds = [] ∨ 4294967296 ≤ v ∨ (isHex s = false ∧ 1 < ds.length ∧ ds.head? = some 48) ∨ headWi (s.drop e') = true then none
 else some ⟨5,[],v,u || decide (2147483648 ≤ v),e'⟩
def esc (d : UInt8) : Option UInt8 :=
 if d = 110 then some 10 else if d = 116 then some 9 else if d = 114 then some 13 else if d = 48 then some 0
 else if d = 92 then some 92 else if d = 39 then some 39 else if d = 34 then some 34 else none
def unit (mark : UInt8) : Bs → Option (UInt8 × Nat)
 | [] => none
 | c :: r =>
  if c.toNat < 32 ∨ 126 < c.toNat ∨ c = mark then none
  else if c ≠ 92 then some (c,1)
  else match r with
   | [] => none
   | d :: q =>
    match esc d with
    | some x => some (x,2)
    | none =>
     if d = 120 then
      match q with
      | a :: b :: _ => if DT a < 16 ∧ DT b < 16 then some (UInt8.ofNat (DT a * 16 + DT b),4) else none
      | _ => none
     else none
theorem unit_le (mark : UInt8) (s : Bs) (b : UInt8) (n : Nat) (h : unit mark s = some (b,n)) : 1 ≤ n ∧ n ≤ s.length:=by
 unfold unit at h
 split at h
 · cases h
 · split at h
   · cases h
   · split at h
     · cases h;simp
     · split at h
       · cases h
       · split at h
         · cases h;simp
         · split at h
           · split at h
             · split at h
               · cases h;simp
               · cases h
             · cases h
           · cases h
def units (mark : UInt8) (s : Bs) : Option (Bs × Nat) :=
 match s with
 | [] => none
 | c :: r =>
  if c = mark then some ([],0)
  else match h : unit mark (c :: r) with
   | none => none
   | some (b,n) => (units mark ((c :: r).drop n)).map fun t => (b :: t.1,n + t.2)
termination_by s.length
decreasing_by
 have:=unit_le mark (c :: r) b n h
 simp_wf
 simp at this;omega
def quotTok : Bs → Option Tk
 | [] => none
 | c :: r =>
  match units c r with
  | none => none
  | some (t,n) => if c = 34 then some ⟨7,t,0,false,n + 2⟩ else if t.length = 1 then some ⟨6,[],(t.headD 0).toNat,false,n + 2⟩ else none
def AX : Bs:=[32,98,114,101,97,107,32,99,104,97,114,32,99,111,110,116,105,110,117,101,32,100,111,32,101,108,115,101,32,102,111,114,32,103,101,116,98,121,116,101,32,105,102,32,105,110,116,32,112,117,116,98,121,116,101,32,114,101,116,117,114,110,32,115,105,122,101,111,102,32,115,116,114,117,99,116,32,117,105,110,116,32,118,111,105,100,32,119,104,105,108,101,32]
def named : Bs → Bool
 | [] => false
 | c :: r => !LC c && (c :: r).all wi
def reserved (s : Bs) : Bool:=named s && Lib.contains AX ([32] ++ s ++ [32])
def nameTok (s : Bs) : Tk :=
 let w:=s.takeWhile wi
 ⟨if reserved w then 3 else 2,w,0,false,w.length⟩
def marks : List Bs:=[[60,60,61],[62,62,61],[45,62],[43,61],[45,61],[42,61],[47,61],[37,61],[38,61],[124,61],[94,61],[61,61],[33,61],[60,61],[62,61],[60,60],[62,62],[38,38],[124,124],[40],[41],[123],[125],[91],[93],[59],[44],[46],[61],[60],[62],[43],[45],[42],[47],[37],[38],[124],[94],[126],[33],[63],[58]]
def markTok (s : Bs) : Option Tk:=(marks.find? fun m => m.isPrefixOf s).map fun m => ⟨4,m,0,false,m.length⟩
def tok (s : Bs) : Option Tk :=
 match s with
 | [] => none
 | c :: _ => if LC c then numTok s else if wi c then some (nameTok s) else if c = 34 ∨ c = 39 then quotTok s else markTok s
inductive Ans where
 | fin (at_ : Nat)
 | bad (at_ : Nat)
 | tk (t : Tk) (pos : Nat)
def next (l : Bs) (i : Nat) : Ans :=
 let g:=gap (l.drop i)
 if g.2 = false then .bad (i + g.1)
 else if l.length ≤ i + g.1 then .fin (i + g.1)
 else match tok (l.drop (i + g.1)) with
  | none => .bad (i + g.1)
  | some t => .tk t (i + g.1)
section
variable {α β : Type} {r : α}
theorem eH {c : Prop} [Decidable c] {f g : Nat → Option α} (h : c) (k : Ev f r) : Ev (fun n => if c then f n else g n) r:=Ev.congr (fun n => if_pos h) k
theorem iQ {c : Prop} [Decidable c] {f g : Nat → Option α} (h : ¬ c) (k : Ev g r) : Ev (fun n => if c then f n else g n) r:=Ev.congr (fun n => if_neg h) k
theorem qF {g : Option β} {b : β} {F : Nat → β → Option α} (h : g = some b) (k : Ev (fun n => F n b) r) : Ev (fun n => g.bind (F n)) r:=by
 subst h;exact k
end
theorem w1 (i : Nat) (h : i ≤ 4611686018427387904) : wrap64 ((i : Int) + 1) = ((i + 1 : Nat) : Int):=by unfold wrap64;omega
theorem wk (i k : Nat) (h : i ≤ 4611686018427387904) (hk : k ≤ 2305843009213693952) : wrap64 ((i : Int) + (k : Int)) = ((i + k : Nat) : Int):=by unfold wrap64;omega
def suf (s : ByteArray) (i : Nat) : Bs:=s.data.toList.drop i
theorem Cc (s : ByteArray) (i : Nat) : (suf s i).length = s.size - i:=by unfold suf;rw [List.length_drop,← Lib.size_eq]
theorem xH (s : ByteArray) (i : Nat) (h : s.size ≤ i) : suf s i = []:=by
 apply List.eq_nil_of_length_eq_zero;rw [Cc];omega
theorem sU (s : ByteArray) (i : Nat) (h : i < s.size) : ∃ c,suf s i = c :: suf s (i + 1) ∧ bt s (i : Int) = (c.toNat : Int):=by
 have h1:=Lib.data_getElem? s i h;have h2 : i < s.data.toList.length:=by rw [← Lib.size_eq];exact h
 refine ⟨s[i],?_,?_⟩
 · unfold suf;rw [List.drop_eq_getElem_cons h2];rw [List.getElem?_eq_getElem h2] at h1;rw [Option.some.inj h1]
 · unfold bt;rw [dif_pos (by simpa using h)];rfl
theorem JZ (s : ByteArray) (i k : Nat) : (suf s i).drop k = suf s (i + k):=by unfold suf;rw [List.drop_drop]
theorem ext_suf (s : ByteArray) (i : Nat) : (s.extract ((i : Nat) : Int).toNat s.size).data.toList = suf s i:=by
 rw [Int.toNat_natCast];exact Lib.extract_to_end s i
theorem ext_size (s : ByteArray) (i : Nat) : (s.extract ((i : Nat) : Int).toNat s.size).size ≤ s.size:=by
 rw [Lib.size_eq,ext_suf,Cc];omega
theorem dig_some (c : UInt8) : Ev (fun k => dn.f k (c.toNat : Int)) (DT c : Int):=by
 have hc:=c.toNat_lt;unfold DT;by_cases h1 : 48 ≤ c.toNat ∧ c.toNat ≤ 57
 · rw [if_pos h1];refine eH (by omega) (Ev.step (fun k => by rw [dn.j0]) (eH (by simp;omega) ?_));have : ((c.toNat : Int) - 48) % 256 = ((c.toNat - 48 : Nat) : Int):=by omega
   rw [this];exact Ev.now _
 · rw [if_neg h1];have key : Ev (fun k => dn.j0 k (c.toNat : Int) false) ((if 97 ≤ c.toNat ∧ c.toNat ≤ 102 then c.toNat - 97 + 10 else if 65 ≤ c.toNat ∧ c.toNat ≤ 70 then c.toNat - 65 + 10 else 99 : Nat) : Int):=by
    refine Ev.step (fun k => by rw [dn.j0]) (iQ (by simp) ?_);have low : ¬ (97 ≤ c.toNat ∧ c.toNat ≤ 102) → Ev (fun k => dn.j1 k (c.toNat : Int) false) ((if 97 ≤ c.toNat ∧ c.toNat ≤ 102 then c.toNat - 97 + 10 else if 65 ≤ c.toNat ∧ c.toNat ≤ 70 then c.toNat - 65 + 10 else 99 : Nat) : Int):=by
     intro h2;rw [if_neg h2];refine Ev.step (fun k => by rw [dn.j1]) (iQ (by simp) ?_);by_cases h3 : 65 ≤ c.toNat
     · refine eH (by omega) ?_;by_cases h4 : c.toNat ≤ 70
       · refine eH (by omega) ?_;rw [if_pos ⟨h3,h4⟩];have : ((c.toNat : Int) - 65) % 256 + 10 = ((c.toNat - 65 + 10 : Nat) : Int):=by omega
         rw [this];exact Ev.now _
       · refine iQ (by omega) ?_;rw [if_neg (by omega)];exact Ev.now _
     · refine iQ (by omega) ?_;rw [if_neg (by omega)];exact Ev.now _
    by_cases h2 : 97 ≤ c.toNat
    · refine eH (by omega) ?_;by_cases h3 : c.toNat ≤ 102
      · rw [decide_eq_true (by omega),if_pos ⟨h2,h3⟩];refine Ev.step (fun k => by rw [dn.j1]) (eH rfl ?_);have : ((c.toNat : Int) - 97) % 256 + 10 = ((c.toNat - 97 + 10 : Nat) : Int):=by omega
        rw [this];exact Ev.now _
      · rw [decide_eq_false (by omega)];exact low (by omega)
    · refine iQ (by omega) ?_;exact low (by omega)
   by_cases h2 : 48 ≤ c.toNat
   · refine eH (by omega) ?_;rw [decide_eq_false (by omega)];exact key
   · refine iQ (by omega) ?_;exact key
theorem Q7 (c : UInt8) : DT c < 10 ↔ LC c = true:=by
 unfold DT LC;simp only [Bool.and_eq_true,decide_eq_true_eq]
 split
 · omega
 · split
   · omega
   · split <;> omega
theorem wi_some (c : UInt8) : mZ.f (c.toNat : Int) = some (wi c):=by
 have hc:=c.toNat_lt;have e : ((c.toNat : Int) == 95) = decide (c.toNat = 95):=by
  by_cases h : c.toNat = 95
  · simp [h]
  · rw [decide_eq_false h];simp;omega
 unfold mZ.f wi LC EL;rw [e]
 repeat' split
 all_goals refine congrArg some ?_
 all_goals rw [Bool.eq_iff_iff]
 all_goals simp only [Bool.or_eq_true,Bool.and_eq_true,decide_eq_true_eq,true_iff]
 all_goals omega
theorem J3 (c : UInt8) : ig.f (c.toNat : Int) = some (EL c):=by
 have hc:=c.toNat_lt;have e : ((c.toNat : Int) == 95) = decide (c.toNat = 95):=by
  by_cases h : c.toNat = 95
  · simp [h]
  · rw [decide_eq_false h];simp;omega
 unfold ig.f EL;rw [e]
 repeat' split
 all_goals refine congrArg some ?_
 all_goals rw [Bool.eq_iff_iff]
 all_goals simp only [Bool.or_eq_true,Bool.and_eq_true,decide_eq_true_eq,true_iff]
 all_goals omega
theorem dig_ref (c : UInt8) : iw.f (c.toNat : Int) = some (LC c):=by
 unfold iw.f LC
 split
 all_goals refine congrArg some ?_
 all_goals rw [Bool.eq_iff_iff]
 all_goals simp only [Bool.and_eq_true,decide_eq_true_eq,Bool.false_eq_true,false_iff]
 all_goals omega
abbrev Sm (s : ByteArray) : Prop:=s.size ≤ 1152921504606846976
theorem IE (a t : Bs) (h : a.length < t.length) : t.isPrefixOf a = false:=by
 rw [Bool.eq_false_iff];intro e;have:=(List.isPrefixOf_iff_prefix.1 e).length_le;omega
theorem let_wi (c : UInt8) : EL c = (wi c && !LC c):=by
 unfold wi EL LC;rw [Bool.eq_iff_iff];simp only [Bool.or_eq_true,Bool.and_eq_true,decide_eq_true_eq,Bool.not_eq_true',Bool.and_eq_false_iff,decide_eq_false_iff_not];omega
theorem Q8 (s : ByteArray) (hs : Sm s) (d : Nat) : ∀ i : Nat,i ≤ s.size → s.size - i = d → Ev (fun k => bY.l0 k s (s.size : Int) (i : Int)) ((suf s i).all wi):=by
 unfold Sm at hs;induction d with
 | zero =>
  intro i hi hd;refine Ev.step (fun k => by rw [bY.l0]) (iQ (by omega) ?_);rw [xH s i (by omega)];exact Ev.now _
 | succ d ih =>
  intro i hi hd;obtain ⟨c,hc,hb⟩:=sU s i (by omega);refine Ev.step (fun k => by rw [bY.l0]) (eH (by omega) (eH (by omega) (eH (by omega) ?_)));rw [hb];refine qF (wi_some c) ?_;rw [hc,List.all_cons];cases hw : wi c with
  | true =>
   refine eH rfl ?_;rw [w1 i (by omega),Bool.true_and];exact ih (i + 1) (by omega) (by omega)
  | false => exact iQ (by decide) (Ev.now _)
theorem Ce (s : ByteArray) : s.toList = [] ↔ s.size = 0:=by
 rw [Lib.toList_data,Lib.size_eq];exact List.eq_nil_iff_length_eq_zero
theorem suf0 (s : ByteArray) : suf s 0 = s.data.toList:=rfl
theorem FB (s : ByteArray) (hs : Sm s) : Ev (fun k => bY.f k s) (named s.data.toList):=by
 unfold bY.f;by_cases h0 : s.size = 0
 · refine eH ((Ce s).2 h0) (Ev.step (fun k => by rw [bY.j0]) (eH rfl ?_));rw [← suf0,xH s 0 (by omega)];exact Ev.now _
 · refine iQ (fun h => h0 ((Ce s).1 h)) (eH (by omega) ?_);obtain ⟨c,hc,hb⟩:=sU s 0 (by omega);rw [show (bt s 0) = (c.toNat : Int) from hb];refine Ev.bind (dig_some c) ?_;rw [← suf0,hc];have hn : named (c :: suf s (0 + 1)) = (!LC c && (suf s 0).all wi):=by rw [hc];rfl
   rw [hn];refine Ev.step (fun k => by rw [bY.j0]) ?_;have hd:=Q7 c;cases hg : LC c with
   | true =>
    have h1:=hd.2 hg;exact eH (by simp;omega) (Ev.now _)
   | false =>
    have h1 : ¬ DT c < 10:=fun h => by rw [hd.1 h] at hg;cases hg
    refine iQ (by simp;omega) ?_;exact Q8 s hs s.size 0 (by omega) rfl
theorem DU (s : ByteArray) (hs : Sm s) (d : Nat) : ∀ i : Nat,1 ≤ i → i ≤ s.size → s.size - i = d → Ev (fun k => bg.l0 k s (i : Int)) ((suf s i).all wi):=by
 unfold Sm at hs;induction d with
 | zero =>
  intro i h1 hi hd;refine Ev.step (fun k => by rw [bg.l0]) (iQ (by omega) ?_);rw [xH s i (by omega)];have : (s.toList != ([] : List UInt8)) = true:=by
   rw [bne_iff_ne];exact fun h => by have:=(Ce s).1 h;omega
  rw [this];exact Ev.now _
 | succ d ih =>
  intro i h1 hi hd;obtain ⟨c,hc,hb⟩:=sU s i (by omega);refine Ev.step (fun k => by rw [bg.l0]) (eH (by omega) (eH (by omega) ?_));rw [hb];refine qF (J3 c) ?_;rw [hc,List.all_cons];have next:=ih (i + 1) (by omega) (by omega) (by omega)
  cases hl : EL c with
  | true =>
   refine eH rfl ?_;have hw : wi c = true:=by unfold wi;rw [hl,Bool.or_true]
   rw [w1 i (by omega),hw,Bool.true_and];exact next
  | false =>
   refine iQ (by decide) (iQ (by omega) (qF (dig_ref c) ?_));cases hg : LC c with
   | true =>
    refine eH rfl ?_;have hw : wi c = true:=by unfold wi;rw [hg,Bool.true_or]
    rw [w1 i (by omega),hw,Bool.true_and];exact next
   | false =>
    have hw : wi c = false:=by unfold wi;rw [hg,hl];rfl
    rw [hw];exact iQ (by decide) (Ev.now _)
theorem FC (s : ByteArray) (hs : Sm s) : Ev (fun k => bg.f k s) (named s.data.toList):=by
 unfold bg.f;rw [← suf0];by_cases h0 : s.size = 0
 · refine Ev.step (fun k => by rw [bg.l0]) (iQ (by omega) ?_);rw [xH s 0 (by omega)];have : (s.toList != ([] : List UInt8)) = false:=by
    rw [(Ce s).2 h0];rfl
   rw [this];exact Ev.now _
 · obtain ⟨c,hc,hb⟩:=sU s 0 (by omega);refine Ev.step (fun k => by rw [bg.l0]) (eH (by omega) (eH (by omega) ?_));rw [show (bt s 0) = (c.toNat : Int) from hb];refine qF (J3 c) ?_;rw [hc];have hn : named (c :: suf s (0 + 1)) = (EL c && (suf s 1).all wi):=by
    show (!LC c && List.all (c :: suf s (0 + 1)) wi) = _
    rw [let_wi,List.all_cons,Nat.zero_add];cases LC c <;> cases wi c <;> rfl
   rw [hn];cases hl : EL c with
   | true =>
    refine eH rfl ?_;rw [Bool.true_and,show wrap64 (0 + 1) = ((1 : Nat) : Int) from w1 0 (by omega)];exact DU s hs (s.size - 1) 1 (by omega) (by omega) rfl
   | false => exact iQ (by decide) (eH rfl (Ev.now _))
theorem su (a b : ByteArray) : (a ++ b).data.toList = a.data.toList ++ b.data.toList:=by
 rw [ByteArray.data_append,Array.toList_append]
def uS (pat : Bs) : Bs → Bool
 | [] => pat.isEmpty
 | b :: l => pat.isPrefixOf (b :: l) || uS pat l
theorem qB (pat : Bs) : ∀ l : Bs,Lib.contains l pat = uS pat l
 | [] => by
  unfold Lib.contains Lib.index uS;cases pat <;> rfl
 | b :: l => by
  have h:=qB pat l;have hg:=Lib.index_ge l pat;unfold Lib.contains at h ⊢;unfold Lib.index uS;cases hp : pat.isPrefixOf (b :: l) with
  | true => rfl
  | false =>
   rw [if_neg (by decide),Bool.false_or,← h];by_cases h1 : Lib.index l pat = -1
   · rw [h1];rfl
   · have h3 : (Lib.index l pat == -1) = false:=by rw [beq_eq_false_iff_ne];exact h1
     rw [h3,if_neg (by decide)];rw [Bool.eq_iff_iff,decide_eq_true_iff,decide_eq_true_iff];omega
theorem sV (pat : Bs) : ∀ l : Bs,l.length < pat.length → uS pat l = false
 | [],h => by
  cases pat with
  | nil => simp at h
  | cons _ _ => rfl
 | b :: l,h => by
  unfold uS;rw [IE _ _ h,sV pat l (by simp only [List.length_cons] at h;omega)];rfl
theorem IG (s : ByteArray) (hs : Sm s) : Ev (fun k => gW.f k s) (reserved s.data.toList):=by
 unfold gW.f reserved;refine Ev.bind (FB s hs) ?_;unfold Sm at hs;cases hn : named s.data.toList with
 | true =>
  have h1 : ((⟨#[32]⟩ : ByteArray) ++ s).size = 1 + s.size:=by rw [ByteArray.size_append];rfl
  refine eH rfl (eH (by omega) (eH (by omega) ?_));refine qF (show strings_Contains.f _ _ = some (Lib.contains AX ([32] ++ s.data.toList ++ [32])) by
   unfold strings_Contains.f;rw [if_pos (by decide),su,su];rfl) ?_
  exact Ev.now _
 | false => exact iQ (by decide) (Ev.now _)
def oJ : ByteArray:=⟨#[32,98,114,101,97,107,32,99,104,97,114,32,99,111,110,116,105,110,117,101,32,100,111,32,101,108,115,101,32,102,111,114,32,103,101,116,98,121,116,101,32,105,102,32,105,110,116,32,112,117,116,98,121,116,101,32,114,101,116,117,114,110,32,115,105,122,101,111,102,32,115,116,114,117,99,116,32,117,105,110,116,32,118,111,105,100,32,119,104,105,108,101,32]⟩
theorem wL : oJ.size = 93:=rfl
theorem J4 : oJ.data.toList = AX:=rfl
theorem zi (s : Bs) (c : UInt8) (t : Bs) : ([32] ++ s ++ [32]).isPrefixOf (c :: t) = true ↔ c = 32 ∧ t.take s.length = s ∧ (t.drop s.length).head? = some 32:=by
 rw [List.isPrefixOf_iff_prefix];constructor
 · rintro ⟨u,hu⟩;simp only [List.cons_append,List.nil_append,List.append_assoc,List.cons.injEq] at hu;obtain ⟨h1,h2⟩:=hu;subst h2;exact ⟨h1.symm,by simp,by simp⟩
 · rintro ⟨h1,h2,h3⟩;subst h1;cases hd : t.drop s.length with
   | nil => rw [hd] at h3;simp at h3
   | cons x u =>
    rw [hd] at h3;simp only [List.head?_cons,Option.some.injEq] at h3;subst h3;refine ⟨u,?_⟩;have:=List.take_append_drop s.length t;rw [h2,hd] at this;simp [← this]
theorem zk (s : ByteArray) (hs : Sm s) (d : Nat) : ∀ i : Nat,i ≤ 93 → 93 - i = d → Ev (fun k => bC.l0 k s (i : Int)) (uS ([32] ++ s.data.toList ++ [32]) (suf oJ i)):=by
 unfold Sm at hs;have hp : ([32] ++ s.data.toList ++ [32] : Bs).length = s.size + 2:=by
  rw [List.length_append,List.length_append,← Lib.size_eq];simp only [List.length_cons,List.length_nil];omega
 have hl (i : Nat) : (suf oJ i).length = 93 - i:=by rw [Cc,wL]
 induction d with
 | zero =>
  intro i hi hd;have e1 : wrap64 (wrap64 ((i : Int) + (s.size : Int)) + 2) = ((i + s.size + 2 : Nat) : Int):=by unfold wrap64;omega
  refine Ev.step (fun k => by rw [bC.l0]) (iQ (by rw [e1];omega) ?_);rw [sV _ _ (by rw [hl,hp];omega)];exact Ev.now _
 | succ d ih =>
  intro i hi hd;have e1 : wrap64 (wrap64 ((i : Int) + (s.size : Int)) + 2) = ((i + s.size + 2 : Nat) : Int):=by unfold wrap64;omega
  refine Ev.step (fun k => by rw [bC.l0]) ?_;by_cases hr : i + s.size + 2 ≤ 93
  · obtain ⟨c,hc,hb⟩:=sU oJ i (by rw [wL];omega);have e2 : wrap64 (wrap64 ((i : Int) + 1) + (s.size : Int)) = ((i + 1 + s.size : Nat) : Int):=by unfold wrap64;omega
    have next:=ih (i + 1) (by omega) (by omega)
    have hsp:=zi s.data.toList c (suf oJ (i + 1));refine eH (by rw [e1];omega) (eH (by omega) (eH (by omega) ?_));rw [show bt (⟨#[32,98,114,101,97,107,32,99,104,97,114,32,99,111,110,116,105,110,117,101,32,100,111,32,101,108,115,101,32,102,111,114,32,103,101,116,98,121,116,101,32,105,102,32,105,110,116,32,112,117,116,98,121,116,101,32,114,101,116,117,114,110,32,115,105,122,101,111,102,32,115,116,114,117,99,116,32,117,105,110,116,32,118,111,105,100,32,119,104,105,108,101,32]⟩ : ByteArray) (i : Int) = (c.toNat : Int) from hb];rw [hc];unfold uS;by_cases h32 : c = 32
    · refine eH (by rw [h32];rfl) ?_;rw [e2,w1 i (by omega)];refine eH (by omega) (eH (by omega) (eH (by omega) ?_));have hx : ((oJ.extract (((i + 1 : Nat) : Int)).toNat (((i + 1 + s.size : Nat) : Int)).toNat).toList = s.toList) ↔ (suf oJ (i + 1)).take s.data.toList.length = s.data.toList:=by
       rw [Lib.toList_data,Lib.toList_data,Lib.extract_data,Int.toNat_natCast,Int.toNat_natCast,← Lib.size_eq,Nat.add_sub_cancel_left];rfl
      by_cases heq : (suf oJ (i + 1)).take s.data.toList.length = s.data.toList
      · refine eH (hx.2 heq) (eH (by omega) (eH (by omega) ?_));obtain ⟨c2,hc2,hb2⟩:=sU oJ (i + 1 + s.size) (by rw [wL];omega);rw [show bt (⟨#[32,98,114,101,97,107,32,99,104,97,114,32,99,111,110,116,105,110,117,101,32,100,111,32,101,108,115,101,32,102,111,114,32,103,101,116,98,121,116,101,32,105,102,32,105,110,116,32,112,117,116,98,121,116,101,32,114,101,116,117,114,110,32,115,105,122,101,111,102,32,115,116,114,117,99,116,32,117,105,110,116,32,118,111,105,100,32,119,104,105,108,101,32]⟩ : ByteArray) ((i + 1 + s.size : Nat) : Int) = (c2.toNat : Int) from hb2];have hd2 : (suf oJ (i + 1)).drop s.data.toList.length = c2 :: suf oJ (i + 1 + s.size + 1):=by rw [← Lib.size_eq,JZ,hc2]
        by_cases h2 : c2 = 32
        · refine eH (by rw [h2];rfl) ?_;rw [hsp.2 ⟨h32,heq,by rw [hd2,h2];rfl⟩,Bool.true_or];exact Ev.now _
        · refine iQ (fun e => h2 (UInt8.toNat_inj.1 (by have : (32 : UInt8).toNat = 32:=rfl;omega))) ?_;have : ([32] ++ s.data.toList ++ [32] : Bs).isPrefixOf (c :: suf oJ (i + 1)) = false:=by
           rw [Bool.eq_false_iff];intro h;have h3:=(hsp.1 h).2.2;rw [hd2] at h3;simp only [List.head?_cons,Option.some.injEq] at h3;exact h2 h3
          rw [this,Bool.false_or];exact next
      · refine iQ (fun h => heq (hx.1 h)) ?_;have : ([32] ++ s.data.toList ++ [32] : Bs).isPrefixOf (c :: suf oJ (i + 1)) = false:=by
         rw [Bool.eq_false_iff];exact fun h => heq (hsp.1 h).2.1
        rw [this,Bool.false_or];exact next
    · refine iQ (fun e => h32 (UInt8.toNat_inj.1 (by have : (32 : UInt8).toNat = 32:=rfl;omega))) ?_;have : ([32] ++ s.data.toList ++ [32] : Bs).isPrefixOf (c :: suf oJ (i + 1)) = false:=by
       rw [Bool.eq_false_iff];exact fun h => h32 (hsp.1 h).1
      rw [this,Bool.false_or,w1 i (by omega)];exact next
  · refine iQ (by rw [e1];omega) ?_;rw [sV _ _ (by rw [hl,hp];omega)];exact Ev.now _
theorem II (s : ByteArray) (hs : Sm s) : Ev (fun k => bC.f k s) (reserved s.data.toList):=by
 unfold bC.f reserved;refine Ev.bind (FC s hs) ?_;cases hn : named s.data.toList with
 | true =>
  refine eH rfl ?_;rw [Bool.true_and,qB,← J4];exact zk s hs 93 0 (by omega) rfl
 | false => exact iQ (by decide) (Ev.now _)
end Go.Proofs.YtboojhadfhpdeaaGreatDoor.Lex
