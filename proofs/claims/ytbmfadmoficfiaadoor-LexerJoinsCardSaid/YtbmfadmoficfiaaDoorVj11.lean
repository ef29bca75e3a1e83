/- Proved: for every two texts, LexerJoins returns true and what came in reads as it did. No condition beyond the given card's own. -/
import Derived.KernelRfl
import Derived.Lib.Fields
import Derived.Lib.IndexAny
import Derived.Lib.IndexBytes
import Derived.Lib.IndexMore
import Derived.Test.YtbmfadmoficfiaaDoorVj1
import Derived.Test.YtbmfadmoficfiaaDoorVj2
import Derived.Test.YtbmfadmoficfiaaDoorVj4
import Derived.Test.YtbmfadmoficfiaaDoorVj5
import Derived.Test.YtbmfadmoficfiaaDoorVj6
import Derived.Test.YtbmfadmoficfiaaDoorVj7
import Derived.Test.YtbmfadmoficfiaaDoorVj8
import Derived.Test.YtbmfadmoficfiaaDoorVj10
namespace Go.Proofs.YtbmfadmoficfiaaDoor.Lex
open Go.RowKit Go.Proofs.YtbmfadmoficfiaaDoorW.PrintWords
set_option linter.unusedVariables false
abbrev Bs := List UInt8
def dig (c : UInt8) : Bool := decide (48 ≤ c.toNat) && decide (c.toNat ≤ 57)
def let_ (c : UInt8) : Bool := (decide (97 ≤ c.toNat) && decide (c.toNat ≤ 122)) || (decide (65 ≤ c.toNat) && decide (c.toNat ≤ 90)) || decide (c.toNat = 95)
def wi (c : UInt8) : Bool := dig c || let_ c
def hexv (c : UInt8) : Nat :=
 if 48 ≤ c.toNat ∧ c.toNat ≤ 57 then c.toNat - 48
 else if 97 ≤ c.toNat ∧ c.toNat ≤ 102 then c.toNat - 97 + 10
 else if 65 ≤ c.toNat ∧ c.toNat ≤ 70 then c.toNat - 65 + 10
 else 99
def blank (c : UInt8) : Bool := c == 32 || c == 9 || c == 10 || c == 13
def Z57 : Bs → Nat
 | [] => 0
 | c :: r => if c = 10 then 0 else Z57 r + 1
def comEnd : Bs → Option Nat
 | [] => none
 | c :: r => if List.isPrefixOf [42, 47] (c :: r) = true then some 2 else (comEnd r).map (· + 1)
theorem lineLen_le : ∀ l : Bs, Z57 l ≤ l.length
 | [] => Nat.le_refl _
 | c :: r => by
  have := lineLen_le r
  unfold Z57
  split
  · omega
  · simp only [List.length_cons]; omega
theorem comEnd_le : ∀ (l : Bs) (m : Nat), comEnd l = some m → 2 ≤ m ∧ m ≤ l.length
 | [], m, h => by simp [comEnd] at h
 | c :: r, m, h => by
  unfold comEnd at h
  split at h
  · rename_i hp
    obtain rfl := Option.some.inj h
    refine ⟨Nat.le_refl _, ?_⟩
    have := List.IsPrefix.length_le (List.isPrefixOf_iff_prefix.1 hp)
    simpa using this
  · obtain ⟨q, hq, rfl⟩ := Option.map_eq_some_iff.1 h
    have := comEnd_le r q hq
    simp only [List.length_cons]
    omega
def gap (l : Bs) : Nat × Bool :=
 match l with
 | [] => (0, true)
 | c :: r =>
  if blank c = true then ((gap r).1 + 1, (gap r).2)
  else if c = 47 then
   match r with
   | [] => (0, true)
   | d :: q =>
    if d = 47 then ((gap (q.drop (Z57 q))).1 + (Z57 q + 2), (gap (q.drop (Z57 q))).2)
    else if d = 42 then
     match comEnd q with
     | none => (0, false)
     | some m => ((gap (q.drop m)).1 + (m + 2), (gap (q.drop m)).2)
    else (0, true)
  else (0, true)
termination_by l.length
decreasing_by all_goals simp_wf; (try omega)
theorem gap_nil : gap [] = (0, true) := by unfold gap; rfl
theorem gap_blank {c : UInt8} (r : Bs) (h : blank c = true) : gap (c :: r) = ((gap r).1 + 1, (gap r).2) := by
 conv => lhs; unfold gap
 simp only [h, if_true]
theorem gap_other {c : UInt8} (r : Bs) (h : blank c = false) (h2 : c ≠ 47) : gap (c :: r) = (0, true) := by
 conv => lhs; unfold gap
 simp [h, h2]
theorem gap_slash : gap [47] = (0, true) := by
 conv => lhs; unfold gap
 simp [show blank 47 = false from rfl]
theorem gap_slash_other {d : UInt8} (q : Bs) (h1 : d ≠ 47) (h2 : d ≠ 42) : gap (47 :: d :: q) = (0, true) := by
 conv => lhs; unfold gap
 simp [show blank 47 = false from rfl, h1, h2]
theorem gap_line (q : Bs) : gap (47 :: 47 :: q) = ((gap (q.drop (Z57 q))).1 + (Z57 q + 2), (gap (q.drop (Z57 q))).2) := by
 conv => lhs; unfold gap
 simp [show blank 47 = false from rfl]
theorem gap_com_none (q : Bs) (h : comEnd q = none) : gap (47 :: 42 :: q) = (0, false) := by
 conv => lhs; unfold gap
 simp [show blank 47 = false from rfl, h]
theorem gap_com_some (q : Bs) (m : Nat) (h : comEnd q = some m) : gap (47 :: 42 :: q) = ((gap (q.drop m)).1 + (m + 2), (gap (q.drop m)).2) := by
 conv => lhs; unfold gap
 simp [show blank 47 = false from rfl, h]
theorem lineLen_ne {c : UInt8} (r : Bs) (h : c ≠ 10) : Z57 (c :: r) = Z57 r + 1 := by
 conv => lhs; unfold Z57
 rw [if_neg h]
theorem lineLen_nl (r : Bs) : Z57 (10 :: r) = 0 := by
 unfold Z57
 rfl
structure Tk where
 kind : Nat
 text : Bs
 num : Nat
 uns : Bool
 len : Nat
def numVal (base : Nat) (ds : Bs) : Nat := ds.foldl (fun v c => v * base + hexv c) 0
def isHex : Bs → Bool
 | c :: d :: _ => c == 48 && (d == 120 || d == 88)
 | _ => false
def isU : Bs → Bool
 | c :: _ => c == 117 || c == 85
 | [] => false
def headWi : Bs → Bool
 | c :: _ => wi c
 | [] => false
def numTok (s : Bs) : Option Tk :=
 let pre := if isHex s then 2 else 0
 let base := if isHex s then 16 else 10
 let ds := (s.drop pre).takeWhile fun c => decide (hexv c < base)
 let v := numVal base ds
 let e := pre + ds.length
 let u := isU (s.drop e)
 let e' := if u then e + 1 else e
 if ds = [] ∨ 4294967296 ≤ v ∨ (isHex s = false ∧ 1 < ds.length ∧ ds.head? = some 48) ∨ headWi (s.drop e') = true then none
 else some ⟨5, [], v, u || decide (2147483648 ≤ v), e'⟩
def esc (d : UInt8) : Option UInt8 :=
 if d = 110 then some 10 else if d = 116 then some 9 else if d = 114 then some 13 else if d = 48 then some 0
 else if d = 92 then some 92 else if d = 39 then some 39 else if d = 34 then some 34 else none
def unit (mark : UInt8) : Bs → Option (UInt8 × Nat)
 | [] => none
 | c :: r =>
  if c.toNat < 32 ∨ 126 < c.toNat ∨ c = mark then none
  else if c ≠ 92 then some (c, 1)
  else match r with
   | [] => none
   | d :: q =>
    match esc d with
    | some x => some (x, 2)
    | none =>
     if d = 120 then
      match q with
      | a :: b :: _ => if hexv a < 16 ∧ hexv b < 16 then some (UInt8.ofNat (hexv a * 16 + hexv b), 4) else none
      | _ => none
     else none
theorem unit_le (mark : UInt8) (s : Bs) (b : UInt8) (n : Nat) (h : unit mark s = some (b, n)) : 1 ≤ n ∧ n ≤ s.length := by
 unfold unit at h
 split at h
 · cases h
 · split at h
   · cases h
   · split at h
     · cases h
       simp
     · split at h
       · cases h
       · split at h
         · cases h
           simp
         · split at h
           · split at h
             · split at h
               · cases h
                 simp
               · cases h
             · cases h
           · cases h
def units (mark : UInt8) (s : Bs) : Option (Bs × Nat) :=
 match s with
 | [] => none
 | c :: r =>
  if c = mark then some ([], 0)
  else match h : unit mark (c :: r) with
   | none => none
   | some (b, n) => (units mark ((c :: r).drop n)).map fun t => (b :: t.1, n + t.2)
termination_by s.length
decreasing_by
 have := unit_le mark (c :: r) b n h
 simp_wf
 simp at this
 omega
def quotTok : Bs → Option Tk
 | [] => none
 | c :: r =>
  match units c r with
  | none => none
  | some (t, n) => if c = 34 then some ⟨7, t, 0, false, n + 2⟩ else if t.length = 1 then some ⟨6, [], (t.headD 0).toNat, false, n + 2⟩ else none
def wordsText : Bs := [32, 98, 114, 101, 97, 107, 32, 99, 104, 97, 114, 32, 99, 111, 110, 116, 105, 110, 117, 101, 32, 100, 111, 32, 101, 108, 115, 101, 32, 102, 111, 114, 32, 103, 101, 116, 98, 121, 116, 101, 32, 105, 102, 32, 105, 110, 116, 32, 112, 117, 116, 98, 121, 116, 101, 32, 114, 101, 116, 117, 114, 110, 32, 115, 105, 122, 101, 111, 102, 32, 115, 116, 114, 117, 99, 116, 32, 117, 105, 110, 116, 32, 118, 111, 105, 100, 32, 119, 104, 105, 108, 101, 32]
def named : Bs → Bool
 | [] => false
 | c :: r => !dig c && (c :: r).all wi
def Z85 (s : Bs) : Bool := named s && Lib.contains wordsText ([32] ++ s ++ [32])
def Z76 (s : Bs) : Tk :=
 let w := s.takeWhile wi
 ⟨if Z85 w then 3 else 2, w, 0, false, w.length⟩
def marks : List Bs := [[60, 60, 61], [62, 62, 61], [45, 62], [43, 61], [45, 61], [42, 61], [47, 61], [37, 61], [38, 61], [124, 61], [94, 61], [61, 61], [33, 61], [60, 61], [62, 61], [60, 60], [62, 62], [38, 38], [124, 124], [40], [41], [123], [125], [91], [93], [59], [44], [46], [61], [60], [62], [43], [45], [42], [47], [37], [38], [124], [94], [126], [33], [63], [58]]
def markTok (s : Bs) : Option Tk := (marks.find? fun m => m.isPrefixOf s).map fun m => ⟨4, m, 0, false, m.length⟩
def tok (s : Bs) : Option Tk :=
 match s with
 | [] => none
 | c :: _ => if dig c then numTok s else if wi c then some (Z76 s) else if c = 34 ∨ c = 39 then quotTok s else markTok s
inductive Ans where
 | fin (at_ : Nat)
 | bad (at_ : Nat)
 | tk (t : Tk) (pos : Nat)
def next (l : Bs) (i : Nat) : Ans :=
 let g := gap (l.drop i)
 if g.2 = false then .bad (i + g.1)
 else if l.length ≤ i + g.1 then .fin (i + g.1)
 else match tok (l.drop (i + g.1)) with
  | none => .bad (i + g.1)
  | some t => .tk t (i + g.1)
end Go.Proofs.YtbmfadmoficfiaaDoor.Lex
namespace Go.Proofs.YtbmfadmoficfiaaDoor.Lex
open Go.RowKit Go.Proofs.YtbmfadmoficfiaaDoorW.PrintWords Go.Proofs.YtbmfadmoficfiaaDoor.Q
set_option linter.unusedVariables false
section
variable {α β : Type} {r : α}
theorem ev_pos {c : Prop} [Decidable c] {f g : Nat → Option α} (h : c) (k : Ev f r) : Ev (fun n => if c then f n else g n) r := Ev.congr (fun n => if_pos h) k
theorem ev_neg {c : Prop} [Decidable c] {f g : Nat → Option α} (h : ¬ c) (k : Ev g r) : Ev (fun n => if c then f n else g n) r := Ev.congr (fun n => if_neg h) k
theorem Z65 {g : Option β} {b : β} {F : Nat → β → Option α} (h : g = some b) (k : Ev (fun n => F n b) r) : Ev (fun n => g.bind (F n)) r := by
 subst h
 exact k
end
theorem w1 (i : Nat) (h : i ≤ 4611686018427387904) : wrap64 ((i : Int) + 1) = ((i + 1 : Nat) : Int) := by unfold wrap64; omega
theorem w2 (i : Nat) (h : i ≤ 4611686018427387904) : wrap64 ((i : Int) + 2) = ((i + 2 : Nat) : Int) := by unfold wrap64; omega
theorem w3 (i : Nat) (h : i ≤ 4611686018427387904) : wrap64 ((i : Int) + 3) = ((i + 3 : Nat) : Int) := by unfold wrap64; omega
theorem w4 (i : Nat) (h : i ≤ 4611686018427387904) : wrap64 ((i : Int) + 4) = ((i + 4 : Nat) : Int) := by unfold wrap64; omega
theorem wk (i k : Nat) (h : i ≤ 4611686018427387904) (hk : k ≤ 2305843009213693952) : wrap64 ((i : Int) + (k : Int)) = ((i + k : Nat) : Int) := by unfold wrap64; omega
def suf (s : ByteArray) (i : Nat) : Bs := s.data.toList.drop i
theorem Z78 (s : ByteArray) (i : Nat) : (suf s i).length = s.size - i := by unfold suf; rw [List.length_drop, ← Lib.size_eq]
theorem Z68 (s : ByteArray) (i : Nat) (h : s.size ≤ i) : suf s i = [] := by
 apply List.eq_nil_of_length_eq_zero
 rw [Z78]
 omega
theorem suf_at (s : ByteArray) (i : Nat) (h : i < s.size) : ∃ c, suf s i = c :: suf s (i + 1) ∧ bt s (i : Int) = (c.toNat : Int) := by
 have h1 := Lib.data_getElem? s i h
 have h2 : i < s.data.toList.length := by rw [← Lib.size_eq]; exact h
 refine ⟨s[i], ?_, ?_⟩
 · unfold suf
   rw [List.drop_eq_getElem_cons h2]
   rw [List.getElem?_eq_getElem h2] at h1
   rw [Option.some.inj h1]
 · unfold bt
   rw [dif_pos (by simpa using h)]
   rfl
theorem suf_cons {s : ByteArray} {i : Nat} {c : UInt8} {r : Bs} (h : suf s i = c :: r) : i < s.size ∧ r = suf s (i + 1) ∧ bt s (i : Int) = (c.toNat : Int) := by
 have hi : i < s.size := by
  rcases Nat.lt_or_ge i s.size with h1 | h1
  · exact h1
  · rw [Z68 s i h1] at h
    cases h
 obtain ⟨d, hd, hb⟩ := suf_at s i hi
 rw [h] at hd
 injection hd with h1 h2
 subst h1
 exact ⟨hi, h2, hb⟩
theorem Z86 (s : ByteArray) (i k : Nat) : (suf s i).drop k = suf s (i + k) := by unfold suf; rw [List.drop_drop]
theorem ext_suf (s : ByteArray) (i : Nat) : (s.extract ((i : Nat) : Int).toNat s.size).data.toList = suf s i := by
 rw [Int.toNat_natCast]
 exact Lib.extract_to_end s i
theorem ext_size (s : ByteArray) (i : Nat) : (s.extract ((i : Nat) : Int).toNat s.size).size ≤ s.size := by
 rw [Lib.size_eq, ext_suf, Z78]
 omega
theorem Z87 (c : UInt8) : Ev (fun k => Z13.f k (c.toNat : Int)) (hexv c : Int) := by
 have hc := c.toNat_lt
 unfold hexv
 by_cases h1 : 48 ≤ c.toNat ∧ c.toNat ≤ 57
 · rw [if_pos h1]
   refine ev_pos (by omega) (Ev.step (fun k => by rw [Z13.j0]) (ev_pos (by simp; omega) ?_))
   have : ((c.toNat : Int) - 48) % 256 = ((c.toNat - 48 : Nat) : Int) := by omega
   rw [this]
   exact Ev.now _
 · rw [if_neg h1]
   have key : Ev (fun k => Z13.j0 k (c.toNat : Int) false) ((if 97 ≤ c.toNat ∧ c.toNat ≤ 102 then c.toNat - 97 + 10 else if 65 ≤ c.toNat ∧ c.toNat ≤ 70 then c.toNat - 65 + 10 else 99 : Nat) : Int) := by
    refine Ev.step (fun k => by rw [Z13.j0]) (ev_neg (by simp) ?_)
    have low : ¬ (97 ≤ c.toNat ∧ c.toNat ≤ 102) → Ev (fun k => Z13.j1 k (c.toNat : Int) false) ((if 97 ≤ c.toNat ∧ c.toNat ≤ 102 then c.toNat - 97 + 10 else if 65 ≤ c.toNat ∧ c.toNat ≤ 70 then c.toNat - 65 + 10 else 99 : Nat) : Int) := by
     intro h2
     rw [if_neg h2]
     refine Ev.step (fun k => by rw [Z13.j1]) (ev_neg (by simp) ?_)
     by_cases h3 : 65 ≤ c.toNat
     · refine ev_pos (by omega) ?_
       by_cases h4 : c.toNat ≤ 70
       · refine ev_pos (by omega) ?_
         rw [if_pos ⟨h3, h4⟩]
         have : ((c.toNat : Int) - 65) % 256 + 10 = ((c.toNat - 65 + 10 : Nat) : Int) := by omega
         rw [this]
         exact Ev.now _
       · refine ev_neg (by omega) ?_
         rw [if_neg (by omega)]
         exact Ev.now _
     · refine ev_neg (by omega) ?_
       rw [if_neg (by omega)]
       exact Ev.now _
    by_cases h2 : 97 ≤ c.toNat
    · refine ev_pos (by omega) ?_
      by_cases h3 : c.toNat ≤ 102
      · rw [decide_eq_true (by omega), if_pos ⟨h2, h3⟩]
        refine Ev.step (fun k => by rw [Z13.j1]) (ev_pos rfl ?_)
        have : ((c.toNat : Int) - 97) % 256 + 10 = ((c.toNat - 97 + 10 : Nat) : Int) := by omega
        rw [this]
        exact Ev.now _
      · rw [decide_eq_false (by omega)]
        exact low (by omega)
    · refine ev_neg (by omega) ?_
      exact low (by omega)
   by_cases h2 : 48 ≤ c.toNat
   · refine ev_pos (by omega) ?_
     rw [decide_eq_false (by omega)]
     exact key
   · refine ev_neg (by omega) ?_
     exact key
theorem hexv_lt10 (c : UInt8) : hexv c < 10 ↔ dig c = true := by
 unfold hexv dig
 simp only [Bool.and_eq_true, decide_eq_true_eq]
 split
 · omega
 · split
   · omega
   · split <;> omega
theorem wi_some (c : UInt8) : Z37.f (c.toNat : Int) = some (wi c) := by
 have hc := c.toNat_lt
 have e : ((c.toNat : Int) == 95) = decide (c.toNat = 95) := by
  by_cases h : c.toNat = 95
  · simp [h]
  · rw [decide_eq_false h]
    simp
    omega
 unfold Z37.f wi dig let_
 rw [e]
 repeat' split
 all_goals refine congrArg some ?_
 all_goals rw [Bool.eq_iff_iff]
 all_goals simp only [Bool.or_eq_true, Bool.and_eq_true, decide_eq_true_eq, true_iff]
 all_goals omega
theorem nat8 (c : UInt8) : ((c.toNat : Int)).toNat.toUInt8 = c := by
 rw [Int.toNat_natCast]
 simp
theorem ib_blank (c : UInt8) : (0 ≤ Lib.indexByte [32, 9, 10, 13] c) ↔ blank c = true := by
 rw [← decide_eq_true_iff (p := 0 ≤ Lib.indexByte [32, 9, 10, 13] c), ← Lib.contains_iff_indexByte]
 unfold blank
 simp [or_assoc]
theorem ib_line : ∀ l : Bs, Lib.indexByte l 10 = if Z57 l = l.length then -1 else (Z57 l : Int)
 | [] => rfl
 | c :: r => by
  have h := ib_line r
  have hl := lineLen_le r
  unfold Lib.indexByte
  by_cases hc : c = 10
  · subst hc
    rw [lineLen_nl]
    simp
  · rw [if_neg (by simpa using hc), lineLen_ne r hc, h]
    simp only [List.length_cons]
    by_cases h1 : Z57 r = r.length
    · rw [h1]
      simp
    · have h2 : ¬ (Z57 r + 1 = r.length + 1) := by omega
      have h3 : (((Z57 r : Nat) : Int) == -1) = false := by
       rw [beq_eq_false_iff_ne]
       omega
      simp only [h1, h2, if_false, h3, Bool.false_eq_true]
      omega
theorem ix_com : ∀ l : Bs, Lib.index l [42, 47] = match comEnd l with | none => -1 | some m => (m : Int) - 2
 | [] => rfl
 | c :: r => by
  have h := ix_com r
  unfold Lib.index comEnd
  by_cases hp : List.isPrefixOf [42, 47] (c :: r) = true
  · rw [if_pos hp, if_pos hp]
    rfl
  · rw [if_neg hp, if_neg hp, h]
    cases hr : comEnd r with
    | none => rfl
    | some m =>
     have := comEnd_le r m hr
     have h3 : (((m : Nat) : Int) - 2 == -1) = false := by
      rw [beq_eq_false_iff_ne]
      omega
     simp only [Option.map_some, h3, Bool.false_eq_true, if_false]
     show (m : Int) - 2 + 1 = ((m + 1 : Nat) : Int) - 2
     omega
theorem hp_some (a b : ByteArray) (hb : b.size ≤ 4611686018427387904) : strings_HasPrefix.f a b = some (b.data.toList.isPrefixOf a.data.toList) := by
 unfold strings_HasPrefix.f stringslite_HasPrefix.f
 by_cases h : (a.size : Int) ≥ (b.size : Int)
 · rw [if_pos h, if_pos (by omega), if_pos h]
   simp only [Option.bind_some, Option.some.injEq]
   rw [Lib.toList_data, Lib.toList_data, Int.toNat_natCast, Lib.extract_data, List.drop_zero, Nat.sub_zero, Lib.size_eq b]
   rw [Bool.eq_iff_iff, beq_iff_eq, List.isPrefixOf_iff_prefix]
   constructor
   · intro e
     rw [← e]
     exact List.take_prefix _ _
   · intro e
     obtain ⟨t, ht⟩ := e
     rw [← ht]
     simp
 · rw [if_neg h]
   simp only [Option.bind_some, Option.some.injEq]
   symm
   rw [Bool.eq_false_iff]
   intro e
   have := (List.isPrefixOf_iff_prefix.1 e).length_le
   rw [← Lib.size_eq, ← Lib.size_eq] at this
   omega
theorem skip_gap (s : ByteArray) (hs : s.size < 4294967281) (d : Nat) : ∀ i : Nat, i ≤ s.size → s.size - i ≤ d → Ev (fun k => Z32.l0 k s (i : Int)) (((i + (gap (suf s i)).1 : Nat) : Int), (gap (suf s i)).2) := by
 induction d using Nat.strongRecOn with
 | _ d ih =>
 intro i hi hd
 refine Ev.step (fun k => by rw [Z32.l0]) ?_
 rcases Nat.lt_or_ge i s.size with hlt | hge
 · obtain ⟨c, hc, hb⟩ := suf_at s i hlt
   refine ev_pos (by omega) (ev_pos (by omega) ?_)
   rw [hb]
   refine Z65 (show strings_IndexByte.f (⟨#[32, 9, 10, 13]⟩ : ByteArray) (c.toNat : Int) = some (Lib.indexByte [32, 9, 10, 13] c) by unfold strings_IndexByte.f; rw [nat8]) ?_
   by_cases hbl : blank c = true
   · refine ev_pos ((ib_blank c).2 hbl) ?_
     have h := ih (s.size - (i + 1)) (by omega) (i + 1) (by omega) (Nat.le_refl _)
     rw [w1 i (by omega)]
     rw [hc, gap_blank _ hbl]
     rw [show i + ((gap (suf s (i + 1))).1 + 1) = i + 1 + (gap (suf s (i + 1))).1 by omega]
     exact h
   · refine ev_neg (fun h => hbl ((ib_blank c).1 h)) (ev_pos (by omega) ?_)
     refine Z65 (hp_some _ _ (by decide)) ?_
     rw [ext_suf, hc]
     by_cases h47 : c = 47
     · subst h47
       cases hq : suf s (i + 1) with
       | nil =>
        refine ev_neg (by simp [List.isPrefixOf]) ?_
        refine Z65 (hp_some _ _ (by decide)) (ev_neg (by rw [ext_suf, hc, hq]; simp [List.isPrefixOf]) ?_)
        rw [gap_slash]
        exact Ev.now _
       | cons e q =>
        obtain ⟨hi1, hq2, _⟩ := suf_cons hq
        by_cases he : e = 47
        · subst he
          refine ev_pos (by simp [List.isPrefixOf]) ?_
          refine Z65 (show strings_IndexByte.f _ 10 = some (Lib.indexByte (suf s i) 10) by unfold strings_IndexByte.f; rw [ext_suf]; rfl) ?_
          have hl : Lib.indexByte (suf s i) 10 = if Z57 q = q.length then -1 else ((Z57 q + 2 : Nat) : Int) := by
           rw [ib_line, hc, hq, lineLen_ne _ (by decide), lineLen_ne _ (by decide)]
           simp only [List.length_cons, Nat.add_right_cancel_iff]
          have hql : q.length = s.size - (i + 2) := by rw [hq2, Z78]
          rw [gap_line, hl]
          by_cases h1 : Z57 q = q.length
          · rw [if_pos h1]
            refine ev_pos (by decide) ?_
            rw [h1, List.drop_length, gap_nil]
            rw [show i + (0 + (q.length + 2)) = s.size by omega]
            exact Ev.now _
          · rw [if_neg h1]
            have hle := lineLen_le q
            refine ev_neg (by omega) ?_
            rw [wk i (Z57 q + 2) (by omega) (by omega)]
            have h := ih (s.size - (i + (Z57 q + 2))) (by omega) (i + (Z57 q + 2)) (by omega) (Nat.le_refl _)
            have hd2 : q.drop (Z57 q) = suf s (i + (Z57 q + 2)) := by rw [hq2, Z86]; congr 1; omega
            rw [hd2, show i + ((gap (suf s (i + (Z57 q + 2)))).1 + (Z57 q + 2)) = i + (Z57 q + 2) + (gap (suf s (i + (Z57 q + 2)))).1 by omega]
            exact h
        · refine ev_neg (by simp [List.isPrefixOf]; exact fun h => he h.symm) ?_
          refine Z65 (hp_some _ _ (by decide)) ?_
          rw [ext_suf, hc, hq]
          by_cases he2 : e = 42
          · subst he2
            refine ev_pos (by simp [List.isPrefixOf]) ?_
            rw [w2 i (by omega)]
            refine ev_pos (by omega) (ev_pos (by omega) ?_)
            refine Z65 (show strings_Index.f _ _ = some (Lib.index q [42, 47]) by
             unfold strings_Index.f
             rw [if_pos (Nat.lt_of_le_of_lt (ext_size _ _) hs), ext_suf, ← hq2]) ?_
            rw [ix_com]
            cases hm : comEnd q with
            | none =>
             rw [gap_com_none q hm]
             refine ev_pos (by simp) ?_
             exact Ev.now _
            | some m =>
             have hm2 := comEnd_le q m hm
             have hql : q.length = s.size - (i + 2) := by rw [hq2, Z78]
             rw [gap_com_some q m hm]
             refine ev_neg (by simp; omega) ?_
             have e1 : wrap64 ((i : Int) + wrap64 ((m : Int) - 2 + 4)) = ((i + (m + 2) : Nat) : Int) := by unfold wrap64; omega
             rw [e1]
             have h := ih (s.size - (i + (m + 2))) (by omega) (i + (m + 2)) (by omega) (Nat.le_refl _)
             have hd2 : q.drop m = suf s (i + (m + 2)) := by rw [hq2, Z86]; congr 1; omega
             simp only
             rw [hd2, show i + ((gap (suf s (i + (m + 2)))).1 + (m + 2)) = i + (m + 2) + (gap (suf s (i + (m + 2)))).1 by omega]
             exact h
          · refine ev_neg (by simp [List.isPrefixOf]; exact fun h => he2 h.symm) ?_
            rw [gap_slash_other q he he2]
            exact Ev.now _
     · have hp (x : UInt8) : List.isPrefixOf [47, x] (c :: suf s (i + 1)) = false := by
        unfold List.isPrefixOf
        rw [show ((47 : UInt8) == c) = false by simpa using fun h => h47 h.symm]
        rfl
       refine ev_neg (by rw [hp 47]; decide) ?_
       refine Z65 (hp_some _ _ (by decide)) (ev_neg (by rw [ext_suf, hc, hp 42]; decide) ?_)
       rw [gap_other _ (by simpa using hbl) h47]
       exact Ev.now _
 · refine ev_neg (by omega) ?_
   rw [Z68 s i hge, gap_nil]
   exact Ev.now _
end Go.Proofs.YtbmfadmoficfiaaDoor.Lex
namespace Go.Proofs.YtbmfadmoficfiaaDoor.Lex
open Go.RowKit Go.Proofs.YtbmfadmoficfiaaDoorW.PrintWords Go.Proofs.YtbmfadmoficfiaaDoor.Q
set_option linter.unusedVariables false
abbrev Sm (s : ByteArray) : Prop := s.size ≤ 1152921504606846976
theorem named_all (s : ByteArray) (hs : Sm s) (d : Nat) : ∀ i : Nat, i ≤ s.size → s.size - i = d → Ev (fun k => Z30.l0 k s (s.size : Int) (i : Int)) ((suf s i).all wi) := by
 unfold Sm at hs
 induction d with
 | zero =>
  intro i hi hd
  refine Ev.step (fun k => by rw [Z30.l0]) (ev_neg (by omega) ?_)
  rw [Z68 s i (by omega)]
  exact Ev.now _
 | succ d ih =>
  intro i hi hd
  obtain ⟨c, hc, hb⟩ := suf_at s i (by omega)
  refine Ev.step (fun k => by rw [Z30.l0]) (ev_pos (by omega) (ev_pos (by omega) (ev_pos (by omega) ?_)))
  rw [hb]
  refine Z65 (wi_some c) ?_
  rw [hc, List.all_cons]
  cases hw : wi c with
  | true =>
   refine ev_pos rfl ?_
   rw [w1 i (by omega), Bool.true_and]
   exact ih (i + 1) (by omega) (by omega)
  | false => exact ev_neg (by decide) (Ev.now _)
theorem nil_iff (s : ByteArray) : s.toList = [] ↔ s.size = 0 := by
 rw [Lib.toList_data, Lib.size_eq]
 exact List.eq_nil_iff_length_eq_zero
theorem suf0 (s : ByteArray) : suf s 0 = s.data.toList := rfl
theorem lex_named (s : ByteArray) (hs : Sm s) : Ev (fun k => Z30.f k s) (named s.data.toList) := by
 unfold Z30.f
 by_cases h0 : s.size = 0
 · refine ev_pos ((nil_iff s).2 h0) (Ev.step (fun k => by rw [Z30.j0]) (ev_pos rfl ?_))
   rw [← suf0, Z68 s 0 (by omega)]
   exact Ev.now _
 · refine ev_neg (fun h => h0 ((nil_iff s).1 h)) (ev_pos (by omega) ?_)
   obtain ⟨c, hc, hb⟩ := suf_at s 0 (by omega)
   rw [show (bt s 0) = (c.toNat : Int) from hb]
   refine Ev.bind (Z87 c) ?_
   rw [← suf0, hc]
   have hn : named (c :: suf s (0 + 1)) = (!dig c && (suf s 0).all wi) := by rw [hc]; rfl
   rw [hn]
   refine Ev.step (fun k => by rw [Z30.j0]) ?_
   have hd := hexv_lt10 c
   cases hg : dig c with
   | true =>
    have h1 := hd.2 hg
    exact ev_pos (by simp; omega) (Ev.now _)
   | false =>
    have h1 : ¬ hexv c < 10 := fun h => by rw [hd.1 h] at hg; cases hg
    refine ev_neg (by simp; omega) ?_
    exact named_all s hs s.size 0 (by omega) rfl
theorem bytes_app (a b : ByteArray) : (a ++ b).data.toList = a.data.toList ++ b.data.toList := by
 rw [ByteArray.data_append, Array.toList_append]
theorem lex_reserved (s : ByteArray) (hs : Sm s) : Ev (fun k => Z42.f k s) (Z85 s.data.toList) := by
 unfold Z42.f Z85
 refine Ev.bind (lex_named s hs) ?_
 unfold Sm at hs
 cases hn : named s.data.toList with
 | true =>
  have h1 : ((⟨#[32]⟩ : ByteArray) ++ s).size = 1 + s.size := by rw [ByteArray.size_append]; rfl
  refine ev_pos rfl (ev_pos (by omega) (ev_pos (by omega) ?_))
  refine Z65 (show strings_Contains.f _ _ = some (Lib.contains wordsText ([32] ++ s.data.toList ++ [32])) by
   unfold strings_Contains.f
   rw [if_pos (by decide), bytes_app, bytes_app]
   rfl) ?_
  exact Ev.now _
 | false => exact ev_neg (by decide) (Ev.now _)
end Go.Proofs.YtbmfadmoficfiaaDoor.Lex
namespace Go.Proofs.YtbmfadmoficfiaaDoor.Lex
open Go.RowKit Go.Proofs.YtbmfadmoficfiaaDoorW.PrintWords Go.Proofs.YtbmfadmoficfiaaDoor.Q
set_option linter.unusedVariables false
abbrev TR := Int × ByteArray × Int × Bool × Int × Int × Bool
def Fits (o : Option Tk) (pos : Nat) (t : TR) : Prop :=
 match o with
 | none => t.2.2.2.2.2.2 = false
 | some x => t = ((x.kind : Int), ⟨x.text.toArray⟩, (x.num : Int), x.uns, (pos : Int), ((pos + x.len : Nat) : Int), true)
def EvF (g : Nat → Option TR) (o : Option Tk) (pos : Nat) : Prop := ∃ t, Ev g t ∧ Fits o pos t
theorem EvF.step {g f : Nat → Option TR} {o : Option Tk} {pos : Nat} (h : ∀ k, g (k + 1) = f k) (k : EvF f o pos) : EvF g o pos := by
 obtain ⟨t, h1, h2⟩ := k
 exact ⟨t, Ev.step h h1, h2⟩
theorem EvF.pos {c : Prop} [Decidable c] {f g : Nat → Option TR} {o : Option Tk} {p : Nat} (h : c) (k : EvF f o p) : EvF (fun n => if c then f n else g n) o p := by
 obtain ⟨t, h1, h2⟩ := k
 exact ⟨t, ev_pos h h1, h2⟩
theorem EvF.neg {c : Prop} [Decidable c] {f g : Nat → Option TR} {o : Option Tk} {p : Nat} (h : ¬ c) (k : EvF g o p) : EvF (fun n => if c then f n else g n) o p := by
 obtain ⟨t, h1, h2⟩ := k
 exact ⟨t, ev_neg h h1, h2⟩
theorem EvF.bind {β : Type} {g : Nat → Option β} {f : Nat → β → Option TR} {a : β} {o : Option Tk} {p : Nat} (h : Ev g a) (k : EvF (fun n => f n a) o p) : EvF (fun n => (g n).bind (f n)) o p := by
 obtain ⟨t, h1, h2⟩ := k
 exact ⟨t, Ev.bind h h1, h2⟩
theorem EvF.bindc {β : Type} {g : Option β} {f : Nat → β → Option TR} {a : β} {o : Option Tk} {p : Nat} (h : g = some a) (k : EvF (fun n => f n a) o p) : EvF (fun n => g.bind (f n)) o p := by
 obtain ⟨t, h1, h2⟩ := k
 exact ⟨t, Z65 h h1, h2⟩
theorem EvF.bad {t : TR} {o : Option Tk} {p : Nat} (ho : o = none) (h : t.2.2.2.2.2.2 = false) : EvF (fun _ => some t) o p := by
 subst ho
 exact ⟨t, Ev.now t, h⟩
theorem EvF.now {t : TR} {o : Option Tk} {p : Nat} (h : Fits o p t) : EvF (fun _ => some t) o p := ⟨t, Ev.now t, h⟩
theorem u64w (n : Nat) (h : n < 18446744073709551616) : IntKind.u64.wrap (n : Int) = (n : Int) := by
 have e : IntKind.u64.wrap (n : Int) = (n : Int) % 18446744073709551616 := by simp [IntKind.wrap, IntKind.bits, IntKind.signed]
 rw [e]
 omega
def Z82 (b n : Nat) (ds : Bs) : Nat := ds.foldl (fun v c => v * b + hexv c) n
theorem numFrom_ge (b : Nat) (hb : 1 ≤ b) : ∀ (ds : Bs) (n : Nat), n ≤ Z82 b n ds
 | [], n => Nat.le_refl _
 | c :: ds, n => by
  have h := numFrom_ge b hb ds (n * b + hexv c)
  have h2 : n ≤ n * b := Nat.le_mul_of_pos_right _ hb
  exact Nat.le_trans (by omega) h
theorem numFrom_cons (b n : Nat) (c : UInt8) (ds : Bs) : Z82 b n (c :: ds) = Z82 b (n * b + hexv c) ds := rfl
def digs (b : Nat) (s : ByteArray) (j : Nat) : Bs := (suf s j).takeWhile fun c => decide (hexv c < b)
theorem digs_nil (b : Nat) (s : ByteArray) (j : Nat) (h : s.size ≤ j) : digs b s j = [] := by unfold digs; rw [Z68 s j h]; rfl
theorem digs_pos (b : Nat) (s : ByteArray) (j : Nat) {c : UInt8} (hc : suf s j = c :: suf s (j + 1)) (h : hexv c < b) : digs b s j = c :: digs b s (j + 1) := by
 unfold digs
 rw [hc, List.takeWhile_cons, if_pos (decide_eq_true h)]
theorem digs_neg (b : Nat) (s : ByteArray) (j : Nat) {c : UInt8} (hc : suf s j = c :: suf s (j + 1)) (h : ¬ hexv c < b) : digs b s j = [] := by
 unfold digs
 rw [hc, List.takeWhile_cons, if_neg (by simpa using h)]
theorem digs_len (b : Nat) (s : ByteArray) (j : Nat) (h : j ≤ s.size) : j + (digs b s j).length ≤ s.size := by
 have h1 : (digs b s j).length ≤ (suf s j).length := by unfold digs; exact (List.takeWhile_prefix _).length_le
 rw [Z78] at h1
 omega
theorem step_val (b n : Nat) (c : UInt8) (hb : b = 10 ∨ b = 16) (hn : n ≤ 4294967296) (hc : hexv c < b) : IntKind.u64.wrap (IntKind.u64.wrap ((n : Int) * IntKind.u64.wrap (b : Int)) + IntKind.u64.wrap (hexv c : Int)) = ((n * b + hexv c : Nat) : Int) := by
 rw [u64w b (by omega), u64w (hexv c) (by omega)]
 have e : (n : Int) * (b : Int) = ((n * b : Nat) : Int) := by rw [Int.natCast_mul]
 have hm : n * b ≤ 4294967296 * 16 := Nat.mul_le_mul hn (by omega)
 rw [e, u64w _ (by omega), ← Int.natCast_add, u64w _ (by omega)]
theorem lex_num_loop (s : ByteArray) (hs : Sm s) (b : Nat) (hb : b = 10 ∨ b = 16) (fr : Nat) (o : Option Tk) (pos : Nat) (d : Nat) : ∀ (j n : Nat), j ≤ s.size → n < 4294967296 → s.size - j = d →
 (4294967296 ≤ Z82 b n (digs b s j) → o = none) →
 (Z82 b n (digs b s j) < 4294967296 → EvF (fun k => Z12.j3 k s (b : Int) ((j + (digs b s j).length : Nat) : Int) (fr : Int) ((Z82 b n (digs b s j) : Nat) : Int) false 5 ⟨#[]⟩ 0 false (pos : Int) 0) o pos) →
 EvF (fun k => Z12.l0 k s (b : Int) (j : Int) (fr : Int) (n : Int) 5 ⟨#[]⟩ 0 false (pos : Int) 0) o pos := by
 unfold Sm at hs
 induction d with
 | zero =>
  intro j n hj hn hd ho hx
  rw [digs_nil b s j (by omega)] at hx
  refine EvF.step (fun k => by rw [Z12.l0]) (EvF.neg (by omega) ?_)
  exact hx hn
 | succ d ih =>
  intro j n hj hn hd ho hx
  obtain ⟨c, hc, hbt⟩ := suf_at s j (by omega)
  refine EvF.step (fun k => by rw [Z12.l0]) (EvF.pos (by omega) (EvF.pos (by omega) ?_))
  rw [hbt]
  refine EvF.bind (Z87 c) ?_
  by_cases hlt : hexv c < b
  · rw [decide_eq_true (by omega)]
    refine EvF.step (fun k => by rw [Z12.j3]) (EvF.pos rfl (EvF.pos (by omega) (EvF.pos (by omega) ?_)))
    rw [hbt]
    refine EvF.bind (Z87 c) ?_
    rw [step_val b n c hb (by omega) hlt]
    rw [digs_pos b s j hc hlt, numFrom_cons] at ho hx
    by_cases hv : 4294967296 ≤ n * b + hexv c
    · have := numFrom_ge b (by omega) (digs b s (j + 1)) (n * b + hexv c)
      exact EvF.pos (by omega) (EvF.bad (ho (by omega)) rfl)
    · refine EvF.neg (by omega) ?_
      rw [w1 j (by omega)]
      refine ih (j + 1) (n * b + hexv c) (by omega) (by omega) (by omega) ho ?_
      intro h
      have h2 := hx h
      rw [List.length_cons, show j + ((digs b s (j + 1)).length + 1) = j + 1 + (digs b s (j + 1)).length by omega] at h2
      exact h2
  · rw [decide_eq_false (by omega)]
    rw [digs_neg b s j hc hlt] at hx
    exact hx hn
theorem Z59 {c : UInt8} (n : Nat) (h : n < 256) : ((c.toNat : Int) = (n : Int)) ↔ c = UInt8.ofNat n := by
 rw [← UInt8.toNat_inj, UInt8.toNat_ofNat_of_lt' (by simpa using h)]
 omega
def numEnd (s : ByteArray) (b fr j v : Nat) (pos : Nat) : Option Tk :=
 let u := isU (suf s j)
 let e := if u then j + 1 else j
 if j = fr ∨ (b = 10 ∧ 1 < j - fr ∧ (suf s fr).head? = some 48) ∨ headWi (suf s e) = true then none else some ⟨5, [], v, u || decide (2147483648 ≤ v), e - pos⟩
theorem lex_num_tail (s : ByteArray) (hs : Sm s) (j v pos : Nat) (o : Option Tk) (hp : pos ≤ j) (hj : j ≤ s.size) (hv : v < 4294967296)
 (ho : o = if headWi (suf s (if isU (suf s j) then j + 1 else j)) = true then none else some ⟨5, [], v, isU (suf s j) || decide (2147483648 ≤ v), (if isU (suf s j) then j + 1 else j) - pos⟩) :
 EvF (fun k => Z12.j4 k s (j : Int) (v : Int) false 5 ⟨#[]⟩ 0 false (pos : Int) 0) o pos := by
 unfold Sm at hs
 refine EvF.step (fun k => by rw [Z12.j4]) (EvF.neg (by decide) ?_)
 have hm : (v : Int) % 4294967296 = (v : Int) := by omega
 rw [hm]
 rcases Nat.lt_or_ge j s.size with hlt | hge
 · obtain ⟨c, hc, hbt⟩ := suf_at s j hlt
   refine EvF.pos (by omega) (EvF.pos (by omega) ?_)
   rw [hbt, w1 j (by omega)]
   have big : isU (suf s j) = true → EvF (fun k => if ((j + 1 : Nat) : Int) ≥ (s.size : Int) then (some ((5 : Int), (⟨#[]⟩ : ByteArray), (v : Int), true, (pos : Int), ((j + 1 : Nat) : Int), true)) else (if 0 ≤ ((j + 1 : Nat) : Int) then (if ((j + 1 : Nat) : Int) < (s.size : Int) then ((Z37.f (bt s ((j + 1 : Nat) : Int))).bind fun t111 => (some ((5 : Int), (⟨#[]⟩ : ByteArray), (v : Int), true, (pos : Int), ((j + 1 : Nat) : Int), !t111))) else (none)) else (none))) o pos := by
    intro hu
    rw [hu] at ho
    simp only [if_true, Bool.true_or] at ho
    rcases Nat.lt_or_ge (j + 1) s.size with h1 | h1
    · obtain ⟨c2, hc2, hbt2⟩ := suf_at s (j + 1) h1
      refine EvF.neg (by omega) (EvF.pos (by omega) (EvF.pos (by omega) ?_))
      rw [hbt2]
      refine EvF.bindc (wi_some c2) ?_
      rw [hc2] at ho
      have hh : headWi (c2 :: suf s (j + 1 + 1)) = wi c2 := rfl
      rw [hh] at ho
      cases hw : wi c2 with
      | true =>
       rw [hw] at ho
       exact EvF.bad ho rfl
      | false =>
       rw [hw] at ho
       simp only [Bool.false_eq_true, if_false] at ho
       subst ho
       refine EvF.now ?_
       unfold Fits
       simp only
       rw [show pos + (j + 1 - pos) = j + 1 by omega]
       rfl
    · refine EvF.pos (by omega) ?_
      rw [Z68 s (j + 1) h1] at ho
      have hh : headWi [] = false := rfl
      rw [hh] at ho
      simp only [Bool.false_eq_true, if_false] at ho
      subst ho
      refine EvF.now ?_
      unfold Fits
      simp only
      rw [show pos + (j + 1 - pos) = j + 1 by omega]
      rfl
   have hu : isU (suf s j) = (c == 117 || c == 85) := by rw [hc]; rfl
   by_cases h117 : c = 117
   · refine EvF.pos ((Z59 117 (by decide)).2 h117) (big ?_)
     rw [hu, h117]
     rfl
   · refine EvF.neg (fun h => h117 ((Z59 117 (by decide)).1 h)) ?_
     by_cases h85 : c = 85
     · refine EvF.pos ((Z59 85 (by decide)).2 h85) (big ?_)
       rw [hu, h85]
       rfl
     · refine EvF.neg (fun h => h85 ((Z59 85 (by decide)).1 h)) (EvF.neg (by omega) ?_)
       have hu2 : isU (suf s j) = false := by
        rw [hu, Bool.or_eq_false_iff, beq_eq_false_iff_ne, beq_eq_false_iff_ne]
        exact ⟨h117, h85⟩
       rw [hu2] at ho
       simp only [Bool.false_eq_true, if_false, Bool.false_or] at ho
       refine EvF.bindc (wi_some c) ?_
       rw [hc] at ho
       have hh : headWi (c :: suf s (j + 1)) = wi c := rfl
       rw [hh] at ho
       cases hw : wi c with
       | true =>
        rw [hw] at ho
        exact EvF.bad ho rfl
       | false =>
        rw [hw] at ho
        simp only [Bool.false_eq_true, if_false] at ho
        subst ho
        refine EvF.now ?_
        unfold Fits
        simp only
        rw [show pos + (j - pos) = j by omega]
        have : decide ((v : Int) ≥ 2147483648) = decide (2147483648 ≤ v) := by
         rw [Bool.eq_iff_iff, decide_eq_true_iff, decide_eq_true_iff]
         omega
        rw [this]
        rfl
 · refine EvF.neg (by omega) (EvF.pos (by omega) ?_)
   rw [Z68 s j hge] at ho
   have hh : isU [] = false := rfl
   rw [hh] at ho
   simp only [Bool.false_eq_true, if_false, Bool.false_or] at ho
   rw [Z68 s j hge] at ho
   have hh2 : headWi [] = false := rfl
   rw [hh2] at ho
   simp only [Bool.false_eq_true, if_false] at ho
   subst ho
   refine EvF.now ?_
   unfold Fits
   simp only
   rw [show pos + (j - pos) = j by omega]
   have : decide ((v : Int) ≥ 2147483648) = decide (2147483648 ≤ v) := by
    rw [Bool.eq_iff_iff, decide_eq_true_iff, decide_eq_true_iff]
    omega
   rw [this]
   rfl
theorem lex_num_end (s : ByteArray) (hs : Sm s) (b : Nat) (hb : b = 10 ∨ b = 16) (fr j v pos : Nat) (hf : fr ≤ j) (hp : pos ≤ j) (hj : j ≤ s.size) (hv : v < 4294967296) :
 EvF (fun k => Z12.j3 k s (b : Int) (j : Int) (fr : Int) (v : Int) false 5 ⟨#[]⟩ 0 false (pos : Int) 0) (numEnd s b fr j v pos) pos := by
 have hs2 := hs
 unfold Sm at hs
 refine EvF.step (fun k => by rw [Z12.j3]) (EvF.neg (by decide) ?_)
 by_cases h1 : j = fr
 · refine EvF.pos (by omega) (EvF.step (fun k => by rw [Z12.j4]) (EvF.pos rfl (EvF.bad ?_ rfl)))
   unfold numEnd
   simp only
   rw [if_pos (.inl h1)]
 · refine EvF.neg (by omega) ?_
   have tail : ¬ (b = 10 ∧ 1 < j - fr ∧ (suf s fr).head? = some 48) → EvF (fun k => Z12.j4 k s (j : Int) (v : Int) false 5 ⟨#[]⟩ 0 false (pos : Int) 0) (numEnd s b fr j v pos) pos := by
    intro h2
    refine lex_num_tail s hs2 j v pos _ hp hj hv ?_
    unfold numEnd
    simp only
    by_cases h3 : headWi (suf s (if isU (suf s j) = true then j + 1 else j)) = true
    · rw [if_pos (.inr (.inr h3)), if_pos h3]
    · rw [if_neg (fun h => by rcases h with h | h | h; exact h1 h; exact h2 h; exact h3 h), if_neg h3]
   by_cases h10 : b = 10
   · refine EvF.pos (by omega) ?_
     have e1 : wrap64 ((j : Int) - (fr : Int)) = ((j - fr : Nat) : Int) := by unfold wrap64; omega
     rw [e1]
     by_cases h2 : 1 < j - fr
     · refine EvF.pos (by omega) (EvF.pos (by omega) (EvF.pos (by omega) ?_))
       obtain ⟨c, hc, hbt⟩ := suf_at s fr (by omega)
       rw [hbt]
       by_cases h48 : c = 48
       · rw [show ((c.toNat : Int) == 48) = true by rw [h48]; rfl]
         refine EvF.step (fun k => by rw [Z12.j4]) (EvF.pos rfl (EvF.bad ?_ rfl))
         unfold numEnd
         simp only
         rw [if_pos (.inr (.inl ⟨h10, h2, by rw [hc, h48]; rfl⟩))]
       · rw [show ((c.toNat : Int) == 48) = false by rw [beq_eq_false_iff_ne]; exact fun h => h48 ((Z59 48 (by decide)).1 h)]
         refine tail ?_
         rintro ⟨_, _, h⟩
         rw [hc] at h
         simp only [List.head?_cons, Option.some.injEq] at h
         exact h48 h
     · exact EvF.neg (by omega) (tail (fun h => h2 h.2.1))
   · exact EvF.neg (by omega) (tail (fun h => h10 h.1))
theorem numTok_end (s : ByteArray) (i : Nat) (b fr : Nat) (hfr : fr = i + if isHex (suf s i) then 2 else 0) (hb : b = if isHex (suf s i) then 16 else 10) :
 numTok (suf s i) = if 4294967296 ≤ Z82 b 0 (digs b s fr) then none else numEnd s b fr (fr + (digs b s fr).length) (Z82 b 0 (digs b s fr)) i := by
 have hd : ((suf s i).drop (if isHex (suf s i) then 2 else 0)).takeWhile (fun c => decide (hexv c < if isHex (suf s i) then 16 else 10)) = digs b s fr := by
  rw [Z86, ← hfr, ← hb]
  rfl
 unfold numTok
 simp only
 rw [hd, ← hb]
 have hv : numVal b (digs b s fr) = Z82 b 0 (digs b s fr) := rfl
 rw [hv]
 by_cases h : 4294967296 ≤ Z82 b 0 (digs b s fr)
 · rw [if_pos h, if_pos (.inr (.inl h))]
 · rw [if_neg h]
   unfold numEnd
   simp only
   have e0 : (suf s i).drop ((if isHex (suf s i) = true then 2 else 0) + (digs b s fr).length) = suf s (fr + (digs b s fr).length) := by
    rw [Z86, hfr, Nat.add_assoc]
   rw [e0]
   have e1 : (if isU (suf s (fr + (digs b s fr).length)) = true then (if isHex (suf s i) = true then 2 else 0) + (digs b s fr).length + 1 else (if isHex (suf s i) = true then 2 else 0) + (digs b s fr).length) = (if isU (suf s (fr + (digs b s fr).length)) = true then fr + (digs b s fr).length + 1 else fr + (digs b s fr).length) - i := by
    split <;> omega
   rw [e1]
   have e2 : (suf s i).drop ((if isU (suf s (fr + (digs b s fr).length)) = true then fr + (digs b s fr).length + 1 else fr + (digs b s fr).length) - i) = suf s (if isU (suf s (fr + (digs b s fr).length)) = true then fr + (digs b s fr).length + 1 else fr + (digs b s fr).length) := by
    rw [Z86]
    congr 1
    split <;> omega
   rw [e2]
   have c1 : digs b s fr = [] ↔ fr + (digs b s fr).length = fr := by
    rw [List.eq_nil_iff_length_eq_zero]
    omega
   have c2 : (isHex (suf s i) = false ∧ 1 < (digs b s fr).length ∧ (digs b s fr).head? = some 48) ↔ (b = 10 ∧ 1 < fr + (digs b s fr).length - fr ∧ (suf s fr).head? = some 48) := by
    rw [Nat.add_sub_cancel_left]
    have hx : isHex (suf s i) = false ↔ b = 10 := by
     rw [hb]
     cases isHex (suf s i) <;> simp
    rw [hx]
    constructor
    · rintro ⟨h1, h2, h3⟩
      refine ⟨h1, h2, ?_⟩
      cases hq : suf s fr with
      | nil =>
       unfold digs at h3
       rw [hq] at h3
       exact h3
      | cons c r =>
       unfold digs at h3
       rw [hq, List.takeWhile_cons] at h3
       split at h3
       · exact h3
       · cases h3
    · rintro ⟨h1, h2, h3⟩
      refine ⟨h1, h2, ?_⟩
      cases hq : suf s fr with
      | nil => rw [hq] at h3; cases h3
      | cons c r =>
       rw [hq] at h3
       simp only [List.head?_cons, Option.some.injEq] at h3
       unfold digs
       rw [hq, List.takeWhile_cons, if_pos (by rw [h3, h1]; decide), List.head?_cons, h3]
   have c3 : (digs b s fr = [] ∨ 4294967296 ≤ Z82 b 0 (digs b s fr) ∨ (isHex (suf s i) = false ∧ 1 < (digs b s fr).length ∧ (digs b s fr).head? = some 48) ∨ headWi (suf s (if isU (suf s (fr + (digs b s fr).length)) = true then fr + (digs b s fr).length + 1 else fr + (digs b s fr).length)) = true) ↔ (fr + (digs b s fr).length = fr ∨ (b = 10 ∧ 1 < fr + (digs b s fr).length - fr ∧ (suf s fr).head? = some 48) ∨ headWi (suf s (if isU (suf s (fr + (digs b s fr).length)) = true then fr + (digs b s fr).length + 1 else fr + (digs b s fr).length)) = true) := by
    rw [c1, c2]
    constructor
    · rintro (h1 | h1 | h1 | h1)
      · exact .inl h1
      · exact absurd h1 h
      · exact .inr (.inl h1)
      · exact .inr (.inr h1)
    · rintro (h1 | h1 | h1)
      · exact .inl h1
      · exact .inr (.inr (.inl h1))
      · exact .inr (.inr (.inr h1))
   by_cases hg : (digs b s fr = [] ∨ 4294967296 ≤ Z82 b 0 (digs b s fr) ∨ (isHex (suf s i) = false ∧ 1 < (digs b s fr).length ∧ (digs b s fr).head? = some 48) ∨ headWi (suf s (if isU (suf s (fr + (digs b s fr).length)) = true then fr + (digs b s fr).length + 1 else fr + (digs b s fr).length)) = true)
   · rw [if_pos hg, if_pos (c3.1 hg)]
   · rw [if_neg hg, if_neg (fun h2 => hg (c3.2 h2))]
theorem digs_at_fr (s : ByteArray) (hs : Sm s) (b fr i : Nat) (hfr : i ≤ fr) (hfl : fr ≤ s.size) (hb : b = 10 ∨ b = 16) (h1 : fr = i + if isHex (suf s i) then 2 else 0) (h2 : b = if isHex (suf s i) then 16 else 10) :
 EvF (fun k => Z12.j1 k s (b : Int) (fr : Int) 5 ⟨#[]⟩ 0 false (i : Int) 0) (numTok (suf s i)) i := by
 refine EvF.step (fun k => by rw [Z12.j1]) ?_
 have ht := numTok_end s i b fr h1 h2
 refine lex_num_loop s hs b hb fr _ i (s.size - fr) fr 0 hfl (by decide) rfl ?_ ?_
 · intro h
   rw [ht, if_pos h]
 · intro h
   rw [ht, if_neg (by omega)]
   exact lex_num_end s hs b hb fr _ _ i (by omega) (by omega) (digs_len b s fr hfl) h
theorem lex_number (s : ByteArray) (hs : Sm s) (i : Nat) (hi : i < s.size) : EvF (fun k => Z12.f k s (i : Int)) (numTok (suf s i)) i := by
 have hs2 := hs
 unfold Sm at hs
 obtain ⟨c, hc, hbt⟩ := suf_at s i hi
 have no : isHex (suf s i) = false → EvF (fun k => Z12.j0 k s 10 (i : Int) false 5 ⟨#[]⟩ 0 false (i : Int) 0) (numTok (suf s i)) i := by
  intro h
  refine EvF.step (fun k => by rw [Z12.j0]) (EvF.neg (by decide) ?_)
  exact digs_at_fr s hs2 10 i i (Nat.le_refl _) (by omega) (.inl rfl) (by rw [h]; rfl) (by rw [h]; rfl)
 have yes (hi1 : i + 1 < s.size) : isHex (suf s i) = true → EvF (fun k => Z12.j0 k s 10 (i : Int) true 5 ⟨#[]⟩ 0 false (i : Int) 0) (numTok (suf s i)) i := by
  intro h
  refine EvF.step (fun k => by rw [Z12.j0]) (EvF.pos rfl ?_)
  rw [w2 i (by omega)]
  exact digs_at_fr s hs2 16 (i + 2) i (by omega) (by omega) (.inr rfl) (by rw [h]; rfl) (by rw [h]; rfl)
 unfold Z12.f
 by_cases h1 : i + 1 < s.size
 · rw [w1 i (by omega)]
   refine EvF.pos (by omega) (EvF.pos (by omega) (EvF.pos (by omega) ?_))
   rw [hbt]
   obtain ⟨c2, hc2, hbt2⟩ := suf_at s (i + 1) h1
   have hx : isHex (suf s i) = (c == 48 && (c2 == 120 || c2 == 88)) := by rw [hc, hc2]; rfl
   by_cases h48 : c = 48
   · refine EvF.pos ((Z59 48 (by decide)).2 h48) (EvF.pos (by omega) ?_)
     rw [hbt2]
     by_cases h120 : c2 = 120
     · exact EvF.pos ((Z59 120 (by decide)).2 h120) (yes h1 (by rw [hx, h48, h120]; rfl))
     · refine EvF.neg (fun h => h120 ((Z59 120 (by decide)).1 h)) ?_
       by_cases h88 : c2 = 88
       · rw [show ((c2.toNat : Int) == 88) = true by rw [h88]; rfl]
         exact yes h1 (by rw [hx, h48, h88]; rfl)
       · rw [show ((c2.toNat : Int) == 88) = false by rw [beq_eq_false_iff_ne]; exact fun h => h88 ((Z59 88 (by decide)).1 h)]
         refine no ?_
         rw [hx, Bool.and_eq_false_iff]
         right
         rw [Bool.or_eq_false_iff, beq_eq_false_iff_ne, beq_eq_false_iff_ne]
         exact ⟨h120, h88⟩
   · refine EvF.neg (fun h => h48 ((Z59 48 (by decide)).1 h)) (no ?_)
     rw [hx, Bool.and_eq_false_iff]
     left
     rw [beq_eq_false_iff_ne]
     exact h48
 · rw [w1 i (by omega)]
   refine EvF.neg (by omega) (no ?_)
   rw [hc, Z68 s (i + 1) (by omega)]
   rfl
end Go.Proofs.YtbmfadmoficfiaaDoor.Lex
namespace Go.Proofs.YtbmfadmoficfiaaDoor.Lex
open Go.RowKit Go.Proofs.YtbmfadmoficfiaaDoorW.PrintWords Go.Proofs.YtbmfadmoficfiaaDoor.Q
set_option linter.unusedVariables false
abbrev Sq (s : ByteArray) : Prop := s.size ≤ 140737488351232
theorem Sq.sm {s : ByteArray} (h : Sq s) : Sm s := by unfold Sm; unfold Sq at h; omega
def enc (l : Bs) : List Int := l.map fun b => (b.toNat : Int)
theorem enc_snoc (l : Bs) (b : UInt8) : enc l ++ [(b.toNat : Int)] = enc (l ++ [b]) := by simp [enc]
theorem enc_len (l : Bs) : (enc l).length = l.length := by simp [enc]
theorem enc_str (l : Bs) : strOfNums (enc l) = ⟨l.toArray⟩ := by
 unfold strOfNums enc
 rw [List.map_map]
 congr 2
 conv => rhs; rw [← List.map_id l]
 apply List.map_congr_left
 intro x _
 simp
abbrev UR := Int × Int × Bool
def UFits (o : Option (UInt8 × Nat)) (i : Nat) (t : UR) : Prop :=
 match o with
 | none => t.2.2 = false
 | some x => t = ((x.1.toNat : Int), ((i + x.2 : Nat) : Int), true)
def EvU (g : Nat → Option UR) (o : Option (UInt8 × Nat)) (i : Nat) : Prop := ∃ t, Ev g t ∧ UFits o i t
section
variable {g f : Nat → Option UR} {o : Option (UInt8 × Nat)} {i : Nat}
theorem EvU.step (h : ∀ k, g (k + 1) = f k) (k : EvU f o i) : EvU g o i := by
 obtain ⟨t, h1, h2⟩ := k
 exact ⟨t, Ev.step h h1, h2⟩
theorem EvU.pos {c : Prop} [Decidable c] (h : c) (k : EvU f o i) : EvU (fun n => if c then f n else g n) o i := by
 obtain ⟨t, h1, h2⟩ := k
 exact ⟨t, ev_pos h h1, h2⟩
theorem EvU.neg {c : Prop} [Decidable c] (h : ¬ c) (k : EvU g o i) : EvU (fun n => if c then f n else g n) o i := by
 obtain ⟨t, h1, h2⟩ := k
 exact ⟨t, ev_neg h h1, h2⟩
theorem EvU.bind {β : Type} {g : Nat → Option β} {f : Nat → β → Option UR} {a : β} (h : Ev g a) (k : EvU (fun n => f n a) o i) : EvU (fun n => (g n).bind (f n)) o i := by
 obtain ⟨t, h1, h2⟩ := k
 exact ⟨t, Ev.bind h h1, h2⟩
theorem EvU.bindc {β : Type} {g : Option β} {f : Nat → β → Option UR} {a : β} (h : g = some a) (k : EvU (fun n => f n a) o i) : EvU (fun n => g.bind (f n)) o i := by
 obtain ⟨t, h1, h2⟩ := k
 exact ⟨t, Z65 h h1, h2⟩
theorem EvU.bad {t : UR} (ho : o = none) (h : t.2.2 = false) : EvU (fun _ => some t) o i := by
 subst ho
 exact ⟨t, Ev.now t, h⟩
theorem EvU.now {t : UR} (h : UFits o i t) : EvU (fun _ => some t) o i := ⟨t, Ev.now t, h⟩
end
theorem esc_ib (d : UInt8) : (∃ t : Nat, ∃ x : UInt8, t < 7 ∧ Lib.indexByte [110, 116, 114, 48, 92, 39, 34] d = (t : Int) ∧ esc d = some x ∧ bt (⟨#[10, 9, 13, 0, 92, 39, 34]⟩ : ByteArray) (t : Int) = (x.toNat : Int)) ∨ (Lib.indexByte [110, 116, 114, 48, 92, 39, 34] d = -1 ∧ esc d = none) := by
 by_cases h1 : d = 110
 · subst h1; exact .inl ⟨0, 10, by decide, rfl, rfl, rfl⟩
 by_cases h2 : d = 116
 · subst h2; exact .inl ⟨1, 9, by decide, rfl, rfl, rfl⟩
 by_cases h3 : d = 114
 · subst h3; exact .inl ⟨2, 13, by decide, rfl, rfl, rfl⟩
 by_cases h4 : d = 48
 · subst h4; exact .inl ⟨3, 0, by decide, rfl, rfl, rfl⟩
 by_cases h5 : d = 92
 · subst h5; exact .inl ⟨4, 92, by decide, rfl, rfl, rfl⟩
 by_cases h6 : d = 39
 · subst h6; exact .inl ⟨5, 39, by decide, rfl, rfl, rfl⟩
 by_cases h7 : d = 34
 · subst h7; exact .inl ⟨6, 34, by decide, rfl, rfl, rfl⟩
 refine .inr ⟨?_, ?_⟩
 · have e (n : UInt8) (h : d ≠ n) : (n == d) = false := by rw [beq_eq_false_iff_ne]; exact fun x => h x.symm
   simp only [Lib.indexByte, e _ h1, e _ h2, e _ h3, e _ h4, e _ h5, e _ h6, e _ h7, Bool.false_eq_true, if_false]
   rfl
 · unfold esc
   rw [if_neg h1, if_neg h2, if_neg h3, if_neg h4, if_neg h5, if_neg h6, if_neg h7]
theorem or_all : ∀ a : Fin 16, ∀ b : Fin 16, bits .or .i64 (((a.val * 16 : Nat)) : Int) (b.val : Int) % 256 = ((a.val * 16 + b.val : Nat) : Int) := by decide +kernel
theorem or_hex (a b : Nat) (ha : a < 16) (hb : b < 16) : bits .or .i64 (wrap64 ((a : Int) * 16)) (b : Int) % 256 = ((UInt8.ofNat (a * 16 + b)).toNat : Int) := by
 have e : wrap64 ((a : Int) * 16) = ((a * 16 : Nat) : Int) := by unfold wrap64; omega
 have h := or_all ⟨a, ha⟩ ⟨b, hb⟩
 simp only at h
 rw [e, h, UInt8.toNat_ofNat_of_lt' (by show a * 16 + b < 256; omega)]
theorem unit_end (mark : UInt8) (s : ByteArray) (i : Nat) (h : s.size ≤ i) : unit mark (suf s i) = none := by rw [Z68 s i h]; rfl
theorem unit_cons (mark c : UInt8) (r : Bs) : unit mark (c :: r) = if c.toNat < 32 ∨ 126 < c.toNat ∨ c = mark then none
 else if c ≠ 92 then some (c, 1)
 else match r with
  | [] => none
  | d :: q =>
   match esc d with
   | some x => some (x, 2)
   | none =>
    if d = 120 then
     match q with
     | a :: b :: _ => if hexv a < 16 ∧ hexv b < 16 then some (UInt8.ofNat (hexv a * 16 + hexv b), 4) else none
     | _ => none
    else none := rfl
theorem lex_unit (s : ByteArray) (hs : Sm s) (mark : UInt8) (i : Nat) (hi : i ≤ s.size) : EvU (fun k => Z24.f k s (i : Int) (mark.toNat : Int)) (unit mark (suf s i)) i := by
 unfold Sm at hs
 unfold Z24.f
 have bad : unit mark (suf s i) = none → EvU (fun k => Z24.j0 k s (i : Int) true) (unit mark (suf s i)) i := by
  intro h
  exact EvU.step (fun k => by rw [Z24.j0]) (EvU.pos rfl (EvU.bad h rfl))
 rcases Nat.lt_or_ge i s.size with hlt | hge
 · obtain ⟨c, hc, hbt⟩ := suf_at s i hlt
   refine EvU.neg (by omega) (EvU.pos (by omega) (EvU.pos (by omega) ?_))
   rw [hbt]
   have hu := unit_cons mark c (suf s (i + 1))
   rw [← hc] at hu
   by_cases h1 : c.toNat < 32
   · exact EvU.pos (by omega) (bad (by rw [hu, if_pos (.inl h1)]))
   · refine EvU.neg (by omega) ?_
     by_cases h2 : 126 < c.toNat
     · exact EvU.pos (by omega) (bad (by rw [hu, if_pos (.inr (.inl h2))]))
     · refine EvU.neg (by omega) ?_
       by_cases h3 : c = mark
       · rw [show ((c.toNat : Int) == (mark.toNat : Int)) = true by rw [h3, beq_iff_eq]]
         exact bad (by rw [hu, if_pos (.inr (.inr h3))])
       · rw [show ((c.toNat : Int) == (mark.toNat : Int)) = false by rw [beq_eq_false_iff_ne]; exact fun h => h3 (UInt8.toNat_inj.1 (by omega))]
         rw [if_neg (by rintro (h | h | h); exact h1 h; exact h2 h; exact h3 h)] at hu
         refine EvU.step (fun k => by rw [Z24.j0]) (EvU.neg (by decide) (EvU.pos (by omega) (EvU.pos (by omega) ?_)))
         rw [hbt]
         by_cases h92 : c = 92
         · rw [if_neg (by simpa using h92)] at hu
           refine EvU.pos ((Z59 92 (by decide)).2 h92) ?_
           rw [w1 i (by omega)]
           rcases Nat.lt_or_ge (i + 1) s.size with hl1 | hg1
           · obtain ⟨d, hd, hbt1⟩ := suf_at s (i + 1) hl1
             rw [hd] at hu
             simp only at hu
             refine EvU.neg (by omega) (EvU.pos (by omega) (EvU.pos (by omega) ?_))
             rw [hbt1]
             refine EvU.bindc (show strings_IndexByte.f (⟨#[110, 116, 114, 48, 92, 39, 34]⟩ : ByteArray) (d.toNat : Int) = some (Lib.indexByte [110, 116, 114, 48, 92, 39, 34] d) by unfold strings_IndexByte.f; rw [nat8]) ?_
             rcases esc_ib d with ⟨t, x, ht, he, hx, hv⟩ | ⟨he, hx⟩
             · rw [he]
               refine EvU.pos (by omega) (EvU.pos (by omega) (EvU.pos (by omega) ?_))
               rw [hx] at hu
               simp only at hu
               rw [hu, hv, w2 i (by omega)]
               exact EvU.now rfl
             · rw [he]
               rw [hx] at hu
               simp only at hu
               refine EvU.neg (by decide) ?_
               by_cases h120 : d = 120
               · rw [if_pos h120] at hu
                 refine EvU.pos ((Z59 120 (by decide)).2 h120) ?_
                 have bad1 : unit mark (suf s i) = none → EvU (fun k => Z24.j1 k s (i : Int) true) (unit mark (suf s i)) i := by
                  intro h
                  exact EvU.step (fun k => by rw [Z24.j1]) (EvU.pos rfl (EvU.bad h rfl))
                 rw [w2 i (by omega), w3 i (by omega)]
                 rcases Nat.lt_or_ge (i + 3) s.size with hl3 | hg3
                 · obtain ⟨a, ha, hbta⟩ := suf_at s (i + 2) (by omega)
                   obtain ⟨b, hb, hbtb⟩ := suf_at s (i + 3) hl3
                   rw [ha, hb] at hu
                   simp only at hu
                   refine EvU.neg (by omega) (EvU.pos (by omega) (EvU.pos (by omega) ?_))
                   rw [hbta]
                   refine EvU.bind (Z87 a) ?_
                   by_cases h16 : hexv a < 16
                   · refine EvU.neg (by omega) (EvU.pos (by omega) (EvU.pos (by omega) ?_))
                     rw [hbtb]
                     refine EvU.bind (Z87 b) ?_
                     by_cases h16b : hexv b < 16
                     · rw [if_pos ⟨h16, h16b⟩] at hu
                       rw [decide_eq_false (by omega)]
                       refine EvU.step (fun k => by rw [Z24.j1]) (EvU.neg (by decide) ?_)
                       rw [w2 i (by omega), w3 i (by omega), w4 i (by omega)]
                       refine EvU.pos (by omega) (EvU.pos (by omega) ?_)
                       rw [hbta]
                       refine EvU.bind (Z87 a) (EvU.pos (by omega) (EvU.pos (by omega) ?_))
                       rw [hbtb]
                       refine EvU.bind (Z87 b) ?_
                       rw [or_hex _ _ h16 h16b, hu]
                       exact EvU.now rfl
                     · rw [decide_eq_true (by omega)]
                       exact bad1 (by rw [hu, if_neg (fun h => h16b h.2)])
                   · exact EvU.pos (by omega) (bad1 (by rw [hu, if_neg (fun h => h16 h.1)]))
                 · refine EvU.pos (by omega) (bad1 ?_)
                   rw [hu]
                   cases hq : suf s (i + 1 + 1) with
                   | nil => rfl
                   | cons a q =>
                    cases q with
                    | nil => rfl
                    | cons b q2 =>
                     have := Z78 s (i + 1 + 1)
                     rw [hq] at this
                     simp only [List.length_cons] at this
                     omega
               · refine EvU.neg (fun h => h120 ((Z59 120 (by decide)).1 h)) ?_
                 rw [if_neg h120] at hu
                 exact EvU.step (fun k => by rw [Z24.j1]) (EvU.pos rfl (EvU.bad hu rfl))
           · rw [Z68 s (i + 1) hg1] at hu
             exact EvU.pos (by omega) (EvU.bad hu rfl)
         · rw [if_pos h92] at hu
           refine EvU.neg (fun h => h92 ((Z59 92 (by decide)).1 h)) ?_
           rw [hu, w1 i (by omega)]
           exact EvU.now rfl
 · exact EvU.pos (by omega) (bad (unit_end mark s i hge))
end Go.Proofs.YtbmfadmoficfiaaDoor.Lex
namespace Go.Proofs.YtbmfadmoficfiaaDoor.Lex
open Go.RowKit Go.Proofs.YtbmfadmoficfiaaDoorW.PrintWords Go.Proofs.YtbmfadmoficfiaaDoor.Q
set_option linter.unusedVariables false
theorem units_nil (mark : UInt8) : units mark [] = none := by unfold units; rfl
theorem units_mark (mark : UInt8) (r : Bs) : units mark (mark :: r) = some ([], 0) := by
 conv => lhs; unfold units
 simp
theorem units_none (mark : UInt8) {c : UInt8} (r : Bs) (h : c ≠ mark) (hu : unit mark (c :: r) = none) : units mark (c :: r) = none := by
 conv => lhs; unfold units
 rw [if_neg h]
 split
 · rfl
 · rename_i b n hb
   rw [hu] at hb
   cases hb
theorem units_some (mark : UInt8) {c : UInt8} (r : Bs) (b : UInt8) (n : Nat) (h : c ≠ mark) (hu : unit mark (c :: r) = some (b, n)) : units mark (c :: r) = (units mark ((c :: r).drop n)).map fun t => (b :: t.1, n + t.2) := by
 conv => lhs; unfold units
 rw [if_neg h]
 split
 · rename_i hb
   rw [hu] at hb
   cases hb
 · rename_i b2 n2 hb
   rw [hu] at hb
   cases hb
   rfl
theorem units_le (mark : UInt8) (d : Nat) : ∀ (s : Bs) (t : Bs) (n : Nat), s.length ≤ d → units mark s = some (t, n) → n < s.length ∧ t.length ≤ n ∧ (s.drop n).head? = some mark := by
 induction d with
 | zero =>
  intro s t n hd h
  obtain rfl := List.eq_nil_of_length_eq_zero (Nat.le_zero.1 hd)
  rw [units_nil] at h
  cases h
 | succ d ih =>
  intro s t n hd h
  cases s with
  | nil => rw [units_nil] at h; cases h
  | cons c r =>
   by_cases hm : c = mark
   · subst hm
     rw [units_mark] at h
     cases h
     exact ⟨by simp, by simp, by simp⟩
   · cases hu : unit mark (c :: r) with
     | none => rw [units_none mark r hm hu] at h; cases h
     | some x =>
      obtain ⟨b, k⟩ := x
      have hk := unit_le mark _ b k hu
      rw [units_some mark r b k hm hu] at h
      obtain ⟨⟨t2, n2⟩, h2, he⟩ := Option.map_eq_some_iff.1 h
      cases he
      have hl : ((c :: r).drop k).length = (c :: r).length - k := List.length_drop
      obtain ⟨i1, i2, i3⟩ := ih _ t2 n2 (by omega) h2
      rw [List.drop_drop] at i3
      exact ⟨by omega, by simp only [List.length_cons]; omega, i3⟩
theorem quotTok_cons (c : UInt8) (r : Bs) : quotTok (c :: r) = match units c r with
 | none => none
 | some (t, n) => if c = 34 then some ⟨7, t, 0, false, n + 2⟩ else if t.length = 1 then some ⟨6, [], (t.headD 0).toNat, false, n + 2⟩ else none := rfl
theorem lex_q_loop (s : ByteArray) (hs : Sq s) (mark : UInt8) (pos : Nat) (o : Option Tk) (d : Nat) : ∀ (j : Nat) (acc : Bs), j ≤ s.size → s.size - j ≤ d → acc.length ≤ j →
 (units mark (suf s j) = none → o = none) →
 (∀ t n, units mark (suf s j) = some (t, n) → EvF (fun k => Z17.j1 k s (mark.toNat : Int) (enc (acc ++ t)) ((j + n : Nat) : Int) false 7 ⟨#[]⟩ 0 false (pos : Int) 0) o pos) →
 EvF (fun k => Z17.l0 k s (mark.toNat : Int) (enc acc) (j : Int) 7 ⟨#[]⟩ 0 false (pos : Int) 0) o pos := by
 have hsm := Sq.sm hs
 unfold Sq at hs
 induction d with
 | zero =>
  intro j acc hj hd ha h1 h2
  refine EvF.step (fun k => by rw [Z17.l0]) (EvF.neg (by omega) ?_)
  refine EvF.step (fun k => by rw [Z17.j1]) (EvF.neg (by decide) (EvF.pos (by omega) ?_))
  refine EvF.step (fun k => by rw [Z17.j2]) (EvF.pos rfl (EvF.bad (h1 ?_) rfl))
  rw [Z68 s j (by omega), units_nil]
 | succ d ih =>
  intro j acc hj hd ha h1 h2
  rcases Nat.lt_or_ge j s.size with hlt | hge
  · obtain ⟨c, hc, hbt⟩ := suf_at s j hlt
    refine EvF.step (fun k => by rw [Z17.l0]) (EvF.pos (by omega) (EvF.pos (by omega) ?_))
    rw [hbt]
    by_cases hm : c = mark
    · subst hm
      rw [show ((c.toNat : Int) != (c.toNat : Int)) = false by simp]
      have h3 := h2 [] 0 (by rw [hc, units_mark])
      rw [List.append_nil] at h3
      exact h3
    · rw [show ((c.toNat : Int) != (mark.toNat : Int)) = true by rw [bne_iff_ne]; exact fun h => hm (UInt8.toNat_inj.1 (by omega))]
      obtain ⟨t, he, hf⟩ := lex_unit s hsm mark j hj
      refine EvF.step (fun k => by rw [Z17.j1]) (EvF.pos rfl (EvF.bind he ?_))
      cases hu : unit mark (suf s j) with
      | none =>
       rw [hu] at hf
       refine EvF.neg (by rw [hf]; decide) (EvF.bad (h1 ?_) rfl)
       rw [hc] at hu ⊢
       exact units_none mark _ hm hu
      | some x =>
       obtain ⟨b, n⟩ := x
       rw [hu] at hf
       have hn := unit_le mark _ b n hu
       rw [Z78] at hn
       unfold UFits at hf
       subst hf
       refine EvF.pos rfl (EvF.pos (by rw [enc_len]; omega) ?_)
       simp only
       rw [enc_snoc]
       have hus : units mark (suf s j) = (units mark (suf s (j + n))).map fun t => (b :: t.1, n + t.2) := by
        rw [hc] at hu ⊢
        rw [units_some mark _ b n hm hu, ← hc, Z86]
       refine ih (j + n) (acc ++ [b]) (by omega) (by omega) (by simp; omega) ?_ ?_
       · intro h
         exact h1 (by rw [hus, h]; rfl)
       · intro t2 n2 h
         have h3 := h2 (b :: t2) (n + n2) (by rw [hus, h]; rfl)
         rw [List.append_assoc, Nat.add_assoc]
         exact h3
  · refine EvF.step (fun k => by rw [Z17.l0]) (EvF.neg (by omega) ?_)
    refine EvF.step (fun k => by rw [Z17.j1]) (EvF.neg (by decide) (EvF.pos (by omega) ?_))
    refine EvF.step (fun k => by rw [Z17.j2]) (EvF.pos rfl (EvF.bad (h1 ?_) rfl))
    rw [Z68 s j (by omega), units_nil]
theorem enc_rd (t : Bs) (h : t.length = 1) : rd (enc t) 0 % 4294967296 = ((t.headD 0).toNat : Int) := by
 cases t with
 | nil => simp at h
 | cons c r =>
  have hc := c.toNat_lt
  show ((c.toNat : Int)) % 4294967296 = (c.toNat : Int)
  omega
theorem lex_quoted (s : ByteArray) (hs : Sq s) (c : UInt8) (i : Nat) (hc : suf s i = c :: suf s (i + 1)) (hq : c = 34 ∨ c = 39) : EvF (fun k => Z17.f k s (i : Int)) (quotTok (suf s i)) i := by
 have hs2 := hs
 unfold Sq at hs
 obtain ⟨hi, _, hbt⟩ := suf_cons hc
 unfold Z17.f
 refine EvF.pos (by omega) (EvF.pos (by omega) ?_)
 rw [hbt, w1 i (by omega), hc, quotTok_cons]
 refine lex_q_loop s hs2 c i _ s.size (i + 1) [] (by omega) (by omega) (by simp) ?_ ?_
 · intro h
   rw [h]
 · intro t n h
   rw [h]
   have hle := units_le c _ _ t n (Nat.le_refl _) h
   rw [Z78] at hle
   simp only [List.nil_append]
   refine EvF.step (fun k => by rw [Z17.j1]) (EvF.neg (by decide) (EvF.neg (by omega) ?_))
   have e1 : wrap64 (((i + 1 + n : Nat) : Int) + 1) = ((i + (n + 2) : Nat) : Int) := by rw [w1 _ (by omega)]; omega
   rcases hq with h34 | h39
   · subst h34
     rw [if_pos rfl]
     refine EvF.neg (by decide) (EvF.step (fun k => by rw [Z17.j2]) (EvF.neg (by decide) (EvF.neg (by decide) ?_)))
     rw [e1, enc_str]
     exact EvF.now rfl
   · subst h39
     rw [if_neg (by decide)]
     refine EvF.pos rfl ?_
     by_cases hl : t.length = 1
     · rw [show (((enc t).length : Int) != 1) = false by rw [enc_len, hl]; rfl, if_pos hl]
       refine EvF.step (fun k => by rw [Z17.j2]) ?_
       refine EvF.neg (by decide) ?_
       refine EvF.pos rfl ?_
       refine EvF.pos (by rw [enc_len]; omega) ?_
       rw [e1, enc_rd t hl]
       exact EvF.now rfl
     · rw [show (((enc t).length : Int) != 1) = true by rw [enc_len, bne_iff_ne]; omega, if_neg hl]
       exact EvF.step (fun k => by rw [Z17.j2]) (EvF.pos rfl (EvF.bad rfl rfl))
def wlen (s : ByteArray) (j : Nat) : Nat := ((suf s j).takeWhile wi).length
theorem wlen_nil (s : ByteArray) (j : Nat) (h : s.size ≤ j) : wlen s j = 0 := by unfold wlen; rw [Z68 s j h]; rfl
theorem wlen_pos (s : ByteArray) (j : Nat) {c : UInt8} (hc : suf s j = c :: suf s (j + 1)) (h : wi c = true) : wlen s j = wlen s (j + 1) + 1 := by
 unfold wlen
 rw [hc, List.takeWhile_cons, if_pos h]
 rfl
theorem wlen_neg (s : ByteArray) (j : Nat) {c : UInt8} (hc : suf s j = c :: suf s (j + 1)) (h : wi c = false) : wlen s j = 0 := by
 unfold wlen
 rw [hc, List.takeWhile_cons, if_neg (by rw [h]; decide)]
 rfl
theorem wlen_le (s : ByteArray) (j : Nat) (h : j ≤ s.size) : j + wlen s j ≤ s.size := by
 have h1 : wlen s j ≤ (suf s j).length := (List.takeWhile_prefix _).length_le
 rw [Z78] at h1
 omega
theorem name_piece (s : ByteArray) (i : Nat) (hi : i ≤ s.size) : s.extract (((i : Nat) : Int)).toNat (((i + wlen s i : Nat) : Int)).toNat = ⟨((suf s i).takeWhile wi).toArray⟩ := by
 apply WideShapes.bytes_inj
 rw [Lib.extract_data, Int.toNat_natCast, Int.toNat_natCast, Nat.add_sub_cancel_left]
 show (suf s i).take (wlen s i) = _
 have := List.prefix_iff_eq_take.1 (List.takeWhile_prefix wi (l := suf s i))
 unfold wlen
 rw [← this]
theorem lex_name_loop (s : ByteArray) (hs : Sm s) (i : Nat) (d : Nat) : ∀ j : Nat, i ≤ j → j ≤ s.size → s.size - j ≤ d → i + wlen s i = j + wlen s j →
 Ev (fun k => Z36.l0 k s (i : Int) 2 ⟨#[]⟩ 0 false (i : Int) (j : Int)) ((((Z76 (suf s i)).kind : Nat) : Int), ⟨(Z76 (suf s i)).text.toArray⟩, 0, false, (i : Int), ((i + (Z76 (suf s i)).len : Nat) : Int)) := by
 have hs2 := hs
 unfold Sm at hs
 have fin (j : Nat) (hij : i ≤ j) (hj : j ≤ s.size) (he : i + wlen s i = j) : Ev (fun k => if 0 ≤ (i : Int) then (if (i : Int) ≤ (j : Int) then (if (j : Int) ≤ (s.size : Int) then ((Z42.f k (s.extract ((i : Int)).toNat ((j : Int)).toNat)).bind fun t121 => (if t121 = true then (some ((3 : Int), s.extract ((i : Int)).toNat ((j : Int)).toNat, (0 : Int), false, (i : Int), (j : Int))) else (some (2, s.extract ((i : Int)).toNat ((j : Int)).toNat, 0, false, (i : Int), (j : Int))))) else (none)) else (none)) else (none)) ((((Z76 (suf s i)).kind : Nat) : Int), ⟨(Z76 (suf s i)).text.toArray⟩, 0, false, (i : Int), ((i + (Z76 (suf s i)).len : Nat) : Int)) := by
  have hp := name_piece s i (by omega)
  rw [he] at hp
  refine ev_pos (by omega) (ev_pos (by omega) (ev_pos (by omega) ?_))
  rw [hp]
  have hl : (Z76 (suf s i)).len = wlen s i := rfl
  refine Ev.bind (lex_reserved _ (by
   unfold Sm
   rw [Lib.size_eq]
   have := wlen_le s i (by omega)
   unfold wlen at this
   simp only
   omega)) ?_
  rw [hl, he]
  have hk : (Z76 (suf s i)).kind = if Z85 ((suf s i).takeWhile wi) = true then 3 else 2 := rfl
  have ht : (Z76 (suf s i)).text = (suf s i).takeWhile wi := rfl
  rw [hk, ht]
  cases hr : Z85 ((suf s i).takeWhile wi) with
  | true =>
   refine ev_pos rfl ?_
   rw [if_pos rfl]
   exact Ev.now _
  | false =>
   refine ev_neg (by decide) ?_
   rw [if_neg (by decide)]
   exact Ev.now _
 induction d with
 | zero =>
  intro j hij hj hd he
  refine Ev.step (fun k => by rw [Z36.l0]) (ev_neg (by omega) ?_)
  rw [wlen_nil s j (by omega)] at he
  exact fin j hij hj he
 | succ d ih =>
  intro j hij hj hd he
  rcases Nat.lt_or_ge j s.size with hlt | hge
  · obtain ⟨c, hc, hbt⟩ := suf_at s j hlt
    refine Ev.step (fun k => by rw [Z36.l0]) (ev_pos (by omega) (ev_pos (by omega) ?_))
    rw [hbt]
    refine Z65 (wi_some c) ?_
    cases hw : wi c with
    | true =>
     refine ev_pos rfl ?_
     rw [w1 j (by omega)]
     rw [wlen_pos s j hc hw] at he
     exact ih (j + 1) (by omega) (by omega) (by omega) (by omega)
    | false =>
     rw [wlen_neg s j hc hw] at he
     exact ev_neg (by decide) (fin j hij hj he)
  · refine Ev.step (fun k => by rw [Z36.l0]) (ev_neg (by omega) ?_)
    rw [wlen_nil s j (by omega)] at he
    exact fin j hij hj he
def marksB : List ByteArray := marks.map fun m => ⟨m.toArray⟩
theorem marksB_fields : strings_Fields.f (⟨#[60, 60, 61, 32, 62, 62, 61, 32, 45, 62, 32, 43, 61, 32, 45, 61, 32, 42, 61, 32, 47, 61, 32, 37, 61, 32, 38, 61, 32, 124, 61, 32, 94, 61, 32, 61, 61, 32, 33, 61, 32, 60, 61, 32, 62, 61, 32, 60, 60, 32, 62, 62, 32, 38, 38, 32, 124, 124, 32, 40, 32, 41, 32, 123, 32, 125, 32, 91, 32, 93, 32, 59, 32, 44, 32, 46, 32, 61, 32, 60, 32, 62, 32, 43, 32, 45, 32, 42, 32, 47, 32, 37, 32, 38, 32, 124, 32, 94, 32, 126, 32, 33, 32, 63, 32, 58]⟩ : ByteArray) = some marksB := by
 unfold strings_Fields.f
 rw [if_pos ⟨by decide +kernel, by decide +kernel, by decide +kernel⟩]
 kernel_rfl
theorem marksB_small : ∀ m ∈ marksB, m.size ≤ 3 := by decide
def markOf (l : List ByteArray) (s : Bs) : Option Tk := (l.find? fun m => m.data.toList.isPrefixOf s).map fun m => ⟨4, m.data.toList, 0, false, m.size⟩
theorem markOf_marks (s : Bs) : markOf marksB s = markTok s := by
 unfold markOf markTok marksB
 rw [List.find?_map, Option.map_map]
 rfl
theorem lex_mark_loop (s : ByteArray) (hs : Sm s) (i : Nat) (hi : i ≤ s.size) (l : List ByteArray) (hl : l.length ≤ 1000) (hsm : ∀ m ∈ l, m.size ≤ 3) (d : Nat) : ∀ j : Nat, j ≤ l.length → l.length - j = d →
 EvF (fun k => Z41.l0 k s (i : Int) l (l.length : Int) (j : Int)) (markOf (l.drop j) (suf s i)) i := by
 unfold Sm at hs
 induction d with
 | zero =>
  intro j hj hd
  refine EvF.step (fun k => by rw [Z41.l0]) (EvF.neg (by omega) (EvF.bad ?_ rfl))
  rw [List.drop_eq_nil_of_le (by omega)]
  rfl
 | succ d ih =>
  intro j hj hd
  have hlt : j < l.length := by omega
  have hrd : rdOf ByteArray.empty l (j : Int) = l[j] := by unfold rdOf; rw [Int.toNat_natCast, List.getD_eq_getElem?_getD, List.getElem?_eq_getElem hlt]; rfl
  have hm := hsm l[j] (List.getElem_mem hlt)
  have hdrop : l.drop j = l[j] :: l.drop (j + 1) := List.drop_eq_getElem_cons hlt
  refine EvF.step (fun k => by rw [Z41.l0]) (EvF.pos (by omega) (EvF.pos (by omega) (EvF.pos (by omega) (EvF.pos (by omega) (EvF.pos (by omega) ?_)))))
  refine EvF.bindc (hp_some _ _ (by rw [hrd]; omega)) ?_
  rw [ext_suf, hrd, hdrop]
  unfold markOf
  rw [List.find?_cons]
  cases hp : l[j].data.toList.isPrefixOf (suf s i) with
  | true =>
   refine EvF.pos rfl (EvF.now ?_)
   rw [wk i _ (by omega) (by omega)]
   rfl
  | false =>
   refine EvF.neg (by decide) ?_
   rw [w1 j (by omega)]
   exact ih (j + 1) (by omega) (by omega)
theorem lex_mark (s : ByteArray) (hs : Sm s) (i : Nat) (hi : i ≤ s.size) : EvF (fun k => Z41.f k s (i : Int)) (markTok (suf s i)) i := by
 unfold Z41.f
 refine EvF.bindc marksB_fields ?_
 rw [← markOf_marks]
 exact lex_mark_loop s hs i hi marksB (by decide) marksB_small marksB.length 0 (by omega) rfl
end Go.Proofs.YtbmfadmoficfiaaDoor.Lex
namespace Go.Proofs.YtbmfadmoficfiaaDoor.Lex
open Go.RowKit Go.Proofs.YtbmfadmoficfiaaDoorW.PrintWords Go.Proofs.YtbmfadmoficfiaaDoor.Q
set_option linter.unusedVariables false
abbrev XR := Int × ByteArray × Int × Bool × Int × Int × Int × Int
def xr : Ans → XR
 | .fin j => (1, ⟨#[]⟩, 0, false, (j : Int), (j : Int), 0, 0)
 | .bad j => (0, ⟨#[]⟩, 0, false, 0, 0, (j : Int), 70)
 | .tk t j => ((t.kind : Int), ⟨t.text.toArray⟩, (t.num : Int), t.uns, (j : Int), ((j + t.len : Nat) : Int), 0, 0)
def ansOf (o : Option Tk) (j : Nat) : Ans :=
 match o with
 | none => .bad j
 | some t => .tk t j
def nextS (s : ByteArray) (i : Nat) : Ans := next s.data.toList i
theorem nextS_def (s : ByteArray) (i : Nat) : nextS s i = if (gap (suf s i)).2 = false then .bad (i + (gap (suf s i)).1) else if s.size ≤ i + (gap (suf s i)).1 then .fin (i + (gap (suf s i)).1) else ansOf (tok (suf s (i + (gap (suf s i)).1))) (i + (gap (suf s i)).1) := by
 unfold nextS next
 rw [← Lib.size_eq]
 rfl
theorem gap_le (d : Nat) : ∀ l : Bs, l.length ≤ d → (gap l).1 ≤ l.length := by
 induction d with
 | zero =>
  intro l hd
  obtain rfl := List.eq_nil_of_length_eq_zero (Nat.le_zero.1 hd)
  rw [gap_nil]
  exact Nat.le_refl _
 | succ d ih =>
  intro l hd
  cases l with
  | nil => rw [gap_nil]; exact Nat.le_refl _
  | cons c r =>
   simp only [List.length_cons] at hd ⊢
   by_cases hb : blank c = true
   · rw [gap_blank r hb]
     have := ih r (by omega)
     simp only
     omega
   · by_cases h47 : c = 47
     · subst h47
       cases r with
       | nil => rw [gap_slash]; omega
       | cons e q =>
        simp only [List.length_cons] at hd ⊢
        by_cases he : e = 47
        · subst he
          rw [gap_line]
          have hl := lineLen_le q
          have := ih (q.drop (Z57 q)) (by rw [List.length_drop]; omega)
          rw [List.length_drop] at this
          simp only
          omega
        · by_cases he2 : e = 42
          · subst he2
            cases hm : comEnd q with
            | none => rw [gap_com_none q hm]; omega
            | some m =>
             have hm2 := comEnd_le q m hm
             rw [gap_com_some q m hm]
             have := ih (q.drop m) (by rw [List.length_drop]; omega)
             rw [List.length_drop] at this
             simp only
             omega
          · rw [gap_slash_other q he he2]; omega
     · rw [gap_other r (by simpa using hb) h47]; omega
theorem gapS_le (s : ByteArray) (i : Nat) (hi : i ≤ s.size) : i + (gap (suf s i)).1 ≤ s.size := by
 have := gap_le _ (suf s i) (Nat.le_refl _)
 rw [Z78] at this
 omega
theorem hand_on {g : Nat → Option TR} {o : Option Tk} {j : Nat} (h : EvF g o j) :
 Ev (fun k => (g k).bind fun bt => if bt.2.2.2.2.2.2 = true then (some (bt.1, bt.2.1, bt.2.2.1, bt.2.2.2.1, bt.2.2.2.2.1, bt.2.2.2.2.2.1, (0 : Int), (0 : Int))) else (some (0, ⟨#[]⟩, 0, false, 0, 0, (j : Int), 70)))
  (xr (ansOf o j)) := by
 obtain ⟨t, he, hf⟩ := h
 refine Ev.bind he ?_
 cases o with
 | none => exact ev_neg (by rw [hf]; decide) (Ev.now _)
 | some x =>
  unfold Fits at hf
  subst hf
  exact ev_pos rfl (Ev.now _)
theorem lex_next (s : ByteArray) (hs : s.size < 4294967281) (i : Nat) (hi : i ≤ s.size) : Ev (fun k => Z29.f k s (i : Int)) (xr (nextS s i)) := by
 have hq : Sq s := by unfold Sq; omega
 have hm : Sm s := hq.sm
 unfold Z29.f
 refine ev_neg (by omega) ?_
 rw [decide_eq_false (by omega)]
 refine Ev.step (fun k => by rw [Z29.j0]) (ev_neg (by decide) ?_)
 unfold Z32.f
 refine Ev.bind (skip_gap s hs s.size i hi (by omega)) ?_
 rw [nextS_def]
 have hg := gapS_le s i hi
 generalize hj : i + (gap (suf s i)).1 = j at hg ⊢
 cases h2 : (gap (suf s i)).2 with
 | false =>
  rw [if_pos rfl]
  exact ev_neg (by decide) (Ev.now _)
 | true =>
  rw [if_neg (by decide)]
  refine ev_pos rfl ?_
  simp only
  by_cases he : j = s.size
  · rw [if_pos (by omega)]
    exact ev_pos (by omega) (Ev.now _)
  · rw [if_neg (by omega)]
    obtain ⟨c, hc, hbt⟩ := suf_at s j (by omega)
    refine ev_neg (by omega) (ev_pos (by omega) (ev_pos (by omega) ?_))
    rw [hbt]
    refine Ev.bind (Z87 c) ?_
    have ht : tok (suf s j) = if dig c then numTok (suf s j) else if wi c then some (Z76 (suf s j)) else if c = 34 ∨ c = 39 then quotTok (suf s j) else markTok (suf s j) := by
     rw [hc]
     rfl
    have hd := hexv_lt10 c
    cases hdg : dig c with
    | true =>
     have := hd.2 hdg
     rw [hdg, if_pos rfl] at ht
     refine ev_pos (by omega) ?_
     rw [ht]
     exact hand_on (lex_number s hm j (by omega))
    | false =>
     have h10 : ¬ hexv c < 10 := fun h => by rw [hd.1 h] at hdg; cases hdg
     rw [hdg, if_neg (by decide)] at ht
     refine ev_neg (by omega) (Z65 (wi_some c) ?_)
     cases hw : wi c with
     | true =>
      rw [hw, if_pos rfl] at ht
      refine ev_pos rfl ?_
      rw [ht]
      unfold Z36.f
      refine Ev.bind (lex_name_loop s hm j s.size j (Nat.le_refl _) (by omega) (by omega) rfl) ?_
      exact Ev.now _
     | false =>
      rw [hw, if_neg (by decide)] at ht
      refine ev_neg (by decide) ?_
      have quo (hq2 : c = 34 ∨ c = 39) : Ev (fun k => Z29.j1 k s (j : Int) true) (xr (ansOf (tok (suf s j)) j)) := by
       rw [if_pos hq2] at ht
       refine Ev.step (fun k => by rw [Z29.j1]) (ev_pos rfl ?_)
       rw [ht]
       exact hand_on (lex_quoted s hq c j hc hq2)
      by_cases h39 : c = 39
      · exact ev_pos ((Z59 39 (by decide)).2 h39) (quo (.inr h39))
      · refine ev_neg (fun h => h39 ((Z59 39 (by decide)).1 h)) ?_
        by_cases h34 : c = 34
        · rw [show ((c.toNat : Int) == 34) = true by rw [h34]; rfl]
          exact quo (.inl h34)
        · rw [show ((c.toNat : Int) == 34) = false by rw [beq_eq_false_iff_ne]; exact fun h => h34 ((Z59 34 (by decide)).1 h)]
          rw [if_neg (by rintro (h | h); exact h34 h; exact h39 h)] at ht
          refine Ev.step (fun k => by rw [Z29.j1]) (ev_neg (by decide) ?_)
          rw [ht]
          exact hand_on (lex_mark s hm j (by omega))
end Go.Proofs.YtbmfadmoficfiaaDoor.Lex
namespace Go.Proofs.YtbmfadmoficfiaaDoor.Lex
open Go.RowKit Go.Proofs.YtbmfadmoficfiaaDoorW.PrintWords Go.Proofs.YtbmfadmoficfiaaDoor.Q
set_option linter.unusedVariables false
theorem awake_yes : Ev (fun k => cruciblelaw07_awake.f k) true := Ev.of (fun k => cruciblelaw07_awake.mono k) (show cruciblelaw07_awake.f 100 = some true by kernel_rfl)
theorem numTok_len (s : Bs) (t : Tk) (h : numTok s = some t) : t.kind = 5 ∧ 1 ≤ t.len ∧ t.len ≤ s.length := by
 unfold numTok at h
 simp only at h
 rw [Option.ite_none_left_eq_some] at h
 obtain ⟨hn, h⟩ := h
 obtain rfl := Option.some.inj h
 clear h
 have hds : ¬ (List.takeWhile (fun c => decide (hexv c < if isHex s = true then 16 else 10)) (s.drop (if isHex s = true then 2 else 0)) = []) := fun e => hn (.inl e)
 clear hn
 have hl : 1 ≤ (List.takeWhile (fun c => decide (hexv c < if isHex s = true then 16 else 10)) (s.drop (if isHex s = true then 2 else 0))).length := by
  rcases Nat.eq_zero_or_pos (List.takeWhile (fun c => decide (hexv c < if isHex s = true then 16 else 10)) (s.drop (if isHex s = true then 2 else 0))).length with h0 | h0
  · exact absurd (List.eq_nil_of_length_eq_zero h0) hds
  · exact h0
 have hp := (List.takeWhile_prefix (fun c => decide (hexv c < if isHex s = true then 16 else 10)) (l := s.drop (if isHex s = true then 2 else 0))).length_le
 rw [List.length_drop] at hp
 simp only
 generalize (List.takeWhile (fun c => decide (hexv c < if isHex s = true then 16 else 10)) (s.drop (if isHex s = true then 2 else 0))).length = n at hl hp ⊢
 generalize hpre : (if isHex s = true then 2 else 0) = pre at hp ⊢
 refine ⟨trivial, ?_, ?_⟩
 · split <;> omega
 · by_cases hu : isU (s.drop (pre + n)) = true
   · rw [if_pos hu]
     have : s.drop (pre + n) ≠ [] := by
      intro e
      rw [e] at hu
      exact Bool.noConfusion hu
     have := List.length_pos_iff.2 this
     rw [List.length_drop] at this
     omega
   · rw [if_neg hu]
     omega
theorem quotTok_len (s : Bs) (t : Tk) (h : quotTok s = some t) : t.kind ≠ 1 ∧ 1 ≤ t.len ∧ t.len ≤ s.length := by
 cases s with
 | nil => cases h
 | cons c r =>
  rw [quotTok_cons] at h
  cases hu : units c r with
  | none => rw [hu] at h; cases h
  | some x =>
   obtain ⟨b, n⟩ := x
   have hle := units_le c _ r b n (Nat.le_refl _) hu
   rw [hu] at h
   simp only at h
   split at h
   · obtain rfl := Option.some.inj h
     exact ⟨show (7 : Nat) ≠ 1 by decide, by simp, by simp; omega⟩
   · split at h
     · obtain rfl := Option.some.inj h
       exact ⟨show (6 : Nat) ≠ 1 by decide, by simp, by simp; omega⟩
     · cases h
theorem marks_pos : ∀ m ∈ marks, 1 ≤ m.length := by decide
theorem markTok_len (s : Bs) (t : Tk) (h : markTok s = some t) : t.kind = 4 ∧ 1 ≤ t.len ∧ t.len ≤ s.length := by
 unfold markTok at h
 obtain ⟨m, hm, rfl⟩ := Option.map_eq_some_iff.1 h
 have h1 := List.mem_of_find?_eq_some hm
 have h2 := List.find?_some hm
 exact ⟨rfl, marks_pos m h1, (List.isPrefixOf_iff_prefix.1 h2).length_le⟩
theorem tok_len (s : Bs) (t : Tk) (h : tok s = some t) : t.kind ≠ 1 ∧ 1 ≤ t.len ∧ t.len ≤ s.length := by
 cases s with
 | nil => cases h
 | cons c r =>
  unfold tok at h
  simp only at h
  split at h
  · have := numTok_len _ t h
    exact ⟨by omega, this.2⟩
  · split at h
    · rename_i hw
      obtain rfl := Option.some.inj h
      refine ⟨?_, ?_, ?_⟩
      · unfold Z76
        simp only
        split <;> decide
      · show 1 ≤ ((c :: r).takeWhile wi).length
        rw [List.takeWhile_cons, if_pos hw]
        simp
      · exact (List.takeWhile_prefix wi).length_le
    · split at h
      · exact quotTok_len _ t h
      · have := markTok_len _ t h
        exact ⟨by omega, this.2⟩
inductive Toks where
 | bad (at_ : Nat)
 | ok (l : List (Tk × Nat)) (end_ : Nat)
def Toks.cons (t : Tk) (j : Nat) : Toks → Toks
 | .bad e => .bad e
 | .ok l e => .ok ((t, j) :: l) e
def toks (s : Bs) : Nat → Nat → Toks
 | 0, i => .bad i
 | d + 1, i =>
  match next s i with
  | .bad j => .bad j
  | .fin j => .ok [] j
  | .tk t j => (toks s d (j + t.len)).cons t j
def toS (x : Tk × Nat) : S24 := ⟨(x.1.kind : Int), ⟨x.1.text.toArray⟩, (x.1.num : Int), x.1.uns, (x.2 : Int), ((x.2 + x.1.len : Nat) : Int)⟩
def endS (e : Nat) : S24 := ⟨1, ⟨#[]⟩, 0, false, (e : Int), (e : Int)⟩
abbrev AR := List S24 × Int × Int
def ar (acc : List S24) : Toks → AR
 | .bad e => ([], (e : Int), 70)
 | .ok l e => (acc ++ l.map toS ++ [endS e], 0, 0)
theorem ar_cons (acc : List S24) (t : Tk) (j : Nat) (r : Toks) : ar acc (r.cons t j) = ar (acc ++ [toS (t, j)]) r := by
 cases r with
 | bad e => rfl
 | ok l e => simp [Toks.cons, ar]
theorem next_tk (l : Bs) (i : Nat) (t : Tk) (j : Nat) (h : next l i = .tk t j) (hi : i ≤ l.length) : i ≤ j ∧ j + t.len ≤ l.length ∧ 1 ≤ t.len ∧ t.kind ≠ 1 ∧ tok (l.drop j) = some t ∧ j = i + (gap (l.drop i)).1 ∧ (gap (l.drop i)).2 = true := by
 unfold next at h
 simp only at h
 split at h
 · cases h
 · rename_i hg
   split at h
   · cases h
   · split at h
     · cases h
     · rename_i t2 ht
       injection h with h1 h2
       subst h1
       subst h2
       have hl := tok_len _ _ ht
       rw [List.length_drop] at hl
       exact ⟨by omega, by omega, hl.2.1, hl.1, ht, rfl, by simpa using hg⟩
theorem nextS_next (s : ByteArray) (i : Nat) : nextS s i = next s.data.toList i := rfl
theorem lex_all_loop (s : ByteArray) (hs : s.size ≤ 65536) (d : Nat) : ∀ (i : Nat) (acc : List S24), i ≤ s.size → s.size - i < d → acc.length ≤ i →
 Ev (fun k => Z44.l0 k s acc (i : Int)) (ar acc (toks s.data.toList d i)) := by
 induction d with
 | zero =>
  intro i acc hi hd ha
  omega
 | succ d ih =>
  intro i acc hi hd ha
  refine Ev.step (fun k => by rw [Z44.l0]) (Ev.bind (lex_next s (by omega) i hi) ?_)
  rw [nextS_next]
  unfold toks
  cases hn : next s.data.toList i with
  | bad j => exact ev_neg (show ¬ ((70 : Int) = 0) by decide) (Ev.now _)
  | fin j =>
   refine ev_pos rfl (ev_pos (by omega) (Z65 rfl (ev_pos rfl ?_)))
   show Ev (fun _ => some (acc ++ [endS j], 0, 0)) (acc ++ [] ++ [endS j], 0, 0)
   rw [List.append_nil]
   exact Ev.now _
  | tk t j =>
   have hl := next_tk _ _ _ _ hn (by rw [← Lib.size_eq]; exact hi)
   rw [← Lib.size_eq] at hl
   refine ev_pos rfl (ev_pos (by omega) (Z65 rfl (ev_neg (by show ¬ ((t.kind : Nat) : Int) = 1; omega) ?_)))
   simp only
   rw [ar_cons]
   exact ih (j + t.len) (acc ++ [toS (t, j)]) (by omega) (by omega) (by simp; omega)
def allT (l : Bs) : Toks := toks l (l.length + 1) 0
def allR (s : ByteArray) : AR := if 65536 < s.size then ([], 0, 3) else ar [] (allT s.data.toList)
theorem lex_all (s : ByteArray) : Ev (fun k => Z44.f k s) (allR s) := by
 unfold Z44.f allR
 by_cases h : 65536 < s.size
 · rw [if_pos h]
   exact ev_pos (by omega) (Ev.now _)
 · rw [if_neg h]
   refine ev_neg (by omega) ?_
   unfold allT
   rw [← Lib.size_eq]
   exact lex_all_loop s (by omega) _ 0 [] (by omega) (by omega) (by simp)
end Go.Proofs.YtbmfadmoficfiaaDoor.Lex
namespace Go.Proofs.YtbmfadmoficfiaaDoor.Lex
open Go.RowKit Go.Proofs.YtbmfadmoficfiaaDoorW.PrintWords
set_option linter.unusedVariables false
inductive Gp : Bs → Prop where
 | nil : Gp []
 | blank {c : UInt8} {g : Bs} : blank c = true → Gp g → Gp (c :: g)
 | line (u : Bs) {g : Bs} : (∀ c ∈ u, c ≠ 10) → Gp g → Gp (47 :: 47 :: (u ++ 10 :: g))
 | com (u : Bs) {g : Bs} : comEnd u = some u.length → Gp g → Gp (47 :: 42 :: (u ++ g))
theorem lineLen_app : ∀ (u x : Bs), (∀ c ∈ u, c ≠ 10) → Z57 (u ++ 10 :: x) = u.length
 | [], x, _ => lineLen_nl x
 | c :: u, x, h => by
  rw [List.cons_append, lineLen_ne _ (h c (List.mem_cons_self ..)), lineLen_app u x (fun d hd => h d (List.mem_cons_of_mem _ hd))]
  rfl
theorem lineLen_split : ∀ q : Bs, (Z57 q = q.length ∧ ∀ c ∈ q, c ≠ 10) ∨ ∃ u x, q = u ++ 10 :: x ∧ (∀ c ∈ u, c ≠ 10) ∧ Z57 q = u.length
 | [] => .inl ⟨rfl, by simp⟩
 | c :: q => by
  by_cases hc : c = 10
  · subst hc
    exact .inr ⟨[], q, rfl, by simp, lineLen_nl q⟩
  · rw [lineLen_ne q hc]
    rcases lineLen_split q with ⟨h1, h2⟩ | ⟨u, x, rfl, h2, h3⟩
    · refine .inl ⟨by rw [h1]; rfl, ?_⟩
      intro d hd
      rcases List.mem_cons.1 hd with rfl | hd
      · exact hc
      · exact h2 d hd
    · refine .inr ⟨c :: u, x, rfl, ?_, by rw [h3]; rfl⟩
      intro d hd
      rcases List.mem_cons.1 hd with rfl | hd
      · exact hc
      · exact h2 d hd
theorem comEnd_app : ∀ (u x : Bs) (m : Nat), comEnd u = some m → comEnd (u ++ x) = some m
 | [], x, m, h => by simp [comEnd] at h
 | c :: r, x, m, h => by
  rw [List.cons_append]
  unfold comEnd at h ⊢
  by_cases hp : List.isPrefixOf [42, 47] (c :: r) = true
  · rw [if_pos hp] at h
    have hp2 : List.isPrefixOf [42, 47] (c :: (r ++ x)) = true := by
     rw [List.isPrefixOf_iff_prefix] at hp ⊢
     exact hp.trans (List.prefix_append (c :: r) x)
    rw [if_pos hp2]
    exact h
  · rw [if_neg hp] at h
    obtain ⟨q, hq, rfl⟩ := Option.map_eq_some_iff.1 h
    have hl := comEnd_le r q hq
    have hp2 : ¬ List.isPrefixOf [42, 47] (c :: (r ++ x)) = true := by
     intro h2
     apply hp
     rw [List.isPrefixOf_iff_prefix] at h2 ⊢
     exact List.prefix_of_prefix_length_le h2 (List.prefix_append (c :: r) x) (by simp; omega)
    rw [if_neg hp2, comEnd_app r x q hq]
    rfl
theorem comEnd_take : ∀ (q : Bs) (m : Nat), comEnd q = some m → comEnd (q.take m) = some m
 | [], m, h => by simp [comEnd] at h
 | c :: r, m, h => by
  unfold comEnd at h
  by_cases hp : List.isPrefixOf [42, 47] (c :: r) = true
  · rw [if_pos hp] at h
    obtain rfl := Option.some.inj h
    rw [List.isPrefixOf_iff_prefix] at hp
    obtain ⟨y, hy⟩ := hp
    rw [← hy]
    rfl
  · rw [if_neg hp] at h
    obtain ⟨q, hq, rfl⟩ := Option.map_eq_some_iff.1 h
    have hl := comEnd_le r q hq
    rw [List.take_succ_cons]
    unfold comEnd
    have hp2 : ¬ List.isPrefixOf [42, 47] (c :: r.take q) = true := by
     intro h2
     apply hp
     rw [List.isPrefixOf_iff_prefix] at h2 ⊢
     exact h2.trans ⟨r.drop q, by simp⟩
    rw [if_neg hp2, comEnd_take r q hq]
    rfl
theorem gap_app {g : Bs} (h : Gp g) (x : Bs) : gap (g ++ x) = (g.length + (gap x).1, (gap x).2) := by
 induction h with
 | nil => simp
 | blank hb _ ih =>
  rw [List.cons_append, gap_blank _ hb, ih]
  simp only [List.length_cons]
  refine Prod.ext ?_ rfl
  show _ + _ + 1 = _ + 1 + _
  omega
 | line u hu _ ih =>
  rename_i g hg
  show gap (47 :: 47 :: (u ++ 10 :: g ++ x)) = _
  have e : u ++ 10 :: g ++ x = u ++ 10 :: (g ++ x) := by simp
  rw [e, gap_line, lineLen_app u _ hu, List.drop_left, gap_blank _ (by decide), ih]
  refine Prod.ext ?_ rfl
  simp only [List.length_cons, List.length_append]
  omega
 | com u hu _ ih =>
  rename_i g hg
  show gap (47 :: 42 :: (u ++ g ++ x)) = _
  have e : u ++ g ++ x = u ++ (g ++ x) := by simp
  rw [e, gap_com_some _ _ (comEnd_app u _ _ hu), List.drop_left, ih]
  refine Prod.ext ?_ rfl
  simp only [List.length_cons, List.length_append]
  omega
theorem Gp.app {g h : Bs} (hg : Gp g) (hh : Gp h) : Gp (g ++ h) := by
 induction hg with
 | nil => exact hh
 | blank hb _ ih => exact .blank hb ih
 | line u hu _ ih =>
  rename_i g hg
  have e : 47 :: 47 :: (u ++ 10 :: g) ++ h = 47 :: 47 :: (u ++ 10 :: (g ++ h)) := by simp
  rw [e]
  exact .line u hu ih
 | com u hu _ ih =>
  rename_i g hg
  have e : 47 :: 42 :: (u ++ g) ++ h = 47 :: 42 :: (u ++ (g ++ h)) := by simp
  rw [e]
  exact .com u hu ih
theorem Gp.whole {g : Bs} (h : Gp g) : gap g = (g.length, true) := by
 have := gap_app h []
 rw [gap_nil, List.append_nil] at this
 exact this
theorem gap_split (d : Nat) : ∀ (l : Bs) (n : Nat), l.length ≤ d → gap l = (n, true) → (n ≤ l.length ∧ Gp (l.take n)) ∨ (n = l.length ∧ ∃ g u, Gp g ∧ (∀ c ∈ u, c ≠ 10) ∧ l = g ++ 47 :: 47 :: u) := by
 induction d with
 | zero =>
  intro l n hd h
  obtain rfl := List.eq_nil_of_length_eq_zero (Nat.le_zero.1 hd)
  rw [gap_nil] at h
  injection h with h1 _
  subst h1
  exact .inl ⟨Nat.le_refl _, .nil⟩
 | succ d ih =>
  intro l n hd h
  cases l with
  | nil =>
   rw [gap_nil] at h
   injection h with h1 _
   subst h1
   exact .inl ⟨Nat.le_refl _, .nil⟩
  | cons c r =>
   simp only [List.length_cons] at hd
   by_cases hb : blank c = true
   · rw [gap_blank r hb] at h
     injection h with h1 h2
     rcases ih r (gap r).1 (by omega) (Prod.ext rfl h2) with ⟨h3, h4⟩ | ⟨h3, g, u, h4, h5, h6⟩
     · subst h1
       exact .inl ⟨by simp only [List.length_cons]; omega, .blank hb h4⟩
     · subst h1
       refine .inr ⟨by rw [h3]; rfl, c :: g, u, .blank hb h4, h5, by rw [List.cons_append, ← h6]⟩
   · by_cases hs : c = 47
     · subst hs
       cases r with
       | nil =>
        rw [gap_slash] at h
        injection h with h1 _
        subst h1
        exact .inl ⟨by simp, .nil⟩
       | cons e q =>
        simp only [List.length_cons] at hd
        by_cases h1 : e = 47
        · subst h1
          rw [gap_line] at h
          injection h with h1 h2
          rcases lineLen_split q with ⟨h3, h4⟩ | ⟨u, x, rfl, h4, h3⟩
          · rw [h3, List.drop_length, gap_nil] at h1
            subst h1
            exact .inr ⟨by simp only [List.length_cons]; omega, [], q, .nil, h4, rfl⟩
          · rw [h3, List.drop_left, gap_blank x (by decide)] at h1 h2
            rw [List.length_append, List.length_cons] at hd
            rcases ih x (gap x).1 (by omega) (Prod.ext rfl h2) with ⟨h5, h6⟩ | ⟨h5, g, v, h6, h7, h8⟩
            · subst h1
              refine .inl ⟨by simp only [List.length_cons, List.length_append]; omega, ?_⟩
              have e : (47 :: 47 :: (u ++ 10 :: x)).take ((gap x).1 + 1 + (u.length + 2)) = 47 :: 47 :: (u ++ 10 :: x.take (gap x).1) := by
               rw [show (gap x).1 + 1 + (u.length + 2) = (u.length + ((gap x).1 + 1)) + 1 + 1 by omega, List.take_succ_cons, List.take_succ_cons, List.take_append, List.take_of_length_le (by omega)]
               rw [show u.length + ((gap x).1 + 1) - u.length = (gap x).1 + 1 by omega, List.take_succ_cons]
              rw [e]
              exact .line u h4 h6
            · subst h1
              refine .inr ⟨by simp only [List.length_cons, List.length_append]; omega, 47 :: 47 :: (u ++ 10 :: g), v, .line u h4 h6, h7, ?_⟩
              rw [h8]
              simp
        · by_cases h2 : e = 42
          · subst h2
            cases hq : comEnd q with
            | none =>
             rw [gap_com_none q hq] at h
             injection h with _ h2
             cases h2
            | some m =>
             rw [gap_com_some q m hq] at h
             injection h with h1 h2
             have hm := comEnd_le q m hq
             have hl : (q.take m).length = m := by rw [List.length_take]; omega
             have hc : comEnd (q.take m) = some (q.take m).length := by rw [hl]; exact comEnd_take q m hq
             rcases ih (q.drop m) (gap (q.drop m)).1 (by rw [List.length_drop]; omega) (Prod.ext rfl h2) with ⟨h5, h6⟩ | ⟨h5, g, v, h6, h7, h8⟩
             · subst h1
               rw [List.length_drop] at h5
               refine .inl ⟨by simp only [List.length_cons]; omega, ?_⟩
               have e : (47 :: 42 :: q).take ((gap (q.drop m)).1 + (m + 2)) = 47 :: 42 :: (q.take m ++ (q.drop m).take (gap (q.drop m)).1) := by
                rw [show (gap (q.drop m)).1 + (m + 2) = (m + (gap (q.drop m)).1) + 1 + 1 by omega, List.take_succ_cons, List.take_succ_cons, List.take_add]
               rw [e]
               exact .com _ hc h6
             · subst h1
               rw [List.length_drop] at h5
               refine .inr ⟨by simp only [List.length_cons]; omega, 47 :: 42 :: (q.take m ++ g), v, .com _ hc h6, h7, ?_⟩
               have : q = q.take m ++ q.drop m := (List.take_append_drop m q).symm
               conv => lhs; rw [this, h8]
               simp
          · rw [gap_slash_other q h1 h2] at h
            injection h with h1 _
            subst h1
            exact .inl ⟨by simp, .nil⟩
     · rw [gap_other r (by simpa using hb) hs] at h
       injection h with h1 _
       subst h1
       exact .inl ⟨by simp, .nil⟩
def Nx (x y : Bs) : Prop := y = [] ∨ ∃ c r, y = c :: r ∧ (blank c = true ∨ ∃ r', x = c :: r')
theorem Nx.same (c : UInt8) (r r' : Bs) : Nx (c :: r) (c :: r') := .inr ⟨c, r', rfl, .inr ⟨r, rfl⟩⟩
theorem gap0_inv {c : UInt8} {r : Bs} (h : gap (c :: r) = (0, true)) : blank c = false ∧ (c ≠ 47 ∨ r = [] ∨ ∃ d q, r = d :: q ∧ d ≠ 47 ∧ d ≠ 42) := by
 by_cases hb : blank c = true
 · rw [gap_blank r hb] at h
   injection h with h _
   omega
 refine ⟨by simpa using hb, ?_⟩
 by_cases hs : c = 47
 · subst hs
   cases r with
   | nil => exact .inr (.inl rfl)
   | cons d q =>
    refine .inr (.inr ⟨d, q, rfl, ?_, ?_⟩)
    · rintro rfl
      rw [gap_line] at h
      injection h with h _
      omega
    · rintro rfl
      cases hq : comEnd q with
      | none =>
       rw [gap_com_none q hq] at h
       injection h with _ h
       cases h
      | some m =>
       rw [gap_com_some q m hq] at h
       injection h with h _
       omega
 · exact .inl hs
theorem gap0_mk {c : UInt8} {r : Bs} (h : blank c = false ∧ (c ≠ 47 ∨ r = [] ∨ ∃ d q, r = d :: q ∧ d ≠ 47 ∧ d ≠ 42)) : gap (c :: r) = (0, true) := by
 obtain ⟨hb, h⟩ := h
 by_cases hs : c = 47
 · subst hs
   rcases h with h | rfl | ⟨d, q, rfl, h1, h2⟩
   · exact absurd rfl h
   · exact gap_slash
   · exact gap_slash_other q h1 h2
 · exact gap_other r hb hs
theorem blank_ne {c : UInt8} (h : blank c = true) : c ≠ 47 ∧ c ≠ 42 ∧ wi c = false ∧ dig c = false ∧ c ≠ 117 ∧ c ≠ 85 ∧ c ≠ 120 ∧ c ≠ 88 ∧ 99 ≤ hexv c := by
 unfold blank at h
 simp only [Bool.or_eq_true, beq_iff_eq] at h
 rcases h with ((rfl | rfl) | rfl) | rfl <;> decide
theorem gap0_app (p x y : Bs) (hp : p ≠ []) (h : gap (p ++ x) = (0, true)) (hn : Nx x y) : gap (p ++ y) = (0, true) := by
 cases p with
 | nil => exact absurd rfl hp
 | cons c p =>
  have hi := gap0_inv h
  refine gap0_mk ⟨hi.1, ?_⟩
  rcases hi.2 with h1 | h1 | ⟨d, q, h1, h2, h3⟩
  · exact .inl h1
  · have := List.append_eq_nil_iff.1 h1
    obtain ⟨rfl, rfl⟩ := this
    rcases hn with rfl | ⟨e, r, rfl, hb | ⟨r', he⟩⟩
    · exact .inr (.inl rfl)
    · exact .inr (.inr ⟨e, r, rfl, (blank_ne hb).1, (blank_ne hb).2.1⟩)
    · cases he
  · cases p with
    | cons e p =>
     injection h1 with h4 h5
     subst h4
     exact .inr (.inr ⟨e, p ++ y, rfl, h2, h3⟩)
    | nil =>
     have h1 : x = d :: q := h1
     subst h1
     rcases hn with rfl | ⟨e, r, rfl, hb | ⟨r', he⟩⟩
     · exact .inr (.inl rfl)
     · exact .inr (.inr ⟨e, r, rfl, (blank_ne hb).1, (blank_ne hb).2.1⟩)
     · injection he with he _
       subst he
       exact .inr (.inr ⟨d, r, rfl, h2, h3⟩)
theorem takeWhile_app (P : UInt8 → Bool) (hP : ∀ c, blank c = true → P c = false) (x y : Bs) (hn : Nx x y) : ∀ q : Bs, ((q ++ x).takeWhile P).length ≤ q.length → (q ++ y).takeWhile P = (q ++ x).takeWhile P
 | [], h => by
  rw [List.nil_append] at h ⊢
  rw [List.nil_append]
  have h0 : x.takeWhile P = [] := List.eq_nil_of_length_eq_zero (by simpa using h)
  rw [h0]
  rcases hn with rfl | ⟨e, r, rfl, hb | ⟨r', rfl⟩⟩
  · rfl
  · rw [List.takeWhile_cons, if_neg (by rw [hP e hb]; decide)]
  · rw [List.takeWhile_cons] at h0
    by_cases he : P e = true
    · rw [if_pos he] at h0
      cases h0
    · rw [List.takeWhile_cons, if_neg he]
 | c :: q, h => by
  rw [List.cons_append, List.takeWhile_cons] at h
  rw [List.cons_append, List.cons_append, List.takeWhile_cons, List.takeWhile_cons]
  by_cases hc : P c = true
  · rw [if_pos hc] at h ⊢
    rw [if_pos hc, takeWhile_app P hP x y hn q (by simpa using h)]
  · rw [if_neg hc, if_neg hc]
theorem head_app (H : Bs → Bool) (h0 : H [] = false) (hb : ∀ c r, blank c = true → H (c :: r) = false) (hh : ∀ c r r', H (c :: r) = H (c :: r')) (x y : Bs) (hn : Nx x y) (h : H x = false) : H y = false := by
 rcases hn with rfl | ⟨e, r, rfl, hb2 | ⟨r', rfl⟩⟩
 · exact h0
 · exact hb e r hb2
 · rw [hh e r r']
   exact h
theorem isU_app (x y : Bs) (hn : Nx x y) (h : isU x = false) : isU y = false := by
 refine head_app isU rfl ?_ (fun _ _ _ => rfl) x y hn h
 intro c r hb
 have := blank_ne hb
 simp [isU, this.2.2.2.2.1, this.2.2.2.2.2.1]
theorem headWi_app (x y : Bs) (hn : Nx x y) (h : headWi x = false) : headWi y = false := by
 refine head_app headWi rfl ?_ (fun _ _ _ => rfl) x y hn h
 intro c r hb
 exact (blank_ne hb).2.2.1
theorem isHex_app (p x y : Bs) (hp : p ≠ []) (hn : Nx x y) (h : isHex (p ++ x) = true → 2 ≤ p.length) : isHex (p ++ y) = isHex (p ++ x) := by
 match p, hp with
 | [a], _ =>
  have hx : isHex (a :: x) = false := by
   by_cases hx : isHex (a :: x) = true
   · have := h hx
     simp at this
   · simpa using hx
  show isHex (a :: y) = isHex (a :: x)
  rw [hx]
  rcases hn with rfl | ⟨e, r, rfl, hb | ⟨r', rfl⟩⟩
  · rfl
  · have := blank_ne hb
    simp [isHex, this.2.2.2.2.2.2.1, this.2.2.2.2.2.2.2.1]
  · exact hx
 | a :: b :: q, _ => rfl
theorem unit_app (m : UInt8) (q x y : Bs) (b : UInt8) (n : Nat) (h : unit m (q ++ x) = some (b, n)) (hn : n ≤ q.length) : unit m (q ++ y) = some (b, n) := by
 have h1 := (unit_le m _ b n h).1
 match q, hn with
 | [], hn => simp at hn; omega
 | [c], hn =>
  have hn1 : n = 1 := by simp at hn; omega
  subst hn1
  rw [List.singleton_append, unit_cons] at h
  rw [List.singleton_append, unit_cons]
  split at h
  · cases h
  · rename_i h2
    rw [if_neg h2]
    split at h
    · rename_i h3
      rw [if_pos h3]
      exact h
    · exfalso
      cases x with
      | nil => cases h
      | cons d x =>
       simp only at h
       split at h
       · injection h with h
         injection h with _ h
         cases h
       · split at h
         · split at h
           · split at h
             · injection h with h
               injection h with _ h
               cases h
             · cases h
           · cases h
         · cases h
 | [c, d], hn =>
  rw [List.cons_append, unit_cons] at h
  rw [List.cons_append, unit_cons]
  split at h
  · cases h
  · rename_i h2
    rw [if_neg h2]
    split at h
    · rename_i h3
      rw [if_pos h3]
      exact h
    · rename_i h3
      rw [if_neg h3]
      simp only [List.singleton_append] at h ⊢
      cases he : esc d with
      | some z =>
       rw [he] at h
       exact h
      | none =>
       rw [he] at h
       exfalso
       simp only at h
       split at h
       · split at h
         · split at h
           · injection h with h
             injection h with _ h
             subst h
             simp at hn
           · cases h
         · cases h
       · cases h
 | [c, d, e], hn =>
  rw [List.cons_append, unit_cons] at h
  rw [List.cons_append, unit_cons]
  split at h
  · cases h
  · rename_i h2
    rw [if_neg h2]
    split at h
    · rename_i h3
      rw [if_pos h3]
      exact h
    · rename_i h3
      rw [if_neg h3]
      simp only [List.cons_append, List.nil_append] at h ⊢
      cases he : esc d with
      | some z =>
       rw [he] at h
       exact h
      | none =>
       rw [he] at h
       exfalso
       simp only at h
       split at h
       · split at h
         · split at h
           · injection h with h
             injection h with _ h
             subst h
             simp at hn
           · cases h
         · cases h
       · cases h
 | c :: d :: e :: f :: q, hn =>
  rw [List.cons_append, unit_cons] at h
  rw [List.cons_append, unit_cons]
  exact h
theorem units_app (m : UInt8) (x y : Bs) (d : Nat) : ∀ (q : Bs) (b : Bs) (n : Nat), q.length ≤ d → units m (q ++ x) = some (b, n) → n < q.length → units m (q ++ y) = some (b, n) := by
 induction d with
 | zero =>
  intro q b n hd h hn
  omega
 | succ d ih =>
  intro q b n hd h hn
  cases q with
  | nil => simp at hn
  | cons c q =>
   by_cases hc : c = m
   · subst hc
     rw [List.cons_append, units_mark] at h
     rw [List.cons_append, units_mark]
     exact h
   · rw [List.cons_append] at h
     cases hu : unit m (c :: (q ++ x)) with
     | none =>
      rw [units_none m _ hc hu] at h
      cases h
     | some v =>
      obtain ⟨b1, n1⟩ := v
      rw [units_some m _ b1 n1 hc hu] at h
      obtain ⟨⟨b2, n2⟩, h2, h3⟩ := Option.map_eq_some_iff.1 h
      injection h3 with h4 h5
      simp only at h4 h5
      have hl := unit_le m _ b1 n1 hu
      have hle : n1 ≤ (c :: q).length := by omega
      have hu2 := unit_app m (c :: q) x y b1 n1 hu hle
      rw [List.cons_append] at hu2 ⊢
      rw [units_some m _ b1 n1 hc hu2]
      have e1 : (c :: (q ++ x)).drop n1 = (c :: q).drop n1 ++ x := by
       rw [← List.cons_append, List.drop_append_of_le_length hle]
      have e2 : (c :: (q ++ y)).drop n1 = (c :: q).drop n1 ++ y := by
       rw [← List.cons_append, List.drop_append_of_le_length hle]
      rw [e1] at h2
      rw [e2, ih ((c :: q).drop n1) b2 n2 (by rw [List.length_drop]; omega) h2 (by rw [List.length_drop]; omega)]
      simp only [Option.map_some]
      rw [h4, h5]
theorem marks_closed : ∀ a ∈ marks, ∀ n ∈ [1, 2], n < a.length → a.take n ∈ marks := by decide
theorem marks_plain : ∀ a ∈ marks, ∀ c ∈ a, blank c = false := by decide
theorem marks_sorted : marks.Pairwise (fun a b => b.length ≤ a.length) := by decide
theorem marks_short : ∀ a ∈ marks, a.length ≤ 3 := by decide
theorem markTok_app (p x y : Bs) (t : Tk) (h : markTok (p ++ x) = some t) (hl : t.len = p.length) (hn : Nx x y) : markTok (p ++ y) = some t := by
 unfold markTok at h ⊢
 obtain ⟨m, hm, rfl⟩ := Option.map_eq_some_iff.1 h
 simp only at hl
 obtain ⟨hp, la, lb, hmk, has⟩ := List.find?_eq_some_iff_append.1 hm
 have hmp : m = p := by
  have h1 := List.isPrefixOf_iff_prefix.1 hp
  have h2 := List.prefix_of_prefix_length_le h1 (List.prefix_append p x) (by omega)
  exact h2.eq_of_length hl
 subst hmp
 have : marks.find? (fun a => a.isPrefixOf (m ++ y)) = some m := by
  rw [List.find?_eq_some_iff_append]
  refine ⟨by rw [List.isPrefixOf_iff_prefix]; exact List.prefix_append m y, la, lb, hmk, ?_⟩
  intro a ha
  have hna := has a ha
  simp only [Bool.not_eq_eq_eq_not, Bool.not_true] at hna ⊢
  rw [← Bool.not_eq_true, List.isPrefixOf_iff_prefix] at hna ⊢
  intro hpre
  apply hna
  have ham : a ∈ marks := by rw [hmk]; exact List.mem_append_left _ ha
  by_cases hal : a.length ≤ m.length
  · exact (List.prefix_of_prefix_length_le hpre (List.prefix_append m y) hal).trans (List.prefix_append m x)
  ·
   exfalso
   have hma : m <+: a := List.prefix_of_prefix_length_le (List.prefix_append m y) hpre (by omega)
   obtain ⟨a', rfl⟩ := hma
   have hay : a' <+: y := (List.prefix_append_right_inj m).1 hpre
   cases a' with
   | nil => simp at hal
   | cons c a' =>
    obtain ⟨y', rfl⟩ := hay
    have hcb : blank c = false := marks_plain _ ham c (by simp)
    rcases hn with h0 | ⟨e, r, he, hb | ⟨r', rfl⟩⟩
    · cases h0
    · injection he with he _
      subst he
      rw [hcb] at hb
      cases hb
    · injection he with he _
      subst he
      have hmm : m ∈ marks := by rw [hmk]; simp
      have hpos := marks_pos m hmm
      have hsh := marks_short _ ham
      rw [List.length_append, List.length_cons] at hsh
      have key : ∀ b ∈ marks, m.length < b.length → b <+: m ++ c :: r' → False := by
       intro b hb hbl hbp
       have hba : b ∈ la := by
        rw [hmk] at hb
        rcases List.mem_append.1 hb with hb | hb
        · exact hb
        · exfalso
          have hsrt := marks_sorted
          rw [hmk, List.pairwise_append] at hsrt
          rcases List.mem_cons.1 hb with rfl | hb
          · omega
          · have := (List.pairwise_cons.1 hsrt.2.1).1 b hb
            omega
       have := has b hba
       simp only [Bool.not_eq_eq_eq_not, Bool.not_true] at this
       rw [← Bool.not_eq_true, List.isPrefixOf_iff_prefix] at this
       exact this hbp
      cases a' with
      | nil =>
       exact key _ ham (by simp) ⟨r', by simp⟩
      | cons d a'' =>
       have hm1 : m.length = 1 := by rw [List.length_cons] at hsh; omega
       have := marks_closed _ ham 2 (by simp) (by rw [List.length_append, hm1]; simp only [List.length_cons]; omega)
       have e : (m ++ c :: d :: a'').take 2 = m ++ [c] := by
        rw [List.take_append, List.take_of_length_le (by omega), hm1]
        rfl
       rw [e] at this
       exact key _ this (by simp) ⟨r', by simp⟩
 rw [this]
 rfl
theorem nameTok_app (p x y : Bs) (h : (Z76 (p ++ x)).len = p.length) (hn : Nx x y) : Z76 (p ++ y) = Z76 (p ++ x) := by
 unfold Z76 at h ⊢
 simp only at h ⊢
 rw [takeWhile_app wi (fun c hc => (blank_ne hc).2.2.1) x y hn p (by omega)]
theorem ite_ge (b : Bool) (n : Nat) : n ≤ (if b = true then n + 1 else n) := by cases b <;> simp
theorem numTok_app (p x y : Bs) (hp : p ≠ []) (t : Tk) (h : numTok (p ++ x) = some t) (hl : t.len = p.length) (hn : Nx x y) : numTok (p ++ y) = some t := by
 have hpos : 1 ≤ p.length := List.length_pos_iff.2 hp
 have hlen := numTok_len _ t h
 unfold numTok at h
 simp only at h
 rw [Option.ite_none_left_eq_some] at h
 obtain ⟨hno, h⟩ := h
 obtain rfl := Option.some.inj h
 simp only at hl
 have hds : ¬ (List.takeWhile (fun c => decide (hexv c < if isHex (p ++ x) = true then 16 else 10)) ((p ++ x).drop (if isHex (p ++ x) = true then 2 else 0)) = []) := fun e => hno (.inl e)
 have h1 : 1 ≤ (List.takeWhile (fun c => decide (hexv c < if isHex (p ++ x) = true then 16 else 10)) ((p ++ x).drop (if isHex (p ++ x) = true then 2 else 0))).length := List.length_pos_iff.2 hds
 have hhex : isHex (p ++ x) = true → 2 ≤ p.length := by
  intro hh
  rw [show (if isHex (p ++ x) = true then 2 else 0) = 2 from if_pos hh] at hl
  have h9 := Nat.le_trans (ite_ge _ _) (Nat.le_of_eq hl)
  omega
 have ehex := isHex_app p x y hp hn hhex
 have hpre : (if isHex (p ++ x) = true then 2 else 0) ≤ p.length := by
  split
  · rename_i hh
    exact hhex hh
  · omega
 unfold numTok
 simp only
 rw [ehex]
 generalize hb : isHex (p ++ x) = b at *
 generalize hq : (if b = true then 2 else 0) = pre at *
 have hP : ∀ c, blank c = true → decide (hexv c < if b = true then 16 else 10) = false := by
  intro c hc
  have := (blank_ne hc).2.2.2.2.2.2.2.2
  apply decide_eq_false
  split <;> omega
 have edx : (p ++ x).drop pre = p.drop pre ++ x := List.drop_append_of_le_length hpre
 have edy : (p ++ y).drop pre = p.drop pre ++ y := List.drop_append_of_le_length hpre
 clear hlen hds h1
 rw [edx] at hno hl ⊢
 rw [edy]
 have htl : (List.takeWhile (fun c => decide (hexv c < if b = true then 16 else 10)) (p.drop pre ++ x)).length ≤ (p.drop pre).length := by
  rw [List.length_drop]
  have h9 := Nat.le_trans (ite_ge _ _) (Nat.le_of_eq hl)
  omega
 rw [takeWhile_app _ hP x y hn _ htl]
 generalize List.takeWhile (fun c => decide (hexv c < if b = true then 16 else 10)) (p.drop pre ++ x) = ds at hno hl htl ⊢
 rw [List.length_drop] at htl
 have hele : pre + ds.length ≤ p.length := Nat.le_trans (ite_ge _ _) (Nat.le_of_eq hl)
 have eU : isU ((p ++ y).drop (pre + ds.length)) = isU ((p ++ x).drop (pre + ds.length)) := by
  rw [List.drop_append_of_le_length hele, List.drop_append_of_le_length hele]
  cases hd : p.drop (pre + ds.length) with
  | cons c r => rfl
  | nil =>
   rw [List.nil_append, List.nil_append]
   have hz : pre + ds.length = p.length := by
    have := congrArg List.length hd
    rw [List.length_drop, List.length_nil] at this
    omega
   have hux : isU x = false := by
    by_cases hux : isU x = true
    · rw [List.drop_append_of_le_length hele, hd, List.nil_append, if_pos hux] at hl
      omega
    · simpa using hux
   rw [hux]
   exact isU_app x y hn hux
 rw [eU]
 have eW : headWi ((p ++ y).drop (if isU ((p ++ x).drop (pre + ds.length)) = true then pre + ds.length + 1 else pre + ds.length)) = true → headWi ((p ++ x).drop (if isU ((p ++ x).drop (pre + ds.length)) = true then pre + ds.length + 1 else pre + ds.length)) = true := by
  rw [hl, List.drop_left, List.drop_left]
  intro hw
  by_cases hx : headWi x = true
  · exact hx
  · rw [headWi_app x y hn (by simpa using hx)] at hw
    cases hw
 rw [if_neg]
 intro hor
 apply hno
 rcases hor with hor | hor | hor | hor
 · exact .inl hor
 · exact .inr (.inl hor)
 · exact .inr (.inr (.inl hor))
 · exact .inr (.inr (.inr (eW hor)))
theorem quotTok_app (p x y : Bs) (t : Tk) (h : quotTok (p ++ x) = some t) (hl : t.len = p.length) : quotTok (p ++ y) = some t := by
 cases p with
 | nil =>
  have := (quotTok_len _ t h).2.1
  simp at hl
  omega
 | cons c p =>
  rw [List.cons_append, quotTok_cons] at h
  rw [List.cons_append, quotTok_cons]
  cases hu : units c (p ++ x) with
  | none => rw [hu] at h; cases h
  | some v =>
   obtain ⟨b, n⟩ := v
   rw [hu] at h
   simp only at h
   have hn : n + 2 = p.length + 1 := by
    rw [List.length_cons] at hl
    split at h
    · obtain rfl := Option.some.inj h
      exact hl
    · split at h
      · obtain rfl := Option.some.inj h
        exact hl
      · cases h
   rw [units_app c x y _ p b n (Nat.le_refl _) hu (by omega)]
   exact h
theorem tok_app (p x y : Bs) (t : Tk) (h : tok (p ++ x) = some t) (hl : t.len = p.length) (hn : Nx x y) : tok (p ++ y) = some t := by
 cases p with
 | nil =>
  have := (tok_len _ t h).2.1
  simp at hl
  omega
 | cons c p =>
  have ex : tok (c :: p ++ x) = if dig c then numTok (c :: p ++ x) else if wi c then some (Z76 (c :: p ++ x)) else if c = 34 ∨ c = 39 then quotTok (c :: p ++ x) else markTok (c :: p ++ x) := rfl
  have ey : tok (c :: p ++ y) = if dig c then numTok (c :: p ++ y) else if wi c then some (Z76 (c :: p ++ y)) else if c = 34 ∨ c = 39 then quotTok (c :: p ++ y) else markTok (c :: p ++ y) := rfl
  rw [ex] at h
  rw [ey]
  by_cases h1 : dig c = true
  · rw [if_pos h1] at h ⊢
    exact numTok_app (c :: p) x y (by simp) t h hl hn
  · rw [if_neg h1] at h ⊢
    by_cases h2 : wi c = true
    · rw [if_pos h2] at h ⊢
      obtain rfl := Option.some.inj h
      rw [nameTok_app (c :: p) x y hl hn]
    · rw [if_neg h2] at h ⊢
      by_cases h3 : c = 34 ∨ c = 39
      · rw [if_pos h3] at h ⊢
        exact quotTok_app (c :: p) x y t h hl
      · rw [if_neg h3] at h ⊢
        exact markTok_app (c :: p) x y t h hl hn
end Go.Proofs.YtbmfadmoficfiaaDoor.Lex
namespace Go.Proofs.YtbmfadmoficfiaaDoor.Lex
open Go.RowKit Go.Proofs.YtbmfadmoficfiaaDoorW.PrintWords
set_option linter.unusedVariables false
abbrev Item := Bs × Bs × Tk
inductive Lx : Bs → List Item → Bs → Prop where
 | fin {g : Bs} : gap g = (g.length, true) → Lx g [] g
 | tk {g p x : Bs} {t : Tk} {r : List Item} {e : Bs} : Gp g → tok (p ++ x) = some t → t.len = p.length → gap (p ++ x) = (0, true) → Lx x r e → Lx (g ++ (p ++ x)) ((g, p, t) :: r) e
def flat : List Item → Bs
 | [] => []
 | (g, p, _) :: r => g ++ (p ++ flat r)
def place (i : Nat) : List Item → List (Tk × Nat)
 | [] => []
 | (g, p, t) :: r => (t, i + g.length) :: place (i + g.length + p.length) r
theorem Lx.flat {s : Bs} {r : List Item} {e : Bs} (h : Lx s r e) : s = flat r ++ e := by
 induction h with
 | fin _ => rfl
 | tk _ _ _ _ _ ih => simp [Lex.flat, ← ih]
theorem Lx.len {s : Bs} {r : List Item} {e : Bs} (h : Lx s r e) : ∀ x ∈ r, x.2.2.len = x.2.1.length ∧ 1 ≤ x.2.1.length ∧ x.2.2.kind ≠ 1 := by
 induction h with
 | fin _ => simp
 | tk hg ht hl _ _ ih =>
  intro x hx
  rcases List.mem_cons.1 hx with rfl | hx
  · have := tok_len _ _ ht
    exact ⟨hl, hl ▸ this.2.1, this.1⟩
  · exact ih x hx
theorem toks_lx (s : Bs) (d : Nat) : ∀ (i : Nat) (l : List (Tk × Nat)) (e : Nat), i ≤ s.length → toks s d i = .ok l e → ∃ r f, Lx (s.drop i) r f ∧ l = place i r ∧ e = s.length := by
 induction d with
 | zero =>
  intro i l e hi h
  cases h
 | succ d ih =>
  intro i l e hi h
  unfold toks at h
  cases hn : next s i with
  | bad j => rw [hn] at h; cases h
  | fin j =>
   rw [hn] at h
   injection h with h1 h2
   subst h1
   subst h2
   unfold next at hn
   simp only at hn
   have hg := gap_le _ (s.drop i) (Nat.le_refl _)
   rw [List.length_drop] at hg
   split at hn
   · cases hn
   · rename_i hg2
     split at hn
     · rename_i hle
       injection hn with hn
       refine ⟨[], s.drop i, .fin (Prod.ext ?_ (by simpa using hg2)), rfl, by omega⟩
       rw [List.length_drop]
       show (gap (s.drop i)).1 = _
       omega
     · split at hn <;> cases hn
  | tk t j =>
   rw [hn] at h
   simp only at h
   have hl := next_tk _ _ _ _ hn hi
   cases hr : toks s d (j + t.len) with
   | bad e2 => rw [hr] at h; cases h
   | ok l2 e2 =>
    rw [hr] at h
    injection h with h1 h2
    subst h1
    subst h2
    obtain ⟨r, f, h3, rfl, h5⟩ := ih (j + t.len) l2 e2 hl.2.1 hr
    obtain ⟨h6, h7, h8, h9, h10, h11, h12⟩ := hl
    have hsp := gap_split _ (s.drop i) (gap (s.drop i)).1 (Nat.le_refl _) (Prod.ext rfl h12)
    rcases hsp with ⟨h13, h14⟩ | ⟨h13, _⟩
    · refine ⟨((s.drop i).take (gap (s.drop i)).1, (s.drop j).take t.len, t) :: r, f, ?_, ?_, h5⟩
      · have e1 : s.drop i = (s.drop i).take (gap (s.drop i)).1 ++ ((s.drop j).take t.len ++ s.drop (j + t.len)) := by
         have a1 : s.drop j = (s.drop i).drop (gap (s.drop i)).1 := by rw [List.drop_drop, ← h11]
         have a2 : s.drop (j + t.len) = (s.drop j).drop t.len := by rw [List.drop_drop]
         rw [a2, List.take_append_drop, a1, List.take_append_drop]
        have a2 : s.drop (j + t.len) = (s.drop j).drop t.len := by rw [List.drop_drop]
        have hg0 : gap (s.drop j) = (0, true) := by
         have a1 : s.drop i = (s.drop i).take (gap (s.drop i)).1 ++ s.drop j := by
          have a1 : s.drop j = (s.drop i).drop (gap (s.drop i)).1 := by rw [List.drop_drop, ← h11]
          rw [a1, List.take_append_drop]
         have a3 := gap_app h14 (s.drop j)
         rw [← a1, List.length_take, Nat.min_eq_left h13] at a3
         have b1 := congrArg Prod.fst a3
         have b2 := congrArg Prod.snd a3
         simp only at b1 b2
         exact Prod.ext (by show (gap (s.drop j)).1 = 0; omega) (by rw [← b2]; exact h12)
        have hf := Lx.tk (g := (s.drop i).take (gap (s.drop i)).1) (p := (s.drop j).take t.len) (x := s.drop (j + t.len)) (t := t) (r := r) (e := f) h14
         (by rw [a2, List.take_append_drop]; exact h10) (by rw [List.length_take, List.length_drop]; omega) (by rw [a2, List.take_append_drop]; exact hg0) h3
        rw [← e1] at hf
        exact hf
      · show _ = (t, i + _) :: place _ r
        rw [List.length_take, Nat.min_eq_left h13, ← h11, List.length_take, List.length_drop, Nat.min_eq_left (by omega)]
    · exfalso
      rw [List.length_drop] at h13
      omega
theorem lx_toks (s : Bs) {x : Bs} {r : List Item} {f : Bs} (h : Lx x r f) : ∀ (i d : Nat), i ≤ s.length → s.drop i = x → s.length - i < d → toks s d i = .ok (place i r) s.length := by
 induction h with
 | fin hg =>
  rename_i g
  intro i d hi hx hd
  cases d with
  | zero => omega
  | succ d =>
   have hlen : s.length - i = g.length := by rw [← hx, List.length_drop]
   unfold toks
   have : next s i = .fin s.length := by
    unfold next
    simp only
    rw [hx, hg, if_neg (by simp), if_pos (by show s.length ≤ i + g.length; omega)]
    show Ans.fin (i + g.length) = _
    rw [show i + g.length = s.length by omega]
   rw [this]
   rfl
 | tk hg ht hl h0 hx ih =>
  rename_i g p x t r e
  intro i d hi hs hd
  cases d with
  | zero => omega
  | succ d =>
   have hlen : s.length - i = g.length + (p.length + x.length) := by
    have := congrArg List.length hs
    simpa using this
   have hpos := (tok_len _ _ ht).2.1
   have hga : gap (s.drop i) = (g.length, true) := by
    rw [hs, gap_app hg, h0]
    rfl
   have hdj : s.drop (i + g.length) = p ++ x := by
    rw [← List.drop_drop, hs, List.drop_left]
   have hdk : s.drop (i + g.length + p.length) = x := by
    rw [← List.drop_drop, hdj, List.drop_left]
   unfold toks
   have : next s i = .tk t (i + g.length) := by
    unfold next
    simp only
    rw [hga, if_neg (by simp), if_neg (by show ¬ s.length ≤ i + g.length; omega), hdj, ht]
   rw [this]
   simp only
   rw [hl, ih (i + g.length + p.length) d (by omega) hdk (by omega)]
   rfl
theorem allT_lx {s : Bs} {l : List (Tk × Nat)} {e : Nat} (h : allT s = .ok l e) : ∃ r f, Lx s r f ∧ l = place 0 r ∧ e = s.length := by
 obtain ⟨r, f, h1, h2, h3⟩ := toks_lx s _ 0 l e (Nat.zero_le _) h
 exact ⟨r, f, h1, h2, h3⟩
theorem lx_allT {s : Bs} {r : List Item} {f : Bs} (h : Lx s r f) : allT s = .ok (place 0 r) s.length := lx_toks s h 0 _ (Nat.zero_le _) rfl (by omega)
def pre (G : Bs) : List Item → List Item
 | [] => []
 | (g, p, t) :: r => (G ++ g, p, t) :: r
def preEnd (G e : Bs) : List Item → Bs
 | [] => G ++ e
 | _ :: _ => e
theorem lx_pre {G : Bs} (hG : Gp G) {s : Bs} {r : List Item} {e : Bs} (h : Lx s r e) : Lx (G ++ s) (pre G r) (preEnd G e r) := by
 cases h with
 | fin hg =>
  refine .fin ?_
  rw [gap_app hG, hg, List.length_append]
 | tk hg ht hl h0 hx =>
  rename_i g p x t r
  show Lx (G ++ (g ++ (p ++ x))) _ _
  rw [← List.append_assoc]
  exact .tk (hG.app hg) ht hl h0 hx
theorem gap_close {g : Bs} (h : gap g = (g.length, true)) : Gp (g ++ [10]) := by
 have h10 : Gp [10] := .blank (by decide) .nil
 rcases gap_split _ g g.length (Nat.le_refl _) h with ⟨_, h2⟩ | ⟨_, g0, u, h2, h3, rfl⟩
 · rw [List.take_length] at h2
   exact h2.app h10
 · have e : g0 ++ 47 :: 47 :: u ++ [10] = g0 ++ 47 :: 47 :: (u ++ 10 :: []) := by simp
   rw [e]
   exact h2.app (.line u h3 .nil)
def join (e : Bs) (r2 : List Item) : List Item → List Item
 | [] => pre (e ++ [10]) r2
 | x :: r => x :: join e r2 r
theorem lx_join {s2 : Bs} {r2 : List Item} {e2 : Bs} (h2 : Lx s2 r2 e2) {s : Bs} {r : List Item} {e : Bs} (h : Lx s r e) : ∃ f, Lx (s ++ 10 :: s2) (join e r2 r) f := by
 induction h with
 | fin hg =>
  rename_i g
  have := lx_pre (gap_close hg) h2
  rw [List.append_assoc] at this
  exact ⟨_, this⟩
 | tk hg ht hl h0 hx ih =>
  rename_i g p x t r e
  obtain ⟨f, hf⟩ := ih
  have hp : p ≠ [] := by
   rintro rfl
   have := (tok_len _ _ ht).2.1
   simp at hl
   omega
  have hn : Nx x (x ++ 10 :: s2) := by
   cases x with
   | nil => exact .inr ⟨10, s2, rfl, .inl (by decide)⟩
   | cons c x => exact Nx.same c _ _
  refine ⟨f, ?_⟩
  have e1 : g ++ (p ++ x) ++ 10 :: s2 = g ++ (p ++ (x ++ 10 :: s2)) := by simp
  rw [e1]
  exact .tk hg (tok_app p _ _ t ht hl hn) hl (gap0_app p _ _ hp h0 hn) hf
theorem place_pre (G : Bs) (i : Nat) : ∀ r : List Item, place i (pre G r) = place (i + G.length) r
 | [] => rfl
 | (g, p, t) :: r => by
  show (t, i + (G ++ g).length) :: place (i + (G ++ g).length + p.length) r = (t, i + G.length + g.length) :: place (i + G.length + g.length + p.length) r
  rw [List.length_append, show i + (G.length + g.length) = i + G.length + g.length by omega]
theorem place_join (e : Bs) (r2 : List Item) : ∀ (r : List Item) (i : Nat), place i (join e r2 r) = place i r ++ place (i + (flat r).length + (e.length + 1)) r2
 | [], i => by
  show place i (pre (e ++ [10]) r2) = _
  rw [place_pre]
  simp [flat, place]
 | (g, p, t) :: r, i => by
  show (t, i + g.length) :: place (i + g.length + p.length) (join e r2 r) = (t, i + g.length) :: (place (i + g.length + p.length) r ++ place (i + (g ++ (p ++ flat r)).length + (e.length + 1)) r2)
  rw [place_join e r2 r]
  simp only [List.length_append]
  rw [show i + (g.length + (p.length + (flat r).length)) = i + g.length + p.length + (flat r).length by omega]
theorem place_shift (k : Nat) : ∀ (r : List Item) (i : Nat), place (i + k) r = (place i r).map fun x => (x.1, x.2 + k)
 | [], _ => rfl
 | (g, p, t) :: r, i => by
  show (t, i + k + g.length) :: place (i + k + g.length + p.length) r = (t, i + g.length + k) :: (place (i + g.length + p.length) r).map _
  rw [← place_shift k r, show i + k + g.length = i + g.length + k by omega, show i + g.length + k + p.length = i + g.length + p.length + k by omega]
theorem place_len : ∀ (r : List Item) (i : Nat), (place i r).length = r.length
 | [], _ => rfl
 | (_, _, _) :: r, i => by simp [place, place_len r]
end Go.Proofs.YtbmfadmoficfiaaDoor.Lex
namespace Go.Proofs.YtbmfadmoficfiaaDoor.Lex
open Go.RowKit Go.Proofs.YtbmfadmoficfiaaDoorW.PrintWords Go.Proofs.YtbmfadmoficfiaaDoor.Q
set_option linter.unusedVariables false
theorem end_awake : Ev (fun k => (cruciblelaw07_awake.f k).bind fun t => some t) true := Ev.bind awake_yes (Ev.now _)
theorem allR_ok {s : ByteArray} {l : List (Tk × Nat)} {e : Nat} (hs : s.size ≤ 65536) (h : allT s.data.toList = .ok l e) : allR s = (l.map toS ++ [endS e], 0, 0) := by
 unfold allR
 rw [if_neg (by omega), h]
 rfl
def shift (k : Nat) (x : S24) : S24 := { x with f4 := x.f4 + (k : Int), f5 := x.f5 + (k : Int) }
theorem shift_toS (k : Nat) (x : Tk × Nat) : toS (x.1, x.2 + k) = shift k (toS x) := by
 unfold toS shift
 simp only [S24.mk.injEq, true_and]
 omega
theorem shift_end (k n : Nat) : endS (n + k) = shift k (endS n) := by
 unfold endS shift
 simp only [S24.mk.injEq, true_and]
 omega
theorem rd_get (l : List S24) (i : Nat) (h : i < l.length) : rd_T24 l (i : Int) = l[i] := by
 unfold rd_T24
 rw [Int.toNat_natCast, List.getD_eq_getElem?_getD, List.getElem?_eq_getElem h]
 rfl
theorem place_bound : ∀ (r : List Item) (i : Nat), (∀ x ∈ r, x.2.2.len = x.2.1.length) → ∀ y ∈ place i r, y.2 + y.1.len ≤ i + (flat r).length
 | [], _, _, y, hy => by cases hy
 | (g, p, t) :: r, i, h, y, hy => by
  have e := h _ (List.mem_cons_self ..)
  simp only at e
  simp only [flat, List.length_append]
  rcases List.mem_cons.1 hy with rfl | hy
  · show i + g.length + t.len ≤ _
    omega
  · have := place_bound r (i + g.length + p.length) (fun x hx => h x (List.mem_cons_of_mem _ hx)) y hy
    omega
theorem joins_loop (a : ByteArray) (ha : a.size ≤ 65536) (A M : List S24) (x : S24) (hA : A.length ≤ 65536) (hM : M.length ≤ 70000) (hb : ∀ y ∈ M, 0 ≤ y.f4 ∧ y.f4 ≤ 65536 ∧ 0 ≤ y.f5 ∧ y.f5 ≤ 65536) (d : Nat) : ∀ i : Nat, i ≤ A.length + M.length → A.length + M.length - i = d →
 Ev (fun k => cruciblelaw07_LexerJoins.l0 k a (A ++ [x]) M (A ++ M.map (shift (a.size + 1))) (i : Int)) true := by
 have hL : (A ++ [x]).length = A.length + 1 := by simp
 have hN : (A ++ M.map (shift (a.size + 1))).length = A.length + M.length := by simp
 induction d with
 | zero =>
  intro i hi hd
  exact Ev.step (fun k => by rw [cruciblelaw07_LexerJoins.l0]) (ev_neg (by rw [hN]; omega) end_awake)
 | succ d ih =>
  intro i hi hd
  have hw : wrap64 (((A ++ [x]).length : Int) - 1) = (A.length : Int) := by rw [hL]; unfold wrap64; omega
  refine Ev.step (fun k => by rw [cruciblelaw07_LexerJoins.l0]) (ev_pos (by rw [hN]; omega) (ev_pos (by omega) ?_))
  rw [hw, w1 i (by omega)]
  have hn := ih (i + 1) (by omega) (by omega)
  by_cases hlt : i < A.length
  · refine ev_pos (by omega) (ev_pos (by rw [hL]; omega) ?_)
    have e1 : rd_T24 (A ++ M.map (shift (a.size + 1))) (i : Int) = A[i] := by
     rw [rd_get _ i (by rw [hN]; omega), List.getElem_append_left hlt]
    have e2 : rd_T24 (A ++ [x]) (i : Int) = A[i] := by
     rw [rd_get _ i (by rw [hL]; omega), List.getElem_append_left hlt]
    rw [e1, e2]
    exact ev_neg (by simp) hn
  · refine ev_neg (by omega) ?_
    have hj : wrap64 (wrap64 ((i : Int) - ((A ++ [x]).length : Int)) + 1) = ((i - A.length : Nat) : Int) := by
     rw [hL]
     unfold wrap64
     omega
    rw [hj]
    have hjl : i - A.length < M.length := by omega
    refine ev_pos (by omega) (ev_pos (by omega) ?_)
    have e1 : rd_T24 (A ++ M.map (shift (a.size + 1))) (i : Int) = shift (a.size + 1) M[i - A.length] := by
     rw [rd_get _ i (by rw [hN]; omega), List.getElem_append_right (by omega), List.getElem_map]
    have e2 : rd_T24 M ((i - A.length : Nat) : Int) = M[i - A.length] := rd_get _ _ hjl
    rw [e1, e2]
    have hy := hb _ (List.getElem_mem hjl)
    generalize M[i - A.length] = y at hy ⊢
    have w4 : wrap64 (wrap64 (y.f4 + (a.size : Int)) + 1) = (shift (a.size + 1) y).f4 := by
     show _ = y.f4 + ((a.size + 1 : Nat) : Int)
     unfold wrap64
     omega
    have w5 : wrap64 (wrap64 (y.f5 + (a.size : Int)) + 1) = (shift (a.size + 1) y).f5 := by
     show _ = y.f5 + ((a.size + 1 : Nat) : Int)
     unfold wrap64
     omega
    rw [w4, w5]
    refine ev_neg ?_ hn
    simp [shift]
theorem allR_cases (s : ByteArray) : (s.size ≤ 65536 ∧ ∃ r f, Lx s.data.toList r f ∧ allR s = ((place 0 r).map toS ++ [endS s.size], 0, 0)) ∨ (allR s).2.2 ≠ 0 := by
 by_cases hs : 65536 < s.size
 · right
   have : allR s = ([], 0, 3) := if_pos hs
   rw [this]
   decide
 cases hT : allT s.data.toList with
 | bad e =>
  right
  have : allR s = ([], (e : Int), 70) := by
   unfold allR
   rw [if_neg hs, hT]
   rfl
  rw [this]
  exact show (70 : Int) ≠ 0 by decide
 | ok l e =>
  left
  obtain ⟨r, f, hx, rfl, rfl⟩ := allT_lx hT
  refine ⟨by omega, r, f, hx, ?_⟩
  rw [allR_ok (by omega) hT, ← Lib.size_eq]
theorem flat_ge : ∀ r : List Item, (∀ x ∈ r, 1 ≤ x.2.1.length) → r.length ≤ (flat r).length
 | [], _ => Nat.le_refl _
 | (g, p, t) :: r, h => by
  have h1 := h _ (List.mem_cons_self ..)
  have h2 := flat_ge r fun x hx => h x (List.mem_cons_of_mem _ hx)
  simp only [flat, List.length_append, List.length_cons] at h1 ⊢
  omega
theorem joined_size (x y : Nat) (hx : x ≤ 65536) (hy : y ≤ 65536) (h : 65536 < x + 1 + y) : wrap64 (wrap64 ((x : Int) + (y : Int)) + 1) > 65536 := by
 unfold wrap64
 omega
theorem joined_count (x y : Nat) (hx : x ≤ 65536) (hy : y ≤ 65536) : wrap64 (wrap64 (((x + 1 : Nat) : Int) - 1) + ((y + 1 : Nat) : Int)) = ((x + (y + 1) : Nat) : Int) := by
 unfold wrap64
 omega
set_option maxHeartbeats 1000000 in
theorem LexerJoins_pure (a b : ByteArray) : ∃ k, cruciblelaw07_LexerJoins.f k a b = some true := by
 refine Ev.rounds ?_
 unfold cruciblelaw07_LexerJoins.f
 refine Ev.bind (lex_all a) (Ev.bind (lex_all b) ?_)
 have quit : ∀ (l m : List S24), Ev (fun k => cruciblelaw07_LexerJoins.j0 k a b l m true) true := by
  intro l m
  exact Ev.step (fun k => by rw [cruciblelaw07_LexerJoins.j0]) (ev_pos rfl end_awake)
 rcases allR_cases a with ⟨ha, r, f, hx, e1⟩ | h
 case inr => exact ev_neg h (quit _ _)
 rcases allR_cases b with ⟨hb, r2, f2, hx2, e2⟩ | h
 case inr =>
  rw [e1]
  refine ev_pos rfl ?_
  have : ((allR b).2.2 != 0) = true := by simpa using h
  rw [this]
  exact quit _ _
 rw [e1, e2]
 refine ev_pos rfl ?_
 show Ev (fun k => cruciblelaw07_LexerJoins.j0 k a b ((place 0 r).map toS ++ [endS a.size]) ((place 0 r2).map toS ++ [endS b.size]) false) true
 have hfl := hx.flat
 have hfl2 := hx2.flat
 have hge := flat_ge r fun x h => (hx.len x h).2.1
 have hge2 := flat_ge r2 fun x h => (hx2.len x h).2.1
 have hsa : a.size = (flat r).length + f.length := by rw [Lib.size_eq, hfl, List.length_append]
 have hsb : b.size = (flat r2).length + f2.length := by rw [Lib.size_eq, hfl2, List.length_append]
 have z10 : (a ++ (⟨#[10]⟩ : ByteArray)).size = a.size + 1 := by rw [ByteArray.size_append]; rfl
 have zab : (a ++ (⟨#[10]⟩ : ByteArray) ++ b).size = a.size + 1 + b.size := by rw [ByteArray.size_append, z10]
 have dab : (a ++ (⟨#[10]⟩ : ByteArray) ++ b).data.toList = a.data.toList ++ 10 :: b.data.toList := by simp
 refine Ev.step (fun k => by rw [cruciblelaw07_LexerJoins.j0]) (ev_neg (by simp) (ev_pos (by omega) (ev_pos (by rw [z10]; omega) ?_)))
 refine Ev.bind (lex_all _) ?_
 by_cases hbig : 65536 < (a ++ (⟨#[10]⟩ : ByteArray) ++ b).size
 · have : allR (a ++ (⟨#[10]⟩ : ByteArray) ++ b) = ([], 0, 3) := if_pos hbig
   rw [this]
   refine ev_pos rfl (ev_pos ?_ end_awake)
   rw [zab] at hbig
   exact joined_size _ _ ha hb hbig
 · obtain ⟨f3, hj⟩ := lx_join hx2 hx
   rw [← dab] at hj
   rw [allR_ok (by omega) (lx_allT hj)]
   have hlen : (place 0 (join f r2 r)) = place 0 r ++ (place 0 r2).map fun x => (x.1, x.2 + (a.size + 1)) := by
    rw [place_join, show 0 + (flat r).length + (f.length + 1) = 0 + (a.size + 1) by omega, place_shift]
   have hN : (place 0 (join f r2 r)).map toS ++ [endS (a ++ (⟨#[10]⟩ : ByteArray) ++ b).data.toList.length] = (place 0 r).map toS ++ ((place 0 r2).map toS ++ [endS b.size]).map (shift (a.size + 1)) := by
    rw [hlen, ← Lib.size_eq, zab, show a.size + 1 + b.size = b.size + (a.size + 1) by omega, shift_end]
    simp only [List.map_append, List.map_map, List.append_assoc, List.map_cons, List.map_nil]
    congr 2
    apply List.map_congr_left
    intro x _
    exact shift_toS _ x
   rw [hN]
   refine ev_neg (show ¬ ((0 : Int) = 3) by decide) (ev_pos rfl ?_)
   simp only
   have hl1 : ((place 0 r).map toS ++ [endS a.size]).length = r.length + 1 := by simp [place_len]
   have hl2 : ((place 0 r2).map toS ++ [endS b.size]).length = r2.length + 1 := by simp [place_len]
   have hl3 : ((place 0 r).map toS ++ ((place 0 r2).map toS ++ [endS b.size]).map (shift (a.size + 1))).length = r.length + (r2.length + 1) := by simp [place_len]
   refine ev_neg (by rw [hl1]; omega) (ev_neg (by rw [hl2]; omega) ?_)
   have hw := joined_count r.length r2.length (by omega) (by omega)
   rw [hl1, hl2, hl3, hw]
   have hne : (((r.length + (r2.length + 1) : Nat) : Int) != ((r.length + (r2.length + 1) : Nat) : Int)) = false := by simp
   rw [hne]
   refine Ev.step (fun k => by rw [cruciblelaw07_LexerJoins.j1]) (ev_neg (by simp) ?_)
   have hlA : ((place 0 r).map toS).length = r.length := by simp [place_len]
   refine joins_loop a ha _ _ _ (by rw [hlA]; omega) (by rw [hl2]; omega) ?_ _ 0 (Nat.zero_le _) rfl
   intro y hy
   rcases List.mem_append.1 hy with hy | hy
   · obtain ⟨z, hz, rfl⟩ := List.mem_map.1 hy
     have := place_bound r2 0 (fun x h => (hx2.len x h).1) z hz
     refine ⟨?_, ?_, ?_, ?_⟩
     · show (0 : Int) ≤ ((z.2 : Nat) : Int)
       omega
     · show ((z.2 : Nat) : Int) ≤ 65536
       omega
     · show (0 : Int) ≤ ((z.2 + z.1.len : Nat) : Int)
       omega
     · show ((z.2 + z.1.len : Nat) : Int) ≤ 65536
       omega
   · simp only [List.mem_cons, List.not_mem_nil, or_false] at hy
     subst hy
     refine ⟨?_, ?_, ?_, ?_⟩
     · show (0 : Int) ≤ ((b.size : Nat) : Int)
       omega
     · show ((b.size : Nat) : Int) ≤ 65536
       omega
     · show (0 : Int) ≤ ((b.size : Nat) : Int)
       omega
     · show ((b.size : Nat) : Int) ≤ 65536
       omega
end Go.Proofs.YtbmfadmoficfiaaDoor.Lex
namespace Go.Proofs.YtbmfadmoficfiaaDoor.lexerJoins
open Go.ChangeShapes Go.WideShapes Go.ChangeAt Go.RowKit
open Go.ChangeMaps (open_string shut_string)
set_option linter.unusedVariables false
theorem laid_met (os : Os) : laidMet Tryd.prog Rows.lexerJoinsRow.laid (((Frame.laidWorld os)).forCall (fun _ _ => 0) ⟨#[], #[Value.string ByteArray.empty, .string ByteArray.empty], []⟩).memory :=
 laidMet_of_run' 10 (by kernel_rfl) (by kernel_rfl)
theorem reads (os : Os) {H : Type} (enc : TypeId × Value → H) : ∃ places, DataW.whole enc Tryd.prog ((Frame.laidWorld os).forCall (fun _ _ => 0) ⟨#[], #[Value.string ByteArray.empty, .string ByteArray.empty], []⟩).memory Tryd.f6.params.toList Rows.lexerJoinsSpec.vars false (#[Value.string ByteArray.empty, .string ByteArray.empty] : Array Value).toList 8 = some ([.lit (.string []), .lit (.string [])], [], places) :=
 ⟨[], by kernel_rfl⟩
set_option maxRecDepth 100000 in
theorem lifted (os : Os) (started : os.Started) (H : Type) (enc : TypeId × Value → H) (F : Stop.Interp) :
 ReturnsInHanded {} Tryd.checked os 6 .any ((OpenSpec.ofChange Rows.lexerJoinsSpec).preRow enc Tryd.prog Tryd.f6 Rows.lexerJoinsRow.domain false Rows.lexerJoinsRow.laid) (((OpenSpec.ofChange Rows.lexerJoinsSpec).at F).post enc Tryd.prog Tryd.f6 false true false false) := by
 obtain ⟨places, hx⟩ := reads os enc
 refine returnsInHanded_of_row (C := Tryd.checked) (s := (OpenSpec.ofChange Rows.lexerJoinsSpec)) Frame.own started (by kernel_rfl) Tryd.func6
  (witness_row_atRef (enc := enc) (C := Tryd.checked) false (Frame.laidWorld os) #[Value.string ByteArray.empty, .string ByteArray.empty] rfl (by kernel_rfl) (by kernel_rfl) (by kernel_rfl)
   (OpenSpec.preRow_of_cond 8 hx (by kernel_rfl) (fun k hk => by cases hk) (by kernel_rfl) (laid_met os))) ?_
 intro W base args ds gs before hval0 hW _ hcond hsz0 hL hS _
 have hsz : (DataW.weightsEach Tryd.prog (Tryd.f6.params.toList ++ Rows.lexerJoinsSpec.plain.varTypes Tryd.prog) (ds ++ gs)).all (· ≤ reachBytes) = true := hsz0
 have hval : ∀ (j : Nat) t v, Tryd.f6.params[j]? = some t → args[j]? = some v → Value.okWide Tryd.prog W .any base t v := hval0
 have hW' := hW
 obtain ⟨p, q, hA0, hV, rfl, hfz, hnd⟩ := hW
 have hA : DataW.TrodAll enc Tryd.prog W 0 (fun _ => true) true Tryd.f6.params.toList args.toList ds p := hA0
 rw [Tryd.params6] at hA hval hsz
 obtain ⟨v0, vs0, d0, ds0, p0, q0, hargs, rfl, rfl, h0, r0⟩ := trodAll_cons hA
 obtain ⟨v1, vs1, d1, ds1, p1, q1, rfl, rfl, rfl, h1, r1⟩ := trodAll_cons r0
 obtain ⟨rfl, rfl, rfl⟩ := trodAll_nil r1
 obtain rfl : args = #[v0, v1] := by cases args; simp_all
 obtain ⟨rfl, rfl⟩ := trodVars_none hV
 obtain ⟨a0, rfl, rfl, rfl, y0⟩ := open_string Tryd.underlying9 (hval 0 9 v0 rfl rfl) h0
 have w0 : a0.size ≤ 140737488351232 := by
  have z := sized_string hsz (j := 0) (t := 9) rfl rfl
  rw [Array.length_toList] at z
  exact z
 obtain ⟨a1, rfl, rfl, rfl, y1⟩ := open_string Tryd.underlying9 (hval 1 9 v1 rfl rfl) h1
 have w1 : a1.size ≤ 140737488351232 := by
  have z := sized_string hsz (j := 1) (t := 9) rfl rfl
  rw [Array.length_toList] at z
  exact z
 clear hA0 hval0 hsz0 hsz
 obtain ⟨k, hk⟩ := Lex.LexerJoins_pure a0 a1
 refine (Q.cruciblelaw07_LexerJoins.calls k a0 a1 true W (Frame.prem hL hS) hk).mono fun e W' ⟨he, bel⟩ => ?_
 subst he
 exact ⟨_, rfl, _, _, _, [], _, [], hW', trodAll_mk1 (shut_bool Tryd.underlying4 _), (trodAll_cons_mk (shut_string Tryd.underlying9 y0) (trodAll_cons_mk (shut_string Tryd.underlying9 y1) trodAll_mk0)), rfl, bel.frame _, fun h => by cases h⟩
theorem said : Rows.LexerJoinsSaid :=
 OpenClaim.holds_of_cond 6 Tryd.f6 rfl rfl rfl rfl rfl rfl rfl ⟨rfl, rfl, rfl, rfl, rfl⟩ rfl rfl rfl rfl rfl (by kernel_rfl) Tryd.func6 (by kernel_rfl)
  (of_decide_eq_true (by kernel_rfl)) (by unfold Func.isWrapper; first | (rw [if_pos (by decide +kernel)]; kernel_rfl) | (rw [if_neg (by decide +kernel)]; exact ⟨rfl, rfl⟩))
  (fun os started H enc _ F => by rw [OpenClaim.pre_eq_preRow]; exact lifted os started H enc F)
theorem plain (f : FuncId) (fn : Func) (hf : Tryd.pinned.checked.prog.funcNamed "crucible/cruciblelaw07.LexerJoins" = some f) (hfn : Tryd.pinned.checked.prog.funcs[f]? = some fn) :
 false = Tryd.pinned.checked.prog.looks [] ∧ ∀ (j : Nat) t, fn.params[j]? = some t → Tryd.pinned.checked.prog.wantsStandIn t = false := by
 obtain rfl : f = 6 := Option.some.inj ((show Tryd.prog.funcNamed "crucible/cruciblelaw07.LexerJoins" = some 6 by kernel_rfl).symm.trans hf) |>.symm
 obtain rfl : fn = Tryd.f6 := (Option.some.inj (Tryd.func6.symm.trans hfn)).symm
 refine ⟨by kernel_rfl, fun j t ht => ?_⟩
 rw [Tryd.params6] at ht
 have hm : t ∈ (#[9, 9] : Array TypeId) := Array.mem_of_getElem? ht
 obtain rfl : t = 9 := by simpa using hm
 exact (show Tryd.prog.wantsStandIn 9 = false by kernel_rfl)
theorem card : Rows.LexerJoinsCardSaid :=
 Claim7.holds_tied_plain_at .later [] _ _ _ _ said (fun _ h => by cases h) (by kernel_rfl) (fun _ h => by cases h) lexerJoins_row_tie rfl ⟨rfl, rfl⟩ (by kernel_rfl) rfl plain (by kernel_rfl)
end Go.Proofs.YtbmfadmoficfiaaDoor.lexerJoins
