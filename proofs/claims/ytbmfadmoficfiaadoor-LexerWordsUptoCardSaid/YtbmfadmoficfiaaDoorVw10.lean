/- Proved: for every text whose reading is of bulk at most 1048576, LexerWords returns true and the text reads as it did. Condition: that bound, as the given card states it. -/
import Derived.KernelRfl
import Derived.Lib.Fields
import Derived.Lib.IndexAny
import Derived.Lib.IndexBytes
import Derived.Lib.IndexMore
import Derived.Test.YtbmfadmoficfiaaDoorVw1
import Derived.Test.YtbmfadmoficfiaaDoorVw2
import Derived.Test.YtbmfadmoficfiaaDoorVw4
import Derived.Test.YtbmfadmoficfiaaDoorVw5
import Derived.Test.YtbmfadmoficfiaaDoorVw6
import Derived.Test.YtbmfadmoficfiaaDoorVw7
import Derived.Test.YtbmfadmoficfiaaDoorVw8
import Derived.Test.YtbmfadmoficfiaaDoorVw9
namespace Go.Proofs.YtbmfadmoficfiaaDoor.Lex
open Go.RowKit Go.Proofs.YtbmfadmoficfiaaDoorW.PrintWords
set_option linter.unusedVariables false
abbrev Bs := List UInt8
def dig (c : UInt8) : Bool := decide (48 ≤ c.toNat) && decide (c.toNat ≤ 57)
def let_ (c : UInt8) : Bool := (decide (97 ≤ c.toNat) && decide (c.toNat ≤ 122)) || (decide (65 ≤ c.toNat) && decide (c.toNat ≤ 90)) || decide (c.toNat = 95)
def wi (c : UInt8) : Bool := dig c || let_ c
def hexv (c : UInt8) : Nat :=
 if 48 ≤ c.toNat ∧ c.toNat ≤ 57 then c.toNat - 48
 else if 97 ≤ c.toNat ∧ c.toNat ≤ 102 then c.toNat - 97 + 10
 else if 65 ≤ c.toNat ∧ c.toNat ≤ 70 then c.toNat - 65 + 10
 else 99
def blank (c : UInt8) : Bool := c == 32 || c == 9 || c == 10 || c == 13
def Z57 : Bs → Nat
 | [] => 0
 | c :: r => if c = 10 then 0 else Z57 r + 1
def comEnd : Bs → Option Nat
 | [] => none
 | c :: r => if List.isPrefixOf [42, 47] (c :: r) = true then some 2 else (comEnd r).map (· + 1)
def gap (l : Bs) : Nat × Bool :=
 match l with
 | [] => (0, true)
 | c :: r =>
  if blank c = true then ((gap r).1 + 1, (gap r).2)
  else if c = 47 then
   match r with
   | [] => (0, true)
   | d :: q =>
    if d = 47 then ((gap (q.drop (Z57 q))).1 + (Z57 q + 2), (gap (q.drop (Z57 q))).2)
    else if d = 42 then
     match comEnd q with
     | none => (0, false)
     | some m => ((gap (q.drop m)).1 + (m + 2), (gap (q.drop m)).2)
    else (0, true)
  else (0, true)
termination_by l.length
decreasing_by all_goals simp_wf; (try omega)
structure Tk where
 kind : Nat
 text : Bs
 num : Nat
 uns : Bool
 len : Nat
def numVal (base : Nat) (ds : Bs) : Nat := ds.foldl (fun v c => v * base + hexv c) 0
def isHex : Bs → Bool
 | c :: d :: _ => c == 48 && (d == 120 || d == 88)
 | _ => false
def isU : Bs → Bool
 | c :: _ => c == 117 || c == 85
 | [] => false
def headWi : Bs → Bool
 | c :: _ => wi c
 | [] => false
def numTok (s : Bs) : Option Tk :=
 let pre := if isHex s then 2 else 0
 let base := if isHex s then 16 else 10
 let ds := (s.drop pre).takeWhile fun c => decide (hexv c < base)
 let v := numVal base ds
 let e := pre + ds.length
 let u := isU (s.drop e)
 let e' := if u then e + 1 else e
 if ds = [] ∨ 4294967296 ≤ v ∨ (isHex s = false ∧ 1 < ds.length ∧ ds.head? = some 48) ∨ headWi (s.drop e') = true then none
 else some ⟨5, [], v, u || decide (2147483648 ≤ v), e'⟩
def esc (d : UInt8) : Option UInt8 :=
 if d = 110 then some 10 else if d = 116 then some 9 else if d = 114 then some 13 else if d = 48 then some 0
 else if d = 92 then some 92 else if d = 39 then some 39 else if d = 34 then some 34 else none
def unit (mark : UInt8) : Bs → Option (UInt8 × Nat)
 | [] => none
 | c :: r =>
  if c.toNat < 32 ∨ 126 < c.toNat ∨ c = mark then none
  else if c ≠ 92 then some (c, 1)
  else match r with
   | [] => none
   | d :: q =>
    match esc d with
    | some x => some (x, 2)
    | none =>
     if d = 120 then
      match q with
      | a :: b :: _ => if hexv a < 16 ∧ hexv b < 16 then some (UInt8.ofNat (hexv a * 16 + hexv b), 4) else none
      | _ => none
     else none
theorem unit_le (mark : UInt8) (s : Bs) (b : UInt8) (n : Nat) (h : unit mark s = some (b, n)) : 1 ≤ n ∧ n ≤ s.length := by
 unfold unit at h
 split at h
 · cases h
 · split at h
   · cases h
   · split at h
     · cases h
       simp
     · split at h
       · cases h
       · split at h
         · cases h
           simp
         · split at h
           · split at h
             · split at h
               · cases h
                 simp
               · cases h
             · cases h
           · cases h
def units (mark : UInt8) (s : Bs) : Option (Bs × Nat) :=
 match s with
 | [] => none
 | c :: r =>
  if c = mark then some ([], 0)
  else match h : unit mark (c :: r) with
   | none => none
   | some (b, n) => (units mark ((c :: r).drop n)).map fun t => (b :: t.1, n + t.2)
termination_by s.length
decreasing_by
 have := unit_le mark (c :: r) b n h
 simp_wf
 simp at this
 omega
def quotTok : Bs → Option Tk
 | [] => none
 | c :: r =>
  match units c r with
  | none => none
  | some (t, n) => if c = 34 then some ⟨7, t, 0, false, n + 2⟩ else if t.length = 1 then some ⟨6, [], (t.headD 0).toNat, false, n + 2⟩ else none
def wordsText : Bs := [32, 98, 114, 101, 97, 107, 32, 99, 104, 97, 114, 32, 99, 111, 110, 116, 105, 110, 117, 101, 32, 100, 111, 32, 101, 108, 115, 101, 32, 102, 111, 114, 32, 103, 101, 116, 98, 121, 116, 101, 32, 105, 102, 32, 105, 110, 116, 32, 112, 117, 116, 98, 121, 116, 101, 32, 114, 101, 116, 117, 114, 110, 32, 115, 105, 122, 101, 111, 102, 32, 115, 116, 114, 117, 99, 116, 32, 117, 105, 110, 116, 32, 118, 111, 105, 100, 32, 119, 104, 105, 108, 101, 32]
def named : Bs → Bool
 | [] => false
 | c :: r => !dig c && (c :: r).all wi
def Z85 (s : Bs) : Bool := named s && Lib.contains wordsText ([32] ++ s ++ [32])
def Z76 (s : Bs) : Tk :=
 let w := s.takeWhile wi
 ⟨if Z85 w then 3 else 2, w, 0, false, w.length⟩
def marks : List Bs := [[60, 60, 61], [62, 62, 61], [45, 62], [43, 61], [45, 61], [42, 61], [47, 61], [37, 61], [38, 61], [124, 61], [94, 61], [61, 61], [33, 61], [60, 61], [62, 61], [60, 60], [62, 62], [38, 38], [124, 124], [40], [41], [123], [125], [91], [93], [59], [44], [46], [61], [60], [62], [43], [45], [42], [47], [37], [38], [124], [94], [126], [33], [63], [58]]
def markTok (s : Bs) : Option Tk := (marks.find? fun m => m.isPrefixOf s).map fun m => ⟨4, m, 0, false, m.length⟩
def tok (s : Bs) : Option Tk :=
 match s with
 | [] => none
 | c :: _ => if dig c then numTok s else if wi c then some (Z76 s) else if c = 34 ∨ c = 39 then quotTok s else markTok s
inductive Ans where
 | fin (at_ : Nat)
 | bad (at_ : Nat)
 | tk (t : Tk) (pos : Nat)
def next (l : Bs) (i : Nat) : Ans :=
 let g := gap (l.drop i)
 if g.2 = false then .bad (i + g.1)
 else if l.length ≤ i + g.1 then .fin (i + g.1)
 else match tok (l.drop (i + g.1)) with
  | none => .bad (i + g.1)
  | some t => .tk t (i + g.1)
end Go.Proofs.YtbmfadmoficfiaaDoor.Lex
namespace Go.Proofs.YtbmfadmoficfiaaDoor.Lex
open Go.RowKit Go.Proofs.YtbmfadmoficfiaaDoorW.PrintWords Go.Proofs.YtbmfadmoficfiaaDoor.Q
set_option linter.unusedVariables false
section
variable {α β : Type} {r : α}
theorem ev_pos {c : Prop} [Decidable c] {f g : Nat → Option α} (h : c) (k : Ev f r) : Ev (fun n => if c then f n else g n) r := Ev.congr (fun n => if_pos h) k
theorem ev_neg {c : Prop} [Decidable c] {f g : Nat → Option α} (h : ¬ c) (k : Ev g r) : Ev (fun n => if c then f n else g n) r := Ev.congr (fun n => if_neg h) k
theorem Z65 {g : Option β} {b : β} {F : Nat → β → Option α} (h : g = some b) (k : Ev (fun n => F n b) r) : Ev (fun n => g.bind (F n)) r := by
 subst h
 exact k
end
theorem w1 (i : Nat) (h : i ≤ 4611686018427387904) : wrap64 ((i : Int) + 1) = ((i + 1 : Nat) : Int) := by unfold wrap64; omega
theorem w2 (i : Nat) (h : i ≤ 4611686018427387904) : wrap64 ((i : Int) + 2) = ((i + 2 : Nat) : Int) := by unfold wrap64; omega
theorem w3 (i : Nat) (h : i ≤ 4611686018427387904) : wrap64 ((i : Int) + 3) = ((i + 3 : Nat) : Int) := by unfold wrap64; omega
theorem w4 (i : Nat) (h : i ≤ 4611686018427387904) : wrap64 ((i : Int) + 4) = ((i + 4 : Nat) : Int) := by unfold wrap64; omega
def suf (s : ByteArray) (i : Nat) : Bs := s.data.toList.drop i
theorem Z78 (s : ByteArray) (i : Nat) : (suf s i).length = s.size - i := by unfold suf; rw [List.length_drop, ← Lib.size_eq]
theorem Z68 (s : ByteArray) (i : Nat) (h : s.size ≤ i) : suf s i = [] := by
 apply List.eq_nil_of_length_eq_zero
 rw [Z78]
 omega
theorem suf_at (s : ByteArray) (i : Nat) (h : i < s.size) : ∃ c, suf s i = c :: suf s (i + 1) ∧ bt s (i : Int) = (c.toNat : Int) := by
 have h1 := Lib.data_getElem? s i h
 have h2 : i < s.data.toList.length := by rw [← Lib.size_eq]; exact h
 refine ⟨s[i], ?_, ?_⟩
 · unfold suf
   rw [List.drop_eq_getElem_cons h2]
   rw [List.getElem?_eq_getElem h2] at h1
   rw [Option.some.inj h1]
 · unfold bt
   rw [dif_pos (by simpa using h)]
   rfl
theorem Z86 (s : ByteArray) (i k : Nat) : (suf s i).drop k = suf s (i + k) := by unfold suf; rw [List.drop_drop]
theorem Z87 (c : UInt8) : Ev (fun k => Z13.f k (c.toNat : Int)) (hexv c : Int) := by
 have hc := c.toNat_lt
 unfold hexv
 by_cases h1 : 48 ≤ c.toNat ∧ c.toNat ≤ 57
 · rw [if_pos h1]
   refine ev_pos (by omega) (Ev.step (fun k => by rw [Z13.j0]) (ev_pos (by simp; omega) ?_))
   have : ((c.toNat : Int) - 48) % 256 = ((c.toNat - 48 : Nat) : Int) := by omega
   rw [this]
   exact Ev.now _
 · rw [if_neg h1]
   have key : Ev (fun k => Z13.j0 k (c.toNat : Int) false) ((if 97 ≤ c.toNat ∧ c.toNat ≤ 102 then c.toNat - 97 + 10 else if 65 ≤ c.toNat ∧ c.toNat ≤ 70 then c.toNat - 65 + 10 else 99 : Nat) : Int) := by
    refine Ev.step (fun k => by rw [Z13.j0]) (ev_neg (by simp) ?_)
    have low : ¬ (97 ≤ c.toNat ∧ c.toNat ≤ 102) → Ev (fun k => Z13.j1 k (c.toNat : Int) false) ((if 97 ≤ c.toNat ∧ c.toNat ≤ 102 then c.toNat - 97 + 10 else if 65 ≤ c.toNat ∧ c.toNat ≤ 70 then c.toNat - 65 + 10 else 99 : Nat) : Int) := by
     intro h2
     rw [if_neg h2]
     refine Ev.step (fun k => by rw [Z13.j1]) (ev_neg (by simp) ?_)
     by_cases h3 : 65 ≤ c.toNat
     · refine ev_pos (by omega) ?_
       by_cases h4 : c.toNat ≤ 70
       · refine ev_pos (by omega) ?_
         rw [if_pos ⟨h3, h4⟩]
         have : ((c.toNat : Int) - 65) % 256 + 10 = ((c.toNat - 65 + 10 : Nat) : Int) := by omega
         rw [this]
         exact Ev.now _
       · refine ev_neg (by omega) ?_
         rw [if_neg (by omega)]
         exact Ev.now _
     · refine ev_neg (by omega) ?_
       rw [if_neg (by omega)]
       exact Ev.now _
    by_cases h2 : 97 ≤ c.toNat
    · refine ev_pos (by omega) ?_
      by_cases h3 : c.toNat ≤ 102
      · rw [decide_eq_true (by omega), if_pos ⟨h2, h3⟩]
        refine Ev.step (fun k => by rw [Z13.j1]) (ev_pos rfl ?_)
        have : ((c.toNat : Int) - 97) % 256 + 10 = ((c.toNat - 97 + 10 : Nat) : Int) := by omega
        rw [this]
        exact Ev.now _
      · rw [decide_eq_false (by omega)]
        exact low (by omega)
    · refine ev_neg (by omega) ?_
      exact low (by omega)
   by_cases h2 : 48 ≤ c.toNat
   · refine ev_pos (by omega) ?_
     rw [decide_eq_false (by omega)]
     exact key
   · refine ev_neg (by omega) ?_
     exact key
theorem hexv_lt10 (c : UInt8) : hexv c < 10 ↔ dig c = true := by
 unfold hexv dig
 simp only [Bool.and_eq_true, decide_eq_true_eq]
 split
 · omega
 · split
   · omega
   · split <;> omega
theorem wi_some (c : UInt8) : Z37.f (c.toNat : Int) = some (wi c) := by
 have hc := c.toNat_lt
 have e : ((c.toNat : Int) == 95) = decide (c.toNat = 95) := by
  by_cases h : c.toNat = 95
  · simp [h]
  · rw [decide_eq_false h]
    simp
    omega
 unfold Z37.f wi dig let_
 rw [e]
 repeat' split
 all_goals refine congrArg some ?_
 all_goals rw [Bool.eq_iff_iff]
 all_goals simp only [Bool.or_eq_true, Bool.and_eq_true, decide_eq_true_eq, true_iff]
 all_goals omega
theorem let_some (c : UInt8) : Z35.f (c.toNat : Int) = some (let_ c) := by
 have hc := c.toNat_lt
 have e : ((c.toNat : Int) == 95) = decide (c.toNat = 95) := by
  by_cases h : c.toNat = 95
  · simp [h]
  · rw [decide_eq_false h]
    simp
    omega
 unfold Z35.f let_
 rw [e]
 repeat' split
 all_goals refine congrArg some ?_
 all_goals rw [Bool.eq_iff_iff]
 all_goals simp only [Bool.or_eq_true, Bool.and_eq_true, decide_eq_true_eq, true_iff]
 all_goals omega
theorem dig_ref (c : UInt8) : Z33.f (c.toNat : Int) = some (dig c) := by
 unfold Z33.f dig
 split
 all_goals refine congrArg some ?_
 all_goals rw [Bool.eq_iff_iff]
 all_goals simp only [Bool.and_eq_true, decide_eq_true_eq, Bool.false_eq_true, false_iff]
 all_goals omega
theorem nat8 (c : UInt8) : ((c.toNat : Int)).toNat.toUInt8 = c := by
 rw [Int.toNat_natCast]
 simp
end Go.Proofs.YtbmfadmoficfiaaDoor.Lex
namespace Go.Proofs.YtbmfadmoficfiaaDoor.Lex
open Go.RowKit Go.Proofs.YtbmfadmoficfiaaDoorW.PrintWords Go.Proofs.YtbmfadmoficfiaaDoor.Q
set_option linter.unusedVariables false
abbrev Sm (s : ByteArray) : Prop := s.size ≤ 1152921504606846976
theorem prefix_short (a t : Bs) (h : a.length < t.length) : t.isPrefixOf a = false := by
 rw [Bool.eq_false_iff]
 intro e
 have := (List.isPrefixOf_iff_prefix.1 e).length_le
 omega
theorem let_wi (c : UInt8) : let_ c = (wi c && !dig c) := by
 unfold wi let_ dig
 rw [Bool.eq_iff_iff]
 simp only [Bool.or_eq_true, Bool.and_eq_true, decide_eq_true_eq, Bool.not_eq_true', Bool.and_eq_false_iff, decide_eq_false_iff_not]
 omega
theorem named_all (s : ByteArray) (hs : Sm s) (d : Nat) : ∀ i : Nat, i ≤ s.size → s.size - i = d → Ev (fun k => Z30.l0 k s (s.size : Int) (i : Int)) ((suf s i).all wi) := by
 unfold Sm at hs
 induction d with
 | zero =>
  intro i hi hd
  refine Ev.step (fun k => by rw [Z30.l0]) (ev_neg (by omega) ?_)
  rw [Z68 s i (by omega)]
  exact Ev.now _
 | succ d ih =>
  intro i hi hd
  obtain ⟨c, hc, hb⟩ := suf_at s i (by omega)
  refine Ev.step (fun k => by rw [Z30.l0]) (ev_pos (by omega) (ev_pos (by omega) (ev_pos (by omega) ?_)))
  rw [hb]
  refine Z65 (wi_some c) ?_
  rw [hc, List.all_cons]
  cases hw : wi c with
  | true =>
   refine ev_pos rfl ?_
   rw [w1 i (by omega), Bool.true_and]
   exact ih (i + 1) (by omega) (by omega)
  | false => exact ev_neg (by decide) (Ev.now _)
theorem nil_iff (s : ByteArray) : s.toList = [] ↔ s.size = 0 := by
 rw [Lib.toList_data, Lib.size_eq]
 exact List.eq_nil_iff_length_eq_zero
theorem suf0 (s : ByteArray) : suf s 0 = s.data.toList := rfl
theorem lex_named (s : ByteArray) (hs : Sm s) : Ev (fun k => Z30.f k s) (named s.data.toList) := by
 unfold Z30.f
 by_cases h0 : s.size = 0
 · refine ev_pos ((nil_iff s).2 h0) (Ev.step (fun k => by rw [Z30.j0]) (ev_pos rfl ?_))
   rw [← suf0, Z68 s 0 (by omega)]
   exact Ev.now _
 · refine ev_neg (fun h => h0 ((nil_iff s).1 h)) (ev_pos (by omega) ?_)
   obtain ⟨c, hc, hb⟩ := suf_at s 0 (by omega)
   rw [show (bt s 0) = (c.toNat : Int) from hb]
   refine Ev.bind (Z87 c) ?_
   rw [← suf0, hc]
   have hn : named (c :: suf s (0 + 1)) = (!dig c && (suf s 0).all wi) := by rw [hc]; rfl
   rw [hn]
   refine Ev.step (fun k => by rw [Z30.j0]) ?_
   have hd := hexv_lt10 c
   cases hg : dig c with
   | true =>
    have h1 := hd.2 hg
    exact ev_pos (by simp; omega) (Ev.now _)
   | false =>
    have h1 : ¬ hexv c < 10 := fun h => by rw [hd.1 h] at hg; cases hg
    refine ev_neg (by simp; omega) ?_
    exact named_all s hs s.size 0 (by omega) rfl
theorem ref_named_from (s : ByteArray) (hs : Sm s) (d : Nat) : ∀ i : Nat, 1 ≤ i → i ≤ s.size → s.size - i = d → Ev (fun k => Z21.l0 k s (i : Int)) ((suf s i).all wi) := by
 unfold Sm at hs
 induction d with
 | zero =>
  intro i h1 hi hd
  refine Ev.step (fun k => by rw [Z21.l0]) (ev_neg (by omega) ?_)
  rw [Z68 s i (by omega)]
  have : (s.toList != ([] : List UInt8)) = true := by
   rw [bne_iff_ne]
   exact fun h => by have := (nil_iff s).1 h; omega
  rw [this]
  exact Ev.now _
 | succ d ih =>
  intro i h1 hi hd
  obtain ⟨c, hc, hb⟩ := suf_at s i (by omega)
  refine Ev.step (fun k => by rw [Z21.l0]) (ev_pos (by omega) (ev_pos (by omega) ?_))
  rw [hb]
  refine Z65 (let_some c) ?_
  rw [hc, List.all_cons]
  have next := ih (i + 1) (by omega) (by omega) (by omega)
  cases hl : let_ c with
  | true =>
   refine ev_pos rfl ?_
   have hw : wi c = true := by unfold wi; rw [hl, Bool.or_true]
   rw [w1 i (by omega), hw, Bool.true_and]
   exact next
  | false =>
   refine ev_neg (by decide) (ev_neg (by omega) (Z65 (dig_ref c) ?_))
   cases hg : dig c with
   | true =>
    refine ev_pos rfl ?_
    have hw : wi c = true := by unfold wi; rw [hg, Bool.true_or]
    rw [w1 i (by omega), hw, Bool.true_and]
    exact next
   | false =>
    have hw : wi c = false := by unfold wi; rw [hg, hl]; rfl
    rw [hw]
    exact ev_neg (by decide) (Ev.now _)
theorem ref_named (s : ByteArray) (hs : Sm s) : Ev (fun k => Z21.f k s) (named s.data.toList) := by
 unfold Z21.f
 rw [← suf0]
 by_cases h0 : s.size = 0
 · refine Ev.step (fun k => by rw [Z21.l0]) (ev_neg (by omega) ?_)
   rw [Z68 s 0 (by omega)]
   have : (s.toList != ([] : List UInt8)) = false := by
    rw [(nil_iff s).2 h0]
    rfl
   rw [this]
   exact Ev.now _
 · obtain ⟨c, hc, hb⟩ := suf_at s 0 (by omega)
   refine Ev.step (fun k => by rw [Z21.l0]) (ev_pos (by omega) (ev_pos (by omega) ?_))
   rw [show (bt s 0) = (c.toNat : Int) from hb]
   refine Z65 (let_some c) ?_
   rw [hc]
   have hn : named (c :: suf s (0 + 1)) = (let_ c && (suf s 1).all wi) := by
    show (!dig c && List.all (c :: suf s (0 + 1)) wi) = _
    rw [let_wi, List.all_cons, Nat.zero_add]
    cases dig c <;> cases wi c <;> rfl
   rw [hn]
   cases hl : let_ c with
   | true =>
    refine ev_pos rfl ?_
    rw [Bool.true_and, show wrap64 (0 + 1) = ((1 : Nat) : Int) from w1 0 (by omega)]
    exact ref_named_from s hs (s.size - 1) 1 (by omega) (by omega) rfl
   | false => exact ev_neg (by decide) (ev_pos rfl (Ev.now _))
theorem bytes_app (a b : ByteArray) : (a ++ b).data.toList = a.data.toList ++ b.data.toList := by
 rw [ByteArray.data_append, Array.toList_append]
def anyp (pat : Bs) : Bs → Bool
 | [] => pat.isEmpty
 | b :: l => pat.isPrefixOf (b :: l) || anyp pat l
theorem contains_anyp (pat : Bs) : ∀ l : Bs, Lib.contains l pat = anyp pat l
 | [] => by
  unfold Lib.contains Lib.index anyp
  cases pat <;> rfl
 | b :: l => by
  have h := contains_anyp pat l
  have hg := Lib.index_ge l pat
  unfold Lib.contains at h ⊢
  unfold Lib.index anyp
  cases hp : pat.isPrefixOf (b :: l) with
  | true => rfl
  | false =>
   rw [if_neg (by decide), Bool.false_or, ← h]
   by_cases h1 : Lib.index l pat = -1
   · rw [h1]
     rfl
   · have h3 : (Lib.index l pat == -1) = false := by rw [beq_eq_false_iff_ne]; exact h1
     rw [h3, if_neg (by decide)]
     rw [Bool.eq_iff_iff, decide_eq_true_iff, decide_eq_true_iff]
     omega
theorem anyp_short (pat : Bs) : ∀ l : Bs, l.length < pat.length → anyp pat l = false
 | [], h => by
  cases pat with
  | nil => simp at h
  | cons _ _ => rfl
 | b :: l, h => by
  unfold anyp
  rw [prefix_short _ _ h, anyp_short pat l (by simp only [List.length_cons] at h; omega)]
  rfl
theorem lex_reserved (s : ByteArray) (hs : Sm s) : Ev (fun k => Z42.f k s) (Z85 s.data.toList) := by
 unfold Z42.f Z85
 refine Ev.bind (lex_named s hs) ?_
 unfold Sm at hs
 cases hn : named s.data.toList with
 | true =>
  have h1 : ((⟨#[32]⟩ : ByteArray) ++ s).size = 1 + s.size := by rw [ByteArray.size_append]; rfl
  refine ev_pos rfl (ev_pos (by omega) (ev_pos (by omega) ?_))
  refine Z65 (show strings_Contains.f _ _ = some (Lib.contains wordsText ([32] ++ s.data.toList ++ [32])) by
   unfold strings_Contains.f
   rw [if_pos (by decide), bytes_app, bytes_app]
   rfl) ?_
  exact Ev.now _
 | false => exact ev_neg (by decide) (Ev.now _)
def wordsB : ByteArray := ⟨#[32, 98, 114, 101, 97, 107, 32, 99, 104, 97, 114, 32, 99, 111, 110, 116, 105, 110, 117, 101, 32, 100, 111, 32, 101, 108, 115, 101, 32, 102, 111, 114, 32, 103, 101, 116, 98, 121, 116, 101, 32, 105, 102, 32, 105, 110, 116, 32, 112, 117, 116, 98, 121, 116, 101, 32, 114, 101, 116, 117, 114, 110, 32, 115, 105, 122, 101, 111, 102, 32, 115, 116, 114, 117, 99, 116, 32, 117, 105, 110, 116, 32, 118, 111, 105, 100, 32, 119, 104, 105, 108, 101, 32]⟩
theorem wordsB_size : wordsB.size = 93 := rfl
theorem wordsB_list : wordsB.data.toList = wordsText := rfl
theorem split_prefix (s : Bs) (c : UInt8) (t : Bs) : ([32] ++ s ++ [32]).isPrefixOf (c :: t) = true ↔ c = 32 ∧ t.take s.length = s ∧ (t.drop s.length).head? = some 32 := by
 rw [List.isPrefixOf_iff_prefix]
 constructor
 · rintro ⟨u, hu⟩
   simp only [List.cons_append, List.nil_append, List.append_assoc, List.cons.injEq] at hu
   obtain ⟨h1, h2⟩ := hu
   subst h2
   exact ⟨h1.symm, by simp, by simp⟩
 · rintro ⟨h1, h2, h3⟩
   subst h1
   cases hd : t.drop s.length with
   | nil => rw [hd] at h3; simp at h3
   | cons x u =>
    rw [hd] at h3
    simp only [List.head?_cons, Option.some.injEq] at h3
    subst h3
    refine ⟨u, ?_⟩
    have := List.take_append_drop s.length t
    rw [h2, hd] at this
    simp [← this]
theorem ref_reserved_from (s : ByteArray) (hs : Sm s) (d : Nat) : ∀ i : Nat, i ≤ 93 → 93 - i = d → Ev (fun k => Z18.l0 k s (i : Int)) (anyp ([32] ++ s.data.toList ++ [32]) (suf wordsB i)) := by
 unfold Sm at hs
 have hp : ([32] ++ s.data.toList ++ [32] : Bs).length = s.size + 2 := by
  rw [List.length_append, List.length_append, ← Lib.size_eq]
  simp only [List.length_cons, List.length_nil]
  omega
 have hl (i : Nat) : (suf wordsB i).length = 93 - i := by rw [Z78, wordsB_size]
 induction d with
 | zero =>
  intro i hi hd
  have e1 : wrap64 (wrap64 ((i : Int) + (s.size : Int)) + 2) = ((i + s.size + 2 : Nat) : Int) := by unfold wrap64; omega
  refine Ev.step (fun k => by rw [Z18.l0]) (ev_neg (by rw [e1]; omega) ?_)
  rw [anyp_short _ _ (by rw [hl, hp]; omega)]
  exact Ev.now _
 | succ d ih =>
  intro i hi hd
  have e1 : wrap64 (wrap64 ((i : Int) + (s.size : Int)) + 2) = ((i + s.size + 2 : Nat) : Int) := by unfold wrap64; omega
  refine Ev.step (fun k => by rw [Z18.l0]) ?_
  by_cases hr : i + s.size + 2 ≤ 93
  · obtain ⟨c, hc, hb⟩ := suf_at wordsB i (by rw [wordsB_size]; omega)
    have e2 : wrap64 (wrap64 ((i : Int) + 1) + (s.size : Int)) = ((i + 1 + s.size : Nat) : Int) := by unfold wrap64; omega
    have next := ih (i + 1) (by omega) (by omega)
    have hsp := split_prefix s.data.toList c (suf wordsB (i + 1))
    refine ev_pos (by rw [e1]; omega) (ev_pos (by omega) (ev_pos (by omega) ?_))
    rw [show bt (⟨#[32, 98, 114, 101, 97, 107, 32, 99, 104, 97, 114, 32, 99, 111, 110, 116, 105, 110, 117, 101, 32, 100, 111, 32, 101, 108, 115, 101, 32, 102, 111, 114, 32, 103, 101, 116, 98, 121, 116, 101, 32, 105, 102, 32, 105, 110, 116, 32, 112, 117, 116, 98, 121, 116, 101, 32, 114, 101, 116, 117, 114, 110, 32, 115, 105, 122, 101, 111, 102, 32, 115, 116, 114, 117, 99, 116, 32, 117, 105, 110, 116, 32, 118, 111, 105, 100, 32, 119, 104, 105, 108, 101, 32]⟩ : ByteArray) (i : Int) = (c.toNat : Int) from hb]
    rw [hc]
    unfold anyp
    by_cases h32 : c = 32
    · refine ev_pos (by rw [h32]; rfl) ?_
      rw [e2, w1 i (by omega)]
      refine ev_pos (by omega) (ev_pos (by omega) (ev_pos (by omega) ?_))
      have hx : ((wordsB.extract (((i + 1 : Nat) : Int)).toNat (((i + 1 + s.size : Nat) : Int)).toNat).toList = s.toList) ↔ (suf wordsB (i + 1)).take s.data.toList.length = s.data.toList := by
       rw [Lib.toList_data, Lib.toList_data, Lib.extract_data, Int.toNat_natCast, Int.toNat_natCast, ← Lib.size_eq, Nat.add_sub_cancel_left]
       rfl
      by_cases heq : (suf wordsB (i + 1)).take s.data.toList.length = s.data.toList
      · refine ev_pos (hx.2 heq) (ev_pos (by omega) (ev_pos (by omega) ?_))
        obtain ⟨c2, hc2, hb2⟩ := suf_at wordsB (i + 1 + s.size) (by rw [wordsB_size]; omega)
        rw [show bt (⟨#[32, 98, 114, 101, 97, 107, 32, 99, 104, 97, 114, 32, 99, 111, 110, 116, 105, 110, 117, 101, 32, 100, 111, 32, 101, 108, 115, 101, 32, 102, 111, 114, 32, 103, 101, 116, 98, 121, 116, 101, 32, 105, 102, 32, 105, 110, 116, 32, 112, 117, 116, 98, 121, 116, 101, 32, 114, 101, 116, 117, 114, 110, 32, 115, 105, 122, 101, 111, 102, 32, 115, 116, 114, 117, 99, 116, 32, 117, 105, 110, 116, 32, 118, 111, 105, 100, 32, 119, 104, 105, 108, 101, 32]⟩ : ByteArray) ((i + 1 + s.size : Nat) : Int) = (c2.toNat : Int) from hb2]
        have hd2 : (suf wordsB (i + 1)).drop s.data.toList.length = c2 :: suf wordsB (i + 1 + s.size + 1) := by rw [← Lib.size_eq, Z86, hc2]
        by_cases h2 : c2 = 32
        · refine ev_pos (by rw [h2]; rfl) ?_
          rw [hsp.2 ⟨h32, heq, by rw [hd2, h2]; rfl⟩, Bool.true_or]
          exact Ev.now _
        · refine ev_neg (fun e => h2 (UInt8.toNat_inj.1 (by have : (32 : UInt8).toNat = 32 := rfl; omega))) ?_
          have : ([32] ++ s.data.toList ++ [32] : Bs).isPrefixOf (c :: suf wordsB (i + 1)) = false := by
           rw [Bool.eq_false_iff]
           intro h
           have h3 := (hsp.1 h).2.2
           rw [hd2] at h3
           simp only [List.head?_cons, Option.some.injEq] at h3
           exact h2 h3
          rw [this, Bool.false_or]
          exact next
      · refine ev_neg (fun h => heq (hx.1 h)) ?_
        have : ([32] ++ s.data.toList ++ [32] : Bs).isPrefixOf (c :: suf wordsB (i + 1)) = false := by
         rw [Bool.eq_false_iff]
         exact fun h => heq (hsp.1 h).2.1
        rw [this, Bool.false_or]
        exact next
    · refine ev_neg (fun e => h32 (UInt8.toNat_inj.1 (by have : (32 : UInt8).toNat = 32 := rfl; omega))) ?_
      have : ([32] ++ s.data.toList ++ [32] : Bs).isPrefixOf (c :: suf wordsB (i + 1)) = false := by
       rw [Bool.eq_false_iff]
       exact fun h => h32 (hsp.1 h).1
      rw [this, Bool.false_or, w1 i (by omega)]
      exact next
  · refine ev_neg (by rw [e1]; omega) ?_
    rw [anyp_short _ _ (by rw [hl, hp]; omega)]
    exact Ev.now _
theorem ref_reserved (s : ByteArray) (hs : Sm s) : Ev (fun k => Z18.f k s) (Z85 s.data.toList) := by
 unfold Z18.f Z85
 refine Ev.bind (ref_named s hs) ?_
 cases hn : named s.data.toList with
 | true =>
  refine ev_pos rfl ?_
  rw [Bool.true_and, contains_anyp, ← wordsB_list]
  exact ref_reserved_from s hs 93 0 (by omega) rfl
 | false => exact ev_neg (by decide) (Ev.now _)
end Go.Proofs.YtbmfadmoficfiaaDoor.Lex
namespace Go.Proofs.YtbmfadmoficfiaaDoor.Lex
open Go.RowKit Go.Proofs.YtbmfadmoficfiaaDoorW.PrintWords Go.Proofs.YtbmfadmoficfiaaDoor.Q
set_option linter.unusedVariables false
abbrev TR := Int × ByteArray × Int × Bool × Int × Int × Bool
def Fits (o : Option Tk) (pos : Nat) (t : TR) : Prop :=
 match o with
 | none => t.2.2.2.2.2.2 = false
 | some x => t = ((x.kind : Int), ⟨x.text.toArray⟩, (x.num : Int), x.uns, (pos : Int), ((pos + x.len : Nat) : Int), true)
def EvF (g : Nat → Option TR) (o : Option Tk) (pos : Nat) : Prop := ∃ t, Ev g t ∧ Fits o pos t
theorem EvF.step {g f : Nat → Option TR} {o : Option Tk} {pos : Nat} (h : ∀ k, g (k + 1) = f k) (k : EvF f o pos) : EvF g o pos := by
 obtain ⟨t, h1, h2⟩ := k
 exact ⟨t, Ev.step h h1, h2⟩
theorem EvF.pos {c : Prop} [Decidable c] {f g : Nat → Option TR} {o : Option Tk} {p : Nat} (h : c) (k : EvF f o p) : EvF (fun n => if c then f n else g n) o p := by
 obtain ⟨t, h1, h2⟩ := k
 exact ⟨t, ev_pos h h1, h2⟩
theorem EvF.bind {β : Type} {g : Nat → Option β} {f : Nat → β → Option TR} {a : β} {o : Option Tk} {p : Nat} (h : Ev g a) (k : EvF (fun n => f n a) o p) : EvF (fun n => (g n).bind (f n)) o p := by
 obtain ⟨t, h1, h2⟩ := k
 exact ⟨t, Ev.bind h h1, h2⟩
theorem EvF.bad {t : TR} {o : Option Tk} {p : Nat} (ho : o = none) (h : t.2.2.2.2.2.2 = false) : EvF (fun _ => some t) o p := by
 subst ho
 exact ⟨t, Ev.now t, h⟩
theorem EvF.now {t : TR} {o : Option Tk} {p : Nat} (h : Fits o p t) : EvF (fun _ => some t) o p := ⟨t, Ev.now t, h⟩
theorem Z59 {c : UInt8} (n : Nat) (h : n < 256) : ((c.toNat : Int) = (n : Int)) ↔ c = UInt8.ofNat n := by
 rw [← UInt8.toNat_inj, UInt8.toNat_ofNat_of_lt' (by simpa using h)]
 omega
end Go.Proofs.YtbmfadmoficfiaaDoor.Lex
namespace Go.Proofs.YtbmfadmoficfiaaDoor.Lex
open Go.RowKit Go.Proofs.YtbmfadmoficfiaaDoorW.PrintWords Go.Proofs.YtbmfadmoficfiaaDoor.Q
set_option linter.unusedVariables false
def enc (l : Bs) : List Int := l.map fun b => (b.toNat : Int)
theorem enc_snoc (l : Bs) (b : UInt8) : enc l ++ [(b.toNat : Int)] = enc (l ++ [b]) := by simp [enc]
theorem enc_len (l : Bs) : (enc l).length = l.length := by simp [enc]
theorem enc_str (l : Bs) : strOfNums (enc l) = ⟨l.toArray⟩ := by
 unfold strOfNums enc
 rw [List.map_map]
 congr 2
 conv => rhs; rw [← List.map_id l]
 apply List.map_congr_left
 intro x _
 simp
abbrev UR := Int × Int × Bool
def UFits (o : Option (UInt8 × Nat)) (i : Nat) (t : UR) : Prop :=
 match o with
 | none => t.2.2 = false
 | some x => t = ((x.1.toNat : Int), ((i + x.2 : Nat) : Int), true)
def EvU (g : Nat → Option UR) (o : Option (UInt8 × Nat)) (i : Nat) : Prop := ∃ t, Ev g t ∧ UFits o i t
section
variable {g f : Nat → Option UR} {o : Option (UInt8 × Nat)} {i : Nat}
theorem EvU.step (h : ∀ k, g (k + 1) = f k) (k : EvU f o i) : EvU g o i := by
 obtain ⟨t, h1, h2⟩ := k
 exact ⟨t, Ev.step h h1, h2⟩
theorem EvU.pos {c : Prop} [Decidable c] (h : c) (k : EvU f o i) : EvU (fun n => if c then f n else g n) o i := by
 obtain ⟨t, h1, h2⟩ := k
 exact ⟨t, ev_pos h h1, h2⟩
theorem EvU.bind {β : Type} {g : Nat → Option β} {f : Nat → β → Option UR} {a : β} (h : Ev g a) (k : EvU (fun n => f n a) o i) : EvU (fun n => (g n).bind (f n)) o i := by
 obtain ⟨t, h1, h2⟩ := k
 exact ⟨t, Ev.bind h h1, h2⟩
theorem EvU.bad {t : UR} (ho : o = none) (h : t.2.2 = false) : EvU (fun _ => some t) o i := by
 subst ho
 exact ⟨t, Ev.now t, h⟩
theorem EvU.now {t : UR} (h : UFits o i t) : EvU (fun _ => some t) o i := ⟨t, Ev.now t, h⟩
end
end Go.Proofs.YtbmfadmoficfiaaDoor.Lex
namespace Go.Proofs.YtbmfadmoficfiaaDoor.Lex
open Go.RowKit Go.Proofs.YtbmfadmoficfiaaDoorW.PrintWords Go.Proofs.YtbmfadmoficfiaaDoor.Q
set_option linter.unusedVariables false
abbrev St (s : ByteArray) : Prop := s.size ≤ 1048576
def hx (n : Nat) : UInt8 := UInt8.ofNat (if n < 10 then 48 + n else 87 + n)
def qb (c : UInt8) : Bs :=
 if c = 10 then [92, 110] else if c = 9 then [92, 116] else if c = 13 then [92, 114] else if c = 0 then [92, 48]
 else if c = 34 then [92, 34] else if c = 92 then [92, 92]
 else if 32 ≤ c.toNat ∧ c.toNat ≤ 126 then [c] else [92, 120, hx (c.toNat / 16), hx (c.toNat % 16)]
def quote (s : Bs) : Bs := [34] ++ s.flatMap qb ++ [34]
theorem qb_len (c : UInt8) : (qb c).length ≤ 4 := by
 unfold qb
 repeat' split
 all_goals simp
theorem hx_at : ∀ n : Fin 16, bt (⟨#[48, 49, 50, 51, 52, 53, 54, 55, 56, 57, 97, 98, 99, 100, 101, 102]⟩ : ByteArray) (n.val : Int) = ((hx n.val).toNat : Int) := by decide +kernel
theorem and_all : ∀ c : Fin 256, bits .and .u8 (c.val : Int) 15 = ((c.val % 16 : Nat) : Int) := by decide +kernel
theorem and15 (c : UInt8) : bits .and .u8 (c.toNat : Int) 15 = ((c.toNat % 16 : Nat) : Int) := and_all ⟨c.toNat, c.toNat_lt⟩
theorem hx_bt (n : Nat) (h : n < 16) : bt (⟨#[48, 49, 50, 51, 52, 53, 54, 55, 56, 57, 97, 98, 99, 100, 101, 102]⟩ : ByteArray) (n : Int) = ((hx n).toNat : Int) := hx_at ⟨n, h⟩
theorem enc_app (a b : Bs) : enc a ++ enc b = enc (a ++ b) := by simp [enc]
theorem sh4 (c : UInt8) : (c.toNat : Int) / 16 = ((c.toNat / 16 : Nat) : Int) := by omega
section
variable {r : ByteArray} {acc : Bs} {c : UInt8}
theorem two_go (F : Nat → List Int → Option ByteArray) (x y : UInt8) (hacc : acc.length ≤ 4194305) (h : Ev (fun k => F k (enc (acc ++ [x, y]))) r) :
 Ev (fun k => (some ([(x.toNat : Int), (y.toNat : Int)] : List Int)).bind fun z => if (enc acc).length + z.length < 140737488355328 then F k (enc acc ++ z) else none) r := by
 refine Z65 rfl (ev_pos (by rw [enc_len]; simp; omega) ?_)
 have e : ([(x.toNat : Int), (y.toNat : Int)] : List Int) = enc [x, y] := rfl
 rw [e, enc_app]
 exact h
theorem hex_go (F : Nat → List Int → Option ByteArray) (hacc : acc.length ≤ 4194305) (h : Ev (fun k => F k (enc (acc ++ [92, 120, hx (c.toNat / 16), hx (c.toNat % 16)]))) r) :
 Ev (fun k => if 0 ≤ ((c.toNat : Int) / 16) then (if ((c.toNat : Int) / 16) < 16 then (if 0 ≤ (Go.bits .and .u8 (c.toNat : Int) 15) then (if (Go.bits .and .u8 (c.toNat : Int) 15) < 16 then ((some (([92, 120, bt (⟨#[48, 49, 50, 51, 52, 53, 54, 55, 56, 57, 97, 98, 99, 100, 101, 102]⟩ : ByteArray) ((c.toNat : Int) / 16), bt (⟨#[48, 49, 50, 51, 52, 53, 54, 55, 56, 57, 97, 98, 99, 100, 101, 102]⟩ : ByteArray) (Go.bits .and .u8 (c.toNat : Int) 15)] : List Int) : List Int)).bind fun y402 => (if (enc acc).length + y402.length < 140737488355328 then F k (enc acc ++ y402) else (none))) else (none)) else (none)) else (none)) else (none)) r := by
 have hc := c.toNat_lt
 rw [and15, sh4]
 refine ev_pos (by omega) (ev_pos (by omega) (ev_pos (by omega) (ev_pos (by omega) ?_)))
 rw [hx_bt _ (by omega), hx_bt _ (by omega)]
 refine Z65 rfl (ev_pos (by rw [enc_len]; simp; omega) ?_)
 have e : ([92, 120, ((hx (c.toNat / 16)).toNat : Int), ((hx (c.toNat % 16)).toNat : Int)] : List Int) = enc [92, 120, hx (c.toNat / 16), hx (c.toNat % 16)] := rfl
 rw [e, enc_app]
 exact h
theorem one_go (F : Nat → List Int → Option ByteArray) (hacc : acc.length ≤ 4194305) (h : Ev (fun k => F k (enc (acc ++ [c]))) r) :
 Ev (fun k => if (enc acc).length < 140737488355328 then F k (enc acc ++ [(c.toNat : Int)]) else none) r := by
 refine ev_pos (by rw [enc_len]; omega) ?_
 rw [enc_snoc]
 exact h
end
theorem ib_quote (c : UInt8) : (∃ t : Nat, t < 6 ∧ Lib.indexByte [10, 9, 13, 0, 34, 92] c = (t : Int) ∧ ∃ y : UInt8, bt (⟨#[110, 116, 114, 48, 34, 92]⟩ : ByteArray) (t : Int) = (y.toNat : Int) ∧ qb c = [92, y]) ∨
 (Lib.indexByte [10, 9, 13, 0, 34, 92] c = -1 ∧ qb c = if 32 ≤ c.toNat ∧ c.toNat ≤ 126 then [c] else [92, 120, hx (c.toNat / 16), hx (c.toNat % 16)]) := by
 by_cases h1 : c = 10
 · subst h1; exact .inl ⟨0, by decide, rfl, 110, rfl, rfl⟩
 by_cases h2 : c = 9
 · subst h2; exact .inl ⟨1, by decide, rfl, 116, rfl, rfl⟩
 by_cases h3 : c = 13
 · subst h3; exact .inl ⟨2, by decide, rfl, 114, rfl, rfl⟩
 by_cases h4 : c = 0
 · subst h4; exact .inl ⟨3, by decide, rfl, 48, rfl, rfl⟩
 by_cases h5 : c = 34
 · subst h5; exact .inl ⟨4, by decide, rfl, 34, rfl, rfl⟩
 by_cases h6 : c = 92
 · subst h6; exact .inl ⟨5, by decide, rfl, 92, rfl, rfl⟩
 refine .inr ⟨?_, ?_⟩
 · have e (n : UInt8) (h : c ≠ n) : (n == c) = false := by rw [beq_eq_false_iff_ne]; exact fun x => h x.symm
   simp only [Lib.indexByte, e _ h1, e _ h2, e _ h3, e _ h4, e _ h5, e _ h6, Bool.false_eq_true, if_false]
   rfl
 · unfold qb
   rw [if_neg h1, if_neg h2, if_neg h3, if_neg h4, if_neg h5, if_neg h6]
theorem lex_quote_loop (s : ByteArray) (hs : St s) (d : Nat) : ∀ (i : Nat) (acc : Bs), i ≤ s.size → s.size - i = d → acc.length ≤ 4 * i + 1 →
 Ev (fun k => Z38.l0 k s (enc acc) (s.size : Int) (i : Int)) ⟨(acc ++ (suf s i).flatMap qb ++ [34]).toArray⟩ := by
 unfold St at hs
 induction d with
 | zero =>
  intro i acc hi hd ha
  refine Ev.step (fun k => by rw [Z38.l0]) (ev_neg (by omega) (ev_pos (by rw [enc_len]; omega) ?_))
  have e : enc acc ++ [34] = enc (acc ++ [34]) := enc_snoc acc 34
  rw [e, enc_str, Z68 s i (by omega)]
  simp only [List.flatMap_nil, List.append_nil]
  exact Ev.now _
 | succ d ih =>
  intro i acc hi hd ha
  obtain ⟨c, hc, hbt⟩ := suf_at s i (by omega)
  refine Ev.step (fun k => by rw [Z38.l0]) (ev_pos (by omega) (ev_pos (by omega) (ev_pos (by omega) ?_)))
  rw [hbt, hc, List.flatMap_cons, w1 i (by omega)]
  have next : Ev (fun k => Z38.l0 k s (enc (acc ++ qb c)) (s.size : Int) ((i + 1 : Nat) : Int)) ⟨(acc ++ (qb c ++ (suf s (i + 1)).flatMap qb) ++ [34]).toArray⟩ := by
   have := ih (i + 1) (acc ++ qb c) (by omega) (by omega) (by have := qb_len c; rw [List.length_append]; omega)
   rw [List.append_assoc acc (qb c)] at this
   exact this
  refine Z65 (show strings_IndexByte.f (⟨#[10, 9, 13, 0, 34, 92]⟩ : ByteArray) (c.toNat : Int) = some (Lib.indexByte [10, 9, 13, 0, 34, 92] c) by unfold strings_IndexByte.f; rw [nat8]) ?_
  rcases ib_quote c with ⟨t, ht, he, y, hy, hq⟩ | ⟨he, hq⟩
  · rw [he]
    refine ev_pos (by omega) (ev_pos (by omega) (ev_pos (by omega) ?_))
    rw [hy]
    refine two_go (fun k z => Z38.l0 k s z (s.size : Int) ((i + 1 : Nat) : Int)) 92 y (by omega) ?_
    rw [← hq]
    exact next
  · rw [he]
    refine ev_neg (by decide) ?_
    by_cases h32 : 32 ≤ c.toNat
    · refine ev_pos (by omega) ?_
      by_cases h126 : c.toNat ≤ 126
      · rw [if_pos ⟨h32, h126⟩] at hq
        refine ev_pos (by omega) (one_go (fun k z => Z38.l0 k s z (s.size : Int) ((i + 1 : Nat) : Int)) (by omega) ?_)
        rw [← hq]
        exact next
      · rw [if_neg (fun h => h126 h.2)] at hq
        refine ev_neg (by omega) (hex_go (fun k z => Z38.l0 k s z (s.size : Int) ((i + 1 : Nat) : Int)) (by omega) ?_)
        rw [← hq]
        exact next
    · rw [if_neg (fun h => h32 h.1)] at hq
      refine ev_neg (by omega) (hex_go (fun k z => Z38.l0 k s z (s.size : Int) ((i + 1 : Nat) : Int)) (by omega) ?_)
      rw [← hq]
      exact next
theorem lex_quote (s : ByteArray) (hs : St s) : Ev (fun k => Z38.f k s) ⟨(quote s.data.toList).toArray⟩ := by
 unfold Z38.f
 exact lex_quote_loop s hs _ 0 [34] (by omega) rfl (by simp)
theorem ref_quote_loop (s : ByteArray) (hs : St s) (d : Nat) : ∀ (i : Nat) (acc : Bs), i ≤ s.size → s.size - i = d → acc.length ≤ 4 * i + 1 →
 Ev (fun k => Z31.l0 k s (enc acc) (i : Int)) ⟨(acc ++ (suf s i).flatMap qb ++ [34]).toArray⟩ := by
 unfold St at hs
 induction d with
 | zero =>
  intro i acc hi hd ha
  refine Ev.step (fun k => by rw [Z31.l0]) (ev_neg (by omega) (ev_pos (by rw [enc_len]; omega) ?_))
  have e : enc acc ++ [34] = enc (acc ++ [34]) := enc_snoc acc 34
  rw [e, enc_str, Z68 s i (by omega)]
  simp only [List.flatMap_nil, List.append_nil]
  exact Ev.now _
 | succ d ih =>
  intro i acc hi hd ha
  obtain ⟨c, hc, hbt⟩ := suf_at s i (by omega)
  refine Ev.step (fun k => by rw [Z31.l0]) (ev_pos (by omega) (ev_pos (by omega) ?_))
  rw [hbt, hc, List.flatMap_cons, w1 i (by omega)]
  have next : Ev (fun k => Z31.l0 k s (enc (acc ++ qb c)) ((i + 1 : Nat) : Int)) ⟨(acc ++ (qb c ++ (suf s (i + 1)).flatMap qb) ++ [34]).toArray⟩ := by
   have := ih (i + 1) (acc ++ qb c) (by omega) (by omega) (by have := qb_len c; rw [List.length_append]; omega)
   rw [List.append_assoc acc (qb c)] at this
   exact this
  let G : Nat → List Int → Option ByteArray := fun k z => Z31.l0 k s z ((i + 1 : Nat) : Int)
  by_cases h1 : c = 10
  · refine ev_pos ((Z59 10 (by decide)).2 h1) (two_go G 92 110 (by omega) ?_)
    rw [show ([92, 110] : Bs) = qb c by rw [h1]; rfl]
    exact next
  refine ev_neg (fun h => h1 ((Z59 10 (by decide)).1 h)) ?_
  by_cases h2 : c = 9
  · refine ev_pos ((Z59 9 (by decide)).2 h2) (two_go G 92 116 (by omega) ?_)
    rw [show ([92, 116] : Bs) = qb c by rw [h2]; rfl]
    exact next
  refine ev_neg (fun h => h2 ((Z59 9 (by decide)).1 h)) ?_
  by_cases h3 : c = 13
  · refine ev_pos ((Z59 13 (by decide)).2 h3) (two_go G 92 114 (by omega) ?_)
    rw [show ([92, 114] : Bs) = qb c by rw [h3]; rfl]
    exact next
  refine ev_neg (fun h => h3 ((Z59 13 (by decide)).1 h)) ?_
  by_cases h4 : c = 0
  · refine ev_pos ((Z59 0 (by decide)).2 h4) (two_go G 92 48 (by omega) ?_)
    rw [show ([92, 48] : Bs) = qb c by rw [h4]; rfl]
    exact next
  refine ev_neg (fun h => h4 ((Z59 0 (by decide)).1 h)) ?_
  have self (hq : qb c = [92, c]) : Ev (fun k => Z31.j1 k s (enc acc) (i : Int) (c.toNat : Int) true) ⟨(acc ++ (qb c ++ (suf s (i + 1)).flatMap qb) ++ [34]).toArray⟩ := by
   refine Ev.step (fun k => by rw [Z31.j1]) (ev_pos rfl ?_)
   rw [w1 i (by omega)]
   refine two_go G 92 c (by omega) ?_
   rw [← hq]
   exact next
  by_cases h5 : c = 34
  · exact ev_pos ((Z59 34 (by decide)).2 h5) (self (by rw [h5]; rfl))
  refine ev_neg (fun h => h5 ((Z59 34 (by decide)).1 h)) ?_
  by_cases h6 : c = 92
  · rw [show ((c.toNat : Int) == 92) = true by rw [h6]; rfl]
    exact self (by rw [h6]; rfl)
  rw [show ((c.toNat : Int) == 92) = false by rw [beq_eq_false_iff_ne]; exact fun h => h6 ((Z59 92 (by decide)).1 h)]
  have hq : qb c = if 32 ≤ c.toNat ∧ c.toNat ≤ 126 then [c] else [92, 120, hx (c.toNat / 16), hx (c.toNat % 16)] := by
   unfold qb
   rw [if_neg h1, if_neg h2, if_neg h3, if_neg h4, if_neg h5, if_neg h6]
  refine Ev.step (fun k => by rw [Z31.j1]) (ev_neg (by decide) ?_)
  rw [w1 i (by omega)]
  by_cases h32 : 32 ≤ c.toNat
  · refine ev_pos (by omega) ?_
    by_cases h126 : c.toNat ≤ 126
    · rw [if_pos ⟨h32, h126⟩] at hq
      refine ev_pos (by omega) (one_go G (by omega) ?_)
      rw [← hq]
      exact next
    · rw [if_neg (fun h => h126 h.2)] at hq
      refine ev_neg (by omega) (hex_go G (by omega) ?_)
      rw [← hq]
      exact next
  · rw [if_neg (fun h => h32 h.1)] at hq
    refine ev_neg (by omega) (hex_go G (by omega) ?_)
    rw [← hq]
    exact next
theorem ref_quote (s : ByteArray) (hs : St s) : Ev (fun k => Z31.f k s) ⟨(quote s.data.toList).toArray⟩ := by
 unfold Z31.f
 exact ref_quote_loop s hs _ 0 [34] (by omega) rfl (by simp)
end Go.Proofs.YtbmfadmoficfiaaDoor.Lex
namespace Go.Proofs.YtbmfadmoficfiaaDoor.Lex
open Go.RowKit Go.Proofs.YtbmfadmoficfiaaDoorW.PrintWords Go.Proofs.YtbmfadmoficfiaaDoor.Q
set_option linter.unusedVariables false
theorem awake_yes : Ev (fun k => cruciblelaw07_awake.f k) true := Ev.of (fun k => cruciblelaw07_awake.mono k) (show cruciblelaw07_awake.f 100 = some true by kernel_rfl)
inductive Toks where
 | bad (at_ : Nat)
 | ok (l : List (Tk × Nat)) (end_ : Nat)
def Toks.cons (t : Tk) (j : Nat) : Toks → Toks
 | .bad e => .bad e
 | .ok l e => .ok ((t, j) :: l) e
end Go.Proofs.YtbmfadmoficfiaaDoor.Lex
namespace Go.Proofs.YtbmfadmoficfiaaDoor.Lex
open Go.RowKit Go.Proofs.YtbmfadmoficfiaaDoorW.PrintWords Go.Proofs.YtbmfadmoficfiaaDoor.Q
set_option linter.unusedVariables false
theorem end_awake : Ev (fun k => (cruciblelaw07_awake.f k).bind fun t => some t) true := Ev.bind awake_yes (Ev.now _)
theorem LexerWords_pure (s : ByteArray) (hs : s.size ≤ 1048576) : ∃ k, cruciblelaw07_LexerWords.f k s = some true := by
 refine Ev.rounds ?_
 have hm : Sm s := by unfold Sm; omega
 unfold cruciblelaw07_LexerWords.f
 refine Ev.bind (lex_reserved s hm) (Ev.bind (ref_reserved s hm) (ev_pos (by simp) ?_))
 refine Ev.bind (lex_named s hm) (Ev.bind (ref_named s hm) (ev_pos (by simp) ?_))
 exact Ev.bind (lex_quote s hs) (Ev.bind (ref_quote s hs) (ev_pos rfl end_awake))
end Go.Proofs.YtbmfadmoficfiaaDoor.Lex
namespace Go.Proofs.YtbmfadmoficfiaaDoor.lexerWords
open Go.ChangeShapes Go.WideShapes Go.ChangeAt Go.RowKit
open Go.ChangeMaps (open_string shut_string)
set_option linter.unusedVariables false
theorem laid_met (os : Os) : laidMet Tryd.prog Rows.lexerWordsUptoRow.laid (((Frame.laidWorld os)).forCall (fun _ _ => 0) ⟨#[], #[Value.string ByteArray.empty], []⟩).memory :=
 laidMet_of_run' 10 (by kernel_rfl) (by kernel_rfl)
theorem reads (os : Os) {H : Type} (enc : TypeId × Value → H) : ∃ places, DataW.whole enc Tryd.prog ((Frame.laidWorld os).forCall (fun _ _ => 0) ⟨#[], #[Value.string ByteArray.empty], []⟩).memory Tryd.f7.params.toList Rows.lexerWordsSpec.vars false (#[Value.string ByteArray.empty] : Array Value).toList 8 = some ([.lit (.string [])], [], places) :=
 ⟨[], by kernel_rfl⟩
set_option maxRecDepth 100000 in
theorem lifted (os : Os) (started : os.Started) (H : Type) (enc : TypeId × Value → H) (F : Stop.Interp) :
 ReturnsInHanded {} Tryd.checked os 7 .any ((Rows.OpenSpec.upto Rows.lexerWordsSpec).preRow enc Tryd.prog Tryd.f7 Rows.lexerWordsUptoRow.domain false Rows.lexerWordsUptoRow.laid) (((Rows.OpenSpec.upto Rows.lexerWordsSpec).at F).post enc Tryd.prog Tryd.f7 false true false false) := by
 obtain ⟨places, hx⟩ := reads os enc
 refine returnsInHanded_of_row (C := Tryd.checked) (s := (Rows.OpenSpec.upto Rows.lexerWordsSpec)) Frame.own started (by kernel_rfl) Tryd.func7
  (witness_row_atRef (enc := enc) (C := Tryd.checked) false (Frame.laidWorld os) #[Value.string ByteArray.empty] rfl (by kernel_rfl) (by kernel_rfl) (by kernel_rfl)
   (OpenSpec.preRow_of_cond 8 hx (by kernel_rfl) (fun k hk => by cases hk; kernel_rfl) (by kernel_rfl) (laid_met os))) ?_
 intro W base args ds gs before hval0 hW _ hcond hsz0 hL hS _
 have hsz : (DataW.weightsEach Tryd.prog (Tryd.f7.params.toList ++ Rows.lexerWordsSpec.plain.varTypes Tryd.prog) (ds ++ gs)).all (· ≤ reachBytes) = true := hsz0
 have hval : ∀ (j : Nat) t v, Tryd.f7.params[j]? = some t → args[j]? = some v → Value.okWide Tryd.prog W .any base t v := hval0
 have hW' := hW
 obtain ⟨p, q, hA0, hV, rfl, hfz, hnd⟩ := hW
 have hA : DataW.TrodAll enc Tryd.prog W 0 (fun _ => true) true Tryd.f7.params.toList args.toList ds p := hA0
 rw [Tryd.params7] at hA hval hsz
 obtain ⟨v0, vs0, d0, ds0, p0, q0, hargs, rfl, rfl, h0, r0⟩ := trodAll_cons hA
 obtain ⟨rfl, rfl, rfl⟩ := trodAll_nil r0
 obtain rfl : args = #[v0] := by cases args; simp_all
 obtain ⟨rfl, rfl⟩ := trodVars_none hV
 obtain ⟨a0, rfl, rfl, rfl, y0⟩ := open_string Tryd.underlying9 (hval 0 9 v0 rfl rfl) h0
 have w0 : a0.size ≤ 140737488351232 := by
  have z := sized_string hsz (j := 0) (t := 9) rfl rfl
  rw [Array.length_toList] at z
  exact z
 have hb := of_decide_eq_true (hcond _ rfl)
 simp only [List.append_nil, Rows.uptoBulkAll, Rows.uptoBulk] at hb
 have b0 : a0.size ≤ 1048576 := by
  rw [Lib.size_eq]
  omega
 clear hA0 hval0 hsz0 hsz
 obtain ⟨k, hk⟩ := Lex.LexerWords_pure a0 b0
 refine (Q.cruciblelaw07_LexerWords.calls k a0 true W (Frame.prem hL hS) hk).mono fun e W' ⟨he, bel⟩ => ?_
 subst he
 exact ⟨_, rfl, _, _, _, [], _, [], hW', trodAll_mk1 (shut_bool Tryd.underlying4 _), (trodAll_cons_mk (shut_string Tryd.underlying9 y0) trodAll_mk0), rfl, bel.frame _, fun h => by cases h⟩
theorem said : Rows.LexerWordsUptoSaid :=
 OpenClaim.holds_of_cond 7 Tryd.f7 rfl rfl rfl rfl rfl rfl rfl ⟨rfl, rfl, rfl, rfl, rfl⟩ rfl rfl rfl rfl rfl (by kernel_rfl) Tryd.func7 (by kernel_rfl)
  (of_decide_eq_true (by kernel_rfl)) (by unfold Func.isWrapper; first | (rw [if_pos (by decide +kernel)]; kernel_rfl) | (rw [if_neg (by decide +kernel)]; exact ⟨rfl, rfl⟩))
  (fun os started H enc _ F => by rw [OpenClaim.pre_eq_preRow]; exact lifted os started H enc F)
theorem plain (f : FuncId) (fn : Func) (hf : Tryd.pinned.checked.prog.funcNamed "crucible/cruciblelaw07.LexerWords" = some f) (hfn : Tryd.pinned.checked.prog.funcs[f]? = some fn) :
 false = Tryd.pinned.checked.prog.looks [] ∧ ∀ (j : Nat) t, fn.params[j]? = some t → Tryd.pinned.checked.prog.wantsStandIn t = false := by
 obtain rfl : f = 7 := Option.some.inj ((show Tryd.prog.funcNamed "crucible/cruciblelaw07.LexerWords" = some 7 by kernel_rfl).symm.trans hf) |>.symm
 obtain rfl : fn = Tryd.f7 := (Option.some.inj (Tryd.func7.symm.trans hfn)).symm
 refine ⟨by kernel_rfl, fun j t ht => ?_⟩
 rw [Tryd.params7] at ht
 have hm : t ∈ (#[9] : Array TypeId) := Array.mem_of_getElem? ht
 obtain rfl : t = 9 := by simpa using hm
 exact (show Tryd.prog.wantsStandIn 9 = false by kernel_rfl)
theorem card : Rows.LexerWordsUptoCardSaid :=
 Claim7.holds_tied_plain_at .later [] _ _ _ _ said (fun _ h => by cases h) (by kernel_rfl) (fun _ h => by cases h) lexerWordsUpto_row_tie rfl ⟨rfl, rfl⟩ (by kernel_rfl) rfl plain (by kernel_rfl)
end Go.Proofs.YtbmfadmoficfiaaDoor.lexerWords
