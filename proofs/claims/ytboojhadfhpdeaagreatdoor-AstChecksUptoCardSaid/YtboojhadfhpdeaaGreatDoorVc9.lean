/- A part of the proof, made small by a program: S2, F1. -/
import Derived.Test.YtboojhadfhpdeaaGreatDoorVc6
import Derived.Test.YtboojhadfhpdeaaGreatDoorVc8
namespace Go.Proofs.YtboojhadfhpdeaaGreatDoor.Q
open Go.RowKit Go.Proofs.YtboojhadfhpdeaaGreatDoorW.PrintWords Go.Proofs.YtboojhadfhpdeaaGreatDoor.Lex
set_option linter.unusedVariables false
theorem pre_word (w v r : Bs) (hw : w.contains 32 = false) (hv : v.contains 32 = false) : (w ++ [32]).isPrefixOf (v ++ 32 :: r) = (w == v):=by
 induction w generalizing v with
 | nil =>
  cases v with
  | nil => rfl
  | cons c t =>
   rw [List.contains_cons,Bool.or_eq_false_iff] at hv;simp only [List.nil_append,List.cons_append,List.isPrefixOf];rw [hv.1];rfl
 | cons a w ih =>
  rw [List.contains_cons,Bool.or_eq_false_iff] at hw;cases v with
  | nil =>
   simp only [List.nil_append,List.cons_append,List.isPrefixOf];rw [show (a == (32 : UInt8)) = false from beq_eq_false_iff_ne.2 (fun e => absurd (beq_eq_false_iff_ne.1 hw.1) (fun h => h e.symm))];rfl
  | cons c t =>
   rw [List.contains_cons,Bool.or_eq_false_iff] at hv;simp only [List.cons_append,List.isPrefixOf];rw [ih t hw.2 hv.2];rfl
theorem anyp_word (w v r : Bs) (hw : w.contains 32 = false) (hv : v.contains 32 = false) : anyp ([32] ++ w ++ [32]) (32 :: (v ++ 32 :: r)) = ((w == v) || anyp ([32] ++ w ++ [32]) (32 :: r)):=by
 have h1 : ∀ v : Bs,v.contains 32 = false → anyp ([32] ++ w ++ [32]) (v ++ 32 :: r) = anyp ([32] ++ w ++ [32]) (32 :: r):=by
  intro v;induction v with
  | nil => intro _;rfl
  | cons c t ih =>
   intro hv;rw [List.contains_cons,Bool.or_eq_false_iff] at hv;show (([32] ++ w ++ [32] : Bs).isPrefixOf (c :: (t ++ 32 :: r)) || anyp ([32] ++ w ++ [32]) (t ++ 32 :: r)) = _
   rw [show ([32] ++ w ++ [32] : Bs).isPrefixOf (c :: (t ++ 32 :: r)) = false from by
    simp only [List.cons_append,List.nil_append,List.isPrefixOf];rw [hv.1];rfl,Bool.false_or]
   exact ih hv.2
 show (([32] ++ w ++ [32] : Bs).isPrefixOf (32 :: (v ++ 32 :: r)) || anyp ([32] ++ w ++ [32]) (v ++ 32 :: r)) = _
 rw [h1 v hv];congr 1;simp only [List.cons_append,List.nil_append,List.isPrefixOf];rw [pre_word w v r hw hv];rfl
theorem anyp_end (w : Bs) (h0 : w.isEmpty = false) (hw : w.contains 32 = false) : anyp ([32] ++ w ++ [32]) [32] = false:=by
 cases w with
 | nil => cases h0
 | cons a w => rfl
abbrev wInt : Bs:=[105,110,116]
abbrev wUint : Bs:=[117,105,110,116]
abbrev wChar : Bs:=[99,104,97,114]
abbrev wVoid : Bs:=[118,111,105,100]
abbrev wStruct : Bs:=[115,116,114,117,99,116,32]
def fourB (s : Bs) : Bool:=s == wInt || s == wUint || s == wChar || s == wVoid
theorem one_four (s : Bs) : oneL ([32] ++ [105,110,116,32,117,105,110,116,32,99,104,97,114,32,118,111,105,100] ++ [32]) s = fourB s:=by
 unfold oneL;cases h0 : s.isEmpty with
 | true =>
  have : s = []:=by cases s with
   | nil => rfl
   | cons _ _ => cases h0
  subst this;rfl
 | false =>
  cases hc : s.contains 32 with
  | true =>
   have hn : ∀ v : Bs,v.contains 32 = false → (s == v) = false:=fun v hv => by
    rw [beq_eq_false_iff_ne];intro e;rw [e,hv] at hc;cases hc
   unfold fourB;rw [hn wInt (by decide),hn wUint (by decide),hn wChar (by decide),hn wVoid (by decide)];rfl
  | false =>
   have e1:=anyp_word s wInt ([117,105,110,116] ++ 32 :: ([99,104,97,114] ++ 32 :: ([118,111,105,100] ++ 32 :: []))) hc (by decide);have e2:=anyp_word s wUint ([99,104,97,114] ++ 32 :: ([118,111,105,100] ++ 32 :: [])) hc (by decide);have e3:=anyp_word s wChar ([118,111,105,100] ++ 32 :: []) hc (by decide);have e4:=anyp_word s wVoid [] hc (by decide);rw [e2,e3,e4,anyp_end s h0 hc] at e1;simp only [Bool.not_false,Bool.true_and];refine Eq.trans e1 ?_;unfold fourB;cases (s == wInt) <;> cases (s == wUint) <;> cases (s == wChar) <;> cases (s == wVoid) <;> rfl
def tyB (s : ByteArray) : Bool:=(wStruct.isPrefixOf s.data.toList && nmB (s.extract 7 s.size)) || fourB s.data.toList
theorem hp_some (a b : ByteArray) : stringslite_HasPrefix.f a b = some (b.data.toList.isPrefixOf a.data.toList):=by
 unfold stringslite_HasPrefix.f;by_cases h : (a.size : Int) ≥ (b.size : Int)
 · rw [if_pos h,if_pos (by omega),if_pos h];simp only [Option.some.injEq];rw [Lib.toList_data,Lib.toList_data,Int.toNat_natCast,Lib.extract_data,List.drop_zero,Nat.sub_zero,Lib.size_eq b];rw [Bool.eq_iff_iff,beq_iff_eq,List.isPrefixOf_iff_prefix];constructor
   · intro e;rw [← e];exact List.take_prefix _ _
   · intro e;obtain ⟨t,ht⟩:=e;rw [← ht];simp
 · rw [if_neg h];simp only [Option.some.injEq];symm;rw [Bool.eq_false_iff];intro e;have:=(List.isPrefixOf_iff_prefix.1 e).length_le;rw [← Lib.size_eq,← Lib.size_eq] at this;omega
theorem prefix_size {s : ByteArray} (h : wStruct.isPrefixOf s.data.toList = true) : 7 ≤ s.size:=by
 have:=(List.isPrefixOf_iff_prefix.1 h).length_le;rw [← Lib.size_eq] at this;exact this
theorem ext_sml {s : ByteArray} (hs : Sml s) (i : Nat) : Sml (s.extract i s.size):=by
 have h1:=ext_size s i;rw [Int.toNat_natCast] at h1;unfold Sml at *;omega
theorem ty_ast (s : ByteArray) (hs : Sml s) : Ev (fun k => ast_typed.f k s) (tyB s):=by
 have h1 : ast_one.f (⟨#[105,110,116,32,117,105,110,116,32,99,104,97,114,32,118,111,105,100]⟩ : ByteArray) s = some (fourB s.data.toList):=by
  rw [one_ast _ s (by decide) hs];exact congrArg some (one_four s.data.toList)
 unfold ast_typed.f strings_CutPrefix.f stringslite_CutPrefix.f tyB;rw [hp_some,h1];simp only [Option.bind_some];cases hp : wStruct.isPrefixOf s.data.toList with
 | true =>
  have h7:=prefix_size hp;have hz : ((⟨#[115,116,114,117,99,116,32]⟩ : ByteArray).size : Int) = 7:=rfl;rw [if_pos rfl,if_pos (by rw [hz];omega),if_pos (by rw [hz];omega)];simp only [Option.bind_some,if_true,hz];refine Ev.bind (nm_ast _ (ext_sml hs 7)) ?_;rw [show ((7 : Int)).toNat = 7 from rfl];cases nmB (s.extract 7 s.size) with
  | true => exact Ev.now _
  | false => exact Ev.now _
 | false =>
  exact Ev.now _
theorem four_ref (s : ByteArray) : (if s.toList = ([105,110,116] : List UInt8) then (some true) else (if s.toList = ([117,105,110,116] : List UInt8) then (some true) else (if s.toList = ([99,104,97,114] : List UInt8) then (some true) else (some (s.toList == ([118,111,105,100] : List UInt8)))))) = some (fourB s.data.toList):=by
 rw [Lib.toList_data];unfold fourB;by_cases h1 : s.data.toList = wInt
 · rw [if_pos h1,h1];rfl
 · rw [if_neg h1,show (s.data.toList == wInt) = false from beq_eq_false_iff_ne.2 h1];by_cases h2 : s.data.toList = wUint
   · rw [if_pos h2,h2];rfl
   · rw [if_neg h2,show (s.data.toList == wUint) = false from beq_eq_false_iff_ne.2 h2];by_cases h3 : s.data.toList = wChar
     · rw [if_pos h3,h3];rfl
     · rw [if_neg h3,show (s.data.toList == wChar) = false from beq_eq_false_iff_ne.2 h3];rfl
theorem four_of_prefix {s : Bs} (h : wStruct.isPrefixOf s = true) : fourB s = false:=by
 obtain ⟨t,rfl⟩:=List.isPrefixOf_iff_prefix.1 h;rfl
theorem nm_nil (s : ByteArray) (h : s.data.toList = []) : nmB s = false:=by
 unfold nmB;rw [h];rfl
theorem ty_ref (x : S25) (hs : Sml x.f1) (b : Bool) : Ev (fun k => crucibleref08_typed.j0 k b x.f0 x.f1 x.f2 x.f3 x.f4 x.f5) (!b && tyB x.f1):=by
 refine Ev.step (fun k => by rw [crucibleref08_typed.j0]) ?_;cases b with
 | true => exact ev_pos rfl (Ev.now _)
 | false =>
  refine ev_neg (by decide) ?_;rw [Bool.not_false,Bool.true_and,four_ref];unfold tyB;cases hp : wStruct.isPrefixOf x.f1.data.toList with
  | true =>
   have h7:=prefix_size hp;rw [four_of_prefix hp,Bool.or_false,Bool.true_and];by_cases h8 : (x.f1.size : Int) > 7
   · refine ev_pos h8 (ev_pos (by omega) (ev_pos (by omega) (ev_pos ?_ ?_)))
     · rw [Lib.toList_data,Lib.extract_data,List.drop_zero];obtain ⟨t,ht⟩:=List.isPrefixOf_iff_prefix.1 hp;rw [← ht];simp
     · exact Ev.bind (nm_ref _ (ext_sml hs 7)) (Ev.now _)
   · refine ev_neg h8 ?_;rw [nm_nil _ (by rw [Lib.extract_data];rw [List.drop_eq_nil_of_le (by rw [← Lib.size_eq];omega)];simp)];exact Ev.now _
  | false =>
   rw [Bool.false_and,Bool.false_or];by_cases h8 : (x.f1.size : Int) > 7
   · refine ev_pos h8 (ev_pos (by omega) (ev_pos (by omega) (ev_neg ?_ (Ev.now _))));intro e;rw [Lib.toList_data,Lib.extract_data,List.drop_zero] at e;have : wStruct.isPrefixOf x.f1.data.toList = true:=by
      rw [List.isPrefixOf_iff_prefix,show wStruct = List.take (7 - 0) x.f1.data.toList from e.symm];exact List.take_prefix _ _
     rw [this] at hp;cases hp
   · exact ev_neg h8 (Ev.now _)
end Go.Proofs.YtboojhadfhpdeaaGreatDoor.Q
namespace Go.Proofs.YtboojhadfhpdeaaGreatDoor.Q
open Go.RowKit Go.Proofs.YtboojhadfhpdeaaGreatDoorW.PrintWords Go.Proofs.YtboojhadfhpdeaaGreatDoorW.PrintLast Go.Proofs.YtboojhadfhpdeaaGreatDoorW.PrintMore
set_option linter.unusedVariables false
set_option linter.unusedSimpArgs false
def FnAsk (w : World) (f : Value) (p : S25 → Bool) (x : S25) : Prop :=
 ∃ g caps,f = .func (.func g) #[] caps ∧ Enters Tryz.prog g ∧ ∀ (W : World) (A : Option Addr) (c : Nat),Below w.heap.size w W → ND W x A c → Calls Tryz.prog g (#[val x A c] ++ caps) W fun e W' => e = .returned (.bool (p x)) ∧ Below W.heap.size W W'
def pnth (ps : List (S25 → Bool)) (i : Nat) : S25 → Bool:=ps.getD i (fun _ => false)
def shapeTo (ps : List (S25 → Bool)) (xs : List S25) (i : Nat) : Bool:=(List.range i).all fun j => pnth ps j (nd xs j)
theorem shapeTo_succ (ps : List (S25 → Bool)) (xs : List S25) (i : Nat) : shapeTo ps xs (i + 1) = (shapeTo ps xs i && pnth ps i (nd xs i)):=by
 simp [shapeTo,List.range_succ]
theorem shapeTo_false {ps : List (S25 → Bool)} {xs : List S25} {i n : Nat} (h : i < n) (hp : pnth ps i (nd xs i) = false) : shapeTo ps xs n = false:=by
 cases e : shapeTo ps xs n with
 | false => rfl
 | true =>
  have h1:=List.all_eq_true.1 e i (List.mem_range.2 h);rw [hp] at h1;cases h1
def shapeB (ps : List (S25 → Bool)) (xs : List S25) : Bool:=decide (xs.length = ps.length) && shapeTo ps xs ps.length
set_option maxHeartbeats 8000000 in
set_option maxRecDepth 100000 in
theorem shape.calls (xs : List S25) (A : Option Addr) (c : Nat) (w : World) (hC : Kd.C k25 w A xs.length xs) (q cap : Nat) (fs : List Value) (ps : List (S25 → Bool)) (hn : fs.length = ps.length) (h4 : ps.length ≤ 8)
 (hq : w.heap[q]? = some (.cells fs.toArray 29 (0,0))) (h : ∀ (i : Nat) (f : Value),fs[i]? = some f → i < xs.length → FnAsk w f (pnth ps i) (nd xs i)) :
 Calls Tryz.prog 67 #[.slice A xs.length c,.slice (some ⟨q,0,none⟩) ps.length cap] w (AllP (shapeB ps xs) w):=by
 have HC:=Aside0.mk hC;have HA:=Aside0.mk h;have HN:=Aside0.mk hC.2.1;have HL:=Aside0.mk hn;have H4:=Aside0.mk h4;have HQ:=Aside0.mk hq;by_cases hlen : xs.length = ps.length
 · have HLEN:=Aside0.mk hlen;have e2 : decide ((xs.length : Int) ≠ (ps.length : Int)) = false:=decide_eq_false (by omega);have e3 : ((xs.length : Int) = (ps.length : Int)):=by omega
   clear hC h hn h4 hq hlen;go_enter Tryz.func67,Tryz.ntmps67
   go_wp2
   go_loopg [14] ps.length (fun kq v w' => ∃ i : Nat,v = .int .i64 i ∧ Aside0 (i + kq = ps.length) ∧ Aside0 (shapeTo ps xs i = true) ∧ Aside0 (Below w.heap.size w w'))
   case atStart => exact ⟨0,rfl,⟨by omega⟩,⟨rfl⟩,⟨Below.refl _ _⟩⟩
   case round =>
    obtain ⟨i,rfl,HI,HP,HB⟩:=hrel;by_cases hi : i < ps.length
    · have e1n : decide (i < ps.length) = true:=decide_eq_true hi;have e1 : decide ((i : Int) < (ps.length : Int)) = true:=decide_eq_true (by omega);have p1 : (0 : Int) ≤ (i : Int):=by omega
      have q1 : (i : Int) < (ps.length : Int):=by omega
      have q2 : (i : Int) < (xs.length : Int):=by have:=HLEN.out;omega
      have hix : i < xs.length:=by have:=HLEN.out;omega
      have HC2:=Aside0.mk (Kd.C_below HC.out HB.out);obtain ⟨ad,A',c',rfl,hnd,c0,c1,c2,c3,c4,c5⟩:=node_at HC2.out i hix;have hif : i < fs.length:=by have:=HL.out;omega
      obtain ⟨g,caps,hf,hent,hask⟩:=HA.out i _ (List.getElem?_eq_getElem hif) hix;have cf:=(blk_cell (blk_below HQ.out HB.out) i).trans (show fs.toArray[i]? = some (.func (.func g) #[] caps) from by rw [← hf];simp [hif]);have HND:=Aside0.mk hnd;have HIL:=Aside0.mk hi;have HASK:=Aside0.mk (hask _ A' c' HB.out HND.out);clear hi hnd hix hif hf hask;unfold Enters at hent;have w3 : wrap64 ((i : Int) + 1) = (i : Int) + 1:=by have:=H4.out;have:=HIL.out;unfold wrap64;omega
      have w4 : IntKind.i64.wrap ((i : Int) + 1) = (i : Int) + 1:=(i64_w _).trans w3;go_wp2_with fail
      refine HASK.out.mono ?_;rintro e w3 ⟨rfl,hB⟩;have HB3:=Aside0.mk (below_then HB.out HB.out.size hB);clear hB c0 c1 c2 c3 c4 c5 cf;cases hp : pnth ps i (nd xs i) with
      | true =>
       have HPT:=Aside0.mk hp;clear hp;go_wp2
       go_roundg (ps.length - (i + 1))
       case measure => have:=HI.out;have:=HIL.out;omega
       case rel => exact ⟨i + 1,by (try simp only [w4,w3]);rfl,⟨by have:=HI.out;have:=HIL.out;omega⟩,⟨by rw [shapeTo_succ,HP.out,HPT.out];rfl⟩,HB3⟩
      | false =>
       have HPT:=Aside0.mk hp;clear hp;go_wp2
       go_ret
       exact ⟨by rw [show shapeB ps xs = false from by unfold shapeB;rw [shapeTo_false HIL.out HPT.out];simp];rfl,HB3.out⟩
    · have e1n : decide (i < ps.length) = false:=decide_eq_false hi;have e1 : decide ((i : Int) < (ps.length : Int)) = false:=decide_eq_false (by omega);have HX:=Aside0.mk (show shapeB ps xs = true from by
       have h1:=HP.out;rw [show i = ps.length from by have:=HI.out;omega] at h1;unfold shapeB;rw [h1,decide_eq_true HLEN.out];rfl)
      clear hi HI HP;go_wp2
      go_ret
      exact ⟨by rw [HX.out];rfl,HB.out⟩
 · have e2 : decide ((xs.length : Int) ≠ (ps.length : Int)) = true:=decide_eq_true (by omega);have e3 : ¬ ((xs.length : Int) = (ps.length : Int)):=by omega
   have HX:=Aside0.mk (show shapeB ps xs = false by simp [shapeB,hlen]);clear hC h hn h4 hq hlen;go_enter Tryz.func67,Tryz.ntmps67
   go_wp2
   go_ret
   exact ⟨by rw [HX.out];rfl,Below.refl _ _⟩
end Go.Proofs.YtboojhadfhpdeaaGreatDoor.Q
