/- A part of the proof, made small by a program: Lq. -/
import Derived.Test.YtboojhadfhpdeaaGreatDoorVp10
import Derived.Test.YtboojhadfhpdeaaGreatDoorVp23
set_option linter.unusedVariables false
set_option linter.unusedSimpArgs false
set_option maxHeartbeats 8000000
set_option maxRecDepth 100000
namespace Go.Proofs.YtboojhadfhpdeaaGreatDoor.Lex
open Go.RowKit Go.Proofs.YtboojhadfhpdeaaGreatDoorW.PrintWords Go.Proofs.YtboojhadfhpdeaaGreatDoor.Q
theorem nat8 (c : UInt8) : ((c.toNat : Int)).toNat.toUInt8 = c:=by
 rw [Int.toNat_natCast];simp
theorem Z59 {c : UInt8} (n : Nat) (h : n < 256) : ((c.toNat : Int) = (n : Int)) ↔ c = UInt8.ofNat n:=by
 rw [← UInt8.toNat_inj,UInt8.toNat_ofNat_of_lt' (by simpa using h)];omega
def enc (l : Bs) : List Int:=l.map fun b => (b.toNat : Int)
theorem Az (l : Bs) (b : UInt8) : enc l ++ [(b.toNat : Int)] = enc (l ++ [b]):=by simp [enc]
theorem xU (l : Bs) : (enc l).length = l.length:=by simp [enc]
theorem Em (l : Bs) : strOfNums (enc l) = ⟨l.toArray⟩:=by
 unfold strOfNums enc;rw [List.map_map];congr 2
 conv => rhs;rw [← List.map_id l]
 apply List.map_congr_left;intro x _;simp
abbrev SmQ (s : ByteArray) : Prop:=s.size ≤ 1048576
def hx (n : Nat) : UInt8:=UInt8.ofNat (if n < 10 then 48 + n else 87 + n)
def qb (c : UInt8) : Bs :=
 if c = 10 then [92,110] else if c = 9 then [92,116] else if c = 13 then [92,114] else if c = 0 then [92,48]
 else if c = 34 then [92,34] else if c = 92 then [92,92]
 else if 32 ≤ c.toNat ∧ c.toNat ≤ 126 then [c] else [92,120,hx (c.toNat / 16),hx (c.toNat % 16)]
def quote (s : Bs) : Bs:=[34] ++ s.flatMap qb ++ [34]
theorem Ik (c : UInt8) : (qb c).length ≤ 4:=by
 unfold qb
 repeat' split
 all_goals simp
theorem hx_at : ∀ n : Fin 16,bt (⟨#[48,49,50,51,52,53,54,55,56,57,97,98,99,100,101,102]⟩ : ByteArray) (n.val : Int) = ((hx n.val).toNat : Int):=by decide +kernel
theorem and_all : ∀ c : Fin 256,bits .and .u8 (c.val : Int) 15 = ((c.val % 16 : Nat) : Int):=by decide +kernel
theorem and15 (c : UInt8) : bits .and .u8 (c.toNat : Int) 15 = ((c.toNat % 16 : Nat) : Int):=and_all ⟨c.toNat,c.toNat_lt⟩
theorem hx_bt (n : Nat) (h : n < 16) : bt (⟨#[48,49,50,51,52,53,54,55,56,57,97,98,99,100,101,102]⟩ : ByteArray) (n : Int) = ((hx n).toNat : Int):=hx_at ⟨n,h⟩
theorem KR (a b : Bs) : enc a ++ enc b = enc (a ++ b):=by simp [enc]
theorem sh4 (c : UInt8) : (c.toNat : Int) / 16 = ((c.toNat / 16 : Nat) : Int):=by omega
section
variable {r : ByteArray} {acc : Bs} {c : UInt8}
theorem yS (F : Nat → List Int → Option ByteArray) (x y : UInt8) (hacc : acc.length ≤ 4194305) (h : Ev (fun k => F k (enc (acc ++ [x,y]))) r) :
 Ev (fun k => (some ([(x.toNat : Int),(y.toNat : Int)] : List Int)).bind fun z => if (enc acc).length + z.length < 140737488355328 then F k (enc acc ++ z) else none) r:=by
 refine Z65 rfl (bD (by rw [xU];simp;omega) ?_);have e : ([(x.toNat : Int),(y.toNat : Int)] : List Int) = enc [x,y]:=rfl;rw [e,KR];exact h
theorem En (F : Nat → List Int → Option ByteArray) (hacc : acc.length ≤ 4194305) (h : Ev (fun k => F k (enc (acc ++ [92,120,hx (c.toNat / 16),hx (c.toNat % 16)]))) r) :
 Ev (fun k => if 0 ≤ ((c.toNat : Int) / 16) then (if ((c.toNat : Int) / 16) < 16 then (if 0 ≤ (Go.bits .and .u8 (c.toNat : Int) 15) then (if (Go.bits .and .u8 (c.toNat : Int) 15) < 16 then ((some (([92,120,bt (⟨#[48,49,50,51,52,53,54,55,56,57,97,98,99,100,101,102]⟩ : ByteArray) ((c.toNat : Int) / 16),bt (⟨#[48,49,50,51,52,53,54,55,56,57,97,98,99,100,101,102]⟩ : ByteArray) (Go.bits .and .u8 (c.toNat : Int) 15)] : List Int) : List Int)).bind fun y402 => (if (enc acc).length + y402.length < 140737488355328 then F k (enc acc ++ y402) else (none))) else (none)) else (none)) else (none)) else (none)) r:=by
 have hc:=c.toNat_lt;rw [and15,sh4];refine bD (by omega) (bD (by omega) (bD (by omega) (bD (by omega) ?_)));rw [hx_bt _ (by omega),hx_bt _ (by omega)];refine Z65 rfl (bD (by rw [xU];simp;omega) ?_);have e : ([92,120,((hx (c.toNat / 16)).toNat : Int),((hx (c.toNat % 16)).toNat : Int)] : List Int) = enc [92,120,hx (c.toNat / 16),hx (c.toNat % 16)]:=rfl;rw [e,KR];exact h
theorem one_go (F : Nat → List Int → Option ByteArray) (hacc : acc.length ≤ 4194305) (h : Ev (fun k => F k (enc (acc ++ [c]))) r) :
 Ev (fun k => if (enc acc).length < 140737488355328 then F k (enc acc ++ [(c.toNat : Int)]) else none) r:=by
 refine bD (by rw [xU];omega) ?_;rw [Az];exact h
end
theorem ib_quote (c : UInt8) : (∃ t : Nat,t < 6 ∧ Lib.indexByte [10,9,13,0,34,92] c = (t : Int) ∧ ∃ y : UInt8,bt (⟨#[110,116,114,48,34,92]⟩ : ByteArray) (t : Int) = (y.toNat : Int) ∧ qb c = [92,y]) ∨
 (Lib.indexByte [10,9,13,0,34,92] c = -1 ∧ qb c = if 32 ≤ c.toNat ∧ c.toNat ≤ 126 then [c] else [92,120,hx (c.toNat / 16),hx (c.toNat % 16)]):=by
 by_cases h1 : c = 10
 · subst h1;exact .inl ⟨0,by decide,rfl,110,rfl,rfl⟩
 by_cases h2 : c = 9
 · subst h2;exact .inl ⟨1,by decide,rfl,116,rfl,rfl⟩
 by_cases h3 : c = 13
 · subst h3;exact .inl ⟨2,by decide,rfl,114,rfl,rfl⟩
 by_cases h4 : c = 0
 · subst h4;exact .inl ⟨3,by decide,rfl,48,rfl,rfl⟩
 by_cases h5 : c = 34
 · subst h5;exact .inl ⟨4,by decide,rfl,34,rfl,rfl⟩
 by_cases h6 : c = 92
 · subst h6;exact .inl ⟨5,by decide,rfl,92,rfl,rfl⟩
 refine .inr ⟨?_,?_⟩
 · have e (n : UInt8) (h : c ≠ n) : (n == c) = false:=by rw [beq_eq_false_iff_ne];exact fun x => h x.symm
   simp only [Lib.indexByte,e _ h1,e _ h2,e _ h3,e _ h4,e _ h5,e _ h6,Bool.false_eq_true,if_false];rfl
 · unfold qb;rw [if_neg h1,if_neg h2,if_neg h3,if_neg h4,if_neg h5,if_neg h6]
theorem AA (s : ByteArray) (hs : SmQ s) (d : Nat) : ∀ (i : Nat) (acc : Bs),i ≤ s.size → s.size - i = d → acc.length ≤ 4 * i + 1 →
 Ev (fun k => oz.l0 k s (enc acc) (s.size : Int) (i : Int)) ⟨(acc ++ (suf s i).flatMap qb ++ [34]).toArray⟩:=by
 unfold SmQ at hs;induction d with
 | zero =>
  intro i acc hi hd ha;refine Ev.step (fun k => by rw [oz.l0]) (dM (by omega) (bD (by rw [xU];omega) ?_));have e : enc acc ++ [34] = enc (acc ++ [34]):=Az acc 34;rw [e,Em,Z68 s i (by omega)];simp only [List.flatMap_nil,List.append_nil];exact Ev.now _
 | succ d ih =>
  intro i acc hi hd ha;obtain ⟨c,hc,hbt⟩:=nO s i (by omega);refine Ev.step (fun k => by rw [oz.l0]) (bD (by omega) (bD (by omega) (bD (by omega) ?_)));rw [hbt,hc,List.flatMap_cons,w1 i (by omega)];have next : Ev (fun k => oz.l0 k s (enc (acc ++ qb c)) (s.size : Int) ((i + 1 : Nat) : Int)) ⟨(acc ++ (qb c ++ (suf s (i + 1)).flatMap qb) ++ [34]).toArray⟩:=by
   have:=ih (i + 1) (acc ++ qb c) (by omega) (by omega) (by have:=Ik c;rw [List.length_append];omega);rw [List.append_assoc acc (qb c)] at this;exact this
  refine Z65 (show strings_IndexByte.f (⟨#[10,9,13,0,34,92]⟩ : ByteArray) (c.toNat : Int) = some (Lib.indexByte [10,9,13,0,34,92] c) by unfold strings_IndexByte.f;rw [nat8]) ?_;rcases ib_quote c with ⟨t,ht,he,y,hy,hq⟩ | ⟨he,hq⟩
  · rw [he];refine bD (by omega) (bD (by omega) (bD (by omega) ?_));rw [hy];refine yS (fun k z => oz.l0 k s z (s.size : Int) ((i + 1 : Nat) : Int)) 92 y (by omega) ?_;rw [← hq];exact next
  · rw [he];refine dM (by decide) ?_;by_cases h32 : 32 ≤ c.toNat
    · refine bD (by omega) ?_;by_cases h126 : c.toNat ≤ 126
      · rw [if_pos ⟨h32,h126⟩] at hq;refine bD (by omega) (one_go (fun k z => oz.l0 k s z (s.size : Int) ((i + 1 : Nat) : Int)) (by omega) ?_);rw [← hq];exact next
      · rw [if_neg (fun h => h126 h.2)] at hq;refine dM (by omega) (En (fun k z => oz.l0 k s z (s.size : Int) ((i + 1 : Nat) : Int)) (by omega) ?_);rw [← hq];exact next
    · rw [if_neg (fun h => h32 h.1)] at hq;refine dM (by omega) (En (fun k z => oz.l0 k s z (s.size : Int) ((i + 1 : Nat) : Int)) (by omega) ?_);rw [← hq];exact next
theorem MW (s : ByteArray) (hs : SmQ s) : Ev (fun k => oz.f k s) ⟨(quote s.data.toList).toArray⟩:=by
 unfold oz.f;exact AA s hs _ 0 [34] (by omega) rfl (by simp)
theorem AB (s : ByteArray) (hs : SmQ s) (d : Nat) : ∀ (i : Nat) (acc : Bs),i ≤ s.size → s.size - i = d → acc.length ≤ 4 * i + 1 →
 Ev (fun k => lC.l0 k s (enc acc) (i : Int)) ⟨(acc ++ (suf s i).flatMap qb ++ [34]).toArray⟩:=by
 unfold SmQ at hs;induction d with
 | zero =>
  intro i acc hi hd ha;refine Ev.step (fun k => by rw [lC.l0]) (dM (by omega) (bD (by rw [xU];omega) ?_));have e : enc acc ++ [34] = enc (acc ++ [34]):=Az acc 34;rw [e,Em,Z68 s i (by omega)];simp only [List.flatMap_nil,List.append_nil];exact Ev.now _
 | succ d ih =>
  intro i acc hi hd ha;obtain ⟨c,hc,hbt⟩:=nO s i (by omega);refine Ev.step (fun k => by rw [lC.l0]) (bD (by omega) (bD (by omega) ?_));rw [hbt,hc,List.flatMap_cons,w1 i (by omega)];have next : Ev (fun k => lC.l0 k s (enc (acc ++ qb c)) ((i + 1 : Nat) : Int)) ⟨(acc ++ (qb c ++ (suf s (i + 1)).flatMap qb) ++ [34]).toArray⟩:=by
   have:=ih (i + 1) (acc ++ qb c) (by omega) (by omega) (by have:=Ik c;rw [List.length_append];omega);rw [List.append_assoc acc (qb c)] at this;exact this
  let G : Nat → List Int → Option ByteArray:=fun k z => lC.l0 k s z ((i + 1 : Nat) : Int)
  by_cases h1 : c = 10
  · refine bD ((Z59 10 (by decide)).2 h1) (yS G 92 110 (by omega) ?_);rw [show ([92,110] : Bs) = qb c by rw [h1];rfl];exact next
  refine dM (fun h => h1 ((Z59 10 (by decide)).1 h)) ?_;by_cases h2 : c = 9
  · refine bD ((Z59 9 (by decide)).2 h2) (yS G 92 116 (by omega) ?_);rw [show ([92,116] : Bs) = qb c by rw [h2];rfl];exact next
  refine dM (fun h => h2 ((Z59 9 (by decide)).1 h)) ?_;by_cases h3 : c = 13
  · refine bD ((Z59 13 (by decide)).2 h3) (yS G 92 114 (by omega) ?_);rw [show ([92,114] : Bs) = qb c by rw [h3];rfl];exact next
  refine dM (fun h => h3 ((Z59 13 (by decide)).1 h)) ?_;by_cases h4 : c = 0
  · refine bD ((Z59 0 (by decide)).2 h4) (yS G 92 48 (by omega) ?_);rw [show ([92,48] : Bs) = qb c by rw [h4];rfl];exact next
  refine dM (fun h => h4 ((Z59 0 (by decide)).1 h)) ?_;have self (hq : qb c = [92,c]) : Ev (fun k => lC.j1 k s (enc acc) (i : Int) (c.toNat : Int) true) ⟨(acc ++ (qb c ++ (suf s (i + 1)).flatMap qb) ++ [34]).toArray⟩:=by
   refine Ev.step (fun k => by rw [lC.j1]) (bD rfl ?_);rw [w1 i (by omega)];refine yS G 92 c (by omega) ?_;rw [← hq];exact next
  by_cases h5 : c = 34
  · exact bD ((Z59 34 (by decide)).2 h5) (self (by rw [h5];rfl))
  refine dM (fun h => h5 ((Z59 34 (by decide)).1 h)) ?_;by_cases h6 : c = 92
  · rw [show ((c.toNat : Int) == 92) = true by rw [h6];rfl];exact self (by rw [h6];rfl)
  rw [show ((c.toNat : Int) == 92) = false by rw [beq_eq_false_iff_ne];exact fun h => h6 ((Z59 92 (by decide)).1 h)];have hq : qb c = if 32 ≤ c.toNat ∧ c.toNat ≤ 126 then [c] else [92,120,hx (c.toNat / 16),hx (c.toNat % 16)]:=by
   unfold qb;rw [if_neg h1,if_neg h2,if_neg h3,if_neg h4,if_neg h5,if_neg h6]
  refine Ev.step (fun k => by rw [lC.j1]) (dM (by decide) ?_);rw [w1 i (by omega)];by_cases h32 : 32 ≤ c.toNat
  · refine bD (by omega) ?_;by_cases h126 : c.toNat ≤ 126
    · rw [if_pos ⟨h32,h126⟩] at hq;refine bD (by omega) (one_go G (by omega) ?_);rw [← hq];exact next
    · rw [if_neg (fun h => h126 h.2)] at hq;refine dM (by omega) (En G (by omega) ?_);rw [← hq];exact next
  · rw [if_neg (fun h => h32 h.1)] at hq;refine dM (by omega) (En G (by omega) ?_);rw [← hq];exact next
theorem MX (s : ByteArray) (hs : SmQ s) : Ev (fun k => lC.f k s) ⟨(quote s.data.toList).toArray⟩:=by
 unfold lC.f;exact AB s hs _ 0 [34] (by omega) rfl (by simp)
end Go.Proofs.YtboojhadfhpdeaaGreatDoor.Lex
