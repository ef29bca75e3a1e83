/- A part of the proof, made small by a program: Lq, U1, U2, U3, U4, U5, U6, U7, U8, U9, U10, U11, U12, U13, U14. -/
import Derived.Test.YtboojhadfhpdeaaGreatDoorVq4
import Derived.Test.YtboojhadfhpdeaaGreatDoorVq8
import Derived.Test.YtboojhadfhpdeaaGreatDoorVq20
import Derived.Test.YtboojhadfhpdeaaGreatDoorVq21
set_option linter.unusedVariables false
set_option linter.unusedSimpArgs false
set_option maxHeartbeats 8000000
set_option maxRecDepth 100000
namespace Go.Proofs.YtboojhadfhpdeaaGreatDoor.Lex
open Go.RowKit Go.Proofs.YtboojhadfhpdeaaGreatDoorW.PrintWords Go.Proofs.YtboojhadfhpdeaaGreatDoor.Q
theorem nat8 (c : UInt8) : ((c.toNat : Int)).toNat.toUInt8 = c:=by
 rw [Int.toNat_natCast];simp
def enc (l : Bs) : List Int:=l.map fun b => (b.toNat : Int)
theorem Lc (l : Bs) (b : UInt8) : enc l ++ [(b.toNat : Int)] = enc (l ++ [b]):=by simp [enc]
theorem CG (l : Bs) : (enc l).length = l.length:=by simp [enc]
theorem enc_str (l : Bs) : strOfNums (enc l) = ⟨l.toArray⟩:=by
 unfold strOfNums enc;rw [List.map_map];congr 2
 conv => rhs;rw [← List.map_id l]
 apply List.map_congr_left;intro x _;simp
abbrev SmQ (s : ByteArray) : Prop:=s.size ≤ 1048576
def hx (n : Nat) : UInt8:=UInt8.ofNat (if n < 10 then 48 + n else 87 + n)
def qb (c : UInt8) : Bs :=
 if c = 10 then [92,110] else if c = 9 then [92,116] else if c = 13 then [92,114] else if c = 0 then [92,48]
 else if c = 34 then [92,34] else if c = 92 then [92,92]
 else if 32 ≤ c.toNat ∧ c.toNat ≤ 126 then [c] else [92,120,hx (c.toNat / 16),hx (c.toNat % 16)]
def quote (s : Bs) : Bs:=[34] ++ s.flatMap qb ++ [34]
theorem qb_len (c : UInt8) : (qb c).length ≤ 4:=by
 unfold qb
 repeat' split
 all_goals simp
theorem hx_at : ∀ n : Fin 16,bt (⟨#[48,49,50,51,52,53,54,55,56,57,97,98,99,100,101,102]⟩ : ByteArray) (n.val : Int) = ((hx n.val).toNat : Int):=by decide +kernel
theorem and_all : ∀ c : Fin 256,bits .and .u8 (c.val : Int) 15 = ((c.val % 16 : Nat) : Int):=by decide +kernel
theorem and15 (c : UInt8) : bits .and .u8 (c.toNat : Int) 15 = ((c.toNat % 16 : Nat) : Int):=and_all ⟨c.toNat,c.toNat_lt⟩
theorem hx_bt (n : Nat) (h : n < 16) : bt (⟨#[48,49,50,51,52,53,54,55,56,57,97,98,99,100,101,102]⟩ : ByteArray) (n : Int) = ((hx n).toNat : Int):=hx_at ⟨n,h⟩
theorem Qo (a b : Bs) : enc a ++ enc b = enc (a ++ b):=by simp [enc]
theorem sh4 (c : UInt8) : (c.toNat : Int) / 16 = ((c.toNat / 16 : Nat) : Int):=by omega
section
variable {r : ByteArray} {acc : Bs} {c : UInt8}
theorem two_go (F : Nat → List Int → Option ByteArray) (x y : UInt8) (hacc : acc.length ≤ 4194305) (h : Ev (fun k => F k (enc (acc ++ [x,y]))) r) :
 Ev (fun k => (some ([(x.toNat : Int),(y.toNat : Int)] : List Int)).bind fun z => if (enc acc).length + z.length < 140737488355328 then F k (enc acc ++ z) else none) r:=by
 refine qF rfl (eH (by rw [CG];simp;omega) ?_);have e : ([(x.toNat : Int),(y.toNat : Int)] : List Int) = enc [x,y]:=rfl;rw [e,Qo];exact h
theorem hex_go (F : Nat → List Int → Option ByteArray) (hacc : acc.length ≤ 4194305) (h : Ev (fun k => F k (enc (acc ++ [92,120,hx (c.toNat / 16),hx (c.toNat % 16)]))) r) :
 Ev (fun k => if 0 ≤ ((c.toNat : Int) / 16) then (if ((c.toNat : Int) / 16) < 16 then (if 0 ≤ (Go.bits .and .u8 (c.toNat : Int) 15) then (if (Go.bits .and .u8 (c.toNat : Int) 15) < 16 then ((some (([92,120,bt (⟨#[48,49,50,51,52,53,54,55,56,57,97,98,99,100,101,102]⟩ : ByteArray) ((c.toNat : Int) / 16),bt (⟨#[48,49,50,51,52,53,54,55,56,57,97,98,99,100,101,102]⟩ : ByteArray) (Go.bits .and .u8 (c.toNat : Int) 15)] : List Int) : List Int)).bind fun y402 => (if (enc acc).length + y402.length < 140737488355328 then F k (enc acc ++ y402) else (none))) else (none)) else (none)) else (none)) else (none)) r:=by
 have hc:=c.toNat_lt;rw [and15,sh4];refine eH (by omega) (eH (by omega) (eH (by omega) (eH (by omega) ?_)));rw [hx_bt _ (by omega),hx_bt _ (by omega)];refine qF rfl (eH (by rw [CG];simp;omega) ?_);have e : ([92,120,((hx (c.toNat / 16)).toNat : Int),((hx (c.toNat % 16)).toNat : Int)] : List Int) = enc [92,120,hx (c.toNat / 16),hx (c.toNat % 16)]:=rfl;rw [e,Qo];exact h
theorem one_go (F : Nat → List Int → Option ByteArray) (hacc : acc.length ≤ 4194305) (h : Ev (fun k => F k (enc (acc ++ [c]))) r) :
 Ev (fun k => if (enc acc).length < 140737488355328 then F k (enc acc ++ [(c.toNat : Int)]) else none) r:=by
 refine eH (by rw [CG];omega) ?_;rw [Lc];exact h
end
theorem ib_quote (c : UInt8) : (∃ t : Nat,t < 6 ∧ Lib.indexByte [10,9,13,0,34,92] c = (t : Int) ∧ ∃ y : UInt8,bt (⟨#[110,116,114,48,34,92]⟩ : ByteArray) (t : Int) = (y.toNat : Int) ∧ qb c = [92,y]) ∨
 (Lib.indexByte [10,9,13,0,34,92] c = -1 ∧ qb c = if 32 ≤ c.toNat ∧ c.toNat ≤ 126 then [c] else [92,120,hx (c.toNat / 16),hx (c.toNat % 16)]):=by
 by_cases h1 : c = 10
 · subst h1;exact .inl ⟨0,by decide,rfl,110,rfl,rfl⟩
 by_cases h2 : c = 9
 · subst h2;exact .inl ⟨1,by decide,rfl,116,rfl,rfl⟩
 by_cases h3 : c = 13
 · subst h3;exact .inl ⟨2,by decide,rfl,114,rfl,rfl⟩
 by_cases h4 : c = 0
 · subst h4;exact .inl ⟨3,by decide,rfl,48,rfl,rfl⟩
 by_cases h5 : c = 34
 · subst h5;exact .inl ⟨4,by decide,rfl,34,rfl,rfl⟩
 by_cases h6 : c = 92
 · subst h6;exact .inl ⟨5,by decide,rfl,92,rfl,rfl⟩
 refine .inr ⟨?_,?_⟩
 · have e (n : UInt8) (h : c ≠ n) : (n == c) = false:=by rw [beq_eq_false_iff_ne];exact fun x => h x.symm
   simp only [Lib.indexByte,e _ h1,e _ h2,e _ h3,e _ h4,e _ h5,e _ h6,Bool.false_eq_true,if_false];rfl
 · unfold qb;rw [if_neg h1,if_neg h2,if_neg h3,if_neg h4,if_neg h5,if_neg h6]
theorem Eo (s : ByteArray) (hs : SmQ s) (d : Nat) : ∀ (i : Nat) (acc : Bs),i ≤ s.size → s.size - i = d → acc.length ≤ 4 * i + 1 →
 Ev (fun k => bT.l0 k s (enc acc) (s.size : Int) (i : Int)) ⟨(acc ++ (suf s i).flatMap qb ++ [34]).toArray⟩:=by
 unfold SmQ at hs;induction d with
 | zero =>
  intro i acc hi hd ha;refine Ev.step (fun k => by rw [bT.l0]) (iQ (by omega) (eH (by rw [CG];omega) ?_));have e : enc acc ++ [34] = enc (acc ++ [34]):=Lc acc 34;rw [e,enc_str,xH s i (by omega)];simp only [List.flatMap_nil,List.append_nil];exact Ev.now _
 | succ d ih =>
  intro i acc hi hd ha;obtain ⟨c,hc,hbt⟩:=sU s i (by omega);refine Ev.step (fun k => by rw [bT.l0]) (eH (by omega) (eH (by omega) (eH (by omega) ?_)));rw [hbt,hc,List.flatMap_cons,w1 i (by omega)];have next : Ev (fun k => bT.l0 k s (enc (acc ++ qb c)) (s.size : Int) ((i + 1 : Nat) : Int)) ⟨(acc ++ (qb c ++ (suf s (i + 1)).flatMap qb) ++ [34]).toArray⟩:=by
   have:=ih (i + 1) (acc ++ qb c) (by omega) (by omega) (by have:=qb_len c;rw [List.length_append];omega);rw [List.append_assoc acc (qb c)] at this;exact this
  refine qF (show strings_IndexByte.f (⟨#[10,9,13,0,34,92]⟩ : ByteArray) (c.toNat : Int) = some (Lib.indexByte [10,9,13,0,34,92] c) by unfold strings_IndexByte.f;rw [nat8]) ?_;rcases ib_quote c with ⟨t,ht,he,y,hy,hq⟩ | ⟨he,hq⟩
  · rw [he];refine eH (by omega) (eH (by omega) (eH (by omega) ?_));rw [hy];refine two_go (fun k z => bT.l0 k s z (s.size : Int) ((i + 1 : Nat) : Int)) 92 y (by omega) ?_;rw [← hq];exact next
  · rw [he];refine iQ (by decide) ?_;by_cases h32 : 32 ≤ c.toNat
    · refine eH (by omega) ?_;by_cases h126 : c.toNat ≤ 126
      · rw [if_pos ⟨h32,h126⟩] at hq;refine eH (by omega) (one_go (fun k z => bT.l0 k s z (s.size : Int) ((i + 1 : Nat) : Int)) (by omega) ?_);rw [← hq];exact next
      · rw [if_neg (fun h => h126 h.2)] at hq;refine iQ (by omega) (hex_go (fun k z => bT.l0 k s z (s.size : Int) ((i + 1 : Nat) : Int)) (by omega) ?_);rw [← hq];exact next
    · rw [if_neg (fun h => h32 h.1)] at hq;refine iQ (by omega) (hex_go (fun k z => bT.l0 k s z (s.size : Int) ((i + 1 : Nat) : Int)) (by omega) ?_);rw [← hq];exact next
theorem Rt (s : ByteArray) (hs : SmQ s) : Ev (fun k => bT.f k s) ⟨(quote s.data.toList).toArray⟩:=by
 unfold bT.f;exact Eo s hs _ 0 [34] (by omega) rfl (by simp)
end Go.Proofs.YtboojhadfhpdeaaGreatDoor.Lex
namespace Go.Proofs.YtboojhadfhpdeaaGreatDoor.Q
open Go.RowKit Go.Proofs.YtboojhadfhpdeaaGreatDoorW.PrintWords Go.Proofs.YtboojhadfhpdeaaGreatDoorW.PrintLast Go.Proofs.YtboojhadfhpdeaaGreatDoorW.PrintMore
open Go.Proofs.YtboojhadfhpdeaaGreatDoor.Lex
def NG (s : ByteArray) : Int:=if s.toList = ([124,124] : List UInt8) then 2 else if s.toList = ([38,38] : List UInt8) then 3 else if s.toList = ([124] : List UInt8) then 4 else if s.toList = ([94] : List UInt8) then 5 else if s.toList = ([38] : List UInt8) then 6 else if s.toList = ([61,61] : List UInt8) ∨ s.toList = ([33,61] : List UInt8) then 7 else if s.toList = ([60] : List UInt8) ∨ s.toList = ([62] : List UInt8) ∨ s.toList = ([60,61] : List UInt8) ∨ s.toList = ([62,61] : List UInt8) then 8 else if s.toList = ([60,60] : List UInt8) ∨ s.toList = ([62,62] : List UInt8) then 9 else if s.toList = ([43] : List UInt8) ∨ s.toList = ([45] : List UInt8) then 10 else 11
def lv (x : bn) : Int:=if x.f0 = 13 then 0 else if x.f0 = 12 then 1 else if x.f0 = 10 ∨ x.f0 = 11 then NG x.f1 else if x.f0 = 9 ∨ x.f0 = 14 ∨ x.f0 = 15 then 12 else 13
def qU (e : bn → List Int) (y : bn) (k : Int) : List Int:=if lv y < k then bytesOf ⟨#[40]⟩ ++ (e y ++ bytesOf ⟨#[41]⟩) else e y
def F5 (e : bn → List Int) : Bool → List bn → List Int
 | _,[] => []
 | b,y :: ys => (if b = true then [] else bytesOf ⟨#[44,32]⟩) ++ (qU e y 0 ++ F5 e false ys)
abbrev hexS : ByteArray:=⟨#[48,49,50,51,52,53,54,55,56,57,97,98,99,100,101,102]⟩
def quoS (s : ByteArray) : ByteArray:=⟨(quote s.data.toList).toArray⟩
def ex1 (x : bn) : List Int:=bytesOf (decS x.f2) ++ (if x.f3 = true then bytesOf ⟨#[117]⟩ else [])
def ex2 (x : bn) : List Int:=bytesOf ⟨#[39,92,120]⟩ ++ (bytesOf (hexS.extract (x.f2 / 16).toNat ((x.f2 / 16).toNat + 1)) ++ (bytesOf (hexS.extract (x.f2 % 16).toNat ((x.f2 % 16).toNat + 1)) ++ bytesOf ⟨#[39]⟩))
def ex3 (x : bn) : List Int:=bytesOf (quoS x.f1)
def ex4 (x : bn) : List Int:=bytesOf x.f1
def ex5 (e : bn → List Int) (x : bn) : List Int:=qU e (nd x.f4 0) 13 ++ (bytesOf ⟨#[91]⟩ ++ (qU e (nd x.f4 1) 0 ++ bytesOf ⟨#[93]⟩))
def ex6 (e : bn → List Int) (x : bn) : List Int:=qU e (nd x.f4 0) 13 ++ (bytesOf ⟨#[46]⟩ ++ bytesOf x.f1)
def ex7 (e : bn → List Int) (x : bn) : List Int:=qU e (nd x.f4 0) 13 ++ (bytesOf ⟨#[45,62]⟩ ++ bytesOf x.f1)
def ex8 (e : bn → List Int) (x : bn) : List Int:=bytesOf x.f1 ++ (bytesOf ⟨#[40]⟩ ++ (F5 e true x.f4 ++ bytesOf ⟨#[41]⟩))
def ex9 (e : bn → List Int) (x : bn) : List Int:=bytesOf x.f1 ++ ((if (nd x.f4 0).f0 = 9 ∧ (nd x.f4 0).f1.toList = x.f1.toList then bytesOf ⟨#[32]⟩ else []) ++ qU e (nd x.f4 0) 12)
def Jl (e : bn → List Int) (x : bn) : List Int:=qU e (nd x.f4 0) (NG x.f1) ++ (bytesOf ⟨#[32]⟩ ++ (bytesOf x.f1 ++ (bytesOf ⟨#[32]⟩ ++ qU e (nd x.f4 1) (NG x.f1 + 1))))
def Ru (e : bn → List Int) (x : bn) : List Int:=qU e (nd x.f4 0) 2 ++ (bytesOf ⟨#[32,63,32]⟩ ++ (qU e (nd x.f4 1) 0 ++ (bytesOf ⟨#[32,58,32]⟩ ++ qU e (nd x.f4 2) 1)))
def Rw (e : bn → List Int) (x : bn) : List Int:=qU e (nd x.f4 0) 13 ++ (bytesOf ⟨#[32]⟩ ++ (bytesOf x.f1 ++ (bytesOf ⟨#[32]⟩ ++ qU e (nd x.f4 1) 0)))
def Rx (e : bn → List Int) (x : bn) : List Int:=bytesOf ⟨#[40]⟩ ++ (bytesOf (nd x.f4 0).f1 ++ (bytesOf ⟨#[41]⟩ ++ qU e (nd x.f4 1) 12))
def Jm (e : bn → List Int) (x : bn) : List Int:=if (nd x.f4 0).f0 = 16 then bytesOf ⟨#[115,105,122,101,111,102,40]⟩ ++ (bytesOf (nd x.f4 0).f1 ++ bytesOf ⟨#[41]⟩) else if (nd x.f4 0).f0 = 14 then bytesOf ⟨#[115,105,122,101,111,102,32,40]⟩ ++ (e (nd x.f4 0) ++ bytesOf ⟨#[41]⟩) else bytesOf ⟨#[115,105,122,101,111,102,32]⟩ ++ qU e (nd x.f4 0) 12
def iy : Nat → bn → List Int
 | 0,_ => []
 | n + 1,x => if x.f0 = 1 then ex1 x else if x.f0 = 2 then ex2 x else if x.f0 = 3 then ex3 x else if x.f0 = 4 then ex4 x else if x.f0 = 5 then ex5 (iy n) x else if x.f0 = 6 then ex6 (iy n) x else if x.f0 = 7 then ex7 (iy n) x else if x.f0 = 8 then ex8 (iy n) x else if x.f0 = 9 then ex9 (iy n) x else if x.f0 = 10 ∨ x.f0 = 11 then Jl (iy n) x else if x.f0 = 12 then Ru (iy n) x else if x.f0 = 13 then Rw (iy n) x else if x.f0 = 14 then Rx (iy n) x else if x.f0 = 15 then Jm (iy n) x else []
theorem Qp {n : Nat} {x : bn} (h : x.f0 = 1) : iy (n + 1) x = ex1 x:=by unfold iy;simp [h]
theorem exT_2 {n : Nat} {x : bn} (h : x.f0 = 2) : iy (n + 1) x = ex2 x:=by unfold iy;simp [h]
theorem exT_3 {n : Nat} {x : bn} (h : x.f0 = 3) : iy (n + 1) x = ex3 x:=by unfold iy;simp [h]
theorem exT_4 {n : Nat} {x : bn} (h : x.f0 = 4) : iy (n + 1) x = ex4 x:=by unfold iy;simp [h]
theorem exT_5 {n : Nat} {x : bn} (h : x.f0 = 5) : iy (n + 1) x = ex5 (iy n) x:=by unfold iy;simp [h]
theorem exT_6 {n : Nat} {x : bn} (h : x.f0 = 6) : iy (n + 1) x = ex6 (iy n) x:=by unfold iy;simp [h]
theorem exT_7 {n : Nat} {x : bn} (h : x.f0 = 7) : iy (n + 1) x = ex7 (iy n) x:=by unfold iy;simp [h]
theorem exT_8 {n : Nat} {x : bn} (h : x.f0 = 8) : iy (n + 1) x = ex8 (iy n) x:=by unfold iy;simp [h]
theorem Qq {n : Nat} {x : bn} (h : x.f0 = 9) : iy (n + 1) x = ex9 (iy n) x:=by unfold iy;simp [h]
theorem exT_10 {n : Nat} {x : bn} (h : x.f0 = 10) : iy (n + 1) x = Jl (iy n) x:=by unfold iy;simp [h]
theorem exT_11 {n : Nat} {x : bn} (h : x.f0 = 11) : iy (n + 1) x = Jl (iy n) x:=by unfold iy;simp [h]
theorem exT_12 {n : Nat} {x : bn} (h : x.f0 = 12) : iy (n + 1) x = Ru (iy n) x:=by unfold iy;simp [h]
theorem exT_13 {n : Nat} {x : bn} (h : x.f0 = 13) : iy (n + 1) x = Rw (iy n) x:=by unfold iy;simp [h]
theorem NH {n : Nat} {x : bn} (h : x.f0 = 14) : iy (n + 1) x = Rx (iy n) x:=by unfold iy;simp [h]
theorem Ep {n : Nat} {x : bn} (h : x.f0 = 15) : iy (n + 1) x = Jm (iy n) x:=by unfold iy;simp [h]
theorem Es (w : Bs) (h0 : w.isEmpty = false) (hw : w.contains 32 = false) : ∀ vs : List Bs,(∀ v ∈ vs,v.contains 32 = false) → uS ([32] ++ w ++ [32]) (32 :: vs.flatMap fun v => v ++ [32]) = vs.any fun v => w == v
 | [],_ => J7 w h0 hw
 | v :: vs,h => by
  have:=Es w h0 hw vs fun v hv => h v (List.mem_cons_of_mem _ hv)
  rw [List.flatMap_cons,List.any_cons,← this,show (v ++ [32]) ++ (vs.flatMap fun v => v ++ [32]) = v ++ 32 :: (vs.flatMap fun v => v ++ [32]) from by simp];exact uT w v _ hw (h v List.mem_cons_self)
theorem Jo {l s : ByteArray} (vs : List Bs) (hl : [32] ++ l.data.toList ++ [32] = 32 :: vs.flatMap fun v => v ++ [32]) (hv : (vs.all fun v => !v.contains 32) = true) (h : wC l s = true) : s.data.toList ∈ vs:=by
 unfold wC IJ at h;rw [hl] at h;simp only [Bool.and_eq_true,Bool.not_eq_true'] at h;obtain ⟨⟨h0,h1⟩,h2⟩:=h;rw [Es _ h0 h1 vs (fun v h => by have:=List.all_eq_true.1 hv v h;simpa using this)] at h2;obtain ⟨v,hv,e⟩:=List.any_eq_true.1 h2;rw [beq_iff_eq.1 e];exact hv
theorem one_un {s : ByteArray} (h : wC ⟨#[45,32,126,32,33,32,38]⟩ s = true) : s.data.toList ∈ ([[45],[126],[33],[38]] : List Bs):=Jo _ (by decide) (by decide) h
theorem one_bi {s : ByteArray} (h : wC ⟨#[42,32,47,32,37,32,43,32,45,32,60,60,32,62,62,32,60,32,62,32,60,61,32,62,61,32,61,61,32,33,61,32,38,32,94,32,124]⟩ s = true) : s.data.toList ∈ ([[42],[47],[37],[43],[45],[60,60],[62,62],[60],[62],[60,61],[62,61],[61,61],[33,61],[38],[94],[124]] : List Bs):=Jo _ (by decide) (by decide) h
theorem one_lo {s : ByteArray} (h : wC ⟨#[38,38,32,124,124]⟩ s = true) : s.data.toList ∈ ([[38,38],[124,124]] : List Bs):=Jo _ (by decide) (by decide) h
theorem ba_of {s : ByteArray} {l : Bs} (h : s.data.toList = l) : s = ⟨l.toArray⟩:=by rw [← h]
theorem iq {x : bn} (h : jh x = true) : 1 ≤ x.f0 ∧ x.f0 ≤ 15 ∧ (x.f0 = 1 ∨ x.f3 = false) ∧ dS x = true ∧ ∀ y ∈ x.f4,ji y = true:=by
 unfold jh at h;rw [Bool.and_eq_true] at h;obtain ⟨h1,h2⟩:=h;obtain ⟨h3,h4⟩:=(Qm x).1 h1;rw [mayT_E h3 (by omega)] at h2;simp only [Bool.and_eq_true,Bool.or_eq_true,decide_eq_true_eq,Bool.not_eq_true',List.all_eq_true] at h2;exact ⟨h3,h4,h2.1.1,h2.1.2,h2.2⟩
theorem Qr {x : bn} (h : jh x = true) (hk : x.f0 = 10 ∨ x.f0 = 11) : x.f1.data.toList ∈ ([[42],[47],[37],[43],[45],[60,60],[62,62],[60],[62],[60,61],[62,61],[61,61],[33,61],[38],[94],[124]] : List Bs) ∨ x.f1.data.toList ∈ ([[38,38],[124,124]] : List Bs):=by
 have h1:=(iq h).2.2.2.1;rcases hk with hk|hk
 · rw [show dS x = e10 x from by unfold dS;simp [hk]] at h1;unfold e10 at h1;simp only [Bool.and_eq_true] at h1;exact .inl (one_bi h1.1.2)
 · rw [show dS x = e11 x from by unfold dS;simp [hk]] at h1;unfold e11 at h1;simp only [Bool.and_eq_true] at h1;exact .inr (one_lo h1.1.2)
theorem Jp {s : ByteArray} (h : s.data.toList ∈ ([[42],[47],[37],[43],[45],[60,60],[62,62],[60],[62],[60,61],[62,61],[61,61],[33,61],[38],[94],[124]] : List Bs) ∨ s.data.toList ∈ ([[38,38],[124,124]] : List Bs)) : dQ.f 20 s = some (NG s):=by
 simp only [List.mem_cons,List.not_mem_nil,or_false] at h;rcases h with (h|h|h|h|h|h|h|h|h|h|h|h|h|h|h|h)|(h|h) <;> rw [ba_of h] <;> kernel_rfl
theorem lv_ast {x : bn} (h : jh x = true) : gG.f 21 x.f0 x.f1 x.f2 x.f3 x.f4 x.f5 = some (lv x):=by
 unfold gG.f gG.j0 lv;by_cases h1 : x.f0 = 13
 · simp [h1]
 by_cases h2 : x.f0 = 12
 · simp [h2]
 by_cases h3 : x.f0 = 10
 · simp [h3,Jp (Qr h (.inl h3))]
 by_cases h4 : x.f0 = 11
 · simp [h4,Jp (Qr h (.inr h4))]
 by_cases h5 : x.f0 = 9
 · simp [h5]
 by_cases h6 : x.f0 = 14
 · simp [h6]
 by_cases h7 : x.f0 = 15
 · simp [h7]
 simp [h1,h2,h3,h4,h5,h6,h7]
theorem jk {x : bn} (h : ∀ y ∈ x.f4,ji y = true) {i : Nat} (hi : i < x.f4.length) : ji (nd x.f4 i) = true:=h _ (fH hi)
theorem kK {x : bn} (h1 : oG x = true) (h2 : ji x = true) : jh x = true:=by unfold jh;rw [h1,h2];rfl
theorem ex_5 {x : bn} (h : jh x = true) (hk : x.f0 = 5) : x.f4.length = 2 ∧ jh (nd x.f4 0) = true ∧ jh (nd x.f4 1) = true:=by
 obtain ⟨_,_,_,h1,h2⟩:=iq h;rw [show dS x = e5 x from by unfold dS;simp [hk]] at h1;unfold e5 at h1;simp only [Bool.and_eq_true,gE,Ez,zK,Nj,List.map_cons,List.map_nil,shape2,decide_eq_true_eq] at h1;exact ⟨h1.2.1,kK h1.2.2.1 (jk h2 (by omega)),kK h1.2.2.2 (jk h2 (by omega))⟩
theorem ex_6 {x : bn} (h : jh x = true) (hk : x.f0 = 6) : x.f4.length = 1 ∧ jh (nd x.f4 0) = true:=by
 obtain ⟨_,_,_,h1,h2⟩:=iq h;rw [show dS x = e6 x from by unfold dS;simp [hk]] at h1;unfold e6 at h1;simp only [Bool.and_eq_true,gE,Ez,zK,Nj,List.map_cons,List.map_nil,yh,decide_eq_true_eq] at h1;exact ⟨h1.2.1,kK h1.2.2 (jk h2 (by omega))⟩
theorem ex_7 {x : bn} (h : jh x = true) (hk : x.f0 = 7) : x.f4.length = 1 ∧ jh (nd x.f4 0) = true:=by
 obtain ⟨_,_,_,h1,h2⟩:=iq h;rw [show dS x = e6 x from by unfold dS;simp [hk]] at h1;unfold e6 at h1;simp only [Bool.and_eq_true,gE,Ez,zK,Nj,List.map_cons,List.map_nil,yh,decide_eq_true_eq] at h1;exact ⟨h1.2.1,kK h1.2.2 (jk h2 (by omega))⟩
theorem ex_9 {x : bn} (h : jh x = true) (hk : x.f0 = 9) : x.f4.length = 1 ∧ jh (nd x.f4 0) = true:=by
 obtain ⟨_,_,_,h1,h2⟩:=iq h;rw [show dS x = e9 x from by unfold dS;simp [hk]] at h1;unfold e9 at h1;simp only [Bool.and_eq_true,gE,Ez,zK,Nj,List.map_cons,List.map_nil,yh,decide_eq_true_eq] at h1;exact ⟨h1.2.1,kK h1.2.2 (jk h2 (by omega))⟩
theorem ex_10 {x : bn} (h : jh x = true) (hk : x.f0 = 10) : x.f4.length = 2 ∧ jh (nd x.f4 0) = true ∧ jh (nd x.f4 1) = true:=by
 obtain ⟨_,_,_,h1,h2⟩:=iq h;rw [show dS x = e10 x from by unfold dS;simp [hk]] at h1;unfold e10 at h1;simp only [Bool.and_eq_true,gE,Ez,zK,Nj,List.map_cons,List.map_nil,shape2,decide_eq_true_eq] at h1;exact ⟨h1.2.1,kK h1.2.2.1 (jk h2 (by omega)),kK h1.2.2.2 (jk h2 (by omega))⟩
theorem ex_11 {x : bn} (h : jh x = true) (hk : x.f0 = 11) : x.f4.length = 2 ∧ jh (nd x.f4 0) = true ∧ jh (nd x.f4 1) = true:=by
 obtain ⟨_,_,_,h1,h2⟩:=iq h;rw [show dS x = e11 x from by unfold dS;simp [hk]] at h1;unfold e11 at h1;simp only [Bool.and_eq_true,gE,Ez,zK,Nj,List.map_cons,List.map_nil,shape2,decide_eq_true_eq] at h1;exact ⟨h1.2.1,kK h1.2.2.1 (jk h2 (by omega)),kK h1.2.2.2 (jk h2 (by omega))⟩
theorem ex_12 {x : bn} (h : jh x = true) (hk : x.f0 = 12) : x.f4.length = 3 ∧ jh (nd x.f4 0) = true ∧ jh (nd x.f4 1) = true ∧ jh (nd x.f4 2) = true:=by
 obtain ⟨_,_,_,h1,h2⟩:=iq h;rw [show dS x = e12 x from by unfold dS;simp [hk]] at h1;unfold e12 at h1;simp only [Bool.and_eq_true,gE,Ez,zK,Nj,List.map_cons,List.map_nil,shape3,decide_eq_true_eq] at h1;exact ⟨h1.2.1,kK h1.2.2.1.1 (jk h2 (by omega)),kK h1.2.2.1.2 (jk h2 (by omega)),kK h1.2.2.2 (jk h2 (by omega))⟩
theorem ex_13 {x : bn} (h : jh x = true) (hk : x.f0 = 13) : x.f4.length = 2 ∧ jh (nd x.f4 0) = true ∧ jh (nd x.f4 1) = true:=by
 obtain ⟨_,_,_,h1,h2⟩:=iq h;rw [show dS x = e13 x from by unfold dS;simp [hk]] at h1;unfold e13 at h1;simp only [Bool.and_eq_true,gE,Ez,zK,Nj,List.map_cons,List.map_nil,shape2,decide_eq_true_eq] at h1;exact ⟨h1.2.1,kK (isP_E h1.2.2.1) (jk h2 (by omega)),kK h1.2.2.2 (jk h2 (by omega))⟩
theorem ex_8 {x : bn} (h : jh x = true) (hk : x.f0 = 8) : ∀ y ∈ x.f4,jh y = true:=by
 obtain ⟨_,_,_,h1,h2⟩:=iq h;rw [show dS x = e8 x from by unfold dS;simp [hk]] at h1;unfold e8 at h1;simp only [Bool.and_eq_true,List.all_eq_true] at h1;exact fun y hy => kK (h1.2 y hy) (h2 y hy)
theorem ex_14 {x : bn} (h : jh x = true) (hk : x.f0 = 14) : x.f4.length = 2 ∧ jh (nd x.f4 1) = true:=by
 obtain ⟨_,_,_,h1,h2⟩:=iq h;rw [show dS x = e14 x from by unfold dS;simp [hk]] at h1;unfold e14 at h1;simp only [Bool.and_eq_true,shape2,decide_eq_true_eq] at h1;exact ⟨h1.2.1,kK h1.2.2.2 (jk h2 (by omega))⟩
theorem F6 {x : bn} (h : jh x = true) (hk : x.f0 = 15) : x.f4.length = 1 ∧ ((nd x.f4 0).f0 = 16 ∨ jh (nd x.f4 0) = true):=by
 obtain ⟨_,_,_,h1,h2⟩:=iq h;rw [show dS x = e15 x from by unfold dS;simp [hk]] at h1;unfold e15 at h1;simp only [Bool.and_eq_true,gT,List.map_cons,List.map_nil,yh,decide_eq_true_eq,Bool.or_eq_true] at h1;refine ⟨h1.2.1,?_⟩;rcases h1.2.2 with h3|h3
 · exact .inl h3
 · exact .inr (kK h3 (jk h2 (by omega)))
theorem ex_2 {x : bn} (h : jh x = true) (hk : x.f0 = 2) : x.f2 < 256:=by
 have h1:=(iq h).2.2.2.1;rw [show dS x = e2 x from by unfold dS;simp [hk]] at h1;unfold e2 at h1;simp only [Bool.and_eq_true,decide_eq_true_eq] at h1;exact h1.1.2
def lX (n : Nat) (y : bn) : Prop:=∀ (p : Nat) (w0 w : World) (F r : List Int) (A : Option Addr) (c : Nat),St false p w0 F (iy n y ++ r) w → ND w0 y A c → Calls Tryz.prog 100 #[.pointer (some ⟨p,0,none⟩),val y A c] w (nY false p w0 F r (.tuple #[]) w)
theorem lX.go {n : Nat} {y : bn} {p : Nat} {w0 w : World} {F r : List Int} {A : Option Addr} {c : Nat} (h : lX n y) (st : St false p w0 F (iy n y ++ r) w) (hn : ND w0 y A c) : Calls Tryz.prog 100 #[.pointer (some ⟨p,0,none⟩),val y A c] w (nY false p w0 F r (.tuple #[]) w):=h p w0 w F r A c st hn
theorem yA.all {n : Nat} {k : Int} {p : Nat} {w0 w : World} {F r : List Int} {x : bn} {A : Option Addr} {c : Nat} (hk : lX n x) (hx : jh x = true) (h : St false p w0 F (qU (iy n) x k ++ r) w) (hn : ND w0 x A c) : Calls Tryz.prog 85 #[.pointer (some ⟨p,0,none⟩),val x A c,.int .i64 k] w (nY false p w0 F r (.tuple #[]) w):=by
 have HK:=ah.mk hk;have HL:=ah.mk (lv_ast hx);clear hk hx;unfold qU at h;cases hlt : decide (lv x < k)
 · rw [if_neg (of_decide_eq_false hlt)] at h;have E:=PE.start h hn;clear h hn;go_enter Tryz.func85,Tryz.ntmps85
   go_wp2_with (first
    | (go_at_call 99;(try clear c0 c1 c2 c3 c4 c5);(with_reducible refine PE.still E E.out (gG.calls 21 x.f0 x.f1 x.f2 x.f3 A c x.f4 x.f5 (lv x) _ E.out.kids E.out.k.le E.out.kQ HL.out) (fun w1 E c0 c1 c2 c3 c4 c5 => ?_)))
    | (go_at_call 54;(try clear c0 c1 c2 c3 c4 c5);(with_reducible first|refine PE.jI E ?_|refine PE.jS E ?_|refine PE.jW E ?_|refine PE.jE E ?_);intro w1 E c0 c1 c2 c3 c4 c5)
    | (go_at_call 100;(try clear c0 c1 c2 c3 c4 c5);(with_reducible refine PE.call E E.out (fun st => HK.out.go st E.out.k) (fun w1 E c0 c1 c2 c3 c4 c5 => ?_)))
    | fail)
   first|go_end0|(refine bodyPost_ret (results_none rfl _ _ _) rfl ?_)
   exact ⟨rfl,E.out.st,E.out.fr⟩
 · rw [if_pos (of_decide_eq_true hlt)] at h;simp only [List.append_assoc] at h;have E:=PE.start h hn;clear h hn;go_enter Tryz.func85,Tryz.ntmps85
   go_wp2_with (first
    | (go_at_call 99;(try clear c0 c1 c2 c3 c4 c5);(with_reducible refine PE.still E E.out (gG.calls 21 x.f0 x.f1 x.f2 x.f3 A c x.f4 x.f5 (lv x) _ E.out.kids E.out.k.le E.out.kQ HL.out) (fun w1 E c0 c1 c2 c3 c4 c5 => ?_)))
    | (go_at_call 54;(try clear c0 c1 c2 c3 c4 c5);(with_reducible first|refine PE.jI E ?_|refine PE.jS E ?_|refine PE.jW E ?_|refine PE.jE E ?_);intro w1 E c0 c1 c2 c3 c4 c5)
    | (go_at_call 100;(try clear c0 c1 c2 c3 c4 c5);(with_reducible refine PE.call E E.out (fun st => HK.out.go st E.out.k) (fun w1 E c0 c1 c2 c3 c4 c5 => ?_)))
    | fail)
   first|go_end0|(refine bodyPost_ret (results_none rfl _ _ _) rfl ?_)
   exact ⟨rfl,E.out.st,E.out.fr⟩
theorem zY (xs : List bn) {i : Nat} (hi : i < xs.length) : xs.drop i = nd xs i :: xs.drop (i + 1):=by
 rw [List.drop_eq_getElem_cons hi];simp [nd,hi]
theorem ls_at {e : bn → List Int} {b : Bool} {xs : List bn} {i : Nat} (hi : i < xs.length) : F5 e b (xs.drop i) = (if b = true then [] else bytesOf ⟨#[44,32]⟩) ++ (qU e (nd xs i) 0 ++ F5 e false (xs.drop (i + 1))):=by
 rw [zY xs hi];rfl
theorem ls_end {e : bn → List Int} {b : Bool} {xs : List bn} {i : Nat} (hi : ¬ i < xs.length) : F5 e b (xs.drop i) = []:=by
 rw [List.drop_eq_nil_of_le (by omega)];rfl
structure KN (w : World) (a : Addr) (o : Nat) (y : bn) (A : Option Addr) (c : Nat) : Prop where
 h : w.cell? (a.add o) = some (.int .i64 y.f0) ∧ w.cell? ⟨(a.add o).block,(a.add o).off + 1,none⟩ = some (.string y.f1) ∧ w.cell? ⟨(a.add o).block,(a.add o).off + 2,none⟩ = some (.int .u32 y.f2) ∧ w.cell? ⟨(a.add o).block,(a.add o).off + 3,none⟩ = some (.bool y.f3) ∧ w.cell? ⟨(a.add o).block,(a.add o).off + 4,none⟩ = some (.slice A y.f4.length c) ∧ w.cell? ⟨(a.add o).block,(a.add o).off + 5,none⟩ = some (.int .i64 y.f5)
theorem KN.at {w0 w : World} {a : Addr} {o : Nat} {y : bn} {A : Option Addr} {c : Nat} (k : KN w0 a o y A c) (h : Below w0.heap.size w0 w) : w.cell? (a.add o) = some (.int .i64 y.f0) ∧ w.cell? ⟨(a.add o).block,(a.add o).off + 1,none⟩ = some (.string y.f1) ∧ w.cell? ⟨(a.add o).block,(a.add o).off + 2,none⟩ = some (.int .u32 y.f2) ∧ w.cell? ⟨(a.add o).block,(a.add o).off + 3,none⟩ = some (.bool y.f3) ∧ w.cell? ⟨(a.add o).block,(a.add o).off + 4,none⟩ = some (.slice A y.f4.length c) ∧ w.cell? ⟨(a.add o).block,(a.add o).off + 5,none⟩ = some (.int .i64 y.f5):=by
 obtain ⟨k0,k1,k2,k3,k4,k5⟩:=k.h;exact ⟨bf h k0,bf h k1,bf h k2,bf h k3,bf h k4,bf h k5⟩
theorem Qs {w : World} {A : Option Addr} {n : Nat} {xs : List bn} (h : Kd.C k25 w A n xs) (i : Nat) (hi : i < n) : ∃ ad A' c',A = some ad ∧ ND w (nd xs i) A' c' ∧ KN w ad (i * 6) (nd xs i) A' c' := by
 obtain ⟨ad,A',c',e,hn,k⟩:=jo h i hi;exact ⟨ad,A',c',e,hn,⟨k⟩⟩
theorem PE.box {s : Bool} {p g : Nat} {w0 : World} {x : bn} {A : Option Addr} {c : Nat} {F r : List Int} {ws W W1 : World} (h : St s p w0 F r W) (hf : Fr p ws W) (hB : Below W.heap.size W W1) (hg : W.heap.size ≤ g) (hn : NB W1 g x A c) (hk : ND w0 x A c) : ah (PE s p g w0 x A c F r ws W1) :=
 ⟨h.step hB,hn,fun e => by have:=h.lt;omega,hk,hf.trans (Fr.of_below hB)⟩
theorem listP.all {n : Nat} {xs : List bn} {p : Nat} {w0 w : World} {F r : List Int} {A : Option Addr} {c : Nat} (hk : ∀ y ∈ xs,lX n y) (hx : ∀ y ∈ xs,jh y = true) (h : St false p w0 F (F5 (iy n) true xs ++ r) w) (hC : Kd.C k25 w0 A xs.length xs) : Calls Tryz.prog 86 #[.pointer (some ⟨p,0,none⟩),.slice A xs.length c] w (nY false p w0 F r (.tuple #[]) w):=by
 have HK:=ah.mk hk;have HX:=ah.mk hx;have HC:=ah.mk hC;have ST:=ah.mk h;have HMX:=ah.mk hC.2.1;clear hk hx h hC;go_enter Tryz.func86,Tryz.ntmps86
 go_wp2
 go_loopg [8] xs.length (fun kq v w' => ∃ i : Nat,v = .int .i64 i ∧ ah (i + kq = xs.length) ∧ ah (St false p w0 F (F5 (iy n) (i == 0) (xs.drop i) ++ r) w') ∧ ah (Fr p w w'))
 case atStart => exact ⟨0,rfl,⟨by omega⟩,ST,⟨Fr.refl _ _⟩⟩
 case round =>
  obtain ⟨i,rfl,HI,ST,HF⟩:=hrel;by_cases hi : i < xs.length
  · have EP : decide (i < xs.length) = true:=decide_eq_true hi;have e1 : decide ((i : Int) < (xs.length : Int)) = true:=decide_eq_true (by omega);have p1 : (0 : Int) ≤ (i : Int):=by omega
    have q1 : (i : Int) < (xs.length : Int):=by omega
    have qg:=ah.mk hi;have vM:=ah.mk (fH hi);have w3 : wrap64 ((i : Int) + 1) = (i : Int) + 1:=by have:=HMX.out;unfold wrap64;omega
    have w4 : IntKind.i64.wrap ((i : Int) + 1) = (i : Int) + 1:=(bW _).trans w3;obtain ⟨ad,A',c',rfl,hn,hkn⟩:=Qs HC.out i hi;have HN:=ah.mk hn;have Je:=ah.mk hkn;obtain ⟨k0,k1,k2,k3,k4,k5⟩:=Je.out.at ST.out.b;have ST:=ah.mk (show St false p w0 F (((if (i == 0) = true then [] else bytesOf ⟨#[44,32]⟩) ++ (qU (iy n) (nd xs i) 0 ++ F5 (iy n) false (xs.drop (i + 1)))) ++ r) _ from by rw [← ls_at hi];exact ST.out);simp only [List.append_assoc] at ST;by_cases h0 : i = 0
    · have g1 : decide ((0 : Int) < (i : Int)) = false:=decide_eq_false (by omega);have g2 : decide (0 < i) = false:=decide_eq_false (by omega);rw [if_pos (beq_iff_eq.2 h0),List.nil_append] at ST;have H0:=ah.mk h0;clear hi hn hkn h0;go_wp2_with (first
       | (with_reducible refine iK rfl rfl rfl ?_;rintro g wa hg hz hB;have uY:=ah.mk hB;have HZ:=ah.mk hz;have qR:=ah.mk hg;clear hg hz hB)
       | (refine iU rfl rfl rfl (x:=nd xs i) (A:=A') (c:=c') rfl rfl HZ.out ?_;rintro wb hN hB;have E:=PE.box ST.out HF.out (uY.out.trans (hB.mono (Nat.le_of_eq qR.out.symm))) (Nat.le_of_eq qR.out.symm) hN HN.out;(try clear k0 k1 k2 k3 k4 k5);obtain ⟨c0,c1,c2,c3,c4,c5⟩:=E.out.cells;clear hN hB)
       | (go_at_call 85;(try clear c0 c1 c2 c3 c4 c5);(with_reducible refine PE.call E E.out (fun st => yA.all (HK.out _ vM.out) (HX.out _ vM.out) st E.out.k) (fun w1 E c0 c1 c2 c3 c4 c5 => ?_)))
       | fail)
      go_roundg (xs.length - (i + 1))
      case measure => have:=HI.out;have:=qg.out;omega
      case rel => exact ⟨i + 1,by (try simp only [w4,w3]);rfl,⟨by have:=HI.out;have:=qg.out;omega⟩,⟨E.out.st⟩,⟨E.out.fr⟩⟩
    · have g1 : decide ((0 : Int) < (i : Int)) = true:=decide_eq_true (by omega);have g2 : decide (0 < i) = true:=decide_eq_true (by omega);rw [if_neg (by simpa using h0)] at ST;have H0:=ah.mk h0;clear hi hn hkn h0;go_wp2_with (first
       | (with_reducible refine iK rfl rfl rfl ?_;rintro g wa hg hz hB;have uY:=ah.mk hB;have HZ:=ah.mk hz;have qR:=ah.mk hg;clear hg hz hB)
       | (refine iU rfl rfl rfl (x:=nd xs i) (A:=A') (c:=c') rfl rfl HZ.out ?_;rintro wb hN hB;have E:=PE.box ST.out HF.out (uY.out.trans (hB.mono (Nat.le_of_eq qR.out.symm))) (Nat.le_of_eq qR.out.symm) hN HN.out;(try clear k0 k1 k2 k3 k4 k5);obtain ⟨c0,c1,c2,c3,c4,c5⟩:=E.out.cells;clear hN hB)
       | (go_at_call 54;(try clear c0 c1 c2 c3 c4 c5);(with_reducible first|refine PE.jI E ?_|refine PE.jS E ?_|refine PE.jW E ?_|refine PE.jE E ?_);intro w1 E c0 c1 c2 c3 c4 c5)
       | (go_at_call 85;(try clear c0 c1 c2 c3 c4 c5);(with_reducible refine PE.call E E.out (fun st => yA.all (HK.out _ vM.out) (HX.out _ vM.out) st E.out.k) (fun w1 E c0 c1 c2 c3 c4 c5 => ?_)))
       | fail)
      go_roundg (xs.length - (i + 1))
      case measure => have:=HI.out;have:=qg.out;omega
      case rel => exact ⟨i + 1,by (try simp only [w4,w3]);rfl,⟨by have:=HI.out;have:=qg.out;omega⟩,⟨E.out.st⟩,⟨E.out.fr⟩⟩
  · have EP : decide (i < xs.length) = false:=decide_eq_false hi;have e1 : decide ((i : Int) < (xs.length : Int)) = false:=decide_eq_false (by omega);have ST:=ah.mk (show St false p w0 F ([] ++ r) _ from by rw [← ls_end (e:=iy n) (b:=i == 0) hi];exact ST.out);clear hi HI;go_wp2
    first|go_end0|(refine bodyPost_ret (results_none rfl _ _ _) rfl ?_)
    exact ⟨rfl,ST.out,HF.out⟩
structure KD0 (w : World) (ad : Addr) (y : bn) (A : Option Addr) (c : Nat) : Prop where
 h : w.cell? ad = some (.int .i64 y.f0) ∧ w.cell? ⟨ad.block,ad.off + 1,none⟩ = some (.string y.f1) ∧ w.cell? ⟨ad.block,ad.off + 2,none⟩ = some (.int .u32 y.f2) ∧ w.cell? ⟨ad.block,ad.off + 3,none⟩ = some (.bool y.f3) ∧ w.cell? ⟨ad.block,ad.off + 4,none⟩ = some (.slice A y.f4.length c) ∧ w.cell? ⟨ad.block,ad.off + 5,none⟩ = some (.int .i64 y.f5)
theorem KD0.at {w0 w : World} {ad : Addr} {y : bn} {A : Option Addr} {c : Nat} (k : KD0 w0 ad y A c) (h : Below w0.heap.size w0 w) : w.cell? ad = some (.int .i64 y.f0) ∧ w.cell? ⟨ad.block,ad.off + 1,none⟩ = some (.string y.f1) ∧ w.cell? ⟨ad.block,ad.off + 2,none⟩ = some (.int .u32 y.f2) ∧ w.cell? ⟨ad.block,ad.off + 3,none⟩ = some (.bool y.f3) ∧ w.cell? ⟨ad.block,ad.off + 4,none⟩ = some (.slice A y.f4.length c) ∧ w.cell? ⟨ad.block,ad.off + 5,none⟩ = some (.int .i64 y.f5):=by
 obtain ⟨k0,k1,k2,k3,k4,k5⟩:=k.h;exact ⟨bf h k0,bf h k1,bf h k2,bf h k3,bf h k4,bf h k5⟩
theorem zZ {w : World} {ad : Addr} {n : Nat} {xs : List bn} (h : Kd.C k25 w (some ad) n xs) (hi : 0 < n) : ∃ A' c',ND w (nd xs 0) A' c' ∧ KD0 w ad (nd xs 0) A' c' := by
 obtain ⟨A',c',hn,k⟩:=kid0 h hi;exact ⟨A',c',hn,⟨k⟩⟩
structure KD1 (w : World) (ad : Addr) (y : bn) (A : Option Addr) (c : Nat) : Prop where
 h : w.cell? ⟨ad.block,ad.off + 6,none⟩ = some (.int .i64 y.f0) ∧ w.cell? ⟨ad.block,ad.off + 6 + 1,none⟩ = some (.string y.f1) ∧ w.cell? ⟨ad.block,ad.off + 6 + 2,none⟩ = some (.int .u32 y.f2) ∧ w.cell? ⟨ad.block,ad.off + 6 + 3,none⟩ = some (.bool y.f3) ∧ w.cell? ⟨ad.block,ad.off + 6 + 4,none⟩ = some (.slice A y.f4.length c) ∧ w.cell? ⟨ad.block,ad.off + 6 + 5,none⟩ = some (.int .i64 y.f5)
theorem KD1.at {w0 w : World} {ad : Addr} {y : bn} {A : Option Addr} {c : Nat} (k : KD1 w0 ad y A c) (h : Below w0.heap.size w0 w) : w.cell? ⟨ad.block,ad.off + 6,none⟩ = some (.int .i64 y.f0) ∧ w.cell? ⟨ad.block,ad.off + 6 + 1,none⟩ = some (.string y.f1) ∧ w.cell? ⟨ad.block,ad.off + 6 + 2,none⟩ = some (.int .u32 y.f2) ∧ w.cell? ⟨ad.block,ad.off + 6 + 3,none⟩ = some (.bool y.f3) ∧ w.cell? ⟨ad.block,ad.off + 6 + 4,none⟩ = some (.slice A y.f4.length c) ∧ w.cell? ⟨ad.block,ad.off + 6 + 5,none⟩ = some (.int .i64 y.f5):=by
 obtain ⟨k0,k1,k2,k3,k4,k5⟩:=k.h;exact ⟨bf h k0,bf h k1,bf h k2,bf h k3,bf h k4,bf h k5⟩
theorem Qu {w : World} {ad : Addr} {n : Nat} {xs : List bn} (h : Kd.C k25 w (some ad) n xs) (hi : 1 < n) : ∃ A' c',ND w (nd xs 1) A' c' ∧ KD1 w ad (nd xs 1) A' c' := by
 obtain ⟨A',c',hn,k⟩:=kid1 h hi;exact ⟨A',c',hn,⟨k⟩⟩
structure KD2 (w : World) (ad : Addr) (y : bn) (A : Option Addr) (c : Nat) : Prop where
 h : w.cell? ⟨ad.block,ad.off + 12,none⟩ = some (.int .i64 y.f0) ∧ w.cell? ⟨ad.block,ad.off + 12 + 1,none⟩ = some (.string y.f1) ∧ w.cell? ⟨ad.block,ad.off + 12 + 2,none⟩ = some (.int .u32 y.f2) ∧ w.cell? ⟨ad.block,ad.off + 12 + 3,none⟩ = some (.bool y.f3) ∧ w.cell? ⟨ad.block,ad.off + 12 + 4,none⟩ = some (.slice A y.f4.length c) ∧ w.cell? ⟨ad.block,ad.off + 12 + 5,none⟩ = some (.int .i64 y.f5)
theorem KD2.at {w0 w : World} {ad : Addr} {y : bn} {A : Option Addr} {c : Nat} (k : KD2 w0 ad y A c) (h : Below w0.heap.size w0 w) : w.cell? ⟨ad.block,ad.off + 12,none⟩ = some (.int .i64 y.f0) ∧ w.cell? ⟨ad.block,ad.off + 12 + 1,none⟩ = some (.string y.f1) ∧ w.cell? ⟨ad.block,ad.off + 12 + 2,none⟩ = some (.int .u32 y.f2) ∧ w.cell? ⟨ad.block,ad.off + 12 + 3,none⟩ = some (.bool y.f3) ∧ w.cell? ⟨ad.block,ad.off + 12 + 4,none⟩ = some (.slice A y.f4.length c) ∧ w.cell? ⟨ad.block,ad.off + 12 + 5,none⟩ = some (.int .i64 y.f5):=by
 obtain ⟨k0,k1,k2,k3,k4,k5⟩:=k.h;exact ⟨bf h k0,bf h k1,bf h k2,bf h k3,bf h k4,bf h k5⟩
theorem kd2 {w : World} {ad : Addr} {n : Nat} {xs : List bn} (h : Kd.C k25 w (some ad) n xs) (hi : 2 < n) : ∃ A' c',ND w (nd xs 2) A' c' ∧ KD2 w ad (nd xs 2) A' c' := by
 obtain ⟨A',c',hn,k⟩:=kid2 h hi;exact ⟨A',c',hn,⟨k⟩⟩
structure KD3 (w : World) (ad : Addr) (y : bn) (A : Option Addr) (c : Nat) : Prop where
 h : w.cell? ⟨ad.block,ad.off + 18,none⟩ = some (.int .i64 y.f0) ∧ w.cell? ⟨ad.block,ad.off + 18 + 1,none⟩ = some (.string y.f1) ∧ w.cell? ⟨ad.block,ad.off + 18 + 2,none⟩ = some (.int .u32 y.f2) ∧ w.cell? ⟨ad.block,ad.off + 18 + 3,none⟩ = some (.bool y.f3) ∧ w.cell? ⟨ad.block,ad.off + 18 + 4,none⟩ = some (.slice A y.f4.length c) ∧ w.cell? ⟨ad.block,ad.off + 18 + 5,none⟩ = some (.int .i64 y.f5)
theorem KD3.at {w0 w : World} {ad : Addr} {y : bn} {A : Option Addr} {c : Nat} (k : KD3 w0 ad y A c) (h : Below w0.heap.size w0 w) : w.cell? ⟨ad.block,ad.off + 18,none⟩ = some (.int .i64 y.f0) ∧ w.cell? ⟨ad.block,ad.off + 18 + 1,none⟩ = some (.string y.f1) ∧ w.cell? ⟨ad.block,ad.off + 18 + 2,none⟩ = some (.int .u32 y.f2) ∧ w.cell? ⟨ad.block,ad.off + 18 + 3,none⟩ = some (.bool y.f3) ∧ w.cell? ⟨ad.block,ad.off + 18 + 4,none⟩ = some (.slice A y.f4.length c) ∧ w.cell? ⟨ad.block,ad.off + 18 + 5,none⟩ = some (.int .i64 y.f5):=by
 obtain ⟨k0,k1,k2,k3,k4,k5⟩:=k.h;exact ⟨bf h k0,bf h k1,bf h k2,bf h k3,bf h k4,bf h k5⟩
theorem kd3 {w : World} {ad : Addr} {n : Nat} {xs : List bn} (h : Kd.C k25 w (some ad) n xs) (hi : 3 < n) : ∃ A' c',ND w (nd xs 3) A' c' ∧ KD3 w ad (nd xs 3) A' c' := by
 obtain ⟨A',c',hn,k⟩:=kid3 h hi;exact ⟨A',c',hn,⟨k⟩⟩
inductive Tm : bn → Prop
 | mk (x : bn) (h1 : oV x.f1) (h2 : 0 ≤ x.f2 ∧ x.f2 < 4294967296) (hk : ∀ y ∈ x.f4,Tm y) : Tm x
theorem Tm.str {x : bn} (h : Tm x) : oV x.f1:=by cases h;assumption
theorem Tm.num {x : bn} (h : Tm x) : 0 ≤ x.f2 ∧ x.f2 < 4294967296:=by cases h;assumption
theorem Tm.kid {x y : bn} (h : Tm x) (hy : y ∈ x.f4) : Tm y:=by
 cases h with
 | mk _ _ _ hk => exact hk y hy
theorem QuoteP.all {s : ByteArray} (hs : oV s) (w : World) : Calls Tryz.prog 126 #[.string s] w fun e w' => e = .returned (.string (quoS s)) ∧ Below w.heap.size w w' := by
 obtain ⟨k,hk⟩:=(Rt s hs).rounds;refine (bT.calls k s _ w hk).mono ?_;rintro e w' ⟨rfl,h⟩;exact ⟨rfl,by first|exact h|exact h.below⟩
theorem jf.k4 {p : Nat} {w0 w : World} {F r : List Int} {x : bn} {A : Option Addr} {c : Nat} {n : Nat} (hk : x.f0 = 4) (h : St false p w0 F (iy (n + 1) x ++ r) w) (hn : ND w0 x A c) : Calls Tryz.prog 115 #[.pointer (some ⟨p,0,none⟩),val x A c] w (nY false p w0 F r (.bool true) w):=by
 have b1:=Yf hk 1 rfl
 have b2:=Yf hk 2 rfl
 have b3:=Yf hk 3 rfl
 have b4:=Yt hk 4 rfl
 have b16:=Yf hk 16 rfl
 have b5:=Yf hk 5 rfl
 have b6:=Yf hk 6 rfl
 have b7:=Yf hk 7 rfl
 have b8:=Yf hk 8 rfl
 rw [exT_4 hk] at h;unfold ex4 at h;(try simp only [List.append_assoc] at h);have E:=PE.start h hn;clear h hn;have HKK:=ah.mk hk;clear hk;go_enter Tryz.func115,Tryz.ntmps115
 go_wp2_with (first
  | (go_at_call 54;(try clear c0 c1 c2 c3 c4 c5);(with_reducible first|refine PE.jI E ?_|refine PE.jS E ?_|refine PE.jW E ?_|refine PE.jE E ?_);intro w1 E c0 c1 c2 c3 c4 c5)
  | fail)
 first|go_end0|go_ret|(refine bodyPost_ret (results_none rfl _ _ _) rfl ?_)
 exact ⟨rfl,E.out.st,E.out.fr⟩
theorem jf.k3 {p : Nat} {w0 w : World} {F r : List Int} {x : bn} {A : Option Addr} {c : Nat} {n : Nat} (hs : oV x.f1) (hk : x.f0 = 3) (h : St false p w0 F (iy (n + 1) x ++ r) w) (hn : ND w0 x A c) : Calls Tryz.prog 115 #[.pointer (some ⟨p,0,none⟩),val x A c] w (nY false p w0 F r (.bool true) w):=by
 have b1:=Yf hk 1 rfl
 have b2:=Yf hk 2 rfl
 have b3:=Yt hk 3 rfl
 have b4:=Yf hk 4 rfl
 have b16:=Yf hk 16 rfl
 have b5:=Yf hk 5 rfl
 have b6:=Yf hk 6 rfl
 have b7:=Yf hk 7 rfl
 have b8:=Yf hk 8 rfl
 have HS:=ah.mk hs;clear hs;rw [exT_3 hk] at h;unfold ex3 at h;(try simp only [List.append_assoc] at h);have E:=PE.start h hn;clear h hn;have HKK:=ah.mk hk;clear hk;go_enter Tryz.func115,Tryz.ntmps115
 go_wp2_with (first
  | (go_at_call 54;(try clear c0 c1 c2 c3 c4 c5);(with_reducible first|refine PE.jI E ?_|refine PE.jS E ?_|refine PE.jW E ?_|refine PE.jE E ?_);intro w1 E c0 c1 c2 c3 c4 c5)
  | (go_at_call 126;(try clear c0 c1 c2 c3 c4 c5);(with_reducible refine PE.still E E.out (QuoteP.all HS.out _) (fun w1 E c0 c1 c2 c3 c4 c5 => ?_)))
  | fail)
 first|go_end0|go_ret|(refine bodyPost_ret (results_none rfl _ _ _) rfl ?_)
 exact ⟨rfl,E.out.st,E.out.fr⟩
theorem jf.k5 {p : Nat} {w0 w : World} {F r : List Int} {x : bn} {A : Option Addr} {c : Nat} {n : Nat} (hx : jh x = true) (he : ∀ y ∈ x.f4,jh y = true → lX n y) (hk : x.f0 = 5) (h : St false p w0 F (iy (n + 1) x ++ r) w) (hn : ND w0 x A c) : Calls Tryz.prog 115 #[.pointer (some ⟨p,0,none⟩),val x A c] w (nY false p w0 F r (.bool true) w):=by
 obtain ⟨hl,hx0,hx1⟩:=ex_5 hx hk;have q1 : (1 : Int) < (x.f4.length : Int):=by omega
 have q0 : (0 : Int) < (x.f4.length : Int):=by omega
 have q2 : 0 < x.f4.length:=by omega
 have q3 : 1 < x.f4.length:=by omega
 obtain ⟨ad,rfl⟩:=gY hn.C (show 0 < x.f4.length by omega);obtain ⟨A0,d0,hn0,hk0⟩:=zZ hn.C (show 0 < x.f4.length by omega);have qK:=ah.mk hn0;have jq:=ah.mk hk0;obtain ⟨A1,d1,hn1,hk1⟩:=Qu hn.C (show 1 < x.f4.length by omega);have pW:=ah.mk hn1;have jm:=ah.mk hk1;have b1:=Yf hk 1 rfl
 have b2:=Yf hk 2 rfl
 have b3:=Yf hk 3 rfl
 have b4:=Yf hk 4 rfl
 have b16:=Yf hk 16 rfl
 have b5:=Yt hk 5 rfl
 have b6:=Yf hk 6 rfl
 have b7:=Yf hk 7 rfl
 have b8:=Yf hk 8 rfl
 have vN:=ah.mk (he _ (fH (show 0 < x.f4.length by omega)) hx0);have E8:=ah.mk (he _ (fH (show 1 < x.f4.length by omega)) hx1);have HX0:=ah.mk hx0;have Fa:=ah.mk hx1;clear he hx hx0 hx1;have vC:=ah.mk hl;clear hl;rw [exT_5 hk] at h;unfold ex5 at h;(try simp only [List.append_assoc] at h);have E:=PE.start h hn;clear h hn;obtain ⟨iC,iD,iE,iF,iG,iH⟩:=jq.out.at E.out.st.b;clear hn0 hk0;obtain ⟨k10,k11,k12,k13,k14,k15⟩:=jm.out.at E.out.st.b;clear hn1 hk1;have HKK:=ah.mk hk;clear hk;go_enter Tryz.func115,Tryz.ntmps115
 go_wp2_with (first
  | (go_at_call 54;(try clear c0 c1 c2 c3 c4 c5);(with_reducible first|refine PE.jI E ?_|refine PE.jS E ?_|refine PE.jW E ?_|refine PE.jE E ?_);intro w1 E c0 c1 c2 c3 c4 c5;(try ((try clear iC iD iE iF iG iH);obtain ⟨iC,iD,iE,iF,iG,iH⟩:=jq.out.at E.out.st.b));(try ((try clear k10 k11 k12 k13 k14 k15);obtain ⟨k10,k11,k12,k13,k14,k15⟩:=jm.out.at E.out.st.b)))
  | (go_at_call 85;(try clear c0 c1 c2 c3 c4 c5);(with_reducible refine PE.call E E.out (fun st => yA.all vN.out HX0.out st qK.out) (fun w1 E c0 c1 c2 c3 c4 c5 => ?_));(try ((try clear iC iD iE iF iG iH);obtain ⟨iC,iD,iE,iF,iG,iH⟩:=jq.out.at E.out.st.b));(try ((try clear k10 k11 k12 k13 k14 k15);obtain ⟨k10,k11,k12,k13,k14,k15⟩:=jm.out.at E.out.st.b)))
  | (go_at_call 85;(try clear c0 c1 c2 c3 c4 c5);(with_reducible refine PE.call E E.out (fun st => yA.all E8.out Fa.out st pW.out) (fun w1 E c0 c1 c2 c3 c4 c5 => ?_));(try ((try clear iC iD iE iF iG iH);obtain ⟨iC,iD,iE,iF,iG,iH⟩:=jq.out.at E.out.st.b));(try ((try clear k10 k11 k12 k13 k14 k15);obtain ⟨k10,k11,k12,k13,k14,k15⟩:=jm.out.at E.out.st.b)))
  | fail)
 first|go_end0|go_ret|(refine bodyPost_ret (results_none rfl _ _ _) rfl ?_)
 exact ⟨rfl,E.out.st,E.out.fr⟩
theorem jf.k6 {p : Nat} {w0 w : World} {F r : List Int} {x : bn} {A : Option Addr} {c : Nat} {n : Nat} (hx : jh x = true) (he : ∀ y ∈ x.f4,jh y = true → lX n y) (hk : x.f0 = 6) (h : St false p w0 F (iy (n + 1) x ++ r) w) (hn : ND w0 x A c) : Calls Tryz.prog 115 #[.pointer (some ⟨p,0,none⟩),val x A c] w (nY false p w0 F r (.bool true) w):=by
 obtain ⟨hl,hx0⟩:=ex_6 hx hk;have q0 : (0 : Int) < (x.f4.length : Int):=by omega
 have q2 : 0 < x.f4.length:=by omega
 obtain ⟨ad,rfl⟩:=gY hn.C (show 0 < x.f4.length by omega);obtain ⟨A0,d0,hn0,hk0⟩:=zZ hn.C (show 0 < x.f4.length by omega);have qK:=ah.mk hn0;have jq:=ah.mk hk0;have b1:=Yf hk 1 rfl
 have b2:=Yf hk 2 rfl
 have b3:=Yf hk 3 rfl
 have b4:=Yf hk 4 rfl
 have b16:=Yf hk 16 rfl
 have b5:=Yf hk 5 rfl
 have b6:=Yt hk 6 rfl
 have b7:=Yf hk 7 rfl
 have b8:=Yf hk 8 rfl
 have vN:=ah.mk (he _ (fH (show 0 < x.f4.length by omega)) hx0);have HX0:=ah.mk hx0;clear he hx hx0;have vC:=ah.mk hl;clear hl;rw [exT_6 hk] at h;unfold ex6 at h;(try simp only [List.append_assoc] at h);have E:=PE.start h hn;clear h hn;obtain ⟨iC,iD,iE,iF,iG,iH⟩:=jq.out.at E.out.st.b;clear hn0 hk0;have HKK:=ah.mk hk;clear hk;go_enter Tryz.func115,Tryz.ntmps115
 go_wp2_with (first
  | (go_at_call 54;(try clear c0 c1 c2 c3 c4 c5);(with_reducible first|refine PE.jI E ?_|refine PE.jS E ?_|refine PE.jW E ?_|refine PE.jE E ?_);intro w1 E c0 c1 c2 c3 c4 c5;(try ((try clear iC iD iE iF iG iH);obtain ⟨iC,iD,iE,iF,iG,iH⟩:=jq.out.at E.out.st.b)))
  | (go_at_call 85;(try clear c0 c1 c2 c3 c4 c5);(with_reducible refine PE.call E E.out (fun st => yA.all vN.out HX0.out st qK.out) (fun w1 E c0 c1 c2 c3 c4 c5 => ?_));(try ((try clear iC iD iE iF iG iH);obtain ⟨iC,iD,iE,iF,iG,iH⟩:=jq.out.at E.out.st.b)))
  | fail)
 first|go_end0|go_ret|(refine bodyPost_ret (results_none rfl _ _ _) rfl ?_)
 exact ⟨rfl,E.out.st,E.out.fr⟩
theorem jf.k7 {p : Nat} {w0 w : World} {F r : List Int} {x : bn} {A : Option Addr} {c : Nat} {n : Nat} (hx : jh x = true) (he : ∀ y ∈ x.f4,jh y = true → lX n y) (hk : x.f0 = 7) (h : St false p w0 F (iy (n + 1) x ++ r) w) (hn : ND w0 x A c) : Calls Tryz.prog 115 #[.pointer (some ⟨p,0,none⟩),val x A c] w (nY false p w0 F r (.bool true) w):=by
 obtain ⟨hl,hx0⟩:=ex_7 hx hk;have q0 : (0 : Int) < (x.f4.length : Int):=by omega
 have q2 : 0 < x.f4.length:=by omega
 obtain ⟨ad,rfl⟩:=gY hn.C (show 0 < x.f4.length by omega);obtain ⟨A0,d0,hn0,hk0⟩:=zZ hn.C (show 0 < x.f4.length by omega);have qK:=ah.mk hn0;have jq:=ah.mk hk0;have b1:=Yf hk 1 rfl
 have b2:=Yf hk 2 rfl
 have b3:=Yf hk 3 rfl
 have b4:=Yf hk 4 rfl
 have b16:=Yf hk 16 rfl
 have b5:=Yf hk 5 rfl
 have b6:=Yf hk 6 rfl
 have b7:=Yt hk 7 rfl
 have b8:=Yf hk 8 rfl
 have vN:=ah.mk (he _ (fH (show 0 < x.f4.length by omega)) hx0);have HX0:=ah.mk hx0;clear he hx hx0;have vC:=ah.mk hl;clear hl;rw [exT_7 hk] at h;unfold ex7 at h;(try simp only [List.append_assoc] at h);have E:=PE.start h hn;clear h hn;obtain ⟨iC,iD,iE,iF,iG,iH⟩:=jq.out.at E.out.st.b;clear hn0 hk0;have HKK:=ah.mk hk;clear hk;go_enter Tryz.func115,Tryz.ntmps115
 go_wp2_with (first
  | (go_at_call 54;(try clear c0 c1 c2 c3 c4 c5);(with_reducible first|refine PE.jI E ?_|refine PE.jS E ?_|refine PE.jW E ?_|refine PE.jE E ?_);intro w1 E c0 c1 c2 c3 c4 c5;(try ((try clear iC iD iE iF iG iH);obtain ⟨iC,iD,iE,iF,iG,iH⟩:=jq.out.at E.out.st.b)))
  | (go_at_call 85;(try clear c0 c1 c2 c3 c4 c5);(with_reducible refine PE.call E E.out (fun st => yA.all vN.out HX0.out st qK.out) (fun w1 E c0 c1 c2 c3 c4 c5 => ?_));(try ((try clear iC iD iE iF iG iH);obtain ⟨iC,iD,iE,iF,iG,iH⟩:=jq.out.at E.out.st.b)))
  | fail)
 first|go_end0|go_ret|(refine bodyPost_ret (results_none rfl _ _ _) rfl ?_)
 exact ⟨rfl,E.out.st,E.out.fr⟩
theorem jf.k8 {p : Nat} {w0 w : World} {F r : List Int} {x : bn} {A : Option Addr} {c : Nat} {n : Nat} (hx : jh x = true) (he : ∀ y ∈ x.f4,jh y = true → lX n y) (hk : x.f0 = 8) (h : St false p w0 F (iy (n + 1) x ++ r) w) (hn : ND w0 x A c) : Calls Tryz.prog 115 #[.pointer (some ⟨p,0,none⟩),val x A c] w (nY false p w0 F r (.bool true) w):=by
 have b1:=Yf hk 1 rfl
 have b2:=Yf hk 2 rfl
 have b3:=Yf hk 3 rfl
 have b4:=Yf hk 4 rfl
 have b16:=Yf hk 16 rfl
 have b5:=Yf hk 5 rfl
 have b6:=Yf hk 6 rfl
 have b7:=Yf hk 7 rfl
 have b8:=Yt hk 8 rfl
 have HE:=ah.mk (fun y hy => he y hy (ex_8 hx hk y hy));have HX:=ah.mk (ex_8 hx hk);clear he hx;rw [exT_8 hk] at h;unfold ex8 at h;(try simp only [List.append_assoc] at h);have E:=PE.start h hn;clear h hn;have HKK:=ah.mk hk;clear hk;go_enter Tryz.func115,Tryz.ntmps115
 go_wp2_with (first
  | (go_at_call 54;(try clear c0 c1 c2 c3 c4 c5);(with_reducible first|refine PE.jI E ?_|refine PE.jS E ?_|refine PE.jW E ?_|refine PE.jE E ?_);intro w1 E c0 c1 c2 c3 c4 c5)
  | (go_at_call 86;(try clear c0 c1 c2 c3 c4 c5);(with_reducible refine PE.call E E.out (fun st => listP.all HE.out HX.out st E.out.k.C) (fun w1 E c0 c1 c2 c3 c4 c5 => ?_)))
  | fail)
 first|go_end0|go_ret|(refine bodyPost_ret (results_none rfl _ _ _) rfl ?_)
 exact ⟨rfl,E.out.st,E.out.fr⟩
theorem jf.k1t {p : Nat} {w0 w : World} {F r : List Int} {x : bn} {A : Option Addr} {c : Nat} {n : Nat} (h2 : 0 ≤ x.f2 ∧ x.f2 < 4294967296) (h3 : x.f3 = true) (hk : x.f0 = 1) (h : St false p w0 F (iy (n + 1) x ++ r) w) (hn : ND w0 x A c) : Calls Tryz.prog 115 #[.pointer (some ⟨p,0,none⟩),val x A c] w (nY false p w0 F r (.bool true) w):=by
 have b1:=Yt hk 1 rfl
 have b2:=Yf hk 2 rfl
 have b3:=Yf hk 3 rfl
 have b4:=Yf hk 4 rfl
 have b16:=Yf hk 16 rfl
 have b5:=Yf hk 5 rfl
 have b6:=Yf hk 6 rfl
 have b7:=Yf hk 7 rfl
 have b8:=Yf hk 8 rfl
 have HF:=ah.mk h2;have cu : x.f2 % 18446744073709551616 = x.f2:=by omega
 have H3:=ah.mk h3;clear h3 h2;rw [Qp hk] at h;unfold ex1 at h;rw [if_pos H3.out] at h;simp only [List.append_assoc,List.nil_append] at h;have E:=PE.start h hn;clear h hn;have HKK:=ah.mk hk;clear hk;go_enter Tryz.func115,Tryz.ntmps115
 go_wp2_with (first
  | (go_at_call 54;(try clear c0 c1 c2 c3 c4 c5);(with_reducible first|refine PE.jI E ?_|refine PE.jS E ?_|refine PE.jW E ?_|refine PE.jE E ?_);intro w1 E c0 c1 c2 c3 c4 c5)
  | (go_at_call 125;(try clear c0 c1 c2 c3 c4 c5);(with_reducible refine PE.still E E.out (xI.all HF.out E.out.st.tab) (fun w1 E c0 c1 c2 c3 c4 c5 => ?_));(try have h3:=H3.out))
  | fail)
 first|go_end0|go_ret|(refine bodyPost_ret (results_none rfl _ _ _) rfl ?_)
 exact ⟨rfl,E.out.st,E.out.fr⟩
theorem jf.k1f {p : Nat} {w0 w : World} {F r : List Int} {x : bn} {A : Option Addr} {c : Nat} {n : Nat} (h2 : 0 ≤ x.f2 ∧ x.f2 < 4294967296) (h3 : x.f3 = false) (hk : x.f0 = 1) (h : St false p w0 F (iy (n + 1) x ++ r) w) (hn : ND w0 x A c) : Calls Tryz.prog 115 #[.pointer (some ⟨p,0,none⟩),val x A c] w (nY false p w0 F r (.bool true) w):=by
 have b1:=Yt hk 1 rfl
 have b2:=Yf hk 2 rfl
 have b3:=Yf hk 3 rfl
 have b4:=Yf hk 4 rfl
 have b16:=Yf hk 16 rfl
 have b5:=Yf hk 5 rfl
 have b6:=Yf hk 6 rfl
 have b7:=Yf hk 7 rfl
 have b8:=Yf hk 8 rfl
 have HF:=ah.mk h2;have cu : x.f2 % 18446744073709551616 = x.f2:=by omega
 have H3:=ah.mk h3;clear h3 h2;rw [Qp hk] at h;unfold ex1 at h;rw [if_neg (by rw [H3.out];decide)] at h;simp only [List.append_assoc,List.nil_append] at h;have E:=PE.start h hn;clear h hn;have HKK:=ah.mk hk;clear hk;go_enter Tryz.func115,Tryz.ntmps115
 go_wp2_with (first
  | (go_at_call 54;(try clear c0 c1 c2 c3 c4 c5);(with_reducible first|refine PE.jI E ?_|refine PE.jS E ?_|refine PE.jW E ?_|refine PE.jE E ?_);intro w1 E c0 c1 c2 c3 c4 c5)
  | (go_at_call 125;(try clear c0 c1 c2 c3 c4 c5);(with_reducible refine PE.still E E.out (xI.all HF.out E.out.st.tab) (fun w1 E c0 c1 c2 c3 c4 c5 => ?_));(try have h3:=H3.out))
  | fail)
 first|go_end0|go_ret|(refine bodyPost_ret (results_none rfl _ _ _) rfl ?_)
 exact ⟨rfl,E.out.st,E.out.fr⟩
theorem jf.no {p : Nat} {w0 w : World} {F r : List Int} {x : bn} {A : Option Addr} {c : Nat} (hk : 9 ≤ x.f0 ∧ x.f0 ≤ 15) (h : St false p w0 F r w) (hn : ND w0 x A c) : Calls Tryz.prog 115 #[.pointer (some ⟨p,0,none⟩),val x A c] w (nY false p w0 F r (.bool false) w):=by
 have b1 : (x.f0 == 1) = false:=beq_eq_false_iff_ne.2 (by omega);have b2 : (x.f0 == 2) = false:=beq_eq_false_iff_ne.2 (by omega);have b3 : (x.f0 == 3) = false:=beq_eq_false_iff_ne.2 (by omega);have b4 : (x.f0 == 4) = false:=beq_eq_false_iff_ne.2 (by omega);have b16 : (x.f0 == 16) = false:=beq_eq_false_iff_ne.2 (by omega);have b5 : (x.f0 == 5) = false:=beq_eq_false_iff_ne.2 (by omega);have b6 : (x.f0 == 6) = false:=beq_eq_false_iff_ne.2 (by omega);have b7 : (x.f0 == 7) = false:=beq_eq_false_iff_ne.2 (by omega);have b8 : (x.f0 == 8) = false:=beq_eq_false_iff_ne.2 (by omega);clear hk;have E:=PE.start h hn;clear h hn;go_enter Tryz.func115,Tryz.ntmps115
 go_wp2
 first|go_end0|go_ret|(refine bodyPost_ret (results_none rfl _ _ _) rfl ?_)
 exact ⟨rfl,E.out.st,E.out.fr⟩
theorem qj.leaf {t : List Int} {p : Nat} {w0 w : World} {F r : List Int} {x : bn} {A : Option Addr} {c : Nat} (hs : ∀ w1,St false p w0 F (t ++ r) w1 → Calls Tryz.prog 115 #[.pointer (some ⟨p,0,none⟩),val x A c] w1 (nY false p w0 F r (.bool true) w1)) (h : St false p w0 F (t ++ r) w) (hn : ND w0 x A c) : Calls Tryz.prog 100 #[.pointer (some ⟨p,0,none⟩),val x A c] w (nY false p w0 F r (.tuple #[]) w):=by
 have HS:=ah.mk hs;clear hs;have E:=PE.start h hn;clear h hn;go_enter Tryz.func100,Tryz.ntmps100
 go_wp2_with (first
  | (go_at_call 115;(try clear c0 c1 c2 c3 c4 c5);(with_reducible refine PE.call E E.out (fun st => HS.out _ st) (fun w1 E c0 c1 c2 c3 c4 c5 => ?_)))
  | fail)
 first|go_end0|go_ret|(refine bodyPost_ret (results_none rfl _ _ _) rfl ?_)
 exact ⟨rfl,E.out.st,E.out.fr⟩
theorem PE.same {s : Bool} {p g : Nat} {w0 : World} {x : bn} {A : Option Addr} {c : Nat} {F r : List Int} {ws W : World} {W0 : World} {r0 : List Int} {v : Value} {f : FuncId} {args : Array Value} {Q : Ending → World → Prop} (E0 : ah (PE s p g w0 x A c F r0 ws W0)) (E : PE s p g w0 x A c F r ws W) (h : St s p w0 F r W → Calls Tryz.prog f args W (nY s p w0 F r v W))
 (K : ∀ w1,ah (PE s p g w0 x A c F r ws w1) → w1.cell? ⟨g,0,none⟩ = some (.int .i64 x.f0) → w1.cell? ⟨g,1,none⟩ = some (.string x.f1) → w1.cell? ⟨g,2,none⟩ = some (.int .u32 x.f2) → w1.cell? ⟨g,3,none⟩ = some (.bool x.f3) → w1.cell? ⟨g,4,none⟩ = some (.slice A x.f4.length c) → w1.cell? ⟨g,5,none⟩ = some (.int .i64 x.f5) → Q (.returned v) w1) : Calls Tryz.prog f args W Q :=
 PE.call (t:=[]) E0 E h K
theorem Et (s : ByteArray) : 2 ≤ NG s ∧ NG s ≤ 11:=by
 unfold NG
 repeat' split
 all_goals omega
theorem qj.k10 {p : Nat} {w0 w : World} {F r : List Int} {x : bn} {A : Option Addr} {c : Nat} {n : Nat} (hx : jh x = true) (he : ∀ y ∈ x.f4,jh y = true → lX n y) (hk : x.f0 = 10) (h : St false p w0 F (iy (n + 1) x ++ r) w) (hn : ND w0 x A c) : Calls Tryz.prog 100 #[.pointer (some ⟨p,0,none⟩),val x A c] w (nY false p w0 F r (.tuple #[]) w):=by
 obtain ⟨hl,hx0,hx1⟩:=ex_10 hx hk;have CJ : (0 : Int) < (x.f4.length : Int):=by omega
 have CO : 0 < x.f4.length:=by omega
 have Ry : (1 : Int) < (x.f4.length : Int):=by omega
 have Rz : 1 < x.f4.length:=by omega
 obtain ⟨ad,rfl⟩:=gY hn.C (show 0 < x.f4.length by omega);obtain ⟨A0,d0,hn0,hk0⟩:=zZ hn.C (show 0 < x.f4.length by omega);have qK:=ah.mk hn0;have jq:=ah.mk hk0;obtain ⟨A1,d1,hn1,hk1⟩:=Qu hn.C (show 1 < x.f4.length by omega);have pW:=ah.mk hn1;have jm:=ah.mk hk1;have b9:=Yf hk 9 rfl
 have b14:=Yf hk 14 rfl
 have b15:=Yf hk 15 rfl
 have b10:=Yt hk 10 rfl
 have b11:=Yf hk 11 rfl
 have b12:=Yf hk 12 rfl
 have b13:=Yf hk 13 rfl
 have HOP:=ah.mk (Jp (Qr hx (.inl hk)));have ow : wrap64 (NG x.f1 + 1) = NG x.f1 + 1:=by have:=Et x.f1;unfold wrap64;omega
 have Jq:=ah.mk (show 9 ≤ x.f0 ∧ x.f0 ≤ 15 by omega);have vN:=ah.mk (he _ (fH (show 0 < x.f4.length by omega)) hx0);have HX0:=ah.mk hx0;have E8:=ah.mk (he _ (fH (show 1 < x.f4.length by omega)) hx1);have Fa:=ah.mk hx1;clear he hx hx0 hx1;have vC:=ah.mk hl;clear hl;rw [exT_10 hk] at h;unfold Jl at h;simp only [List.append_assoc] at h;have E:=PE.start h hn;clear h hn;obtain ⟨iC,iD,iE,iF,iG,iH⟩:=jq.out.at E.out.st.b;clear hn0 hk0;obtain ⟨k10,k11,k12,k13,k14,k15⟩:=jm.out.at E.out.st.b;clear hn1 hk1;have HKK:=ah.mk hk;clear hk;go_enter Tryz.func100,Tryz.ntmps100
 go_wp2_with (first
  | (go_at_call 115;(try clear c0 c1 c2 c3 c4 c5);(with_reducible refine PE.same E E.out (fun st => jf.no Jq.out st E.out.k) (fun w1 E c0 c1 c2 c3 c4 c5 => ?_));(try ((try clear iC iD iE iF iG iH);obtain ⟨iC,iD,iE,iF,iG,iH⟩:=jq.out.at E.out.st.b));(try ((try clear k10 k11 k12 k13 k14 k15);obtain ⟨k10,k11,k12,k13,k14,k15⟩:=jm.out.at E.out.st.b)))
  | (go_at_call 114;(try clear c0 c1 c2 c3 c4 c5);(with_reducible refine PE.still E E.out (dQ.calls 20 x.f1 (NG x.f1) _ E.out.kQ HOP.out) (fun w1 E c0 c1 c2 c3 c4 c5 => ?_));(try ((try clear iC iD iE iF iG iH);obtain ⟨iC,iD,iE,iF,iG,iH⟩:=jq.out.at E.out.st.b));(try ((try clear k10 k11 k12 k13 k14 k15);obtain ⟨k10,k11,k12,k13,k14,k15⟩:=jm.out.at E.out.st.b)))
  | (go_at_call 54;(try clear c0 c1 c2 c3 c4 c5);(with_reducible first|refine PE.jI E ?_|refine PE.jS E ?_|refine PE.jW E ?_|refine PE.jE E ?_);intro w1 E c0 c1 c2 c3 c4 c5;(try ((try clear iC iD iE iF iG iH);obtain ⟨iC,iD,iE,iF,iG,iH⟩:=jq.out.at E.out.st.b));(try ((try clear k10 k11 k12 k13 k14 k15);obtain ⟨k10,k11,k12,k13,k14,k15⟩:=jm.out.at E.out.st.b)))
  | (go_at_call 85;(try clear c0 c1 c2 c3 c4 c5);(with_reducible refine PE.call E E.out (fun st => yA.all vN.out HX0.out st qK.out) (fun w1 E c0 c1 c2 c3 c4 c5 => ?_));(try ((try clear iC iD iE iF iG iH);obtain ⟨iC,iD,iE,iF,iG,iH⟩:=jq.out.at E.out.st.b));(try ((try clear k10 k11 k12 k13 k14 k15);obtain ⟨k10,k11,k12,k13,k14,k15⟩:=jm.out.at E.out.st.b)))
  | (go_at_call 85;(try clear c0 c1 c2 c3 c4 c5);(with_reducible refine PE.call E E.out (fun st => yA.all E8.out Fa.out st pW.out) (fun w1 E c0 c1 c2 c3 c4 c5 => ?_));(try ((try clear iC iD iE iF iG iH);obtain ⟨iC,iD,iE,iF,iG,iH⟩:=jq.out.at E.out.st.b));(try ((try clear k10 k11 k12 k13 k14 k15);obtain ⟨k10,k11,k12,k13,k14,k15⟩:=jm.out.at E.out.st.b)))
  | fail)
 first|go_end0|go_ret|(refine bodyPost_ret (results_none rfl _ _ _) rfl ?_)
 exact ⟨rfl,E.out.st,E.out.fr⟩
theorem qj.k11 {p : Nat} {w0 w : World} {F r : List Int} {x : bn} {A : Option Addr} {c : Nat} {n : Nat} (hx : jh x = true) (he : ∀ y ∈ x.f4,jh y = true → lX n y) (hk : x.f0 = 11) (h : St false p w0 F (iy (n + 1) x ++ r) w) (hn : ND w0 x A c) : Calls Tryz.prog 100 #[.pointer (some ⟨p,0,none⟩),val x A c] w (nY false p w0 F r (.tuple #[]) w):=by
 obtain ⟨hl,hx0,hx1⟩:=ex_11 hx hk;have CJ : (0 : Int) < (x.f4.length : Int):=by omega
 have CO : 0 < x.f4.length:=by omega
 have Ry : (1 : Int) < (x.f4.length : Int):=by omega
 have Rz : 1 < x.f4.length:=by omega
 obtain ⟨ad,rfl⟩:=gY hn.C (show 0 < x.f4.length by omega);obtain ⟨A0,d0,hn0,hk0⟩:=zZ hn.C (show 0 < x.f4.length by omega);have qK:=ah.mk hn0;have jq:=ah.mk hk0;obtain ⟨A1,d1,hn1,hk1⟩:=Qu hn.C (show 1 < x.f4.length by omega);have pW:=ah.mk hn1;have jm:=ah.mk hk1;have b9:=Yf hk 9 rfl
 have b14:=Yf hk 14 rfl
 have b15:=Yf hk 15 rfl
 have b10:=Yf hk 10 rfl
 have b11:=Yt hk 11 rfl
 have b12:=Yf hk 12 rfl
 have b13:=Yf hk 13 rfl
 have HOP:=ah.mk (Jp (Qr hx (.inr hk)));have ow : wrap64 (NG x.f1 + 1) = NG x.f1 + 1:=by have:=Et x.f1;unfold wrap64;omega
 have Jq:=ah.mk (show 9 ≤ x.f0 ∧ x.f0 ≤ 15 by omega);have vN:=ah.mk (he _ (fH (show 0 < x.f4.length by omega)) hx0);have HX0:=ah.mk hx0;have E8:=ah.mk (he _ (fH (show 1 < x.f4.length by omega)) hx1);have Fa:=ah.mk hx1;clear he hx hx0 hx1;have vC:=ah.mk hl;clear hl;rw [exT_11 hk] at h;unfold Jl at h;simp only [List.append_assoc] at h;have E:=PE.start h hn;clear h hn;obtain ⟨iC,iD,iE,iF,iG,iH⟩:=jq.out.at E.out.st.b;clear hn0 hk0;obtain ⟨k10,k11,k12,k13,k14,k15⟩:=jm.out.at E.out.st.b;clear hn1 hk1;have HKK:=ah.mk hk;clear hk;go_enter Tryz.func100,Tryz.ntmps100
 go_wp2_with (first
  | (go_at_call 115;(try clear c0 c1 c2 c3 c4 c5);(with_reducible refine PE.same E E.out (fun st => jf.no Jq.out st E.out.k) (fun w1 E c0 c1 c2 c3 c4 c5 => ?_));(try ((try clear iC iD iE iF iG iH);obtain ⟨iC,iD,iE,iF,iG,iH⟩:=jq.out.at E.out.st.b));(try ((try clear k10 k11 k12 k13 k14 k15);obtain ⟨k10,k11,k12,k13,k14,k15⟩:=jm.out.at E.out.st.b)))
  | (go_at_call 114;(try clear c0 c1 c2 c3 c4 c5);(with_reducible refine PE.still E E.out (dQ.calls 20 x.f1 (NG x.f1) _ E.out.kQ HOP.out) (fun w1 E c0 c1 c2 c3 c4 c5 => ?_));(try ((try clear iC iD iE iF iG iH);obtain ⟨iC,iD,iE,iF,iG,iH⟩:=jq.out.at E.out.st.b));(try ((try clear k10 k11 k12 k13 k14 k15);obtain ⟨k10,k11,k12,k13,k14,k15⟩:=jm.out.at E.out.st.b)))
  | (go_at_call 54;(try clear c0 c1 c2 c3 c4 c5);(with_reducible first|refine PE.jI E ?_|refine PE.jS E ?_|refine PE.jW E ?_|refine PE.jE E ?_);intro w1 E c0 c1 c2 c3 c4 c5;(try ((try clear iC iD iE iF iG iH);obtain ⟨iC,iD,iE,iF,iG,iH⟩:=jq.out.at E.out.st.b));(try ((try clear k10 k11 k12 k13 k14 k15);obtain ⟨k10,k11,k12,k13,k14,k15⟩:=jm.out.at E.out.st.b)))
  | (go_at_call 85;(try clear c0 c1 c2 c3 c4 c5);(with_reducible refine PE.call E E.out (fun st => yA.all vN.out HX0.out st qK.out) (fun w1 E c0 c1 c2 c3 c4 c5 => ?_));(try ((try clear iC iD iE iF iG iH);obtain ⟨iC,iD,iE,iF,iG,iH⟩:=jq.out.at E.out.st.b));(try ((try clear k10 k11 k12 k13 k14 k15);obtain ⟨k10,k11,k12,k13,k14,k15⟩:=jm.out.at E.out.st.b)))
  | (go_at_call 85;(try clear c0 c1 c2 c3 c4 c5);(with_reducible refine PE.call E E.out (fun st => yA.all E8.out Fa.out st pW.out) (fun w1 E c0 c1 c2 c3 c4 c5 => ?_));(try ((try clear iC iD iE iF iG iH);obtain ⟨iC,iD,iE,iF,iG,iH⟩:=jq.out.at E.out.st.b));(try ((try clear k10 k11 k12 k13 k14 k15);obtain ⟨k10,k11,k12,k13,k14,k15⟩:=jm.out.at E.out.st.b)))
  | fail)
 first|go_end0|go_ret|(refine bodyPost_ret (results_none rfl _ _ _) rfl ?_)
 exact ⟨rfl,E.out.st,E.out.fr⟩
theorem qj.k12 {p : Nat} {w0 w : World} {F r : List Int} {x : bn} {A : Option Addr} {c : Nat} {n : Nat} (hx : jh x = true) (he : ∀ y ∈ x.f4,jh y = true → lX n y) (hk : x.f0 = 12) (h : St false p w0 F (iy (n + 1) x ++ r) w) (hn : ND w0 x A c) : Calls Tryz.prog 100 #[.pointer (some ⟨p,0,none⟩),val x A c] w (nY false p w0 F r (.tuple #[]) w):=by
 obtain ⟨hl,hx0,hx1,hx2⟩:=ex_12 hx hk;have CJ : (0 : Int) < (x.f4.length : Int):=by omega
 have CO : 0 < x.f4.length:=by omega
 have Ry : (1 : Int) < (x.f4.length : Int):=by omega
 have Rz : 1 < x.f4.length:=by omega
 have q2a : (2 : Int) < (x.f4.length : Int):=by omega
 have q2b : 2 < x.f4.length:=by omega
 obtain ⟨ad,rfl⟩:=gY hn.C (show 0 < x.f4.length by omega);obtain ⟨A0,d0,hn0,hk0⟩:=zZ hn.C (show 0 < x.f4.length by omega);have qK:=ah.mk hn0;have jq:=ah.mk hk0;obtain ⟨A1,d1,hn1,hk1⟩:=Qu hn.C (show 1 < x.f4.length by omega);have pW:=ah.mk hn1;have jm:=ah.mk hk1;obtain ⟨A2,d2,hn2,hk2⟩:=kd2 hn.C (show 2 < x.f4.length by omega);have HN2:=ah.mk hn2;have AQ:=ah.mk hk2;have b9:=Yf hk 9 rfl
 have b14:=Yf hk 14 rfl
 have b15:=Yf hk 15 rfl
 have b10:=Yf hk 10 rfl
 have b11:=Yf hk 11 rfl
 have b12:=Yt hk 12 rfl
 have b13:=Yf hk 13 rfl
 have Jq:=ah.mk (show 9 ≤ x.f0 ∧ x.f0 ≤ 15 by omega);have vN:=ah.mk (he _ (fH (show 0 < x.f4.length by omega)) hx0);have HX0:=ah.mk hx0;have E8:=ah.mk (he _ (fH (show 1 < x.f4.length by omega)) hx1);have Fa:=ah.mk hx1;have HE2:=ah.mk (he _ (fH (show 2 < x.f4.length by omega)) hx2);have HX2:=ah.mk hx2;clear he hx hx0 hx1 hx2;have vC:=ah.mk hl;clear hl;rw [exT_12 hk] at h;unfold Ru at h;simp only [List.append_assoc] at h;have E:=PE.start h hn;clear h hn;obtain ⟨iC,iD,iE,iF,iG,iH⟩:=jq.out.at E.out.st.b;clear hn0 hk0;obtain ⟨k10,k11,k12,k13,k14,k15⟩:=jm.out.at E.out.st.b;clear hn1 hk1;obtain ⟨k20,k21,k22,k23,k24,k25⟩:=AQ.out.at E.out.st.b;clear hn2 hk2;have HKK:=ah.mk hk;clear hk;go_enter Tryz.func100,Tryz.ntmps100
 go_wp2_with (first
  | (go_at_call 115;(try clear c0 c1 c2 c3 c4 c5);(with_reducible refine PE.same E E.out (fun st => jf.no Jq.out st E.out.k) (fun w1 E c0 c1 c2 c3 c4 c5 => ?_));(try ((try clear iC iD iE iF iG iH);obtain ⟨iC,iD,iE,iF,iG,iH⟩:=jq.out.at E.out.st.b));(try ((try clear k10 k11 k12 k13 k14 k15);obtain ⟨k10,k11,k12,k13,k14,k15⟩:=jm.out.at E.out.st.b));(try ((try clear k20 k21 k22 k23 k24 k25);obtain ⟨k20,k21,k22,k23,k24,k25⟩:=AQ.out.at E.out.st.b)))
  | (go_at_call 54;(try clear c0 c1 c2 c3 c4 c5);(with_reducible first|refine PE.jI E ?_|refine PE.jS E ?_|refine PE.jW E ?_|refine PE.jE E ?_);intro w1 E c0 c1 c2 c3 c4 c5;(try ((try clear iC iD iE iF iG iH);obtain ⟨iC,iD,iE,iF,iG,iH⟩:=jq.out.at E.out.st.b));(try ((try clear k10 k11 k12 k13 k14 k15);obtain ⟨k10,k11,k12,k13,k14,k15⟩:=jm.out.at E.out.st.b));(try ((try clear k20 k21 k22 k23 k24 k25);obtain ⟨k20,k21,k22,k23,k24,k25⟩:=AQ.out.at E.out.st.b)))
  | (go_at_call 85;(try clear c0 c1 c2 c3 c4 c5);(with_reducible refine PE.call E E.out (fun st => yA.all vN.out HX0.out st qK.out) (fun w1 E c0 c1 c2 c3 c4 c5 => ?_));(try ((try clear iC iD iE iF iG iH);obtain ⟨iC,iD,iE,iF,iG,iH⟩:=jq.out.at E.out.st.b));(try ((try clear k10 k11 k12 k13 k14 k15);obtain ⟨k10,k11,k12,k13,k14,k15⟩:=jm.out.at E.out.st.b));(try ((try clear k20 k21 k22 k23 k24 k25);obtain ⟨k20,k21,k22,k23,k24,k25⟩:=AQ.out.at E.out.st.b)))
  | (go_at_call 85;(try clear c0 c1 c2 c3 c4 c5);(with_reducible refine PE.call E E.out (fun st => yA.all E8.out Fa.out st pW.out) (fun w1 E c0 c1 c2 c3 c4 c5 => ?_));(try ((try clear iC iD iE iF iG iH);obtain ⟨iC,iD,iE,iF,iG,iH⟩:=jq.out.at E.out.st.b));(try ((try clear k10 k11 k12 k13 k14 k15);obtain ⟨k10,k11,k12,k13,k14,k15⟩:=jm.out.at E.out.st.b));(try ((try clear k20 k21 k22 k23 k24 k25);obtain ⟨k20,k21,k22,k23,k24,k25⟩:=AQ.out.at E.out.st.b)))
  | (go_at_call 85;(try clear c0 c1 c2 c3 c4 c5);(with_reducible refine PE.call E E.out (fun st => yA.all HE2.out HX2.out st HN2.out) (fun w1 E c0 c1 c2 c3 c4 c5 => ?_));(try ((try clear iC iD iE iF iG iH);obtain ⟨iC,iD,iE,iF,iG,iH⟩:=jq.out.at E.out.st.b));(try ((try clear k10 k11 k12 k13 k14 k15);obtain ⟨k10,k11,k12,k13,k14,k15⟩:=jm.out.at E.out.st.b));(try ((try clear k20 k21 k22 k23 k24 k25);obtain ⟨k20,k21,k22,k23,k24,k25⟩:=AQ.out.at E.out.st.b)))
  | fail)
 first|go_end0|go_ret|(refine bodyPost_ret (results_none rfl _ _ _) rfl ?_)
 exact ⟨rfl,E.out.st,E.out.fr⟩
theorem qj.k13 {p : Nat} {w0 w : World} {F r : List Int} {x : bn} {A : Option Addr} {c : Nat} {n : Nat} (hx : jh x = true) (he : ∀ y ∈ x.f4,jh y = true → lX n y) (hk : x.f0 = 13) (h : St false p w0 F (iy (n + 1) x ++ r) w) (hn : ND w0 x A c) : Calls Tryz.prog 100 #[.pointer (some ⟨p,0,none⟩),val x A c] w (nY false p w0 F r (.tuple #[]) w):=by
 obtain ⟨hl,hx0,hx1⟩:=ex_13 hx hk;have CJ : (0 : Int) < (x.f4.length : Int):=by omega
 have CO : 0 < x.f4.length:=by omega
 have Ry : (1 : Int) < (x.f4.length : Int):=by omega
 have Rz : 1 < x.f4.length:=by omega
 obtain ⟨ad,rfl⟩:=gY hn.C (show 0 < x.f4.length by omega);obtain ⟨A0,d0,hn0,hk0⟩:=zZ hn.C (show 0 < x.f4.length by omega);have qK:=ah.mk hn0;have jq:=ah.mk hk0;obtain ⟨A1,d1,hn1,hk1⟩:=Qu hn.C (show 1 < x.f4.length by omega);have pW:=ah.mk hn1;have jm:=ah.mk hk1;have b9:=Yf hk 9 rfl
 have b14:=Yf hk 14 rfl
 have b15:=Yf hk 15 rfl
 have b10:=Yf hk 10 rfl
 have b11:=Yf hk 11 rfl
 have b12:=Yf hk 12 rfl
 have b13:=Yt hk 13 rfl
 have Jq:=ah.mk (show 9 ≤ x.f0 ∧ x.f0 ≤ 15 by omega);have vN:=ah.mk (he _ (fH (show 0 < x.f4.length by omega)) hx0);have HX0:=ah.mk hx0;have E8:=ah.mk (he _ (fH (show 1 < x.f4.length by omega)) hx1);have Fa:=ah.mk hx1;clear he hx hx0 hx1;have vC:=ah.mk hl;clear hl;rw [exT_13 hk] at h;unfold Rw at h;simp only [List.append_assoc] at h;have E:=PE.start h hn;clear h hn;obtain ⟨iC,iD,iE,iF,iG,iH⟩:=jq.out.at E.out.st.b;clear hn0 hk0;obtain ⟨k10,k11,k12,k13,k14,k15⟩:=jm.out.at E.out.st.b;clear hn1 hk1;have HKK:=ah.mk hk;clear hk;go_enter Tryz.func100,Tryz.ntmps100
 go_wp2_with (first
  | (go_at_call 115;(try clear c0 c1 c2 c3 c4 c5);(with_reducible refine PE.same E E.out (fun st => jf.no Jq.out st E.out.k) (fun w1 E c0 c1 c2 c3 c4 c5 => ?_));(try ((try clear iC iD iE iF iG iH);obtain ⟨iC,iD,iE,iF,iG,iH⟩:=jq.out.at E.out.st.b));(try ((try clear k10 k11 k12 k13 k14 k15);obtain ⟨k10,k11,k12,k13,k14,k15⟩:=jm.out.at E.out.st.b)))
  | (go_at_call 54;(try clear c0 c1 c2 c3 c4 c5);(with_reducible first|refine PE.jI E ?_|refine PE.jS E ?_|refine PE.jW E ?_|refine PE.jE E ?_);intro w1 E c0 c1 c2 c3 c4 c5;(try ((try clear iC iD iE iF iG iH);obtain ⟨iC,iD,iE,iF,iG,iH⟩:=jq.out.at E.out.st.b));(try ((try clear k10 k11 k12 k13 k14 k15);obtain ⟨k10,k11,k12,k13,k14,k15⟩:=jm.out.at E.out.st.b)))
  | (go_at_call 85;(try clear c0 c1 c2 c3 c4 c5);(with_reducible refine PE.call E E.out (fun st => yA.all vN.out HX0.out st qK.out) (fun w1 E c0 c1 c2 c3 c4 c5 => ?_));(try ((try clear iC iD iE iF iG iH);obtain ⟨iC,iD,iE,iF,iG,iH⟩:=jq.out.at E.out.st.b));(try ((try clear k10 k11 k12 k13 k14 k15);obtain ⟨k10,k11,k12,k13,k14,k15⟩:=jm.out.at E.out.st.b)))
  | (go_at_call 85;(try clear c0 c1 c2 c3 c4 c5);(with_reducible refine PE.call E E.out (fun st => yA.all E8.out Fa.out st pW.out) (fun w1 E c0 c1 c2 c3 c4 c5 => ?_));(try ((try clear iC iD iE iF iG iH);obtain ⟨iC,iD,iE,iF,iG,iH⟩:=jq.out.at E.out.st.b));(try ((try clear k10 k11 k12 k13 k14 k15);obtain ⟨k10,k11,k12,k13,k14,k15⟩:=jm.out.at E.out.st.b)))
  | fail)
 first|go_end0|go_ret|(refine bodyPost_ret (results_none rfl _ _ _) rfl ?_)
 exact ⟨rfl,E.out.st,E.out.fr⟩
theorem qj.k14 {p : Nat} {w0 w : World} {F r : List Int} {x : bn} {A : Option Addr} {c : Nat} {n : Nat} (hx : jh x = true) (he : ∀ y ∈ x.f4,jh y = true → lX n y) (hk : x.f0 = 14) (h : St false p w0 F (iy (n + 1) x ++ r) w) (hn : ND w0 x A c) : Calls Tryz.prog 100 #[.pointer (some ⟨p,0,none⟩),val x A c] w (nY false p w0 F r (.tuple #[]) w):=by
 obtain ⟨hl,hx1⟩:=ex_14 hx hk;have CJ : (0 : Int) < (x.f4.length : Int):=by omega
 have CO : 0 < x.f4.length:=by omega
 have Ry : (1 : Int) < (x.f4.length : Int):=by omega
 have Rz : 1 < x.f4.length:=by omega
 obtain ⟨ad,rfl⟩:=gY hn.C (show 0 < x.f4.length by omega);obtain ⟨A0,d0,hn0,hk0⟩:=zZ hn.C (show 0 < x.f4.length by omega);have qK:=ah.mk hn0;have jq:=ah.mk hk0;obtain ⟨A1,d1,hn1,hk1⟩:=Qu hn.C (show 1 < x.f4.length by omega);have pW:=ah.mk hn1;have jm:=ah.mk hk1;have b9:=Yf hk 9 rfl
 have b14:=Yt hk 14 rfl
 have b15:=Yf hk 15 rfl
 have b10:=Yf hk 10 rfl
 have b11:=Yf hk 11 rfl
 have b12:=Yf hk 12 rfl
 have b13:=Yf hk 13 rfl
 have Jq:=ah.mk (show 9 ≤ x.f0 ∧ x.f0 ≤ 15 by omega);have E8:=ah.mk (he _ (fH (show 1 < x.f4.length by omega)) hx1);have Fa:=ah.mk hx1;clear he hx hx1;have vC:=ah.mk hl;clear hl;rw [NH hk] at h;unfold Rx at h;simp only [List.append_assoc] at h;have E:=PE.start h hn;clear h hn;obtain ⟨iC,iD,iE,iF,iG,iH⟩:=jq.out.at E.out.st.b;clear hn0 hk0;obtain ⟨k10,k11,k12,k13,k14,k15⟩:=jm.out.at E.out.st.b;clear hn1 hk1;have HKK:=ah.mk hk;clear hk;go_enter Tryz.func100,Tryz.ntmps100
 go_wp2_with (first
  | (go_at_call 115;(try clear c0 c1 c2 c3 c4 c5);(with_reducible refine PE.same E E.out (fun st => jf.no Jq.out st E.out.k) (fun w1 E c0 c1 c2 c3 c4 c5 => ?_));(try ((try clear iC iD iE iF iG iH);obtain ⟨iC,iD,iE,iF,iG,iH⟩:=jq.out.at E.out.st.b));(try ((try clear k10 k11 k12 k13 k14 k15);obtain ⟨k10,k11,k12,k13,k14,k15⟩:=jm.out.at E.out.st.b)))
  | (go_at_call 54;(try clear c0 c1 c2 c3 c4 c5);(with_reducible first|refine PE.jI E ?_|refine PE.jS E ?_|refine PE.jW E ?_|refine PE.jE E ?_);intro w1 E c0 c1 c2 c3 c4 c5;(try ((try clear iC iD iE iF iG iH);obtain ⟨iC,iD,iE,iF,iG,iH⟩:=jq.out.at E.out.st.b));(try ((try clear k10 k11 k12 k13 k14 k15);obtain ⟨k10,k11,k12,k13,k14,k15⟩:=jm.out.at E.out.st.b)))
  | (go_at_call 85;(try clear c0 c1 c2 c3 c4 c5);(with_reducible refine PE.call E E.out (fun st => yA.all E8.out Fa.out st pW.out) (fun w1 E c0 c1 c2 c3 c4 c5 => ?_));(try ((try clear iC iD iE iF iG iH);obtain ⟨iC,iD,iE,iF,iG,iH⟩:=jq.out.at E.out.st.b));(try ((try clear k10 k11 k12 k13 k14 k15);obtain ⟨k10,k11,k12,k13,k14,k15⟩:=jm.out.at E.out.st.b)))
  | fail)
 first|go_end0|go_ret|(refine bodyPost_ret (results_none rfl _ _ _) rfl ?_)
 exact ⟨rfl,E.out.st,E.out.fr⟩
theorem qj.k15a {p : Nat} {w0 w : World} {F r : List Int} {x : bn} {A : Option Addr} {c : Nat} {n : Nat} (hx : jh x = true) (he : ∀ y ∈ x.f4,jh y = true → lX n y) (hz0 : (nd x.f4 0).f0 = 16) (hk : x.f0 = 15) (h : St false p w0 F (iy (n + 1) x ++ r) w) (hn : ND w0 x A c) : Calls Tryz.prog 100 #[.pointer (some ⟨p,0,none⟩),val x A c] w (nY false p w0 F r (.tuple #[]) w):=by
 have hl:=(F6 hx hk).1;have CJ : (0 : Int) < (x.f4.length : Int):=by omega
 have CO : 0 < x.f4.length:=by omega
 obtain ⟨ad,rfl⟩:=gY hn.C (show 0 < x.f4.length by omega);obtain ⟨A0,d0,hn0,hk0⟩:=zZ hn.C (show 0 < x.f4.length by omega);have qK:=ah.mk hn0;have jq:=ah.mk hk0;have b9:=Yf hk 9 rfl
 have b14:=Yf hk 14 rfl
 have b15:=Yt hk 15 rfl
 have b10:=Yf hk 10 rfl
 have b11:=Yf hk 11 rfl
 have b12:=Yf hk 12 rfl
 have b13:=Yf hk 13 rfl
 have Jq:=ah.mk (show 9 ≤ x.f0 ∧ x.f0 ≤ 15 by omega);rw [Ep hk] at h;unfold Jm at h;rw [if_pos hz0] at h;simp only [List.append_assoc] at h;have b16k : ((nd x.f4 0).f0 == 16) = true:=by rw [hz0];rfl
 clear he hz0 hx;have vC:=ah.mk hl;clear hl;have E:=PE.start h hn;clear h hn;obtain ⟨iC,iD,iE,iF,iG,iH⟩:=jq.out.at E.out.st.b;clear hn0 hk0;have HKK:=ah.mk hk;clear hk;go_enter Tryz.func100,Tryz.ntmps100
 go_wp2_with (first
  | (go_at_call 115;(try clear c0 c1 c2 c3 c4 c5);(with_reducible refine PE.same E E.out (fun st => jf.no Jq.out st E.out.k) (fun w1 E c0 c1 c2 c3 c4 c5 => ?_));(try ((try clear iC iD iE iF iG iH);obtain ⟨iC,iD,iE,iF,iG,iH⟩:=jq.out.at E.out.st.b)))
  | (with_reducible refine iK rfl rfl rfl ?_;rintro g wa hg hz hB;have uY:=ah.mk hB;have HZ:=ah.mk hz;have qR:=ah.mk hg;clear hg hz hB)
  | (refine iU rfl rfl rfl (x:=nd x.f4 0) (A:=A0) (c:=d0) rfl rfl HZ.out ?_;rintro wb hN hB;replace E:=PE.box E.out.st E.out.fr (uY.out.trans (hB.mono (Nat.le_of_eq qR.out.symm))) (Nat.le_of_eq qR.out.symm) hN qK.out;clear hN hB;(try clear c0 c1 c2 c3 c4 c5);(try clear iC iD iE iF iG iH);obtain ⟨c0,c1,c2,c3,c4,c5⟩:=E.out.cells)
  | (go_at_call 54;(try clear c0 c1 c2 c3 c4 c5);(with_reducible first|refine PE.jI E ?_|refine PE.jS E ?_|refine PE.jW E ?_|refine PE.jE E ?_);intro w1 E c0 c1 c2 c3 c4 c5)
  | fail)
 first|go_end0|go_ret|(refine bodyPost_ret (results_none rfl _ _ _) rfl ?_)
 exact ⟨rfl,E.out.st,E.out.fr⟩
theorem qj.k15b {p : Nat} {w0 w : World} {F r : List Int} {x : bn} {A : Option Addr} {c : Nat} {n : Nat} (hx : jh x = true) (he : ∀ y ∈ x.f4,jh y = true → lX n y) (hz0 : (nd x.f4 0).f0 = 14) (hk : x.f0 = 15) (h : St false p w0 F (iy (n + 1) x ++ r) w) (hn : ND w0 x A c) : Calls Tryz.prog 100 #[.pointer (some ⟨p,0,none⟩),val x A c] w (nY false p w0 F r (.tuple #[]) w):=by
 have hl:=(F6 hx hk).1;have CJ : (0 : Int) < (x.f4.length : Int):=by omega
 have CO : 0 < x.f4.length:=by omega
 obtain ⟨ad,rfl⟩:=gY hn.C (show 0 < x.f4.length by omega);obtain ⟨A0,d0,hn0,hk0⟩:=zZ hn.C (show 0 < x.f4.length by omega);have qK:=ah.mk hn0;have jq:=ah.mk hk0;have b9:=Yf hk 9 rfl
 have b14:=Yf hk 14 rfl
 have b15:=Yt hk 15 rfl
 have b10:=Yf hk 10 rfl
 have b11:=Yf hk 11 rfl
 have b12:=Yf hk 12 rfl
 have b13:=Yf hk 13 rfl
 have Jq:=ah.mk (show 9 ≤ x.f0 ∧ x.f0 ≤ 15 by omega);rw [Ep hk] at h;unfold Jm at h;rw [if_neg (by omega),if_pos hz0] at h;simp only [List.append_assoc] at h;have b16k : ((nd x.f4 0).f0 == 16) = false:=by rw [hz0];rfl
 have b14k : ((nd x.f4 0).f0 == 14) = true:=by rw [hz0];rfl
 have vN:=ah.mk (he _ (fH (show 0 < x.f4.length by omega)) ((F6 hx hk).2.resolve_left (by omega)));clear he hz0 hx;have vC:=ah.mk hl;clear hl;have E:=PE.start h hn;clear h hn;obtain ⟨iC,iD,iE,iF,iG,iH⟩:=jq.out.at E.out.st.b;clear hn0 hk0;have HKK:=ah.mk hk;clear hk;go_enter Tryz.func100,Tryz.ntmps100
 go_wp2_with (first
  | (go_at_call 115;(try clear c0 c1 c2 c3 c4 c5);(with_reducible refine PE.same E E.out (fun st => jf.no Jq.out st E.out.k) (fun w1 E c0 c1 c2 c3 c4 c5 => ?_));(try ((try clear iC iD iE iF iG iH);obtain ⟨iC,iD,iE,iF,iG,iH⟩:=jq.out.at E.out.st.b)))
  | (with_reducible refine iK rfl rfl rfl ?_;rintro g wa hg hz hB;have uY:=ah.mk hB;have HZ:=ah.mk hz;have qR:=ah.mk hg;clear hg hz hB)
  | (refine iU rfl rfl rfl (x:=nd x.f4 0) (A:=A0) (c:=d0) rfl rfl HZ.out ?_;rintro wb hN hB;replace E:=PE.box E.out.st E.out.fr (uY.out.trans (hB.mono (Nat.le_of_eq qR.out.symm))) (Nat.le_of_eq qR.out.symm) hN qK.out;clear hN hB;(try clear c0 c1 c2 c3 c4 c5);(try clear iC iD iE iF iG iH);obtain ⟨c0,c1,c2,c3,c4,c5⟩:=E.out.cells)
  | (go_at_call 54;(try clear c0 c1 c2 c3 c4 c5);(with_reducible first|refine PE.jI E ?_|refine PE.jS E ?_|refine PE.jW E ?_|refine PE.jE E ?_);intro w1 E c0 c1 c2 c3 c4 c5)
  | (go_at_call 100;(try clear c0 c1 c2 c3 c4 c5);(with_reducible refine PE.call E E.out (fun st => vN.out.go st qK.out) (fun w1 E c0 c1 c2 c3 c4 c5 => ?_)))
  | fail)
 first|go_end0|go_ret|(refine bodyPost_ret (results_none rfl _ _ _) rfl ?_)
 exact ⟨rfl,E.out.st,E.out.fr⟩
theorem qj.k15c {p : Nat} {w0 w : World} {F r : List Int} {x : bn} {A : Option Addr} {c : Nat} {n : Nat} (hx : jh x = true) (he : ∀ y ∈ x.f4,jh y = true → lX n y) (hz0 : (nd x.f4 0).f0 ≠ 16) (hz1 : (nd x.f4 0).f0 ≠ 14) (hk : x.f0 = 15) (h : St false p w0 F (iy (n + 1) x ++ r) w) (hn : ND w0 x A c) : Calls Tryz.prog 100 #[.pointer (some ⟨p,0,none⟩),val x A c] w (nY false p w0 F r (.tuple #[]) w):=by
 have hl:=(F6 hx hk).1;have CJ : (0 : Int) < (x.f4.length : Int):=by omega
 have CO : 0 < x.f4.length:=by omega
 obtain ⟨ad,rfl⟩:=gY hn.C (show 0 < x.f4.length by omega);obtain ⟨A0,d0,hn0,hk0⟩:=zZ hn.C (show 0 < x.f4.length by omega);have qK:=ah.mk hn0;have jq:=ah.mk hk0;have b9:=Yf hk 9 rfl
 have b14:=Yf hk 14 rfl
 have b15:=Yt hk 15 rfl
 have b10:=Yf hk 10 rfl
 have b11:=Yf hk 11 rfl
 have b12:=Yf hk 12 rfl
 have b13:=Yf hk 13 rfl
 have Jq:=ah.mk (show 9 ≤ x.f0 ∧ x.f0 ≤ 15 by omega);rw [Ep hk] at h;unfold Jm at h;rw [if_neg hz0,if_neg hz1] at h;simp only [List.append_assoc] at h;have b16k : ((nd x.f4 0).f0 == 16) = false:=beq_eq_false_iff_ne.2 hz0;have b14k : ((nd x.f4 0).f0 == 14) = false:=beq_eq_false_iff_ne.2 hz1;have vN:=ah.mk (he _ (fH (show 0 < x.f4.length by omega)) ((F6 hx hk).2.resolve_left hz0));have HX0:=ah.mk ((F6 hx hk).2.resolve_left hz0);clear he hz0 hz1 hx;have vC:=ah.mk hl;clear hl;have E:=PE.start h hn;clear h hn;obtain ⟨iC,iD,iE,iF,iG,iH⟩:=jq.out.at E.out.st.b;clear hn0 hk0;have HKK:=ah.mk hk;clear hk;go_enter Tryz.func100,Tryz.ntmps100
 go_wp2_with (first
  | (go_at_call 115;(try clear c0 c1 c2 c3 c4 c5);(with_reducible refine PE.same E E.out (fun st => jf.no Jq.out st E.out.k) (fun w1 E c0 c1 c2 c3 c4 c5 => ?_));(try ((try clear iC iD iE iF iG iH);obtain ⟨iC,iD,iE,iF,iG,iH⟩:=jq.out.at E.out.st.b)))
  | (with_reducible refine iK rfl rfl rfl ?_;rintro g wa hg hz hB;have uY:=ah.mk hB;have HZ:=ah.mk hz;have qR:=ah.mk hg;clear hg hz hB)
  | (refine iU rfl rfl rfl (x:=nd x.f4 0) (A:=A0) (c:=d0) rfl rfl HZ.out ?_;rintro wb hN hB;replace E:=PE.box E.out.st E.out.fr (uY.out.trans (hB.mono (Nat.le_of_eq qR.out.symm))) (Nat.le_of_eq qR.out.symm) hN qK.out;clear hN hB;(try clear c0 c1 c2 c3 c4 c5);(try clear iC iD iE iF iG iH);obtain ⟨c0,c1,c2,c3,c4,c5⟩:=E.out.cells)
  | (go_at_call 54;(try clear c0 c1 c2 c3 c4 c5);(with_reducible first|refine PE.jI E ?_|refine PE.jS E ?_|refine PE.jW E ?_|refine PE.jE E ?_);intro w1 E c0 c1 c2 c3 c4 c5)
  | (go_at_call 85;(try clear c0 c1 c2 c3 c4 c5);(with_reducible refine PE.call E E.out (fun st => yA.all vN.out HX0.out st qK.out) (fun w1 E c0 c1 c2 c3 c4 c5 => ?_)))
  | fail)
 first|go_end0|go_ret|(refine bodyPost_ret (results_none rfl _ _ _) rfl ?_)
 exact ⟨rfl,E.out.st,E.out.fr⟩
def yu (e : bn → List Int) (y : bn) : List Int:=if y.f0 = 56 then [] else qU e y 0
def wF (e : bn → List Int) (l : List bn) : List Int:=if l.length = 0 then [] else bytesOf ⟨#[32,61,32]⟩ ++ (if (nd l 0).f0 = 44 then bytesOf ⟨#[123]⟩ ++ (F5 e true (nd l 0).f4 ++ bytesOf ⟨#[125]⟩) else qU e (nd l 0) 0)
def oM (e : bn → List Int) (x : bn) : List Int:=bytesOf x.f1 ++ (if x.f3 = true then bytesOf ⟨#[91]⟩ ++ (yu e (nd x.f4 0) ++ (bytesOf ⟨#[93]⟩ ++ wF e (x.f4.drop 1))) else wF e x.f4)
def NI (e : bn → List Int) : Bool → List bn → List Int
 | _,[] => []
 | b,y :: ys => (if b = true then [] else bytesOf ⟨#[44,32]⟩) ++ (oM e y ++ NI e false ys)
def Qv (n : Int) : ByteArray:=if n = 1 then ⟨#[42]⟩ else ⟨#[]⟩
def paG (x : bn) : List Int:=bytesOf (nd x.f4 0).f1 ++ (bytesOf ⟨#[32]⟩ ++ (bytesOf (Qv x.f2) ++ (bytesOf x.f1 ++ (if x.f3 = true then bytesOf ⟨#[91,93]⟩ else []))))
def yw : Bool → List bn → List Int
 | _,[] => []
 | b,y :: ys => (if b = true then [] else bytesOf ⟨#[44,32]⟩) ++ (paG y ++ yw false ys)
def RD (e : bn → List Int) (word : ByteArray) (y : bn) (en : ByteArray) : List Int:=bytesOf word ++ (bytesOf ⟨#[32,40]⟩ ++ (qU e y 0 ++ (bytesOf ⟨#[41]⟩ ++ bytesOf en)))
def ED (l : bn → List Int) : List bn → List Int
 | [] => []
 | y :: ys => l y ++ ED l ys
def NJ (l : bn → List Int) (ys : List bn) : List Int:=bytesOf ⟨#[123,10]⟩ ++ (ED l ys ++ bytesOf ⟨#[125]⟩)
def RF (l : bn → List Int) (x : bn) : List Int:=bytesOf ⟨#[115,116,114,117,99,116,32]⟩ ++ (bytesOf x.f1 ++ (bytesOf ⟨#[32]⟩ ++ (NJ l x.f4 ++ (bytesOf ⟨#[59]⟩ ++ bytesOf ⟨#[10]⟩))))
def RG (e : bn → List Int) (x : bn) : List Int:=bytesOf (nd x.f4 0).f1 ++ (bytesOf ⟨#[32]⟩ ++ (NI e true (x.f4.drop 1) ++ (bytesOf ⟨#[59]⟩ ++ bytesOf ⟨#[10]⟩)))
def RH (l : bn → List Int) (x : bn) : List Int:=bytesOf (nd x.f4 0).f1 ++ (bytesOf ⟨#[32]⟩ ++ (bytesOf x.f1 ++ (bytesOf ⟨#[40]⟩ ++ (yw true ((x.f4.take (x.f4.length - 1)).drop 1) ++ (bytesOf ⟨#[41,32]⟩ ++ (NJ l (nd x.f4 (x.f4.length - 1)).f4 ++ bytesOf ⟨#[10]⟩))))))
def RI (l : bn → List Int) (x : bn) : List Int:=NJ l x.f4 ++ bytesOf ⟨#[10]⟩
def RJ (e : bn → List Int) (x : bn) : List Int:=qU e (nd x.f4 0) 0 ++ (bytesOf ⟨#[59]⟩ ++ bytesOf ⟨#[10]⟩)
def NK (e l : bn → List Int) (x : bn) : List Int:=RD e ⟨#[105,102]⟩ (nd x.f4 0) ⟨#[10]⟩ ++ (l (nd x.f4 1) ++ (if 2 < x.f4.length then bytesOf ⟨#[101,108,115,101,10]⟩ ++ l (nd x.f4 2) else []))
def RN (e l : bn → List Int) (x : bn) : List Int:=RD e ⟨#[119,104,105,108,101]⟩ (nd x.f4 0) ⟨#[10]⟩ ++ l (nd x.f4 1)
def RP (e l : bn → List Int) (x : bn) : List Int:=bytesOf ⟨#[100,111,10]⟩ ++ (l (nd x.f4 0) ++ (RD e ⟨#[119,104,105,108,101]⟩ (nd x.f4 1) ⟨#[59]⟩ ++ bytesOf ⟨#[10]⟩))
def NM (e l : bn → List Int) (x : bn) : List Int:=bytesOf ⟨#[102,111,114,32,40]⟩ ++ (yu e (nd x.f4 0) ++ (bytesOf ⟨#[59,32]⟩ ++ (yu e (nd x.f4 1) ++ (bytesOf ⟨#[59,32]⟩ ++ (yu e (nd x.f4 2) ++ (bytesOf ⟨#[41,10]⟩ ++ l (nd x.f4 3)))))))
def ln53 : List Int:=bytesOf ⟨#[98,114,101,97,107]⟩ ++ (bytesOf ⟨#[59]⟩ ++ bytesOf ⟨#[10]⟩)
def ln54 : List Int:=bytesOf ⟨#[99,111,110,116,105,110,117,101]⟩ ++ (bytesOf ⟨#[59]⟩ ++ bytesOf ⟨#[10]⟩)
def NP (e : bn → List Int) (x : bn) : List Int:=bytesOf ⟨#[114,101,116,117,114,110]⟩ ++ ((if 0 < x.f4.length then bytesOf ⟨#[32]⟩ ++ qU e (nd x.f4 0) 0 else []) ++ (bytesOf ⟨#[59]⟩ ++ bytesOf ⟨#[10]⟩))
def NQ : List Int:=bytesOf ⟨#[59]⟩ ++ bytesOf ⟨#[10]⟩
def kZ : Nat → bn → List Int
 | 0,_ => []
 | n + 1,x => if x.f0 = 41 then RF (kZ n) x else if x.f0 = 42 then RG (iy n) x else if x.f0 = 45 then RH (kZ n) x else if x.f0 = 47 then RI (kZ n) x else if x.f0 = 48 then RJ (iy n) x else if x.f0 = 49 then NK (iy n) (kZ n) x else if x.f0 = 50 then RN (iy n) (kZ n) x else if x.f0 = 51 then RP (iy n) (kZ n) x else if x.f0 = 52 then NM (iy n) (kZ n) x else if x.f0 = 53 then ln53 else if x.f0 = 54 then ln54 else if x.f0 = 55 then NP (iy n) x else NQ
theorem lnT_41 {n : Nat} {x : bn} (h : x.f0 = 41) : kZ (n + 1) x = RF (kZ n) x:=by unfold kZ;simp [h]
theorem lnT_42 {n : Nat} {x : bn} (h : x.f0 = 42) : kZ (n + 1) x = RG (iy n) x:=by unfold kZ;simp [h]
theorem lnT_45 {n : Nat} {x : bn} (h : x.f0 = 45) : kZ (n + 1) x = RH (kZ n) x:=by unfold kZ;simp [h]
theorem lnT_47 {n : Nat} {x : bn} (h : x.f0 = 47) : kZ (n + 1) x = RI (kZ n) x:=by unfold kZ;simp [h]
theorem lnT_48 {n : Nat} {x : bn} (h : x.f0 = 48) : kZ (n + 1) x = RJ (iy n) x:=by unfold kZ;simp [h]
theorem NR {n : Nat} {x : bn} (h : x.f0 = 49) : kZ (n + 1) x = NK (iy n) (kZ n) x:=by unfold kZ;simp [h]
theorem lnT_50 {n : Nat} {x : bn} (h : x.f0 = 50) : kZ (n + 1) x = RN (iy n) (kZ n) x:=by unfold kZ;simp [h]
theorem lnT_51 {n : Nat} {x : bn} (h : x.f0 = 51) : kZ (n + 1) x = RP (iy n) (kZ n) x:=by unfold kZ;simp [h]
theorem lnT_52 {n : Nat} {x : bn} (h : x.f0 = 52) : kZ (n + 1) x = NM (iy n) (kZ n) x:=by unfold kZ;simp [h]
theorem lnT_53 {n : Nat} {x : bn} (h : x.f0 = 53) : kZ (n + 1) x = ln53  := by unfold kZ;simp [h]
theorem lnT_54 {n : Nat} {x : bn} (h : x.f0 = 54) : kZ (n + 1) x = ln54  := by unfold kZ;simp [h]
theorem NS {n : Nat} {x : bn} (h : x.f0 = 55) : kZ (n + 1) x = NP (iy n) x:=by unfold kZ;simp [h]
theorem lnT_56 {n : Nat} {x : bn} (h : x.f0 = 56) : kZ (n + 1) x = NQ  := by unfold kZ;simp [h]
noncomputable def Aa (x : bn) : Bool:=(isS x || (decide (x.f0 = 41) || (decide (x.f0 = 42) || decide (x.f0 = 45)))) && ji x
theorem ln_may {x : bn} (h : Aa x = true) : ji x = true:=by
 unfold Aa at h;rw [Bool.and_eq_true] at h;exact h.2
theorem Eu {x : bn} (h1 : isS x = true) (h2 : ji x = true) : Aa x = true:=by unfold Aa;rw [h1,h2];rfl
theorem lnB_42 {x : bn} (h1 : x.f0 = 42) (h2 : ji x = true) : Aa x = true:=by unfold Aa;rw [h2,decide_eq_true h1];simp
theorem sZ {x : bn} (h : ji x = true) (hs : 47 ≤ x.f0 ∧ x.f0 ≤ 56) : jD x = true ∧ ∀ y ∈ x.f4,ji y = true:=by
 rw [mayT_S hs] at h;simp only [Bool.and_eq_true,List.all_eq_true] at h;exact ⟨h.1.2,h.2⟩
theorem wQ {x : bn} (h : ji x = true) (hs : 40 ≤ x.f0 ∧ x.f0 ≤ 46) : jM x = true ∧ ∀ y ∈ x.f4,ji y = true:=by
 rw [Jk hs] at h;simp only [Bool.and_eq_true,List.all_eq_true] at h;exact ⟨h.1.2,h.2⟩
theorem st_47 {x : bn} (h : ji x = true) (hk : x.f0 = 47) : ∀ y ∈ x.f4,Aa y = true:=by
 obtain ⟨h1,h2⟩:=sZ h (by omega);rw [show jD x = s47 x from by unfold jD;simp [hk]] at h1;unfold s47 at h1;simp only [Bool.and_eq_true,List.all_eq_true,Bool.or_eq_true,decide_eq_true_eq] at h1;intro y hy;rcases h1.2 y hy with h3|h3
 · exact Eu h3 (h2 y hy)
 · exact lnB_42 h3 (h2 y hy)
theorem st_48 {x : bn} (h : ji x = true) (hk : x.f0 = 48) : x.f4.length = 1 ∧ jh (nd x.f4 0) = true:=by
 obtain ⟨h1,h2⟩:=sZ h (by omega);rw [show jD x = s48 x from by unfold jD;simp [hk]] at h1;unfold s48 at h1;simp only [Bool.and_eq_true,gE,List.map_cons,List.map_nil,yh,decide_eq_true_eq] at h1;exact ⟨h1.2.1,kK h1.2.2 (jk h2 (by omega))⟩
theorem st_49 {x : bn} (h : ji x = true) (hk : x.f0 = 49) : (x.f4.length = 2 ∨ (x.f4.length = 3 ∧ Aa (nd x.f4 2) = true)) ∧ jh (nd x.f4 0) = true ∧ Aa (nd x.f4 1) = true:=by
 obtain ⟨h1,h2⟩:=sZ h (by omega);rw [show jD x = s49 x from by unfold jD;simp [hk]] at h1;unfold s49 at h1;simp only [Bool.and_eq_true,Bool.or_eq_true,gES,Nk,List.map_cons,List.map_nil,shape2,shape3,decide_eq_true_eq] at h1;rcases h1.2 with h3|h3
 · exact ⟨.inl h3.1,kK h3.2.1 (jk h2 (by omega)),Eu h3.2.2 (jk h2 (by omega))⟩
 · exact ⟨.inr ⟨h3.1.1,Eu h3.1.2.2 (jk h2 (by omega))⟩,kK h3.1.2.1.1 (jk h2 (by omega)),Eu h3.1.2.1.2 (jk h2 (by omega))⟩
theorem st_50 {x : bn} (h : ji x = true) (hk : x.f0 = 50) : x.f4.length = 2 ∧ jh (nd x.f4 0) = true ∧ Aa (nd x.f4 1) = true:=by
 obtain ⟨h1,h2⟩:=sZ h (by omega);rw [show jD x = s50 x from by unfold jD;simp [hk]] at h1;unfold s50 at h1;simp only [Bool.and_eq_true,gES,List.map_cons,List.map_nil,shape2,decide_eq_true_eq] at h1;exact ⟨h1.2.1,kK h1.2.2.1 (jk h2 (by omega)),Eu h1.2.2.2 (jk h2 (by omega))⟩
theorem st_51 {x : bn} (h : ji x = true) (hk : x.f0 = 51) : x.f4.length = 2 ∧ Aa (nd x.f4 0) = true ∧ jh (nd x.f4 1) = true:=by
 obtain ⟨h1,h2⟩:=sZ h (by omega);rw [show jD x = s51 x from by unfold jD;simp [hk]] at h1;unfold s51 at h1;simp only [Bool.and_eq_true,gSE,List.map_cons,List.map_nil,shape2,decide_eq_true_eq] at h1;exact ⟨h1.2.1,Eu h1.2.2.1 (jk h2 (by omega)),kK h1.2.2.2 (jk h2 (by omega))⟩
theorem Qw {y : bn} (h1 : PD y = true) (h2 : ji y = true) : y.f0 = 56 ∨ jh y = true:=by
 unfold PD at h1;simp only [Bool.or_eq_true,decide_eq_true_eq] at h1;rcases h1 with h|h
 · exact .inl h
 · exact .inr (kK h h2)
theorem st_52 {x : bn} (h : ji x = true) (hk : x.f0 = 52) : x.f4.length = 4 ∧ (∀ i,i < 3 → (nd x.f4 i).f0 = 56 ∨ jh (nd x.f4 i) = true) ∧ Aa (nd x.f4 3) = true:=by
 obtain ⟨h1,h2⟩:=sZ h (by omega);rw [show jD x = s52 x from by unfold jD;simp [hk]] at h1;unfold s52 at h1;simp only [Bool.and_eq_true,Ed,List.map_cons,List.map_nil,shape4,decide_eq_true_eq] at h1;refine ⟨h1.2.1,fun i hi => ?_,Eu h1.2.2.2 (jk h2 (by omega))⟩
 match i,hi with
 | 0,_ => exact Qw h1.2.2.1.1.1 (jk h2 (by omega))
 | 1,_ => exact Qw h1.2.2.1.1.2 (jk h2 (by omega))
 | 2,_ => exact Qw h1.2.2.1.2 (jk h2 (by omega))
theorem st_55 {x : bn} (h : ji x = true) (hk : x.f0 = 55) : x.f4.length = 0 ∨ (x.f4.length = 1 ∧ jh (nd x.f4 0) = true):=by
 obtain ⟨h1,h2⟩:=sZ h (by omega);rw [show jD x = s55 x from by unfold jD;simp [hk]] at h1;unfold s55 at h1;simp only [Bool.and_eq_true,List.all_eq_true,decide_eq_true_eq] at h1;by_cases h0 : x.f4.length = 0
 · exact .inl h0
 · exact .inr ⟨by omega,kK (h1.2.2 _ (fH (by omega))) (jk h2 (by omega))⟩
theorem de_41 {x : bn} (h : ji x = true) (hk : x.f0 = 41) : ∀ y ∈ x.f4,Aa y = true:=by
 obtain ⟨h1,h2⟩:=wQ h (by omega);rw [show jM x = d41 x from by unfold jM;simp [hk]] at h1;unfold d41 at h1;simp only [Bool.and_eq_true,List.all_eq_true] at h1;intro y hy;have h3:=h1.2 y hy;unfold vV at h3;simp only [Bool.and_eq_true,decide_eq_true_eq] at h3;exact lnB_42 h3.1 (h2 y hy)
noncomputable def vaB (x : bn) : Bool:=decide (x.f0 = 43) && ji x
theorem de_42 {x : bn} (h : ji x = true) (hk : x.f0 = 42) : 2 ≤ x.f4.length ∧ ∀ y ∈ x.f4.drop 1,vaB y = true:=by
 obtain ⟨h1,h2⟩:=wQ h (by omega);rw [show jM x = EZ x from by unfold jM;simp [hk]] at h1;unfold EZ at h1;simp only [Bool.and_eq_true,List.all_eq_true,decide_eq_true_eq] at h1;refine ⟨h1.1.1.2,fun y hy => ?_⟩;unfold vaB;rw [List.drop_one] at hy;rw [decide_eq_true (h1.2 y hy),h2 y (List.mem_of_mem_tail hy)];rfl
theorem va_43 {x : bn} (h : vaB x = true) : x.f0 = 43 ∧ (if x.f3 = true then x.f4.length ≠ 0 ∧ ((nd x.f4 0).f0 = 56 ∨ jh (nd x.f4 0) = true) ∧ (x.f4.length = 1 ∨ (x.f4.length = 2 ∧ (((nd x.f4 1).f0 = 44 ∧ ∀ y ∈ (nd x.f4 1).f4,jh y = true) ∨ jh (nd x.f4 1) = true))) else x.f4.length = 0 ∨ (x.f4.length = 1 ∧ jh (nd x.f4 0) = true)):=by
 unfold vaB at h;rw [Bool.and_eq_true,decide_eq_true_eq] at h;obtain ⟨hk,h⟩:=h;obtain ⟨h1,h2⟩:=wQ h (by omega);rw [show jM x = d43 x from by unfold jM;simp [hk]] at h1;unfold d43 at h1;rw [Bool.and_eq_true] at h1;have h1:=h1.2;unfold Jh at h1;refine ⟨hk,?_⟩;by_cases hf : x.f3 = true
 · rw [if_pos hf] at h1 ⊢;simp only [Bool.and_eq_true,Bool.or_eq_true,decide_eq_true_eq,Bool.not_eq_true',decide_eq_false_iff_not] at h1;refine ⟨h1.1.1,Qw h1.1.2 (jk h2 (by omega)),?_⟩;rcases h1.2 with h3 | ⟨h3,h4⟩
   · exact .inl h3
   · refine .inr ⟨h3,?_⟩;have hm:=jk h2 (i:=1) (by omega);rcases h4 with h4|h4
     · exact .inr (kK h4 hm)
     · refine .inl ⟨h4,?_⟩;have h5:=liT_eq h4;unfold liT at h5;rw [decide_eq_true h4,hm] at h5;have h6:=h5.symm;simp only [Bool.and_self,Bool.and_eq_true,List.all_eq_true] at h6;exact h6.2.2
 · rw [if_neg hf] at h1 ⊢;simp only [Bool.and_eq_true,Bool.or_eq_true,decide_eq_true_eq] at h1;rcases h1 with h3|h3
   · exact .inl h3
   · exact .inr ⟨h3.1,kK h3.2 (jk h2 (by omega))⟩
noncomputable def paB (x : bn) : Bool:=decide (x.f0 = 46) && ji x
theorem pa_46 {x : bn} (h : paB x = true) : x.f0 = 46 ∧ x.f2 ≤ 1 ∧ x.f4.length = 1:=by
 have hk : x.f0 = 46:=by
  unfold paB at h;rw [Bool.and_eq_true,decide_eq_true_eq] at h;exact h.1
 have h1 : paT x = true:=h;rw [paT_eq hk] at h1;simp only [Bool.and_eq_true,decide_eq_true_eq] at h1;exact ⟨hk,h1.1,h1.2.2.2.1⟩
theorem fn_45 {x : bn} (h : ji x = true) (hk : x.f0 = 45) : 2 ≤ x.f4.length ∧ (nd x.f4 (x.f4.length - 1)).f0 = 47 ∧ (∀ y ∈ (nd x.f4 (x.f4.length - 1)).f4,Aa y = true) ∧ ∀ y ∈ (x.f4.take (x.f4.length - 1)).drop 1,paB y = true:=by
 have h1 : fnT x = true:=by unfold fnT;rw [decide_eq_true hk,h];rfl
 rw [fnT_eq hk] at h1;simp only [Bool.and_eq_true,decide_eq_true_eq,List.all_eq_true] at h1;have h2 : blT (nd x.f4 (x.f4.length - 1)) = true:=h1.2.2.2.2.1;unfold blT at h2;rw [Bool.and_eq_true,decide_eq_true_eq] at h2;exact ⟨h1.2.2.1,h2.1,st_47 h2.2 h2.1,h1.2.2.2.2.2⟩
structure SE (s : Bool) (p : Nat) (w0 : World) (F r : List Int) (ws W : World) : Prop where
 st : St s p w0 F r W
 fr : Fr p ws W
section
variable {s : Bool} {p : Nat} {w0 : World} {F r t : List Int} {ws W : World}
theorem SE.start (h : St s p w0 F r ws) : ah (SE s p w0 F r ws ws):=⟨h,Fr.refl _ _⟩
theorem SE.step {W1 : World} (E : SE s p w0 F r ws W) (hB : Below W.heap.size W W1) : SE s p w0 F r ws W1:=⟨E.st.step hB,E.fr.trans (Fr.of_below hB)⟩
theorem SE.alloc (E : SE s p w0 F r ws W) (o : Obj) : SE s p w0 F r ws (W.alloc o):=E.step (au (Below.refl _ _) _)
theorem SE.call {W0 : World} {r0 : List Int} {v : Value} {f : FuncId} {args : Array Value} {Q : Ending → World → Prop} (E0 : ah (SE s p w0 F r0 ws W0)) (E : SE s p w0 F (t ++ r) ws W) (h : St s p w0 F (t ++ r) W → Calls Tryz.prog f args W (nY s p w0 F r v W))
 (K : ∀ w1,ah (SE s p w0 F r ws w1) → Q (.returned v) w1) : Calls Tryz.prog f args W Q:=by
 refine (h E.st).mono ?_;rintro e w1 ⟨rfl,h1,h2⟩;exact K w1 ⟨⟨h1,E.fr.trans h2⟩⟩
end
section
variable {p : Nat} {w0 : World} {F r t : List Int} {ws W : World}
theorem SE.jI {q cc : Nat} {a : ByteArray} {Q : Ending → World → Prop} (E : ah (SE false p w0 F (bytesOf a ++ r) ws W)) (K : ∀ w1,ah (SE false p w0 F r ws w1) → Q (.returned (.tuple #[])) w1) (hq : q = W.heap.size:=by first|rfl|(simp;done)) :
 Calls Tryz.prog 54 #[.pointer (some ⟨p,0,none⟩),.slice (some ⟨q,0,none⟩) 1 cc] (W.alloc (.cells #[.string a] 9 (0,0))) Q:=by
 subst hq;exact SE.call E (E.out.alloc _) (fun h => putP.calls [a] (by simpa using h) (fun e => by have:=E.out.st.lt;omega) (eP W _) (by simp)) K
end
def wR (n : Nat) (y : bn) : Prop:=∀ (p : Nat) (w0 w : World) (F r : List Int) (A : Option Addr) (c : Nat),St false p w0 F (kZ n y ++ r) w → ND w0 y A c → Calls Tryz.prog 38 #[.pointer (some ⟨p,0,none⟩),val y A c] w (nY false p w0 F r (.tuple #[]) w)
theorem wR.go {n : Nat} {y : bn} {p : Nat} {w0 w : World} {F r : List Int} {A : Option Addr} {c : Nat} (h : wR n y) (st : St false p w0 F (kZ n y ++ r) w) (hn : ND w0 y A c) : Calls Tryz.prog 38 #[.pointer (some ⟨p,0,none⟩),val y A c] w (nY false p w0 F r (.tuple #[]) w):=h p w0 w F r A c st hn
theorem al_at {l : bn → List Int} {xs : List bn} {i : Nat} (hi : i < xs.length) : ED l (xs.drop i) = l (nd xs i) ++ ED l (xs.drop (i + 1)):=by
 rw [zY xs hi];rfl
theorem al_end {l : bn → List Int} {xs : List bn} {i : Nat} (hi : ¬ i < xs.length) : ED l (xs.drop i) = []:=by
 rw [List.drop_eq_nil_of_le (by omega)];rfl
theorem allP.all {n : Nat} {xs : List bn} {p : Nat} {w0 w : World} {F r : List Int} {A : Option Addr} {c : Nat} (hk : ∀ y ∈ xs,wR n y) (h : St false p w0 F (ED (kZ n) xs ++ r) w) (hC : Kd.C k25 w0 A xs.length xs) : Calls Tryz.prog 26 #[.pointer (some ⟨p,0,none⟩),.slice A xs.length c] w (nY false p w0 F r (.tuple #[]) w):=by
 have HK:=ah.mk hk;have HC:=ah.mk hC;have ST:=ah.mk h;have HMX:=ah.mk hC.2.1;clear hk h hC;go_enter Tryz.func26,Tryz.ntmps26
 go_wp2
 go_loopg [8] xs.length (fun kq v w' => ∃ i : Nat,v = .int .i64 i ∧ ah (i + kq = xs.length) ∧ ah (St false p w0 F (ED (kZ n) (xs.drop i) ++ r) w') ∧ ah (Fr p w w'))
 case atStart => exact ⟨0,rfl,⟨by omega⟩,ST,⟨Fr.refl _ _⟩⟩
 case round =>
  obtain ⟨i,rfl,HI,ST,HF⟩:=hrel;by_cases hi : i < xs.length
  · have EP : decide (i < xs.length) = true:=decide_eq_true hi;have e1 : decide ((i : Int) < (xs.length : Int)) = true:=decide_eq_true (by omega);have p1 : (0 : Int) ≤ (i : Int):=by omega
    have q1 : (i : Int) < (xs.length : Int):=by omega
    have qg:=ah.mk hi;have vM:=ah.mk (fH hi);have w3 : wrap64 ((i : Int) + 1) = (i : Int) + 1:=by have:=HMX.out;unfold wrap64;omega
    have w4 : IntKind.i64.wrap ((i : Int) + 1) = (i : Int) + 1:=(bW _).trans w3;obtain ⟨ad,A',c',rfl,hn,hkn⟩:=Qs HC.out i hi;have HN:=ah.mk hn;have Je:=ah.mk hkn;obtain ⟨k0,k1,k2,k3,k4,k5⟩:=Je.out.at ST.out.b;rw [al_at hi,List.append_assoc] at ST;clear hi hn hkn;go_wp2_with (first
     | (with_reducible refine iK rfl rfl rfl ?_;rintro g wa hg hz hB;have uY:=ah.mk hB;have HZ:=ah.mk hz;have qR:=ah.mk hg;clear hg hz hB)
     | (refine iU rfl rfl rfl (x:=nd xs i) (A:=A') (c:=c') rfl rfl HZ.out ?_;rintro wb hN hB;have E:=PE.box ST.out HF.out (uY.out.trans (hB.mono (Nat.le_of_eq qR.out.symm))) (Nat.le_of_eq qR.out.symm) hN HN.out;(try clear k0 k1 k2 k3 k4 k5);obtain ⟨c0,c1,c2,c3,c4,c5⟩:=E.out.cells;clear hN hB)
     | (go_at_call 38;(try clear c0 c1 c2 c3 c4 c5);(with_reducible refine PE.call E E.out (fun st => (HK.out _ vM.out).go st E.out.k) (fun w1 E c0 c1 c2 c3 c4 c5 => ?_)))
     | fail)
    go_roundg (xs.length - (i + 1))
    case measure => have:=HI.out;have:=qg.out;omega
    case rel => exact ⟨i + 1,by (try simp only [w4,w3]);rfl,⟨by have:=HI.out;have:=qg.out;omega⟩,⟨E.out.st⟩,⟨E.out.fr⟩⟩
  · have EP : decide (i < xs.length) = false:=decide_eq_false hi;have e1 : decide ((i : Int) < (xs.length : Int)) = false:=decide_eq_false (by omega);rw [al_end hi] at ST;clear hi HI;go_wp2
    first|go_end0|(refine bodyPost_ret (results_none rfl _ _ _) rfl ?_)
    exact ⟨rfl,ST.out,HF.out⟩
theorem NT.all {n : Nat} {xs : List bn} {p : Nat} {w0 w : World} {F r : List Int} {A : Option Addr} {c : Nat} (hk : ∀ y ∈ xs,wR n y) (h : St false p w0 F (NJ (kZ n) xs ++ r) w) (hC : Kd.C k25 w0 A xs.length xs) : Calls Tryz.prog 56 #[.pointer (some ⟨p,0,none⟩),.slice A xs.length c] w (nY false p w0 F r (.tuple #[]) w):=by
 have HK:=ah.mk hk;have HC:=ah.mk hC;unfold NJ at h;simp only [List.append_assoc] at h;have E:=SE.start h;clear hk h hC;go_enter Tryz.func56,Tryz.ntmps56
 go_wp2_with (first
  | (go_at_call 54;(first|(with_reducible refine SE.jI E (fun w1 E => ?_))|(with_reducible refine SE.jS E (fun w1 E => ?_))))
  | (go_at_call 26;(with_reducible refine SE.call E E.out (fun st => allP.all HK.out st HC.out) (fun w1 E => ?_)))
  | fail)
 first|go_end0|(refine bodyPost_ret (results_none rfl _ _ _) rfl ?_)
 exact ⟨rfl,E.out.st,E.out.fr⟩
theorem Qx.all {n : Nat} {a b : ByteArray} {p : Nat} {w0 w : World} {F r : List Int} {x : bn} {A : Option Addr} {c : Nat} (hk : lX n x) (hx : jh x = true) (h : St false p w0 F (RD (iy n) a x b ++ r) w) (hn : ND w0 x A c) : Calls Tryz.prog 53 #[.pointer (some ⟨p,0,none⟩),.string a,val x A c,.string b] w (nY false p w0 F r (.tuple #[]) w):=by
 have HK:=ah.mk hk;have HX:=ah.mk hx;unfold RD at h;simp only [List.append_assoc] at h;have E:=PE.start h hn;clear hk hx h hn;go_enter Tryz.func53,Tryz.ntmps53
 go_wp2_with (first
  | (go_at_call 54;(try clear c0 c1 c2 c3 c4 c5);(with_reducible first|refine PE.jI E ?_|refine PE.jS E ?_|refine PE.jW E ?_|refine PE.jE E ?_);intro w1 E c0 c1 c2 c3 c4 c5)
  | (go_at_call 85;(try clear c0 c1 c2 c3 c4 c5);(with_reducible refine PE.call E E.out (fun st => yA.all HK.out HX.out st E.out.k) (fun w1 E c0 c1 c2 c3 c4 c5 => ?_)))
  | fail)
 first|go_end0|(refine bodyPost_ret (results_none rfl _ _ _) rfl ?_)
 exact ⟨rfl,E.out.st,E.out.fr⟩
theorem wG.F0 {p : Nat} {w0 w : World} {F r : List Int} {f0 : Int} {f1 : ByteArray} {f2 : Int} {l : List bn} {q : Int} {A : Option Addr} {c : Nat} {n : Nat} (hl : l.length = 0) (h : St false p w0 F (oM (iy n) ⟨f0,f1,f2,false,l,q⟩ ++ r) w) (hn : ND w0 ⟨f0,f1,f2,false,l,q⟩ A c) : Calls Tryz.prog 57 #[.pointer (some ⟨p,0,none⟩),val ⟨f0,f1,f2,false,l,q⟩ A c] w (nY false p w0 F r (.tuple #[]) w):=by
 simp only [oM,wF,yu,Bool.false_eq_true,if_false,if_true,List.length_drop,qC,Nat.zero_add,List.append_assoc,List.nil_append,List.append_nil,hl] at h;have e0 : ((l.length : Int) == 0) = true:=by rw [hl];rfl
 have vC:=ah.mk hl;clear hl;have E:=PE.start h hn;clear h hn;go_enter Tryz.func57,Tryz.ntmps57
 go_wp2_with (first
  | (go_at_call 54;(try clear c0 c1 c2 c3 c4 c5);(with_reducible first|refine PE.jI E ?_|refine PE.jS E ?_|refine PE.jW E ?_|refine PE.jE E ?_);intro w1 E c0 c1 c2 c3 c4 c5)
  | fail)
 all_goals
  first|go_end0|go_ret|(refine bodyPost_ret (results_none rfl _ _ _) rfl ?_)
  exact ⟨rfl,E.out.st,E.out.fr⟩
theorem wG.F1 {p : Nat} {w0 w : World} {F r : List Int} {f0 : Int} {f1 : ByteArray} {f2 : Int} {l : List bn} {q : Int} {A : Option Addr} {c : Nat} {n : Nat} (hl : l.length = 1) (he : ∀ y ∈ l,jh y = true → lX n y) (hx0 : jh (nd l 0) = true) (h : St false p w0 F (oM (iy n) ⟨f0,f1,f2,false,l,q⟩ ++ r) w) (hn : ND w0 ⟨f0,f1,f2,false,l,q⟩ A c) : Calls Tryz.prog 57 #[.pointer (some ⟨p,0,none⟩),val ⟨f0,f1,f2,false,l,q⟩ A c] w (nY false p w0 F r (.tuple #[]) w):=by
 simp only [oM,wF,yu,Bool.false_eq_true,if_false,if_true,List.length_drop,qC,Nat.zero_add,List.append_assoc,List.nil_append,List.append_nil,eq_false (show ¬ l.length = 0 by omega),eq_false (show ¬ (nd l 0).f0 = 44 by have:=iq hx0;omega)] at h;obtain ⟨ad,rfl⟩:=gY hn.C (show 0 < l.length by omega);obtain ⟨A0,d0,hn0,hk0⟩:=zZ hn.C (show 0 < l.length by omega);have qK:=ah.mk hn0;have jq:=ah.mk hk0;have e0 : ((l.length : Int) == 0) = false:=by rw [hl];rfl
 have b44 : ((nd l 0).f0 == 44) = false:=beq_eq_false_iff_ne.2 (by have:=iq hx0;omega);have CJ : (0 : Int) < (l.length : Int):=by omega
 have CO : 0 < l.length:=by omega
 have vN:=ah.mk (he _ (fH (show 0 < l.length by omega)) hx0);have HX0:=ah.mk hx0;have vC:=ah.mk hl;clear hl he hx0;have E:=PE.start h hn;clear h hn;obtain ⟨iC,iD,iE,iF,iG,iH⟩:=jq.out.at E.out.st.b;clear hn0 hk0;go_enter Tryz.func57,Tryz.ntmps57
 go_wp2_with (first
  | (go_at_call 54;(try clear c0 c1 c2 c3 c4 c5);(with_reducible first|refine PE.jI E ?_|refine PE.jS E ?_|refine PE.jW E ?_|refine PE.jE E ?_);intro w1 E c0 c1 c2 c3 c4 c5;(try ((try clear iC iD iE iF iG iH);obtain ⟨iC,iD,iE,iF,iG,iH⟩:=jq.out.at E.out.st.b)))
  | (go_at_call 85;(try clear c0 c1 c2 c3 c4 c5);(with_reducible refine PE.call E E.out (fun st => yA.all vN.out HX0.out st qK.out) (fun w1 E c0 c1 c2 c3 c4 c5 => ?_));(try ((try clear iC iD iE iF iG iH);obtain ⟨iC,iD,iE,iF,iG,iH⟩:=jq.out.at E.out.st.b)))
  | fail)
 all_goals
  first|go_end0|go_ret|(refine bodyPost_ret (results_none rfl _ _ _) rfl ?_)
  exact ⟨rfl,E.out.st,E.out.fr⟩
theorem wG.TN0 {p : Nat} {w0 w : World} {F r : List Int} {f0 : Int} {f1 : ByteArray} {f2 : Int} {l : List bn} {q : Int} {A : Option Addr} {c : Nat} {n : Nat} (hl : l.length = 1) (he : ∀ y ∈ l,jh y = true → lX n y) (hx0 : (nd l 0).f0 = 56) (h : St false p w0 F (oM (iy n) ⟨f0,f1,f2,true,l,q⟩ ++ r) w) (hn : ND w0 ⟨f0,f1,f2,true,l,q⟩ A c) : Calls Tryz.prog 57 #[.pointer (some ⟨p,0,none⟩),val ⟨f0,f1,f2,true,l,q⟩ A c] w (nY false p w0 F r (.tuple #[]) w):=by
 simp only [oM,wF,yu,Bool.false_eq_true,if_false,if_true,List.length_drop,qC,Nat.zero_add,List.append_assoc,List.nil_append,List.append_nil,eq_true (show l.length - 1 = 0 by omega),eq_true hx0] at h;obtain ⟨ad,rfl⟩:=gY hn.C (show 0 < l.length by omega);obtain ⟨A0,d0,hn0,hk0⟩:=zZ hn.C (show 0 < l.length by omega);have qK:=ah.mk hn0;have jq:=ah.mk hk0;have e1 : (((l.length - 1 : Nat) : Int) == 0) = true:=by rw [hl];rfl
 have CJ : (0 : Int) < (l.length : Int):=by omega
 have CO : 0 < l.length:=by omega
 have b56 : ((nd l 0).f0 != 56) = false:=by rw [bne,hx0];rfl
 have vC:=ah.mk hl;clear hl he hx0;have E:=PE.start h hn;clear h hn;obtain ⟨iC,iD,iE,iF,iG,iH⟩:=jq.out.at E.out.st.b;clear hn0 hk0;go_enter Tryz.func57,Tryz.ntmps57
 go_wp2_with (first
  | (go_at_call 54;(try clear c0 c1 c2 c3 c4 c5);(with_reducible first|refine PE.jI E ?_|refine PE.jS E ?_|refine PE.jW E ?_|refine PE.jE E ?_);intro w1 E c0 c1 c2 c3 c4 c5;(try ((try clear iC iD iE iF iG iH);obtain ⟨iC,iD,iE,iF,iG,iH⟩:=jq.out.at E.out.st.b)))
  | fail)
 all_goals
  first|go_end0|go_ret|(refine bodyPost_ret (results_none rfl _ _ _) rfl ?_)
  exact ⟨rfl,E.out.st,E.out.fr⟩
theorem wG.TNL {p : Nat} {w0 w : World} {F r : List Int} {f0 : Int} {f1 : ByteArray} {f2 : Int} {l : List bn} {q : Int} {A : Option Addr} {c : Nat} {n : Nat} (hl : l.length = 2) (he : ∀ y ∈ l,jh y = true → lX n y) (hx0 : (nd l 0).f0 = 56) (EY : (nd l 1).f0 = 44) (hx1 : ∀ y ∈ (nd l 1).f4,jh y = true) (he1 : ∀ y ∈ (nd l 1).f4,lX n y) (h : St false p w0 F (oM (iy n) ⟨f0,f1,f2,true,l,q⟩ ++ r) w) (hn : ND w0 ⟨f0,f1,f2,true,l,q⟩ A c) : Calls Tryz.prog 57 #[.pointer (some ⟨p,0,none⟩),val ⟨f0,f1,f2,true,l,q⟩ A c] w (nY false p w0 F r (.tuple #[]) w):=by
 simp only [oM,wF,yu,Bool.false_eq_true,if_false,if_true,List.length_drop,qC,Nat.zero_add,List.append_assoc,List.nil_append,List.append_nil,eq_false (show ¬ l.length - 1 = 0 by omega),eq_true hx0,eq_true EY] at h;obtain ⟨ad,rfl⟩:=gY hn.C (show 0 < l.length by omega);obtain ⟨A0,d0,hn0,hk0⟩:=zZ hn.C (show 0 < l.length by omega);have qK:=ah.mk hn0;have jq:=ah.mk hk0;obtain ⟨A1,d1,hn1,hk1⟩:=Qu hn.C (show 1 < l.length by omega);have pW:=ah.mk hn1;have jm:=ah.mk hk1;obtain ⟨c2,rfl⟩ : ∃ k,c = k + 2:=⟨c - 2,by have:=hn.le;dsimp only at this;omega⟩
 have e1 : (((l.length - 1 : Nat) : Int) == 0) = false:=by rw [hl];rfl
 have CJ : (0 : Int) < (l.length : Int):=by omega
 have CO : 0 < l.length:=by omega
 have Ry : (1 : Int) < (l.length : Int):=by omega
 have Rz : 1 < l.length:=by omega
 have b56 : ((nd l 0).f0 != 56) = false:=by rw [bne,hx0];rfl
 have b44 : ((nd l 1).f0 == 44) = true:=by rw [EY];rfl
 have Fa:=ah.mk hx1;have E8:=ah.mk he1;clear EY hx1 he1;have vC:=ah.mk hl;clear hl he hx0;have E:=PE.start h hn;clear h hn;obtain ⟨iC,iD,iE,iF,iG,iH⟩:=jq.out.at E.out.st.b;clear hn0 hk0;obtain ⟨k10,k11,k12,k13,k14,k15⟩:=jm.out.at E.out.st.b;clear hn1 hk1;go_enter Tryz.func57,Tryz.ntmps57
 go_wp2_with (first
  | (go_at_call 54;(try clear c0 c1 c2 c3 c4 c5);(with_reducible first|refine PE.jI E ?_|refine PE.jS E ?_|refine PE.jW E ?_|refine PE.jE E ?_);intro w1 E c0 c1 c2 c3 c4 c5;(try ((try clear iC iD iE iF iG iH);obtain ⟨iC,iD,iE,iF,iG,iH⟩:=jq.out.at E.out.st.b));(try ((try clear k10 k11 k12 k13 k14 k15);obtain ⟨k10,k11,k12,k13,k14,k15⟩:=jm.out.at E.out.st.b)))
  | (go_at_call 86;(try clear c0 c1 c2 c3 c4 c5);(with_reducible refine PE.call E E.out (fun st => listP.all E8.out Fa.out st pW.out.C) (fun w1 E c0 c1 c2 c3 c4 c5 => ?_));(try ((try clear iC iD iE iF iG iH);obtain ⟨iC,iD,iE,iF,iG,iH⟩:=jq.out.at E.out.st.b));(try ((try clear k10 k11 k12 k13 k14 k15);obtain ⟨k10,k11,k12,k13,k14,k15⟩:=jm.out.at E.out.st.b)))
  | fail)
 all_goals
  first|go_end0|go_ret|(refine bodyPost_ret (results_none rfl _ _ _) rfl ?_)
  exact ⟨rfl,E.out.st,E.out.fr⟩
theorem wG.TNE {p : Nat} {w0 w : World} {F r : List Int} {f0 : Int} {f1 : ByteArray} {f2 : Int} {l : List bn} {q : Int} {A : Option Addr} {c : Nat} {n : Nat} (hl : l.length = 2) (he : ∀ y ∈ l,jh y = true → lX n y) (hx0 : (nd l 0).f0 = 56) (hx1 : jh (nd l 1) = true) (h : St false p w0 F (oM (iy n) ⟨f0,f1,f2,true,l,q⟩ ++ r) w) (hn : ND w0 ⟨f0,f1,f2,true,l,q⟩ A c) : Calls Tryz.prog 57 #[.pointer (some ⟨p,0,none⟩),val ⟨f0,f1,f2,true,l,q⟩ A c] w (nY false p w0 F r (.tuple #[]) w):=by
 simp only [oM,wF,yu,Bool.false_eq_true,if_false,if_true,List.length_drop,qC,Nat.zero_add,List.append_assoc,List.nil_append,List.append_nil,eq_false (show ¬ l.length - 1 = 0 by omega),eq_true hx0,eq_false (show ¬ (nd l 1).f0 = 44 by have:=iq hx1;omega)] at h;obtain ⟨ad,rfl⟩:=gY hn.C (show 0 < l.length by omega);obtain ⟨A0,d0,hn0,hk0⟩:=zZ hn.C (show 0 < l.length by omega);have qK:=ah.mk hn0;have jq:=ah.mk hk0;obtain ⟨A1,d1,hn1,hk1⟩:=Qu hn.C (show 1 < l.length by omega);have pW:=ah.mk hn1;have jm:=ah.mk hk1;obtain ⟨c2,rfl⟩ : ∃ k,c = k + 2:=⟨c - 2,by have:=hn.le;dsimp only at this;omega⟩
 have e1 : (((l.length - 1 : Nat) : Int) == 0) = false:=by rw [hl];rfl
 have CJ : (0 : Int) < (l.length : Int):=by omega
 have CO : 0 < l.length:=by omega
 have Ry : (1 : Int) < (l.length : Int):=by omega
 have Rz : 1 < l.length:=by omega
 have b56 : ((nd l 0).f0 != 56) = false:=by rw [bne,hx0];rfl
 have b44 : ((nd l 1).f0 == 44) = false:=beq_eq_false_iff_ne.2 (by have:=iq hx1;omega);have E8:=ah.mk (he _ (fH (show 1 < l.length by omega)) hx1);have Fa:=ah.mk hx1;clear hx1;have vC:=ah.mk hl;clear hl he hx0;have E:=PE.start h hn;clear h hn;obtain ⟨iC,iD,iE,iF,iG,iH⟩:=jq.out.at E.out.st.b;clear hn0 hk0;obtain ⟨k10,k11,k12,k13,k14,k15⟩:=jm.out.at E.out.st.b;clear hn1 hk1;go_enter Tryz.func57,Tryz.ntmps57
 go_wp2_with (first
  | (go_at_call 54;(try clear c0 c1 c2 c3 c4 c5);(with_reducible first|refine PE.jI E ?_|refine PE.jS E ?_|refine PE.jW E ?_|refine PE.jE E ?_);intro w1 E c0 c1 c2 c3 c4 c5;(try ((try clear iC iD iE iF iG iH);obtain ⟨iC,iD,iE,iF,iG,iH⟩:=jq.out.at E.out.st.b));(try ((try clear k10 k11 k12 k13 k14 k15);obtain ⟨k10,k11,k12,k13,k14,k15⟩:=jm.out.at E.out.st.b)))
  | (go_at_call 85;(try clear c0 c1 c2 c3 c4 c5);(with_reducible refine PE.call E E.out (fun st => yA.all E8.out Fa.out st pW.out) (fun w1 E c0 c1 c2 c3 c4 c5 => ?_));(try ((try clear iC iD iE iF iG iH);obtain ⟨iC,iD,iE,iF,iG,iH⟩:=jq.out.at E.out.st.b));(try ((try clear k10 k11 k12 k13 k14 k15);obtain ⟨k10,k11,k12,k13,k14,k15⟩:=jm.out.at E.out.st.b)))
  | fail)
 all_goals
  first|go_end0|go_ret|(refine bodyPost_ret (results_none rfl _ _ _) rfl ?_)
  exact ⟨rfl,E.out.st,E.out.fr⟩
theorem wG.TE0 {p : Nat} {w0 w : World} {F r : List Int} {f0 : Int} {f1 : ByteArray} {f2 : Int} {l : List bn} {q : Int} {A : Option Addr} {c : Nat} {n : Nat} (hl : l.length = 1) (he : ∀ y ∈ l,jh y = true → lX n y) (hx0 : jh (nd l 0) = true) (h : St false p w0 F (oM (iy n) ⟨f0,f1,f2,true,l,q⟩ ++ r) w) (hn : ND w0 ⟨f0,f1,f2,true,l,q⟩ A c) : Calls Tryz.prog 57 #[.pointer (some ⟨p,0,none⟩),val ⟨f0,f1,f2,true,l,q⟩ A c] w (nY false p w0 F r (.tuple #[]) w):=by
 simp only [oM,wF,yu,Bool.false_eq_true,if_false,if_true,List.length_drop,qC,Nat.zero_add,List.append_assoc,List.nil_append,List.append_nil,eq_true (show l.length - 1 = 0 by omega),eq_false (show ¬ (nd l 0).f0 = 56 by have:=iq hx0;omega)] at h;obtain ⟨ad,rfl⟩:=gY hn.C (show 0 < l.length by omega);obtain ⟨A0,d0,hn0,hk0⟩:=zZ hn.C (show 0 < l.length by omega);have qK:=ah.mk hn0;have jq:=ah.mk hk0;have e1 : (((l.length - 1 : Nat) : Int) == 0) = true:=by rw [hl];rfl
 have CJ : (0 : Int) < (l.length : Int):=by omega
 have CO : 0 < l.length:=by omega
 have b56 : ((nd l 0).f0 != 56) = true:=bne_iff_ne.2 (by have:=iq hx0;omega);have vN:=ah.mk (he _ (fH (show 0 < l.length by omega)) hx0);have HX0:=ah.mk hx0;have vC:=ah.mk hl;clear hl he hx0;have E:=PE.start h hn;clear h hn;obtain ⟨iC,iD,iE,iF,iG,iH⟩:=jq.out.at E.out.st.b;clear hn0 hk0;go_enter Tryz.func57,Tryz.ntmps57
 go_wp2_with (first
  | (go_at_call 54;(try clear c0 c1 c2 c3 c4 c5);(with_reducible first|refine PE.jI E ?_|refine PE.jS E ?_|refine PE.jW E ?_|refine PE.jE E ?_);intro w1 E c0 c1 c2 c3 c4 c5;(try ((try clear iC iD iE iF iG iH);obtain ⟨iC,iD,iE,iF,iG,iH⟩:=jq.out.at E.out.st.b)))
  | (go_at_call 85;(try clear c0 c1 c2 c3 c4 c5);(with_reducible refine PE.call E E.out (fun st => yA.all vN.out HX0.out st qK.out) (fun w1 E c0 c1 c2 c3 c4 c5 => ?_));(try ((try clear iC iD iE iF iG iH);obtain ⟨iC,iD,iE,iF,iG,iH⟩:=jq.out.at E.out.st.b)))
  | fail)
 all_goals
  first|go_end0|go_ret|(refine bodyPost_ret (results_none rfl _ _ _) rfl ?_)
  exact ⟨rfl,E.out.st,E.out.fr⟩
theorem wG.TEL {p : Nat} {w0 w : World} {F r : List Int} {f0 : Int} {f1 : ByteArray} {f2 : Int} {l : List bn} {q : Int} {A : Option Addr} {c : Nat} {n : Nat} (hl : l.length = 2) (he : ∀ y ∈ l,jh y = true → lX n y) (hx0 : jh (nd l 0) = true) (EY : (nd l 1).f0 = 44) (hx1 : ∀ y ∈ (nd l 1).f4,jh y = true) (he1 : ∀ y ∈ (nd l 1).f4,lX n y) (h : St false p w0 F (oM (iy n) ⟨f0,f1,f2,true,l,q⟩ ++ r) w) (hn : ND w0 ⟨f0,f1,f2,true,l,q⟩ A c) : Calls Tryz.prog 57 #[.pointer (some ⟨p,0,none⟩),val ⟨f0,f1,f2,true,l,q⟩ A c] w (nY false p w0 F r (.tuple #[]) w):=by
 simp only [oM,wF,yu,Bool.false_eq_true,if_false,if_true,List.length_drop,qC,Nat.zero_add,List.append_assoc,List.nil_append,List.append_nil,eq_false (show ¬ l.length - 1 = 0 by omega),eq_false (show ¬ (nd l 0).f0 = 56 by have:=iq hx0;omega),eq_true EY] at h;obtain ⟨ad,rfl⟩:=gY hn.C (show 0 < l.length by omega);obtain ⟨A0,d0,hn0,hk0⟩:=zZ hn.C (show 0 < l.length by omega);have qK:=ah.mk hn0;have jq:=ah.mk hk0;obtain ⟨A1,d1,hn1,hk1⟩:=Qu hn.C (show 1 < l.length by omega);have pW:=ah.mk hn1;have jm:=ah.mk hk1;obtain ⟨c2,rfl⟩ : ∃ k,c = k + 2:=⟨c - 2,by have:=hn.le;dsimp only at this;omega⟩
 have e1 : (((l.length - 1 : Nat) : Int) == 0) = false:=by rw [hl];rfl
 have CJ : (0 : Int) < (l.length : Int):=by omega
 have CO : 0 < l.length:=by omega
 have Ry : (1 : Int) < (l.length : Int):=by omega
 have Rz : 1 < l.length:=by omega
 have b56 : ((nd l 0).f0 != 56) = true:=bne_iff_ne.2 (by have:=iq hx0;omega);have vN:=ah.mk (he _ (fH (show 0 < l.length by omega)) hx0);have HX0:=ah.mk hx0;have b44 : ((nd l 1).f0 == 44) = true:=by rw [EY];rfl
 have Fa:=ah.mk hx1;have E8:=ah.mk he1;clear EY hx1 he1;have vC:=ah.mk hl;clear hl he hx0;have E:=PE.start h hn;clear h hn;obtain ⟨iC,iD,iE,iF,iG,iH⟩:=jq.out.at E.out.st.b;clear hn0 hk0;obtain ⟨k10,k11,k12,k13,k14,k15⟩:=jm.out.at E.out.st.b;clear hn1 hk1;go_enter Tryz.func57,Tryz.ntmps57
 go_wp2_with (first
  | (go_at_call 54;(try clear c0 c1 c2 c3 c4 c5);(with_reducible first|refine PE.jI E ?_|refine PE.jS E ?_|refine PE.jW E ?_|refine PE.jE E ?_);intro w1 E c0 c1 c2 c3 c4 c5;(try ((try clear iC iD iE iF iG iH);obtain ⟨iC,iD,iE,iF,iG,iH⟩:=jq.out.at E.out.st.b));(try ((try clear k10 k11 k12 k13 k14 k15);obtain ⟨k10,k11,k12,k13,k14,k15⟩:=jm.out.at E.out.st.b)))
  | (go_at_call 85;(try clear c0 c1 c2 c3 c4 c5);(with_reducible refine PE.call E E.out (fun st => yA.all vN.out HX0.out st qK.out) (fun w1 E c0 c1 c2 c3 c4 c5 => ?_));(try ((try clear iC iD iE iF iG iH);obtain ⟨iC,iD,iE,iF,iG,iH⟩:=jq.out.at E.out.st.b));(try ((try clear k10 k11 k12 k13 k14 k15);obtain ⟨k10,k11,k12,k13,k14,k15⟩:=jm.out.at E.out.st.b)))
  | (go_at_call 86;(try clear c0 c1 c2 c3 c4 c5);(with_reducible refine PE.call E E.out (fun st => listP.all E8.out Fa.out st pW.out.C) (fun w1 E c0 c1 c2 c3 c4 c5 => ?_));(try ((try clear iC iD iE iF iG iH);obtain ⟨iC,iD,iE,iF,iG,iH⟩:=jq.out.at E.out.st.b));(try ((try clear k10 k11 k12 k13 k14 k15);obtain ⟨k10,k11,k12,k13,k14,k15⟩:=jm.out.at E.out.st.b)))
  | fail)
 all_goals
  first|go_end0|go_ret|(refine bodyPost_ret (results_none rfl _ _ _) rfl ?_)
  exact ⟨rfl,E.out.st,E.out.fr⟩
theorem wG.TEE {p : Nat} {w0 w : World} {F r : List Int} {f0 : Int} {f1 : ByteArray} {f2 : Int} {l : List bn} {q : Int} {A : Option Addr} {c : Nat} {n : Nat} (hl : l.length = 2) (he : ∀ y ∈ l,jh y = true → lX n y) (hx0 : jh (nd l 0) = true) (hx1 : jh (nd l 1) = true) (h : St false p w0 F (oM (iy n) ⟨f0,f1,f2,true,l,q⟩ ++ r) w) (hn : ND w0 ⟨f0,f1,f2,true,l,q⟩ A c) : Calls Tryz.prog 57 #[.pointer (some ⟨p,0,none⟩),val ⟨f0,f1,f2,true,l,q⟩ A c] w (nY false p w0 F r (.tuple #[]) w):=by
 simp only [oM,wF,yu,Bool.false_eq_true,if_false,if_true,List.length_drop,qC,Nat.zero_add,List.append_assoc,List.nil_append,List.append_nil,eq_false (show ¬ l.length - 1 = 0 by omega),eq_false (show ¬ (nd l 0).f0 = 56 by have:=iq hx0;omega),eq_false (show ¬ (nd l 1).f0 = 44 by have:=iq hx1;omega)] at h;obtain ⟨ad,rfl⟩:=gY hn.C (show 0 < l.length by omega);obtain ⟨A0,d0,hn0,hk0⟩:=zZ hn.C (show 0 < l.length by omega);have qK:=ah.mk hn0;have jq:=ah.mk hk0;obtain ⟨A1,d1,hn1,hk1⟩:=Qu hn.C (show 1 < l.length by omega);have pW:=ah.mk hn1;have jm:=ah.mk hk1;obtain ⟨c2,rfl⟩ : ∃ k,c = k + 2:=⟨c - 2,by have:=hn.le;dsimp only at this;omega⟩
 have e1 : (((l.length - 1 : Nat) : Int) == 0) = false:=by rw [hl];rfl
 have CJ : (0 : Int) < (l.length : Int):=by omega
 have CO : 0 < l.length:=by omega
 have Ry : (1 : Int) < (l.length : Int):=by omega
 have Rz : 1 < l.length:=by omega
 have b56 : ((nd l 0).f0 != 56) = true:=bne_iff_ne.2 (by have:=iq hx0;omega);have vN:=ah.mk (he _ (fH (show 0 < l.length by omega)) hx0);have HX0:=ah.mk hx0;have b44 : ((nd l 1).f0 == 44) = false:=beq_eq_false_iff_ne.2 (by have:=iq hx1;omega);have E8:=ah.mk (he _ (fH (show 1 < l.length by omega)) hx1);have Fa:=ah.mk hx1;clear hx1;have tk0 : True:=trivial;have vC:=ah.mk hl;clear hl he hx0;have E:=PE.start h hn;clear h hn;obtain ⟨iC,iD,iE,iF,iG,iH⟩:=jq.out.at E.out.st.b;clear hn0 hk0;obtain ⟨k10,k11,k12,k13,k14,k15⟩:=jm.out.at E.out.st.b;clear hn1 hk1;go_enter Tryz.func57,Tryz.ntmps57
 go_wp2_with (first
  | (go_at_call 54;(try clear c0 c1 c2 c3 c4 c5);(with_reducible first|refine PE.jI E ?_|refine PE.jS E ?_|refine PE.jW E ?_|refine PE.jE E ?_);intro w1 E c0 c1 c2 c3 c4 c5;(try ((try clear iC iD iE iF iG iH);obtain ⟨iC,iD,iE,iF,iG,iH⟩:=jq.out.at E.out.st.b));(try ((try clear k10 k11 k12 k13 k14 k15);obtain ⟨k10,k11,k12,k13,k14,k15⟩:=jm.out.at E.out.st.b)))
  | (go_at_call 85;have t_:=tk0;clear t_ tk0;(try clear c0 c1 c2 c3 c4 c5);(refine PE.call E E.out (fun st => yA.all vN.out HX0.out st qK.out) (fun w1 E c0 c1 c2 c3 c4 c5 => ?_));(try ((try clear iC iD iE iF iG iH);obtain ⟨iC,iD,iE,iF,iG,iH⟩:=jq.out.at E.out.st.b));(try ((try clear k10 k11 k12 k13 k14 k15);obtain ⟨k10,k11,k12,k13,k14,k15⟩:=jm.out.at E.out.st.b)))
  | (go_at_call 85;(try clear c0 c1 c2 c3 c4 c5);(with_reducible refine PE.call E E.out (fun st => yA.all E8.out Fa.out st pW.out) (fun w1 E c0 c1 c2 c3 c4 c5 => ?_));(try ((try clear iC iD iE iF iG iH);obtain ⟨iC,iD,iE,iF,iG,iH⟩:=jq.out.at E.out.st.b));(try ((try clear k10 k11 k12 k13 k14 k15);obtain ⟨k10,k11,k12,k13,k14,k15⟩:=jm.out.at E.out.st.b)))
  | fail)
 all_goals
  first|go_end0|go_ret|(refine bodyPost_ret (results_none rfl _ _ _) rfl ?_)
  exact ⟨rfl,E.out.st,E.out.fr⟩
structure KnP (n : Nat) : Prop where
 e : ∀ y : bn,SizeOf.sizeOf y < n → jh y = true → Tm y → lX n y
 l : ∀ y : bn,SizeOf.sizeOf y < n → Aa y = true → Tm y → wR n y
theorem wG.all {n : Nat} {p : Nat} {w0 w : World} {F r : List Int} {x : bn} {A : Option Addr} {c : Nat} (K : KnP n) (hz : SizeOf.sizeOf x ≤ n) (hv : vaB x = true) (hm : Tm x) (h : St false p w0 F (oM (iy n) x ++ r) w) (hn : ND w0 x A c) : Calls Tryz.prog 57 #[.pointer (some ⟨p,0,none⟩),val x A c] w (nY false p w0 F r (.tuple #[]) w):=by
 obtain ⟨hk,h3⟩:=va_43 hv;have hb : ∀ y ∈ x.f4,ji y = true:=(wQ (by unfold vaB at hv;rw [Bool.and_eq_true] at hv;exact hv.2) (by omega)).2;have he0 : ∀ y ∈ x.f4,jh y = true → lX n y:=fun y hy hx => K.e y (Nat.lt_of_lt_of_le (gu hy) hz) hx (hm.kid hy)
 have hd : ∀ y ∈ x.f4,(∀ z ∈ y.f4,jh z = true) → ∀ z ∈ y.f4,lX n z:=fun y hy hx z hz' => K.e z (by have:=gu hy;have:=gu hz';omega) (hx z hz') ((hm.kid hy).kid hz')
 clear hb hm K;obtain ⟨f0,f1,f2,f3,l,q⟩:=x;dsimp only at hk h3 he0 hd;cases f3 with
 | true =>
  rw [if_pos rfl] at h3;obtain ⟨h0,h1,h2⟩:=h3;by_cases F7 : (nd l 0).f0 = 56
  · rcases h2 with h2 | ⟨h2,⟨EY,hl⟩|h4⟩
    · exact wG.TN0 h2 he0 F7 h hn
    · exact wG.TNL h2 he0 F7 EY hl (hd _ (fH (by omega)) hl) h hn
    · exact wG.TNE h2 he0 F7 h4 h hn
  · have h1:=h1.resolve_left F7;rcases h2 with h2 | ⟨h2,⟨EY,hl⟩|h4⟩
    · exact wG.TE0 h2 he0 h1 h hn
    · exact wG.TEL h2 he0 h1 EY hl (hd _ (fH (by omega)) hl) h hn
    · exact wG.TEE h2 he0 h1 h4 h hn
 | false =>
  rw [if_neg (by decide)] at h3;rcases h3 with h3 | ⟨h3,h4⟩
  · exact wG.F0 h3 h hn
  · exact wG.F1 h3 he0 h4 h hn
theorem PE.back {s : Bool} {p g g2 : Nat} {w0 : World} {x y : bn} {A A' : Option Addr} {c c' : Nat} {F r r0 : List Int} {ws W W1 : World} (E : PE s p g w0 x A c F r0 ws W) (E2 : PE s p g2 w0 y A' c' F r W W1) : PE s p g w0 x A c F r ws W1:=⟨E2.st,E2.fr.keep _ 25 _ E.n E.ne (by decide),E.ne,E.k,E.fr.trans E2.fr⟩
theorem PE.of {s : Bool} {p g : Nat} {w0 : World} {x : bn} {A : Option Addr} {c : Nat} {F r r0 : List Int} {ws W W1 : World} (E : PE s p g w0 x A c F r0 ws W) (h : St s p w0 F r W1) (hf : Fr p W W1) : PE s p g w0 x A c F r ws W1:=⟨h,hf.keep _ 25 _ E.n E.ne (by decide),E.ne,E.k,E.fr.trans hf⟩
def foG (e : bn → List Int) (l : List bn) (t : List Int) : Nat → List Int
 | 0 => yu e (nd l 0) ++ (bytesOf ⟨#[59,32]⟩ ++ (yu e (nd l 1) ++ (bytesOf ⟨#[59,32]⟩ ++ (yu e (nd l 2) ++ t))))
 | 1 => bytesOf ⟨#[59,32]⟩ ++ (yu e (nd l 1) ++ (bytesOf ⟨#[59,32]⟩ ++ (yu e (nd l 2) ++ t)))
 | 2 => bytesOf ⟨#[59,32]⟩ ++ (yu e (nd l 2) ++ t)
 | _ => t
theorem fo_at {e : bn → List Int} {l : List bn} {t : List Int} {i : Nat} (h : i < 3) : foG e l t i = (if i = 0 then [] else bytesOf ⟨#[59,32]⟩) ++ (yu e (nd l i) ++ foG e l t (i + 1)):=by
 match i,h with
 | 0,_ => rfl
 | 1,_ => rfl
 | 2,_ => rfl
theorem fo_end {e : bn → List Int} {l : List bn} {t : List Int} {i : Nat} (h : ¬ i < 3) : foG e l t i = t:=by
 match i,h with
 | n + 3,_ => rfl
theorem PE.frr {s : Bool} {p g : Nat} {w0 : World} {x : bn} {A : Option Addr} {c : Nat} {F r : List Int} {ws W : World} (_ : PE s p g w0 x A c F r ws W) : Fr p W W:=Fr.refl _ _
theorem forP.all {n : Nat} {p : Nat} {w0 w : World} {F r : List Int} {x : bn} {A : Option Addr} {c : Nat} (K : KnP n) (hz : SizeOf.sizeOf x ≤ n) (hk : x.f0 = 52) (hy : ji x = true) (hm : Tm x) (h : St false p w0 F (NM (iy n) (kZ n) x ++ r) w) (hn : ND w0 x A c) : Calls Tryz.prog 55 #[.pointer (some ⟨p,0,none⟩),val x A c] w (nY false p w0 F r (.tuple #[]) w):=by
 obtain ⟨hl,hi3,hx3⟩:=st_52 hy hk;have HE:=ah.mk (show ∀ i,i < 3 → (nd x.f4 i).f0 ≠ 56 → jh (nd x.f4 i) = true ∧ lX n (nd x.f4 i) from fun i hi h2 => by
  have hx:=(hi3 i hi).resolve_left h2;have hme:=fH (xs:=x.f4) (i:=i) (by omega);exact ⟨hx,K.e _ (Nat.lt_of_lt_of_le (gu hme) hz) hx (hm.kid hme)⟩)
 have HL3:=ah.mk (K.l (nd x.f4 3) (Nat.lt_of_lt_of_le (gu (fH (by omega))) hz) hx3 (hm.kid (fH (by omega))));have h:=(show St false p w0 F (bytesOf ⟨#[102,111,114,32,40]⟩ ++ foG (iy n) x.f4 (bytesOf ⟨#[41,10]⟩ ++ (kZ n (nd x.f4 3) ++ r)) 0) w from by unfold NM at h;simp only [List.append_assoc] at h;exact h)
 obtain ⟨ad,rfl⟩:=gY hn.C (show 0 < x.f4.length by omega);obtain ⟨A3,d3,hn3,hk3⟩:=kd3 hn.C (show 3 < x.f4.length by omega);have HN3:=ah.mk hn3;have F8:=ah.mk hk3;obtain ⟨cq,rfl⟩ : ∃ k,c = k + 4:=⟨c - 4,by have:=hn.le;omega⟩
 have q3a : (3 : Int) < (x.f4.length : Int):=by omega
 have q3b : 3 < x.f4.length:=by omega
 have q3c : 3 ≤ x.f4.length:=by omega
 have vC:=ah.mk hl;have E:=PE.start h hn;clear h hn hn3 hk3 hl hk hy hm K hz hi3 hx3;go_enter Tryz.func55,Tryz.ntmps55
 go_wp2_with (first
  | (go_at_call 54;(try clear c0 c1 c2 c3 c4 c5);(with_reducible first|refine PE.jI E ?_|refine PE.jS E ?_|refine PE.jW E ?_|refine PE.jE E ?_);intro w1 E c0 c1 c2 c3 c4 c5)
  | fail)
 try clear c0 c1 c2 c3 c4 c5
 go_loopg [13] 3 (fun kq v w' => ∃ i : Nat,v = .int .i64 i ∧ ah (i + kq = 3) ∧ ah (PE false p w.heap.size w0 x (some ad) (cq + 4) F (foG (iy n) x.f4 (bytesOf ⟨#[41,10]⟩ ++ (kZ n (nd x.f4 3) ++ r)) i) w w'))
 case atStart => exact ⟨0,rfl,⟨by omega⟩,E⟩
 case round =>
  obtain ⟨i,rfl,HI,EN⟩:=hrel;by_cases hi : i < 3
  · have qg:=ah.mk hi;have EP : decide (i < 3) = true:=decide_eq_true hi;have e1 : decide ((i : Int) < (3 : Int)) = true:=decide_eq_true (by omega);have p1 : (0 : Int) ≤ (i : Int):=by omega
    have q1 : (i : Int) < (3 : Int):=by omega
    have w3 : wrap64 ((i : Int) + 1) = (i : Int) + 1:=by unfold wrap64;omega
    have w4 : IntKind.i64.wrap ((i : Int) + 1) = (i : Int) + 1:=(bW _).trans w3;obtain ⟨ad1,A',c',he,hn,hkn⟩:=Qs EN.out.k.C i (by have:=vC.out;omega);obtain rfl:=Option.some.inj he;have HN:=ah.mk hn;have Je:=ah.mk hkn;obtain ⟨k0,k1,k2,k3,k4,k5⟩:=Je.out.at EN.out.st.b;have ST:=ah.mk EN.out.st;have HF:=ah.mk EN.out.frr;rw [fo_at hi] at ST;(try simp only [List.append_assoc] at ST);clear hn hkn he;by_cases h0 : i = 0
    · have g1 : decide ((0 : Int) < (i : Int)) = false:=decide_eq_false (by omega);have g2 : decide (0 < i) = false:=decide_eq_false (by omega);rw [if_pos h0,List.nil_append] at ST;have H0:=ah.mk h0;clear h0;by_cases F7 : (nd x.f4 i).f0 = 56
      · have b56 : ((nd x.f4 i).f0 != 56) = false:=by rw [bne,F7];rfl
        unfold yu at ST;rw [if_pos F7,List.nil_append] at ST;clear F7 hi;go_wp2_with (first
         | (with_reducible refine iK rfl rfl rfl ?_;rintro g wa hg hz hB;have uY:=ah.mk hB;have HZ:=ah.mk hz;have qR:=ah.mk hg;clear hg hz hB)
         | (refine iU rfl rfl rfl (x:=nd x.f4 i) (A:=A') (c:=c') rfl rfl HZ.out ?_;rintro wb hN hB;have E:=PE.box ST.out HF.out (uY.out.trans (hB.mono (Nat.le_of_eq qR.out.symm))) (Nat.le_of_eq qR.out.symm) hN HN.out;(try clear k0 k1 k2 k3 k4 k5);obtain ⟨c0,c1,c2,c3,c4,c5⟩:=E.out.cells;clear hN hB)
         | fail)
        go_roundg (3 - (i + 1))
        case measure => have:=HI.out;have:=qg.out;omega
        case rel => exact ⟨i + 1,by (try simp only [w4,w3]);rfl,⟨by have:=HI.out;have:=qg.out;omega⟩,⟨EN.out.back E.out⟩⟩
      · have b56 : ((nd x.f4 i).f0 != 56) = true:=bne_iff_ne.2 F7;unfold yu at ST;rw [if_neg F7] at ST;have HX:=ah.mk (HE.out i hi F7);clear F7 hi;go_wp2_with (first
         | (with_reducible refine iK rfl rfl rfl ?_;rintro g wa hg hz hB;have uY:=ah.mk hB;have HZ:=ah.mk hz;have qR:=ah.mk hg;clear hg hz hB)
         | (refine iU rfl rfl rfl (x:=nd x.f4 i) (A:=A') (c:=c') rfl rfl HZ.out ?_;rintro wb hN hB;have E:=PE.box ST.out HF.out (uY.out.trans (hB.mono (Nat.le_of_eq qR.out.symm))) (Nat.le_of_eq qR.out.symm) hN HN.out;(try clear k0 k1 k2 k3 k4 k5);obtain ⟨c0,c1,c2,c3,c4,c5⟩:=E.out.cells;clear hN hB)
         | (go_at_call 85;(try clear c0 c1 c2 c3 c4 c5);(with_reducible refine PE.call E E.out (fun st => yA.all HX.out.2 HX.out.1 st E.out.k) (fun w1 E c0 c1 c2 c3 c4 c5 => ?_)))
         | fail)
        go_roundg (3 - (i + 1))
        case measure => have:=HI.out;have:=qg.out;omega
        case rel => exact ⟨i + 1,by (try simp only [w4,w3]);rfl,⟨by have:=HI.out;have:=qg.out;omega⟩,⟨EN.out.back E.out⟩⟩
    · have g1 : decide ((0 : Int) < (i : Int)) = true:=decide_eq_true (by omega);have g2 : decide (0 < i) = true:=decide_eq_true (by omega);rw [if_neg h0] at ST;have H0:=ah.mk h0;clear h0;by_cases F7 : (nd x.f4 i).f0 = 56
      · have b56 : ((nd x.f4 i).f0 != 56) = false:=by rw [bne,F7];rfl
        unfold yu at ST;rw [if_pos F7,List.nil_append] at ST;clear F7 hi;go_wp2_with (first
         | (with_reducible refine iK rfl rfl rfl ?_;rintro g wa hg hz hB;have uY:=ah.mk hB;have HZ:=ah.mk hz;have qR:=ah.mk hg;clear hg hz hB)
         | (refine iU rfl rfl rfl (x:=nd x.f4 i) (A:=A') (c:=c') rfl rfl HZ.out ?_;rintro wb hN hB;have E:=PE.box ST.out HF.out (uY.out.trans (hB.mono (Nat.le_of_eq qR.out.symm))) (Nat.le_of_eq qR.out.symm) hN HN.out;(try clear k0 k1 k2 k3 k4 k5);obtain ⟨c0,c1,c2,c3,c4,c5⟩:=E.out.cells;clear hN hB)
         | (go_at_call 54;(try clear c0 c1 c2 c3 c4 c5);(with_reducible first|refine PE.jI E ?_|refine PE.jS E ?_|refine PE.jW E ?_|refine PE.jE E ?_);intro w1 E c0 c1 c2 c3 c4 c5)
         | fail)
        go_roundg (3 - (i + 1))
        case measure => have:=HI.out;have:=qg.out;omega
        case rel => exact ⟨i + 1,by (try simp only [w4,w3]);rfl,⟨by have:=HI.out;have:=qg.out;omega⟩,⟨EN.out.back E.out⟩⟩
      · have b56 : ((nd x.f4 i).f0 != 56) = true:=bne_iff_ne.2 F7;unfold yu at ST;rw [if_neg F7] at ST;have HX:=ah.mk (HE.out i hi F7);clear F7 hi;go_wp2_with (first
         | (with_reducible refine iK rfl rfl rfl ?_;rintro g wa hg hz hB;have uY:=ah.mk hB;have HZ:=ah.mk hz;have qR:=ah.mk hg;clear hg hz hB)
         | (refine iU rfl rfl rfl (x:=nd x.f4 i) (A:=A') (c:=c') rfl rfl HZ.out ?_;rintro wb hN hB;have E:=PE.box ST.out HF.out (uY.out.trans (hB.mono (Nat.le_of_eq qR.out.symm))) (Nat.le_of_eq qR.out.symm) hN HN.out;(try clear k0 k1 k2 k3 k4 k5);obtain ⟨c0,c1,c2,c3,c4,c5⟩:=E.out.cells;clear hN hB)
         | (go_at_call 54;(try clear c0 c1 c2 c3 c4 c5);(with_reducible first|refine PE.jI E ?_|refine PE.jS E ?_|refine PE.jW E ?_|refine PE.jE E ?_);intro w1 E c0 c1 c2 c3 c4 c5)
         | (go_at_call 85;(try clear c0 c1 c2 c3 c4 c5);(with_reducible refine PE.call E E.out (fun st => yA.all HX.out.2 HX.out.1 st E.out.k) (fun w1 E c0 c1 c2 c3 c4 c5 => ?_)))
         | fail)
        go_roundg (3 - (i + 1))
        case measure => have:=HI.out;have:=qg.out;omega
        case rel => exact ⟨i + 1,by (try simp only [w4,w3]);rfl,⟨by have:=HI.out;have:=qg.out;omega⟩,⟨EN.out.back E.out⟩⟩
  · have EP : decide (i < 3) = false:=decide_eq_false hi;have e1 : decide ((i : Int) < (3 : Int)) = false:=decide_eq_false (by omega);rw [fo_end hi] at EN;have E:=EN;obtain ⟨c0,c1,c2,c3,c4,c5⟩:=E.out.cells;obtain ⟨k30,k31,k32,k33,k34,k35⟩:=F8.out.at E.out.st.b;clear hi HI EN;go_wp2_with (first
     | (go_at_call 54;(try clear c0 c1 c2 c3 c4 c5);(with_reducible first|refine PE.jI E ?_|refine PE.jS E ?_|refine PE.jW E ?_|refine PE.jE E ?_);intro w1 E c0 c1 c2 c3 c4 c5;(try ((try clear k30 k31 k32 k33 k34 k35);obtain ⟨k30,k31,k32,k33,k34,k35⟩:=F8.out.at E.out.st.b)))
     | (go_at_call 38;(try clear c0 c1 c2 c3 c4 c5);(with_reducible refine PE.call E E.out (fun st => HL3.out.go st HN3.out) (fun w1 E c0 c1 c2 c3 c4 c5 => ?_));(try ((try clear k30 k31 k32 k33 k34 k35);obtain ⟨k30,k31,k32,k33,k34,k35⟩:=F8.out.at E.out.st.b)))
     | fail)
    first|go_end0|(refine bodyPost_ret (results_none rfl _ _ _) rfl ?_)
    exact ⟨rfl,E.out.st,E.out.fr⟩
theorem tq.k48 {p : Nat} {w0 w : World} {F r : List Int} {x : bn} {A : Option Addr} {c : Nat} {n : Nat} (he : ∀ y ∈ x.f4,jh y = true → lX n y) (hl : x.f4.length = 1) (hx0 : jh (nd x.f4 0) = true) (hk : x.f0 = 48) (h : St false p w0 F (qU (iy n) (nd x.f4 0) 0 ++ bytesOf ⟨#[59]⟩ ++ r) w) (hn : ND w0 x A c) : Calls Tryz.prog 59 #[.pointer (some ⟨p,0,none⟩),val x A c] w (nY false p w0 F r (.tuple #[]) w):=by
 have CJ : (0 : Int) < (x.f4.length : Int):=by omega
 have CO : 0 < x.f4.length:=by omega
 obtain ⟨ad,rfl⟩:=gY hn.C (show 0 < x.f4.length by omega);obtain ⟨A0,d0,hn0,hk0⟩:=zZ hn.C (show 0 < x.f4.length by omega);have qK:=ah.mk hn0;have jq:=ah.mk hk0;have RV:=Yt hk 48 rfl
 have b53:=Yf hk 53 rfl
 have b54:=Yf hk 54 rfl
 have b55:=Yf hk 55 rfl
 have vN:=ah.mk (he _ (fH (show 0 < x.f4.length by omega)) hx0);have HX0:=ah.mk hx0;clear he hx0;have vC:=ah.mk hl;clear hl;(try simp only [List.append_assoc] at h);have E:=PE.start h hn;clear h hn;obtain ⟨iC,iD,iE,iF,iG,iH⟩:=jq.out.at E.out.st.b;clear hn0 hk0;have HKK:=ah.mk hk;clear hk;go_enter Tryz.func59,Tryz.ntmps59
 go_wp2_with (first
  | (go_at_call 54;(try clear c0 c1 c2 c3 c4 c5);(with_reducible first|refine PE.jI E ?_|refine PE.jS E ?_|refine PE.jW E ?_|refine PE.jE E ?_);intro w1 E c0 c1 c2 c3 c4 c5;(try ((try clear iC iD iE iF iG iH);obtain ⟨iC,iD,iE,iF,iG,iH⟩:=jq.out.at E.out.st.b)))
  | (go_at_call 85;(try clear c0 c1 c2 c3 c4 c5);(with_reducible refine PE.call E E.out (fun st => yA.all vN.out HX0.out st qK.out) (fun w1 E c0 c1 c2 c3 c4 c5 => ?_));(try ((try clear iC iD iE iF iG iH);obtain ⟨iC,iD,iE,iF,iG,iH⟩:=jq.out.at E.out.st.b)))
  | fail)
 first|go_end0|go_ret|(refine bodyPost_ret (results_none rfl _ _ _) rfl ?_)
 exact ⟨rfl,E.out.st,E.out.fr⟩
theorem tq.k53 {p : Nat} {w0 w : World} {F r : List Int} {x : bn} {A : Option Addr} {c : Nat} {n : Nat} (hk : x.f0 = 53) (h : St false p w0 F (bytesOf ⟨#[98,114,101,97,107]⟩ ++ bytesOf ⟨#[59]⟩ ++ r) w) (hn : ND w0 x A c) : Calls Tryz.prog 59 #[.pointer (some ⟨p,0,none⟩),val x A c] w (nY false p w0 F r (.tuple #[]) w):=by
 have RV:=Yf hk 48 rfl
 have b53:=Yt hk 53 rfl
 have b54:=Yf hk 54 rfl
 have b55:=Yf hk 55 rfl
 (try simp only [List.append_assoc] at h);have E:=PE.start h hn;clear h hn;have HKK:=ah.mk hk;clear hk;go_enter Tryz.func59,Tryz.ntmps59
 go_wp2_with (first
  | (go_at_call 54;(try clear c0 c1 c2 c3 c4 c5);(with_reducible first|refine PE.jI E ?_|refine PE.jS E ?_|refine PE.jW E ?_|refine PE.jE E ?_);intro w1 E c0 c1 c2 c3 c4 c5)
  | fail)
 first|go_end0|go_ret|(refine bodyPost_ret (results_none rfl _ _ _) rfl ?_)
 exact ⟨rfl,E.out.st,E.out.fr⟩
theorem tq.k54 {p : Nat} {w0 w : World} {F r : List Int} {x : bn} {A : Option Addr} {c : Nat} {n : Nat} (hk : x.f0 = 54) (h : St false p w0 F (bytesOf ⟨#[99,111,110,116,105,110,117,101]⟩ ++ bytesOf ⟨#[59]⟩ ++ r) w) (hn : ND w0 x A c) : Calls Tryz.prog 59 #[.pointer (some ⟨p,0,none⟩),val x A c] w (nY false p w0 F r (.tuple #[]) w):=by
 have RV:=Yf hk 48 rfl
 have b53:=Yf hk 53 rfl
 have b54:=Yt hk 54 rfl
 have b55:=Yf hk 55 rfl
 (try simp only [List.append_assoc] at h);have E:=PE.start h hn;clear h hn;have HKK:=ah.mk hk;clear hk;go_enter Tryz.func59,Tryz.ntmps59
 go_wp2_with (first
  | (go_at_call 54;(try clear c0 c1 c2 c3 c4 c5);(with_reducible first|refine PE.jI E ?_|refine PE.jS E ?_|refine PE.jW E ?_|refine PE.jE E ?_);intro w1 E c0 c1 c2 c3 c4 c5)
  | fail)
 first|go_end0|go_ret|(refine bodyPost_ret (results_none rfl _ _ _) rfl ?_)
 exact ⟨rfl,E.out.st,E.out.fr⟩
theorem tq.k56 {p : Nat} {w0 w : World} {F r : List Int} {x : bn} {A : Option Addr} {c : Nat} {n : Nat} (hk : x.f0 = 56) (h : St false p w0 F (bytesOf ⟨#[59]⟩ ++ r) w) (hn : ND w0 x A c) : Calls Tryz.prog 59 #[.pointer (some ⟨p,0,none⟩),val x A c] w (nY false p w0 F r (.tuple #[]) w):=by
 have RV:=Yf hk 48 rfl
 have b53:=Yf hk 53 rfl
 have b54:=Yf hk 54 rfl
 have b55:=Yf hk 55 rfl
 (try simp only [List.append_assoc] at h);have E:=PE.start h hn;clear h hn;have HKK:=ah.mk hk;clear hk;go_enter Tryz.func59,Tryz.ntmps59
 go_wp2_with (first
  | (go_at_call 54;(try clear c0 c1 c2 c3 c4 c5);(with_reducible first|refine PE.jI E ?_|refine PE.jS E ?_|refine PE.jW E ?_|refine PE.jE E ?_);intro w1 E c0 c1 c2 c3 c4 c5)
  | fail)
 first|go_end0|go_ret|(refine bodyPost_ret (results_none rfl _ _ _) rfl ?_)
 exact ⟨rfl,E.out.st,E.out.fr⟩
theorem tq.k55a {p : Nat} {w0 w : World} {F r : List Int} {x : bn} {A : Option Addr} {c : Nat} {n : Nat} (hl : x.f4.length = 0) (hk : x.f0 = 55) (h : St false p w0 F (bytesOf ⟨#[114,101,116,117,114,110]⟩ ++ bytesOf ⟨#[59]⟩ ++ r) w) (hn : ND w0 x A c) : Calls Tryz.prog 59 #[.pointer (some ⟨p,0,none⟩),val x A c] w (nY false p w0 F r (.tuple #[]) w):=by
 have RV:=Yf hk 48 rfl
 have b53:=Yf hk 53 rfl
 have b54:=Yf hk 54 rfl
 have b55:=Yt hk 55 rfl
 have g1 : decide ((0 : Int) < (x.f4.length : Int)) = false:=decide_eq_false (by omega);have g2 : decide (0 < x.f4.length) = false:=decide_eq_false (by omega);have vC:=ah.mk hl;clear hl;(try simp only [List.append_assoc] at h);have E:=PE.start h hn;clear h hn;have HKK:=ah.mk hk;clear hk;go_enter Tryz.func59,Tryz.ntmps59
 go_wp2_with (first
  | (go_at_call 54;(try clear c0 c1 c2 c3 c4 c5);(with_reducible first|refine PE.jI E ?_|refine PE.jS E ?_|refine PE.jW E ?_|refine PE.jE E ?_);intro w1 E c0 c1 c2 c3 c4 c5)
  | fail)
 first|go_end0|go_ret|(refine bodyPost_ret (results_none rfl _ _ _) rfl ?_)
 exact ⟨rfl,E.out.st,E.out.fr⟩
theorem tq.k55b {p : Nat} {w0 w : World} {F r : List Int} {x : bn} {A : Option Addr} {c : Nat} {n : Nat} (he : ∀ y ∈ x.f4,jh y = true → lX n y) (hl : x.f4.length = 1) (hx0 : jh (nd x.f4 0) = true) (hk : x.f0 = 55) (h : St false p w0 F (bytesOf ⟨#[114,101,116,117,114,110]⟩ ++ (bytesOf ⟨#[32]⟩ ++ (qU (iy n) (nd x.f4 0) 0 ++ bytesOf ⟨#[59]⟩)) ++ r) w) (hn : ND w0 x A c) : Calls Tryz.prog 59 #[.pointer (some ⟨p,0,none⟩),val x A c] w (nY false p w0 F r (.tuple #[]) w):=by
 have CJ : (0 : Int) < (x.f4.length : Int):=by omega
 have CO : 0 < x.f4.length:=by omega
 obtain ⟨ad,rfl⟩:=gY hn.C (show 0 < x.f4.length by omega);obtain ⟨A0,d0,hn0,hk0⟩:=zZ hn.C (show 0 < x.f4.length by omega);have qK:=ah.mk hn0;have jq:=ah.mk hk0;have RV:=Yf hk 48 rfl
 have b53:=Yf hk 53 rfl
 have b54:=Yf hk 54 rfl
 have b55:=Yt hk 55 rfl
 have g1 : decide ((0 : Int) < (x.f4.length : Int)) = true:=decide_eq_true (by omega);have g2 : decide (0 < x.f4.length) = true:=decide_eq_true (by omega);have vN:=ah.mk (he _ (fH (show 0 < x.f4.length by omega)) hx0);have HX0:=ah.mk hx0;clear he hx0;have vC:=ah.mk hl;clear hl;(try simp only [List.append_assoc] at h);have E:=PE.start h hn;clear h hn;obtain ⟨iC,iD,iE,iF,iG,iH⟩:=jq.out.at E.out.st.b;clear hn0 hk0;have HKK:=ah.mk hk;clear hk;go_enter Tryz.func59,Tryz.ntmps59
 go_wp2_with (first
  | (go_at_call 54;(try clear c0 c1 c2 c3 c4 c5);(with_reducible first|refine PE.jI E ?_|refine PE.jS E ?_|refine PE.jW E ?_|refine PE.jE E ?_);intro w1 E c0 c1 c2 c3 c4 c5;(try ((try clear iC iD iE iF iG iH);obtain ⟨iC,iD,iE,iF,iG,iH⟩:=jq.out.at E.out.st.b)))
  | (go_at_call 85;(try clear c0 c1 c2 c3 c4 c5);(with_reducible refine PE.call E E.out (fun st => yA.all vN.out HX0.out st qK.out) (fun w1 E c0 c1 c2 c3 c4 c5 => ?_));(try ((try clear iC iD iE iF iG iH);obtain ⟨iC,iD,iE,iF,iG,iH⟩:=jq.out.at E.out.st.b)))
  | fail)
 first|go_end0|go_ret|(refine bodyPost_ret (results_none rfl _ _ _) rfl ?_)
 exact ⟨rfl,E.out.st,E.out.fr⟩
theorem lC.k41 {p : Nat} {w0 w : World} {F r : List Int} {x : bn} {A : Option Addr} {c : Nat} {n : Nat} (ha : ∀ y ∈ x.f4,wR n y) (hk : x.f0 = 41) (h : St false p w0 F (kZ (n + 1) x ++ r) w) (hn : ND w0 x A c) : Calls Tryz.prog 38 #[.pointer (some ⟨p,0,none⟩),val x A c] w (nY false p w0 F r (.tuple #[]) w):=by
 have FX:=Yf hk 49 rfl
 have Ji:=Yf hk 50 rfl
 have KD:=Yf hk 52 rfl
 have Jy:=Yf hk 51 rfl
 have BM:=Yt hk 41 rfl
 have Cj:=Yf hk 42 rfl
 have KF:=Yf hk 45 rfl
 have EC:=Yf hk 47 rfl
 have HA:=ah.mk ha;clear ha;rw [lnT_41 hk] at h;(try unfold RF at h);(try simp only [List.append_assoc] at h);have E:=PE.start h hn;clear h hn;have HKK:=ah.mk hk;clear hk;go_enter Tryz.func38,Tryz.ntmps38
 go_wp2_with (first
  | (go_at_call 54;(try clear c0 c1 c2 c3 c4 c5);(with_reducible first|refine PE.jI E ?_|refine PE.jS E ?_|refine PE.jW E ?_|refine PE.jE E ?_);intro w1 E c0 c1 c2 c3 c4 c5)
  | (go_at_call 56;(try clear c0 c1 c2 c3 c4 c5);(with_reducible refine PE.call E E.out (fun st => NT.all HA.out st E.out.k.C) (fun w1 E c0 c1 c2 c3 c4 c5 => ?_)))
  | fail)
 first|go_end0|go_ret|(refine bodyPost_ret (results_none rfl _ _ _) rfl ?_)
 exact ⟨rfl,E.out.st,E.out.fr⟩
theorem lC.k47 {p : Nat} {w0 w : World} {F r : List Int} {x : bn} {A : Option Addr} {c : Nat} {n : Nat} (ha : ∀ y ∈ x.f4,wR n y) (hk : x.f0 = 47) (h : St false p w0 F (kZ (n + 1) x ++ r) w) (hn : ND w0 x A c) : Calls Tryz.prog 38 #[.pointer (some ⟨p,0,none⟩),val x A c] w (nY false p w0 F r (.tuple #[]) w):=by
 have FX:=Yf hk 49 rfl
 have Ji:=Yf hk 50 rfl
 have KD:=Yf hk 52 rfl
 have Jy:=Yf hk 51 rfl
 have BM:=Yf hk 41 rfl
 have Cj:=Yf hk 42 rfl
 have KF:=Yf hk 45 rfl
 have EC:=Yt hk 47 rfl
 have HA:=ah.mk ha;clear ha;rw [lnT_47 hk] at h;(try unfold RI at h);(try simp only [List.append_assoc] at h);have E:=PE.start h hn;clear h hn;have HKK:=ah.mk hk;clear hk;go_enter Tryz.func38,Tryz.ntmps38
 go_wp2_with (first
  | (go_at_call 54;(try clear c0 c1 c2 c3 c4 c5);(with_reducible first|refine PE.jI E ?_|refine PE.jS E ?_|refine PE.jW E ?_|refine PE.jE E ?_);intro w1 E c0 c1 c2 c3 c4 c5)
  | (go_at_call 56;(try clear c0 c1 c2 c3 c4 c5);(with_reducible refine PE.call E E.out (fun st => NT.all HA.out st E.out.k.C) (fun w1 E c0 c1 c2 c3 c4 c5 => ?_)))
  | fail)
 first|go_end0|go_ret|(refine bodyPost_ret (results_none rfl _ _ _) rfl ?_)
 exact ⟨rfl,E.out.st,E.out.fr⟩
theorem lC.k48 {p : Nat} {w0 w : World} {F r : List Int} {x : bn} {A : Option Addr} {c : Nat} {n : Nat} (he : ∀ y ∈ x.f4,jh y = true → lX n y) (hl : x.f4.length = 1) (hx0 : jh (nd x.f4 0) = true) (hk : x.f0 = 48) (h : St false p w0 F (kZ (n + 1) x ++ r) w) (hn : ND w0 x A c) : Calls Tryz.prog 38 #[.pointer (some ⟨p,0,none⟩),val x A c] w (nY false p w0 F r (.tuple #[]) w):=by
 have FX:=Yf hk 49 rfl
 have Ji:=Yf hk 50 rfl
 have KD:=Yf hk 52 rfl
 have Jy:=Yf hk 51 rfl
 have BM:=Yf hk 41 rfl
 have Cj:=Yf hk 42 rfl
 have KF:=Yf hk 45 rfl
 have EC:=Yf hk 47 rfl
 have HE:=ah.mk he;have HL0:=ah.mk hl;have HX0:=ah.mk hx0;have HKD:=ah.mk hk;clear he hx0;have vC:=ah.mk hl;clear hl;rw [lnT_48 hk] at h;(try unfold RJ at h);rw [show (qU (iy n) (nd x.f4 0) 0 ++ (bytesOf ⟨#[59]⟩ ++ bytesOf ⟨#[10]⟩)) ++ r = (qU (iy n) (nd x.f4 0) 0 ++ bytesOf ⟨#[59]⟩) ++ (bytesOf ⟨#[10]⟩ ++ r) from by simp only [List.append_assoc]] at h;have E:=PE.start h hn;clear h hn;have HKK:=ah.mk hk;clear hk;go_enter Tryz.func38,Tryz.ntmps38
 go_wp2_with (first
  | (go_at_call 54;(try clear c0 c1 c2 c3 c4 c5);(with_reducible first|refine PE.jI E ?_|refine PE.jS E ?_|refine PE.jW E ?_|refine PE.jE E ?_);intro w1 E c0 c1 c2 c3 c4 c5)
  | (go_at_call 59;(try clear c0 c1 c2 c3 c4 c5);(with_reducible refine PE.call E E.out (fun st => tq.k48 HE.out HL0.out HX0.out HKD.out st E.out.k) (fun w1 E c0 c1 c2 c3 c4 c5 => ?_)))
  | fail)
 first|go_end0|go_ret|(refine bodyPost_ret (results_none rfl _ _ _) rfl ?_)
 exact ⟨rfl,E.out.st,E.out.fr⟩
theorem lC.k53 {p : Nat} {w0 w : World} {F r : List Int} {x : bn} {A : Option Addr} {c : Nat} {n : Nat} (hk : x.f0 = 53) (h : St false p w0 F (kZ (n + 1) x ++ r) w) (hn : ND w0 x A c) : Calls Tryz.prog 38 #[.pointer (some ⟨p,0,none⟩),val x A c] w (nY false p w0 F r (.tuple #[]) w):=by
 have FX:=Yf hk 49 rfl
 have Ji:=Yf hk 50 rfl
 have KD:=Yf hk 52 rfl
 have Jy:=Yf hk 51 rfl
 have BM:=Yf hk 41 rfl
 have Cj:=Yf hk 42 rfl
 have KF:=Yf hk 45 rfl
 have EC:=Yf hk 47 rfl
 have HKD:=ah.mk hk;rw [lnT_53 hk] at h;(try unfold ln53 at h);rw [show (bytesOf ⟨#[98,114,101,97,107]⟩ ++ (bytesOf ⟨#[59]⟩ ++ bytesOf ⟨#[10]⟩)) ++ r = (bytesOf ⟨#[98,114,101,97,107]⟩ ++ bytesOf ⟨#[59]⟩) ++ (bytesOf ⟨#[10]⟩ ++ r) from by simp only [List.append_assoc]] at h;have E:=PE.start h hn;clear h hn;have HKK:=ah.mk hk;clear hk;go_enter Tryz.func38,Tryz.ntmps38
 go_wp2_with (first
  | (go_at_call 54;(try clear c0 c1 c2 c3 c4 c5);(with_reducible first|refine PE.jI E ?_|refine PE.jS E ?_|refine PE.jW E ?_|refine PE.jE E ?_);intro w1 E c0 c1 c2 c3 c4 c5)
  | (go_at_call 59;(try clear c0 c1 c2 c3 c4 c5);(with_reducible refine PE.call E E.out (fun st => tq.k53 (n:=n) HKD.out st E.out.k) (fun w1 E c0 c1 c2 c3 c4 c5 => ?_)))
  | fail)
 first|go_end0|go_ret|(refine bodyPost_ret (results_none rfl _ _ _) rfl ?_)
 exact ⟨rfl,E.out.st,E.out.fr⟩
theorem lC.k54 {p : Nat} {w0 w : World} {F r : List Int} {x : bn} {A : Option Addr} {c : Nat} {n : Nat} (hk : x.f0 = 54) (h : St false p w0 F (kZ (n + 1) x ++ r) w) (hn : ND w0 x A c) : Calls Tryz.prog 38 #[.pointer (some ⟨p,0,none⟩),val x A c] w (nY false p w0 F r (.tuple #[]) w):=by
 have FX:=Yf hk 49 rfl
 have Ji:=Yf hk 50 rfl
 have KD:=Yf hk 52 rfl
 have Jy:=Yf hk 51 rfl
 have BM:=Yf hk 41 rfl
 have Cj:=Yf hk 42 rfl
 have KF:=Yf hk 45 rfl
 have EC:=Yf hk 47 rfl
 have HKD:=ah.mk hk;rw [lnT_54 hk] at h;(try unfold ln54 at h);rw [show (bytesOf ⟨#[99,111,110,116,105,110,117,101]⟩ ++ (bytesOf ⟨#[59]⟩ ++ bytesOf ⟨#[10]⟩)) ++ r = (bytesOf ⟨#[99,111,110,116,105,110,117,101]⟩ ++ bytesOf ⟨#[59]⟩) ++ (bytesOf ⟨#[10]⟩ ++ r) from by simp only [List.append_assoc]] at h;have E:=PE.start h hn;clear h hn;have HKK:=ah.mk hk;clear hk;go_enter Tryz.func38,Tryz.ntmps38
 go_wp2_with (first
  | (go_at_call 54;(try clear c0 c1 c2 c3 c4 c5);(with_reducible first|refine PE.jI E ?_|refine PE.jS E ?_|refine PE.jW E ?_|refine PE.jE E ?_);intro w1 E c0 c1 c2 c3 c4 c5)
  | (go_at_call 59;(try clear c0 c1 c2 c3 c4 c5);(with_reducible refine PE.call E E.out (fun st => tq.k54 (n:=n) HKD.out st E.out.k) (fun w1 E c0 c1 c2 c3 c4 c5 => ?_)))
  | fail)
 first|go_end0|go_ret|(refine bodyPost_ret (results_none rfl _ _ _) rfl ?_)
 exact ⟨rfl,E.out.st,E.out.fr⟩
theorem lC.k56 {p : Nat} {w0 w : World} {F r : List Int} {x : bn} {A : Option Addr} {c : Nat} {n : Nat} (hk : x.f0 = 56) (h : St false p w0 F (kZ (n + 1) x ++ r) w) (hn : ND w0 x A c) : Calls Tryz.prog 38 #[.pointer (some ⟨p,0,none⟩),val x A c] w (nY false p w0 F r (.tuple #[]) w):=by
 have FX:=Yf hk 49 rfl
 have Ji:=Yf hk 50 rfl
 have KD:=Yf hk 52 rfl
 have Jy:=Yf hk 51 rfl
 have BM:=Yf hk 41 rfl
 have Cj:=Yf hk 42 rfl
 have KF:=Yf hk 45 rfl
 have EC:=Yf hk 47 rfl
 have HKD:=ah.mk hk;rw [lnT_56 hk] at h;(try unfold NQ at h);(try simp only [List.append_assoc] at h);have E:=PE.start h hn;clear h hn;have HKK:=ah.mk hk;clear hk;go_enter Tryz.func38,Tryz.ntmps38
 go_wp2_with (first
  | (go_at_call 54;(try clear c0 c1 c2 c3 c4 c5);(with_reducible first|refine PE.jI E ?_|refine PE.jS E ?_|refine PE.jW E ?_|refine PE.jE E ?_);intro w1 E c0 c1 c2 c3 c4 c5)
  | (go_at_call 59;(try clear c0 c1 c2 c3 c4 c5);(with_reducible refine PE.call E E.out (fun st => tq.k56 (n:=n) HKD.out st E.out.k) (fun w1 E c0 c1 c2 c3 c4 c5 => ?_)))
  | fail)
 first|go_end0|go_ret|(refine bodyPost_ret (results_none rfl _ _ _) rfl ?_)
 exact ⟨rfl,E.out.st,E.out.fr⟩
theorem lC.k55a {p : Nat} {w0 w : World} {F r : List Int} {x : bn} {A : Option Addr} {c : Nat} {n : Nat} (hl : x.f4.length = 0) (hk : x.f0 = 55) (h : St false p w0 F (kZ (n + 1) x ++ r) w) (hn : ND w0 x A c) : Calls Tryz.prog 38 #[.pointer (some ⟨p,0,none⟩),val x A c] w (nY false p w0 F r (.tuple #[]) w):=by
 have FX:=Yf hk 49 rfl
 have Ji:=Yf hk 50 rfl
 have KD:=Yf hk 52 rfl
 have Jy:=Yf hk 51 rfl
 have BM:=Yf hk 41 rfl
 have Cj:=Yf hk 42 rfl
 have KF:=Yf hk 45 rfl
 have EC:=Yf hk 47 rfl
 have HL0:=ah.mk hl;have HKD:=ah.mk hk;have vC:=ah.mk hl;clear hl;rw [NS hk] at h;unfold NP at h;rw [if_neg (by have:=HL0.out;omega),show (bytesOf ⟨#[114,101,116,117,114,110]⟩ ++ ([] ++ (bytesOf ⟨#[59]⟩ ++ bytesOf ⟨#[10]⟩))) ++ r = (bytesOf ⟨#[114,101,116,117,114,110]⟩ ++ bytesOf ⟨#[59]⟩) ++ (bytesOf ⟨#[10]⟩ ++ r) from by simp only [List.append_assoc,List.nil_append]] at h;have E:=PE.start h hn;clear h hn;have HKK:=ah.mk hk;clear hk;go_enter Tryz.func38,Tryz.ntmps38
 go_wp2_with (first
  | (go_at_call 54;(try clear c0 c1 c2 c3 c4 c5);(with_reducible first|refine PE.jI E ?_|refine PE.jS E ?_|refine PE.jW E ?_|refine PE.jE E ?_);intro w1 E c0 c1 c2 c3 c4 c5)
  | (go_at_call 59;(try clear c0 c1 c2 c3 c4 c5);(with_reducible refine PE.call E E.out (fun st => tq.k55a (n:=n) HL0.out HKD.out st E.out.k) (fun w1 E c0 c1 c2 c3 c4 c5 => ?_)))
  | fail)
 first|go_end0|go_ret|(refine bodyPost_ret (results_none rfl _ _ _) rfl ?_)
 exact ⟨rfl,E.out.st,E.out.fr⟩
theorem lC.k55b {p : Nat} {w0 w : World} {F r : List Int} {x : bn} {A : Option Addr} {c : Nat} {n : Nat} (he : ∀ y ∈ x.f4,jh y = true → lX n y) (hl : x.f4.length = 1) (hx0 : jh (nd x.f4 0) = true) (hk : x.f0 = 55) (h : St false p w0 F (kZ (n + 1) x ++ r) w) (hn : ND w0 x A c) : Calls Tryz.prog 38 #[.pointer (some ⟨p,0,none⟩),val x A c] w (nY false p w0 F r (.tuple #[]) w):=by
 have FX:=Yf hk 49 rfl
 have Ji:=Yf hk 50 rfl
 have KD:=Yf hk 52 rfl
 have Jy:=Yf hk 51 rfl
 have BM:=Yf hk 41 rfl
 have Cj:=Yf hk 42 rfl
 have KF:=Yf hk 45 rfl
 have EC:=Yf hk 47 rfl
 have HE:=ah.mk he;have HL0:=ah.mk hl;have HX0:=ah.mk hx0;have HKD:=ah.mk hk;clear he hx0;have vC:=ah.mk hl;clear hl;rw [NS hk] at h;unfold NP at h;rw [if_pos (by have:=HL0.out;omega),show (bytesOf ⟨#[114,101,116,117,114,110]⟩ ++ ((bytesOf ⟨#[32]⟩ ++ qU (iy n) (nd x.f4 0) 0) ++ (bytesOf ⟨#[59]⟩ ++ bytesOf ⟨#[10]⟩))) ++ r = (bytesOf ⟨#[114,101,116,117,114,110]⟩ ++ (bytesOf ⟨#[32]⟩ ++ (qU (iy n) (nd x.f4 0) 0 ++ bytesOf ⟨#[59]⟩))) ++ (bytesOf ⟨#[10]⟩ ++ r) from by simp only [List.append_assoc]] at h;have E:=PE.start h hn;clear h hn;have HKK:=ah.mk hk;clear hk;go_enter Tryz.func38,Tryz.ntmps38
 go_wp2_with (first
  | (go_at_call 54;(try clear c0 c1 c2 c3 c4 c5);(with_reducible first|refine PE.jI E ?_|refine PE.jS E ?_|refine PE.jW E ?_|refine PE.jE E ?_);intro w1 E c0 c1 c2 c3 c4 c5)
  | (go_at_call 59;(try clear c0 c1 c2 c3 c4 c5);(with_reducible refine PE.call E E.out (fun st => tq.k55b HE.out HL0.out HX0.out HKD.out st E.out.k) (fun w1 E c0 c1 c2 c3 c4 c5 => ?_)))
  | fail)
 first|go_end0|go_ret|(refine bodyPost_ret (results_none rfl _ _ _) rfl ?_)
 exact ⟨rfl,E.out.st,E.out.fr⟩
theorem lC.k50 {p : Nat} {w0 w : World} {F r : List Int} {x : bn} {A : Option Addr} {c : Nat} {n : Nat} (he : ∀ y ∈ x.f4,jh y = true → lX n y) (RY : ∀ y ∈ x.f4,Aa y = true → wR n y) (hl : x.f4.length = 2) (hx0 : jh (nd x.f4 0) = true) (hx1 : Aa (nd x.f4 1) = true) (hk : x.f0 = 50) (h : St false p w0 F (kZ (n + 1) x ++ r) w) (hn : ND w0 x A c) : Calls Tryz.prog 38 #[.pointer (some ⟨p,0,none⟩),val x A c] w (nY false p w0 F r (.tuple #[]) w):=by
 have CJ : (0 : Int) < (x.f4.length : Int):=by omega
 have CO : 0 < x.f4.length:=by omega
 have Ry : (1 : Int) < (x.f4.length : Int):=by omega
 have Rz : 1 < x.f4.length:=by omega
 obtain ⟨ad,rfl⟩:=gY hn.C (show 0 < x.f4.length by omega);obtain ⟨A0,d0,hn0,hk0⟩:=zZ hn.C (show 0 < x.f4.length by omega);have qK:=ah.mk hn0;have jq:=ah.mk hk0;obtain ⟨A1,d1,hn1,hk1⟩:=Qu hn.C (show 1 < x.f4.length by omega);have pW:=ah.mk hn1;have jm:=ah.mk hk1;have FX:=Yf hk 49 rfl
 have Ji:=Yt hk 50 rfl
 have KD:=Yf hk 52 rfl
 have Jy:=Yf hk 51 rfl
 have BM:=Yf hk 41 rfl
 have Cj:=Yf hk 42 rfl
 have KF:=Yf hk 45 rfl
 have EC:=Yf hk 47 rfl
 have vN:=ah.mk (he _ (fH (show 0 < x.f4.length by omega)) hx0);have HX0:=ah.mk hx0;have HL1:=ah.mk (RY _ (fH (show 1 < x.f4.length by omega)) hx1);clear he RY hx0 hx1;have vC:=ah.mk hl;clear hl;rw [lnT_50 hk] at h;(try unfold RN at h);(try simp only [List.append_assoc] at h);have E:=PE.start h hn;clear h hn;obtain ⟨iC,iD,iE,iF,iG,iH⟩:=jq.out.at E.out.st.b;clear hn0 hk0;obtain ⟨k10,k11,k12,k13,k14,k15⟩:=jm.out.at E.out.st.b;clear hn1 hk1;have HKK:=ah.mk hk;clear hk;go_enter Tryz.func38,Tryz.ntmps38
 go_wp2_with (first
  | (go_at_call 54;(try clear c0 c1 c2 c3 c4 c5);(with_reducible first|refine PE.jI E ?_|refine PE.jS E ?_|refine PE.jW E ?_|refine PE.jE E ?_);intro w1 E c0 c1 c2 c3 c4 c5;(try ((try clear iC iD iE iF iG iH);obtain ⟨iC,iD,iE,iF,iG,iH⟩:=jq.out.at E.out.st.b));(try ((try clear k10 k11 k12 k13 k14 k15);obtain ⟨k10,k11,k12,k13,k14,k15⟩:=jm.out.at E.out.st.b)))
  | (go_at_call 53;(try clear c0 c1 c2 c3 c4 c5);(with_reducible refine PE.call E E.out (fun st => Qx.all vN.out HX0.out st qK.out) (fun w1 E c0 c1 c2 c3 c4 c5 => ?_));(try ((try clear iC iD iE iF iG iH);obtain ⟨iC,iD,iE,iF,iG,iH⟩:=jq.out.at E.out.st.b));(try ((try clear k10 k11 k12 k13 k14 k15);obtain ⟨k10,k11,k12,k13,k14,k15⟩:=jm.out.at E.out.st.b)))
  | (go_at_call 38;(try clear c0 c1 c2 c3 c4 c5);(with_reducible refine PE.call E E.out (fun st => HL1.out.go st pW.out) (fun w1 E c0 c1 c2 c3 c4 c5 => ?_));(try ((try clear iC iD iE iF iG iH);obtain ⟨iC,iD,iE,iF,iG,iH⟩:=jq.out.at E.out.st.b));(try ((try clear k10 k11 k12 k13 k14 k15);obtain ⟨k10,k11,k12,k13,k14,k15⟩:=jm.out.at E.out.st.b)))
  | fail)
 first|go_end0|go_ret|(refine bodyPost_ret (results_none rfl _ _ _) rfl ?_)
 exact ⟨rfl,E.out.st,E.out.fr⟩
theorem lC.k51 {p : Nat} {w0 w : World} {F r : List Int} {x : bn} {A : Option Addr} {c : Nat} {n : Nat} (he : ∀ y ∈ x.f4,jh y = true → lX n y) (RY : ∀ y ∈ x.f4,Aa y = true → wR n y) (hl : x.f4.length = 2) (hx0 : Aa (nd x.f4 0) = true) (hx1 : jh (nd x.f4 1) = true) (hk : x.f0 = 51) (h : St false p w0 F (kZ (n + 1) x ++ r) w) (hn : ND w0 x A c) : Calls Tryz.prog 38 #[.pointer (some ⟨p,0,none⟩),val x A c] w (nY false p w0 F r (.tuple #[]) w):=by
 have CJ : (0 : Int) < (x.f4.length : Int):=by omega
 have CO : 0 < x.f4.length:=by omega
 have Ry : (1 : Int) < (x.f4.length : Int):=by omega
 have Rz : 1 < x.f4.length:=by omega
 obtain ⟨ad,rfl⟩:=gY hn.C (show 0 < x.f4.length by omega);obtain ⟨A0,d0,hn0,hk0⟩:=zZ hn.C (show 0 < x.f4.length by omega);have qK:=ah.mk hn0;have jq:=ah.mk hk0;obtain ⟨A1,d1,hn1,hk1⟩:=Qu hn.C (show 1 < x.f4.length by omega);have pW:=ah.mk hn1;have jm:=ah.mk hk1;have FX:=Yf hk 49 rfl
 have Ji:=Yf hk 50 rfl
 have KD:=Yf hk 52 rfl
 have Jy:=Yt hk 51 rfl
 have BM:=Yf hk 41 rfl
 have Cj:=Yf hk 42 rfl
 have KF:=Yf hk 45 rfl
 have EC:=Yf hk 47 rfl
 have E8:=ah.mk (he _ (fH (show 1 < x.f4.length by omega)) hx1);have Fa:=ah.mk hx1;have HL0:=ah.mk (RY _ (fH (show 0 < x.f4.length by omega)) hx0);clear he RY hx0 hx1;have vC:=ah.mk hl;clear hl;rw [lnT_51 hk] at h;(try unfold RP at h);(try simp only [List.append_assoc] at h);have E:=PE.start h hn;clear h hn;obtain ⟨iC,iD,iE,iF,iG,iH⟩:=jq.out.at E.out.st.b;clear hn0 hk0;obtain ⟨k10,k11,k12,k13,k14,k15⟩:=jm.out.at E.out.st.b;clear hn1 hk1;have HKK:=ah.mk hk;clear hk;go_enter Tryz.func38,Tryz.ntmps38
 go_wp2_with (first
  | (go_at_call 54;(try clear c0 c1 c2 c3 c4 c5);(with_reducible first|refine PE.jI E ?_|refine PE.jS E ?_|refine PE.jW E ?_|refine PE.jE E ?_);intro w1 E c0 c1 c2 c3 c4 c5;(try ((try clear iC iD iE iF iG iH);obtain ⟨iC,iD,iE,iF,iG,iH⟩:=jq.out.at E.out.st.b));(try ((try clear k10 k11 k12 k13 k14 k15);obtain ⟨k10,k11,k12,k13,k14,k15⟩:=jm.out.at E.out.st.b)))
  | (go_at_call 53;(try clear c0 c1 c2 c3 c4 c5);(with_reducible refine PE.call E E.out (fun st => Qx.all E8.out Fa.out st pW.out) (fun w1 E c0 c1 c2 c3 c4 c5 => ?_));(try ((try clear iC iD iE iF iG iH);obtain ⟨iC,iD,iE,iF,iG,iH⟩:=jq.out.at E.out.st.b));(try ((try clear k10 k11 k12 k13 k14 k15);obtain ⟨k10,k11,k12,k13,k14,k15⟩:=jm.out.at E.out.st.b)))
  | (go_at_call 38;(try clear c0 c1 c2 c3 c4 c5);(with_reducible refine PE.call E E.out (fun st => HL0.out.go st qK.out) (fun w1 E c0 c1 c2 c3 c4 c5 => ?_));(try ((try clear iC iD iE iF iG iH);obtain ⟨iC,iD,iE,iF,iG,iH⟩:=jq.out.at E.out.st.b));(try ((try clear k10 k11 k12 k13 k14 k15);obtain ⟨k10,k11,k12,k13,k14,k15⟩:=jm.out.at E.out.st.b)))
  | fail)
 first|go_end0|go_ret|(refine bodyPost_ret (results_none rfl _ _ _) rfl ?_)
 exact ⟨rfl,E.out.st,E.out.fr⟩
theorem lC.k49a {p : Nat} {w0 w : World} {F r : List Int} {x : bn} {A : Option Addr} {c : Nat} {n : Nat} (he : ∀ y ∈ x.f4,jh y = true → lX n y) (RY : ∀ y ∈ x.f4,Aa y = true → wR n y) (hl : x.f4.length = 2) (hx0 : jh (nd x.f4 0) = true) (hx1 : Aa (nd x.f4 1) = true) (hk : x.f0 = 49) (h : St false p w0 F (kZ (n + 1) x ++ r) w) (hn : ND w0 x A c) : Calls Tryz.prog 38 #[.pointer (some ⟨p,0,none⟩),val x A c] w (nY false p w0 F r (.tuple #[]) w):=by
 have CJ : (0 : Int) < (x.f4.length : Int):=by omega
 have CO : 0 < x.f4.length:=by omega
 have Ry : (1 : Int) < (x.f4.length : Int):=by omega
 have Rz : 1 < x.f4.length:=by omega
 obtain ⟨ad,rfl⟩:=gY hn.C (show 0 < x.f4.length by omega);obtain ⟨A0,d0,hn0,hk0⟩:=zZ hn.C (show 0 < x.f4.length by omega);have qK:=ah.mk hn0;have jq:=ah.mk hk0;obtain ⟨A1,d1,hn1,hk1⟩:=Qu hn.C (show 1 < x.f4.length by omega);have pW:=ah.mk hn1;have jm:=ah.mk hk1;have FX:=Yt hk 49 rfl
 have Ji:=Yf hk 50 rfl
 have KD:=Yf hk 52 rfl
 have Jy:=Yf hk 51 rfl
 have BM:=Yf hk 41 rfl
 have Cj:=Yf hk 42 rfl
 have KF:=Yf hk 45 rfl
 have EC:=Yf hk 47 rfl
 have g1 : decide ((2 : Int) < (x.f4.length : Int)) = false:=decide_eq_false (by omega);have g2 : decide (2 < x.f4.length) = false:=decide_eq_false (by omega);have vN:=ah.mk (he _ (fH (show 0 < x.f4.length by omega)) hx0);have HX0:=ah.mk hx0;have HL1:=ah.mk (RY _ (fH (show 1 < x.f4.length by omega)) hx1);clear he RY hx0 hx1;have vC:=ah.mk hl;clear hl;rw [NR hk] at h;unfold NK at h;rw [if_neg (by have:=vC.out;omega)] at h;simp only [List.append_assoc,List.nil_append] at h;have E:=PE.start h hn;clear h hn;obtain ⟨iC,iD,iE,iF,iG,iH⟩:=jq.out.at E.out.st.b;clear hn0 hk0;obtain ⟨k10,k11,k12,k13,k14,k15⟩:=jm.out.at E.out.st.b;clear hn1 hk1;have HKK:=ah.mk hk;clear hk;go_enter Tryz.func38,Tryz.ntmps38
 go_wp2_with (first
  | (go_at_call 54;(try clear c0 c1 c2 c3 c4 c5);(with_reducible first|refine PE.jI E ?_|refine PE.jS E ?_|refine PE.jW E ?_|refine PE.jE E ?_);intro w1 E c0 c1 c2 c3 c4 c5;(try ((try clear iC iD iE iF iG iH);obtain ⟨iC,iD,iE,iF,iG,iH⟩:=jq.out.at E.out.st.b));(try ((try clear k10 k11 k12 k13 k14 k15);obtain ⟨k10,k11,k12,k13,k14,k15⟩:=jm.out.at E.out.st.b)))
  | (go_at_call 53;(try clear c0 c1 c2 c3 c4 c5);(with_reducible refine PE.call E E.out (fun st => Qx.all vN.out HX0.out st qK.out) (fun w1 E c0 c1 c2 c3 c4 c5 => ?_));(try ((try clear iC iD iE iF iG iH);obtain ⟨iC,iD,iE,iF,iG,iH⟩:=jq.out.at E.out.st.b));(try ((try clear k10 k11 k12 k13 k14 k15);obtain ⟨k10,k11,k12,k13,k14,k15⟩:=jm.out.at E.out.st.b)))
  | (go_at_call 38;(try clear c0 c1 c2 c3 c4 c5);(with_reducible refine PE.call E E.out (fun st => HL1.out.go st pW.out) (fun w1 E c0 c1 c2 c3 c4 c5 => ?_));(try ((try clear iC iD iE iF iG iH);obtain ⟨iC,iD,iE,iF,iG,iH⟩:=jq.out.at E.out.st.b));(try ((try clear k10 k11 k12 k13 k14 k15);obtain ⟨k10,k11,k12,k13,k14,k15⟩:=jm.out.at E.out.st.b)))
  | fail)
 first|go_end0|go_ret|(refine bodyPost_ret (results_none rfl _ _ _) rfl ?_)
 exact ⟨rfl,E.out.st,E.out.fr⟩
theorem lC.k49b {p : Nat} {w0 w : World} {F r : List Int} {x : bn} {A : Option Addr} {c : Nat} {n : Nat} (he : ∀ y ∈ x.f4,jh y = true → lX n y) (RY : ∀ y ∈ x.f4,Aa y = true → wR n y) (hl : x.f4.length = 3) (hx0 : jh (nd x.f4 0) = true) (hx1 : Aa (nd x.f4 1) = true) (hx2 : Aa (nd x.f4 2) = true) (hk : x.f0 = 49) (h : St false p w0 F (kZ (n + 1) x ++ r) w) (hn : ND w0 x A c) : Calls Tryz.prog 38 #[.pointer (some ⟨p,0,none⟩),val x A c] w (nY false p w0 F r (.tuple #[]) w):=by
 have CJ : (0 : Int) < (x.f4.length : Int):=by omega
 have CO : 0 < x.f4.length:=by omega
 have Ry : (1 : Int) < (x.f4.length : Int):=by omega
 have Rz : 1 < x.f4.length:=by omega
 have q2a : (2 : Int) < (x.f4.length : Int):=by omega
 have q2b : 2 < x.f4.length:=by omega
 obtain ⟨ad,rfl⟩:=gY hn.C (show 0 < x.f4.length by omega);obtain ⟨A0,d0,hn0,hk0⟩:=zZ hn.C (show 0 < x.f4.length by omega);have qK:=ah.mk hn0;have jq:=ah.mk hk0;obtain ⟨A1,d1,hn1,hk1⟩:=Qu hn.C (show 1 < x.f4.length by omega);have pW:=ah.mk hn1;have jm:=ah.mk hk1;obtain ⟨A2,d2,hn2,hk2⟩:=kd2 hn.C (show 2 < x.f4.length by omega);have HN2:=ah.mk hn2;have AQ:=ah.mk hk2;have FX:=Yt hk 49 rfl
 have Ji:=Yf hk 50 rfl
 have KD:=Yf hk 52 rfl
 have Jy:=Yf hk 51 rfl
 have BM:=Yf hk 41 rfl
 have Cj:=Yf hk 42 rfl
 have KF:=Yf hk 45 rfl
 have EC:=Yf hk 47 rfl
 have g1 : decide ((2 : Int) < (x.f4.length : Int)) = true:=decide_eq_true (by omega);have g2 : decide (2 < x.f4.length) = true:=decide_eq_true (by omega);have tk1 : True:=trivial;have vN:=ah.mk (he _ (fH (show 0 < x.f4.length by omega)) hx0);have HX0:=ah.mk hx0;have HL1:=ah.mk (RY _ (fH (show 1 < x.f4.length by omega)) hx1);have HL2:=ah.mk (RY _ (fH (show 2 < x.f4.length by omega)) hx2);clear he RY hx0 hx1 hx2;have vC:=ah.mk hl;clear hl;rw [NR hk] at h;unfold NK at h;rw [if_pos (by have:=vC.out;omega)] at h;simp only [List.append_assoc] at h;have E:=PE.start h hn;clear h hn;obtain ⟨iC,iD,iE,iF,iG,iH⟩:=jq.out.at E.out.st.b;clear hn0 hk0;obtain ⟨k10,k11,k12,k13,k14,k15⟩:=jm.out.at E.out.st.b;clear hn1 hk1;obtain ⟨k20,k21,k22,k23,k24,k25⟩:=AQ.out.at E.out.st.b;clear hn2 hk2;have HKK:=ah.mk hk;clear hk;go_enter Tryz.func38,Tryz.ntmps38
 go_wp2_with (first
  | (go_at_call 54;(try clear c0 c1 c2 c3 c4 c5);(with_reducible first|refine PE.jI E ?_|refine PE.jS E ?_|refine PE.jW E ?_|refine PE.jE E ?_);intro w1 E c0 c1 c2 c3 c4 c5;(try ((try clear iC iD iE iF iG iH);obtain ⟨iC,iD,iE,iF,iG,iH⟩:=jq.out.at E.out.st.b));(try ((try clear k10 k11 k12 k13 k14 k15);obtain ⟨k10,k11,k12,k13,k14,k15⟩:=jm.out.at E.out.st.b));(try ((try clear k20 k21 k22 k23 k24 k25);obtain ⟨k20,k21,k22,k23,k24,k25⟩:=AQ.out.at E.out.st.b)))
  | (go_at_call 53;(try clear c0 c1 c2 c3 c4 c5);(with_reducible refine PE.call E E.out (fun st => Qx.all vN.out HX0.out st qK.out) (fun w1 E c0 c1 c2 c3 c4 c5 => ?_));(try ((try clear iC iD iE iF iG iH);obtain ⟨iC,iD,iE,iF,iG,iH⟩:=jq.out.at E.out.st.b));(try ((try clear k10 k11 k12 k13 k14 k15);obtain ⟨k10,k11,k12,k13,k14,k15⟩:=jm.out.at E.out.st.b));(try ((try clear k20 k21 k22 k23 k24 k25);obtain ⟨k20,k21,k22,k23,k24,k25⟩:=AQ.out.at E.out.st.b)))
  | (go_at_call 38;have t_:=tk1;clear t_ tk1;(try clear c0 c1 c2 c3 c4 c5);(refine PE.call E E.out (fun st => HL1.out.go st pW.out) (fun w1 E c0 c1 c2 c3 c4 c5 => ?_));(try ((try clear iC iD iE iF iG iH);obtain ⟨iC,iD,iE,iF,iG,iH⟩:=jq.out.at E.out.st.b));(try ((try clear k10 k11 k12 k13 k14 k15);obtain ⟨k10,k11,k12,k13,k14,k15⟩:=jm.out.at E.out.st.b));(try ((try clear k20 k21 k22 k23 k24 k25);obtain ⟨k20,k21,k22,k23,k24,k25⟩:=AQ.out.at E.out.st.b)))
  | (go_at_call 38;(try clear c0 c1 c2 c3 c4 c5);(with_reducible refine PE.call E E.out (fun st => HL2.out.go st HN2.out) (fun w1 E c0 c1 c2 c3 c4 c5 => ?_));(try ((try clear iC iD iE iF iG iH);obtain ⟨iC,iD,iE,iF,iG,iH⟩:=jq.out.at E.out.st.b));(try ((try clear k10 k11 k12 k13 k14 k15);obtain ⟨k10,k11,k12,k13,k14,k15⟩:=jm.out.at E.out.st.b));(try ((try clear k20 k21 k22 k23 k24 k25);obtain ⟨k20,k21,k22,k23,k24,k25⟩:=AQ.out.at E.out.st.b)))
  | fail)
 first|go_end0|go_ret|(refine bodyPost_ret (results_none rfl _ _ _) rfl ?_)
 exact ⟨rfl,E.out.st,E.out.fr⟩
theorem lC.k52 {p : Nat} {w0 w : World} {F r : List Int} {x : bn} {A : Option Addr} {c : Nat} {n : Nat} (K : KnP n) (hz : SizeOf.sizeOf x ≤ n) (hy : ji x = true) (hm : Tm x) (hk : x.f0 = 52) (h : St false p w0 F (kZ (n + 1) x ++ r) w) (hn : ND w0 x A c) : Calls Tryz.prog 38 #[.pointer (some ⟨p,0,none⟩),val x A c] w (nY false p w0 F r (.tuple #[]) w):=by
 have FX:=Yf hk 49 rfl
 have Ji:=Yf hk 50 rfl
 have KD:=Yt hk 52 rfl
 have Jy:=Yf hk 51 rfl
 have BM:=Yf hk 41 rfl
 have Cj:=Yf hk 42 rfl
 have KF:=Yf hk 45 rfl
 have EC:=Yf hk 47 rfl
 have HA:=ah.mk (And.intro K (And.intro hz (And.intro hk (And.intro hy hm))));clear K hz hy hm;rw [lnT_52 hk] at h;have E:=PE.start h hn;clear h hn;have HKK:=ah.mk hk;clear hk;go_enter Tryz.func38,Tryz.ntmps38
 go_wp2_with (first
  | (go_at_call 55;(try clear c0 c1 c2 c3 c4 c5);(with_reducible refine PE.call E E.out (fun st => forP.all HA.out.1 HA.out.2.1 HA.out.2.2.1 HA.out.2.2.2.1 HA.out.2.2.2.2 st E.out.k) (fun w1 E c0 c1 c2 c3 c4 c5 => ?_)))
  | fail)
 first|go_end0|go_ret|(refine bodyPost_ret (results_none rfl _ _ _) rfl ?_)
 exact ⟨rfl,E.out.st,E.out.fr⟩
structure KT (w : World) (ad : Addr) (i : Nat) (y : bn) (A : Option Addr) (c : Nat) : Prop where
 h : w.cell? ⟨ad.block,ad.off + 6 + i * 6,none⟩ = some (.int .i64 y.f0) ∧ w.cell? ⟨ad.block,ad.off + 6 + i * 6 + 1,none⟩ = some (.string y.f1) ∧ w.cell? ⟨ad.block,ad.off + 6 + i * 6 + 2,none⟩ = some (.int .u32 y.f2) ∧ w.cell? ⟨ad.block,ad.off + 6 + i * 6 + 3,none⟩ = some (.bool y.f3) ∧ w.cell? ⟨ad.block,ad.off + 6 + i * 6 + 4,none⟩ = some (.slice A y.f4.length c) ∧ w.cell? ⟨ad.block,ad.off + 6 + i * 6 + 5,none⟩ = some (.int .i64 y.f5)
theorem KT.at {w0 w : World} {ad : Addr} {i : Nat} {y : bn} {A : Option Addr} {c : Nat} (k : KT w0 ad i y A c) (h : Below w0.heap.size w0 w) : w.cell? ⟨ad.block,ad.off + 6 + i * 6,none⟩ = some (.int .i64 y.f0) ∧ w.cell? ⟨ad.block,ad.off + 6 + i * 6 + 1,none⟩ = some (.string y.f1) ∧ w.cell? ⟨ad.block,ad.off + 6 + i * 6 + 2,none⟩ = some (.int .u32 y.f2) ∧ w.cell? ⟨ad.block,ad.off + 6 + i * 6 + 3,none⟩ = some (.bool y.f3) ∧ w.cell? ⟨ad.block,ad.off + 6 + i * 6 + 4,none⟩ = some (.slice A y.f4.length c) ∧ w.cell? ⟨ad.block,ad.off + 6 + i * 6 + 5,none⟩ = some (.int .i64 y.f5):=by
 obtain ⟨k0,k1,k2,k3,k4,k5⟩:=k.h;exact ⟨bf h k0,bf h k1,bf h k2,bf h k3,bf h k4,bf h k5⟩
theorem kt_at {w : World} {ad : Addr} {n : Nat} {xs : List bn} (h : Kd.C k25 w (some ad) n xs) (i : Nat) (hi : i + 1 < n) : ∃ A' c',ND w (nd xs (i + 1)) A' c' ∧ KT w ad i (nd xs (i + 1)) A' c' := by
 obtain ⟨ad1,A',c',e,hn,k⟩:=jo h (i + 1) hi;obtain rfl:=Option.some.inj e;rw [show ad.add ((i + 1) * 6) = ⟨ad.block,ad.off + 6 + i * 6,none⟩ from by
  unfold Addr.add;rw [if_neg (by omega),show (i + 1) * 6 = 6 + i * 6 by omega,Nat.add_assoc]] at k
 exact ⟨A',c',hn,⟨k⟩⟩
theorem vr_at {e : bn → List Int} {b : Bool} {xs : List bn} {i : Nat} (hi : i < xs.length) : NI e b (xs.drop i) = (if b = true then [] else bytesOf ⟨#[44,32]⟩) ++ (oM e (nd xs i) ++ NI e false (xs.drop (i + 1))):=by
 rw [zY xs hi];rfl
theorem vr_end {e : bn → List Int} {b : Bool} {xs : List bn} {i : Nat} (hi : ¬ i < xs.length) : NI e b (xs.drop i) = []:=by
 rw [List.drop_eq_nil_of_le (by omega)];rfl
theorem lC.k42 {n : Nat} {p : Nat} {w0 w : World} {F r : List Int} {x : bn} {A : Option Addr} {c : Nat} (K : KnP n) (hz : SizeOf.sizeOf x ≤ n) (hk : x.f0 = 42) (hy : ji x = true) (hm : Tm x) (h : St false p w0 F (kZ (n + 1) x ++ r) w) (hn : ND w0 x A c) : Calls Tryz.prog 38 #[.pointer (some ⟨p,0,none⟩),val x A c] w (nY false p w0 F r (.tuple #[]) w):=by
 obtain ⟨hl,hv⟩:=de_42 hy hk;have HV:=ah.mk (show ∀ y ∈ x.f4.drop 1,vaB y = true ∧ Tm y ∧ SizeOf.sizeOf y ≤ n from fun y hy => ⟨hv y hy,hm.kid (List.mem_of_mem_drop hy),by have:=gu (List.mem_of_mem_drop hy);omega⟩);have HKN_:=ah.mk K;rw [lnT_42 hk] at h;unfold RG at h;simp only [List.append_assoc] at h;have HDL:=ah.mk (show (x.f4.drop 1).length = x.f4.length - 1 from List.length_drop);have HYS:=ah.mk (show ∀ i,nd x.f4 (i + 1) = nd (x.f4.drop 1) i from fun i => (qC x.f4 i).symm);generalize x.f4.drop 1 = ys at h HV HDL HYS;obtain ⟨ad,rfl⟩:=gY hn.C (show 0 < x.f4.length by omega);obtain ⟨A0,d0,hn0,hk0⟩:=zZ hn.C (show 0 < x.f4.length by omega);have qK:=ah.mk hn0;have jq:=ah.mk hk0;have FX:=Yf hk 49 rfl
 have Ji:=Yf hk 50 rfl
 have KD:=Yf hk 52 rfl
 have Jy:=Yf hk 51 rfl
 have BM:=Yf hk 41 rfl
 have Cj:=Yt hk 42 rfl
 have KF:=Yf hk 45 rfl
 have EC:=Yf hk 47 rfl
 obtain ⟨cq,rfl⟩ : ∃ k,c = k + 2:=⟨c - 2,by have:=hn.le;omega⟩
 have CJ : (0 : Int) < (x.f4.length : Int):=by omega
 have CO : 0 < x.f4.length:=by omega
 have q0c : 1 ≤ x.f4.length:=by omega
 have vC:=ah.mk hl;have HMX:=ah.mk hn.C.2.1;have E:=PE.start h hn;clear h hn;obtain ⟨iC,iD,iE,iF,iG,iH⟩:=jq.out.at E.out.st.b;clear hn0 hk0 hl hy hm K hz hv;have HKK:=ah.mk hk;clear hk;go_enter Tryz.func38,Tryz.ntmps38
 go_wp2_with (first
  | (go_at_call 54;(try clear c0 c1 c2 c3 c4 c5);(with_reducible first|refine PE.jI E ?_|refine PE.jS E ?_|refine PE.jW E ?_|refine PE.jE E ?_);intro w1 E c0 c1 c2 c3 c4 c5;(try ((try clear iC iD iE iF iG iH);obtain ⟨iC,iD,iE,iF,iG,iH⟩:=jq.out.at E.out.st.b)))
  | fail)
 try clear c0 c1 c2 c3 c4 c5
 try clear iC iD iE iF iG iH
 go_loopg [102] ys.length (fun kq v w' => ∃ i : Nat,v = .int .i64 i ∧ ah (i + kq = ys.length) ∧ ah (PE false p w.heap.size w0 x (some ad) (cq + 2) F (NI (iy n) (i == 0) (ys.drop i) ++ (bytesOf ⟨#[59]⟩ ++ (bytesOf ⟨#[10]⟩ ++ r))) w w'))
 case atStart => exact ⟨0,rfl,⟨by omega⟩,E⟩
 case round =>
  obtain ⟨i,rfl,HI,EN⟩:=hrel;by_cases hi : i < ys.length
  · have qg:=ah.mk hi;have vM:=ah.mk (fH hi);have hi' : i < x.f4.length - 1:=by rw [← HDL.out];exact hi
    have EP : decide (i < x.f4.length - 1) = true:=decide_eq_true hi';have e1 : decide ((i : Int) < ((x.f4.length - 1 : Nat) : Int)) = true:=decide_eq_true (by omega);have p1 : (0 : Int) ≤ (i : Int):=by omega
    have q1 : (i : Int) < ((x.f4.length - 1 : Nat) : Int):=by omega
    have w3 : wrap64 ((i : Int) + 1) = (i : Int) + 1:=by have:=HMX.out;unfold wrap64;omega
    have w4 : IntKind.i64.wrap ((i : Int) + 1) = (i : Int) + 1:=(bW _).trans w3;obtain ⟨A',c',hn,hkn⟩:=kt_at EN.out.k.C i (by have:=HDL.out;omega);rw [HYS.out i] at hn hkn;have HN:=ah.mk hn;have Je:=ah.mk hkn;obtain ⟨k0,k1,k2,k3,k4,k5⟩:=Je.out.at EN.out.st.b;have ST:=ah.mk EN.out.st;have HF:=ah.mk EN.out.frr;rw [vr_at hi] at ST;(try simp only [List.append_assoc] at ST);clear hn hkn;by_cases h0 : i = 0
    · have g1 : decide ((0 : Int) < (i : Int)) = false:=decide_eq_false (by omega);have g2 : decide (0 < i) = false:=decide_eq_false (by omega);rw [if_pos (beq_iff_eq.2 h0),List.nil_append] at ST;have H0:=ah.mk h0;clear h0 hi hi';go_wp2_with (first
       | (with_reducible refine iK rfl rfl rfl ?_;rintro g wa hg hz hB;have uY:=ah.mk hB;have HZ:=ah.mk hz;have qR:=ah.mk hg;clear hg hz hB)
       | (refine iU rfl rfl rfl (x:=nd ys i) (A:=A') (c:=c') rfl rfl HZ.out ?_;rintro wb hN hB;have E:=PE.box ST.out HF.out (uY.out.trans (hB.mono (Nat.le_of_eq qR.out.symm))) (Nat.le_of_eq qR.out.symm) hN HN.out;(try clear k0 k1 k2 k3 k4 k5);obtain ⟨c0,c1,c2,c3,c4,c5⟩:=E.out.cells;clear hN hB)
       | (go_at_call 57;(try clear c0 c1 c2 c3 c4 c5);(with_reducible refine PE.call E E.out (fun st => wG.all HKN_.out (HV.out _ vM.out).2.2 (HV.out _ vM.out).1 (HV.out _ vM.out).2.1 st E.out.k) (fun w1 E c0 c1 c2 c3 c4 c5 => ?_)))
       | fail)
      go_roundg (ys.length - (i + 1))
      case measure => have:=HI.out;have:=qg.out;omega
      case rel => exact ⟨i + 1,by (try simp only [w4,w3]);rfl,⟨by have:=HI.out;have:=qg.out;omega⟩,⟨EN.out.back E.out⟩⟩
    · have g1 : decide ((0 : Int) < (i : Int)) = true:=decide_eq_true (by omega);have g2 : decide (0 < i) = true:=decide_eq_true (by omega);rw [if_neg (by simpa using h0)] at ST;have H0:=ah.mk h0;clear h0 hi hi';go_wp2_with (first
       | (with_reducible refine iK rfl rfl rfl ?_;rintro g wa hg hz hB;have uY:=ah.mk hB;have HZ:=ah.mk hz;have qR:=ah.mk hg;clear hg hz hB)
       | (refine iU rfl rfl rfl (x:=nd ys i) (A:=A') (c:=c') rfl rfl HZ.out ?_;rintro wb hN hB;have E:=PE.box ST.out HF.out (uY.out.trans (hB.mono (Nat.le_of_eq qR.out.symm))) (Nat.le_of_eq qR.out.symm) hN HN.out;(try clear k0 k1 k2 k3 k4 k5);obtain ⟨c0,c1,c2,c3,c4,c5⟩:=E.out.cells;clear hN hB)
       | (go_at_call 54;(try clear c0 c1 c2 c3 c4 c5);(with_reducible first|refine PE.jI E ?_|refine PE.jS E ?_|refine PE.jW E ?_|refine PE.jE E ?_);intro w1 E c0 c1 c2 c3 c4 c5)
       | (go_at_call 57;(try clear c0 c1 c2 c3 c4 c5);(with_reducible refine PE.call E E.out (fun st => wG.all HKN_.out (HV.out _ vM.out).2.2 (HV.out _ vM.out).1 (HV.out _ vM.out).2.1 st E.out.k) (fun w1 E c0 c1 c2 c3 c4 c5 => ?_)))
       | fail)
      go_roundg (ys.length - (i + 1))
      case measure => have:=HI.out;have:=qg.out;omega
      case rel => exact ⟨i + 1,by (try simp only [w4,w3]);rfl,⟨by have:=HI.out;have:=qg.out;omega⟩,⟨EN.out.back E.out⟩⟩
  · have hi' : ¬ i < x.f4.length - 1:=by rw [← HDL.out];exact hi
    have EP : decide (i < x.f4.length - 1) = false:=decide_eq_false hi';have e1 : decide ((i : Int) < ((x.f4.length - 1 : Nat) : Int)) = false:=decide_eq_false (by omega);rw [vr_end hi,List.nil_append] at EN;have E:=EN;obtain ⟨c0,c1,c2,c3,c4,c5⟩:=E.out.cells;clear hi hi' HI EN;go_wp2_with (first
     | (go_at_call 54;(try clear c0 c1 c2 c3 c4 c5);(with_reducible first|refine PE.jI E ?_|refine PE.jS E ?_|refine PE.jW E ?_|refine PE.jE E ?_);intro w1 E c0 c1 c2 c3 c4 c5)
     | fail)
    first|go_end0|(refine bodyPost_ret (results_none rfl _ _ _) rfl ?_)
    exact ⟨rfl,E.out.st,E.out.fr⟩
end Go.Proofs.YtboojhadfhpdeaaGreatDoor.Q
