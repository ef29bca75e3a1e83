/- A part of the proof, made small by a program: U1, U2, U3, U4, U5, U6, U7, U8, U9, U10, U11, U12, U13, U14, U15, U16, U17, V0. -/
import Derived.Laws.DeepStrings4
import Derived.Test.YtboojhadfhpdeaaGreatDoorVp16
import Derived.Test.YtboojhadfhpdeaaGreatDoorVp20
import Derived.Test.YtboojhadfhpdeaaGreatDoorVp22
import Derived.Test.YtboojhadfhpdeaaGreatDoorVp24
import Derived.Test.YtboojhadfhpdeaaGreatDoorVp25
set_option linter.unusedVariables false
set_option linter.unusedSimpArgs false
set_option maxHeartbeats 8000000
set_option maxRecDepth 100000
namespace Go.Proofs.YtboojhadfhpdeaaGreatDoor.Q
open Go.RowKit Go.Proofs.YtboojhadfhpdeaaGreatDoorW.PrintWords Go.Proofs.YtboojhadfhpdeaaGreatDoorW.PrintLast Go.Proofs.YtboojhadfhpdeaaGreatDoorW.PrintMore
open Go.Proofs.YtboojhadfhpdeaaGreatDoor.Lex
def yT (s : ByteArray) : Int:=if s.toList = ([124,124] : List UInt8) then 2 else if s.toList = ([38,38] : List UInt8) then 3 else if s.toList = ([124] : List UInt8) then 4 else if s.toList = ([94] : List UInt8) then 5 else if s.toList = ([38] : List UInt8) then 6 else if s.toList = ([61,61] : List UInt8) ∨ s.toList = ([33,61] : List UInt8) then 7 else if s.toList = ([60] : List UInt8) ∨ s.toList = ([62] : List UInt8) ∨ s.toList = ([60,61] : List UInt8) ∨ s.toList = ([62,61] : List UInt8) then 8 else if s.toList = ([60,60] : List UInt8) ∨ s.toList = ([62,62] : List UInt8) then 9 else if s.toList = ([43] : List UInt8) ∨ s.toList = ([45] : List UInt8) then 10 else 11
def lv (x : ak) : Int:=if x.f0 = 13 then 0 else if x.f0 = 12 then 1 else if x.f0 = 10 ∨ x.f0 = 11 then yT x.f1 else if x.f0 = 9 ∨ x.f0 = 14 ∨ x.f0 = 15 then 12 else 13
def oO (e : ak → List Int) (y : ak) (k : Int) : List Int:=if lv y < k then bytesOf ⟨#[40]⟩ ++ (e y ++ bytesOf ⟨#[41]⟩) else e y
def GZ (e : ak → List Int) : Bool → List ak → List Int
 | _,[] => []
 | b,y :: ys => (if b = true then [] else bytesOf ⟨#[44,32]⟩) ++ (oO e y 0 ++ GZ e false ys)
abbrev hexS : ByteArray:=⟨#[48,49,50,51,52,53,54,55,56,57,97,98,99,100,101,102]⟩
def quoS (s : ByteArray) : ByteArray:=⟨(quote s.data.toList).toArray⟩
def ex1 (x : ak) : List Int:=bytesOf (MC x.f2) ++ (if x.f3 = true then bytesOf ⟨#[117]⟩ else [])
def ex2 (x : ak) : List Int:=bytesOf ⟨#[39,92,120]⟩ ++ (bytesOf (hexS.extract (x.f2 / 16).toNat ((x.f2 / 16).toNat + 1)) ++ (bytesOf (hexS.extract (x.f2 % 16).toNat ((x.f2 % 16).toNat + 1)) ++ bytesOf ⟨#[39]⟩))
def ex3 (x : ak) : List Int:=bytesOf (quoS x.f1)
def ex4 (x : ak) : List Int:=bytesOf x.f1
def ex5 (e : ak → List Int) (x : ak) : List Int:=oO e (nd x.f4 0) 13 ++ (bytesOf ⟨#[91]⟩ ++ (oO e (nd x.f4 1) 0 ++ bytesOf ⟨#[93]⟩))
def ex6 (e : ak → List Int) (x : ak) : List Int:=oO e (nd x.f4 0) 13 ++ (bytesOf ⟨#[46]⟩ ++ bytesOf x.f1)
def ex7 (e : ak → List Int) (x : ak) : List Int:=oO e (nd x.f4 0) 13 ++ (bytesOf ⟨#[45,62]⟩ ++ bytesOf x.f1)
def ex8 (e : ak → List Int) (x : ak) : List Int:=bytesOf x.f1 ++ (bytesOf ⟨#[40]⟩ ++ (GZ e true x.f4 ++ bytesOf ⟨#[41]⟩))
def ex9 (e : ak → List Int) (x : ak) : List Int:=bytesOf x.f1 ++ ((if (nd x.f4 0).f0 = 9 ∧ (nd x.f4 0).f1.toList = x.f1.toList then bytesOf ⟨#[32]⟩ else []) ++ oO e (nd x.f4 0) 12)
def Ep (e : ak → List Int) (x : ak) : List Int:=oO e (nd x.f4 0) (yT x.f1) ++ (bytesOf ⟨#[32]⟩ ++ (bytesOf x.f1 ++ (bytesOf ⟨#[32]⟩ ++ oO e (nd x.f4 1) (yT x.f1 + 1))))
def ex12 (e : ak → List Int) (x : ak) : List Int:=oO e (nd x.f4 0) 2 ++ (bytesOf ⟨#[32,63,32]⟩ ++ (oO e (nd x.f4 1) 0 ++ (bytesOf ⟨#[32,58,32]⟩ ++ oO e (nd x.f4 2) 1)))
def ex13 (e : ak → List Int) (x : ak) : List Int:=oO e (nd x.f4 0) 13 ++ (bytesOf ⟨#[32]⟩ ++ (bytesOf x.f1 ++ (bytesOf ⟨#[32]⟩ ++ oO e (nd x.f4 1) 0)))
def ex14 (e : ak → List Int) (x : ak) : List Int:=bytesOf ⟨#[40]⟩ ++ (bytesOf (nd x.f4 0).f1 ++ (bytesOf ⟨#[41]⟩ ++ oO e (nd x.f4 1) 12))
def Gy (e : ak → List Int) (x : ak) : List Int:=if (nd x.f4 0).f0 = 16 then bytesOf ⟨#[115,105,122,101,111,102,40]⟩ ++ (bytesOf (nd x.f4 0).f1 ++ bytesOf ⟨#[41]⟩) else if (nd x.f4 0).f0 = 14 then bytesOf ⟨#[115,105,122,101,111,102,32,40]⟩ ++ (e (nd x.f4 0) ++ bytesOf ⟨#[41]⟩) else bytesOf ⟨#[115,105,122,101,111,102,32]⟩ ++ oO e (nd x.f4 0) 12
def dX : Nat → ak → List Int
 | 0,_ => []
 | n + 1,x => if x.f0 = 1 then ex1 x else if x.f0 = 2 then ex2 x else if x.f0 = 3 then ex3 x else if x.f0 = 4 then ex4 x else if x.f0 = 5 then ex5 (dX n) x else if x.f0 = 6 then ex6 (dX n) x else if x.f0 = 7 then ex7 (dX n) x else if x.f0 = 8 then ex8 (dX n) x else if x.f0 = 9 then ex9 (dX n) x else if x.f0 = 10 ∨ x.f0 = 11 then Ep (dX n) x else if x.f0 = 12 then ex12 (dX n) x else if x.f0 = 13 then ex13 (dX n) x else if x.f0 = 14 then ex14 (dX n) x else if x.f0 = 15 then Gy (dX n) x else []
theorem Df {n : Nat} {x : ak} (h : x.f0 = 1) : dX (n + 1) x = ex1 x:=by unfold dX;simp [h]
theorem KX {n : Nat} {x : ak} (h : x.f0 = 2) : dX (n + 1) x = ex2 x:=by unfold dX;simp [h]
theorem KY {n : Nat} {x : ak} (h : x.f0 = 3) : dX (n + 1) x = ex3 x:=by unfold dX;simp [h]
theorem KZ {n : Nat} {x : ak} (h : x.f0 = 4) : dX (n + 1) x = ex4 x:=by unfold dX;simp [h]
theorem La {n : Nat} {x : ak} (h : x.f0 = 5) : dX (n + 1) x = ex5 (dX n) x:=by unfold dX;simp [h]
theorem Lc {n : Nat} {x : ak} (h : x.f0 = 6) : dX (n + 1) x = ex6 (dX n) x:=by unfold dX;simp [h]
theorem Ld {n : Nat} {x : ak} (h : x.f0 = 7) : dX (n + 1) x = ex7 (dX n) x:=by unfold dX;simp [h]
theorem Le {n : Nat} {x : ak} (h : x.f0 = 8) : dX (n + 1) x = ex8 (dX n) x:=by unfold dX;simp [h]
theorem AL {n : Nat} {x : ak} (h : x.f0 = 9) : dX (n + 1) x = ex9 (dX n) x:=by unfold dX;simp [h]
theorem Il {n : Nat} {x : ak} (h : x.f0 = 10) : dX (n + 1) x = Ep (dX n) x:=by unfold dX;simp [h]
theorem Io {n : Nat} {x : ak} (h : x.f0 = 11) : dX (n + 1) x = Ep (dX n) x:=by unfold dX;simp [h]
theorem Ip {n : Nat} {x : ak} (h : x.f0 = 12) : dX (n + 1) x = ex12 (dX n) x:=by unfold dX;simp [h]
theorem Iq {n : Nat} {x : ak} (h : x.f0 = 13) : dX (n + 1) x = ex13 (dX n) x:=by unfold dX;simp [h]
theorem Es {n : Nat} {x : ak} (h : x.f0 = 14) : dX (n + 1) x = ex14 (dX n) x:=by unfold dX;simp [h]
theorem yU {n : Nat} {x : ak} (h : x.f0 = 15) : dX (n + 1) x = Gy (dX n) x:=by unfold dX;simp [h]
theorem AO (w : Bs) (h0 : w.isEmpty = false) (hw : w.contains 32 = false) : ∀ vs : List Bs,(∀ v ∈ vs,v.contains 32 = false) → qK ([32] ++ w ++ [32]) (32 :: vs.flatMap fun v => v ++ [32]) = vs.any fun v => w == v
 | [],_ => Fz w h0 hw
 | v :: vs,h => by
  have:=AO w h0 hw vs fun v hv => h v (List.mem_cons_of_mem _ hv)
  rw [List.flatMap_cons,List.any_cons,← this,show (v ++ [32]) ++ (vs.flatMap fun v => v ++ [32]) = v ++ 32 :: (vs.flatMap fun v => v ++ [32]) from by simp];exact qL w v _ hw (h v List.mem_cons_self)
theorem Et {l s : ByteArray} (vs : List Bs) (hl : [32] ++ l.data.toList ++ [32] = 32 :: vs.flatMap fun v => v ++ [32]) (hv : (vs.all fun v => !v.contains 32) = true) (h : pq l s = true) : s.data.toList ∈ vs:=by
 unfold pq nP at h;rw [hl] at h;simp only [Bool.and_eq_true,Bool.not_eq_true'] at h;obtain ⟨⟨h0,h1⟩,h2⟩:=h;rw [AO _ h0 h1 vs (fun v h => by have:=List.all_eq_true.1 hv v h;simpa using this)] at h2;obtain ⟨v,hv,e⟩:=List.any_eq_true.1 h2;rw [beq_iff_eq.1 e];exact hv
theorem one_un {s : ByteArray} (h : pq ⟨#[45,32,126,32,33,32,38]⟩ s = true) : s.data.toList ∈ ([[45],[126],[33],[38]] : List Bs):=Et _ (by decide) (by decide) h
theorem one_bi {s : ByteArray} (h : pq ⟨#[42,32,47,32,37,32,43,32,45,32,60,60,32,62,62,32,60,32,62,32,60,61,32,62,61,32,61,61,32,33,61,32,38,32,94,32,124]⟩ s = true) : s.data.toList ∈ ([[42],[47],[37],[43],[45],[60,60],[62,62],[60],[62],[60,61],[62,61],[61,61],[33,61],[38],[94],[124]] : List Bs):=Et _ (by decide) (by decide) h
theorem one_lo {s : ByteArray} (h : pq ⟨#[38,38,32,124,124]⟩ s = true) : s.data.toList ∈ ([[38,38],[124,124]] : List Bs):=Et _ (by decide) (by decide) h
theorem ba_of {s : ByteArray} {l : Bs} (h : s.data.toList = l) : s = ⟨l.toArray⟩:=by rw [← h]
theorem Ir (s : ByteArray) : aA.f 9 s = some (yT s):=by
 unfold aA.f aA.j0 aA.j1 aA.j2 yT;by_cases h1 : s.toList = [124,124]
 · simp [h1]
 by_cases h2 : s.toList = [38,38]
 · simp [h2]
 by_cases h3 : s.toList = [124]
 · simp [h3]
 by_cases h4 : s.toList = [94]
 · simp [h4]
 by_cases h5 : s.toList = [38]
 · simp [h5]
 by_cases h6 : s.toList = [61,61]
 · simp [h6]
 by_cases h7 : s.toList = [33,61]
 · simp [h7]
 by_cases h8 : s.toList = [60]
 · simp [h8]
 by_cases h9 : s.toList = [62]
 · simp [h9]
 by_cases h10 : s.toList = [60,61]
 · simp [h10]
 by_cases h11 : s.toList = [62,61]
 · simp [h11]
 by_cases h12 : s.toList = [60,60]
 · simp [h12]
 by_cases h13 : s.toList = [62,62]
 · simp [h13]
 by_cases Ie : s.toList = [43]
 · simp [Ie]
 by_cases h15 : s.toList = [45]
 · simp [h15]
 simp [h1,h2,h3,h4,h5,h6,h7,h8,h9,h10,h11,h12,h13,Ie,h15]
theorem lv_ref (x : ak) : dB.f 10 x.f0 x.f1 x.f2 x.f3 x.f4 x.f5 = some (lv x):=by
 unfold dB.f dB.j0 lv;by_cases h1 : x.f0 = 13
 · simp [h1]
 by_cases h2 : x.f0 = 12
 · simp [h2]
 by_cases h3 : x.f0 = 10
 · simp [h3,Ir]
 by_cases h4 : x.f0 = 11
 · simp [h4,Ir]
 by_cases h5 : x.f0 = 9
 · simp [h5]
 by_cases h6 : x.f0 = 14
 · simp [h6]
 by_cases h7 : x.f0 = 15
 · simp [h7]
 simp [h1,h2,h3,h4,h5,h6,h7]
theorem dw {x : ak} (h : bJ x = true) : 1 ≤ x.f0 ∧ x.f0 ≤ 15 ∧ (x.f0 = 1 ∨ x.f3 = false) ∧ aV x = true ∧ ∀ y ∈ x.f4,bK y = true:=by
 unfold bJ at h;rw [Bool.and_eq_true] at h;obtain ⟨h1,h2⟩:=h;obtain ⟨h3,h4⟩:=(KL x).1 h1;rw [Ig h3 (by omega)] at h2;simp only [Bool.and_eq_true,Bool.or_eq_true,decide_eq_true_eq,Bool.not_eq_true',List.all_eq_true] at h2;exact ⟨h3,h4,h2.1.1,h2.1.2,h2.2⟩
theorem Lh {x : ak} (h : bJ x = true) (hk : x.f0 = 10 ∨ x.f0 = 11) : x.f1.data.toList ∈ ([[42],[47],[37],[43],[45],[60,60],[62,62],[60],[62],[60,61],[62,61],[61,61],[33,61],[38],[94],[124]] : List Bs) ∨ x.f1.data.toList ∈ ([[38,38],[124,124]] : List Bs):=by
 have h1:=(dw h).2.2.2.1;rcases hk with hk|hk
 · rw [show aV x = e10 x from by unfold aV;simp [hk]] at h1;unfold e10 at h1;simp only [Bool.and_eq_true] at h1;exact .inl (one_bi h1.1.2)
 · rw [show aV x = e11 x from by unfold aV;simp [hk]] at h1;unfold e11 at h1;simp only [Bool.and_eq_true] at h1;exact .inr (one_lo h1.1.2)
theorem Eu {s : ByteArray} (h : s.data.toList ∈ ([[42],[47],[37],[43],[45],[60,60],[62,62],[60],[62],[60,61],[62,61],[61,61],[33,61],[38],[94],[124]] : List Bs) ∨ s.data.toList ∈ ([[38,38],[124,124]] : List Bs)) : dW.f 20 s = some (yT s):=by
 simp only [List.mem_cons,List.not_mem_nil,or_false] at h;rcases h with (h|h|h|h|h|h|h|h|h|h|h|h|h|h|h|h)|(h|h) <;> rw [ba_of h] <;> kernel_rfl
theorem lv_ast {x : ak} (h : bJ x = true) : iJ.f 21 x.f0 x.f1 x.f2 x.f3 x.f4 x.f5 = some (lv x):=by
 unfold iJ.f iJ.j0 lv;by_cases h1 : x.f0 = 13
 · simp [h1]
 by_cases h2 : x.f0 = 12
 · simp [h2]
 by_cases h3 : x.f0 = 10
 · simp [h3,Eu (Lh h (.inl h3))]
 by_cases h4 : x.f0 = 11
 · simp [h4,Eu (Lh h (.inr h4))]
 by_cases h5 : x.f0 = 9
 · simp [h5]
 by_cases h6 : x.f0 = 14
 · simp [h6]
 by_cases h7 : x.f0 = 15
 · simp [h7]
 simp [h1,h2,h3,h4,h5,h6,h7]
theorem gG {x : ak} (h : ∀ y ∈ x.f4,bK y = true) {i : Nat} (hi : i < x.f4.length) : bK (nd x.f4 i) = true:=h _ (aQ hi)
theorem iW {x : ak} (h1 : gQ x = true) (h2 : bK x = true) : bJ x = true:=by unfold bJ;rw [h1,h2];rfl
theorem ex_5 {x : ak} (h : bJ x = true) (hk : x.f0 = 5) : x.f4.length = 2 ∧ bJ (nd x.f4 0) = true ∧ bJ (nd x.f4 1) = true:=by
 obtain ⟨_,_,_,h1,h2⟩:=dw h;rw [show aV x = e5 x from by unfold aV;simp [hk]] at h1;unfold e5 at h1;simp only [Bool.and_eq_true,gE,zM,xE,Ib,List.map_cons,List.map_nil,shape2,decide_eq_true_eq] at h1;exact ⟨h1.2.1,iW h1.2.2.1 (gG h2 (by omega)),iW h1.2.2.2 (gG h2 (by omega))⟩
theorem ex_6 {x : ak} (h : bJ x = true) (hk : x.f0 = 6) : x.f4.length = 1 ∧ bJ (nd x.f4 0) = true:=by
 obtain ⟨_,_,_,h1,h2⟩:=dw h;rw [show aV x = e6 x from by unfold aV;simp [hk]] at h1;unfold e6 at h1;simp only [Bool.and_eq_true,gE,zM,xE,Ib,List.map_cons,List.map_nil,tX,decide_eq_true_eq] at h1;exact ⟨h1.2.1,iW h1.2.2 (gG h2 (by omega))⟩
theorem ex_7 {x : ak} (h : bJ x = true) (hk : x.f0 = 7) : x.f4.length = 1 ∧ bJ (nd x.f4 0) = true:=by
 obtain ⟨_,_,_,h1,h2⟩:=dw h;rw [show aV x = e6 x from by unfold aV;simp [hk]] at h1;unfold e6 at h1;simp only [Bool.and_eq_true,gE,zM,xE,Ib,List.map_cons,List.map_nil,tX,decide_eq_true_eq] at h1;exact ⟨h1.2.1,iW h1.2.2 (gG h2 (by omega))⟩
theorem ex_9 {x : ak} (h : bJ x = true) (hk : x.f0 = 9) : x.f4.length = 1 ∧ bJ (nd x.f4 0) = true:=by
 obtain ⟨_,_,_,h1,h2⟩:=dw h;rw [show aV x = e9 x from by unfold aV;simp [hk]] at h1;unfold e9 at h1;simp only [Bool.and_eq_true,gE,zM,xE,Ib,List.map_cons,List.map_nil,tX,decide_eq_true_eq] at h1;exact ⟨h1.2.1,iW h1.2.2 (gG h2 (by omega))⟩
theorem ex_10 {x : ak} (h : bJ x = true) (hk : x.f0 = 10) : x.f4.length = 2 ∧ bJ (nd x.f4 0) = true ∧ bJ (nd x.f4 1) = true:=by
 obtain ⟨_,_,_,h1,h2⟩:=dw h;rw [show aV x = e10 x from by unfold aV;simp [hk]] at h1;unfold e10 at h1;simp only [Bool.and_eq_true,gE,zM,xE,Ib,List.map_cons,List.map_nil,shape2,decide_eq_true_eq] at h1;exact ⟨h1.2.1,iW h1.2.2.1 (gG h2 (by omega)),iW h1.2.2.2 (gG h2 (by omega))⟩
theorem ex_11 {x : ak} (h : bJ x = true) (hk : x.f0 = 11) : x.f4.length = 2 ∧ bJ (nd x.f4 0) = true ∧ bJ (nd x.f4 1) = true:=by
 obtain ⟨_,_,_,h1,h2⟩:=dw h;rw [show aV x = e11 x from by unfold aV;simp [hk]] at h1;unfold e11 at h1;simp only [Bool.and_eq_true,gE,zM,xE,Ib,List.map_cons,List.map_nil,shape2,decide_eq_true_eq] at h1;exact ⟨h1.2.1,iW h1.2.2.1 (gG h2 (by omega)),iW h1.2.2.2 (gG h2 (by omega))⟩
theorem ex_12 {x : ak} (h : bJ x = true) (hk : x.f0 = 12) : x.f4.length = 3 ∧ bJ (nd x.f4 0) = true ∧ bJ (nd x.f4 1) = true ∧ bJ (nd x.f4 2) = true:=by
 obtain ⟨_,_,_,h1,h2⟩:=dw h;rw [show aV x = e12 x from by unfold aV;simp [hk]] at h1;unfold e12 at h1;simp only [Bool.and_eq_true,gE,zM,xE,Ib,List.map_cons,List.map_nil,shape3,decide_eq_true_eq] at h1;exact ⟨h1.2.1,iW h1.2.2.1.1 (gG h2 (by omega)),iW h1.2.2.1.2 (gG h2 (by omega)),iW h1.2.2.2 (gG h2 (by omega))⟩
theorem ex_13 {x : ak} (h : bJ x = true) (hk : x.f0 = 13) : x.f4.length = 2 ∧ bJ (nd x.f4 0) = true ∧ bJ (nd x.f4 1) = true:=by
 obtain ⟨_,_,_,h1,h2⟩:=dw h;rw [show aV x = e13 x from by unfold aV;simp [hk]] at h1;unfold e13 at h1;simp only [Bool.and_eq_true,gE,zM,xE,Ib,List.map_cons,List.map_nil,shape2,decide_eq_true_eq] at h1;exact ⟨h1.2.1,iW (isP_E h1.2.2.1) (gG h2 (by omega)),iW h1.2.2.2 (gG h2 (by omega))⟩
theorem ex_8 {x : ak} (h : bJ x = true) (hk : x.f0 = 8) : ∀ y ∈ x.f4,bJ y = true:=by
 obtain ⟨_,_,_,h1,h2⟩:=dw h;rw [show aV x = e8 x from by unfold aV;simp [hk]] at h1;unfold e8 at h1;simp only [Bool.and_eq_true,List.all_eq_true] at h1;exact fun y hy => iW (h1.2 y hy) (h2 y hy)
theorem ex_14 {x : ak} (h : bJ x = true) (hk : x.f0 = 14) : x.f4.length = 2 ∧ bJ (nd x.f4 1) = true:=by
 obtain ⟨_,_,_,h1,h2⟩:=dw h;rw [show aV x = e14 x from by unfold aV;simp [hk]] at h1;unfold e14 at h1;simp only [Bool.and_eq_true,shape2,decide_eq_true_eq] at h1;exact ⟨h1.2.1,iW h1.2.2.2 (gG h2 (by omega))⟩
theorem AP {x : ak} (h : bJ x = true) (hk : x.f0 = 15) : x.f4.length = 1 ∧ ((nd x.f4 0).f0 = 16 ∨ bJ (nd x.f4 0) = true):=by
 obtain ⟨_,_,_,h1,h2⟩:=dw h;rw [show aV x = e15 x from by unfold aV;simp [hk]] at h1;unfold e15 at h1;simp only [Bool.and_eq_true,gT,List.map_cons,List.map_nil,tX,decide_eq_true_eq,Bool.or_eq_true] at h1;refine ⟨h1.2.1,?_⟩;rcases h1.2.2 with h3|h3
 · exact .inl h3
 · exact .inr (iW h3 (gG h2 (by omega)))
theorem ex_2 {x : ak} (h : bJ x = true) (hk : x.f0 = 2) : x.f2 < 256:=by
 have h1:=(dw h).2.2.2.1;rw [show aV x = e2 x from by unfold aV;simp [hk]] at h1;unfold e2 at h1;simp only [Bool.and_eq_true,decide_eq_true_eq] at h1;exact h1.1.2
def jF (n : Nat) (y : ak) : Prop:=∀ (p : Nat) (w0 w : World) (F r : List Int) (A : Option Addr) (c : Nat),St false p w0 F (dX n y ++ r) w → ND w0 y A c → Calls Tryz.prog 100 #[.pointer (some ⟨p,0,none⟩),val y A c] w (gW false p w0 F r (.tuple #[]) w)
theorem jF.go {n : Nat} {y : ak} {p : Nat} {w0 w : World} {F r : List Int} {A : Option Addr} {c : Nat} (h : jF n y) (st : St false p w0 F (dX n y ++ r) w) (hn : ND w0 y A c) : Calls Tryz.prog 100 #[.pointer (some ⟨p,0,none⟩),val y A c] w (gW false p w0 F r (.tuple #[]) w):=h p w0 w F r A c st hn
theorem wz.all {n : Nat} {k : Int} {p : Nat} {w0 w : World} {F r : List Int} {x : ak} {A : Option Addr} {c : Nat} (hk : jF n x) (hx : bJ x = true) (h : St false p w0 F (oO (dX n) x k ++ r) w) (hn : ND w0 x A c) : Calls Tryz.prog 85 #[.pointer (some ⟨p,0,none⟩),val x A c,.int .i64 k] w (gW false p w0 F r (.tuple #[]) w):=by
 have HK:=Am hk;have HL:=Am (lv_ast hx);clear hk hx;unfold oO at h;cases hlt : decide (lv x < k)
 · rw [if_neg (of_decide_eq_false hlt)] at h;have E:=PE.start h hn;clear h hn;go_enter Tryz.func85,Tryz.ntmps85
   go_wp2_with (first
    | (go_at_call 99;(try clear c0 c1 c2 c3 c4 c5);(with_reducible refine PE.still E E.out (iJ.calls 21 x.f0 x.f1 x.f2 x.f3 A c x.f4 x.f5 (lv x) _ E.out.kids E.out.k.le E.out.bH HL.out) (fun w1 E c0 c1 c2 c3 c4 c5 => ?_)))
    | (go_at_call 54;(try clear c0 c1 c2 c3 c4 c5);(with_reducible first|refine PE.ig E ?_|refine PE.iE E ?_|refine PE.iI E ?_|refine PE.gV E ?_);intro w1 E c0 c1 c2 c3 c4 c5)
    | (go_at_call 100;(try clear c0 c1 c2 c3 c4 c5);(with_reducible refine PE.call E E.out (fun st => HK.out.go st E.out.k) (fun w1 E c0 c1 c2 c3 c4 c5 => ?_)))
    | fail)
   first|go_end0|(refine bodyPost_ret (results_none rfl _ _ _) rfl ?_)
   exact ⟨rfl,E.out.st,E.out.fr⟩
 · rw [if_pos (of_decide_eq_true hlt)] at h;simp only [List.append_assoc] at h;have E:=PE.start h hn;clear h hn;go_enter Tryz.func85,Tryz.ntmps85
   go_wp2_with (first
    | (go_at_call 99;(try clear c0 c1 c2 c3 c4 c5);(with_reducible refine PE.still E E.out (iJ.calls 21 x.f0 x.f1 x.f2 x.f3 A c x.f4 x.f5 (lv x) _ E.out.kids E.out.k.le E.out.bH HL.out) (fun w1 E c0 c1 c2 c3 c4 c5 => ?_)))
    | (go_at_call 54;(try clear c0 c1 c2 c3 c4 c5);(with_reducible first|refine PE.ig E ?_|refine PE.iE E ?_|refine PE.iI E ?_|refine PE.gV E ?_);intro w1 E c0 c1 c2 c3 c4 c5)
    | (go_at_call 100;(try clear c0 c1 c2 c3 c4 c5);(with_reducible refine PE.call E E.out (fun st => HK.out.go st E.out.k) (fun w1 E c0 c1 c2 c3 c4 c5 => ?_)))
    | fail)
   first|go_end0|(refine bodyPost_ret (results_none rfl _ _ _) rfl ?_)
   exact ⟨rfl,E.out.st,E.out.fr⟩
theorem xW (xs : List ak) {i : Nat} (hi : i < xs.length) : xs.drop i = nd xs i :: xs.drop (i + 1):=by
 rw [List.drop_eq_getElem_cons hi];simp [nd,hi]
theorem ls_at {e : ak → List Int} {b : Bool} {xs : List ak} {i : Nat} (hi : i < xs.length) : GZ e b (xs.drop i) = (if b = true then [] else bytesOf ⟨#[44,32]⟩) ++ (oO e (nd xs i) 0 ++ GZ e false (xs.drop (i + 1))):=by
 rw [xW xs hi];rfl
theorem ls_end {e : ak → List Int} {b : Bool} {xs : List ak} {i : Nat} (hi : ¬ i < xs.length) : GZ e b (xs.drop i) = []:=by
 rw [List.drop_eq_nil_of_le (by omega)];rfl
structure KN (w : World) (a : Addr) (o : Nat) (y : ak) (A : Option Addr) (c : Nat) : Prop where
 h : w.cell? (a.add o) = some (.int .i64 y.f0) ∧ w.cell? ⟨(a.add o).block,(a.add o).off + 1,none⟩ = some (.string y.f1) ∧ w.cell? ⟨(a.add o).block,(a.add o).off + 2,none⟩ = some (.int .u32 y.f2) ∧ w.cell? ⟨(a.add o).block,(a.add o).off + 3,none⟩ = some (.bool y.f3) ∧ w.cell? ⟨(a.add o).block,(a.add o).off + 4,none⟩ = some (.slice A y.f4.length c) ∧ w.cell? ⟨(a.add o).block,(a.add o).off + 5,none⟩ = some (.int .i64 y.f5)
theorem KN.at {w0 w : World} {a : Addr} {o : Nat} {y : ak} {A : Option Addr} {c : Nat} (k : KN w0 a o y A c) (h : Below w0.heap.size w0 w) : w.cell? (a.add o) = some (.int .i64 y.f0) ∧ w.cell? ⟨(a.add o).block,(a.add o).off + 1,none⟩ = some (.string y.f1) ∧ w.cell? ⟨(a.add o).block,(a.add o).off + 2,none⟩ = some (.int .u32 y.f2) ∧ w.cell? ⟨(a.add o).block,(a.add o).off + 3,none⟩ = some (.bool y.f3) ∧ w.cell? ⟨(a.add o).block,(a.add o).off + 4,none⟩ = some (.slice A y.f4.length c) ∧ w.cell? ⟨(a.add o).block,(a.add o).off + 5,none⟩ = some (.int .i64 y.f5):=by
 obtain ⟨k0,k1,k2,k3,k4,k5⟩:=k.h;exact ⟨kC h k0,kC h k1,kC h k2,kC h k3,kC h k4,kC h k5⟩
theorem uX {w : World} {A : Option Addr} {n : Nat} {xs : List ak} (h : Kd.C k25 w A n xs) (i : Nat) (hi : i < n) : ∃ ad A' c',A = some ad ∧ ND w (nd xs i) A' c' ∧ KN w ad (i * 6) (nd xs i) A' c' := by
 obtain ⟨ad,A',c',e,hn,k⟩:=fG h i hi;exact ⟨ad,A',c',e,hn,⟨k⟩⟩
theorem PE.box {s : Bool} {p g : Nat} {w0 : World} {x : ak} {A : Option Addr} {c : Nat} {F r : List Int} {ws W W1 : World} (h : St s p w0 F r W) (hf : Fr p ws W) (hB : Below W.heap.size W W1) (hg : W.heap.size ≤ g) (hn : NB W1 g x A c) (hk : ND w0 x A c) : Ad (PE s p g w0 x A c F r ws W1) :=
 ⟨h.step hB,hn,fun e => by have:=h.lt;omega,hk,hf.trans (Fr.of_below hB)⟩
theorem listP.all {n : Nat} {xs : List ak} {p : Nat} {w0 w : World} {F r : List Int} {A : Option Addr} {c : Nat} (hk : ∀ y ∈ xs,jF n y) (hx : ∀ y ∈ xs,bJ y = true) (h : St false p w0 F (GZ (dX n) true xs ++ r) w) (hC : Kd.C k25 w0 A xs.length xs) : Calls Tryz.prog 86 #[.pointer (some ⟨p,0,none⟩),.slice A xs.length c] w (gW false p w0 F r (.tuple #[]) w):=by
 have HK:=Am hk;have HX:=Am hx;have HC:=Am hC;have ST:=Am h;have uI:=Am hC.2.1;clear hk hx h hC;go_enter Tryz.func86,Tryz.ntmps86
 go_wp2
 go_loopg [8] xs.length (fun kq v w' => ∃ i : Nat,v = .int .i64 i ∧ Ad (i + kq = xs.length) ∧ Ad (St false p w0 F (GZ (dX n) (i == 0) (xs.drop i) ++ r) w') ∧ Ad (Fr p w w'))
 case atStart => exact ⟨0,rfl,⟨by omega⟩,ST,⟨Fr.refl _ _⟩⟩
 case round =>
  obtain ⟨i,rfl,HI,ST,HF⟩:=hrel;by_cases hi : i < xs.length
  · have qp : decide (i < xs.length) = true:=decide_eq_true hi;have e1 : decide ((i : Int) < (xs.length : Int)) = true:=decide_eq_true (by omega);have p1 : (0 : Int) ≤ (i : Int):=by omega
    have q1 : (i : Int) < (xs.length : Int):=by omega
    have gZ:=Am hi;have jU:=Am (aQ hi);have w3 : wrap64 ((i : Int) + 1) = (i : Int) + 1:=by have:=uI.out;unfold wrap64;omega
    have w4 : IntKind.i64.wrap ((i : Int) + 1) = (i : Int) + 1:=(bY _).trans w3;obtain ⟨ad,A',c',rfl,hn,hkn⟩:=uX HC.out i hi;have HN:=Am hn;have oI:=Am hkn;obtain ⟨k0,k1,k2,k3,k4,k5⟩:=oI.out.at ST.out.b;have ST:=Am (show St false p w0 F (((if (i == 0) = true then [] else bytesOf ⟨#[44,32]⟩) ++ (oO (dX n) (nd xs i) 0 ++ GZ (dX n) false (xs.drop (i + 1)))) ++ r) _ from by rw [← ls_at hi];exact ST.out);simp only [List.append_assoc] at ST;by_cases h0 : i = 0
    · have g1 : decide ((0 : Int) < (i : Int)) = false:=decide_eq_false (by omega);have g2 : decide (0 < i) = false:=decide_eq_false (by omega);rw [if_pos (beq_iff_eq.2 h0),List.nil_append] at ST;have H0:=Am h0;clear hi hn hkn h0;go_wp2_with (first
       | (with_reducible refine dJ rfl rfl rfl ?_;rintro g wa hg hz hB;have mZ:=Am hB;have HZ:=Am hz;have kJ:=Am hg;clear hg hz hB)
       | (refine dL rfl rfl rfl (x:=nd xs i) (A:=A') (c:=c') rfl rfl HZ.out ?_;rintro wb hN hB;have E:=PE.box ST.out HF.out (mZ.out.trans (hB.mono (Nat.le_of_eq kJ.out.symm))) (Nat.le_of_eq kJ.out.symm) hN HN.out;(try clear k0 k1 k2 k3 k4 k5);obtain ⟨c0,c1,c2,c3,c4,c5⟩:=E.out.cells;clear hN hB)
       | (go_at_call 85;(try clear c0 c1 c2 c3 c4 c5);(with_reducible refine PE.call E E.out (fun st => wz.all (HK.out _ jU.out) (HX.out _ jU.out) st E.out.k) (fun w1 E c0 c1 c2 c3 c4 c5 => ?_)))
       | fail)
      go_roundg (xs.length - (i + 1))
      case measure => have:=HI.out;have:=gZ.out;omega
      case rel => exact ⟨i + 1,by (try simp only [w4,w3]);rfl,⟨by have:=HI.out;have:=gZ.out;omega⟩,⟨E.out.st⟩,⟨E.out.fr⟩⟩
    · have g1 : decide ((0 : Int) < (i : Int)) = true:=decide_eq_true (by omega);have g2 : decide (0 < i) = true:=decide_eq_true (by omega);rw [if_neg (by simpa using h0)] at ST;have H0:=Am h0;clear hi hn hkn h0;go_wp2_with (first
       | (with_reducible refine dJ rfl rfl rfl ?_;rintro g wa hg hz hB;have mZ:=Am hB;have HZ:=Am hz;have kJ:=Am hg;clear hg hz hB)
       | (refine dL rfl rfl rfl (x:=nd xs i) (A:=A') (c:=c') rfl rfl HZ.out ?_;rintro wb hN hB;have E:=PE.box ST.out HF.out (mZ.out.trans (hB.mono (Nat.le_of_eq kJ.out.symm))) (Nat.le_of_eq kJ.out.symm) hN HN.out;(try clear k0 k1 k2 k3 k4 k5);obtain ⟨c0,c1,c2,c3,c4,c5⟩:=E.out.cells;clear hN hB)
       | (go_at_call 54;(try clear c0 c1 c2 c3 c4 c5);(with_reducible first|refine PE.ig E ?_|refine PE.iE E ?_|refine PE.iI E ?_|refine PE.gV E ?_);intro w1 E c0 c1 c2 c3 c4 c5)
       | (go_at_call 85;(try clear c0 c1 c2 c3 c4 c5);(with_reducible refine PE.call E E.out (fun st => wz.all (HK.out _ jU.out) (HX.out _ jU.out) st E.out.k) (fun w1 E c0 c1 c2 c3 c4 c5 => ?_)))
       | fail)
      go_roundg (xs.length - (i + 1))
      case measure => have:=HI.out;have:=gZ.out;omega
      case rel => exact ⟨i + 1,by (try simp only [w4,w3]);rfl,⟨by have:=HI.out;have:=gZ.out;omega⟩,⟨E.out.st⟩,⟨E.out.fr⟩⟩
  · have qp : decide (i < xs.length) = false:=decide_eq_false hi;have e1 : decide ((i : Int) < (xs.length : Int)) = false:=decide_eq_false (by omega);have ST:=Am (show St false p w0 F ([] ++ r) _ from by rw [← ls_end (e:=dX n) (b:=i == 0) hi];exact ST.out);clear hi HI;go_wp2
    first|go_end0|(refine bodyPost_ret (results_none rfl _ _ _) rfl ?_)
    exact ⟨rfl,ST.out,HF.out⟩
structure KD0 (w : World) (ad : Addr) (y : ak) (A : Option Addr) (c : Nat) : Prop where
 h : w.cell? ad = some (.int .i64 y.f0) ∧ w.cell? ⟨ad.block,ad.off + 1,none⟩ = some (.string y.f1) ∧ w.cell? ⟨ad.block,ad.off + 2,none⟩ = some (.int .u32 y.f2) ∧ w.cell? ⟨ad.block,ad.off + 3,none⟩ = some (.bool y.f3) ∧ w.cell? ⟨ad.block,ad.off + 4,none⟩ = some (.slice A y.f4.length c) ∧ w.cell? ⟨ad.block,ad.off + 5,none⟩ = some (.int .i64 y.f5)
theorem KD0.at {w0 w : World} {ad : Addr} {y : ak} {A : Option Addr} {c : Nat} (k : KD0 w0 ad y A c) (h : Below w0.heap.size w0 w) : w.cell? ad = some (.int .i64 y.f0) ∧ w.cell? ⟨ad.block,ad.off + 1,none⟩ = some (.string y.f1) ∧ w.cell? ⟨ad.block,ad.off + 2,none⟩ = some (.int .u32 y.f2) ∧ w.cell? ⟨ad.block,ad.off + 3,none⟩ = some (.bool y.f3) ∧ w.cell? ⟨ad.block,ad.off + 4,none⟩ = some (.slice A y.f4.length c) ∧ w.cell? ⟨ad.block,ad.off + 5,none⟩ = some (.int .i64 y.f5):=by
 obtain ⟨k0,k1,k2,k3,k4,k5⟩:=k.h;exact ⟨kC h k0,kC h k1,kC h k2,kC h k3,kC h k4,kC h k5⟩
theorem ng {w : World} {ad : Addr} {n : Nat} {xs : List ak} (h : Kd.C k25 w (some ad) n xs) (hi : 0 < n) : ∃ A' c',ND w (nd xs 0) A' c' ∧ KD0 w ad (nd xs 0) A' c' := by
 obtain ⟨A',c',hn,k⟩:=oN h hi;exact ⟨A',c',hn,⟨k⟩⟩
structure KD1 (w : World) (ad : Addr) (y : ak) (A : Option Addr) (c : Nat) : Prop where
 h : w.cell? ⟨ad.block,ad.off + 6,none⟩ = some (.int .i64 y.f0) ∧ w.cell? ⟨ad.block,ad.off + 6 + 1,none⟩ = some (.string y.f1) ∧ w.cell? ⟨ad.block,ad.off + 6 + 2,none⟩ = some (.int .u32 y.f2) ∧ w.cell? ⟨ad.block,ad.off + 6 + 3,none⟩ = some (.bool y.f3) ∧ w.cell? ⟨ad.block,ad.off + 6 + 4,none⟩ = some (.slice A y.f4.length c) ∧ w.cell? ⟨ad.block,ad.off + 6 + 5,none⟩ = some (.int .i64 y.f5)
theorem KD1.at {w0 w : World} {ad : Addr} {y : ak} {A : Option Addr} {c : Nat} (k : KD1 w0 ad y A c) (h : Below w0.heap.size w0 w) : w.cell? ⟨ad.block,ad.off + 6,none⟩ = some (.int .i64 y.f0) ∧ w.cell? ⟨ad.block,ad.off + 6 + 1,none⟩ = some (.string y.f1) ∧ w.cell? ⟨ad.block,ad.off + 6 + 2,none⟩ = some (.int .u32 y.f2) ∧ w.cell? ⟨ad.block,ad.off + 6 + 3,none⟩ = some (.bool y.f3) ∧ w.cell? ⟨ad.block,ad.off + 6 + 4,none⟩ = some (.slice A y.f4.length c) ∧ w.cell? ⟨ad.block,ad.off + 6 + 5,none⟩ = some (.int .i64 y.f5):=by
 obtain ⟨k0,k1,k2,k3,k4,k5⟩:=k.h;exact ⟨kC h k0,kC h k1,kC h k2,kC h k3,kC h k4,kC h k5⟩
theorem yx {w : World} {ad : Addr} {n : Nat} {xs : List ak} (h : Kd.C k25 w (some ad) n xs) (hi : 1 < n) : ∃ A' c',ND w (nd xs 1) A' c' ∧ KD1 w ad (nd xs 1) A' c' := by
 obtain ⟨A',c',hn,k⟩:=vN h hi;exact ⟨A',c',hn,⟨k⟩⟩
structure KD2 (w : World) (ad : Addr) (y : ak) (A : Option Addr) (c : Nat) : Prop where
 h : w.cell? ⟨ad.block,ad.off + 12,none⟩ = some (.int .i64 y.f0) ∧ w.cell? ⟨ad.block,ad.off + 12 + 1,none⟩ = some (.string y.f1) ∧ w.cell? ⟨ad.block,ad.off + 12 + 2,none⟩ = some (.int .u32 y.f2) ∧ w.cell? ⟨ad.block,ad.off + 12 + 3,none⟩ = some (.bool y.f3) ∧ w.cell? ⟨ad.block,ad.off + 12 + 4,none⟩ = some (.slice A y.f4.length c) ∧ w.cell? ⟨ad.block,ad.off + 12 + 5,none⟩ = some (.int .i64 y.f5)
theorem KD2.at {w0 w : World} {ad : Addr} {y : ak} {A : Option Addr} {c : Nat} (k : KD2 w0 ad y A c) (h : Below w0.heap.size w0 w) : w.cell? ⟨ad.block,ad.off + 12,none⟩ = some (.int .i64 y.f0) ∧ w.cell? ⟨ad.block,ad.off + 12 + 1,none⟩ = some (.string y.f1) ∧ w.cell? ⟨ad.block,ad.off + 12 + 2,none⟩ = some (.int .u32 y.f2) ∧ w.cell? ⟨ad.block,ad.off + 12 + 3,none⟩ = some (.bool y.f3) ∧ w.cell? ⟨ad.block,ad.off + 12 + 4,none⟩ = some (.slice A y.f4.length c) ∧ w.cell? ⟨ad.block,ad.off + 12 + 5,none⟩ = some (.int .i64 y.f5):=by
 obtain ⟨k0,k1,k2,k3,k4,k5⟩:=k.h;exact ⟨kC h k0,kC h k1,kC h k2,kC h k3,kC h k4,kC h k5⟩
theorem kd2 {w : World} {ad : Addr} {n : Nat} {xs : List ak} (h : Kd.C k25 w (some ad) n xs) (hi : 2 < n) : ∃ A' c',ND w (nd xs 2) A' c' ∧ KD2 w ad (nd xs 2) A' c' := by
 obtain ⟨A',c',hn,k⟩:=Ee h hi;exact ⟨A',c',hn,⟨k⟩⟩
structure KD3 (w : World) (ad : Addr) (y : ak) (A : Option Addr) (c : Nat) : Prop where
 h : w.cell? ⟨ad.block,ad.off + 18,none⟩ = some (.int .i64 y.f0) ∧ w.cell? ⟨ad.block,ad.off + 18 + 1,none⟩ = some (.string y.f1) ∧ w.cell? ⟨ad.block,ad.off + 18 + 2,none⟩ = some (.int .u32 y.f2) ∧ w.cell? ⟨ad.block,ad.off + 18 + 3,none⟩ = some (.bool y.f3) ∧ w.cell? ⟨ad.block,ad.off + 18 + 4,none⟩ = some (.slice A y.f4.length c) ∧ w.cell? ⟨ad.block,ad.off + 18 + 5,none⟩ = some (.int .i64 y.f5)
theorem KD3.at {w0 w : World} {ad : Addr} {y : ak} {A : Option Addr} {c : Nat} (k : KD3 w0 ad y A c) (h : Below w0.heap.size w0 w) : w.cell? ⟨ad.block,ad.off + 18,none⟩ = some (.int .i64 y.f0) ∧ w.cell? ⟨ad.block,ad.off + 18 + 1,none⟩ = some (.string y.f1) ∧ w.cell? ⟨ad.block,ad.off + 18 + 2,none⟩ = some (.int .u32 y.f2) ∧ w.cell? ⟨ad.block,ad.off + 18 + 3,none⟩ = some (.bool y.f3) ∧ w.cell? ⟨ad.block,ad.off + 18 + 4,none⟩ = some (.slice A y.f4.length c) ∧ w.cell? ⟨ad.block,ad.off + 18 + 5,none⟩ = some (.int .i64 y.f5):=by
 obtain ⟨k0,k1,k2,k3,k4,k5⟩:=k.h;exact ⟨kC h k0,kC h k1,kC h k2,kC h k3,kC h k4,kC h k5⟩
theorem kd3 {w : World} {ad : Addr} {n : Nat} {xs : List ak} (h : Kd.C k25 w (some ad) n xs) (hi : 3 < n) : ∃ A' c',ND w (nd xs 3) A' c' ∧ KD3 w ad (nd xs 3) A' c' := by
 obtain ⟨A',c',hn,k⟩:=kid3 h hi;exact ⟨A',c',hn,⟨k⟩⟩
inductive Tm : ak → Prop
 | mk (x : ak) (h1 : gY x.f1) (h2 : 0 ≤ x.f2 ∧ x.f2 < 4294967296) (hk : ∀ y ∈ x.f4,Tm y) : Tm x
theorem Tm.str {x : ak} (h : Tm x) : gY x.f1:=by cases h;assumption
theorem Tm.num {x : ak} (h : Tm x) : 0 ≤ x.f2 ∧ x.f2 < 4294967296:=by cases h;assumption
theorem Tm.kid {x y : ak} (h : Tm x) (hy : y ∈ x.f4) : Tm y:=by
 cases h with
 | mk _ _ _ hk => exact hk y hy
theorem QuoteP.all {s : ByteArray} (hs : gY s) (w : World) : Calls Tryz.prog 126 #[.string s] w fun e w' => e = .returned (.string (quoS s)) ∧ Below w.heap.size w w' := by
 obtain ⟨k,hk⟩:=(MW s hs).rounds;refine (oz.calls k s _ w hk).mono ?_;rintro e w' ⟨rfl,h⟩;exact ⟨rfl,by first|exact h|exact h.below⟩
theorem fU.k4 {p : Nat} {w0 w : World} {F r : List Int} {x : ak} {A : Option Addr} {c : Nat} {n : Nat} (hk : x.f0 = 4) (h : St false p w0 F (dX (n + 1) x ++ r) w) (hn : ND w0 x A c) : Calls Tryz.prog 115 #[.pointer (some ⟨p,0,none⟩),val x A c] w (gW false p w0 F r (.bool true) w):=by
 have b1:=Yf hk 1 rfl
 have b2:=Yf hk 2 rfl
 have b3:=Yf hk 3 rfl
 have b4:=Yt hk 4 rfl
 have b16:=Yf hk 16 rfl
 have b5:=Yf hk 5 rfl
 have b6:=Yf hk 6 rfl
 have b7:=Yf hk 7 rfl
 have b8:=Yf hk 8 rfl
 rw [KZ hk] at h;unfold ex4 at h;(try simp only [List.append_assoc] at h);have E:=PE.start h hn;clear h hn;have HKK:=Am hk;clear hk;go_enter Tryz.func115,Tryz.ntmps115
 go_wp2_with (first
  | (go_at_call 54;(try clear c0 c1 c2 c3 c4 c5);(with_reducible first|refine PE.ig E ?_|refine PE.iE E ?_|refine PE.iI E ?_|refine PE.gV E ?_);intro w1 E c0 c1 c2 c3 c4 c5)
  | fail)
 first|go_end0|go_ret|(refine bodyPost_ret (results_none rfl _ _ _) rfl ?_)
 exact ⟨rfl,E.out.st,E.out.fr⟩
theorem fU.k3 {p : Nat} {w0 w : World} {F r : List Int} {x : ak} {A : Option Addr} {c : Nat} {n : Nat} (hs : gY x.f1) (hk : x.f0 = 3) (h : St false p w0 F (dX (n + 1) x ++ r) w) (hn : ND w0 x A c) : Calls Tryz.prog 115 #[.pointer (some ⟨p,0,none⟩),val x A c] w (gW false p w0 F r (.bool true) w):=by
 have b1:=Yf hk 1 rfl
 have b2:=Yf hk 2 rfl
 have b3:=Yt hk 3 rfl
 have b4:=Yf hk 4 rfl
 have b16:=Yf hk 16 rfl
 have b5:=Yf hk 5 rfl
 have b6:=Yf hk 6 rfl
 have b7:=Yf hk 7 rfl
 have b8:=Yf hk 8 rfl
 have HS:=Am hs;clear hs;rw [KY hk] at h;unfold ex3 at h;(try simp only [List.append_assoc] at h);have E:=PE.start h hn;clear h hn;have HKK:=Am hk;clear hk;go_enter Tryz.func115,Tryz.ntmps115
 go_wp2_with (first
  | (go_at_call 54;(try clear c0 c1 c2 c3 c4 c5);(with_reducible first|refine PE.ig E ?_|refine PE.iE E ?_|refine PE.iI E ?_|refine PE.gV E ?_);intro w1 E c0 c1 c2 c3 c4 c5)
  | (go_at_call 126;(try clear c0 c1 c2 c3 c4 c5);(with_reducible refine PE.still E E.out (QuoteP.all HS.out _) (fun w1 E c0 c1 c2 c3 c4 c5 => ?_)))
  | fail)
 first|go_end0|go_ret|(refine bodyPost_ret (results_none rfl _ _ _) rfl ?_)
 exact ⟨rfl,E.out.st,E.out.fr⟩
theorem fU.k5 {p : Nat} {w0 w : World} {F r : List Int} {x : ak} {A : Option Addr} {c : Nat} {n : Nat} (hx : bJ x = true) (he : ∀ y ∈ x.f4,bJ y = true → jF n y) (hk : x.f0 = 5) (h : St false p w0 F (dX (n + 1) x ++ r) w) (hn : ND w0 x A c) : Calls Tryz.prog 115 #[.pointer (some ⟨p,0,none⟩),val x A c] w (gW false p w0 F r (.bool true) w):=by
 obtain ⟨hl,hx0,hx1⟩:=ex_5 hx hk;have q1 : (1 : Int) < (x.f4.length : Int):=by omega
 have q0 : (0 : Int) < (x.f4.length : Int):=by omega
 have q2 : 0 < x.f4.length:=by omega
 have q3 : 1 < x.f4.length:=by omega
 obtain ⟨ad,rfl⟩:=aT hn.C (show 0 < x.f4.length by omega);obtain ⟨A0,d0,hn0,hk0⟩:=ng hn.C (show 0 < x.f4.length by omega);have gJ:=Am hn0;have dD:=Am hk0;obtain ⟨A1,d1,hn1,hk1⟩:=yx hn.C (show 1 < x.f4.length by omega);have iO:=Am hn1;have dN:=Am hk1;have b1:=Yf hk 1 rfl
 have b2:=Yf hk 2 rfl
 have b3:=Yf hk 3 rfl
 have b4:=Yf hk 4 rfl
 have b16:=Yf hk 16 rfl
 have b5:=Yt hk 5 rfl
 have b6:=Yf hk 6 rfl
 have b7:=Yf hk 7 rfl
 have b8:=Yf hk 8 rfl
 have jZ:=Am (he _ (aQ (show 0 < x.f4.length by omega)) hx0);have qA:=Am (he _ (aQ (show 1 < x.f4.length by omega)) hx1);have HX0:=Am hx0;have BG:=Am hx1;clear he hx hx0 hx1;have jY:=Am hl;clear hl;rw [La hk] at h;unfold ex5 at h;(try simp only [List.append_assoc] at h);have E:=PE.start h hn;clear h hn;obtain ⟨bP,bQ,bT,bU,bV,bW⟩:=dD.out.at E.out.st.b;clear hn0 hk0;obtain ⟨k10,k11,k12,k13,k14,k15⟩:=dN.out.at E.out.st.b;clear hn1 hk1;have HKK:=Am hk;clear hk;go_enter Tryz.func115,Tryz.ntmps115
 go_wp2_with (first
  | (go_at_call 54;(try clear c0 c1 c2 c3 c4 c5);(with_reducible first|refine PE.ig E ?_|refine PE.iE E ?_|refine PE.iI E ?_|refine PE.gV E ?_);intro w1 E c0 c1 c2 c3 c4 c5;(try ((try clear bP bQ bT bU bV bW);obtain ⟨bP,bQ,bT,bU,bV,bW⟩:=dD.out.at E.out.st.b));(try ((try clear k10 k11 k12 k13 k14 k15);obtain ⟨k10,k11,k12,k13,k14,k15⟩:=dN.out.at E.out.st.b)))
  | (go_at_call 85;(try clear c0 c1 c2 c3 c4 c5);(with_reducible refine PE.call E E.out (fun st => wz.all jZ.out HX0.out st gJ.out) (fun w1 E c0 c1 c2 c3 c4 c5 => ?_));(try ((try clear bP bQ bT bU bV bW);obtain ⟨bP,bQ,bT,bU,bV,bW⟩:=dD.out.at E.out.st.b));(try ((try clear k10 k11 k12 k13 k14 k15);obtain ⟨k10,k11,k12,k13,k14,k15⟩:=dN.out.at E.out.st.b)))
  | (go_at_call 85;(try clear c0 c1 c2 c3 c4 c5);(with_reducible refine PE.call E E.out (fun st => wz.all qA.out BG.out st iO.out) (fun w1 E c0 c1 c2 c3 c4 c5 => ?_));(try ((try clear bP bQ bT bU bV bW);obtain ⟨bP,bQ,bT,bU,bV,bW⟩:=dD.out.at E.out.st.b));(try ((try clear k10 k11 k12 k13 k14 k15);obtain ⟨k10,k11,k12,k13,k14,k15⟩:=dN.out.at E.out.st.b)))
  | fail)
 first|go_end0|go_ret|(refine bodyPost_ret (results_none rfl _ _ _) rfl ?_)
 exact ⟨rfl,E.out.st,E.out.fr⟩
theorem fU.k6 {p : Nat} {w0 w : World} {F r : List Int} {x : ak} {A : Option Addr} {c : Nat} {n : Nat} (hx : bJ x = true) (he : ∀ y ∈ x.f4,bJ y = true → jF n y) (hk : x.f0 = 6) (h : St false p w0 F (dX (n + 1) x ++ r) w) (hn : ND w0 x A c) : Calls Tryz.prog 115 #[.pointer (some ⟨p,0,none⟩),val x A c] w (gW false p w0 F r (.bool true) w):=by
 obtain ⟨hl,hx0⟩:=ex_6 hx hk;have q0 : (0 : Int) < (x.f4.length : Int):=by omega
 have q2 : 0 < x.f4.length:=by omega
 obtain ⟨ad,rfl⟩:=aT hn.C (show 0 < x.f4.length by omega);obtain ⟨A0,d0,hn0,hk0⟩:=ng hn.C (show 0 < x.f4.length by omega);have gJ:=Am hn0;have dD:=Am hk0;have b1:=Yf hk 1 rfl
 have b2:=Yf hk 2 rfl
 have b3:=Yf hk 3 rfl
 have b4:=Yf hk 4 rfl
 have b16:=Yf hk 16 rfl
 have b5:=Yf hk 5 rfl
 have b6:=Yt hk 6 rfl
 have b7:=Yf hk 7 rfl
 have b8:=Yf hk 8 rfl
 have jZ:=Am (he _ (aQ (show 0 < x.f4.length by omega)) hx0);have HX0:=Am hx0;clear he hx hx0;have jY:=Am hl;clear hl;rw [Lc hk] at h;unfold ex6 at h;(try simp only [List.append_assoc] at h);have E:=PE.start h hn;clear h hn;obtain ⟨bP,bQ,bT,bU,bV,bW⟩:=dD.out.at E.out.st.b;clear hn0 hk0;have HKK:=Am hk;clear hk;go_enter Tryz.func115,Tryz.ntmps115
 go_wp2_with (first
  | (go_at_call 54;(try clear c0 c1 c2 c3 c4 c5);(with_reducible first|refine PE.ig E ?_|refine PE.iE E ?_|refine PE.iI E ?_|refine PE.gV E ?_);intro w1 E c0 c1 c2 c3 c4 c5;(try ((try clear bP bQ bT bU bV bW);obtain ⟨bP,bQ,bT,bU,bV,bW⟩:=dD.out.at E.out.st.b)))
  | (go_at_call 85;(try clear c0 c1 c2 c3 c4 c5);(with_reducible refine PE.call E E.out (fun st => wz.all jZ.out HX0.out st gJ.out) (fun w1 E c0 c1 c2 c3 c4 c5 => ?_));(try ((try clear bP bQ bT bU bV bW);obtain ⟨bP,bQ,bT,bU,bV,bW⟩:=dD.out.at E.out.st.b)))
  | fail)
 first|go_end0|go_ret|(refine bodyPost_ret (results_none rfl _ _ _) rfl ?_)
 exact ⟨rfl,E.out.st,E.out.fr⟩
theorem fU.k7 {p : Nat} {w0 w : World} {F r : List Int} {x : ak} {A : Option Addr} {c : Nat} {n : Nat} (hx : bJ x = true) (he : ∀ y ∈ x.f4,bJ y = true → jF n y) (hk : x.f0 = 7) (h : St false p w0 F (dX (n + 1) x ++ r) w) (hn : ND w0 x A c) : Calls Tryz.prog 115 #[.pointer (some ⟨p,0,none⟩),val x A c] w (gW false p w0 F r (.bool true) w):=by
 obtain ⟨hl,hx0⟩:=ex_7 hx hk;have q0 : (0 : Int) < (x.f4.length : Int):=by omega
 have q2 : 0 < x.f4.length:=by omega
 obtain ⟨ad,rfl⟩:=aT hn.C (show 0 < x.f4.length by omega);obtain ⟨A0,d0,hn0,hk0⟩:=ng hn.C (show 0 < x.f4.length by omega);have gJ:=Am hn0;have dD:=Am hk0;have b1:=Yf hk 1 rfl
 have b2:=Yf hk 2 rfl
 have b3:=Yf hk 3 rfl
 have b4:=Yf hk 4 rfl
 have b16:=Yf hk 16 rfl
 have b5:=Yf hk 5 rfl
 have b6:=Yf hk 6 rfl
 have b7:=Yt hk 7 rfl
 have b8:=Yf hk 8 rfl
 have jZ:=Am (he _ (aQ (show 0 < x.f4.length by omega)) hx0);have HX0:=Am hx0;clear he hx hx0;have jY:=Am hl;clear hl;rw [Ld hk] at h;unfold ex7 at h;(try simp only [List.append_assoc] at h);have E:=PE.start h hn;clear h hn;obtain ⟨bP,bQ,bT,bU,bV,bW⟩:=dD.out.at E.out.st.b;clear hn0 hk0;have HKK:=Am hk;clear hk;go_enter Tryz.func115,Tryz.ntmps115
 go_wp2_with (first
  | (go_at_call 54;(try clear c0 c1 c2 c3 c4 c5);(with_reducible first|refine PE.ig E ?_|refine PE.iE E ?_|refine PE.iI E ?_|refine PE.gV E ?_);intro w1 E c0 c1 c2 c3 c4 c5;(try ((try clear bP bQ bT bU bV bW);obtain ⟨bP,bQ,bT,bU,bV,bW⟩:=dD.out.at E.out.st.b)))
  | (go_at_call 85;(try clear c0 c1 c2 c3 c4 c5);(with_reducible refine PE.call E E.out (fun st => wz.all jZ.out HX0.out st gJ.out) (fun w1 E c0 c1 c2 c3 c4 c5 => ?_));(try ((try clear bP bQ bT bU bV bW);obtain ⟨bP,bQ,bT,bU,bV,bW⟩:=dD.out.at E.out.st.b)))
  | fail)
 first|go_end0|go_ret|(refine bodyPost_ret (results_none rfl _ _ _) rfl ?_)
 exact ⟨rfl,E.out.st,E.out.fr⟩
theorem fU.k8 {p : Nat} {w0 w : World} {F r : List Int} {x : ak} {A : Option Addr} {c : Nat} {n : Nat} (hx : bJ x = true) (he : ∀ y ∈ x.f4,bJ y = true → jF n y) (hk : x.f0 = 8) (h : St false p w0 F (dX (n + 1) x ++ r) w) (hn : ND w0 x A c) : Calls Tryz.prog 115 #[.pointer (some ⟨p,0,none⟩),val x A c] w (gW false p w0 F r (.bool true) w):=by
 have b1:=Yf hk 1 rfl
 have b2:=Yf hk 2 rfl
 have b3:=Yf hk 3 rfl
 have b4:=Yf hk 4 rfl
 have b16:=Yf hk 16 rfl
 have b5:=Yf hk 5 rfl
 have b6:=Yf hk 6 rfl
 have b7:=Yf hk 7 rfl
 have b8:=Yt hk 8 rfl
 have HE:=Am (fun y hy => he y hy (ex_8 hx hk y hy));have HX:=Am (ex_8 hx hk);clear he hx;rw [Le hk] at h;unfold ex8 at h;(try simp only [List.append_assoc] at h);have E:=PE.start h hn;clear h hn;have HKK:=Am hk;clear hk;go_enter Tryz.func115,Tryz.ntmps115
 go_wp2_with (first
  | (go_at_call 54;(try clear c0 c1 c2 c3 c4 c5);(with_reducible first|refine PE.ig E ?_|refine PE.iE E ?_|refine PE.iI E ?_|refine PE.gV E ?_);intro w1 E c0 c1 c2 c3 c4 c5)
  | (go_at_call 86;(try clear c0 c1 c2 c3 c4 c5);(with_reducible refine PE.call E E.out (fun st => listP.all HE.out HX.out st E.out.k.C) (fun w1 E c0 c1 c2 c3 c4 c5 => ?_)))
  | fail)
 first|go_end0|go_ret|(refine bodyPost_ret (results_none rfl _ _ _) rfl ?_)
 exact ⟨rfl,E.out.st,E.out.fr⟩
theorem fU.k1t {p : Nat} {w0 w : World} {F r : List Int} {x : ak} {A : Option Addr} {c : Nat} {n : Nat} (h2 : 0 ≤ x.f2 ∧ x.f2 < 4294967296) (h3 : x.f3 = true) (hk : x.f0 = 1) (h : St false p w0 F (dX (n + 1) x ++ r) w) (hn : ND w0 x A c) : Calls Tryz.prog 115 #[.pointer (some ⟨p,0,none⟩),val x A c] w (gW false p w0 F r (.bool true) w):=by
 have b1:=Yt hk 1 rfl
 have b2:=Yf hk 2 rfl
 have b3:=Yf hk 3 rfl
 have b4:=Yf hk 4 rfl
 have b16:=Yf hk 16 rfl
 have b5:=Yf hk 5 rfl
 have b6:=Yf hk 6 rfl
 have b7:=Yf hk 7 rfl
 have b8:=Yf hk 8 rfl
 have HF:=Am h2;have cu : x.f2 % 18446744073709551616 = x.f2:=by omega
 have H3:=Am h3;clear h3 h2;rw [Df hk] at h;unfold ex1 at h;rw [if_pos H3.out] at h;simp only [List.append_assoc,List.nil_append] at h;have E:=PE.start h hn;clear h hn;have HKK:=Am hk;clear hk;go_enter Tryz.func115,Tryz.ntmps115
 go_wp2_with (first
  | (go_at_call 54;(try clear c0 c1 c2 c3 c4 c5);(with_reducible first|refine PE.ig E ?_|refine PE.iE E ?_|refine PE.iI E ?_|refine PE.gV E ?_);intro w1 E c0 c1 c2 c3 c4 c5)
  | (go_at_call 125;(try clear c0 c1 c2 c3 c4 c5);(with_reducible refine PE.still E E.out (uD.all HF.out E.out.st.tab) (fun w1 E c0 c1 c2 c3 c4 c5 => ?_));(try have h3:=H3.out))
  | fail)
 first|go_end0|go_ret|(refine bodyPost_ret (results_none rfl _ _ _) rfl ?_)
 exact ⟨rfl,E.out.st,E.out.fr⟩
theorem fU.k1f {p : Nat} {w0 w : World} {F r : List Int} {x : ak} {A : Option Addr} {c : Nat} {n : Nat} (h2 : 0 ≤ x.f2 ∧ x.f2 < 4294967296) (h3 : x.f3 = false) (hk : x.f0 = 1) (h : St false p w0 F (dX (n + 1) x ++ r) w) (hn : ND w0 x A c) : Calls Tryz.prog 115 #[.pointer (some ⟨p,0,none⟩),val x A c] w (gW false p w0 F r (.bool true) w):=by
 have b1:=Yt hk 1 rfl
 have b2:=Yf hk 2 rfl
 have b3:=Yf hk 3 rfl
 have b4:=Yf hk 4 rfl
 have b16:=Yf hk 16 rfl
 have b5:=Yf hk 5 rfl
 have b6:=Yf hk 6 rfl
 have b7:=Yf hk 7 rfl
 have b8:=Yf hk 8 rfl
 have HF:=Am h2;have cu : x.f2 % 18446744073709551616 = x.f2:=by omega
 have H3:=Am h3;clear h3 h2;rw [Df hk] at h;unfold ex1 at h;rw [if_neg (by rw [H3.out];decide)] at h;simp only [List.append_assoc,List.nil_append] at h;have E:=PE.start h hn;clear h hn;have HKK:=Am hk;clear hk;go_enter Tryz.func115,Tryz.ntmps115
 go_wp2_with (first
  | (go_at_call 54;(try clear c0 c1 c2 c3 c4 c5);(with_reducible first|refine PE.ig E ?_|refine PE.iE E ?_|refine PE.iI E ?_|refine PE.gV E ?_);intro w1 E c0 c1 c2 c3 c4 c5)
  | (go_at_call 125;(try clear c0 c1 c2 c3 c4 c5);(with_reducible refine PE.still E E.out (uD.all HF.out E.out.st.tab) (fun w1 E c0 c1 c2 c3 c4 c5 => ?_));(try have h3:=H3.out))
  | fail)
 first|go_end0|go_ret|(refine bodyPost_ret (results_none rfl _ _ _) rfl ?_)
 exact ⟨rfl,E.out.st,E.out.fr⟩
theorem fU.no {p : Nat} {w0 w : World} {F r : List Int} {x : ak} {A : Option Addr} {c : Nat} (hk : 9 ≤ x.f0 ∧ x.f0 ≤ 15) (h : St false p w0 F r w) (hn : ND w0 x A c) : Calls Tryz.prog 115 #[.pointer (some ⟨p,0,none⟩),val x A c] w (gW false p w0 F r (.bool false) w):=by
 have b1 : (x.f0 == 1) = false:=beq_eq_false_iff_ne.2 (by omega);have b2 : (x.f0 == 2) = false:=beq_eq_false_iff_ne.2 (by omega);have b3 : (x.f0 == 3) = false:=beq_eq_false_iff_ne.2 (by omega);have b4 : (x.f0 == 4) = false:=beq_eq_false_iff_ne.2 (by omega);have b16 : (x.f0 == 16) = false:=beq_eq_false_iff_ne.2 (by omega);have b5 : (x.f0 == 5) = false:=beq_eq_false_iff_ne.2 (by omega);have b6 : (x.f0 == 6) = false:=beq_eq_false_iff_ne.2 (by omega);have b7 : (x.f0 == 7) = false:=beq_eq_false_iff_ne.2 (by omega);have b8 : (x.f0 == 8) = false:=beq_eq_false_iff_ne.2 (by omega);clear hk;have E:=PE.start h hn;clear h hn;go_enter Tryz.func115,Tryz.ntmps115
 go_wp2
 first|go_end0|go_ret|(refine bodyPost_ret (results_none rfl _ _ _) rfl ?_)
 exact ⟨rfl,E.out.st,E.out.fr⟩
theorem ni.leaf {t : List Int} {p : Nat} {w0 w : World} {F r : List Int} {x : ak} {A : Option Addr} {c : Nat} (hs : ∀ w1,St false p w0 F (t ++ r) w1 → Calls Tryz.prog 115 #[.pointer (some ⟨p,0,none⟩),val x A c] w1 (gW false p w0 F r (.bool true) w1)) (h : St false p w0 F (t ++ r) w) (hn : ND w0 x A c) : Calls Tryz.prog 100 #[.pointer (some ⟨p,0,none⟩),val x A c] w (gW false p w0 F r (.tuple #[]) w):=by
 have HS:=Am hs;clear hs;have E:=PE.start h hn;clear h hn;go_enter Tryz.func100,Tryz.ntmps100
 go_wp2_with (first
  | (go_at_call 115;(try clear c0 c1 c2 c3 c4 c5);(with_reducible refine PE.call E E.out (fun st => HS.out _ st) (fun w1 E c0 c1 c2 c3 c4 c5 => ?_)))
  | fail)
 first|go_end0|go_ret|(refine bodyPost_ret (results_none rfl _ _ _) rfl ?_)
 exact ⟨rfl,E.out.st,E.out.fr⟩
theorem PE.same {s : Bool} {p g : Nat} {w0 : World} {x : ak} {A : Option Addr} {c : Nat} {F r : List Int} {ws W : World} {W0 : World} {r0 : List Int} {v : Value} {f : FuncId} {args : Array Value} {Q : Ending → World → Prop} (E0 : Ad (PE s p g w0 x A c F r0 ws W0)) (E : PE s p g w0 x A c F r ws W) (h : St s p w0 F r W → Calls Tryz.prog f args W (gW s p w0 F r v W))
 (K : ∀ w1,Ad (PE s p g w0 x A c F r ws w1) → w1.cell? ⟨g,0,none⟩ = some (.int .i64 x.f0) → w1.cell? ⟨g,1,none⟩ = some (.string x.f1) → w1.cell? ⟨g,2,none⟩ = some (.int .u32 x.f2) → w1.cell? ⟨g,3,none⟩ = some (.bool x.f3) → w1.cell? ⟨g,4,none⟩ = some (.slice A x.f4.length c) → w1.cell? ⟨g,5,none⟩ = some (.int .i64 x.f5) → Q (.returned v) w1) : Calls Tryz.prog f args W Q :=
 PE.call (t:=[]) E0 E h K
theorem vU (s : ByteArray) : 2 ≤ yT s ∧ yT s ≤ 11:=by
 unfold yT
 repeat' split
 all_goals omega
theorem ni.k10 {p : Nat} {w0 w : World} {F r : List Int} {x : ak} {A : Option Addr} {c : Nat} {n : Nat} (hx : bJ x = true) (he : ∀ y ∈ x.f4,bJ y = true → jF n y) (hk : x.f0 = 10) (h : St false p w0 F (dX (n + 1) x ++ r) w) (hn : ND w0 x A c) : Calls Tryz.prog 100 #[.pointer (some ⟨p,0,none⟩),val x A c] w (gW false p w0 F r (.tuple #[]) w):=by
 obtain ⟨hl,hx0,hx1⟩:=ex_10 hx hk;have nR : (0 : Int) < (x.f4.length : Int):=by omega
 have nS : 0 < x.f4.length:=by omega
 have yV : (1 : Int) < (x.f4.length : Int):=by omega
 have yX : 1 < x.f4.length:=by omega
 obtain ⟨ad,rfl⟩:=aT hn.C (show 0 < x.f4.length by omega);obtain ⟨A0,d0,hn0,hk0⟩:=ng hn.C (show 0 < x.f4.length by omega);have gJ:=Am hn0;have dD:=Am hk0;obtain ⟨A1,d1,hn1,hk1⟩:=yx hn.C (show 1 < x.f4.length by omega);have iO:=Am hn1;have dN:=Am hk1;have b9:=Yf hk 9 rfl
 have b14:=Yf hk 14 rfl
 have b15:=Yf hk 15 rfl
 have b10:=Yt hk 10 rfl
 have b11:=Yf hk 11 rfl
 have b12:=Yf hk 12 rfl
 have b13:=Yf hk 13 rfl
 have HOP:=Am (Eu (Lh hx (.inl hk)));have ow : wrap64 (yT x.f1 + 1) = yT x.f1 + 1:=by have:=vU x.f1;unfold wrap64;omega
 have Ew:=Am (show 9 ≤ x.f0 ∧ x.f0 ≤ 15 by omega);have jZ:=Am (he _ (aQ (show 0 < x.f4.length by omega)) hx0);have HX0:=Am hx0;have qA:=Am (he _ (aQ (show 1 < x.f4.length by omega)) hx1);have BG:=Am hx1;clear he hx hx0 hx1;have jY:=Am hl;clear hl;rw [Il hk] at h;unfold Ep at h;simp only [List.append_assoc] at h;have E:=PE.start h hn;clear h hn;obtain ⟨bP,bQ,bT,bU,bV,bW⟩:=dD.out.at E.out.st.b;clear hn0 hk0;obtain ⟨k10,k11,k12,k13,k14,k15⟩:=dN.out.at E.out.st.b;clear hn1 hk1;have HKK:=Am hk;clear hk;go_enter Tryz.func100,Tryz.ntmps100
 go_wp2_with (first
  | (go_at_call 115;(try clear c0 c1 c2 c3 c4 c5);(with_reducible refine PE.same E E.out (fun st => fU.no Ew.out st E.out.k) (fun w1 E c0 c1 c2 c3 c4 c5 => ?_));(try ((try clear bP bQ bT bU bV bW);obtain ⟨bP,bQ,bT,bU,bV,bW⟩:=dD.out.at E.out.st.b));(try ((try clear k10 k11 k12 k13 k14 k15);obtain ⟨k10,k11,k12,k13,k14,k15⟩:=dN.out.at E.out.st.b)))
  | (go_at_call 114;(try clear c0 c1 c2 c3 c4 c5);(with_reducible refine PE.still E E.out (dW.calls 20 x.f1 (yT x.f1) _ E.out.bH HOP.out) (fun w1 E c0 c1 c2 c3 c4 c5 => ?_));(try ((try clear bP bQ bT bU bV bW);obtain ⟨bP,bQ,bT,bU,bV,bW⟩:=dD.out.at E.out.st.b));(try ((try clear k10 k11 k12 k13 k14 k15);obtain ⟨k10,k11,k12,k13,k14,k15⟩:=dN.out.at E.out.st.b)))
  | (go_at_call 54;(try clear c0 c1 c2 c3 c4 c5);(with_reducible first|refine PE.ig E ?_|refine PE.iE E ?_|refine PE.iI E ?_|refine PE.gV E ?_);intro w1 E c0 c1 c2 c3 c4 c5;(try ((try clear bP bQ bT bU bV bW);obtain ⟨bP,bQ,bT,bU,bV,bW⟩:=dD.out.at E.out.st.b));(try ((try clear k10 k11 k12 k13 k14 k15);obtain ⟨k10,k11,k12,k13,k14,k15⟩:=dN.out.at E.out.st.b)))
  | (go_at_call 85;(try clear c0 c1 c2 c3 c4 c5);(with_reducible refine PE.call E E.out (fun st => wz.all jZ.out HX0.out st gJ.out) (fun w1 E c0 c1 c2 c3 c4 c5 => ?_));(try ((try clear bP bQ bT bU bV bW);obtain ⟨bP,bQ,bT,bU,bV,bW⟩:=dD.out.at E.out.st.b));(try ((try clear k10 k11 k12 k13 k14 k15);obtain ⟨k10,k11,k12,k13,k14,k15⟩:=dN.out.at E.out.st.b)))
  | (go_at_call 85;(try clear c0 c1 c2 c3 c4 c5);(with_reducible refine PE.call E E.out (fun st => wz.all qA.out BG.out st iO.out) (fun w1 E c0 c1 c2 c3 c4 c5 => ?_));(try ((try clear bP bQ bT bU bV bW);obtain ⟨bP,bQ,bT,bU,bV,bW⟩:=dD.out.at E.out.st.b));(try ((try clear k10 k11 k12 k13 k14 k15);obtain ⟨k10,k11,k12,k13,k14,k15⟩:=dN.out.at E.out.st.b)))
  | fail)
 first|go_end0|go_ret|(refine bodyPost_ret (results_none rfl _ _ _) rfl ?_)
 exact ⟨rfl,E.out.st,E.out.fr⟩
theorem ni.k11 {p : Nat} {w0 w : World} {F r : List Int} {x : ak} {A : Option Addr} {c : Nat} {n : Nat} (hx : bJ x = true) (he : ∀ y ∈ x.f4,bJ y = true → jF n y) (hk : x.f0 = 11) (h : St false p w0 F (dX (n + 1) x ++ r) w) (hn : ND w0 x A c) : Calls Tryz.prog 100 #[.pointer (some ⟨p,0,none⟩),val x A c] w (gW false p w0 F r (.tuple #[]) w):=by
 obtain ⟨hl,hx0,hx1⟩:=ex_11 hx hk;have nR : (0 : Int) < (x.f4.length : Int):=by omega
 have nS : 0 < x.f4.length:=by omega
 have yV : (1 : Int) < (x.f4.length : Int):=by omega
 have yX : 1 < x.f4.length:=by omega
 obtain ⟨ad,rfl⟩:=aT hn.C (show 0 < x.f4.length by omega);obtain ⟨A0,d0,hn0,hk0⟩:=ng hn.C (show 0 < x.f4.length by omega);have gJ:=Am hn0;have dD:=Am hk0;obtain ⟨A1,d1,hn1,hk1⟩:=yx hn.C (show 1 < x.f4.length by omega);have iO:=Am hn1;have dN:=Am hk1;have b9:=Yf hk 9 rfl
 have b14:=Yf hk 14 rfl
 have b15:=Yf hk 15 rfl
 have b10:=Yf hk 10 rfl
 have b11:=Yt hk 11 rfl
 have b12:=Yf hk 12 rfl
 have b13:=Yf hk 13 rfl
 have HOP:=Am (Eu (Lh hx (.inr hk)));have ow : wrap64 (yT x.f1 + 1) = yT x.f1 + 1:=by have:=vU x.f1;unfold wrap64;omega
 have Ew:=Am (show 9 ≤ x.f0 ∧ x.f0 ≤ 15 by omega);have jZ:=Am (he _ (aQ (show 0 < x.f4.length by omega)) hx0);have HX0:=Am hx0;have qA:=Am (he _ (aQ (show 1 < x.f4.length by omega)) hx1);have BG:=Am hx1;clear he hx hx0 hx1;have jY:=Am hl;clear hl;rw [Io hk] at h;unfold Ep at h;simp only [List.append_assoc] at h;have E:=PE.start h hn;clear h hn;obtain ⟨bP,bQ,bT,bU,bV,bW⟩:=dD.out.at E.out.st.b;clear hn0 hk0;obtain ⟨k10,k11,k12,k13,k14,k15⟩:=dN.out.at E.out.st.b;clear hn1 hk1;have HKK:=Am hk;clear hk;go_enter Tryz.func100,Tryz.ntmps100
 go_wp2_with (first
  | (go_at_call 115;(try clear c0 c1 c2 c3 c4 c5);(with_reducible refine PE.same E E.out (fun st => fU.no Ew.out st E.out.k) (fun w1 E c0 c1 c2 c3 c4 c5 => ?_));(try ((try clear bP bQ bT bU bV bW);obtain ⟨bP,bQ,bT,bU,bV,bW⟩:=dD.out.at E.out.st.b));(try ((try clear k10 k11 k12 k13 k14 k15);obtain ⟨k10,k11,k12,k13,k14,k15⟩:=dN.out.at E.out.st.b)))
  | (go_at_call 114;(try clear c0 c1 c2 c3 c4 c5);(with_reducible refine PE.still E E.out (dW.calls 20 x.f1 (yT x.f1) _ E.out.bH HOP.out) (fun w1 E c0 c1 c2 c3 c4 c5 => ?_));(try ((try clear bP bQ bT bU bV bW);obtain ⟨bP,bQ,bT,bU,bV,bW⟩:=dD.out.at E.out.st.b));(try ((try clear k10 k11 k12 k13 k14 k15);obtain ⟨k10,k11,k12,k13,k14,k15⟩:=dN.out.at E.out.st.b)))
  | (go_at_call 54;(try clear c0 c1 c2 c3 c4 c5);(with_reducible first|refine PE.ig E ?_|refine PE.iE E ?_|refine PE.iI E ?_|refine PE.gV E ?_);intro w1 E c0 c1 c2 c3 c4 c5;(try ((try clear bP bQ bT bU bV bW);obtain ⟨bP,bQ,bT,bU,bV,bW⟩:=dD.out.at E.out.st.b));(try ((try clear k10 k11 k12 k13 k14 k15);obtain ⟨k10,k11,k12,k13,k14,k15⟩:=dN.out.at E.out.st.b)))
  | (go_at_call 85;(try clear c0 c1 c2 c3 c4 c5);(with_reducible refine PE.call E E.out (fun st => wz.all jZ.out HX0.out st gJ.out) (fun w1 E c0 c1 c2 c3 c4 c5 => ?_));(try ((try clear bP bQ bT bU bV bW);obtain ⟨bP,bQ,bT,bU,bV,bW⟩:=dD.out.at E.out.st.b));(try ((try clear k10 k11 k12 k13 k14 k15);obtain ⟨k10,k11,k12,k13,k14,k15⟩:=dN.out.at E.out.st.b)))
  | (go_at_call 85;(try clear c0 c1 c2 c3 c4 c5);(with_reducible refine PE.call E E.out (fun st => wz.all qA.out BG.out st iO.out) (fun w1 E c0 c1 c2 c3 c4 c5 => ?_));(try ((try clear bP bQ bT bU bV bW);obtain ⟨bP,bQ,bT,bU,bV,bW⟩:=dD.out.at E.out.st.b));(try ((try clear k10 k11 k12 k13 k14 k15);obtain ⟨k10,k11,k12,k13,k14,k15⟩:=dN.out.at E.out.st.b)))
  | fail)
 first|go_end0|go_ret|(refine bodyPost_ret (results_none rfl _ _ _) rfl ?_)
 exact ⟨rfl,E.out.st,E.out.fr⟩
theorem ni.k12 {p : Nat} {w0 w : World} {F r : List Int} {x : ak} {A : Option Addr} {c : Nat} {n : Nat} (hx : bJ x = true) (he : ∀ y ∈ x.f4,bJ y = true → jF n y) (hk : x.f0 = 12) (h : St false p w0 F (dX (n + 1) x ++ r) w) (hn : ND w0 x A c) : Calls Tryz.prog 100 #[.pointer (some ⟨p,0,none⟩),val x A c] w (gW false p w0 F r (.tuple #[]) w):=by
 obtain ⟨hl,hx0,hx1,hx2⟩:=ex_12 hx hk;have nR : (0 : Int) < (x.f4.length : Int):=by omega
 have nS : 0 < x.f4.length:=by omega
 have yV : (1 : Int) < (x.f4.length : Int):=by omega
 have yX : 1 < x.f4.length:=by omega
 have q2a : (2 : Int) < (x.f4.length : Int):=by omega
 have q2b : 2 < x.f4.length:=by omega
 obtain ⟨ad,rfl⟩:=aT hn.C (show 0 < x.f4.length by omega);obtain ⟨A0,d0,hn0,hk0⟩:=ng hn.C (show 0 < x.f4.length by omega);have gJ:=Am hn0;have dD:=Am hk0;obtain ⟨A1,d1,hn1,hk1⟩:=yx hn.C (show 1 < x.f4.length by omega);have iO:=Am hn1;have dN:=Am hk1;obtain ⟨A2,d2,hn2,hk2⟩:=kd2 hn.C (show 2 < x.f4.length by omega);have Bd:=Am hn2;have uz:=Am hk2;have b9:=Yf hk 9 rfl
 have b14:=Yf hk 14 rfl
 have b15:=Yf hk 15 rfl
 have b10:=Yf hk 10 rfl
 have b11:=Yf hk 11 rfl
 have b12:=Yt hk 12 rfl
 have b13:=Yf hk 13 rfl
 have Ew:=Am (show 9 ≤ x.f0 ∧ x.f0 ≤ 15 by omega);have jZ:=Am (he _ (aQ (show 0 < x.f4.length by omega)) hx0);have HX0:=Am hx0;have qA:=Am (he _ (aQ (show 1 < x.f4.length by omega)) hx1);have BG:=Am hx1;have HE2:=Am (he _ (aQ (show 2 < x.f4.length by omega)) hx2);have HX2:=Am hx2;clear he hx hx0 hx1 hx2;have jY:=Am hl;clear hl;rw [Ip hk] at h;unfold ex12 at h;simp only [List.append_assoc] at h;have E:=PE.start h hn;clear h hn;obtain ⟨bP,bQ,bT,bU,bV,bW⟩:=dD.out.at E.out.st.b;clear hn0 hk0;obtain ⟨k10,k11,k12,k13,k14,k15⟩:=dN.out.at E.out.st.b;clear hn1 hk1;obtain ⟨k20,k21,k22,k23,k24,k25⟩:=uz.out.at E.out.st.b;clear hn2 hk2;have HKK:=Am hk;clear hk;go_enter Tryz.func100,Tryz.ntmps100
 go_wp2_with (first
  | (go_at_call 115;(try clear c0 c1 c2 c3 c4 c5);(with_reducible refine PE.same E E.out (fun st => fU.no Ew.out st E.out.k) (fun w1 E c0 c1 c2 c3 c4 c5 => ?_));(try ((try clear bP bQ bT bU bV bW);obtain ⟨bP,bQ,bT,bU,bV,bW⟩:=dD.out.at E.out.st.b));(try ((try clear k10 k11 k12 k13 k14 k15);obtain ⟨k10,k11,k12,k13,k14,k15⟩:=dN.out.at E.out.st.b));(try ((try clear k20 k21 k22 k23 k24 k25);obtain ⟨k20,k21,k22,k23,k24,k25⟩:=uz.out.at E.out.st.b)))
  | (go_at_call 54;(try clear c0 c1 c2 c3 c4 c5);(with_reducible first|refine PE.ig E ?_|refine PE.iE E ?_|refine PE.iI E ?_|refine PE.gV E ?_);intro w1 E c0 c1 c2 c3 c4 c5;(try ((try clear bP bQ bT bU bV bW);obtain ⟨bP,bQ,bT,bU,bV,bW⟩:=dD.out.at E.out.st.b));(try ((try clear k10 k11 k12 k13 k14 k15);obtain ⟨k10,k11,k12,k13,k14,k15⟩:=dN.out.at E.out.st.b));(try ((try clear k20 k21 k22 k23 k24 k25);obtain ⟨k20,k21,k22,k23,k24,k25⟩:=uz.out.at E.out.st.b)))
  | (go_at_call 85;(try clear c0 c1 c2 c3 c4 c5);(with_reducible refine PE.call E E.out (fun st => wz.all jZ.out HX0.out st gJ.out) (fun w1 E c0 c1 c2 c3 c4 c5 => ?_));(try ((try clear bP bQ bT bU bV bW);obtain ⟨bP,bQ,bT,bU,bV,bW⟩:=dD.out.at E.out.st.b));(try ((try clear k10 k11 k12 k13 k14 k15);obtain ⟨k10,k11,k12,k13,k14,k15⟩:=dN.out.at E.out.st.b));(try ((try clear k20 k21 k22 k23 k24 k25);obtain ⟨k20,k21,k22,k23,k24,k25⟩:=uz.out.at E.out.st.b)))
  | (go_at_call 85;(try clear c0 c1 c2 c3 c4 c5);(with_reducible refine PE.call E E.out (fun st => wz.all qA.out BG.out st iO.out) (fun w1 E c0 c1 c2 c3 c4 c5 => ?_));(try ((try clear bP bQ bT bU bV bW);obtain ⟨bP,bQ,bT,bU,bV,bW⟩:=dD.out.at E.out.st.b));(try ((try clear k10 k11 k12 k13 k14 k15);obtain ⟨k10,k11,k12,k13,k14,k15⟩:=dN.out.at E.out.st.b));(try ((try clear k20 k21 k22 k23 k24 k25);obtain ⟨k20,k21,k22,k23,k24,k25⟩:=uz.out.at E.out.st.b)))
  | (go_at_call 85;(try clear c0 c1 c2 c3 c4 c5);(with_reducible refine PE.call E E.out (fun st => wz.all HE2.out HX2.out st Bd.out) (fun w1 E c0 c1 c2 c3 c4 c5 => ?_));(try ((try clear bP bQ bT bU bV bW);obtain ⟨bP,bQ,bT,bU,bV,bW⟩:=dD.out.at E.out.st.b));(try ((try clear k10 k11 k12 k13 k14 k15);obtain ⟨k10,k11,k12,k13,k14,k15⟩:=dN.out.at E.out.st.b));(try ((try clear k20 k21 k22 k23 k24 k25);obtain ⟨k20,k21,k22,k23,k24,k25⟩:=uz.out.at E.out.st.b)))
  | fail)
 first|go_end0|go_ret|(refine bodyPost_ret (results_none rfl _ _ _) rfl ?_)
 exact ⟨rfl,E.out.st,E.out.fr⟩
theorem ni.k13 {p : Nat} {w0 w : World} {F r : List Int} {x : ak} {A : Option Addr} {c : Nat} {n : Nat} (hx : bJ x = true) (he : ∀ y ∈ x.f4,bJ y = true → jF n y) (hk : x.f0 = 13) (h : St false p w0 F (dX (n + 1) x ++ r) w) (hn : ND w0 x A c) : Calls Tryz.prog 100 #[.pointer (some ⟨p,0,none⟩),val x A c] w (gW false p w0 F r (.tuple #[]) w):=by
 obtain ⟨hl,hx0,hx1⟩:=ex_13 hx hk;have nR : (0 : Int) < (x.f4.length : Int):=by omega
 have nS : 0 < x.f4.length:=by omega
 have yV : (1 : Int) < (x.f4.length : Int):=by omega
 have yX : 1 < x.f4.length:=by omega
 obtain ⟨ad,rfl⟩:=aT hn.C (show 0 < x.f4.length by omega);obtain ⟨A0,d0,hn0,hk0⟩:=ng hn.C (show 0 < x.f4.length by omega);have gJ:=Am hn0;have dD:=Am hk0;obtain ⟨A1,d1,hn1,hk1⟩:=yx hn.C (show 1 < x.f4.length by omega);have iO:=Am hn1;have dN:=Am hk1;have b9:=Yf hk 9 rfl
 have b14:=Yf hk 14 rfl
 have b15:=Yf hk 15 rfl
 have b10:=Yf hk 10 rfl
 have b11:=Yf hk 11 rfl
 have b12:=Yf hk 12 rfl
 have b13:=Yt hk 13 rfl
 have Ew:=Am (show 9 ≤ x.f0 ∧ x.f0 ≤ 15 by omega);have jZ:=Am (he _ (aQ (show 0 < x.f4.length by omega)) hx0);have HX0:=Am hx0;have qA:=Am (he _ (aQ (show 1 < x.f4.length by omega)) hx1);have BG:=Am hx1;clear he hx hx0 hx1;have jY:=Am hl;clear hl;rw [Iq hk] at h;unfold ex13 at h;simp only [List.append_assoc] at h;have E:=PE.start h hn;clear h hn;obtain ⟨bP,bQ,bT,bU,bV,bW⟩:=dD.out.at E.out.st.b;clear hn0 hk0;obtain ⟨k10,k11,k12,k13,k14,k15⟩:=dN.out.at E.out.st.b;clear hn1 hk1;have HKK:=Am hk;clear hk;go_enter Tryz.func100,Tryz.ntmps100
 go_wp2_with (first
  | (go_at_call 115;(try clear c0 c1 c2 c3 c4 c5);(with_reducible refine PE.same E E.out (fun st => fU.no Ew.out st E.out.k) (fun w1 E c0 c1 c2 c3 c4 c5 => ?_));(try ((try clear bP bQ bT bU bV bW);obtain ⟨bP,bQ,bT,bU,bV,bW⟩:=dD.out.at E.out.st.b));(try ((try clear k10 k11 k12 k13 k14 k15);obtain ⟨k10,k11,k12,k13,k14,k15⟩:=dN.out.at E.out.st.b)))
  | (go_at_call 54;(try clear c0 c1 c2 c3 c4 c5);(with_reducible first|refine PE.ig E ?_|refine PE.iE E ?_|refine PE.iI E ?_|refine PE.gV E ?_);intro w1 E c0 c1 c2 c3 c4 c5;(try ((try clear bP bQ bT bU bV bW);obtain ⟨bP,bQ,bT,bU,bV,bW⟩:=dD.out.at E.out.st.b));(try ((try clear k10 k11 k12 k13 k14 k15);obtain ⟨k10,k11,k12,k13,k14,k15⟩:=dN.out.at E.out.st.b)))
  | (go_at_call 85;(try clear c0 c1 c2 c3 c4 c5);(with_reducible refine PE.call E E.out (fun st => wz.all jZ.out HX0.out st gJ.out) (fun w1 E c0 c1 c2 c3 c4 c5 => ?_));(try ((try clear bP bQ bT bU bV bW);obtain ⟨bP,bQ,bT,bU,bV,bW⟩:=dD.out.at E.out.st.b));(try ((try clear k10 k11 k12 k13 k14 k15);obtain ⟨k10,k11,k12,k13,k14,k15⟩:=dN.out.at E.out.st.b)))
  | (go_at_call 85;(try clear c0 c1 c2 c3 c4 c5);(with_reducible refine PE.call E E.out (fun st => wz.all qA.out BG.out st iO.out) (fun w1 E c0 c1 c2 c3 c4 c5 => ?_));(try ((try clear bP bQ bT bU bV bW);obtain ⟨bP,bQ,bT,bU,bV,bW⟩:=dD.out.at E.out.st.b));(try ((try clear k10 k11 k12 k13 k14 k15);obtain ⟨k10,k11,k12,k13,k14,k15⟩:=dN.out.at E.out.st.b)))
  | fail)
 first|go_end0|go_ret|(refine bodyPost_ret (results_none rfl _ _ _) rfl ?_)
 exact ⟨rfl,E.out.st,E.out.fr⟩
theorem ni.k14 {p : Nat} {w0 w : World} {F r : List Int} {x : ak} {A : Option Addr} {c : Nat} {n : Nat} (hx : bJ x = true) (he : ∀ y ∈ x.f4,bJ y = true → jF n y) (hk : x.f0 = 14) (h : St false p w0 F (dX (n + 1) x ++ r) w) (hn : ND w0 x A c) : Calls Tryz.prog 100 #[.pointer (some ⟨p,0,none⟩),val x A c] w (gW false p w0 F r (.tuple #[]) w):=by
 obtain ⟨hl,hx1⟩:=ex_14 hx hk;have nR : (0 : Int) < (x.f4.length : Int):=by omega
 have nS : 0 < x.f4.length:=by omega
 have yV : (1 : Int) < (x.f4.length : Int):=by omega
 have yX : 1 < x.f4.length:=by omega
 obtain ⟨ad,rfl⟩:=aT hn.C (show 0 < x.f4.length by omega);obtain ⟨A0,d0,hn0,hk0⟩:=ng hn.C (show 0 < x.f4.length by omega);have gJ:=Am hn0;have dD:=Am hk0;obtain ⟨A1,d1,hn1,hk1⟩:=yx hn.C (show 1 < x.f4.length by omega);have iO:=Am hn1;have dN:=Am hk1;have b9:=Yf hk 9 rfl
 have b14:=Yt hk 14 rfl
 have b15:=Yf hk 15 rfl
 have b10:=Yf hk 10 rfl
 have b11:=Yf hk 11 rfl
 have b12:=Yf hk 12 rfl
 have b13:=Yf hk 13 rfl
 have Ew:=Am (show 9 ≤ x.f0 ∧ x.f0 ≤ 15 by omega);have qA:=Am (he _ (aQ (show 1 < x.f4.length by omega)) hx1);have BG:=Am hx1;clear he hx hx1;have jY:=Am hl;clear hl;rw [Es hk] at h;unfold ex14 at h;simp only [List.append_assoc] at h;have E:=PE.start h hn;clear h hn;obtain ⟨bP,bQ,bT,bU,bV,bW⟩:=dD.out.at E.out.st.b;clear hn0 hk0;obtain ⟨k10,k11,k12,k13,k14,k15⟩:=dN.out.at E.out.st.b;clear hn1 hk1;have HKK:=Am hk;clear hk;go_enter Tryz.func100,Tryz.ntmps100
 go_wp2_with (first
  | (go_at_call 115;(try clear c0 c1 c2 c3 c4 c5);(with_reducible refine PE.same E E.out (fun st => fU.no Ew.out st E.out.k) (fun w1 E c0 c1 c2 c3 c4 c5 => ?_));(try ((try clear bP bQ bT bU bV bW);obtain ⟨bP,bQ,bT,bU,bV,bW⟩:=dD.out.at E.out.st.b));(try ((try clear k10 k11 k12 k13 k14 k15);obtain ⟨k10,k11,k12,k13,k14,k15⟩:=dN.out.at E.out.st.b)))
  | (go_at_call 54;(try clear c0 c1 c2 c3 c4 c5);(with_reducible first|refine PE.ig E ?_|refine PE.iE E ?_|refine PE.iI E ?_|refine PE.gV E ?_);intro w1 E c0 c1 c2 c3 c4 c5;(try ((try clear bP bQ bT bU bV bW);obtain ⟨bP,bQ,bT,bU,bV,bW⟩:=dD.out.at E.out.st.b));(try ((try clear k10 k11 k12 k13 k14 k15);obtain ⟨k10,k11,k12,k13,k14,k15⟩:=dN.out.at E.out.st.b)))
  | (go_at_call 85;(try clear c0 c1 c2 c3 c4 c5);(with_reducible refine PE.call E E.out (fun st => wz.all qA.out BG.out st iO.out) (fun w1 E c0 c1 c2 c3 c4 c5 => ?_));(try ((try clear bP bQ bT bU bV bW);obtain ⟨bP,bQ,bT,bU,bV,bW⟩:=dD.out.at E.out.st.b));(try ((try clear k10 k11 k12 k13 k14 k15);obtain ⟨k10,k11,k12,k13,k14,k15⟩:=dN.out.at E.out.st.b)))
  | fail)
 first|go_end0|go_ret|(refine bodyPost_ret (results_none rfl _ _ _) rfl ?_)
 exact ⟨rfl,E.out.st,E.out.fr⟩
theorem ni.k15a {p : Nat} {w0 w : World} {F r : List Int} {x : ak} {A : Option Addr} {c : Nat} {n : Nat} (hx : bJ x = true) (he : ∀ y ∈ x.f4,bJ y = true → jF n y) (hz0 : (nd x.f4 0).f0 = 16) (hk : x.f0 = 15) (h : St false p w0 F (dX (n + 1) x ++ r) w) (hn : ND w0 x A c) : Calls Tryz.prog 100 #[.pointer (some ⟨p,0,none⟩),val x A c] w (gW false p w0 F r (.tuple #[]) w):=by
 have hl:=(AP hx hk).1;have nR : (0 : Int) < (x.f4.length : Int):=by omega
 have nS : 0 < x.f4.length:=by omega
 obtain ⟨ad,rfl⟩:=aT hn.C (show 0 < x.f4.length by omega);obtain ⟨A0,d0,hn0,hk0⟩:=ng hn.C (show 0 < x.f4.length by omega);have gJ:=Am hn0;have dD:=Am hk0;have b9:=Yf hk 9 rfl
 have b14:=Yf hk 14 rfl
 have b15:=Yt hk 15 rfl
 have b10:=Yf hk 10 rfl
 have b11:=Yf hk 11 rfl
 have b12:=Yf hk 12 rfl
 have b13:=Yf hk 13 rfl
 have Ew:=Am (show 9 ≤ x.f0 ∧ x.f0 ≤ 15 by omega);rw [yU hk] at h;unfold Gy at h;rw [if_pos hz0] at h;simp only [List.append_assoc] at h;have b16k : ((nd x.f4 0).f0 == 16) = true:=by rw [hz0];rfl
 clear he hz0 hx;have jY:=Am hl;clear hl;have E:=PE.start h hn;clear h hn;obtain ⟨bP,bQ,bT,bU,bV,bW⟩:=dD.out.at E.out.st.b;clear hn0 hk0;have HKK:=Am hk;clear hk;go_enter Tryz.func100,Tryz.ntmps100
 go_wp2_with (first
  | (go_at_call 115;(try clear c0 c1 c2 c3 c4 c5);(with_reducible refine PE.same E E.out (fun st => fU.no Ew.out st E.out.k) (fun w1 E c0 c1 c2 c3 c4 c5 => ?_));(try ((try clear bP bQ bT bU bV bW);obtain ⟨bP,bQ,bT,bU,bV,bW⟩:=dD.out.at E.out.st.b)))
  | (with_reducible refine dJ rfl rfl rfl ?_;rintro g wa hg hz hB;have mZ:=Am hB;have HZ:=Am hz;have kJ:=Am hg;clear hg hz hB)
  | (refine dL rfl rfl rfl (x:=nd x.f4 0) (A:=A0) (c:=d0) rfl rfl HZ.out ?_;rintro wb hN hB;replace E:=PE.box E.out.st E.out.fr (mZ.out.trans (hB.mono (Nat.le_of_eq kJ.out.symm))) (Nat.le_of_eq kJ.out.symm) hN gJ.out;clear hN hB;(try clear c0 c1 c2 c3 c4 c5);(try clear bP bQ bT bU bV bW);obtain ⟨c0,c1,c2,c3,c4,c5⟩:=E.out.cells)
  | (go_at_call 54;(try clear c0 c1 c2 c3 c4 c5);(with_reducible first|refine PE.ig E ?_|refine PE.iE E ?_|refine PE.iI E ?_|refine PE.gV E ?_);intro w1 E c0 c1 c2 c3 c4 c5)
  | fail)
 first|go_end0|go_ret|(refine bodyPost_ret (results_none rfl _ _ _) rfl ?_)
 exact ⟨rfl,E.out.st,E.out.fr⟩
theorem ni.k15b {p : Nat} {w0 w : World} {F r : List Int} {x : ak} {A : Option Addr} {c : Nat} {n : Nat} (hx : bJ x = true) (he : ∀ y ∈ x.f4,bJ y = true → jF n y) (hz0 : (nd x.f4 0).f0 = 14) (hk : x.f0 = 15) (h : St false p w0 F (dX (n + 1) x ++ r) w) (hn : ND w0 x A c) : Calls Tryz.prog 100 #[.pointer (some ⟨p,0,none⟩),val x A c] w (gW false p w0 F r (.tuple #[]) w):=by
 have hl:=(AP hx hk).1;have nR : (0 : Int) < (x.f4.length : Int):=by omega
 have nS : 0 < x.f4.length:=by omega
 obtain ⟨ad,rfl⟩:=aT hn.C (show 0 < x.f4.length by omega);obtain ⟨A0,d0,hn0,hk0⟩:=ng hn.C (show 0 < x.f4.length by omega);have gJ:=Am hn0;have dD:=Am hk0;have b9:=Yf hk 9 rfl
 have b14:=Yf hk 14 rfl
 have b15:=Yt hk 15 rfl
 have b10:=Yf hk 10 rfl
 have b11:=Yf hk 11 rfl
 have b12:=Yf hk 12 rfl
 have b13:=Yf hk 13 rfl
 have Ew:=Am (show 9 ≤ x.f0 ∧ x.f0 ≤ 15 by omega);rw [yU hk] at h;unfold Gy at h;rw [if_neg (by omega),if_pos hz0] at h;simp only [List.append_assoc] at h;have b16k : ((nd x.f4 0).f0 == 16) = false:=by rw [hz0];rfl
 have b14k : ((nd x.f4 0).f0 == 14) = true:=by rw [hz0];rfl
 have jZ:=Am (he _ (aQ (show 0 < x.f4.length by omega)) ((AP hx hk).2.resolve_left (by omega)));clear he hz0 hx;have jY:=Am hl;clear hl;have E:=PE.start h hn;clear h hn;obtain ⟨bP,bQ,bT,bU,bV,bW⟩:=dD.out.at E.out.st.b;clear hn0 hk0;have HKK:=Am hk;clear hk;go_enter Tryz.func100,Tryz.ntmps100
 go_wp2_with (first
  | (go_at_call 115;(try clear c0 c1 c2 c3 c4 c5);(with_reducible refine PE.same E E.out (fun st => fU.no Ew.out st E.out.k) (fun w1 E c0 c1 c2 c3 c4 c5 => ?_));(try ((try clear bP bQ bT bU bV bW);obtain ⟨bP,bQ,bT,bU,bV,bW⟩:=dD.out.at E.out.st.b)))
  | (with_reducible refine dJ rfl rfl rfl ?_;rintro g wa hg hz hB;have mZ:=Am hB;have HZ:=Am hz;have kJ:=Am hg;clear hg hz hB)
  | (refine dL rfl rfl rfl (x:=nd x.f4 0) (A:=A0) (c:=d0) rfl rfl HZ.out ?_;rintro wb hN hB;replace E:=PE.box E.out.st E.out.fr (mZ.out.trans (hB.mono (Nat.le_of_eq kJ.out.symm))) (Nat.le_of_eq kJ.out.symm) hN gJ.out;clear hN hB;(try clear c0 c1 c2 c3 c4 c5);(try clear bP bQ bT bU bV bW);obtain ⟨c0,c1,c2,c3,c4,c5⟩:=E.out.cells)
  | (go_at_call 54;(try clear c0 c1 c2 c3 c4 c5);(with_reducible first|refine PE.ig E ?_|refine PE.iE E ?_|refine PE.iI E ?_|refine PE.gV E ?_);intro w1 E c0 c1 c2 c3 c4 c5)
  | (go_at_call 100;(try clear c0 c1 c2 c3 c4 c5);(with_reducible refine PE.call E E.out (fun st => jZ.out.go st gJ.out) (fun w1 E c0 c1 c2 c3 c4 c5 => ?_)))
  | fail)
 first|go_end0|go_ret|(refine bodyPost_ret (results_none rfl _ _ _) rfl ?_)
 exact ⟨rfl,E.out.st,E.out.fr⟩
theorem ni.k15c {p : Nat} {w0 w : World} {F r : List Int} {x : ak} {A : Option Addr} {c : Nat} {n : Nat} (hx : bJ x = true) (he : ∀ y ∈ x.f4,bJ y = true → jF n y) (hz0 : (nd x.f4 0).f0 ≠ 16) (hz1 : (nd x.f4 0).f0 ≠ 14) (hk : x.f0 = 15) (h : St false p w0 F (dX (n + 1) x ++ r) w) (hn : ND w0 x A c) : Calls Tryz.prog 100 #[.pointer (some ⟨p,0,none⟩),val x A c] w (gW false p w0 F r (.tuple #[]) w):=by
 have hl:=(AP hx hk).1;have nR : (0 : Int) < (x.f4.length : Int):=by omega
 have nS : 0 < x.f4.length:=by omega
 obtain ⟨ad,rfl⟩:=aT hn.C (show 0 < x.f4.length by omega);obtain ⟨A0,d0,hn0,hk0⟩:=ng hn.C (show 0 < x.f4.length by omega);have gJ:=Am hn0;have dD:=Am hk0;have b9:=Yf hk 9 rfl
 have b14:=Yf hk 14 rfl
 have b15:=Yt hk 15 rfl
 have b10:=Yf hk 10 rfl
 have b11:=Yf hk 11 rfl
 have b12:=Yf hk 12 rfl
 have b13:=Yf hk 13 rfl
 have Ew:=Am (show 9 ≤ x.f0 ∧ x.f0 ≤ 15 by omega);rw [yU hk] at h;unfold Gy at h;rw [if_neg hz0,if_neg hz1] at h;simp only [List.append_assoc] at h;have b16k : ((nd x.f4 0).f0 == 16) = false:=beq_eq_false_iff_ne.2 hz0;have b14k : ((nd x.f4 0).f0 == 14) = false:=beq_eq_false_iff_ne.2 hz1;have jZ:=Am (he _ (aQ (show 0 < x.f4.length by omega)) ((AP hx hk).2.resolve_left hz0));have HX0:=Am ((AP hx hk).2.resolve_left hz0);clear he hz0 hz1 hx;have jY:=Am hl;clear hl;have E:=PE.start h hn;clear h hn;obtain ⟨bP,bQ,bT,bU,bV,bW⟩:=dD.out.at E.out.st.b;clear hn0 hk0;have HKK:=Am hk;clear hk;go_enter Tryz.func100,Tryz.ntmps100
 go_wp2_with (first
  | (go_at_call 115;(try clear c0 c1 c2 c3 c4 c5);(with_reducible refine PE.same E E.out (fun st => fU.no Ew.out st E.out.k) (fun w1 E c0 c1 c2 c3 c4 c5 => ?_));(try ((try clear bP bQ bT bU bV bW);obtain ⟨bP,bQ,bT,bU,bV,bW⟩:=dD.out.at E.out.st.b)))
  | (with_reducible refine dJ rfl rfl rfl ?_;rintro g wa hg hz hB;have mZ:=Am hB;have HZ:=Am hz;have kJ:=Am hg;clear hg hz hB)
  | (refine dL rfl rfl rfl (x:=nd x.f4 0) (A:=A0) (c:=d0) rfl rfl HZ.out ?_;rintro wb hN hB;replace E:=PE.box E.out.st E.out.fr (mZ.out.trans (hB.mono (Nat.le_of_eq kJ.out.symm))) (Nat.le_of_eq kJ.out.symm) hN gJ.out;clear hN hB;(try clear c0 c1 c2 c3 c4 c5);(try clear bP bQ bT bU bV bW);obtain ⟨c0,c1,c2,c3,c4,c5⟩:=E.out.cells)
  | (go_at_call 54;(try clear c0 c1 c2 c3 c4 c5);(with_reducible first|refine PE.ig E ?_|refine PE.iE E ?_|refine PE.iI E ?_|refine PE.gV E ?_);intro w1 E c0 c1 c2 c3 c4 c5)
  | (go_at_call 85;(try clear c0 c1 c2 c3 c4 c5);(with_reducible refine PE.call E E.out (fun st => wz.all jZ.out HX0.out st gJ.out) (fun w1 E c0 c1 c2 c3 c4 c5 => ?_)))
  | fail)
 first|go_end0|go_ret|(refine bodyPost_ret (results_none rfl _ _ _) rfl ?_)
 exact ⟨rfl,E.out.st,E.out.fr⟩
def sK (e : ak → List Int) (y : ak) : List Int:=if y.f0 = 56 then [] else oO e y 0
def qU (e : ak → List Int) (l : List ak) : List Int:=if l.length = 0 then [] else bytesOf ⟨#[32,61,32]⟩ ++ (if (nd l 0).f0 = 44 then bytesOf ⟨#[123]⟩ ++ (GZ e true (nd l 0).f4 ++ bytesOf ⟨#[125]⟩) else oO e (nd l 0) 0)
def ku (e : ak → List Int) (x : ak) : List Int:=bytesOf x.f1 ++ (if x.f3 = true then bytesOf ⟨#[91]⟩ ++ (sK e (nd x.f4 0) ++ (bytesOf ⟨#[93]⟩ ++ qU e (x.f4.drop 1))) else qU e x.f4)
def vrG (e : ak → List Int) : Bool → List ak → List Int
 | _,[] => []
 | b,y :: ys => (if b = true then [] else bytesOf ⟨#[44,32]⟩) ++ (ku e y ++ vrG e false ys)
def sG (n : Int) : ByteArray:=if n = 1 then ⟨#[42]⟩ else ⟨#[]⟩
def paG (x : ak) : List Int:=bytesOf (nd x.f4 0).f1 ++ (bytesOf ⟨#[32]⟩ ++ (bytesOf (sG x.f2) ++ (bytesOf x.f1 ++ (if x.f3 = true then bytesOf ⟨#[91,93]⟩ else []))))
def vV : Bool → List ak → List Int
 | _,[] => []
 | b,y :: ys => (if b = true then [] else bytesOf ⟨#[44,32]⟩) ++ (paG y ++ vV false ys)
def Ny (e : ak → List Int) (word : ByteArray) (y : ak) (en : ByteArray) : List Int:=bytesOf word ++ (bytesOf ⟨#[32,40]⟩ ++ (oO e y 0 ++ (bytesOf ⟨#[41]⟩ ++ bytesOf en)))
def BH (l : ak → List Int) : List ak → List Int
 | [] => []
 | y :: ys => l y ++ BH l ys
def Lj (l : ak → List Int) (ys : List ak) : List Int:=bytesOf ⟨#[123,10]⟩ ++ (BH l ys ++ bytesOf ⟨#[125]⟩)
def ln41 (l : ak → List Int) (x : ak) : List Int:=bytesOf ⟨#[115,116,114,117,99,116,32]⟩ ++ (bytesOf x.f1 ++ (bytesOf ⟨#[32]⟩ ++ (Lj l x.f4 ++ (bytesOf ⟨#[59]⟩ ++ bytesOf ⟨#[10]⟩))))
def ln42 (e : ak → List Int) (x : ak) : List Int:=bytesOf (nd x.f4 0).f1 ++ (bytesOf ⟨#[32]⟩ ++ (vrG e true (x.f4.drop 1) ++ (bytesOf ⟨#[59]⟩ ++ bytesOf ⟨#[10]⟩)))
def ln45 (l : ak → List Int) (x : ak) : List Int:=bytesOf (nd x.f4 0).f1 ++ (bytesOf ⟨#[32]⟩ ++ (bytesOf x.f1 ++ (bytesOf ⟨#[40]⟩ ++ (vV true ((x.f4.take (x.f4.length - 1)).drop 1) ++ (bytesOf ⟨#[41,32]⟩ ++ (Lj l (nd x.f4 (x.f4.length - 1)).f4 ++ bytesOf ⟨#[10]⟩))))))
def ln47 (l : ak → List Int) (x : ak) : List Int:=Lj l x.f4 ++ bytesOf ⟨#[10]⟩
def ln48 (e : ak → List Int) (x : ak) : List Int:=oO e (nd x.f4 0) 0 ++ (bytesOf ⟨#[59]⟩ ++ bytesOf ⟨#[10]⟩)
def Iu (e l : ak → List Int) (x : ak) : List Int:=Ny e ⟨#[105,102]⟩ (nd x.f4 0) ⟨#[10]⟩ ++ (l (nd x.f4 1) ++ (if 2 < x.f4.length then bytesOf ⟨#[101,108,115,101,10]⟩ ++ l (nd x.f4 2) else []))
def ln50 (e l : ak → List Int) (x : ak) : List Int:=Ny e ⟨#[119,104,105,108,101]⟩ (nd x.f4 0) ⟨#[10]⟩ ++ l (nd x.f4 1)
def ln51 (e l : ak → List Int) (x : ak) : List Int:=bytesOf ⟨#[100,111,10]⟩ ++ (l (nd x.f4 0) ++ (Ny e ⟨#[119,104,105,108,101]⟩ (nd x.f4 1) ⟨#[59]⟩ ++ bytesOf ⟨#[10]⟩))
def Iw (e l : ak → List Int) (x : ak) : List Int:=bytesOf ⟨#[102,111,114,32,40]⟩ ++ (sK e (nd x.f4 0) ++ (bytesOf ⟨#[59,32]⟩ ++ (sK e (nd x.f4 1) ++ (bytesOf ⟨#[59,32]⟩ ++ (sK e (nd x.f4 2) ++ (bytesOf ⟨#[41,10]⟩ ++ l (nd x.f4 3)))))))
def ln53 : List Int:=bytesOf ⟨#[98,114,101,97,107]⟩ ++ (bytesOf ⟨#[59]⟩ ++ bytesOf ⟨#[10]⟩)
def ln54 : List Int:=bytesOf ⟨#[99,111,110,116,105,110,117,101]⟩ ++ (bytesOf ⟨#[59]⟩ ++ bytesOf ⟨#[10]⟩)
def Iy (e : ak → List Int) (x : ak) : List Int:=bytesOf ⟨#[114,101,116,117,114,110]⟩ ++ ((if 0 < x.f4.length then bytesOf ⟨#[32]⟩ ++ oO e (nd x.f4 0) 0 else []) ++ (bytesOf ⟨#[59]⟩ ++ bytesOf ⟨#[10]⟩))
def Nc : List Int:=bytesOf ⟨#[59]⟩ ++ bytesOf ⟨#[10]⟩
def iQ : Nat → ak → List Int
 | 0,_ => []
 | n + 1,x => if x.f0 = 41 then ln41 (iQ n) x else if x.f0 = 42 then ln42 (dX n) x else if x.f0 = 45 then ln45 (iQ n) x else if x.f0 = 47 then ln47 (iQ n) x else if x.f0 = 48 then ln48 (dX n) x else if x.f0 = 49 then Iu (dX n) (iQ n) x else if x.f0 = 50 then ln50 (dX n) (iQ n) x else if x.f0 = 51 then ln51 (dX n) (iQ n) x else if x.f0 = 52 then Iw (dX n) (iQ n) x else if x.f0 = 53 then ln53 else if x.f0 = 54 then ln54 else if x.f0 = 55 then Iy (dX n) x else Nc
theorem Iz {n : Nat} {x : ak} (h : x.f0 = 41) : iQ (n + 1) x = ln41 (iQ n) x:=by unfold iQ;simp [h]
theorem IB {n : Nat} {x : ak} (h : x.f0 = 42) : iQ (n + 1) x = ln42 (dX n) x:=by unfold iQ;simp [h]
theorem IC {n : Nat} {x : ak} (h : x.f0 = 45) : iQ (n + 1) x = ln45 (iQ n) x:=by unfold iQ;simp [h]
theorem Ey {n : Nat} {x : ak} (h : x.f0 = 47) : iQ (n + 1) x = ln47 (iQ n) x:=by unfold iQ;simp [h]
theorem IE {n : Nat} {x : ak} (h : x.f0 = 48) : iQ (n + 1) x = ln48 (dX n) x:=by unfold iQ;simp [h]
theorem AQ {n : Nat} {x : ak} (h : x.f0 = 49) : iQ (n + 1) x = Iu (dX n) (iQ n) x:=by unfold iQ;simp [h]
theorem IG {n : Nat} {x : ak} (h : x.f0 = 50) : iQ (n + 1) x = ln50 (dX n) (iQ n) x:=by unfold iQ;simp [h]
theorem II {n : Nat} {x : ak} (h : x.f0 = 51) : iQ (n + 1) x = ln51 (dX n) (iQ n) x:=by unfold iQ;simp [h]
theorem IJ {n : Nat} {x : ak} (h : x.f0 = 52) : iQ (n + 1) x = Iw (dX n) (iQ n) x:=by unfold iQ;simp [h]
theorem IK {n : Nat} {x : ak} (h : x.f0 = 53) : iQ (n + 1) x = ln53  := by unfold iQ;simp [h]
theorem IL {n : Nat} {x : ak} (h : x.f0 = 54) : iQ (n + 1) x = ln54  := by unfold iQ;simp [h]
theorem AU {n : Nat} {x : ak} (h : x.f0 = 55) : iQ (n + 1) x = Iy (dX n) x:=by unfold iQ;simp [h]
theorem lnT_56 {n : Nat} {x : ak} (h : x.f0 = 56) : iQ (n + 1) x = Nc  := by unfold iQ;simp [h]
noncomputable def pG (x : ak) : Bool:=(isS x || (decide (x.f0 = 41) || (decide (x.f0 = 42) || decide (x.f0 = 45)))) && bK x
theorem ln_may {x : ak} (h : pG x = true) : bK x = true:=by
 unfold pG at h;rw [Bool.and_eq_true] at h;exact h.2
theorem AV {x : ak} (h1 : isS x = true) (h2 : bK x = true) : pG x = true:=by unfold pG;rw [h1,h2];rfl
theorem lnB_42 {x : ak} (h1 : x.f0 = 42) (h2 : bK x = true) : pG x = true:=by unfold pG;rw [h2,decide_eq_true h1];simp
theorem oP {x : ak} (h : bK x = true) (hs : 47 ≤ x.f0 ∧ x.f0 ≤ 56) : eU x = true ∧ ∀ y ∈ x.f4,bK y = true:=by
 rw [Au hs] at h;simp only [Bool.and_eq_true,List.all_eq_true] at h;exact ⟨h.1.2,h.2⟩
theorem uf {x : ak} (h : bK x = true) (hs : 40 ≤ x.f0 ∧ x.f0 ≤ 46) : fQ x = true ∧ ∀ y ∈ x.f4,bK y = true:=by
 rw [rO hs] at h;simp only [Bool.and_eq_true,List.all_eq_true] at h;exact ⟨h.1.2,h.2⟩
theorem st_47 {x : ak} (h : bK x = true) (hk : x.f0 = 47) : ∀ y ∈ x.f4,pG y = true:=by
 obtain ⟨h1,h2⟩:=oP h (by omega);rw [show eU x = s47 x from by unfold eU;simp [hk]] at h1;unfold s47 at h1;simp only [Bool.and_eq_true,List.all_eq_true,Bool.or_eq_true,decide_eq_true_eq] at h1;intro y hy;rcases h1.2 y hy with h3|h3
 · exact AV h3 (h2 y hy)
 · exact lnB_42 h3 (h2 y hy)
theorem st_48 {x : ak} (h : bK x = true) (hk : x.f0 = 48) : x.f4.length = 1 ∧ bJ (nd x.f4 0) = true:=by
 obtain ⟨h1,h2⟩:=oP h (by omega);rw [show eU x = s48 x from by unfold eU;simp [hk]] at h1;unfold s48 at h1;simp only [Bool.and_eq_true,gE,List.map_cons,List.map_nil,tX,decide_eq_true_eq] at h1;exact ⟨h1.2.1,iW h1.2.2 (gG h2 (by omega))⟩
theorem st_49 {x : ak} (h : bK x = true) (hk : x.f0 = 49) : (x.f4.length = 2 ∨ (x.f4.length = 3 ∧ pG (nd x.f4 2) = true)) ∧ bJ (nd x.f4 0) = true ∧ pG (nd x.f4 1) = true:=by
 obtain ⟨h1,h2⟩:=oP h (by omega);rw [show eU x = s49 x from by unfold eU;simp [hk]] at h1;unfold s49 at h1;simp only [Bool.and_eq_true,Bool.or_eq_true,gES,FH,List.map_cons,List.map_nil,shape2,shape3,decide_eq_true_eq] at h1;rcases h1.2 with h3|h3
 · exact ⟨.inl h3.1,iW h3.2.1 (gG h2 (by omega)),AV h3.2.2 (gG h2 (by omega))⟩
 · exact ⟨.inr ⟨h3.1.1,AV h3.1.2.2 (gG h2 (by omega))⟩,iW h3.1.2.1.1 (gG h2 (by omega)),AV h3.1.2.1.2 (gG h2 (by omega))⟩
theorem st_50 {x : ak} (h : bK x = true) (hk : x.f0 = 50) : x.f4.length = 2 ∧ bJ (nd x.f4 0) = true ∧ pG (nd x.f4 1) = true:=by
 obtain ⟨h1,h2⟩:=oP h (by omega);rw [show eU x = s50 x from by unfold eU;simp [hk]] at h1;unfold s50 at h1;simp only [Bool.and_eq_true,gES,List.map_cons,List.map_nil,shape2,decide_eq_true_eq] at h1;exact ⟨h1.2.1,iW h1.2.2.1 (gG h2 (by omega)),AV h1.2.2.2 (gG h2 (by omega))⟩
theorem st_51 {x : ak} (h : bK x = true) (hk : x.f0 = 51) : x.f4.length = 2 ∧ pG (nd x.f4 0) = true ∧ bJ (nd x.f4 1) = true:=by
 obtain ⟨h1,h2⟩:=oP h (by omega);rw [show eU x = s51 x from by unfold eU;simp [hk]] at h1;unfold s51 at h1;simp only [Bool.and_eq_true,gSE,List.map_cons,List.map_nil,shape2,decide_eq_true_eq] at h1;exact ⟨h1.2.1,AV h1.2.2.1 (gG h2 (by omega)),iW h1.2.2.2 (gG h2 (by omega))⟩
theorem Ll {y : ak} (h1 : BD y = true) (h2 : bK y = true) : y.f0 = 56 ∨ bJ y = true:=by
 unfold BD at h1;simp only [Bool.or_eq_true,decide_eq_true_eq] at h1;rcases h1 with h|h
 · exact .inl h
 · exact .inr (iW h h2)
theorem st_52 {x : ak} (h : bK x = true) (hk : x.f0 = 52) : x.f4.length = 4 ∧ (∀ i,i < 3 → (nd x.f4 i).f0 = 56 ∨ bJ (nd x.f4 i) = true) ∧ pG (nd x.f4 3) = true:=by
 obtain ⟨h1,h2⟩:=oP h (by omega);rw [show eU x = s52 x from by unfold eU;simp [hk]] at h1;unfold s52 at h1;simp only [Bool.and_eq_true,Ai,List.map_cons,List.map_nil,shape4,decide_eq_true_eq] at h1;refine ⟨h1.2.1,fun i hi => ?_,AV h1.2.2.2 (gG h2 (by omega))⟩
 match i,hi with
 | 0,_ => exact Ll h1.2.2.1.1.1 (gG h2 (by omega))
 | 1,_ => exact Ll h1.2.2.1.1.2 (gG h2 (by omega))
 | 2,_ => exact Ll h1.2.2.1.2 (gG h2 (by omega))
theorem st_55 {x : ak} (h : bK x = true) (hk : x.f0 = 55) : x.f4.length = 0 ∨ (x.f4.length = 1 ∧ bJ (nd x.f4 0) = true):=by
 obtain ⟨h1,h2⟩:=oP h (by omega);rw [show eU x = s55 x from by unfold eU;simp [hk]] at h1;unfold s55 at h1;simp only [Bool.and_eq_true,List.all_eq_true,decide_eq_true_eq] at h1;by_cases h0 : x.f4.length = 0
 · exact .inl h0
 · exact .inr ⟨by omega,iW (h1.2.2 _ (aQ (by omega))) (gG h2 (by omega))⟩
theorem de_41 {x : ak} (h : bK x = true) (hk : x.f0 = 41) : ∀ y ∈ x.f4,pG y = true:=by
 obtain ⟨h1,h2⟩:=uf h (by omega);rw [show fQ x = d41 x from by unfold fQ;simp [hk]] at h1;unfold d41 at h1;simp only [Bool.and_eq_true,List.all_eq_true] at h1;intro y hy;have h3:=h1.2 y hy;unfold su at h3;simp only [Bool.and_eq_true,decide_eq_true_eq] at h3;exact lnB_42 h3.1 (h2 y hy)
noncomputable def vaB (x : ak) : Bool:=decide (x.f0 = 43) && bK x
theorem de_42 {x : ak} (h : bK x = true) (hk : x.f0 = 42) : 2 ≤ x.f4.length ∧ ∀ y ∈ x.f4.drop 1,vaB y = true:=by
 obtain ⟨h1,h2⟩:=uf h (by omega);rw [show fQ x = Bf x from by unfold fQ;simp [hk]] at h1;unfold Bf at h1;simp only [Bool.and_eq_true,List.all_eq_true,decide_eq_true_eq] at h1;refine ⟨h1.1.1.2,fun y hy => ?_⟩;unfold vaB;rw [List.drop_one] at hy;rw [decide_eq_true (h1.2 y hy),h2 y (List.mem_of_mem_tail hy)];rfl
theorem va_43 {x : ak} (h : vaB x = true) : x.f0 = 43 ∧ (if x.f3 = true then x.f4.length ≠ 0 ∧ ((nd x.f4 0).f0 = 56 ∨ bJ (nd x.f4 0) = true) ∧ (x.f4.length = 1 ∨ (x.f4.length = 2 ∧ (((nd x.f4 1).f0 = 44 ∧ ∀ y ∈ (nd x.f4 1).f4,bJ y = true) ∨ bJ (nd x.f4 1) = true))) else x.f4.length = 0 ∨ (x.f4.length = 1 ∧ bJ (nd x.f4 0) = true)):=by
 unfold vaB at h;rw [Bool.and_eq_true,decide_eq_true_eq] at h;obtain ⟨hk,h⟩:=h;obtain ⟨h1,h2⟩:=uf h (by omega);rw [show fQ x = d43 x from by unfold fQ;simp [hk]] at h1;unfold d43 at h1;rw [Bool.and_eq_true] at h1;have h1:=h1.2;unfold Ic at h1;refine ⟨hk,?_⟩;by_cases hf : x.f3 = true
 · rw [if_pos hf] at h1 ⊢;simp only [Bool.and_eq_true,Bool.or_eq_true,decide_eq_true_eq,Bool.not_eq_true',decide_eq_false_iff_not] at h1;refine ⟨h1.1.1,Ll h1.1.2 (gG h2 (by omega)),?_⟩;rcases h1.2 with h3 | ⟨h3,h4⟩
   · exact .inl h3
   · refine .inr ⟨h3,?_⟩;have hm:=gG h2 (i:=1) (by omega);rcases h4 with h4|h4
     · exact .inr (iW h4 hm)
     · refine .inl ⟨h4,?_⟩;have h5:=liT_eq h4;unfold liT at h5;rw [decide_eq_true h4,hm] at h5;have h6:=h5.symm;simp only [Bool.and_self,Bool.and_eq_true,List.all_eq_true] at h6;exact h6.2.2
 · rw [if_neg hf] at h1 ⊢;simp only [Bool.and_eq_true,Bool.or_eq_true,decide_eq_true_eq] at h1;rcases h1 with h3|h3
   · exact .inl h3
   · exact .inr ⟨h3.1,iW h3.2 (gG h2 (by omega))⟩
noncomputable def paB (x : ak) : Bool:=decide (x.f0 = 46) && bK x
theorem pa_46 {x : ak} (h : paB x = true) : x.f0 = 46 ∧ x.f2 ≤ 1 ∧ x.f4.length = 1:=by
 have hk : x.f0 = 46:=by
  unfold paB at h;rw [Bool.and_eq_true,decide_eq_true_eq] at h;exact h.1
 have h1 : paT x = true:=h;rw [paT_eq hk] at h1;simp only [Bool.and_eq_true,decide_eq_true_eq] at h1;exact ⟨hk,h1.1,h1.2.2.2.1⟩
theorem fn_45 {x : ak} (h : bK x = true) (hk : x.f0 = 45) : 2 ≤ x.f4.length ∧ (nd x.f4 (x.f4.length - 1)).f0 = 47 ∧ (∀ y ∈ (nd x.f4 (x.f4.length - 1)).f4,pG y = true) ∧ ∀ y ∈ (x.f4.take (x.f4.length - 1)).drop 1,paB y = true:=by
 have h1 : fnT x = true:=by unfold fnT;rw [decide_eq_true hk,h];rfl
 rw [fnT_eq hk] at h1;simp only [Bool.and_eq_true,decide_eq_true_eq,List.all_eq_true] at h1;have h2 : Ed (nd x.f4 (x.f4.length - 1)) = true:=h1.2.2.2.2.1;unfold Ed at h2;rw [Bool.and_eq_true,decide_eq_true_eq] at h2;exact ⟨h1.2.2.1,h2.1,st_47 h2.2 h2.1,h1.2.2.2.2.2⟩
structure SE (s : Bool) (p : Nat) (w0 : World) (F r : List Int) (ws W : World) : Prop where
 st : St s p w0 F r W
 fr : Fr p ws W
section
variable {s : Bool} {p : Nat} {w0 : World} {F r t : List Int} {ws W : World}
theorem SE.start (h : St s p w0 F r ws) : Ad (SE s p w0 F r ws ws):=⟨h,Fr.refl _ _⟩
theorem SE.step {W1 : World} (E : SE s p w0 F r ws W) (hB : Below W.heap.size W W1) : SE s p w0 F r ws W1:=⟨E.st.step hB,E.fr.trans (Fr.of_below hB)⟩
theorem SE.alloc (E : SE s p w0 F r ws W) (o : Obj) : SE s p w0 F r ws (W.alloc o):=E.step (Z7 (Below.refl _ _) _)
theorem SE.call {W0 : World} {r0 : List Int} {v : Value} {f : FuncId} {args : Array Value} {Q : Ending → World → Prop} (E0 : Ad (SE s p w0 F r0 ws W0)) (E : SE s p w0 F (t ++ r) ws W) (h : St s p w0 F (t ++ r) W → Calls Tryz.prog f args W (gW s p w0 F r v W))
 (K : ∀ w1,Ad (SE s p w0 F r ws w1) → Q (.returned v) w1) : Calls Tryz.prog f args W Q:=by
 refine (h E.st).mono ?_;rintro e w1 ⟨rfl,h1,h2⟩;exact K w1 ⟨⟨h1,E.fr.trans h2⟩⟩
end
section
variable {p : Nat} {w0 : World} {F r t : List Int} {ws W : World}
theorem SE.ig {q cc : Nat} {a : ByteArray} {Q : Ending → World → Prop} (E : Ad (SE false p w0 F (bytesOf a ++ r) ws W)) (K : ∀ w1,Ad (SE false p w0 F r ws w1) → Q (.returned (.tuple #[])) w1) (hq : q = W.heap.size:=by first|rfl|(simp;done)) :
 Calls Tryz.prog 54 #[.pointer (some ⟨p,0,none⟩),.slice (some ⟨q,0,none⟩) 1 cc] (W.alloc (.cells #[.string a] 9 (0,0))) Q:=by
 subst hq;exact SE.call E (E.out.alloc _) (fun h => putP.calls [a] (by simpa using h) (fun e => by have:=E.out.st.lt;omega) (cO W _) (by simp)) K
end
def ug (n : Nat) (y : ak) : Prop:=∀ (p : Nat) (w0 w : World) (F r : List Int) (A : Option Addr) (c : Nat),St false p w0 F (iQ n y ++ r) w → ND w0 y A c → Calls Tryz.prog 38 #[.pointer (some ⟨p,0,none⟩),val y A c] w (gW false p w0 F r (.tuple #[]) w)
theorem ug.go {n : Nat} {y : ak} {p : Nat} {w0 w : World} {F r : List Int} {A : Option Addr} {c : Nat} (h : ug n y) (st : St false p w0 F (iQ n y ++ r) w) (hn : ND w0 y A c) : Calls Tryz.prog 38 #[.pointer (some ⟨p,0,none⟩),val y A c] w (gW false p w0 F r (.tuple #[]) w):=h p w0 w F r A c st hn
theorem al_at {l : ak → List Int} {xs : List ak} {i : Nat} (hi : i < xs.length) : BH l (xs.drop i) = l (nd xs i) ++ BH l (xs.drop (i + 1)):=by
 rw [xW xs hi];rfl
theorem al_end {l : ak → List Int} {xs : List ak} {i : Nat} (hi : ¬ i < xs.length) : BH l (xs.drop i) = []:=by
 rw [List.drop_eq_nil_of_le (by omega)];rfl
theorem allP.all {n : Nat} {xs : List ak} {p : Nat} {w0 w : World} {F r : List Int} {A : Option Addr} {c : Nat} (hk : ∀ y ∈ xs,ug n y) (h : St false p w0 F (BH (iQ n) xs ++ r) w) (hC : Kd.C k25 w0 A xs.length xs) : Calls Tryz.prog 26 #[.pointer (some ⟨p,0,none⟩),.slice A xs.length c] w (gW false p w0 F r (.tuple #[]) w):=by
 have HK:=Am hk;have HC:=Am hC;have ST:=Am h;have uI:=Am hC.2.1;clear hk h hC;go_enter Tryz.func26,Tryz.ntmps26
 go_wp2
 go_loopg [8] xs.length (fun kq v w' => ∃ i : Nat,v = .int .i64 i ∧ Ad (i + kq = xs.length) ∧ Ad (St false p w0 F (BH (iQ n) (xs.drop i) ++ r) w') ∧ Ad (Fr p w w'))
 case atStart => exact ⟨0,rfl,⟨by omega⟩,ST,⟨Fr.refl _ _⟩⟩
 case round =>
  obtain ⟨i,rfl,HI,ST,HF⟩:=hrel;by_cases hi : i < xs.length
  · have qp : decide (i < xs.length) = true:=decide_eq_true hi;have e1 : decide ((i : Int) < (xs.length : Int)) = true:=decide_eq_true (by omega);have p1 : (0 : Int) ≤ (i : Int):=by omega
    have q1 : (i : Int) < (xs.length : Int):=by omega
    have gZ:=Am hi;have jU:=Am (aQ hi);have w3 : wrap64 ((i : Int) + 1) = (i : Int) + 1:=by have:=uI.out;unfold wrap64;omega
    have w4 : IntKind.i64.wrap ((i : Int) + 1) = (i : Int) + 1:=(bY _).trans w3;obtain ⟨ad,A',c',rfl,hn,hkn⟩:=uX HC.out i hi;have HN:=Am hn;have oI:=Am hkn;obtain ⟨k0,k1,k2,k3,k4,k5⟩:=oI.out.at ST.out.b;rw [al_at hi,List.append_assoc] at ST;clear hi hn hkn;go_wp2_with (first
     | (with_reducible refine dJ rfl rfl rfl ?_;rintro g wa hg hz hB;have mZ:=Am hB;have HZ:=Am hz;have kJ:=Am hg;clear hg hz hB)
     | (refine dL rfl rfl rfl (x:=nd xs i) (A:=A') (c:=c') rfl rfl HZ.out ?_;rintro wb hN hB;have E:=PE.box ST.out HF.out (mZ.out.trans (hB.mono (Nat.le_of_eq kJ.out.symm))) (Nat.le_of_eq kJ.out.symm) hN HN.out;(try clear k0 k1 k2 k3 k4 k5);obtain ⟨c0,c1,c2,c3,c4,c5⟩:=E.out.cells;clear hN hB)
     | (go_at_call 38;(try clear c0 c1 c2 c3 c4 c5);(with_reducible refine PE.call E E.out (fun st => (HK.out _ jU.out).go st E.out.k) (fun w1 E c0 c1 c2 c3 c4 c5 => ?_)))
     | fail)
    go_roundg (xs.length - (i + 1))
    case measure => have:=HI.out;have:=gZ.out;omega
    case rel => exact ⟨i + 1,by (try simp only [w4,w3]);rfl,⟨by have:=HI.out;have:=gZ.out;omega⟩,⟨E.out.st⟩,⟨E.out.fr⟩⟩
  · have qp : decide (i < xs.length) = false:=decide_eq_false hi;have e1 : decide ((i : Int) < (xs.length : Int)) = false:=decide_eq_false (by omega);rw [al_end hi] at ST;clear hi HI;go_wp2
    first|go_end0|(refine bodyPost_ret (results_none rfl _ _ _) rfl ?_)
    exact ⟨rfl,ST.out,HF.out⟩
theorem IQ.all {n : Nat} {xs : List ak} {p : Nat} {w0 w : World} {F r : List Int} {A : Option Addr} {c : Nat} (hk : ∀ y ∈ xs,ug n y) (h : St false p w0 F (Lj (iQ n) xs ++ r) w) (hC : Kd.C k25 w0 A xs.length xs) : Calls Tryz.prog 56 #[.pointer (some ⟨p,0,none⟩),.slice A xs.length c] w (gW false p w0 F r (.tuple #[]) w):=by
 have HK:=Am hk;have HC:=Am hC;unfold Lj at h;simp only [List.append_assoc] at h;have E:=SE.start h;clear hk h hC;go_enter Tryz.func56,Tryz.ntmps56
 go_wp2_with (first
  | (go_at_call 54;(first|(with_reducible refine SE.ig E (fun w1 E => ?_))|(with_reducible refine SE.iE E (fun w1 E => ?_))))
  | (go_at_call 26;(with_reducible refine SE.call E E.out (fun st => allP.all HK.out st HC.out) (fun w1 E => ?_)))
  | fail)
 first|go_end0|(refine bodyPost_ret (results_none rfl _ _ _) rfl ?_)
 exact ⟨rfl,E.out.st,E.out.fr⟩
theorem Lm.all {n : Nat} {a b : ByteArray} {p : Nat} {w0 w : World} {F r : List Int} {x : ak} {A : Option Addr} {c : Nat} (hk : jF n x) (hx : bJ x = true) (h : St false p w0 F (Ny (dX n) a x b ++ r) w) (hn : ND w0 x A c) : Calls Tryz.prog 53 #[.pointer (some ⟨p,0,none⟩),.string a,val x A c,.string b] w (gW false p w0 F r (.tuple #[]) w):=by
 have HK:=Am hk;have HX:=Am hx;unfold Ny at h;simp only [List.append_assoc] at h;have E:=PE.start h hn;clear hk hx h hn;go_enter Tryz.func53,Tryz.ntmps53
 go_wp2_with (first
  | (go_at_call 54;(try clear c0 c1 c2 c3 c4 c5);(with_reducible first|refine PE.ig E ?_|refine PE.iE E ?_|refine PE.iI E ?_|refine PE.gV E ?_);intro w1 E c0 c1 c2 c3 c4 c5)
  | (go_at_call 85;(try clear c0 c1 c2 c3 c4 c5);(with_reducible refine PE.call E E.out (fun st => wz.all HK.out HX.out st E.out.k) (fun w1 E c0 c1 c2 c3 c4 c5 => ?_)))
  | fail)
 first|go_end0|(refine bodyPost_ret (results_none rfl _ _ _) rfl ?_)
 exact ⟨rfl,E.out.st,E.out.fr⟩
theorem sN.F0 {p : Nat} {w0 w : World} {F r : List Int} {f0 : Int} {f1 : ByteArray} {f2 : Int} {l : List ak} {q : Int} {A : Option Addr} {c : Nat} {n : Nat} (hl : l.length = 0) (h : St false p w0 F (ku (dX n) ⟨f0,f1,f2,false,l,q⟩ ++ r) w) (hn : ND w0 ⟨f0,f1,f2,false,l,q⟩ A c) : Calls Tryz.prog 57 #[.pointer (some ⟨p,0,none⟩),val ⟨f0,f1,f2,false,l,q⟩ A c] w (gW false p w0 F r (.tuple #[]) w):=by
 simp only [ku,qU,sK,Bool.false_eq_true,if_false,if_true,List.length_drop,iP,Nat.zero_add,List.append_assoc,List.nil_append,List.append_nil,hl] at h;have e0 : ((l.length : Int) == 0) = true:=by rw [hl];rfl
 have jY:=Am hl;clear hl;have E:=PE.start h hn;clear h hn;go_enter Tryz.func57,Tryz.ntmps57
 go_wp2_with (first
  | (go_at_call 54;(try clear c0 c1 c2 c3 c4 c5);(with_reducible first|refine PE.ig E ?_|refine PE.iE E ?_|refine PE.iI E ?_|refine PE.gV E ?_);intro w1 E c0 c1 c2 c3 c4 c5)
  | fail)
 all_goals
  first|go_end0|go_ret|(refine bodyPost_ret (results_none rfl _ _ _) rfl ?_)
  exact ⟨rfl,E.out.st,E.out.fr⟩
theorem sN.F1 {p : Nat} {w0 w : World} {F r : List Int} {f0 : Int} {f1 : ByteArray} {f2 : Int} {l : List ak} {q : Int} {A : Option Addr} {c : Nat} {n : Nat} (hl : l.length = 1) (he : ∀ y ∈ l,bJ y = true → jF n y) (hx0 : bJ (nd l 0) = true) (h : St false p w0 F (ku (dX n) ⟨f0,f1,f2,false,l,q⟩ ++ r) w) (hn : ND w0 ⟨f0,f1,f2,false,l,q⟩ A c) : Calls Tryz.prog 57 #[.pointer (some ⟨p,0,none⟩),val ⟨f0,f1,f2,false,l,q⟩ A c] w (gW false p w0 F r (.tuple #[]) w):=by
 simp only [ku,qU,sK,Bool.false_eq_true,if_false,if_true,List.length_drop,iP,Nat.zero_add,List.append_assoc,List.nil_append,List.append_nil,eq_false (show ¬ l.length = 0 by omega),eq_false (show ¬ (nd l 0).f0 = 44 by have:=dw hx0;omega)] at h;obtain ⟨ad,rfl⟩:=aT hn.C (show 0 < l.length by omega);obtain ⟨A0,d0,hn0,hk0⟩:=ng hn.C (show 0 < l.length by omega);have gJ:=Am hn0;have dD:=Am hk0;have e0 : ((l.length : Int) == 0) = false:=by rw [hl];rfl
 have MG : ((nd l 0).f0 == 44) = false:=beq_eq_false_iff_ne.2 (by have:=dw hx0;omega);have nR : (0 : Int) < (l.length : Int):=by omega
 have nS : 0 < l.length:=by omega
 have jZ:=Am (he _ (aQ (show 0 < l.length by omega)) hx0);have HX0:=Am hx0;have jY:=Am hl;clear hl he hx0;have E:=PE.start h hn;clear h hn;obtain ⟨bP,bQ,bT,bU,bV,bW⟩:=dD.out.at E.out.st.b;clear hn0 hk0;go_enter Tryz.func57,Tryz.ntmps57
 go_wp2_with (first
  | (go_at_call 54;(try clear c0 c1 c2 c3 c4 c5);(with_reducible first|refine PE.ig E ?_|refine PE.iE E ?_|refine PE.iI E ?_|refine PE.gV E ?_);intro w1 E c0 c1 c2 c3 c4 c5;(try ((try clear bP bQ bT bU bV bW);obtain ⟨bP,bQ,bT,bU,bV,bW⟩:=dD.out.at E.out.st.b)))
  | (go_at_call 85;(try clear c0 c1 c2 c3 c4 c5);(with_reducible refine PE.call E E.out (fun st => wz.all jZ.out HX0.out st gJ.out) (fun w1 E c0 c1 c2 c3 c4 c5 => ?_));(try ((try clear bP bQ bT bU bV bW);obtain ⟨bP,bQ,bT,bU,bV,bW⟩:=dD.out.at E.out.st.b)))
  | fail)
 all_goals
  first|go_end0|go_ret|(refine bodyPost_ret (results_none rfl _ _ _) rfl ?_)
  exact ⟨rfl,E.out.st,E.out.fr⟩
theorem sN.TN0 {p : Nat} {w0 w : World} {F r : List Int} {f0 : Int} {f1 : ByteArray} {f2 : Int} {l : List ak} {q : Int} {A : Option Addr} {c : Nat} {n : Nat} (hl : l.length = 1) (he : ∀ y ∈ l,bJ y = true → jF n y) (hx0 : (nd l 0).f0 = 56) (h : St false p w0 F (ku (dX n) ⟨f0,f1,f2,true,l,q⟩ ++ r) w) (hn : ND w0 ⟨f0,f1,f2,true,l,q⟩ A c) : Calls Tryz.prog 57 #[.pointer (some ⟨p,0,none⟩),val ⟨f0,f1,f2,true,l,q⟩ A c] w (gW false p w0 F r (.tuple #[]) w):=by
 simp only [ku,qU,sK,Bool.false_eq_true,if_false,if_true,List.length_drop,iP,Nat.zero_add,List.append_assoc,List.nil_append,List.append_nil,eq_true (show l.length - 1 = 0 by omega),eq_true hx0] at h;obtain ⟨ad,rfl⟩:=aT hn.C (show 0 < l.length by omega);obtain ⟨A0,d0,hn0,hk0⟩:=ng hn.C (show 0 < l.length by omega);have gJ:=Am hn0;have dD:=Am hk0;have e1 : (((l.length - 1 : Nat) : Int) == 0) = true:=by rw [hl];rfl
 have nR : (0 : Int) < (l.length : Int):=by omega
 have nS : 0 < l.length:=by omega
 have oZ : ((nd l 0).f0 != 56) = false:=by rw [bne,hx0];rfl
 have jY:=Am hl;clear hl he hx0;have E:=PE.start h hn;clear h hn;obtain ⟨bP,bQ,bT,bU,bV,bW⟩:=dD.out.at E.out.st.b;clear hn0 hk0;go_enter Tryz.func57,Tryz.ntmps57
 go_wp2_with (first
  | (go_at_call 54;(try clear c0 c1 c2 c3 c4 c5);(with_reducible first|refine PE.ig E ?_|refine PE.iE E ?_|refine PE.iI E ?_|refine PE.gV E ?_);intro w1 E c0 c1 c2 c3 c4 c5;(try ((try clear bP bQ bT bU bV bW);obtain ⟨bP,bQ,bT,bU,bV,bW⟩:=dD.out.at E.out.st.b)))
  | fail)
 all_goals
  first|go_end0|go_ret|(refine bodyPost_ret (results_none rfl _ _ _) rfl ?_)
  exact ⟨rfl,E.out.st,E.out.fr⟩
theorem sN.TNL {p : Nat} {w0 w : World} {F r : List Int} {f0 : Int} {f1 : ByteArray} {f2 : Int} {l : List ak} {q : Int} {A : Option Addr} {c : Nat} {n : Nat} (hl : l.length = 2) (he : ∀ y ∈ l,bJ y = true → jF n y) (hx0 : (nd l 0).f0 = 56) (tV : (nd l 1).f0 = 44) (hx1 : ∀ y ∈ (nd l 1).f4,bJ y = true) (he1 : ∀ y ∈ (nd l 1).f4,jF n y) (h : St false p w0 F (ku (dX n) ⟨f0,f1,f2,true,l,q⟩ ++ r) w) (hn : ND w0 ⟨f0,f1,f2,true,l,q⟩ A c) : Calls Tryz.prog 57 #[.pointer (some ⟨p,0,none⟩),val ⟨f0,f1,f2,true,l,q⟩ A c] w (gW false p w0 F r (.tuple #[]) w):=by
 simp only [ku,qU,sK,Bool.false_eq_true,if_false,if_true,List.length_drop,iP,Nat.zero_add,List.append_assoc,List.nil_append,List.append_nil,eq_false (show ¬ l.length - 1 = 0 by omega),eq_true hx0,eq_true tV] at h;obtain ⟨ad,rfl⟩:=aT hn.C (show 0 < l.length by omega);obtain ⟨A0,d0,hn0,hk0⟩:=ng hn.C (show 0 < l.length by omega);have gJ:=Am hn0;have dD:=Am hk0;obtain ⟨A1,d1,hn1,hk1⟩:=yx hn.C (show 1 < l.length by omega);have iO:=Am hn1;have dN:=Am hk1;obtain ⟨c2,rfl⟩ : ∃ k,c = k + 2:=⟨c - 2,by have:=hn.le;dsimp only at this;omega⟩
 have e1 : (((l.length - 1 : Nat) : Int) == 0) = false:=by rw [hl];rfl
 have nR : (0 : Int) < (l.length : Int):=by omega
 have nS : 0 < l.length:=by omega
 have yV : (1 : Int) < (l.length : Int):=by omega
 have yX : 1 < l.length:=by omega
 have oZ : ((nd l 0).f0 != 56) = false:=by rw [bne,hx0];rfl
 have MG : ((nd l 1).f0 == 44) = true:=by rw [tV];rfl
 have BG:=Am hx1;have qA:=Am he1;clear tV hx1 he1;have jY:=Am hl;clear hl he hx0;have E:=PE.start h hn;clear h hn;obtain ⟨bP,bQ,bT,bU,bV,bW⟩:=dD.out.at E.out.st.b;clear hn0 hk0;obtain ⟨k10,k11,k12,k13,k14,k15⟩:=dN.out.at E.out.st.b;clear hn1 hk1;go_enter Tryz.func57,Tryz.ntmps57
 go_wp2_with (first
  | (go_at_call 54;(try clear c0 c1 c2 c3 c4 c5);(with_reducible first|refine PE.ig E ?_|refine PE.iE E ?_|refine PE.iI E ?_|refine PE.gV E ?_);intro w1 E c0 c1 c2 c3 c4 c5;(try ((try clear bP bQ bT bU bV bW);obtain ⟨bP,bQ,bT,bU,bV,bW⟩:=dD.out.at E.out.st.b));(try ((try clear k10 k11 k12 k13 k14 k15);obtain ⟨k10,k11,k12,k13,k14,k15⟩:=dN.out.at E.out.st.b)))
  | (go_at_call 86;(try clear c0 c1 c2 c3 c4 c5);(with_reducible refine PE.call E E.out (fun st => listP.all qA.out BG.out st iO.out.C) (fun w1 E c0 c1 c2 c3 c4 c5 => ?_));(try ((try clear bP bQ bT bU bV bW);obtain ⟨bP,bQ,bT,bU,bV,bW⟩:=dD.out.at E.out.st.b));(try ((try clear k10 k11 k12 k13 k14 k15);obtain ⟨k10,k11,k12,k13,k14,k15⟩:=dN.out.at E.out.st.b)))
  | fail)
 all_goals
  first|go_end0|go_ret|(refine bodyPost_ret (results_none rfl _ _ _) rfl ?_)
  exact ⟨rfl,E.out.st,E.out.fr⟩
theorem sN.TNE {p : Nat} {w0 w : World} {F r : List Int} {f0 : Int} {f1 : ByteArray} {f2 : Int} {l : List ak} {q : Int} {A : Option Addr} {c : Nat} {n : Nat} (hl : l.length = 2) (he : ∀ y ∈ l,bJ y = true → jF n y) (hx0 : (nd l 0).f0 = 56) (hx1 : bJ (nd l 1) = true) (h : St false p w0 F (ku (dX n) ⟨f0,f1,f2,true,l,q⟩ ++ r) w) (hn : ND w0 ⟨f0,f1,f2,true,l,q⟩ A c) : Calls Tryz.prog 57 #[.pointer (some ⟨p,0,none⟩),val ⟨f0,f1,f2,true,l,q⟩ A c] w (gW false p w0 F r (.tuple #[]) w):=by
 simp only [ku,qU,sK,Bool.false_eq_true,if_false,if_true,List.length_drop,iP,Nat.zero_add,List.append_assoc,List.nil_append,List.append_nil,eq_false (show ¬ l.length - 1 = 0 by omega),eq_true hx0,eq_false (show ¬ (nd l 1).f0 = 44 by have:=dw hx1;omega)] at h;obtain ⟨ad,rfl⟩:=aT hn.C (show 0 < l.length by omega);obtain ⟨A0,d0,hn0,hk0⟩:=ng hn.C (show 0 < l.length by omega);have gJ:=Am hn0;have dD:=Am hk0;obtain ⟨A1,d1,hn1,hk1⟩:=yx hn.C (show 1 < l.length by omega);have iO:=Am hn1;have dN:=Am hk1;obtain ⟨c2,rfl⟩ : ∃ k,c = k + 2:=⟨c - 2,by have:=hn.le;dsimp only at this;omega⟩
 have e1 : (((l.length - 1 : Nat) : Int) == 0) = false:=by rw [hl];rfl
 have nR : (0 : Int) < (l.length : Int):=by omega
 have nS : 0 < l.length:=by omega
 have yV : (1 : Int) < (l.length : Int):=by omega
 have yX : 1 < l.length:=by omega
 have oZ : ((nd l 0).f0 != 56) = false:=by rw [bne,hx0];rfl
 have MG : ((nd l 1).f0 == 44) = false:=beq_eq_false_iff_ne.2 (by have:=dw hx1;omega);have qA:=Am (he _ (aQ (show 1 < l.length by omega)) hx1);have BG:=Am hx1;clear hx1;have jY:=Am hl;clear hl he hx0;have E:=PE.start h hn;clear h hn;obtain ⟨bP,bQ,bT,bU,bV,bW⟩:=dD.out.at E.out.st.b;clear hn0 hk0;obtain ⟨k10,k11,k12,k13,k14,k15⟩:=dN.out.at E.out.st.b;clear hn1 hk1;go_enter Tryz.func57,Tryz.ntmps57
 go_wp2_with (first
  | (go_at_call 54;(try clear c0 c1 c2 c3 c4 c5);(with_reducible first|refine PE.ig E ?_|refine PE.iE E ?_|refine PE.iI E ?_|refine PE.gV E ?_);intro w1 E c0 c1 c2 c3 c4 c5;(try ((try clear bP bQ bT bU bV bW);obtain ⟨bP,bQ,bT,bU,bV,bW⟩:=dD.out.at E.out.st.b));(try ((try clear k10 k11 k12 k13 k14 k15);obtain ⟨k10,k11,k12,k13,k14,k15⟩:=dN.out.at E.out.st.b)))
  | (go_at_call 85;(try clear c0 c1 c2 c3 c4 c5);(with_reducible refine PE.call E E.out (fun st => wz.all qA.out BG.out st iO.out) (fun w1 E c0 c1 c2 c3 c4 c5 => ?_));(try ((try clear bP bQ bT bU bV bW);obtain ⟨bP,bQ,bT,bU,bV,bW⟩:=dD.out.at E.out.st.b));(try ((try clear k10 k11 k12 k13 k14 k15);obtain ⟨k10,k11,k12,k13,k14,k15⟩:=dN.out.at E.out.st.b)))
  | fail)
 all_goals
  first|go_end0|go_ret|(refine bodyPost_ret (results_none rfl _ _ _) rfl ?_)
  exact ⟨rfl,E.out.st,E.out.fr⟩
theorem sN.TE0 {p : Nat} {w0 w : World} {F r : List Int} {f0 : Int} {f1 : ByteArray} {f2 : Int} {l : List ak} {q : Int} {A : Option Addr} {c : Nat} {n : Nat} (hl : l.length = 1) (he : ∀ y ∈ l,bJ y = true → jF n y) (hx0 : bJ (nd l 0) = true) (h : St false p w0 F (ku (dX n) ⟨f0,f1,f2,true,l,q⟩ ++ r) w) (hn : ND w0 ⟨f0,f1,f2,true,l,q⟩ A c) : Calls Tryz.prog 57 #[.pointer (some ⟨p,0,none⟩),val ⟨f0,f1,f2,true,l,q⟩ A c] w (gW false p w0 F r (.tuple #[]) w):=by
 simp only [ku,qU,sK,Bool.false_eq_true,if_false,if_true,List.length_drop,iP,Nat.zero_add,List.append_assoc,List.nil_append,List.append_nil,eq_true (show l.length - 1 = 0 by omega),eq_false (show ¬ (nd l 0).f0 = 56 by have:=dw hx0;omega)] at h;obtain ⟨ad,rfl⟩:=aT hn.C (show 0 < l.length by omega);obtain ⟨A0,d0,hn0,hk0⟩:=ng hn.C (show 0 < l.length by omega);have gJ:=Am hn0;have dD:=Am hk0;have e1 : (((l.length - 1 : Nat) : Int) == 0) = true:=by rw [hl];rfl
 have nR : (0 : Int) < (l.length : Int):=by omega
 have nS : 0 < l.length:=by omega
 have oZ : ((nd l 0).f0 != 56) = true:=bne_iff_ne.2 (by have:=dw hx0;omega);have jZ:=Am (he _ (aQ (show 0 < l.length by omega)) hx0);have HX0:=Am hx0;have jY:=Am hl;clear hl he hx0;have E:=PE.start h hn;clear h hn;obtain ⟨bP,bQ,bT,bU,bV,bW⟩:=dD.out.at E.out.st.b;clear hn0 hk0;go_enter Tryz.func57,Tryz.ntmps57
 go_wp2_with (first
  | (go_at_call 54;(try clear c0 c1 c2 c3 c4 c5);(with_reducible first|refine PE.ig E ?_|refine PE.iE E ?_|refine PE.iI E ?_|refine PE.gV E ?_);intro w1 E c0 c1 c2 c3 c4 c5;(try ((try clear bP bQ bT bU bV bW);obtain ⟨bP,bQ,bT,bU,bV,bW⟩:=dD.out.at E.out.st.b)))
  | (go_at_call 85;(try clear c0 c1 c2 c3 c4 c5);(with_reducible refine PE.call E E.out (fun st => wz.all jZ.out HX0.out st gJ.out) (fun w1 E c0 c1 c2 c3 c4 c5 => ?_));(try ((try clear bP bQ bT bU bV bW);obtain ⟨bP,bQ,bT,bU,bV,bW⟩:=dD.out.at E.out.st.b)))
  | fail)
 all_goals
  first|go_end0|go_ret|(refine bodyPost_ret (results_none rfl _ _ _) rfl ?_)
  exact ⟨rfl,E.out.st,E.out.fr⟩
theorem sN.TEL {p : Nat} {w0 w : World} {F r : List Int} {f0 : Int} {f1 : ByteArray} {f2 : Int} {l : List ak} {q : Int} {A : Option Addr} {c : Nat} {n : Nat} (hl : l.length = 2) (he : ∀ y ∈ l,bJ y = true → jF n y) (hx0 : bJ (nd l 0) = true) (tV : (nd l 1).f0 = 44) (hx1 : ∀ y ∈ (nd l 1).f4,bJ y = true) (he1 : ∀ y ∈ (nd l 1).f4,jF n y) (h : St false p w0 F (ku (dX n) ⟨f0,f1,f2,true,l,q⟩ ++ r) w) (hn : ND w0 ⟨f0,f1,f2,true,l,q⟩ A c) : Calls Tryz.prog 57 #[.pointer (some ⟨p,0,none⟩),val ⟨f0,f1,f2,true,l,q⟩ A c] w (gW false p w0 F r (.tuple #[]) w):=by
 simp only [ku,qU,sK,Bool.false_eq_true,if_false,if_true,List.length_drop,iP,Nat.zero_add,List.append_assoc,List.nil_append,List.append_nil,eq_false (show ¬ l.length - 1 = 0 by omega),eq_false (show ¬ (nd l 0).f0 = 56 by have:=dw hx0;omega),eq_true tV] at h;obtain ⟨ad,rfl⟩:=aT hn.C (show 0 < l.length by omega);obtain ⟨A0,d0,hn0,hk0⟩:=ng hn.C (show 0 < l.length by omega);have gJ:=Am hn0;have dD:=Am hk0;obtain ⟨A1,d1,hn1,hk1⟩:=yx hn.C (show 1 < l.length by omega);have iO:=Am hn1;have dN:=Am hk1;obtain ⟨c2,rfl⟩ : ∃ k,c = k + 2:=⟨c - 2,by have:=hn.le;dsimp only at this;omega⟩
 have e1 : (((l.length - 1 : Nat) : Int) == 0) = false:=by rw [hl];rfl
 have nR : (0 : Int) < (l.length : Int):=by omega
 have nS : 0 < l.length:=by omega
 have yV : (1 : Int) < (l.length : Int):=by omega
 have yX : 1 < l.length:=by omega
 have oZ : ((nd l 0).f0 != 56) = true:=bne_iff_ne.2 (by have:=dw hx0;omega);have jZ:=Am (he _ (aQ (show 0 < l.length by omega)) hx0);have HX0:=Am hx0;have MG : ((nd l 1).f0 == 44) = true:=by rw [tV];rfl
 have BG:=Am hx1;have qA:=Am he1;clear tV hx1 he1;have jY:=Am hl;clear hl he hx0;have E:=PE.start h hn;clear h hn;obtain ⟨bP,bQ,bT,bU,bV,bW⟩:=dD.out.at E.out.st.b;clear hn0 hk0;obtain ⟨k10,k11,k12,k13,k14,k15⟩:=dN.out.at E.out.st.b;clear hn1 hk1;go_enter Tryz.func57,Tryz.ntmps57
 go_wp2_with (first
  | (go_at_call 54;(try clear c0 c1 c2 c3 c4 c5);(with_reducible first|refine PE.ig E ?_|refine PE.iE E ?_|refine PE.iI E ?_|refine PE.gV E ?_);intro w1 E c0 c1 c2 c3 c4 c5;(try ((try clear bP bQ bT bU bV bW);obtain ⟨bP,bQ,bT,bU,bV,bW⟩:=dD.out.at E.out.st.b));(try ((try clear k10 k11 k12 k13 k14 k15);obtain ⟨k10,k11,k12,k13,k14,k15⟩:=dN.out.at E.out.st.b)))
  | (go_at_call 85;(try clear c0 c1 c2 c3 c4 c5);(with_reducible refine PE.call E E.out (fun st => wz.all jZ.out HX0.out st gJ.out) (fun w1 E c0 c1 c2 c3 c4 c5 => ?_));(try ((try clear bP bQ bT bU bV bW);obtain ⟨bP,bQ,bT,bU,bV,bW⟩:=dD.out.at E.out.st.b));(try ((try clear k10 k11 k12 k13 k14 k15);obtain ⟨k10,k11,k12,k13,k14,k15⟩:=dN.out.at E.out.st.b)))
  | (go_at_call 86;(try clear c0 c1 c2 c3 c4 c5);(with_reducible refine PE.call E E.out (fun st => listP.all qA.out BG.out st iO.out.C) (fun w1 E c0 c1 c2 c3 c4 c5 => ?_));(try ((try clear bP bQ bT bU bV bW);obtain ⟨bP,bQ,bT,bU,bV,bW⟩:=dD.out.at E.out.st.b));(try ((try clear k10 k11 k12 k13 k14 k15);obtain ⟨k10,k11,k12,k13,k14,k15⟩:=dN.out.at E.out.st.b)))
  | fail)
 all_goals
  first|go_end0|go_ret|(refine bodyPost_ret (results_none rfl _ _ _) rfl ?_)
  exact ⟨rfl,E.out.st,E.out.fr⟩
theorem sN.TEE {p : Nat} {w0 w : World} {F r : List Int} {f0 : Int} {f1 : ByteArray} {f2 : Int} {l : List ak} {q : Int} {A : Option Addr} {c : Nat} {n : Nat} (hl : l.length = 2) (he : ∀ y ∈ l,bJ y = true → jF n y) (hx0 : bJ (nd l 0) = true) (hx1 : bJ (nd l 1) = true) (h : St false p w0 F (ku (dX n) ⟨f0,f1,f2,true,l,q⟩ ++ r) w) (hn : ND w0 ⟨f0,f1,f2,true,l,q⟩ A c) : Calls Tryz.prog 57 #[.pointer (some ⟨p,0,none⟩),val ⟨f0,f1,f2,true,l,q⟩ A c] w (gW false p w0 F r (.tuple #[]) w):=by
 simp only [ku,qU,sK,Bool.false_eq_true,if_false,if_true,List.length_drop,iP,Nat.zero_add,List.append_assoc,List.nil_append,List.append_nil,eq_false (show ¬ l.length - 1 = 0 by omega),eq_false (show ¬ (nd l 0).f0 = 56 by have:=dw hx0;omega),eq_false (show ¬ (nd l 1).f0 = 44 by have:=dw hx1;omega)] at h;obtain ⟨ad,rfl⟩:=aT hn.C (show 0 < l.length by omega);obtain ⟨A0,d0,hn0,hk0⟩:=ng hn.C (show 0 < l.length by omega);have gJ:=Am hn0;have dD:=Am hk0;obtain ⟨A1,d1,hn1,hk1⟩:=yx hn.C (show 1 < l.length by omega);have iO:=Am hn1;have dN:=Am hk1;obtain ⟨c2,rfl⟩ : ∃ k,c = k + 2:=⟨c - 2,by have:=hn.le;dsimp only at this;omega⟩
 have e1 : (((l.length - 1 : Nat) : Int) == 0) = false:=by rw [hl];rfl
 have nR : (0 : Int) < (l.length : Int):=by omega
 have nS : 0 < l.length:=by omega
 have yV : (1 : Int) < (l.length : Int):=by omega
 have yX : 1 < l.length:=by omega
 have oZ : ((nd l 0).f0 != 56) = true:=bne_iff_ne.2 (by have:=dw hx0;omega);have jZ:=Am (he _ (aQ (show 0 < l.length by omega)) hx0);have HX0:=Am hx0;have MG : ((nd l 1).f0 == 44) = false:=beq_eq_false_iff_ne.2 (by have:=dw hx1;omega);have qA:=Am (he _ (aQ (show 1 < l.length by omega)) hx1);have BG:=Am hx1;clear hx1;have tk0 : True:=trivial;have jY:=Am hl;clear hl he hx0;have E:=PE.start h hn;clear h hn;obtain ⟨bP,bQ,bT,bU,bV,bW⟩:=dD.out.at E.out.st.b;clear hn0 hk0;obtain ⟨k10,k11,k12,k13,k14,k15⟩:=dN.out.at E.out.st.b;clear hn1 hk1;go_enter Tryz.func57,Tryz.ntmps57
 go_wp2_with (first
  | (go_at_call 54;(try clear c0 c1 c2 c3 c4 c5);(with_reducible first|refine PE.ig E ?_|refine PE.iE E ?_|refine PE.iI E ?_|refine PE.gV E ?_);intro w1 E c0 c1 c2 c3 c4 c5;(try ((try clear bP bQ bT bU bV bW);obtain ⟨bP,bQ,bT,bU,bV,bW⟩:=dD.out.at E.out.st.b));(try ((try clear k10 k11 k12 k13 k14 k15);obtain ⟨k10,k11,k12,k13,k14,k15⟩:=dN.out.at E.out.st.b)))
  | (go_at_call 85;have t_:=tk0;clear t_ tk0;(try clear c0 c1 c2 c3 c4 c5);(refine PE.call E E.out (fun st => wz.all jZ.out HX0.out st gJ.out) (fun w1 E c0 c1 c2 c3 c4 c5 => ?_));(try ((try clear bP bQ bT bU bV bW);obtain ⟨bP,bQ,bT,bU,bV,bW⟩:=dD.out.at E.out.st.b));(try ((try clear k10 k11 k12 k13 k14 k15);obtain ⟨k10,k11,k12,k13,k14,k15⟩:=dN.out.at E.out.st.b)))
  | (go_at_call 85;(try clear c0 c1 c2 c3 c4 c5);(with_reducible refine PE.call E E.out (fun st => wz.all qA.out BG.out st iO.out) (fun w1 E c0 c1 c2 c3 c4 c5 => ?_));(try ((try clear bP bQ bT bU bV bW);obtain ⟨bP,bQ,bT,bU,bV,bW⟩:=dD.out.at E.out.st.b));(try ((try clear k10 k11 k12 k13 k14 k15);obtain ⟨k10,k11,k12,k13,k14,k15⟩:=dN.out.at E.out.st.b)))
  | fail)
 all_goals
  first|go_end0|go_ret|(refine bodyPost_ret (results_none rfl _ _ _) rfl ?_)
  exact ⟨rfl,E.out.st,E.out.fr⟩
structure KnP (n : Nat) : Prop where
 e : ∀ y : ak,SizeOf.sizeOf y < n → bJ y = true → Tm y → jF n y
 l : ∀ y : ak,SizeOf.sizeOf y < n → pG y = true → Tm y → ug n y
theorem sN.all {n : Nat} {p : Nat} {w0 w : World} {F r : List Int} {x : ak} {A : Option Addr} {c : Nat} (K : KnP n) (hz : SizeOf.sizeOf x ≤ n) (hv : vaB x = true) (hm : Tm x) (h : St false p w0 F (ku (dX n) x ++ r) w) (hn : ND w0 x A c) : Calls Tryz.prog 57 #[.pointer (some ⟨p,0,none⟩),val x A c] w (gW false p w0 F r (.tuple #[]) w):=by
 obtain ⟨hk,h3⟩:=va_43 hv;have hb : ∀ y ∈ x.f4,bK y = true:=(uf (by unfold vaB at hv;rw [Bool.and_eq_true] at hv;exact hv.2) (by omega)).2;have he0 : ∀ y ∈ x.f4,bJ y = true → jF n y:=fun y hy hx => K.e y (Nat.lt_of_lt_of_le (dI hy) hz) hx (hm.kid hy)
 have hd : ∀ y ∈ x.f4,(∀ z ∈ y.f4,bJ z = true) → ∀ z ∈ y.f4,jF n z:=fun y hy hx z hz' => K.e z (by have:=dI hy;have:=dI hz';omega) (hx z hz') ((hm.kid hy).kid hz')
 clear hb hm K;obtain ⟨f0,f1,f2,f3,l,q⟩:=x;dsimp only at hk h3 he0 hd;cases f3 with
 | true =>
  rw [if_pos rfl] at h3;obtain ⟨h0,h1,h2⟩:=h3;by_cases ql : (nd l 0).f0 = 56
  · rcases h2 with h2 | ⟨h2,⟨tV,hl⟩|h4⟩
    · exact sN.TN0 h2 he0 ql h hn
    · exact sN.TNL h2 he0 ql tV hl (hd _ (aQ (by omega)) hl) h hn
    · exact sN.TNE h2 he0 ql h4 h hn
  · have h1:=h1.resolve_left ql;rcases h2 with h2 | ⟨h2,⟨tV,hl⟩|h4⟩
    · exact sN.TE0 h2 he0 h1 h hn
    · exact sN.TEL h2 he0 h1 tV hl (hd _ (aQ (by omega)) hl) h hn
    · exact sN.TEE h2 he0 h1 h4 h hn
 | false =>
  rw [if_neg (by decide)] at h3;rcases h3 with h3 | ⟨h3,h4⟩
  · exact sN.F0 h3 h hn
  · exact sN.F1 h3 he0 h4 h hn
theorem PE.back {s : Bool} {p g g2 : Nat} {w0 : World} {x y : ak} {A A' : Option Addr} {c c' : Nat} {F r r0 : List Int} {ws W W1 : World} (E : PE s p g w0 x A c F r0 ws W) (E2 : PE s p g2 w0 y A' c' F r W W1) : PE s p g w0 x A c F r ws W1:=⟨E2.st,E2.fr.keep _ 25 _ E.n E.ne (by decide),E.ne,E.k,E.fr.trans E2.fr⟩
def foG (e : ak → List Int) (l : List ak) (t : List Int) : Nat → List Int
 | 0 => sK e (nd l 0) ++ (bytesOf ⟨#[59,32]⟩ ++ (sK e (nd l 1) ++ (bytesOf ⟨#[59,32]⟩ ++ (sK e (nd l 2) ++ t))))
 | 1 => bytesOf ⟨#[59,32]⟩ ++ (sK e (nd l 1) ++ (bytesOf ⟨#[59,32]⟩ ++ (sK e (nd l 2) ++ t)))
 | 2 => bytesOf ⟨#[59,32]⟩ ++ (sK e (nd l 2) ++ t)
 | _ => t
theorem fo_at {e : ak → List Int} {l : List ak} {t : List Int} {i : Nat} (h : i < 3) : foG e l t i = (if i = 0 then [] else bytesOf ⟨#[59,32]⟩) ++ (sK e (nd l i) ++ foG e l t (i + 1)):=by
 match i,h with
 | 0,_ => rfl
 | 1,_ => rfl
 | 2,_ => rfl
theorem fo_end {e : ak → List Int} {l : List ak} {t : List Int} {i : Nat} (h : ¬ i < 3) : foG e l t i = t:=by
 match i,h with
 | n + 3,_ => rfl
theorem PE.frr {s : Bool} {p g : Nat} {w0 : World} {x : ak} {A : Option Addr} {c : Nat} {F r : List Int} {ws W : World} (_ : PE s p g w0 x A c F r ws W) : Fr p W W:=Fr.refl _ _
theorem forP.all {n : Nat} {p : Nat} {w0 w : World} {F r : List Int} {x : ak} {A : Option Addr} {c : Nat} (K : KnP n) (hz : SizeOf.sizeOf x ≤ n) (hk : x.f0 = 52) (hy : bK x = true) (hm : Tm x) (h : St false p w0 F (Iw (dX n) (iQ n) x ++ r) w) (hn : ND w0 x A c) : Calls Tryz.prog 55 #[.pointer (some ⟨p,0,none⟩),val x A c] w (gW false p w0 F r (.tuple #[]) w):=by
 obtain ⟨hl,hi3,hx3⟩:=st_52 hy hk;have HE:=Am (show ∀ i,i < 3 → (nd x.f4 i).f0 ≠ 56 → bJ (nd x.f4 i) = true ∧ jF n (nd x.f4 i) from fun i hi h2 => by
  have hx:=(hi3 i hi).resolve_left h2;have hme:=aQ (xs:=x.f4) (i:=i) (by omega);exact ⟨hx,K.e _ (Nat.lt_of_lt_of_le (dI hme) hz) hx (hm.kid hme)⟩)
 have HL3:=Am (K.l (nd x.f4 3) (Nat.lt_of_lt_of_le (dI (aQ (by omega))) hz) hx3 (hm.kid (aQ (by omega))));have h:=(show St false p w0 F (bytesOf ⟨#[102,111,114,32,40]⟩ ++ foG (dX n) x.f4 (bytesOf ⟨#[41,10]⟩ ++ (iQ n (nd x.f4 3) ++ r)) 0) w from by unfold Iw at h;simp only [List.append_assoc] at h;exact h)
 obtain ⟨ad,rfl⟩:=aT hn.C (show 0 < x.f4.length by omega);obtain ⟨A3,d3,hn3,hk3⟩:=kd3 hn.C (show 3 < x.f4.length by omega);have HN3:=Am hn3;have qV:=Am hk3;obtain ⟨cq,rfl⟩ : ∃ k,c = k + 4:=⟨c - 4,by have:=hn.le;omega⟩
 have q3a : (3 : Int) < (x.f4.length : Int):=by omega
 have q3b : 3 < x.f4.length:=by omega
 have q3c : 3 ≤ x.f4.length:=by omega
 have jY:=Am hl;have E:=PE.start h hn;clear h hn hn3 hk3 hl hk hy hm K hz hi3 hx3;go_enter Tryz.func55,Tryz.ntmps55
 go_wp2_with (first
  | (go_at_call 54;(try clear c0 c1 c2 c3 c4 c5);(with_reducible first|refine PE.ig E ?_|refine PE.iE E ?_|refine PE.iI E ?_|refine PE.gV E ?_);intro w1 E c0 c1 c2 c3 c4 c5)
  | fail)
 try clear c0 c1 c2 c3 c4 c5
 go_loopg [13] 3 (fun kq v w' => ∃ i : Nat,v = .int .i64 i ∧ Ad (i + kq = 3) ∧ Ad (PE false p w.heap.size w0 x (some ad) (cq + 4) F (foG (dX n) x.f4 (bytesOf ⟨#[41,10]⟩ ++ (iQ n (nd x.f4 3) ++ r)) i) w w'))
 case atStart => exact ⟨0,rfl,⟨by omega⟩,E⟩
 case round =>
  obtain ⟨i,rfl,HI,EN⟩:=hrel;by_cases hi : i < 3
  · have gZ:=Am hi;have qp : decide (i < 3) = true:=decide_eq_true hi;have e1 : decide ((i : Int) < (3 : Int)) = true:=decide_eq_true (by omega);have p1 : (0 : Int) ≤ (i : Int):=by omega
    have q1 : (i : Int) < (3 : Int):=by omega
    have w3 : wrap64 ((i : Int) + 1) = (i : Int) + 1:=by unfold wrap64;omega
    have w4 : IntKind.i64.wrap ((i : Int) + 1) = (i : Int) + 1:=(bY _).trans w3;obtain ⟨ad1,A',c',he,hn,hkn⟩:=uX EN.out.k.C i (by have:=jY.out;omega);obtain rfl:=Option.some.inj he;have HN:=Am hn;have oI:=Am hkn;obtain ⟨k0,k1,k2,k3,k4,k5⟩:=oI.out.at EN.out.st.b;have ST:=Am EN.out.st;have HF:=Am EN.out.frr;rw [fo_at hi] at ST;(try simp only [List.append_assoc] at ST);clear hn hkn he;by_cases h0 : i = 0
    · have g1 : decide ((0 : Int) < (i : Int)) = false:=decide_eq_false (by omega);have g2 : decide (0 < i) = false:=decide_eq_false (by omega);rw [if_pos h0,List.nil_append] at ST;have H0:=Am h0;clear h0;by_cases ql : (nd x.f4 i).f0 = 56
      · have oZ : ((nd x.f4 i).f0 != 56) = false:=by rw [bne,ql];rfl
        unfold sK at ST;rw [if_pos ql,List.nil_append] at ST;clear ql hi;go_wp2_with (first
         | (with_reducible refine dJ rfl rfl rfl ?_;rintro g wa hg hz hB;have mZ:=Am hB;have HZ:=Am hz;have kJ:=Am hg;clear hg hz hB)
         | (refine dL rfl rfl rfl (x:=nd x.f4 i) (A:=A') (c:=c') rfl rfl HZ.out ?_;rintro wb hN hB;have E:=PE.box ST.out HF.out (mZ.out.trans (hB.mono (Nat.le_of_eq kJ.out.symm))) (Nat.le_of_eq kJ.out.symm) hN HN.out;(try clear k0 k1 k2 k3 k4 k5);obtain ⟨c0,c1,c2,c3,c4,c5⟩:=E.out.cells;clear hN hB)
         | fail)
        go_roundg (3 - (i + 1))
        case measure => have:=HI.out;have:=gZ.out;omega
        case rel => exact ⟨i + 1,by (try simp only [w4,w3]);rfl,⟨by have:=HI.out;have:=gZ.out;omega⟩,⟨EN.out.back E.out⟩⟩
      · have oZ : ((nd x.f4 i).f0 != 56) = true:=bne_iff_ne.2 ql;unfold sK at ST;rw [if_neg ql] at ST;have HX:=Am (HE.out i hi ql);clear ql hi;go_wp2_with (first
         | (with_reducible refine dJ rfl rfl rfl ?_;rintro g wa hg hz hB;have mZ:=Am hB;have HZ:=Am hz;have kJ:=Am hg;clear hg hz hB)
         | (refine dL rfl rfl rfl (x:=nd x.f4 i) (A:=A') (c:=c') rfl rfl HZ.out ?_;rintro wb hN hB;have E:=PE.box ST.out HF.out (mZ.out.trans (hB.mono (Nat.le_of_eq kJ.out.symm))) (Nat.le_of_eq kJ.out.symm) hN HN.out;(try clear k0 k1 k2 k3 k4 k5);obtain ⟨c0,c1,c2,c3,c4,c5⟩:=E.out.cells;clear hN hB)
         | (go_at_call 85;(try clear c0 c1 c2 c3 c4 c5);(with_reducible refine PE.call E E.out (fun st => wz.all HX.out.2 HX.out.1 st E.out.k) (fun w1 E c0 c1 c2 c3 c4 c5 => ?_)))
         | fail)
        go_roundg (3 - (i + 1))
        case measure => have:=HI.out;have:=gZ.out;omega
        case rel => exact ⟨i + 1,by (try simp only [w4,w3]);rfl,⟨by have:=HI.out;have:=gZ.out;omega⟩,⟨EN.out.back E.out⟩⟩
    · have g1 : decide ((0 : Int) < (i : Int)) = true:=decide_eq_true (by omega);have g2 : decide (0 < i) = true:=decide_eq_true (by omega);rw [if_neg h0] at ST;have H0:=Am h0;clear h0;by_cases ql : (nd x.f4 i).f0 = 56
      · have oZ : ((nd x.f4 i).f0 != 56) = false:=by rw [bne,ql];rfl
        unfold sK at ST;rw [if_pos ql,List.nil_append] at ST;clear ql hi;go_wp2_with (first
         | (with_reducible refine dJ rfl rfl rfl ?_;rintro g wa hg hz hB;have mZ:=Am hB;have HZ:=Am hz;have kJ:=Am hg;clear hg hz hB)
         | (refine dL rfl rfl rfl (x:=nd x.f4 i) (A:=A') (c:=c') rfl rfl HZ.out ?_;rintro wb hN hB;have E:=PE.box ST.out HF.out (mZ.out.trans (hB.mono (Nat.le_of_eq kJ.out.symm))) (Nat.le_of_eq kJ.out.symm) hN HN.out;(try clear k0 k1 k2 k3 k4 k5);obtain ⟨c0,c1,c2,c3,c4,c5⟩:=E.out.cells;clear hN hB)
         | (go_at_call 54;(try clear c0 c1 c2 c3 c4 c5);(with_reducible first|refine PE.ig E ?_|refine PE.iE E ?_|refine PE.iI E ?_|refine PE.gV E ?_);intro w1 E c0 c1 c2 c3 c4 c5)
         | fail)
        go_roundg (3 - (i + 1))
        case measure => have:=HI.out;have:=gZ.out;omega
        case rel => exact ⟨i + 1,by (try simp only [w4,w3]);rfl,⟨by have:=HI.out;have:=gZ.out;omega⟩,⟨EN.out.back E.out⟩⟩
      · have oZ : ((nd x.f4 i).f0 != 56) = true:=bne_iff_ne.2 ql;unfold sK at ST;rw [if_neg ql] at ST;have HX:=Am (HE.out i hi ql);clear ql hi;go_wp2_with (first
         | (with_reducible refine dJ rfl rfl rfl ?_;rintro g wa hg hz hB;have mZ:=Am hB;have HZ:=Am hz;have kJ:=Am hg;clear hg hz hB)
         | (refine dL rfl rfl rfl (x:=nd x.f4 i) (A:=A') (c:=c') rfl rfl HZ.out ?_;rintro wb hN hB;have E:=PE.box ST.out HF.out (mZ.out.trans (hB.mono (Nat.le_of_eq kJ.out.symm))) (Nat.le_of_eq kJ.out.symm) hN HN.out;(try clear k0 k1 k2 k3 k4 k5);obtain ⟨c0,c1,c2,c3,c4,c5⟩:=E.out.cells;clear hN hB)
         | (go_at_call 54;(try clear c0 c1 c2 c3 c4 c5);(with_reducible first|refine PE.ig E ?_|refine PE.iE E ?_|refine PE.iI E ?_|refine PE.gV E ?_);intro w1 E c0 c1 c2 c3 c4 c5)
         | (go_at_call 85;(try clear c0 c1 c2 c3 c4 c5);(with_reducible refine PE.call E E.out (fun st => wz.all HX.out.2 HX.out.1 st E.out.k) (fun w1 E c0 c1 c2 c3 c4 c5 => ?_)))
         | fail)
        go_roundg (3 - (i + 1))
        case measure => have:=HI.out;have:=gZ.out;omega
        case rel => exact ⟨i + 1,by (try simp only [w4,w3]);rfl,⟨by have:=HI.out;have:=gZ.out;omega⟩,⟨EN.out.back E.out⟩⟩
  · have qp : decide (i < 3) = false:=decide_eq_false hi;have e1 : decide ((i : Int) < (3 : Int)) = false:=decide_eq_false (by omega);rw [fo_end hi] at EN;have E:=EN;obtain ⟨c0,c1,c2,c3,c4,c5⟩:=E.out.cells;obtain ⟨k30,k31,k32,k33,k34,uh⟩:=qV.out.at E.out.st.b;clear hi HI EN;go_wp2_with (first
     | (go_at_call 54;(try clear c0 c1 c2 c3 c4 c5);(with_reducible first|refine PE.ig E ?_|refine PE.iE E ?_|refine PE.iI E ?_|refine PE.gV E ?_);intro w1 E c0 c1 c2 c3 c4 c5;(try ((try clear k30 k31 k32 k33 k34 uh);obtain ⟨k30,k31,k32,k33,k34,uh⟩:=qV.out.at E.out.st.b)))
     | (go_at_call 38;(try clear c0 c1 c2 c3 c4 c5);(with_reducible refine PE.call E E.out (fun st => HL3.out.go st HN3.out) (fun w1 E c0 c1 c2 c3 c4 c5 => ?_));(try ((try clear k30 k31 k32 k33 k34 uh);obtain ⟨k30,k31,k32,k33,k34,uh⟩:=qV.out.at E.out.st.b)))
     | fail)
    first|go_end0|(refine bodyPost_ret (results_none rfl _ _ _) rfl ?_)
    exact ⟨rfl,E.out.st,E.out.fr⟩
theorem oQ.k48 {p : Nat} {w0 w : World} {F r : List Int} {x : ak} {A : Option Addr} {c : Nat} {n : Nat} (he : ∀ y ∈ x.f4,bJ y = true → jF n y) (hl : x.f4.length = 1) (hx0 : bJ (nd x.f4 0) = true) (hk : x.f0 = 48) (h : St false p w0 F (oO (dX n) (nd x.f4 0) 0 ++ bytesOf ⟨#[59]⟩ ++ r) w) (hn : ND w0 x A c) : Calls Tryz.prog 59 #[.pointer (some ⟨p,0,none⟩),val x A c] w (gW false p w0 F r (.tuple #[]) w):=by
 have nR : (0 : Int) < (x.f4.length : Int):=by omega
 have nS : 0 < x.f4.length:=by omega
 obtain ⟨ad,rfl⟩:=aT hn.C (show 0 < x.f4.length by omega);obtain ⟨A0,d0,hn0,hk0⟩:=ng hn.C (show 0 < x.f4.length by omega);have gJ:=Am hn0;have dD:=Am hk0;have rH:=Yt hk 48 rfl
 have uY:=Yf hk 53 rfl
 have uZ:=Yf hk 54 rfl
 have uF:=Yf hk 55 rfl
 have jZ:=Am (he _ (aQ (show 0 < x.f4.length by omega)) hx0);have HX0:=Am hx0;clear he hx0;have jY:=Am hl;clear hl;(try simp only [List.append_assoc] at h);have E:=PE.start h hn;clear h hn;obtain ⟨bP,bQ,bT,bU,bV,bW⟩:=dD.out.at E.out.st.b;clear hn0 hk0;have HKK:=Am hk;clear hk;go_enter Tryz.func59,Tryz.ntmps59
 go_wp2_with (first
  | (go_at_call 54;(try clear c0 c1 c2 c3 c4 c5);(with_reducible first|refine PE.ig E ?_|refine PE.iE E ?_|refine PE.iI E ?_|refine PE.gV E ?_);intro w1 E c0 c1 c2 c3 c4 c5;(try ((try clear bP bQ bT bU bV bW);obtain ⟨bP,bQ,bT,bU,bV,bW⟩:=dD.out.at E.out.st.b)))
  | (go_at_call 85;(try clear c0 c1 c2 c3 c4 c5);(with_reducible refine PE.call E E.out (fun st => wz.all jZ.out HX0.out st gJ.out) (fun w1 E c0 c1 c2 c3 c4 c5 => ?_));(try ((try clear bP bQ bT bU bV bW);obtain ⟨bP,bQ,bT,bU,bV,bW⟩:=dD.out.at E.out.st.b)))
  | fail)
 first|go_end0|go_ret|(refine bodyPost_ret (results_none rfl _ _ _) rfl ?_)
 exact ⟨rfl,E.out.st,E.out.fr⟩
theorem oQ.k53 {p : Nat} {w0 w : World} {F r : List Int} {x : ak} {A : Option Addr} {c : Nat} {n : Nat} (hk : x.f0 = 53) (h : St false p w0 F (bytesOf ⟨#[98,114,101,97,107]⟩ ++ bytesOf ⟨#[59]⟩ ++ r) w) (hn : ND w0 x A c) : Calls Tryz.prog 59 #[.pointer (some ⟨p,0,none⟩),val x A c] w (gW false p w0 F r (.tuple #[]) w):=by
 have rH:=Yf hk 48 rfl
 have uY:=Yt hk 53 rfl
 have uZ:=Yf hk 54 rfl
 have uF:=Yf hk 55 rfl
 (try simp only [List.append_assoc] at h);have E:=PE.start h hn;clear h hn;have HKK:=Am hk;clear hk;go_enter Tryz.func59,Tryz.ntmps59
 go_wp2_with (first
  | (go_at_call 54;(try clear c0 c1 c2 c3 c4 c5);(with_reducible first|refine PE.ig E ?_|refine PE.iE E ?_|refine PE.iI E ?_|refine PE.gV E ?_);intro w1 E c0 c1 c2 c3 c4 c5)
  | fail)
 first|go_end0|go_ret|(refine bodyPost_ret (results_none rfl _ _ _) rfl ?_)
 exact ⟨rfl,E.out.st,E.out.fr⟩
theorem oQ.k54 {p : Nat} {w0 w : World} {F r : List Int} {x : ak} {A : Option Addr} {c : Nat} {n : Nat} (hk : x.f0 = 54) (h : St false p w0 F (bytesOf ⟨#[99,111,110,116,105,110,117,101]⟩ ++ bytesOf ⟨#[59]⟩ ++ r) w) (hn : ND w0 x A c) : Calls Tryz.prog 59 #[.pointer (some ⟨p,0,none⟩),val x A c] w (gW false p w0 F r (.tuple #[]) w):=by
 have rH:=Yf hk 48 rfl
 have uY:=Yf hk 53 rfl
 have uZ:=Yt hk 54 rfl
 have uF:=Yf hk 55 rfl
 (try simp only [List.append_assoc] at h);have E:=PE.start h hn;clear h hn;have HKK:=Am hk;clear hk;go_enter Tryz.func59,Tryz.ntmps59
 go_wp2_with (first
  | (go_at_call 54;(try clear c0 c1 c2 c3 c4 c5);(with_reducible first|refine PE.ig E ?_|refine PE.iE E ?_|refine PE.iI E ?_|refine PE.gV E ?_);intro w1 E c0 c1 c2 c3 c4 c5)
  | fail)
 first|go_end0|go_ret|(refine bodyPost_ret (results_none rfl _ _ _) rfl ?_)
 exact ⟨rfl,E.out.st,E.out.fr⟩
theorem oQ.k56 {p : Nat} {w0 w : World} {F r : List Int} {x : ak} {A : Option Addr} {c : Nat} {n : Nat} (hk : x.f0 = 56) (h : St false p w0 F (bytesOf ⟨#[59]⟩ ++ r) w) (hn : ND w0 x A c) : Calls Tryz.prog 59 #[.pointer (some ⟨p,0,none⟩),val x A c] w (gW false p w0 F r (.tuple #[]) w):=by
 have rH:=Yf hk 48 rfl
 have uY:=Yf hk 53 rfl
 have uZ:=Yf hk 54 rfl
 have uF:=Yf hk 55 rfl
 (try simp only [List.append_assoc] at h);have E:=PE.start h hn;clear h hn;have HKK:=Am hk;clear hk;go_enter Tryz.func59,Tryz.ntmps59
 go_wp2_with (first
  | (go_at_call 54;(try clear c0 c1 c2 c3 c4 c5);(with_reducible first|refine PE.ig E ?_|refine PE.iE E ?_|refine PE.iI E ?_|refine PE.gV E ?_);intro w1 E c0 c1 c2 c3 c4 c5)
  | fail)
 first|go_end0|go_ret|(refine bodyPost_ret (results_none rfl _ _ _) rfl ?_)
 exact ⟨rfl,E.out.st,E.out.fr⟩
theorem oQ.k55a {p : Nat} {w0 w : World} {F r : List Int} {x : ak} {A : Option Addr} {c : Nat} {n : Nat} (hl : x.f4.length = 0) (hk : x.f0 = 55) (h : St false p w0 F (bytesOf ⟨#[114,101,116,117,114,110]⟩ ++ bytesOf ⟨#[59]⟩ ++ r) w) (hn : ND w0 x A c) : Calls Tryz.prog 59 #[.pointer (some ⟨p,0,none⟩),val x A c] w (gW false p w0 F r (.tuple #[]) w):=by
 have rH:=Yf hk 48 rfl
 have uY:=Yf hk 53 rfl
 have uZ:=Yf hk 54 rfl
 have uF:=Yt hk 55 rfl
 have g1 : decide ((0 : Int) < (x.f4.length : Int)) = false:=decide_eq_false (by omega);have g2 : decide (0 < x.f4.length) = false:=decide_eq_false (by omega);have jY:=Am hl;clear hl;(try simp only [List.append_assoc] at h);have E:=PE.start h hn;clear h hn;have HKK:=Am hk;clear hk;go_enter Tryz.func59,Tryz.ntmps59
 go_wp2_with (first
  | (go_at_call 54;(try clear c0 c1 c2 c3 c4 c5);(with_reducible first|refine PE.ig E ?_|refine PE.iE E ?_|refine PE.iI E ?_|refine PE.gV E ?_);intro w1 E c0 c1 c2 c3 c4 c5)
  | fail)
 first|go_end0|go_ret|(refine bodyPost_ret (results_none rfl _ _ _) rfl ?_)
 exact ⟨rfl,E.out.st,E.out.fr⟩
theorem oQ.k55b {p : Nat} {w0 w : World} {F r : List Int} {x : ak} {A : Option Addr} {c : Nat} {n : Nat} (he : ∀ y ∈ x.f4,bJ y = true → jF n y) (hl : x.f4.length = 1) (hx0 : bJ (nd x.f4 0) = true) (hk : x.f0 = 55) (h : St false p w0 F (bytesOf ⟨#[114,101,116,117,114,110]⟩ ++ (bytesOf ⟨#[32]⟩ ++ (oO (dX n) (nd x.f4 0) 0 ++ bytesOf ⟨#[59]⟩)) ++ r) w) (hn : ND w0 x A c) : Calls Tryz.prog 59 #[.pointer (some ⟨p,0,none⟩),val x A c] w (gW false p w0 F r (.tuple #[]) w):=by
 have nR : (0 : Int) < (x.f4.length : Int):=by omega
 have nS : 0 < x.f4.length:=by omega
 obtain ⟨ad,rfl⟩:=aT hn.C (show 0 < x.f4.length by omega);obtain ⟨A0,d0,hn0,hk0⟩:=ng hn.C (show 0 < x.f4.length by omega);have gJ:=Am hn0;have dD:=Am hk0;have rH:=Yf hk 48 rfl
 have uY:=Yf hk 53 rfl
 have uZ:=Yf hk 54 rfl
 have uF:=Yt hk 55 rfl
 have g1 : decide ((0 : Int) < (x.f4.length : Int)) = true:=decide_eq_true (by omega);have g2 : decide (0 < x.f4.length) = true:=decide_eq_true (by omega);have jZ:=Am (he _ (aQ (show 0 < x.f4.length by omega)) hx0);have HX0:=Am hx0;clear he hx0;have jY:=Am hl;clear hl;(try simp only [List.append_assoc] at h);have E:=PE.start h hn;clear h hn;obtain ⟨bP,bQ,bT,bU,bV,bW⟩:=dD.out.at E.out.st.b;clear hn0 hk0;have HKK:=Am hk;clear hk;go_enter Tryz.func59,Tryz.ntmps59
 go_wp2_with (first
  | (go_at_call 54;(try clear c0 c1 c2 c3 c4 c5);(with_reducible first|refine PE.ig E ?_|refine PE.iE E ?_|refine PE.iI E ?_|refine PE.gV E ?_);intro w1 E c0 c1 c2 c3 c4 c5;(try ((try clear bP bQ bT bU bV bW);obtain ⟨bP,bQ,bT,bU,bV,bW⟩:=dD.out.at E.out.st.b)))
  | (go_at_call 85;(try clear c0 c1 c2 c3 c4 c5);(with_reducible refine PE.call E E.out (fun st => wz.all jZ.out HX0.out st gJ.out) (fun w1 E c0 c1 c2 c3 c4 c5 => ?_));(try ((try clear bP bQ bT bU bV bW);obtain ⟨bP,bQ,bT,bU,bV,bW⟩:=dD.out.at E.out.st.b)))
  | fail)
 first|go_end0|go_ret|(refine bodyPost_ret (results_none rfl _ _ _) rfl ?_)
 exact ⟨rfl,E.out.st,E.out.fr⟩
theorem jm.k41 {p : Nat} {w0 w : World} {F r : List Int} {x : ak} {A : Option Addr} {c : Nat} {n : Nat} (ha : ∀ y ∈ x.f4,ug n y) (hk : x.f0 = 41) (h : St false p w0 F (iQ (n + 1) x ++ r) w) (hn : ND w0 x A c) : Calls Tryz.prog 38 #[.pointer (some ⟨p,0,none⟩),val x A c] w (gW false p w0 F r (.tuple #[]) w):=by
 have oM:=Yf hk 49 rfl
 have oW:=Yf hk 50 rfl
 have qj:=Yf hk 52 rfl
 have pz:=Yf hk 51 rfl
 have qW:=Yt hk 41 rfl
 have rJ:=Yf hk 42 rfl
 have uV:=Yf hk 45 rfl
 have nZ:=Yf hk 47 rfl
 have HA:=Am ha;clear ha;rw [Iz hk] at h;(try unfold ln41 at h);(try simp only [List.append_assoc] at h);have E:=PE.start h hn;clear h hn;have HKK:=Am hk;clear hk;go_enter Tryz.func38,Tryz.ntmps38
 go_wp2_with (first
  | (go_at_call 54;(try clear c0 c1 c2 c3 c4 c5);(with_reducible first|refine PE.ig E ?_|refine PE.iE E ?_|refine PE.iI E ?_|refine PE.gV E ?_);intro w1 E c0 c1 c2 c3 c4 c5)
  | (go_at_call 56;(try clear c0 c1 c2 c3 c4 c5);(with_reducible refine PE.call E E.out (fun st => IQ.all HA.out st E.out.k.C) (fun w1 E c0 c1 c2 c3 c4 c5 => ?_)))
  | fail)
 first|go_end0|go_ret|(refine bodyPost_ret (results_none rfl _ _ _) rfl ?_)
 exact ⟨rfl,E.out.st,E.out.fr⟩
theorem jm.k47 {p : Nat} {w0 w : World} {F r : List Int} {x : ak} {A : Option Addr} {c : Nat} {n : Nat} (ha : ∀ y ∈ x.f4,ug n y) (hk : x.f0 = 47) (h : St false p w0 F (iQ (n + 1) x ++ r) w) (hn : ND w0 x A c) : Calls Tryz.prog 38 #[.pointer (some ⟨p,0,none⟩),val x A c] w (gW false p w0 F r (.tuple #[]) w):=by
 have oM:=Yf hk 49 rfl
 have oW:=Yf hk 50 rfl
 have qj:=Yf hk 52 rfl
 have pz:=Yf hk 51 rfl
 have qW:=Yf hk 41 rfl
 have rJ:=Yf hk 42 rfl
 have uV:=Yf hk 45 rfl
 have nZ:=Yt hk 47 rfl
 have HA:=Am ha;clear ha;rw [Ey hk] at h;(try unfold ln47 at h);(try simp only [List.append_assoc] at h);have E:=PE.start h hn;clear h hn;have HKK:=Am hk;clear hk;go_enter Tryz.func38,Tryz.ntmps38
 go_wp2_with (first
  | (go_at_call 54;(try clear c0 c1 c2 c3 c4 c5);(with_reducible first|refine PE.ig E ?_|refine PE.iE E ?_|refine PE.iI E ?_|refine PE.gV E ?_);intro w1 E c0 c1 c2 c3 c4 c5)
  | (go_at_call 56;(try clear c0 c1 c2 c3 c4 c5);(with_reducible refine PE.call E E.out (fun st => IQ.all HA.out st E.out.k.C) (fun w1 E c0 c1 c2 c3 c4 c5 => ?_)))
  | fail)
 first|go_end0|go_ret|(refine bodyPost_ret (results_none rfl _ _ _) rfl ?_)
 exact ⟨rfl,E.out.st,E.out.fr⟩
theorem jm.k48 {p : Nat} {w0 w : World} {F r : List Int} {x : ak} {A : Option Addr} {c : Nat} {n : Nat} (he : ∀ y ∈ x.f4,bJ y = true → jF n y) (hl : x.f4.length = 1) (hx0 : bJ (nd x.f4 0) = true) (hk : x.f0 = 48) (h : St false p w0 F (iQ (n + 1) x ++ r) w) (hn : ND w0 x A c) : Calls Tryz.prog 38 #[.pointer (some ⟨p,0,none⟩),val x A c] w (gW false p w0 F r (.tuple #[]) w):=by
 have oM:=Yf hk 49 rfl
 have oW:=Yf hk 50 rfl
 have qj:=Yf hk 52 rfl
 have pz:=Yf hk 51 rfl
 have qW:=Yf hk 41 rfl
 have rJ:=Yf hk 42 rfl
 have uV:=Yf hk 45 rfl
 have nZ:=Yf hk 47 rfl
 have HE:=Am he;have HL0:=Am hl;have HX0:=Am hx0;have HKD:=Am hk;clear he hx0;have jY:=Am hl;clear hl;rw [IE hk] at h;(try unfold ln48 at h);rw [show (oO (dX n) (nd x.f4 0) 0 ++ (bytesOf ⟨#[59]⟩ ++ bytesOf ⟨#[10]⟩)) ++ r = (oO (dX n) (nd x.f4 0) 0 ++ bytesOf ⟨#[59]⟩) ++ (bytesOf ⟨#[10]⟩ ++ r) from by simp only [List.append_assoc]] at h;have E:=PE.start h hn;clear h hn;have HKK:=Am hk;clear hk;go_enter Tryz.func38,Tryz.ntmps38
 go_wp2_with (first
  | (go_at_call 54;(try clear c0 c1 c2 c3 c4 c5);(with_reducible first|refine PE.ig E ?_|refine PE.iE E ?_|refine PE.iI E ?_|refine PE.gV E ?_);intro w1 E c0 c1 c2 c3 c4 c5)
  | (go_at_call 59;(try clear c0 c1 c2 c3 c4 c5);(with_reducible refine PE.call E E.out (fun st => oQ.k48 HE.out HL0.out HX0.out HKD.out st E.out.k) (fun w1 E c0 c1 c2 c3 c4 c5 => ?_)))
  | fail)
 first|go_end0|go_ret|(refine bodyPost_ret (results_none rfl _ _ _) rfl ?_)
 exact ⟨rfl,E.out.st,E.out.fr⟩
theorem jm.k53 {p : Nat} {w0 w : World} {F r : List Int} {x : ak} {A : Option Addr} {c : Nat} {n : Nat} (hk : x.f0 = 53) (h : St false p w0 F (iQ (n + 1) x ++ r) w) (hn : ND w0 x A c) : Calls Tryz.prog 38 #[.pointer (some ⟨p,0,none⟩),val x A c] w (gW false p w0 F r (.tuple #[]) w):=by
 have oM:=Yf hk 49 rfl
 have oW:=Yf hk 50 rfl
 have qj:=Yf hk 52 rfl
 have pz:=Yf hk 51 rfl
 have qW:=Yf hk 41 rfl
 have rJ:=Yf hk 42 rfl
 have uV:=Yf hk 45 rfl
 have nZ:=Yf hk 47 rfl
 have HKD:=Am hk;rw [IK hk] at h;(try unfold ln53 at h);rw [show (bytesOf ⟨#[98,114,101,97,107]⟩ ++ (bytesOf ⟨#[59]⟩ ++ bytesOf ⟨#[10]⟩)) ++ r = (bytesOf ⟨#[98,114,101,97,107]⟩ ++ bytesOf ⟨#[59]⟩) ++ (bytesOf ⟨#[10]⟩ ++ r) from by simp only [List.append_assoc]] at h;have E:=PE.start h hn;clear h hn;have HKK:=Am hk;clear hk;go_enter Tryz.func38,Tryz.ntmps38
 go_wp2_with (first
  | (go_at_call 54;(try clear c0 c1 c2 c3 c4 c5);(with_reducible first|refine PE.ig E ?_|refine PE.iE E ?_|refine PE.iI E ?_|refine PE.gV E ?_);intro w1 E c0 c1 c2 c3 c4 c5)
  | (go_at_call 59;(try clear c0 c1 c2 c3 c4 c5);(with_reducible refine PE.call E E.out (fun st => oQ.k53 (n:=n) HKD.out st E.out.k) (fun w1 E c0 c1 c2 c3 c4 c5 => ?_)))
  | fail)
 first|go_end0|go_ret|(refine bodyPost_ret (results_none rfl _ _ _) rfl ?_)
 exact ⟨rfl,E.out.st,E.out.fr⟩
theorem jm.k54 {p : Nat} {w0 w : World} {F r : List Int} {x : ak} {A : Option Addr} {c : Nat} {n : Nat} (hk : x.f0 = 54) (h : St false p w0 F (iQ (n + 1) x ++ r) w) (hn : ND w0 x A c) : Calls Tryz.prog 38 #[.pointer (some ⟨p,0,none⟩),val x A c] w (gW false p w0 F r (.tuple #[]) w):=by
 have oM:=Yf hk 49 rfl
 have oW:=Yf hk 50 rfl
 have qj:=Yf hk 52 rfl
 have pz:=Yf hk 51 rfl
 have qW:=Yf hk 41 rfl
 have rJ:=Yf hk 42 rfl
 have uV:=Yf hk 45 rfl
 have nZ:=Yf hk 47 rfl
 have HKD:=Am hk;rw [IL hk] at h;(try unfold ln54 at h);rw [show (bytesOf ⟨#[99,111,110,116,105,110,117,101]⟩ ++ (bytesOf ⟨#[59]⟩ ++ bytesOf ⟨#[10]⟩)) ++ r = (bytesOf ⟨#[99,111,110,116,105,110,117,101]⟩ ++ bytesOf ⟨#[59]⟩) ++ (bytesOf ⟨#[10]⟩ ++ r) from by simp only [List.append_assoc]] at h;have E:=PE.start h hn;clear h hn;have HKK:=Am hk;clear hk;go_enter Tryz.func38,Tryz.ntmps38
 go_wp2_with (first
  | (go_at_call 54;(try clear c0 c1 c2 c3 c4 c5);(with_reducible first|refine PE.ig E ?_|refine PE.iE E ?_|refine PE.iI E ?_|refine PE.gV E ?_);intro w1 E c0 c1 c2 c3 c4 c5)
  | (go_at_call 59;(try clear c0 c1 c2 c3 c4 c5);(with_reducible refine PE.call E E.out (fun st => oQ.k54 (n:=n) HKD.out st E.out.k) (fun w1 E c0 c1 c2 c3 c4 c5 => ?_)))
  | fail)
 first|go_end0|go_ret|(refine bodyPost_ret (results_none rfl _ _ _) rfl ?_)
 exact ⟨rfl,E.out.st,E.out.fr⟩
theorem jm.k56 {p : Nat} {w0 w : World} {F r : List Int} {x : ak} {A : Option Addr} {c : Nat} {n : Nat} (hk : x.f0 = 56) (h : St false p w0 F (iQ (n + 1) x ++ r) w) (hn : ND w0 x A c) : Calls Tryz.prog 38 #[.pointer (some ⟨p,0,none⟩),val x A c] w (gW false p w0 F r (.tuple #[]) w):=by
 have oM:=Yf hk 49 rfl
 have oW:=Yf hk 50 rfl
 have qj:=Yf hk 52 rfl
 have pz:=Yf hk 51 rfl
 have qW:=Yf hk 41 rfl
 have rJ:=Yf hk 42 rfl
 have uV:=Yf hk 45 rfl
 have nZ:=Yf hk 47 rfl
 have HKD:=Am hk;rw [lnT_56 hk] at h;(try unfold Nc at h);(try simp only [List.append_assoc] at h);have E:=PE.start h hn;clear h hn;have HKK:=Am hk;clear hk;go_enter Tryz.func38,Tryz.ntmps38
 go_wp2_with (first
  | (go_at_call 54;(try clear c0 c1 c2 c3 c4 c5);(with_reducible first|refine PE.ig E ?_|refine PE.iE E ?_|refine PE.iI E ?_|refine PE.gV E ?_);intro w1 E c0 c1 c2 c3 c4 c5)
  | (go_at_call 59;(try clear c0 c1 c2 c3 c4 c5);(with_reducible refine PE.call E E.out (fun st => oQ.k56 (n:=n) HKD.out st E.out.k) (fun w1 E c0 c1 c2 c3 c4 c5 => ?_)))
  | fail)
 first|go_end0|go_ret|(refine bodyPost_ret (results_none rfl _ _ _) rfl ?_)
 exact ⟨rfl,E.out.st,E.out.fr⟩
theorem jm.k55a {p : Nat} {w0 w : World} {F r : List Int} {x : ak} {A : Option Addr} {c : Nat} {n : Nat} (hl : x.f4.length = 0) (hk : x.f0 = 55) (h : St false p w0 F (iQ (n + 1) x ++ r) w) (hn : ND w0 x A c) : Calls Tryz.prog 38 #[.pointer (some ⟨p,0,none⟩),val x A c] w (gW false p w0 F r (.tuple #[]) w):=by
 have oM:=Yf hk 49 rfl
 have oW:=Yf hk 50 rfl
 have qj:=Yf hk 52 rfl
 have pz:=Yf hk 51 rfl
 have qW:=Yf hk 41 rfl
 have rJ:=Yf hk 42 rfl
 have uV:=Yf hk 45 rfl
 have nZ:=Yf hk 47 rfl
 have HL0:=Am hl;have HKD:=Am hk;have jY:=Am hl;clear hl;rw [AU hk] at h;unfold Iy at h;rw [if_neg (by have:=HL0.out;omega),show (bytesOf ⟨#[114,101,116,117,114,110]⟩ ++ ([] ++ (bytesOf ⟨#[59]⟩ ++ bytesOf ⟨#[10]⟩))) ++ r = (bytesOf ⟨#[114,101,116,117,114,110]⟩ ++ bytesOf ⟨#[59]⟩) ++ (bytesOf ⟨#[10]⟩ ++ r) from by simp only [List.append_assoc,List.nil_append]] at h;have E:=PE.start h hn;clear h hn;have HKK:=Am hk;clear hk;go_enter Tryz.func38,Tryz.ntmps38
 go_wp2_with (first
  | (go_at_call 54;(try clear c0 c1 c2 c3 c4 c5);(with_reducible first|refine PE.ig E ?_|refine PE.iE E ?_|refine PE.iI E ?_|refine PE.gV E ?_);intro w1 E c0 c1 c2 c3 c4 c5)
  | (go_at_call 59;(try clear c0 c1 c2 c3 c4 c5);(with_reducible refine PE.call E E.out (fun st => oQ.k55a (n:=n) HL0.out HKD.out st E.out.k) (fun w1 E c0 c1 c2 c3 c4 c5 => ?_)))
  | fail)
 first|go_end0|go_ret|(refine bodyPost_ret (results_none rfl _ _ _) rfl ?_)
 exact ⟨rfl,E.out.st,E.out.fr⟩
theorem jm.k55b {p : Nat} {w0 w : World} {F r : List Int} {x : ak} {A : Option Addr} {c : Nat} {n : Nat} (he : ∀ y ∈ x.f4,bJ y = true → jF n y) (hl : x.f4.length = 1) (hx0 : bJ (nd x.f4 0) = true) (hk : x.f0 = 55) (h : St false p w0 F (iQ (n + 1) x ++ r) w) (hn : ND w0 x A c) : Calls Tryz.prog 38 #[.pointer (some ⟨p,0,none⟩),val x A c] w (gW false p w0 F r (.tuple #[]) w):=by
 have oM:=Yf hk 49 rfl
 have oW:=Yf hk 50 rfl
 have qj:=Yf hk 52 rfl
 have pz:=Yf hk 51 rfl
 have qW:=Yf hk 41 rfl
 have rJ:=Yf hk 42 rfl
 have uV:=Yf hk 45 rfl
 have nZ:=Yf hk 47 rfl
 have HE:=Am he;have HL0:=Am hl;have HX0:=Am hx0;have HKD:=Am hk;clear he hx0;have jY:=Am hl;clear hl;rw [AU hk] at h;unfold Iy at h;rw [if_pos (by have:=HL0.out;omega),show (bytesOf ⟨#[114,101,116,117,114,110]⟩ ++ ((bytesOf ⟨#[32]⟩ ++ oO (dX n) (nd x.f4 0) 0) ++ (bytesOf ⟨#[59]⟩ ++ bytesOf ⟨#[10]⟩))) ++ r = (bytesOf ⟨#[114,101,116,117,114,110]⟩ ++ (bytesOf ⟨#[32]⟩ ++ (oO (dX n) (nd x.f4 0) 0 ++ bytesOf ⟨#[59]⟩))) ++ (bytesOf ⟨#[10]⟩ ++ r) from by simp only [List.append_assoc]] at h;have E:=PE.start h hn;clear h hn;have HKK:=Am hk;clear hk;go_enter Tryz.func38,Tryz.ntmps38
 go_wp2_with (first
  | (go_at_call 54;(try clear c0 c1 c2 c3 c4 c5);(with_reducible first|refine PE.ig E ?_|refine PE.iE E ?_|refine PE.iI E ?_|refine PE.gV E ?_);intro w1 E c0 c1 c2 c3 c4 c5)
  | (go_at_call 59;(try clear c0 c1 c2 c3 c4 c5);(with_reducible refine PE.call E E.out (fun st => oQ.k55b HE.out HL0.out HX0.out HKD.out st E.out.k) (fun w1 E c0 c1 c2 c3 c4 c5 => ?_)))
  | fail)
 first|go_end0|go_ret|(refine bodyPost_ret (results_none rfl _ _ _) rfl ?_)
 exact ⟨rfl,E.out.st,E.out.fr⟩
theorem jm.k50 {p : Nat} {w0 w : World} {F r : List Int} {x : ak} {A : Option Addr} {c : Nat} {n : Nat} (he : ∀ y ∈ x.f4,bJ y = true → jF n y) (vW : ∀ y ∈ x.f4,pG y = true → ug n y) (hl : x.f4.length = 2) (hx0 : bJ (nd x.f4 0) = true) (hx1 : pG (nd x.f4 1) = true) (hk : x.f0 = 50) (h : St false p w0 F (iQ (n + 1) x ++ r) w) (hn : ND w0 x A c) : Calls Tryz.prog 38 #[.pointer (some ⟨p,0,none⟩),val x A c] w (gW false p w0 F r (.tuple #[]) w):=by
 have nR : (0 : Int) < (x.f4.length : Int):=by omega
 have nS : 0 < x.f4.length:=by omega
 have yV : (1 : Int) < (x.f4.length : Int):=by omega
 have yX : 1 < x.f4.length:=by omega
 obtain ⟨ad,rfl⟩:=aT hn.C (show 0 < x.f4.length by omega);obtain ⟨A0,d0,hn0,hk0⟩:=ng hn.C (show 0 < x.f4.length by omega);have gJ:=Am hn0;have dD:=Am hk0;obtain ⟨A1,d1,hn1,hk1⟩:=yx hn.C (show 1 < x.f4.length by omega);have iO:=Am hn1;have dN:=Am hk1;have oM:=Yf hk 49 rfl
 have oW:=Yt hk 50 rfl
 have qj:=Yf hk 52 rfl
 have pz:=Yf hk 51 rfl
 have qW:=Yf hk 41 rfl
 have rJ:=Yf hk 42 rfl
 have uV:=Yf hk 45 rfl
 have nZ:=Yf hk 47 rfl
 have jZ:=Am (he _ (aQ (show 0 < x.f4.length by omega)) hx0);have HX0:=Am hx0;have HL1:=Am (vW _ (aQ (show 1 < x.f4.length by omega)) hx1);clear he vW hx0 hx1;have jY:=Am hl;clear hl;rw [IG hk] at h;(try unfold ln50 at h);(try simp only [List.append_assoc] at h);have E:=PE.start h hn;clear h hn;obtain ⟨bP,bQ,bT,bU,bV,bW⟩:=dD.out.at E.out.st.b;clear hn0 hk0;obtain ⟨k10,k11,k12,k13,k14,k15⟩:=dN.out.at E.out.st.b;clear hn1 hk1;have HKK:=Am hk;clear hk;go_enter Tryz.func38,Tryz.ntmps38
 go_wp2_with (first
  | (go_at_call 54;(try clear c0 c1 c2 c3 c4 c5);(with_reducible first|refine PE.ig E ?_|refine PE.iE E ?_|refine PE.iI E ?_|refine PE.gV E ?_);intro w1 E c0 c1 c2 c3 c4 c5;(try ((try clear bP bQ bT bU bV bW);obtain ⟨bP,bQ,bT,bU,bV,bW⟩:=dD.out.at E.out.st.b));(try ((try clear k10 k11 k12 k13 k14 k15);obtain ⟨k10,k11,k12,k13,k14,k15⟩:=dN.out.at E.out.st.b)))
  | (go_at_call 53;(try clear c0 c1 c2 c3 c4 c5);(with_reducible refine PE.call E E.out (fun st => Lm.all jZ.out HX0.out st gJ.out) (fun w1 E c0 c1 c2 c3 c4 c5 => ?_));(try ((try clear bP bQ bT bU bV bW);obtain ⟨bP,bQ,bT,bU,bV,bW⟩:=dD.out.at E.out.st.b));(try ((try clear k10 k11 k12 k13 k14 k15);obtain ⟨k10,k11,k12,k13,k14,k15⟩:=dN.out.at E.out.st.b)))
  | (go_at_call 38;(try clear c0 c1 c2 c3 c4 c5);(with_reducible refine PE.call E E.out (fun st => HL1.out.go st iO.out) (fun w1 E c0 c1 c2 c3 c4 c5 => ?_));(try ((try clear bP bQ bT bU bV bW);obtain ⟨bP,bQ,bT,bU,bV,bW⟩:=dD.out.at E.out.st.b));(try ((try clear k10 k11 k12 k13 k14 k15);obtain ⟨k10,k11,k12,k13,k14,k15⟩:=dN.out.at E.out.st.b)))
  | fail)
 first|go_end0|go_ret|(refine bodyPost_ret (results_none rfl _ _ _) rfl ?_)
 exact ⟨rfl,E.out.st,E.out.fr⟩
theorem jm.k51 {p : Nat} {w0 w : World} {F r : List Int} {x : ak} {A : Option Addr} {c : Nat} {n : Nat} (he : ∀ y ∈ x.f4,bJ y = true → jF n y) (vW : ∀ y ∈ x.f4,pG y = true → ug n y) (hl : x.f4.length = 2) (hx0 : pG (nd x.f4 0) = true) (hx1 : bJ (nd x.f4 1) = true) (hk : x.f0 = 51) (h : St false p w0 F (iQ (n + 1) x ++ r) w) (hn : ND w0 x A c) : Calls Tryz.prog 38 #[.pointer (some ⟨p,0,none⟩),val x A c] w (gW false p w0 F r (.tuple #[]) w):=by
 have nR : (0 : Int) < (x.f4.length : Int):=by omega
 have nS : 0 < x.f4.length:=by omega
 have yV : (1 : Int) < (x.f4.length : Int):=by omega
 have yX : 1 < x.f4.length:=by omega
 obtain ⟨ad,rfl⟩:=aT hn.C (show 0 < x.f4.length by omega);obtain ⟨A0,d0,hn0,hk0⟩:=ng hn.C (show 0 < x.f4.length by omega);have gJ:=Am hn0;have dD:=Am hk0;obtain ⟨A1,d1,hn1,hk1⟩:=yx hn.C (show 1 < x.f4.length by omega);have iO:=Am hn1;have dN:=Am hk1;have oM:=Yf hk 49 rfl
 have oW:=Yf hk 50 rfl
 have qj:=Yf hk 52 rfl
 have pz:=Yt hk 51 rfl
 have qW:=Yf hk 41 rfl
 have rJ:=Yf hk 42 rfl
 have uV:=Yf hk 45 rfl
 have nZ:=Yf hk 47 rfl
 have qA:=Am (he _ (aQ (show 1 < x.f4.length by omega)) hx1);have BG:=Am hx1;have HL0:=Am (vW _ (aQ (show 0 < x.f4.length by omega)) hx0);clear he vW hx0 hx1;have jY:=Am hl;clear hl;rw [II hk] at h;(try unfold ln51 at h);(try simp only [List.append_assoc] at h);have E:=PE.start h hn;clear h hn;obtain ⟨bP,bQ,bT,bU,bV,bW⟩:=dD.out.at E.out.st.b;clear hn0 hk0;obtain ⟨k10,k11,k12,k13,k14,k15⟩:=dN.out.at E.out.st.b;clear hn1 hk1;have HKK:=Am hk;clear hk;go_enter Tryz.func38,Tryz.ntmps38
 go_wp2_with (first
  | (go_at_call 54;(try clear c0 c1 c2 c3 c4 c5);(with_reducible first|refine PE.ig E ?_|refine PE.iE E ?_|refine PE.iI E ?_|refine PE.gV E ?_);intro w1 E c0 c1 c2 c3 c4 c5;(try ((try clear bP bQ bT bU bV bW);obtain ⟨bP,bQ,bT,bU,bV,bW⟩:=dD.out.at E.out.st.b));(try ((try clear k10 k11 k12 k13 k14 k15);obtain ⟨k10,k11,k12,k13,k14,k15⟩:=dN.out.at E.out.st.b)))
  | (go_at_call 53;(try clear c0 c1 c2 c3 c4 c5);(with_reducible refine PE.call E E.out (fun st => Lm.all qA.out BG.out st iO.out) (fun w1 E c0 c1 c2 c3 c4 c5 => ?_));(try ((try clear bP bQ bT bU bV bW);obtain ⟨bP,bQ,bT,bU,bV,bW⟩:=dD.out.at E.out.st.b));(try ((try clear k10 k11 k12 k13 k14 k15);obtain ⟨k10,k11,k12,k13,k14,k15⟩:=dN.out.at E.out.st.b)))
  | (go_at_call 38;(try clear c0 c1 c2 c3 c4 c5);(with_reducible refine PE.call E E.out (fun st => HL0.out.go st gJ.out) (fun w1 E c0 c1 c2 c3 c4 c5 => ?_));(try ((try clear bP bQ bT bU bV bW);obtain ⟨bP,bQ,bT,bU,bV,bW⟩:=dD.out.at E.out.st.b));(try ((try clear k10 k11 k12 k13 k14 k15);obtain ⟨k10,k11,k12,k13,k14,k15⟩:=dN.out.at E.out.st.b)))
  | fail)
 first|go_end0|go_ret|(refine bodyPost_ret (results_none rfl _ _ _) rfl ?_)
 exact ⟨rfl,E.out.st,E.out.fr⟩
theorem jm.k49a {p : Nat} {w0 w : World} {F r : List Int} {x : ak} {A : Option Addr} {c : Nat} {n : Nat} (he : ∀ y ∈ x.f4,bJ y = true → jF n y) (vW : ∀ y ∈ x.f4,pG y = true → ug n y) (hl : x.f4.length = 2) (hx0 : bJ (nd x.f4 0) = true) (hx1 : pG (nd x.f4 1) = true) (hk : x.f0 = 49) (h : St false p w0 F (iQ (n + 1) x ++ r) w) (hn : ND w0 x A c) : Calls Tryz.prog 38 #[.pointer (some ⟨p,0,none⟩),val x A c] w (gW false p w0 F r (.tuple #[]) w):=by
 have nR : (0 : Int) < (x.f4.length : Int):=by omega
 have nS : 0 < x.f4.length:=by omega
 have yV : (1 : Int) < (x.f4.length : Int):=by omega
 have yX : 1 < x.f4.length:=by omega
 obtain ⟨ad,rfl⟩:=aT hn.C (show 0 < x.f4.length by omega);obtain ⟨A0,d0,hn0,hk0⟩:=ng hn.C (show 0 < x.f4.length by omega);have gJ:=Am hn0;have dD:=Am hk0;obtain ⟨A1,d1,hn1,hk1⟩:=yx hn.C (show 1 < x.f4.length by omega);have iO:=Am hn1;have dN:=Am hk1;have oM:=Yt hk 49 rfl
 have oW:=Yf hk 50 rfl
 have qj:=Yf hk 52 rfl
 have pz:=Yf hk 51 rfl
 have qW:=Yf hk 41 rfl
 have rJ:=Yf hk 42 rfl
 have uV:=Yf hk 45 rfl
 have nZ:=Yf hk 47 rfl
 have g1 : decide ((2 : Int) < (x.f4.length : Int)) = false:=decide_eq_false (by omega);have g2 : decide (2 < x.f4.length) = false:=decide_eq_false (by omega);have jZ:=Am (he _ (aQ (show 0 < x.f4.length by omega)) hx0);have HX0:=Am hx0;have HL1:=Am (vW _ (aQ (show 1 < x.f4.length by omega)) hx1);clear he vW hx0 hx1;have jY:=Am hl;clear hl;rw [AQ hk] at h;unfold Iu at h;rw [if_neg (by have:=jY.out;omega)] at h;simp only [List.append_assoc,List.nil_append] at h;have E:=PE.start h hn;clear h hn;obtain ⟨bP,bQ,bT,bU,bV,bW⟩:=dD.out.at E.out.st.b;clear hn0 hk0;obtain ⟨k10,k11,k12,k13,k14,k15⟩:=dN.out.at E.out.st.b;clear hn1 hk1;have HKK:=Am hk;clear hk;go_enter Tryz.func38,Tryz.ntmps38
 go_wp2_with (first
  | (go_at_call 54;(try clear c0 c1 c2 c3 c4 c5);(with_reducible first|refine PE.ig E ?_|refine PE.iE E ?_|refine PE.iI E ?_|refine PE.gV E ?_);intro w1 E c0 c1 c2 c3 c4 c5;(try ((try clear bP bQ bT bU bV bW);obtain ⟨bP,bQ,bT,bU,bV,bW⟩:=dD.out.at E.out.st.b));(try ((try clear k10 k11 k12 k13 k14 k15);obtain ⟨k10,k11,k12,k13,k14,k15⟩:=dN.out.at E.out.st.b)))
  | (go_at_call 53;(try clear c0 c1 c2 c3 c4 c5);(with_reducible refine PE.call E E.out (fun st => Lm.all jZ.out HX0.out st gJ.out) (fun w1 E c0 c1 c2 c3 c4 c5 => ?_));(try ((try clear bP bQ bT bU bV bW);obtain ⟨bP,bQ,bT,bU,bV,bW⟩:=dD.out.at E.out.st.b));(try ((try clear k10 k11 k12 k13 k14 k15);obtain ⟨k10,k11,k12,k13,k14,k15⟩:=dN.out.at E.out.st.b)))
  | (go_at_call 38;(try clear c0 c1 c2 c3 c4 c5);(with_reducible refine PE.call E E.out (fun st => HL1.out.go st iO.out) (fun w1 E c0 c1 c2 c3 c4 c5 => ?_));(try ((try clear bP bQ bT bU bV bW);obtain ⟨bP,bQ,bT,bU,bV,bW⟩:=dD.out.at E.out.st.b));(try ((try clear k10 k11 k12 k13 k14 k15);obtain ⟨k10,k11,k12,k13,k14,k15⟩:=dN.out.at E.out.st.b)))
  | fail)
 first|go_end0|go_ret|(refine bodyPost_ret (results_none rfl _ _ _) rfl ?_)
 exact ⟨rfl,E.out.st,E.out.fr⟩
theorem jm.k49b {p : Nat} {w0 w : World} {F r : List Int} {x : ak} {A : Option Addr} {c : Nat} {n : Nat} (he : ∀ y ∈ x.f4,bJ y = true → jF n y) (vW : ∀ y ∈ x.f4,pG y = true → ug n y) (hl : x.f4.length = 3) (hx0 : bJ (nd x.f4 0) = true) (hx1 : pG (nd x.f4 1) = true) (hx2 : pG (nd x.f4 2) = true) (hk : x.f0 = 49) (h : St false p w0 F (iQ (n + 1) x ++ r) w) (hn : ND w0 x A c) : Calls Tryz.prog 38 #[.pointer (some ⟨p,0,none⟩),val x A c] w (gW false p w0 F r (.tuple #[]) w):=by
 have nR : (0 : Int) < (x.f4.length : Int):=by omega
 have nS : 0 < x.f4.length:=by omega
 have yV : (1 : Int) < (x.f4.length : Int):=by omega
 have yX : 1 < x.f4.length:=by omega
 have q2a : (2 : Int) < (x.f4.length : Int):=by omega
 have q2b : 2 < x.f4.length:=by omega
 obtain ⟨ad,rfl⟩:=aT hn.C (show 0 < x.f4.length by omega);obtain ⟨A0,d0,hn0,hk0⟩:=ng hn.C (show 0 < x.f4.length by omega);have gJ:=Am hn0;have dD:=Am hk0;obtain ⟨A1,d1,hn1,hk1⟩:=yx hn.C (show 1 < x.f4.length by omega);have iO:=Am hn1;have dN:=Am hk1;obtain ⟨A2,d2,hn2,hk2⟩:=kd2 hn.C (show 2 < x.f4.length by omega);have Bd:=Am hn2;have uz:=Am hk2;have oM:=Yt hk 49 rfl
 have oW:=Yf hk 50 rfl
 have qj:=Yf hk 52 rfl
 have pz:=Yf hk 51 rfl
 have qW:=Yf hk 41 rfl
 have rJ:=Yf hk 42 rfl
 have uV:=Yf hk 45 rfl
 have nZ:=Yf hk 47 rfl
 have g1 : decide ((2 : Int) < (x.f4.length : Int)) = true:=decide_eq_true (by omega);have g2 : decide (2 < x.f4.length) = true:=decide_eq_true (by omega);have tk1 : True:=trivial;have jZ:=Am (he _ (aQ (show 0 < x.f4.length by omega)) hx0);have HX0:=Am hx0;have HL1:=Am (vW _ (aQ (show 1 < x.f4.length by omega)) hx1);have HL2:=Am (vW _ (aQ (show 2 < x.f4.length by omega)) hx2);clear he vW hx0 hx1 hx2;have jY:=Am hl;clear hl;rw [AQ hk] at h;unfold Iu at h;rw [if_pos (by have:=jY.out;omega)] at h;simp only [List.append_assoc] at h;have E:=PE.start h hn;clear h hn;obtain ⟨bP,bQ,bT,bU,bV,bW⟩:=dD.out.at E.out.st.b;clear hn0 hk0;obtain ⟨k10,k11,k12,k13,k14,k15⟩:=dN.out.at E.out.st.b;clear hn1 hk1;obtain ⟨k20,k21,k22,k23,k24,k25⟩:=uz.out.at E.out.st.b;clear hn2 hk2;have HKK:=Am hk;clear hk;go_enter Tryz.func38,Tryz.ntmps38
 go_wp2_with (first
  | (go_at_call 54;(try clear c0 c1 c2 c3 c4 c5);(with_reducible first|refine PE.ig E ?_|refine PE.iE E ?_|refine PE.iI E ?_|refine PE.gV E ?_);intro w1 E c0 c1 c2 c3 c4 c5;(try ((try clear bP bQ bT bU bV bW);obtain ⟨bP,bQ,bT,bU,bV,bW⟩:=dD.out.at E.out.st.b));(try ((try clear k10 k11 k12 k13 k14 k15);obtain ⟨k10,k11,k12,k13,k14,k15⟩:=dN.out.at E.out.st.b));(try ((try clear k20 k21 k22 k23 k24 k25);obtain ⟨k20,k21,k22,k23,k24,k25⟩:=uz.out.at E.out.st.b)))
  | (go_at_call 53;(try clear c0 c1 c2 c3 c4 c5);(with_reducible refine PE.call E E.out (fun st => Lm.all jZ.out HX0.out st gJ.out) (fun w1 E c0 c1 c2 c3 c4 c5 => ?_));(try ((try clear bP bQ bT bU bV bW);obtain ⟨bP,bQ,bT,bU,bV,bW⟩:=dD.out.at E.out.st.b));(try ((try clear k10 k11 k12 k13 k14 k15);obtain ⟨k10,k11,k12,k13,k14,k15⟩:=dN.out.at E.out.st.b));(try ((try clear k20 k21 k22 k23 k24 k25);obtain ⟨k20,k21,k22,k23,k24,k25⟩:=uz.out.at E.out.st.b)))
  | (go_at_call 38;have t_:=tk1;clear t_ tk1;(try clear c0 c1 c2 c3 c4 c5);(refine PE.call E E.out (fun st => HL1.out.go st iO.out) (fun w1 E c0 c1 c2 c3 c4 c5 => ?_));(try ((try clear bP bQ bT bU bV bW);obtain ⟨bP,bQ,bT,bU,bV,bW⟩:=dD.out.at E.out.st.b));(try ((try clear k10 k11 k12 k13 k14 k15);obtain ⟨k10,k11,k12,k13,k14,k15⟩:=dN.out.at E.out.st.b));(try ((try clear k20 k21 k22 k23 k24 k25);obtain ⟨k20,k21,k22,k23,k24,k25⟩:=uz.out.at E.out.st.b)))
  | (go_at_call 38;(try clear c0 c1 c2 c3 c4 c5);(with_reducible refine PE.call E E.out (fun st => HL2.out.go st Bd.out) (fun w1 E c0 c1 c2 c3 c4 c5 => ?_));(try ((try clear bP bQ bT bU bV bW);obtain ⟨bP,bQ,bT,bU,bV,bW⟩:=dD.out.at E.out.st.b));(try ((try clear k10 k11 k12 k13 k14 k15);obtain ⟨k10,k11,k12,k13,k14,k15⟩:=dN.out.at E.out.st.b));(try ((try clear k20 k21 k22 k23 k24 k25);obtain ⟨k20,k21,k22,k23,k24,k25⟩:=uz.out.at E.out.st.b)))
  | fail)
 first|go_end0|go_ret|(refine bodyPost_ret (results_none rfl _ _ _) rfl ?_)
 exact ⟨rfl,E.out.st,E.out.fr⟩
theorem jm.k52 {p : Nat} {w0 w : World} {F r : List Int} {x : ak} {A : Option Addr} {c : Nat} {n : Nat} (K : KnP n) (hz : SizeOf.sizeOf x ≤ n) (hy : bK x = true) (hm : Tm x) (hk : x.f0 = 52) (h : St false p w0 F (iQ (n + 1) x ++ r) w) (hn : ND w0 x A c) : Calls Tryz.prog 38 #[.pointer (some ⟨p,0,none⟩),val x A c] w (gW false p w0 F r (.tuple #[]) w):=by
 have oM:=Yf hk 49 rfl
 have oW:=Yf hk 50 rfl
 have qj:=Yt hk 52 rfl
 have pz:=Yf hk 51 rfl
 have qW:=Yf hk 41 rfl
 have rJ:=Yf hk 42 rfl
 have uV:=Yf hk 45 rfl
 have nZ:=Yf hk 47 rfl
 have HA:=Am (And.intro K (And.intro hz (And.intro hk (And.intro hy hm))));clear K hz hy hm;rw [IJ hk] at h;have E:=PE.start h hn;clear h hn;have HKK:=Am hk;clear hk;go_enter Tryz.func38,Tryz.ntmps38
 go_wp2_with (first
  | (go_at_call 55;(try clear c0 c1 c2 c3 c4 c5);(with_reducible refine PE.call E E.out (fun st => forP.all HA.out.1 HA.out.2.1 HA.out.2.2.1 HA.out.2.2.2.1 HA.out.2.2.2.2 st E.out.k) (fun w1 E c0 c1 c2 c3 c4 c5 => ?_)))
  | fail)
 first|go_end0|go_ret|(refine bodyPost_ret (results_none rfl _ _ _) rfl ?_)
 exact ⟨rfl,E.out.st,E.out.fr⟩
structure KT (w : World) (ad : Addr) (i : Nat) (y : ak) (A : Option Addr) (c : Nat) : Prop where
 h : w.cell? ⟨ad.block,ad.off + 6 + i * 6,none⟩ = some (.int .i64 y.f0) ∧ w.cell? ⟨ad.block,ad.off + 6 + i * 6 + 1,none⟩ = some (.string y.f1) ∧ w.cell? ⟨ad.block,ad.off + 6 + i * 6 + 2,none⟩ = some (.int .u32 y.f2) ∧ w.cell? ⟨ad.block,ad.off + 6 + i * 6 + 3,none⟩ = some (.bool y.f3) ∧ w.cell? ⟨ad.block,ad.off + 6 + i * 6 + 4,none⟩ = some (.slice A y.f4.length c) ∧ w.cell? ⟨ad.block,ad.off + 6 + i * 6 + 5,none⟩ = some (.int .i64 y.f5)
theorem KT.at {w0 w : World} {ad : Addr} {i : Nat} {y : ak} {A : Option Addr} {c : Nat} (k : KT w0 ad i y A c) (h : Below w0.heap.size w0 w) : w.cell? ⟨ad.block,ad.off + 6 + i * 6,none⟩ = some (.int .i64 y.f0) ∧ w.cell? ⟨ad.block,ad.off + 6 + i * 6 + 1,none⟩ = some (.string y.f1) ∧ w.cell? ⟨ad.block,ad.off + 6 + i * 6 + 2,none⟩ = some (.int .u32 y.f2) ∧ w.cell? ⟨ad.block,ad.off + 6 + i * 6 + 3,none⟩ = some (.bool y.f3) ∧ w.cell? ⟨ad.block,ad.off + 6 + i * 6 + 4,none⟩ = some (.slice A y.f4.length c) ∧ w.cell? ⟨ad.block,ad.off + 6 + i * 6 + 5,none⟩ = some (.int .i64 y.f5):=by
 obtain ⟨k0,k1,k2,k3,k4,k5⟩:=k.h;exact ⟨kC h k0,kC h k1,kC h k2,kC h k3,kC h k4,kC h k5⟩
theorem kt_at {w : World} {ad : Addr} {n : Nat} {xs : List ak} (h : Kd.C k25 w (some ad) n xs) (i : Nat) (hi : i + 1 < n) : ∃ A' c',ND w (nd xs (i + 1)) A' c' ∧ KT w ad i (nd xs (i + 1)) A' c' := by
 obtain ⟨ad1,A',c',e,hn,k⟩:=fG h (i + 1) hi;obtain rfl:=Option.some.inj e;rw [show ad.add ((i + 1) * 6) = ⟨ad.block,ad.off + 6 + i * 6,none⟩ from by
  unfold Addr.add;rw [if_neg (by omega),show (i + 1) * 6 = 6 + i * 6 by omega,Nat.add_assoc]] at k
 exact ⟨A',c',hn,⟨k⟩⟩
theorem vr_at {e : ak → List Int} {b : Bool} {xs : List ak} {i : Nat} (hi : i < xs.length) : vrG e b (xs.drop i) = (if b = true then [] else bytesOf ⟨#[44,32]⟩) ++ (ku e (nd xs i) ++ vrG e false (xs.drop (i + 1))):=by
 rw [xW xs hi];rfl
theorem vr_end {e : ak → List Int} {b : Bool} {xs : List ak} {i : Nat} (hi : ¬ i < xs.length) : vrG e b (xs.drop i) = []:=by
 rw [List.drop_eq_nil_of_le (by omega)];rfl
theorem jm.k42 {n : Nat} {p : Nat} {w0 w : World} {F r : List Int} {x : ak} {A : Option Addr} {c : Nat} (K : KnP n) (hz : SizeOf.sizeOf x ≤ n) (hk : x.f0 = 42) (hy : bK x = true) (hm : Tm x) (h : St false p w0 F (iQ (n + 1) x ++ r) w) (hn : ND w0 x A c) : Calls Tryz.prog 38 #[.pointer (some ⟨p,0,none⟩),val x A c] w (gW false p w0 F r (.tuple #[]) w):=by
 obtain ⟨hl,hv⟩:=de_42 hy hk;have HV:=Am (show ∀ y ∈ x.f4.drop 1,vaB y = true ∧ Tm y ∧ SizeOf.sizeOf y ≤ n from fun y hy => ⟨hv y hy,hm.kid (List.mem_of_mem_drop hy),by have:=dI (List.mem_of_mem_drop hy);omega⟩);have HKN_:=Am K;rw [IB hk] at h;unfold ln42 at h;simp only [List.append_assoc] at h;have HDL:=Am (show (x.f4.drop 1).length = x.f4.length - 1 from List.length_drop);have HYS:=Am (show ∀ i,nd x.f4 (i + 1) = nd (x.f4.drop 1) i from fun i => (iP x.f4 i).symm);generalize x.f4.drop 1 = ys at h HV HDL HYS;obtain ⟨ad,rfl⟩:=aT hn.C (show 0 < x.f4.length by omega);obtain ⟨A0,d0,hn0,hk0⟩:=ng hn.C (show 0 < x.f4.length by omega);have gJ:=Am hn0;have dD:=Am hk0;have oM:=Yf hk 49 rfl
 have oW:=Yf hk 50 rfl
 have qj:=Yf hk 52 rfl
 have pz:=Yf hk 51 rfl
 have qW:=Yf hk 41 rfl
 have rJ:=Yt hk 42 rfl
 have uV:=Yf hk 45 rfl
 have nZ:=Yf hk 47 rfl
 obtain ⟨cq,rfl⟩ : ∃ k,c = k + 2:=⟨c - 2,by have:=hn.le;omega⟩
 have nR : (0 : Int) < (x.f4.length : Int):=by omega
 have nS : 0 < x.f4.length:=by omega
 have q0c : 1 ≤ x.f4.length:=by omega
 have jY:=Am hl;have uI:=Am hn.C.2.1;have E:=PE.start h hn;clear h hn;obtain ⟨bP,bQ,bT,bU,bV,bW⟩:=dD.out.at E.out.st.b;clear hn0 hk0 hl hy hm K hz hv;have HKK:=Am hk;clear hk;go_enter Tryz.func38,Tryz.ntmps38
 go_wp2_with (first
  | (go_at_call 54;(try clear c0 c1 c2 c3 c4 c5);(with_reducible first|refine PE.ig E ?_|refine PE.iE E ?_|refine PE.iI E ?_|refine PE.gV E ?_);intro w1 E c0 c1 c2 c3 c4 c5;(try ((try clear bP bQ bT bU bV bW);obtain ⟨bP,bQ,bT,bU,bV,bW⟩:=dD.out.at E.out.st.b)))
  | fail)
 try clear c0 c1 c2 c3 c4 c5
 try clear bP bQ bT bU bV bW
 go_loopg [102] ys.length (fun kq v w' => ∃ i : Nat,v = .int .i64 i ∧ Ad (i + kq = ys.length) ∧ Ad (PE false p w.heap.size w0 x (some ad) (cq + 2) F (vrG (dX n) (i == 0) (ys.drop i) ++ (bytesOf ⟨#[59]⟩ ++ (bytesOf ⟨#[10]⟩ ++ r))) w w'))
 case atStart => exact ⟨0,rfl,⟨by omega⟩,E⟩
 case round =>
  obtain ⟨i,rfl,HI,EN⟩:=hrel;by_cases hi : i < ys.length
  · have gZ:=Am hi;have jU:=Am (aQ hi);have hi' : i < x.f4.length - 1:=by rw [← HDL.out];exact hi
    have qp : decide (i < x.f4.length - 1) = true:=decide_eq_true hi';have e1 : decide ((i : Int) < ((x.f4.length - 1 : Nat) : Int)) = true:=decide_eq_true (by omega);have p1 : (0 : Int) ≤ (i : Int):=by omega
    have q1 : (i : Int) < ((x.f4.length - 1 : Nat) : Int):=by omega
    have w3 : wrap64 ((i : Int) + 1) = (i : Int) + 1:=by have:=uI.out;unfold wrap64;omega
    have w4 : IntKind.i64.wrap ((i : Int) + 1) = (i : Int) + 1:=(bY _).trans w3;obtain ⟨A',c',hn,hkn⟩:=kt_at EN.out.k.C i (by have:=HDL.out;omega);rw [HYS.out i] at hn hkn;have HN:=Am hn;have oI:=Am hkn;obtain ⟨k0,k1,k2,k3,k4,k5⟩:=oI.out.at EN.out.st.b;have ST:=Am EN.out.st;have HF:=Am EN.out.frr;rw [vr_at hi] at ST;(try simp only [List.append_assoc] at ST);clear hn hkn;by_cases h0 : i = 0
    · have g1 : decide ((0 : Int) < (i : Int)) = false:=decide_eq_false (by omega);have g2 : decide (0 < i) = false:=decide_eq_false (by omega);rw [if_pos (beq_iff_eq.2 h0),List.nil_append] at ST;have H0:=Am h0;clear h0 hi hi';go_wp2_with (first
       | (with_reducible refine dJ rfl rfl rfl ?_;rintro g wa hg hz hB;have mZ:=Am hB;have HZ:=Am hz;have kJ:=Am hg;clear hg hz hB)
       | (refine dL rfl rfl rfl (x:=nd ys i) (A:=A') (c:=c') rfl rfl HZ.out ?_;rintro wb hN hB;have E:=PE.box ST.out HF.out (mZ.out.trans (hB.mono (Nat.le_of_eq kJ.out.symm))) (Nat.le_of_eq kJ.out.symm) hN HN.out;(try clear k0 k1 k2 k3 k4 k5);obtain ⟨c0,c1,c2,c3,c4,c5⟩:=E.out.cells;clear hN hB)
       | (go_at_call 57;(try clear c0 c1 c2 c3 c4 c5);(with_reducible refine PE.call E E.out (fun st => sN.all HKN_.out (HV.out _ jU.out).2.2 (HV.out _ jU.out).1 (HV.out _ jU.out).2.1 st E.out.k) (fun w1 E c0 c1 c2 c3 c4 c5 => ?_)))
       | fail)
      go_roundg (ys.length - (i + 1))
      case measure => have:=HI.out;have:=gZ.out;omega
      case rel => exact ⟨i + 1,by (try simp only [w4,w3]);rfl,⟨by have:=HI.out;have:=gZ.out;omega⟩,⟨EN.out.back E.out⟩⟩
    · have g1 : decide ((0 : Int) < (i : Int)) = true:=decide_eq_true (by omega);have g2 : decide (0 < i) = true:=decide_eq_true (by omega);rw [if_neg (by simpa using h0)] at ST;have H0:=Am h0;clear h0 hi hi';go_wp2_with (first
       | (with_reducible refine dJ rfl rfl rfl ?_;rintro g wa hg hz hB;have mZ:=Am hB;have HZ:=Am hz;have kJ:=Am hg;clear hg hz hB)
       | (refine dL rfl rfl rfl (x:=nd ys i) (A:=A') (c:=c') rfl rfl HZ.out ?_;rintro wb hN hB;have E:=PE.box ST.out HF.out (mZ.out.trans (hB.mono (Nat.le_of_eq kJ.out.symm))) (Nat.le_of_eq kJ.out.symm) hN HN.out;(try clear k0 k1 k2 k3 k4 k5);obtain ⟨c0,c1,c2,c3,c4,c5⟩:=E.out.cells;clear hN hB)
       | (go_at_call 54;(try clear c0 c1 c2 c3 c4 c5);(with_reducible first|refine PE.ig E ?_|refine PE.iE E ?_|refine PE.iI E ?_|refine PE.gV E ?_);intro w1 E c0 c1 c2 c3 c4 c5)
       | (go_at_call 57;(try clear c0 c1 c2 c3 c4 c5);(with_reducible refine PE.call E E.out (fun st => sN.all HKN_.out (HV.out _ jU.out).2.2 (HV.out _ jU.out).1 (HV.out _ jU.out).2.1 st E.out.k) (fun w1 E c0 c1 c2 c3 c4 c5 => ?_)))
       | fail)
      go_roundg (ys.length - (i + 1))
      case measure => have:=HI.out;have:=gZ.out;omega
      case rel => exact ⟨i + 1,by (try simp only [w4,w3]);rfl,⟨by have:=HI.out;have:=gZ.out;omega⟩,⟨EN.out.back E.out⟩⟩
  · have hi' : ¬ i < x.f4.length - 1:=by rw [← HDL.out];exact hi
    have qp : decide (i < x.f4.length - 1) = false:=decide_eq_false hi';have e1 : decide ((i : Int) < ((x.f4.length - 1 : Nat) : Int)) = false:=decide_eq_false (by omega);rw [vr_end hi,List.nil_append] at EN;have E:=EN;obtain ⟨c0,c1,c2,c3,c4,c5⟩:=E.out.cells;clear hi hi' HI EN;go_wp2_with (first
     | (go_at_call 54;(try clear c0 c1 c2 c3 c4 c5);(with_reducible first|refine PE.ig E ?_|refine PE.iE E ?_|refine PE.iI E ?_|refine PE.gV E ?_);intro w1 E c0 c1 c2 c3 c4 c5)
     | fail)
    first|go_end0|(refine bodyPost_ret (results_none rfl _ _ _) rfl ?_)
    exact ⟨rfl,E.out.st,E.out.fr⟩
section
variable {ops : Array Oper} {T : Bool × List (List Nat × List Nat)} {Q : Exit → Act → World → Prop} {S : World → Prop} {oi : Oper} {v : Value} {fuel : Nat} {l : Array Bool} {a a' : Act} {w : World}
theorem uJ (i : Nat) (N : Tmp) (HT : Ad (iC .any ops = T)) (hS : S w) (hi : ops[i]? = some oi:=by rfl) (hN : oi.dst = some N:=by rfl) (hc : BN T [] l.toList (l.setIfInBounds i true).toList i = true:=by kernel_rfl)
 (hQ : ∀ c a w,Q (.panic c) (a.put oi.dst v) w → Q (.panic c) a w:=by exact fun _ _ _ h => h) (hw : Region.wanted oi (yielded ops a.tmps) = true:=by rfl)
 (hy : ∀ w,S w → (execOp a.eval oi).run Tryz.prog w = .ok (.value v) w:=by (intro w' s0_;obtain ⟨s0,s1,s2,s3⟩:=s0_;go_simp;with_reducible rfl))
 (ha : a.put (some N) v = a' := by (simp only [Act.put,List.setIfInBounds_toArray,List.set_cons_zero,List.set_cons_succ,bY];rfl))
 (h : pI Tryz.prog .any ops Q S [] fuel (l.setIfInBounds i true) a' w) : pI Tryz.prog .any ops Q S [] (fuel + 1) l a w:=sS _ hi hN (zH HT.out hc) hQ (Or.inl ⟨hw,hy⟩) hS ha h
end
theorem Gz.zero (w : World) : Calls Tryz.prog 87 #[.string ⟨#[42]⟩,.int .i64 0] w fun e w' => e = .returned (.string ⟨#[]⟩) ∧ Below w.heap.size w w' := by
 go_enter Tryz.func87,Tryz.ntmps87
 go_wp2
 go_ret
 exact ⟨rfl,Below.refl _ _⟩
theorem Gz.one (w : World) : Calls Tryz.prog 87 #[.string ⟨#[42]⟩,.int .i64 1] w fun e w' => e = .returned (.string ⟨#[42]⟩) ∧ Below w.heap.size w w' := by
 go_enter Tryz.func87,Tryz.ntmps87
 go_wp2
 go_ret
 exact ⟨rfl,Below.refl _ _⟩
theorem Gz.all {v u : Int} (w : World) (h : u = 0 ∨ u = 1) (e : v = u) : Calls Tryz.prog 87 #[.string ⟨#[42]⟩,.int .i64 v] w fun e w' => e = .returned (.string (sG u)) ∧ Below w.heap.size w w' := by
 subst e;rcases h with rfl|rfl
 · exact Gz.zero w
 · exact Gz.one w
theorem ps_at {b : Bool} {xs : List ak} {i : Nat} (hi : i < xs.length) : vV b (xs.drop i) = (if b = true then [] else bytesOf ⟨#[44,32]⟩) ++ (paG (nd xs i) ++ vV false (xs.drop (i + 1))):=by
 rw [xW xs hi];rfl
theorem ps_end {b : Bool} {xs : List ak} {i : Nat} (hi : ¬ i < xs.length) : vV b (xs.drop i) = []:=by
 rw [List.drop_eq_nil_of_le (by omega)];rfl
theorem fnP.all {n m cq : Nat} {ys : List ak} {p : Nat} {w0 w : World} {F r : List Int} {x : ak} {ad : Addr} (hk : ∀ y ∈ (nd x.f4 m).f4,ug n y) (hl : x.f4.length = m + 1) (h1 : 1 ≤ m) (hy : ys.length = m - 1) (hys : ∀ i,i < m - 1 → nd x.f4 (i + 1) = nd ys i) (hp : ∀ y ∈ ys,y.f4.length = 1 ∧ (y.f2 = 0 ∨ y.f2 = 1))
 (h : St false p w0 F (bytesOf (nd x.f4 0).f1 ++ (bytesOf ⟨#[32]⟩ ++ (bytesOf x.f1 ++ (bytesOf ⟨#[40]⟩ ++ (vV true ys ++ (bytesOf ⟨#[41,32]⟩ ++ (Lj (iQ n) (nd x.f4 m).f4 ++ r))))))) w) (hn : ND w0 x (some ad) (cq + 2)) : Calls Tryz.prog 58 #[.pointer (some ⟨p,0,none⟩),val x (some ad) (cq + 2)] w (gW false p w0 F r (.tuple #[]) w):=by
 have HK:=Am hk;have HP:=Am hp;have HYL:=Am hy;have HYS:=Am hys;have uI:=Am hn.C.2.1;have HCQ:=Am hn.le;obtain ⟨A0,d0,hn0,hk0⟩:=ng hn.C (show 0 < x.f4.length by omega);have gJ:=Am hn0;have dD:=Am hk0;obtain ⟨ad1,A9,d9,e9,hn9,hkn9⟩:=uX hn.C m (by omega);obtain rfl:=Option.some.inj e9;have HN9:=Am hn9;have HK9:=Am hkn9;have wl : wrap64 ((x.f4.length : Int) - 1) = (m : Int):=by have:=hn.C.2.1;unfold wrap64;omega
 have nR : (0 : Int) < (x.f4.length : Int):=by omega
 have nS : 0 < x.f4.length:=by omega
 have q9a : (m : Int) < (x.f4.length : Int):=by omega
 have q9b : m < x.f4.length:=by omega
 have q9c : (0 : Int) ≤ (m : Int):=by omega
 have yV : (1 : Int) ≤ (m : Int):=by omega
 have yX : m ≤ cq + 2:=by have:=hn.le;omega
 have q1c : (m : Int) ≤ ((cq + 2 : Nat) : Int):=by omega
 have jY:=Am hl;have E:=PE.start h hn;clear h hn hn9 hkn9 e9 hk hl hy hys hp hn0 hk0;go_enter Tryz.func58,Tryz.ntmps58
 go_wp2
 replace E:=Am (E.out.step (W1:=(w.alloc (.cells #[.int .i64 x.f0,.string x.f1,.int .u32 x.f2,.bool x.f3,.slice (some ad) x.f4.length (cq + 2),.int .i64 x.f5] 25 (0,0))).drew) (Z6 (Below.refl _ _)));refine gy (n:=10) (S:=fun w' => w'.cell? ⟨w.heap.size,4,none⟩ = some (.slice (some ad) x.f4.length (cq + 2)) ∧ w'.cell? ⟨ad.block,ad.off + 1,none⟩ = some (.string (nd x.f4 0).f1) ∧ w'.cell? ⟨w.heap.size,1,none⟩ = some (.string x.f1)) (ds:=[]) (Array.replicate 10 false) (by kernel_rfl) rfl rfl ⟨E.out.cells.2.2.2.2.1,(dD.out.at E.out.st.b).2.1,E.out.cells.2.1⟩ (fun hHeld => ?_);refine eu (T:=iC .any (opsOf Tryz.f58 2)) (by kernel_rfl) (fun aG => ?_);generalize (w.alloc (.cells #[.int .i64 x.f0,.string x.f1,.int .u32 x.f2,.bool x.f3,.slice (some ad) x.f4.length (cq + 2),.int .i64 x.f5] 25 (0,0))).drew = w7 at E hHeld ⊢;refine rp 0 11 aG (h:=?_);refine rp 1 12 aG (h:=?_);refine rt 2 13 aG hHeld (h:=?_);refine rp 3 14 aG (h:=?_);refine rp 4 15 aG (h:=?_);refine rt 5 16 aG hHeld (h:=?_);refine rp 6 17 aG (h:=?_);refine rt 7 18 aG hHeld (h:=?_);refine rc 8 19 aG (h:=fun K hK => ?_);go_simp;refine hK.out _ _ ⟨(E.out.alloc _).cells.2.2.2.2.1,(dD.out.at (E.out.alloc _).st.b).2.1,(E.out.alloc _).cells.2.1⟩ (fun hHeld => ?_);clear hK K;refine rc 9 20 aG (h:=fun K hK => ?_);(try clear c0 c1 c2 c3 c4 c5);refine jQ Tryz.func54 (by kernel_rfl) rfl #[.pointer (some ⟨p,0,none⟩),.slice (some ⟨w7.heap.size,0,none⟩) 4 4] (by rfl) rfl rfl (by (try simp only [List.map_toArray,List.map_cons,List.map_nil]);first|done|rfl) (PE.gV E (fun w1 E c0 c1 c2 c3 c4 c5 => ?_));refine ⟨_,rfl,?_⟩;refine hK.out _ _ ⟨E.out.cells.2.2.2.2.1,(dD.out.at E.out.st.b).2.1,E.out.cells.2.1⟩ (fun hHeld => rn ?_);clear hK K;refine wu aG ?_;try go_wp2
 try clear c0 c1 c2 c3 c4 c5
 go_loopg [26] ys.length (fun kq v w' => ∃ i : Nat,v = .int .i64 i ∧ Ad (i + kq = ys.length) ∧ Ad (PE false p w.heap.size w0 x (some ad) (cq + 2) F (vV (i == 0) (ys.drop i) ++ (bytesOf ⟨#[41,32]⟩ ++ (Lj (iQ n) (nd x.f4 m).f4 ++ r))) w w'))
 case atStart => exact ⟨0,rfl,⟨by omega⟩,E⟩
 case round =>
  obtain ⟨i,rfl,HI,EN⟩:=hrel;by_cases hi : i < ys.length
  · have gZ:=Am hi;have jU:=Am (aQ hi);have hi' : i < m - 1:=by rw [← HYL.out];exact hi
    have qp : decide (i < m - 1) = true:=decide_eq_true hi';have e1 : decide ((i : Int) < ((m - 1 : Nat) : Int)) = true:=decide_eq_true (by omega);have p1 : (0 : Int) ≤ (i : Int):=by omega
    have q1 : (i : Int) < ((m - 1 : Nat) : Int):=by omega
    have w3 : wrap64 ((i : Int) + 1) = (i : Int) + 1:=by have:=uI.out;have:=jY.out;unfold wrap64;omega
    have w4 : IntKind.i64.wrap ((i : Int) + 1) = (i : Int) + 1:=(bY _).trans w3;obtain ⟨A',c',hn,hkn⟩:=kt_at EN.out.k.C i (by have:=jY.out;omega);rw [HYS.out i hi'] at hn hkn;obtain ⟨hp1,hp2⟩:=HP.out _ jU.out;obtain ⟨a2,rfl⟩:=aT hn.C (show 0 < (nd ys i).f4.length by omega);obtain ⟨A3,d3,hn3,hk3⟩:=ng hn.C (show 0 < (nd ys i).f4.length by omega);have qV:=Am hk3;have HU:=Am hp2;have q2a : (0 : Int) < ((nd ys i).f4.length : Int):=by omega
    have q2b : 0 < (nd ys i).f4.length:=by omega
    have HP1:=Am hp1;have HN:=Am hn;have oI:=Am hkn;obtain ⟨k0,k1,k2,k3,k4,k5⟩:=oI.out.at EN.out.st.b;have ST:=Am EN.out.st;have HF:=Am EN.out.frr;rw [ps_at hi] at ST;unfold paG at ST;(try simp only [List.append_assoc] at ST);clear hn hkn hn3 hk3 hp1 hp2;by_cases h0 : i = 0
    · have g1 : decide ((0 : Int) < (i : Int)) = false:=decide_eq_false (by omega);have g2 : decide (0 < i) = false:=decide_eq_false (by omega);rw [if_pos (beq_iff_eq.2 h0),List.nil_append] at ST;have H0:=Am h0;clear h0 hi hi';cases hf3 : (nd ys i).f3;rotate_left 1
      · rw [if_pos hf3] at ST;have HF3:=Am hf3;clear hf3;go_wp2_with (first
         | (with_reducible refine dJ rfl rfl rfl ?_;rintro g wa hg hz hB;have mZ:=Am hB;have HZ:=Am hz;have kJ:=Am hg;clear hg hz hB)
         | (refine dL rfl rfl rfl (x:=nd ys i) (A:=some a2) (c:=c') rfl rfl HZ.out ?_;rintro wb hN hB;have E:=PE.box ST.out HF.out (mZ.out.trans (hB.mono (Nat.le_of_eq kJ.out.symm))) (Nat.le_of_eq kJ.out.symm) hN HN.out;(try clear k0 k1 k2 k3 k4 k5);obtain ⟨c0,c1,c2,c3,c4,c5⟩:=E.out.cells;clear hN hB)
         | fail)
        replace E:=Am (E.out.step (W1:=wb.drew) (Z6 (Below.refl _ _)));refine gy (n:=14) (S:=fun w' => w'.cell? ⟨g,4,none⟩ = some (.slice (some a2) (nd ys i).f4.length c') ∧ w'.cell? ⟨a2.block,a2.off + 1,none⟩ = some (.string (nd (nd ys i).f4 0).f1) ∧ w'.cell? ⟨g,2,none⟩ = some (.int .u32 (nd ys i).f2) ∧ w'.cell? ⟨g,1,none⟩ = some (.string (nd ys i).f1)) (ds:=[]) (Array.replicate 14 false) (by kernel_rfl) rfl rfl ⟨E.out.cells.2.2.2.2.1,(qV.out.at E.out.st.b).2.1,E.out.cells.2.2.1,E.out.cells.2.1⟩ (fun hHeld => ?_);refine eu (T:=iC .any (opsOf Tryz.f58 8)) (by kernel_rfl) (fun aG => ?_);generalize wb.drew = w7 at E hHeld ⊢;refine rp 0 36 aG (h:=?_);refine rp 1 37 aG (h:=?_);refine uJ 2 38 aG hHeld (h:=?_);refine rp 3 39 aG (h:=?_);refine rp 4 40 aG (h:=?_);refine uJ 5 41 aG hHeld (h:=?_);refine rp 6 42 aG (h:=?_);refine uJ 7 43 aG hHeld (h:=?_);refine rp 8 44 aG (h:=?_);refine rp 10 46 aG (h:=?_);refine uJ 11 47 aG hHeld (h:=?_);refine rc 9 45 aG (h:=fun K hK => ?_);(try clear c0 c1 c2 c3 c4 c5);refine jQ Tryz.func87 (by kernel_rfl) rfl #[.string ⟨#[42]⟩,.int .i64 (wrap64 (nd ys i).f2)] (by rfl) rfl rfl (by (try simp only [List.map_toArray,List.map_cons,List.map_nil]);first|done|rfl) (PE.still E E.out (Gz.all (u:=(nd ys i).f2) _ HU.out (by have:=HU.out;unfold wrap64;omega)) (fun w8 E c0 c1 c2 c3 c4 c5 => ?_));refine ⟨_,rfl,?_⟩;refine hK.out _ _ ⟨E.out.cells.2.2.2.2.1,(qV.out.at E.out.st.b).2.1,E.out.cells.2.2.1,E.out.cells.2.1⟩ (fun hHeld => rn ?_);clear hK K;refine rc 12 48 aG (h:=fun K hK => ?_);go_simp;refine hK.out _ _ ⟨(E.out.alloc _).cells.2.2.2.2.1,(qV.out.at (E.out.alloc _).st.b).2.1,(E.out.alloc _).cells.2.2.1,(E.out.alloc _).cells.2.1⟩ (fun hHeld => ?_);clear hK K;refine rc 13 49 aG (h:=fun K hK => ?_);(try clear c0 c1 c2 c3 c4 c5);refine jQ Tryz.func54 (by kernel_rfl) rfl #[.pointer (some ⟨p,0,none⟩),.slice (some ⟨w8.heap.size,0,none⟩) 4 4] (by rfl) rfl rfl (by (try simp only [List.map_toArray,List.map_cons,List.map_nil]);first|done|rfl) (PE.gV E (fun w1 E c0 c1 c2 c3 c4 c5 => ?_));refine ⟨_,rfl,?_⟩;refine hK.out _ _ ⟨E.out.cells.2.2.2.2.1,(qV.out.at E.out.st.b).2.1,E.out.cells.2.2.1,E.out.cells.2.1⟩ (fun hHeld => rn ?_);clear hK K;refine wu aG ?_;have hf3:=HF3.out;go_wp2_with (first
         | (go_at_call 54;(try clear c0 c1 c2 c3 c4 c5);(with_reducible first|refine PE.ig E ?_|refine PE.iE E ?_|refine PE.iI E ?_|refine PE.gV E ?_);intro w1 E c0 c1 c2 c3 c4 c5)
         | fail)
        go_roundg (ys.length - (i + 1))
        case measure => have:=HI.out;have:=gZ.out;omega
        case rel => exact ⟨i + 1,by (try simp only [w4,w3]);rfl,⟨by have:=HI.out;have:=gZ.out;omega⟩,⟨EN.out.back E.out⟩⟩
      · rw [if_neg (by rw [hf3];decide)] at ST;have HF3:=Am hf3;clear hf3;rw [List.nil_append] at ST;go_wp2_with (first
         | (with_reducible refine dJ rfl rfl rfl ?_;rintro g wa hg hz hB;have mZ:=Am hB;have HZ:=Am hz;have kJ:=Am hg;clear hg hz hB)
         | (refine dL rfl rfl rfl (x:=nd ys i) (A:=some a2) (c:=c') rfl rfl HZ.out ?_;rintro wb hN hB;have E:=PE.box ST.out HF.out (mZ.out.trans (hB.mono (Nat.le_of_eq kJ.out.symm))) (Nat.le_of_eq kJ.out.symm) hN HN.out;(try clear k0 k1 k2 k3 k4 k5);obtain ⟨c0,c1,c2,c3,c4,c5⟩:=E.out.cells;clear hN hB)
         | fail)
        replace E:=Am (E.out.step (W1:=wb.drew) (Z6 (Below.refl _ _)));refine gy (n:=14) (S:=fun w' => w'.cell? ⟨g,4,none⟩ = some (.slice (some a2) (nd ys i).f4.length c') ∧ w'.cell? ⟨a2.block,a2.off + 1,none⟩ = some (.string (nd (nd ys i).f4 0).f1) ∧ w'.cell? ⟨g,2,none⟩ = some (.int .u32 (nd ys i).f2) ∧ w'.cell? ⟨g,1,none⟩ = some (.string (nd ys i).f1)) (ds:=[]) (Array.replicate 14 false) (by kernel_rfl) rfl rfl ⟨E.out.cells.2.2.2.2.1,(qV.out.at E.out.st.b).2.1,E.out.cells.2.2.1,E.out.cells.2.1⟩ (fun hHeld => ?_);refine eu (T:=iC .any (opsOf Tryz.f58 8)) (by kernel_rfl) (fun aG => ?_);generalize wb.drew = w7 at E hHeld ⊢;refine rp 0 36 aG (h:=?_);refine rp 1 37 aG (h:=?_);refine uJ 2 38 aG hHeld (h:=?_);refine rp 3 39 aG (h:=?_);refine rp 4 40 aG (h:=?_);refine uJ 5 41 aG hHeld (h:=?_);refine rp 6 42 aG (h:=?_);refine uJ 7 43 aG hHeld (h:=?_);refine rp 8 44 aG (h:=?_);refine rp 10 46 aG (h:=?_);refine uJ 11 47 aG hHeld (h:=?_);refine rc 9 45 aG (h:=fun K hK => ?_);(try clear c0 c1 c2 c3 c4 c5);refine jQ Tryz.func87 (by kernel_rfl) rfl #[.string ⟨#[42]⟩,.int .i64 (wrap64 (nd ys i).f2)] (by rfl) rfl rfl (by (try simp only [List.map_toArray,List.map_cons,List.map_nil]);first|done|rfl) (PE.still E E.out (Gz.all (u:=(nd ys i).f2) _ HU.out (by have:=HU.out;unfold wrap64;omega)) (fun w8 E c0 c1 c2 c3 c4 c5 => ?_));refine ⟨_,rfl,?_⟩;refine hK.out _ _ ⟨E.out.cells.2.2.2.2.1,(qV.out.at E.out.st.b).2.1,E.out.cells.2.2.1,E.out.cells.2.1⟩ (fun hHeld => rn ?_);clear hK K;refine rc 12 48 aG (h:=fun K hK => ?_);go_simp;refine hK.out _ _ ⟨(E.out.alloc _).cells.2.2.2.2.1,(qV.out.at (E.out.alloc _).st.b).2.1,(E.out.alloc _).cells.2.2.1,(E.out.alloc _).cells.2.1⟩ (fun hHeld => ?_);clear hK K;refine rc 13 49 aG (h:=fun K hK => ?_);(try clear c0 c1 c2 c3 c4 c5);refine jQ Tryz.func54 (by kernel_rfl) rfl #[.pointer (some ⟨p,0,none⟩),.slice (some ⟨w8.heap.size,0,none⟩) 4 4] (by rfl) rfl rfl (by (try simp only [List.map_toArray,List.map_cons,List.map_nil]);first|done|rfl) (PE.gV E (fun w1 E c0 c1 c2 c3 c4 c5 => ?_));refine ⟨_,rfl,?_⟩;refine hK.out _ _ ⟨E.out.cells.2.2.2.2.1,(qV.out.at E.out.st.b).2.1,E.out.cells.2.2.1,E.out.cells.2.1⟩ (fun hHeld => rn ?_);clear hK K;refine wu aG ?_;have hf3:=HF3.out;try go_wp2
        go_roundg (ys.length - (i + 1))
        case measure => have:=HI.out;have:=gZ.out;omega
        case rel => exact ⟨i + 1,by (try simp only [w4,w3]);rfl,⟨by have:=HI.out;have:=gZ.out;omega⟩,⟨EN.out.back E.out⟩⟩
    · have g1 : decide ((0 : Int) < (i : Int)) = true:=decide_eq_true (by omega);have g2 : decide (0 < i) = true:=decide_eq_true (by omega);rw [if_neg (by simpa using h0)] at ST;have H0:=Am h0;clear h0 hi hi';cases hf3 : (nd ys i).f3;rotate_left 1
      · rw [if_pos hf3] at ST;have HF3:=Am hf3;clear hf3;go_wp2_with (first
         | (with_reducible refine dJ rfl rfl rfl ?_;rintro g wa hg hz hB;have mZ:=Am hB;have HZ:=Am hz;have kJ:=Am hg;clear hg hz hB)
         | (refine dL rfl rfl rfl (x:=nd ys i) (A:=some a2) (c:=c') rfl rfl HZ.out ?_;rintro wb hN hB;have E:=PE.box ST.out HF.out (mZ.out.trans (hB.mono (Nat.le_of_eq kJ.out.symm))) (Nat.le_of_eq kJ.out.symm) hN HN.out;(try clear k0 k1 k2 k3 k4 k5);obtain ⟨c0,c1,c2,c3,c4,c5⟩:=E.out.cells;clear hN hB)
         | (go_at_call 54;(try clear c0 c1 c2 c3 c4 c5);(with_reducible first|refine PE.ig E ?_|refine PE.iE E ?_|refine PE.iI E ?_|refine PE.gV E ?_);intro w1 E c0 c1 c2 c3 c4 c5)
         | fail)
        replace E:=Am (E.out.step (W1:=w1.drew) (Z6 (Below.refl _ _)));refine gy (n:=14) (S:=fun w' => w'.cell? ⟨g,4,none⟩ = some (.slice (some a2) (nd ys i).f4.length c') ∧ w'.cell? ⟨a2.block,a2.off + 1,none⟩ = some (.string (nd (nd ys i).f4 0).f1) ∧ w'.cell? ⟨g,2,none⟩ = some (.int .u32 (nd ys i).f2) ∧ w'.cell? ⟨g,1,none⟩ = some (.string (nd ys i).f1)) (ds:=[]) (Array.replicate 14 false) (by kernel_rfl) rfl rfl ⟨E.out.cells.2.2.2.2.1,(qV.out.at E.out.st.b).2.1,E.out.cells.2.2.1,E.out.cells.2.1⟩ (fun hHeld => ?_);refine eu (T:=iC .any (opsOf Tryz.f58 8)) (by kernel_rfl) (fun aG => ?_);generalize w1.drew = w7 at E hHeld ⊢;refine rp 0 36 aG (h:=?_);refine rp 1 37 aG (h:=?_);refine uJ 2 38 aG hHeld (h:=?_);refine rp 3 39 aG (h:=?_);refine rp 4 40 aG (h:=?_);refine uJ 5 41 aG hHeld (h:=?_);refine rp 6 42 aG (h:=?_);refine uJ 7 43 aG hHeld (h:=?_);refine rp 8 44 aG (h:=?_);refine rp 10 46 aG (h:=?_);refine uJ 11 47 aG hHeld (h:=?_);refine rc 9 45 aG (h:=fun K hK => ?_);(try clear c0 c1 c2 c3 c4 c5);refine jQ Tryz.func87 (by kernel_rfl) rfl #[.string ⟨#[42]⟩,.int .i64 (wrap64 (nd ys i).f2)] (by rfl) rfl rfl (by (try simp only [List.map_toArray,List.map_cons,List.map_nil]);first|done|rfl) (PE.still E E.out (Gz.all (u:=(nd ys i).f2) _ HU.out (by have:=HU.out;unfold wrap64;omega)) (fun w8 E c0 c1 c2 c3 c4 c5 => ?_));refine ⟨_,rfl,?_⟩;refine hK.out _ _ ⟨E.out.cells.2.2.2.2.1,(qV.out.at E.out.st.b).2.1,E.out.cells.2.2.1,E.out.cells.2.1⟩ (fun hHeld => rn ?_);clear hK K;refine rc 12 48 aG (h:=fun K hK => ?_);go_simp;refine hK.out _ _ ⟨(E.out.alloc _).cells.2.2.2.2.1,(qV.out.at (E.out.alloc _).st.b).2.1,(E.out.alloc _).cells.2.2.1,(E.out.alloc _).cells.2.1⟩ (fun hHeld => ?_);clear hK K;refine rc 13 49 aG (h:=fun K hK => ?_);(try clear c0 c1 c2 c3 c4 c5);refine jQ Tryz.func54 (by kernel_rfl) rfl #[.pointer (some ⟨p,0,none⟩),.slice (some ⟨w8.heap.size,0,none⟩) 4 4] (by rfl) rfl rfl (by (try simp only [List.map_toArray,List.map_cons,List.map_nil]);first|done|rfl) (PE.gV E (fun w1 E c0 c1 c2 c3 c4 c5 => ?_));refine ⟨_,rfl,?_⟩;refine hK.out _ _ ⟨E.out.cells.2.2.2.2.1,(qV.out.at E.out.st.b).2.1,E.out.cells.2.2.1,E.out.cells.2.1⟩ (fun hHeld => rn ?_);clear hK K;refine wu aG ?_;have hf3:=HF3.out;go_wp2_with (first
         | (go_at_call 54;(try clear c0 c1 c2 c3 c4 c5);(with_reducible first|refine PE.ig E ?_|refine PE.iE E ?_|refine PE.iI E ?_|refine PE.gV E ?_);intro w1 E c0 c1 c2 c3 c4 c5)
         | fail)
        go_roundg (ys.length - (i + 1))
        case measure => have:=HI.out;have:=gZ.out;omega
        case rel => exact ⟨i + 1,by (try simp only [w4,w3]);rfl,⟨by have:=HI.out;have:=gZ.out;omega⟩,⟨EN.out.back E.out⟩⟩
      · rw [if_neg (by rw [hf3];decide)] at ST;have HF3:=Am hf3;clear hf3;rw [List.nil_append] at ST;go_wp2_with (first
         | (with_reducible refine dJ rfl rfl rfl ?_;rintro g wa hg hz hB;have mZ:=Am hB;have HZ:=Am hz;have kJ:=Am hg;clear hg hz hB)
         | (refine dL rfl rfl rfl (x:=nd ys i) (A:=some a2) (c:=c') rfl rfl HZ.out ?_;rintro wb hN hB;have E:=PE.box ST.out HF.out (mZ.out.trans (hB.mono (Nat.le_of_eq kJ.out.symm))) (Nat.le_of_eq kJ.out.symm) hN HN.out;(try clear k0 k1 k2 k3 k4 k5);obtain ⟨c0,c1,c2,c3,c4,c5⟩:=E.out.cells;clear hN hB)
         | (go_at_call 54;(try clear c0 c1 c2 c3 c4 c5);(with_reducible first|refine PE.ig E ?_|refine PE.iE E ?_|refine PE.iI E ?_|refine PE.gV E ?_);intro w1 E c0 c1 c2 c3 c4 c5)
         | fail)
        replace E:=Am (E.out.step (W1:=w1.drew) (Z6 (Below.refl _ _)));refine gy (n:=14) (S:=fun w' => w'.cell? ⟨g,4,none⟩ = some (.slice (some a2) (nd ys i).f4.length c') ∧ w'.cell? ⟨a2.block,a2.off + 1,none⟩ = some (.string (nd (nd ys i).f4 0).f1) ∧ w'.cell? ⟨g,2,none⟩ = some (.int .u32 (nd ys i).f2) ∧ w'.cell? ⟨g,1,none⟩ = some (.string (nd ys i).f1)) (ds:=[]) (Array.replicate 14 false) (by kernel_rfl) rfl rfl ⟨E.out.cells.2.2.2.2.1,(qV.out.at E.out.st.b).2.1,E.out.cells.2.2.1,E.out.cells.2.1⟩ (fun hHeld => ?_);refine eu (T:=iC .any (opsOf Tryz.f58 8)) (by kernel_rfl) (fun aG => ?_);generalize w1.drew = w7 at E hHeld ⊢;refine rp 0 36 aG (h:=?_);refine rp 1 37 aG (h:=?_);refine uJ 2 38 aG hHeld (h:=?_);refine rp 3 39 aG (h:=?_);refine rp 4 40 aG (h:=?_);refine uJ 5 41 aG hHeld (h:=?_);refine rp 6 42 aG (h:=?_);refine uJ 7 43 aG hHeld (h:=?_);refine rp 8 44 aG (h:=?_);refine rp 10 46 aG (h:=?_);refine uJ 11 47 aG hHeld (h:=?_);refine rc 9 45 aG (h:=fun K hK => ?_);(try clear c0 c1 c2 c3 c4 c5);refine jQ Tryz.func87 (by kernel_rfl) rfl #[.string ⟨#[42]⟩,.int .i64 (wrap64 (nd ys i).f2)] (by rfl) rfl rfl (by (try simp only [List.map_toArray,List.map_cons,List.map_nil]);first|done|rfl) (PE.still E E.out (Gz.all (u:=(nd ys i).f2) _ HU.out (by have:=HU.out;unfold wrap64;omega)) (fun w8 E c0 c1 c2 c3 c4 c5 => ?_));refine ⟨_,rfl,?_⟩;refine hK.out _ _ ⟨E.out.cells.2.2.2.2.1,(qV.out.at E.out.st.b).2.1,E.out.cells.2.2.1,E.out.cells.2.1⟩ (fun hHeld => rn ?_);clear hK K;refine rc 12 48 aG (h:=fun K hK => ?_);go_simp;refine hK.out _ _ ⟨(E.out.alloc _).cells.2.2.2.2.1,(qV.out.at (E.out.alloc _).st.b).2.1,(E.out.alloc _).cells.2.2.1,(E.out.alloc _).cells.2.1⟩ (fun hHeld => ?_);clear hK K;refine rc 13 49 aG (h:=fun K hK => ?_);(try clear c0 c1 c2 c3 c4 c5);refine jQ Tryz.func54 (by kernel_rfl) rfl #[.pointer (some ⟨p,0,none⟩),.slice (some ⟨w8.heap.size,0,none⟩) 4 4] (by rfl) rfl rfl (by (try simp only [List.map_toArray,List.map_cons,List.map_nil]);first|done|rfl) (PE.gV E (fun w1 E c0 c1 c2 c3 c4 c5 => ?_));refine ⟨_,rfl,?_⟩;refine hK.out _ _ ⟨E.out.cells.2.2.2.2.1,(qV.out.at E.out.st.b).2.1,E.out.cells.2.2.1,E.out.cells.2.1⟩ (fun hHeld => rn ?_);clear hK K;refine wu aG ?_;have hf3:=HF3.out;try go_wp2
        go_roundg (ys.length - (i + 1))
        case measure => have:=HI.out;have:=gZ.out;omega
        case rel => exact ⟨i + 1,by (try simp only [w4,w3]);rfl,⟨by have:=HI.out;have:=gZ.out;omega⟩,⟨EN.out.back E.out⟩⟩
  · have hi' : ¬ i < m - 1:=by rw [← HYL.out];exact hi
    have qp : decide (i < m - 1) = false:=decide_eq_false hi';have e1 : decide ((i : Int) < ((m - 1 : Nat) : Int)) = false:=decide_eq_false (by omega);rw [ps_end hi,List.nil_append] at EN;have E:=EN;obtain ⟨c0,c1,c2,c3,c4,c5⟩:=E.out.cells;obtain ⟨k90,k91,k92,k93,k94,k95⟩:=HK9.out.at E.out.st.b;clear hi hi' HI EN;go_wp2_with (first
     | (go_at_call 54;(try clear c0 c1 c2 c3 c4 c5);(with_reducible first|refine PE.ig E ?_|refine PE.iE E ?_|refine PE.iI E ?_|refine PE.gV E ?_);intro w1 E c0 c1 c2 c3 c4 c5;(try (clear k90 k91 k92 k93 k94 k95;obtain ⟨k90,k91,k92,k93,k94,k95⟩:=HK9.out.at E.out.st.b)))
     | (go_at_call 56;(try clear c0 c1 c2 c3 c4 c5);(with_reducible refine PE.call E E.out (fun st => IQ.all HK.out st HN9.out.C) (fun w1 E c0 c1 c2 c3 c4 c5 => ?_)))
     | fail)
    first|go_end0|(refine bodyPost_ret (results_none rfl _ _ _) rfl ?_)
    exact ⟨rfl,E.out.st,E.out.fr⟩
theorem PE.callX {s : Bool} {p g : Nat} {w0 : World} {x : ak} {A : Option Addr} {c : Nat} {F R r : List Int} {ws W : World} {W0 : World} {r0 : List Int} {v : Value} {f : FuncId} {args : Array Value} {Q : Ending → World → Prop} (E0 : Ad (PE s p g w0 x A c F r0 ws W0)) (E : PE s p g w0 x A c F R ws W) (h : St s p w0 F R W → Calls Tryz.prog f args W (gW s p w0 F r v W))
 (K : ∀ w1,Ad (PE s p g w0 x A c F r ws w1) → w1.cell? ⟨g,0,none⟩ = some (.int .i64 x.f0) → w1.cell? ⟨g,1,none⟩ = some (.string x.f1) → w1.cell? ⟨g,2,none⟩ = some (.int .u32 x.f2) → w1.cell? ⟨g,3,none⟩ = some (.bool x.f3) → w1.cell? ⟨g,4,none⟩ = some (.slice A x.f4.length c) → w1.cell? ⟨g,5,none⟩ = some (.int .i64 x.f5) → Q (.returned v) w1) : Calls Tryz.prog f args W Q:=by
 refine (h E.st).mono ?_;rintro e w1 ⟨rfl,h1,h2⟩;have hn : NB w1 g x A c:=h2.keep _ 25 _ E.n E.ne (by decide);obtain ⟨c0,c1,c2,c3,c4,c5⟩:=hn.cells;exact K w1 ⟨⟨h1,hn,E.ne,E.k,E.fr.trans h2⟩⟩ c0 c1 c2 c3 c4 c5
theorem jm.k45 {n m cq : Nat} {ys : List ak} {p : Nat} {w0 w : World} {F r : List Int} {x : ak} {ad : Addr} (hd : x.f0 = 45) (hk : ∀ y ∈ (nd x.f4 m).f4,ug n y) (hl : x.f4.length = m + 1) (h1 : 1 ≤ m) (hy : ys.length = m - 1) (hys : ∀ i,i < m - 1 → nd x.f4 (i + 1) = nd ys i) (hp : ∀ y ∈ ys,y.f4.length = 1 ∧ (y.f2 = 0 ∨ y.f2 = 1))
 (h : St false p w0 F (bytesOf (nd x.f4 0).f1 ++ (bytesOf ⟨#[32]⟩ ++ (bytesOf x.f1 ++ (bytesOf ⟨#[40]⟩ ++ (vV true ys ++ (bytesOf ⟨#[41,32]⟩ ++ (Lj (iQ n) (nd x.f4 m).f4 ++ (bytesOf ⟨#[10]⟩ ++ r)))))))) w) (hn : ND w0 x (some ad) (cq + 2)) : Calls Tryz.prog 38 #[.pointer (some ⟨p,0,none⟩),val x (some ad) (cq + 2)] w (gW false p w0 F r (.tuple #[]) w):=by
 have HA:=Am (And.intro hk (And.intro hl (And.intro h1 (And.intro hy (And.intro hys hp)))));have oM : (x.f0 == 49) = false:=by rw [hd];rfl
 have oW : (x.f0 == 50) = false:=by rw [hd];rfl
 have qj : (x.f0 == 52) = false:=by rw [hd];rfl
 have pz : (x.f0 == 51) = false:=by rw [hd];rfl
 have qW : (x.f0 == 41) = false:=by rw [hd];rfl
 have rJ : (x.f0 == 42) = false:=by rw [hd];rfl
 have uV : (x.f0 == 45) = true:=by rw [hd];rfl
 have nZ : (x.f0 == 47) = false:=by rw [hd];rfl
 have E:=PE.start h hn;clear h hn hk hl h1 hy hys hp;have HKK:=Am hd;clear hd;go_enter Tryz.func38,Tryz.ntmps38
 go_wp2_with (first
  | (go_at_call 54;(try clear c0 c1 c2 c3 c4 c5);(with_reducible first|refine PE.ig E ?_|refine PE.iE E ?_|refine PE.iI E ?_|refine PE.gV E ?_);intro w1 E c0 c1 c2 c3 c4 c5)
  | (go_at_call 58;(try clear c0 c1 c2 c3 c4 c5);(with_reducible refine PE.callX E E.out (fun st => fnP.all HA.out.1 HA.out.2.1 HA.out.2.2.1 HA.out.2.2.2.1 HA.out.2.2.2.2.1 HA.out.2.2.2.2.2 st E.out.k) (fun w1 E c0 c1 c2 c3 c4 c5 => ?_)))
  | fail)
 first|go_end0|(refine bodyPost_ret (results_none rfl _ _ _) rfl ?_)
 exact ⟨rfl,E.out.st,E.out.fr⟩
theorem jm.all {n : Nat} {x : ak} (K : KnP n) (hz : SizeOf.sizeOf x ≤ n) (hx : pG x = true) (hm : Tm x) : ug (n + 1) x:=by
 intro p w0 w F r A c h hn;have hy:=ln_may hx;have he : ∀ y ∈ x.f4,bJ y = true → jF n y:=fun y hy h => K.e y (Nat.lt_of_lt_of_le (dI hy) hz) h (hm.kid hy)
 have hl : ∀ y ∈ x.f4,pG y = true → ug n y:=fun y hy h => K.l y (Nat.lt_of_lt_of_le (dI hy) hz) h (hm.kid hy)
 have hc : isS x = true ∨ x.f0 = 41 ∨ x.f0 = 42 ∨ x.f0 = 45:=by
  unfold pG at hx;simp only [Bool.and_eq_true,Bool.or_eq_true,decide_eq_true_eq] at hx;exact hx.1
 rw [uG] at hc;by_cases EL : x.f0 = 41
 · exact jm.k41 (fun y hy' => hl y hy' (de_41 hy EL y hy')) EL h hn
 by_cases h42 : x.f0 = 42
 · exact jm.k42 K hz h42 hy hm h hn
 by_cases h45 : x.f0 = 45
 · obtain ⟨h2,h47,hb,hp⟩:=fn_45 hy h45;obtain ⟨m,hm1⟩ : ∃ m,x.f4.length = m + 1:=⟨x.f4.length - 1,by omega⟩
   rw [IC h45] at h;unfold ln45 at h;rw [hm1,Nat.add_sub_cancel] at h hp h47 hb;simp only [List.append_assoc] at h;obtain ⟨ad,rfl⟩:=aT hn.C (show 0 < x.f4.length by omega);obtain ⟨cq,rfl⟩ : ∃ k,c = k + 2:=⟨c - 2,by have:=hn.le;omega⟩
   have hme : nd x.f4 m ∈ x.f4:=aQ (by omega);refine jm.k45 h45 (fun y hy' => K.l y (by have:=dI hme;have:=dI hy';omega) (hb y hy') ((hm.kid hme).kid hy')) hm1 (by omega) (ys:=(x.f4.take m).drop 1) (by rw [List.length_drop,List.length_take];omega) (fun i hi => ?_) (fun y hy' => ?_) h hn
   · rw [iP];unfold nd;rw [List.getD_eq_getElem?_getD,List.getD_eq_getElem?_getD,List.getElem?_take,if_pos (by omega)]
   · obtain ⟨_,p2,p3⟩:=pa_46 (hp y hy');have:=(hm.kid (List.mem_of_mem_take (List.mem_of_mem_drop hy'))).num;exact ⟨p3,by omega⟩
 by_cases h47 : x.f0 = 47
 · exact jm.k47 (fun y hy' => hl y hy' (st_47 hy h47 y hy')) h47 h hn
 by_cases h48 : x.f0 = 48
 · obtain ⟨h1,h2⟩:=st_48 hy h48;exact jm.k48 he h1 h2 h48 h hn
 by_cases sD : x.f0 = 49
 · obtain ⟨h1 | ⟨h1,h4⟩,h2,h3⟩:=st_49 hy sD
   · exact jm.k49a he hl h1 h2 h3 sD h hn
   · exact jm.k49b he hl h1 h2 h3 h4 sD h hn
 by_cases h50 : x.f0 = 50
 · obtain ⟨h1,h2,h3⟩:=st_50 hy h50;exact jm.k50 he hl h1 h2 h3 h50 h hn
 by_cases EI : x.f0 = 51
 · obtain ⟨h1,h2,h3⟩:=st_51 hy EI;exact jm.k51 he hl h1 h2 h3 EI h hn
 by_cases zN : x.f0 = 52
 · exact jm.k52 K hz hy hm zN h hn
 by_cases h53 : x.f0 = 53
 · exact jm.k53 h53 h hn
 by_cases h54 : x.f0 = 54
 · exact jm.k54 h54 h hn
 by_cases EJ : x.f0 = 55
 · rcases st_55 hy EJ with h1 | ⟨h1,h2⟩
   · exact jm.k55a h1 EJ h hn
   · exact jm.k55b he h1 h2 EJ h hn
 exact jm.k56 (by omega) h hn
theorem and_u32 : ∀ c : Fin 256,bits .and .u32 (c.val : Int) 15 = ((c.val % 16 : Nat) : Int):=by decide +kernel
theorem Dh {v : Int} (h : 0 ≤ v ∧ v < 256) : bits .and .u32 v 15 = v % 16:=by
 obtain ⟨k,rfl⟩:=Int.eq_ofNat_of_zero_le h.1;have:=and_u32 ⟨k,by omega⟩;rw [show ((k : Nat) : Int) = (((⟨k,by omega⟩ : Fin 256).val : Nat) : Int) from rfl,this];simp
theorem wu32 {v : Int} (h : 0 ≤ v ∧ v < 256) : IntKind.u32.wrap (v + 1) = v + 1:=by
 first|(rw [IntKind.wrap_u32];omega)|(simp [IntKind.wrap];omega)
theorem fU.k2 {p : Nat} {w0 w : World} {F r : List Int} {x : ak} {A : Option Addr} {c : Nat} {n : Nat} (h2 : 0 ≤ x.f2 ∧ x.f2 < 256) (hk : x.f0 = 2) (h : St false p w0 F (dX (n + 1) x ++ r) w) (hn : ND w0 x A c) : Calls Tryz.prog 115 #[.pointer (some ⟨p,0,none⟩),val x A c] w (gW false p w0 F r (.bool true) w):=by
 have b1:=Yf hk 1 rfl
 have b2:=Yt hk 2 rfl
 have b3:=Yf hk 3 rfl
 have b4:=Yf hk 4 rfl
 have b16:=Yf hk 16 rfl
 have b5:=Yf hk 5 rfl
 have b6:=Yf hk 6 rfl
 have b7:=Yf hk 7 rfl
 have b8:=Yf hk 8 rfl
 rw [KX hk] at h;unfold ex2 at h;simp only [List.append_assoc] at h;have H2:=Am h2;have E:=PE.start h hn;clear h hn h2;have HKK:=Am hk;clear hk;go_enter Tryz.func115,Tryz.ntmps115
 go_wp2
 replace E:=Am (E.out.step (W1:=(w.alloc (.cells #[.int .i64 x.f0,.string x.f1,.int .u32 x.f2,.bool x.f3,.slice A x.f4.length c,.int .i64 x.f5] 25 (0,0))).drew) (Z6 (Below.refl _ _)));refine gy (n:=19) (S:=fun w' => w'.cell? ⟨w.heap.size,2,none⟩ = some (.int .u32 x.f2) ∧ True ∧ True) (ds:=[]) (Array.replicate 19 false) (by kernel_rfl) rfl rfl ⟨E.out.cells.2.2.1,trivial,trivial⟩ (fun hHeld => ?_);refine eu (T:=iC .any (opsOf Tryz.f115 8)) (by kernel_rfl) (fun aG => ?_);generalize (w.alloc (.cells #[.int .i64 x.f0,.string x.f1,.int .u32 x.f2,.bool x.f3,.slice A x.f4.length c,.int .i64 x.f5] 25 (0,0))).drew = w7 at E hHeld ⊢;refine rp 0 23 aG (h:=?_);refine rp 1 24 aG (h:=?_);refine rt 2 25 aG hHeld (h:=?_);refine rp (v:=.int .u32 (x.f2 / 16)) 3 26 aG (hy:=by intro w';go_simp) (h:=?_);refine rp 4 27 aG (h:=?_);refine rt 5 28 aG hHeld (h:=?_);refine rp (v:=.int .u32 (x.f2 / 16)) 6 29 aG (hy:=by intro w';go_simp) (h:=?_);refine rp (v:=.int .u32 (x.f2 / 16 + 1)) 7 30 aG (hy:=by intro w';go_simp;exact wu32 (by have:=H2.out;omega)) (h:=?_);refine rp (v:=.string (hexS.extract (x.f2 / 16).toNat ((x.f2 / 16).toNat + 1))) 8 31 aG (hy:=by intro w';go_simp;rw [if_pos (by have:=H2.out;omega),if_pos (by have:=H2.out;omega),show (x.f2 / 16 + 1).toNat = (x.f2 / 16).toNat + 1 from by have:=H2.out;omega]) (h:=?_);refine rp 9 32 aG (h:=?_);refine rt 10 33 aG hHeld (h:=?_);refine rp (v:=.int .u32 (x.f2 % 16)) 11 34 aG (hy:=by intro w';go_simp;exact Dh H2.out) (h:=?_);refine rp 12 35 aG (h:=?_);refine rt 13 36 aG hHeld (h:=?_);refine rp (v:=.int .u32 (x.f2 % 16)) 14 37 aG (hy:=by intro w';go_simp;exact Dh H2.out) (h:=?_);refine rp (v:=.int .u32 (x.f2 % 16 + 1)) 15 38 aG (hy:=by intro w';go_simp;exact wu32 (by have:=H2.out;omega)) (h:=?_);refine rp (v:=.string (hexS.extract (x.f2 % 16).toNat ((x.f2 % 16).toNat + 1))) 16 39 aG (hy:=by intro w';go_simp;rw [if_pos (by have:=H2.out;omega),if_pos (by have:=H2.out;omega),show (x.f2 % 16 + 1).toNat = (x.f2 % 16).toNat + 1 from by have:=H2.out;omega]) (h:=?_);refine rc 17 40 aG (h:=fun K hK => ?_);go_simp;refine hK.out _ _ ⟨(E.out.alloc _).cells.2.2.1,trivial,trivial⟩ (fun hHeld => ?_);clear hK K;refine rc 18 41 aG (h:=fun K hK => ?_);(try clear c0 c1 c2 c3 c4 c5);refine jQ Tryz.func54 (by kernel_rfl) rfl #[.pointer (some ⟨p,0,none⟩),.slice (some ⟨w7.heap.size,0,none⟩) 4 4] (by rfl) rfl rfl (by (try simp only [List.map_toArray,List.map_cons,List.map_nil]);first|done|rfl) (PE.gV E (fun w1 E c0 c1 c2 c3 c4 c5 => ?_));refine ⟨_,rfl,?_⟩;refine hK.out _ _ ⟨E.out.cells.2.2.1,trivial,trivial⟩ (fun hHeld => rn ?_);clear hK K;refine wu aG ?_;try go_wp2
 first|go_end0|go_ret|(refine bodyPost_ret (results_none rfl _ _ _) rfl ?_)
 exact ⟨rfl,E.out.st,E.out.fr⟩
theorem oU (a b : ByteArray) : bytesOf (a ++ b) = bytesOf a ++ bytesOf b:=by simp [bytesOf]
theorem Nh.far {p : Nat} {w0 w : World} {F r : List Int} {s : ByteArray} {l m : List Int} (hm : m ++ (bytesOf s ++ r) = F) (hx : PX 46 w0.heap.size p l w) (hl : 1048576 < l.length ∧ 1048576 < m.length) (hS : St true p w0 F (bytesOf s ++ r) w) : Calls Tryz.prog 60 #[.pointer (some ⟨p,0,none⟩),.string s] w (gW true p w0 F r (.tuple #[]) w):=by
 obtain ⟨v,h1,h2⟩:=hx.ex;obtain ⟨A,c,rfl⟩:=rF h2;have cp:=(Z5 h1 0).trans (show #[Value.slice A l.length c][0]? = some (.slice A l.length c) from rfl);have g1 : decide ((l.length : Int) ≤ 1048576) = false:=decide_eq_false (by omega);have g2 : decide (l.length ≤ 1048576) = false:=decide_eq_false (by omega);have HS:=Am (show St true p w0 F r w from ⟨hS.b,⟨m ++ bytesOf s,by rw [List.append_assoc];exact hm,l,hx,.inr ⟨rfl,hl.1,by rw [List.length_append];omega⟩⟩,hS.len,hS.g,hS.tb⟩);clear hm hx hl hS h1 h2;go_enter Tryz.func60,Tryz.ntmps60
 go_wp2
 first|go_end0|go_ret|(refine bodyPost_ret (results_none rfl _ _ _) rfl ?_)
 exact ⟨rfl,HS.out,Fr.refl _ _⟩
theorem Nh.near {p : Nat} {w0 w : World} {F r : List Int} {s : ByteArray} {m : List Int} (hm : m ++ (bytesOf s ++ r) = F) (hx : PX 46 w0.heap.size p m w) (hl : m.length ≤ 1048576) (hS : St true p w0 F (bytesOf s ++ r) w) : Calls Tryz.prog 60 #[.pointer (some ⟨p,0,none⟩),.string s] w (gW true p w0 F r (.tuple #[]) w):=by
 obtain ⟨v,h1,h2⟩:=hx.ex;obtain ⟨A,c,rfl⟩:=rF h2;have cp:=(Z5 h1 0).trans (show #[Value.slice A m.length c][0]? = some (.slice A m.length c) from rfl);have g1 : decide ((m.length : Int) ≤ 1048576) = true:=decide_eq_true (by omega);have g2 : decide (m.length ≤ 1048576) = true:=decide_eq_true hl;have HLE:=Am (show m.length + s.size ≤ 140737488355328 from by
  have h3:=hS.len;rw [← hm] at h3;simp only [List.length_append,bytesOf_length] at h3;omega)
 have HM:=Am hm;have HX:=Am hx;have HS:=Am hS;have HPP:=Am h1;have HOWN:=Am h2;clear hm hx hl hS h1 h2;go_enter Tryz.func60,Tryz.ntmps60
 go_wp2_with (first
  | (at_builtin;refine qF w0.heap.size rfl _ _ 40 9 5 rfl rfl rfl (by kernel_rfl) (.slice A m.length c) m s rfl rfl HOWN.out HS.out.b HX.out.hb HLE.out ?_;intro v1 w1 ho hb hg;obtain ⟨A1,m1,c1,rfl⟩:=yI ho;obtain ⟨hp1,hPX,hBB,hFF⟩:=PX.put (t:=46) (by decide) (l' := m ++ bytesOf s) HX.out.hp HX.out.hb HPP.out HOWN.out ho hb hg;have cp1:=(Z5 hp1 0).trans (show #[Value.slice A m.length c][0]? = some (.slice A m.length c) from rfl);have hfz:=Z2 hp1 0;have HPX:=Am hPX;have HBB:=Am hBB;have HFF:=Am hFF;clear ho hb hg hp1 hPX hBB hFF)
  | fail)
 first|go_end0|go_ret|(refine bodyPost_ret (results_none rfl _ _ _) rfl ?_)
 exact ⟨rfl,⟨HBB.out,⟨m ++ bytesOf s,by rw [List.append_assoc];exact HM.out,_,HPX.out,.inl rfl⟩,HS.out.len,HS.out.g,HS.out.tb⟩,HFF.out⟩
theorem Nh.all {p : Nat} {w0 w : World} {F r : List Int} {s : ByteArray} (hS : St true p w0 F (bytesOf s ++ r) w) : Calls Tryz.prog 60 #[.pointer (some ⟨p,0,none⟩),.string s] w (gW true p w0 F r (.tuple #[]) w):=by
 obtain ⟨m,hm,l,hx,hl⟩:=hS.ex;have hx : PX 46 w0.heap.size p l w:=hx;by_cases h : l.length ≤ 1048576
 · obtain rfl:=hl.resolve_right (fun h2 => by omega);exact Nh.near hm hx h hS
 · refine Nh.far hm hx ?_ hS;rcases hl with h2|h2
   · subst h2;exact ⟨by omega,by omega⟩
   · exact h2.2
section
variable {p g : Nat} {w0 : World} {x : ak} {A : Option Addr} {c : Nat} {F r t : List Int} {ws W : World}
theorem PE.dZ {a : ByteArray} {Q : Ending → World → Prop} (E : Ad (PE true p g w0 x A c F (bytesOf a ++ r) ws W)) (K : ∀ w1,Ad (PE true p g w0 x A c F r ws w1) → w1.cell? ⟨g,0,none⟩ = some (.int .i64 x.f0) → w1.cell? ⟨g,1,none⟩ = some (.string x.f1) → w1.cell? ⟨g,2,none⟩ = some (.int .u32 x.f2) → w1.cell? ⟨g,3,none⟩ = some (.bool x.f3) → w1.cell? ⟨g,4,none⟩ = some (.slice A x.f4.length c) → w1.cell? ⟨g,5,none⟩ = some (.int .i64 x.f5) → Q (.returned (.tuple #[])) w1) : Calls Tryz.prog 60 #[.pointer (some ⟨p,0,none⟩),.string a] W Q:=PE.call E E.out (fun h => Nh.all h) K
theorem PE.eG {a b : ByteArray} {Q : Ending → World → Prop} (E : Ad (PE true p g w0 x A c F (bytesOf a ++ (bytesOf b ++ r)) ws W)) (K : ∀ w1,Ad (PE true p g w0 x A c F r ws w1) → w1.cell? ⟨g,0,none⟩ = some (.int .i64 x.f0) → w1.cell? ⟨g,1,none⟩ = some (.string x.f1) → w1.cell? ⟨g,2,none⟩ = some (.int .u32 x.f2) → w1.cell? ⟨g,3,none⟩ = some (.bool x.f3) → w1.cell? ⟨g,4,none⟩ = some (.slice A x.f4.length c) → w1.cell? ⟨g,5,none⟩ = some (.int .i64 x.f5) → Q (.returned (.tuple #[])) w1) : Calls Tryz.prog 60 #[.pointer (some ⟨p,0,none⟩),.string (a ++ b)] W Q :=
 PE.dZ (a:=a ++ b) ⟨by rw [oU,List.append_assoc];exact E.out⟩ K
theorem PE.eH {a b d : ByteArray} {Q : Ending → World → Prop} (E : Ad (PE true p g w0 x A c F (bytesOf a ++ (bytesOf b ++ (bytesOf d ++ r))) ws W)) (K : ∀ w1,Ad (PE true p g w0 x A c F r ws w1) → w1.cell? ⟨g,0,none⟩ = some (.int .i64 x.f0) → w1.cell? ⟨g,1,none⟩ = some (.string x.f1) → w1.cell? ⟨g,2,none⟩ = some (.int .u32 x.f2) → w1.cell? ⟨g,3,none⟩ = some (.bool x.f3) → w1.cell? ⟨g,4,none⟩ = some (.slice A x.f4.length c) → w1.cell? ⟨g,5,none⟩ = some (.int .i64 x.f5) → Q (.returned (.tuple #[])) w1) : Calls Tryz.prog 60 #[.pointer (some ⟨p,0,none⟩),.string (a ++ b ++ d)] W Q :=
 PE.eG (a:=a ++ b) ⟨by rw [oU,List.append_assoc];exact E.out⟩ K
theorem PE.eF {a b d f : ByteArray} {Q : Ending → World → Prop} (E : Ad (PE true p g w0 x A c F (bytesOf a ++ (bytesOf b ++ (bytesOf d ++ (bytesOf f ++ r)))) ws W)) (K : ∀ w1,Ad (PE true p g w0 x A c F r ws w1) → w1.cell? ⟨g,0,none⟩ = some (.int .i64 x.f0) → w1.cell? ⟨g,1,none⟩ = some (.string x.f1) → w1.cell? ⟨g,2,none⟩ = some (.int .u32 x.f2) → w1.cell? ⟨g,3,none⟩ = some (.bool x.f3) → w1.cell? ⟨g,4,none⟩ = some (.slice A x.f4.length c) → w1.cell? ⟨g,5,none⟩ = some (.int .i64 x.f5) → Q (.returned (.tuple #[])) w1) : Calls Tryz.prog 60 #[.pointer (some ⟨p,0,none⟩),.string (a ++ b ++ d ++ f)] W Q :=
 PE.eH (a:=a ++ b) ⟨by rw [oU,List.append_assoc];exact E.out⟩ K
end
def jL (n : Nat) (y : ak) : Prop:=∀ (p : Nat) (w0 w : World) (F r : List Int) (A : Option Addr) (c : Nat),St true p w0 F (dX n y ++ r) w → ND w0 y A c → Calls Tryz.prog 90 #[.pointer (some ⟨p,0,none⟩),val y A c] w (gW true p w0 F r (.tuple #[]) w)
theorem jL.go {n : Nat} {y : ak} {p : Nat} {w0 w : World} {F r : List Int} {A : Option Addr} {c : Nat} (h : jL n y) (st : St true p w0 F (dX n y ++ r) w) (hn : ND w0 y A c) : Calls Tryz.prog 90 #[.pointer (some ⟨p,0,none⟩),val y A c] w (gW true p w0 F r (.tuple #[]) w):=h p w0 w F r A c st hn
theorem levelR.all {x : ak} {A : Option Addr} {c : Nat} {w : World} (hn : ND w x A c) : Calls Tryz.prog 89 #[val x A c] w fun e w' => e = .returned (.int .i64 (lv x)) ∧ Below w.heap.size w w' := by
 refine (dB.calls 10 x.f0 x.f1 x.f2 x.f3 A c x.f4 x.f5 (lv x) w hn.C hn.le (lv_ref x)).mono ?_;rintro e w' ⟨rfl,h⟩;exact ⟨rfl,by first|exact h|exact h.below⟩
theorem Lp.all (s : ByteArray) (w : World) : Calls Tryz.prog 107 #[.string s] w fun e w' => e = .returned (.int .i64 (yT s)) ∧ Below w.heap.size w w' := by
 refine (aA.calls 9 s (yT s) w (Ir s)).mono ?_;rintro e w' ⟨rfl,h⟩;exact ⟨rfl,by first|exact h|exact h.below⟩
theorem atR.all {n : Nat} {k : Int} {p : Nat} {w0 w : World} {F r : List Int} {x : ak} {A : Option Addr} {c : Nat} (hk : jL n x) (h : St true p w0 F (oO (dX n) x k ++ r) w) (hn : ND w0 x A c) : Calls Tryz.prog 63 #[.pointer (some ⟨p,0,none⟩),val x A c,.int .i64 k] w (gW true p w0 F r (.tuple #[]) w):=by
 have HK:=Am hk;clear hk;unfold oO at h;cases hlt : decide (lv x < k)
 · rw [if_neg (of_decide_eq_false hlt)] at h;have E:=PE.start h hn;clear h hn;go_enter Tryz.func63,Tryz.ntmps63
   go_wp2_with (first
    | (go_at_call 89;(try clear c0 c1 c2 c3 c4 c5);(with_reducible refine PE.still E E.out (levelR.all E.out.nd) (fun w1 E c0 c1 c2 c3 c4 c5 => ?_)))
    | (go_at_call 60;(try clear c0 c1 c2 c3 c4 c5);(with_reducible first|refine PE.dZ E ?_|refine PE.eG E ?_|refine PE.eH E ?_|refine PE.eF E ?_);intro w1 E c0 c1 c2 c3 c4 c5)
    | (go_at_call 90;(try clear c0 c1 c2 c3 c4 c5);(with_reducible refine PE.call E E.out (fun st => HK.out.go st E.out.k) (fun w1 E c0 c1 c2 c3 c4 c5 => ?_)))
    | fail)
   first|go_end0|(refine bodyPost_ret (results_none rfl _ _ _) rfl ?_)
   exact ⟨rfl,E.out.st,E.out.fr⟩
 · rw [if_pos (of_decide_eq_true hlt)] at h;simp only [List.append_assoc] at h;have E:=PE.start h hn;clear h hn;go_enter Tryz.func63,Tryz.ntmps63
   go_wp2_with (first
    | (go_at_call 89;(try clear c0 c1 c2 c3 c4 c5);(with_reducible refine PE.still E E.out (levelR.all E.out.nd) (fun w1 E c0 c1 c2 c3 c4 c5 => ?_)))
    | (go_at_call 60;(try clear c0 c1 c2 c3 c4 c5);(with_reducible first|refine PE.dZ E ?_|refine PE.eG E ?_|refine PE.eH E ?_|refine PE.eF E ?_);intro w1 E c0 c1 c2 c3 c4 c5)
    | (go_at_call 90;(try clear c0 c1 c2 c3 c4 c5);(with_reducible refine PE.call E E.out (fun st => HK.out.go st E.out.k) (fun w1 E c0 c1 c2 c3 c4 c5 => ?_)))
    | fail)
   first|go_end0|(refine bodyPost_ret (results_none rfl _ _ _) rfl ?_)
   exact ⟨rfl,E.out.st,E.out.fr⟩
end Go.Proofs.YtboojhadfhpdeaaGreatDoor.Q
