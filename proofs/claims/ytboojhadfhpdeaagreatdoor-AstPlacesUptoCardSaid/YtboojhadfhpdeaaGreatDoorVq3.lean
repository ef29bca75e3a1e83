/- A part of the proof, made small by a program: WShort, WTab, WRepsOne, WGuard. -/
import Derived.Test.YtboojhadfhpdeaaGreatDoorVq1
set_option linter.unusedVariables false
set_option linter.unusedSimpArgs false
set_option maxHeartbeats 8000000
set_option maxRecDepth 100000
namespace Go.Proofs.YtboojhadfhpdeaaGreatDoorW.PrintWords
open Go.RowKit
theorem YA {p : Prop} [Decidable p] (h : decide p = true:=by first|(with_reducible assumption)|assumption) : p:=of_decide_eq_true h
theorem YH {b : Nat} {w W : World} (h : Below b w W:=by repeat (first|(with_reducible first|exact HB.out|apply au|apply aj|apply aA|refine aH ?_ (ah.out (by with_reducible assumption)))|exact HB.out)) : Below b w W:=h
theorem YK {w W : World} {g : Nat} {o : Obj} (X : ah (w.heap[g]? = some o)) (h : w.heap[g]? = some o → W.heap[g]? = some o:=by (intro h;(with_reducible repeat (first|refine aJ ?_ _|refine aQ ?_|refine aI ?_ _));exact h)) : W.heap[g]? = some o:=h X.out
section
variable {α : Type} {d : Kd α} {e base : Nat} {ok : Nat → Prop} {w W : World} {v : Value} {xs : List α}
theorem YR (X : ah (Kd.R d e w base ok v xs)) (h : Kd.R d e w base ok v xs → Kd.R d e W base ok v xs:=by (intro h;(with_reducible repeat (first|apply Kd.lI|apply Kd.lJ|apply Kd.lV));exact h)) : Kd.R d e W base ok v xs:=h X.out
theorem YN (X : ah (Kd.N d e w base ok v xs)) (h : Kd.N d e w base ok v xs → Kd.N d e W base ok v xs:=by (intro h;(with_reducible repeat (first|apply Kd.Oj|apply Kd.Ol|apply Kd.N_drew));exact h)) : Kd.N d e W base ok v xs:=h X.out
theorem YS (X : ah (Kd.S d e w base ok v xs)) (h : Kd.S d e w base ok v xs → Kd.S d e W base ok v xs:=by (intro h;(with_reducible repeat (first|apply Kd.Oh|apply Kd.Oi|apply Kd.S_drew));exact h)) : Kd.S d e W base ok v xs:=h X.out
end
theorem YV {α : Type} {d : Kd α} {e base : Nat} {ok : Nat → Prop} {w W : World} {v : Value} {xs : List α} (X : ah (Kd.V d e w base ok v xs)) (h : Kd.V d e w base ok v xs → Kd.V d e W base ok v xs:=by (intro h;(with_reducible repeat (first|apply Kd.Om|apply Kd.Oo|apply Kd.V_drew));exact h)) : Kd.V d e W base ok v xs:=h X.out
theorem Am {p : Prop} (h : p) : ah p:=⟨h⟩
theorem YF {p : Prop} (h : p:=by first|rfl|(simp;done)|(simp [*];done)) : p:=h
theorem YM {w W : World} {g : Nat} {o : Obj} (X : w.heap[g]? = some o) (h : w.heap[g]? = some o → W.heap[g]? = some o:=by (intro h;(with_reducible repeat (first|refine aJ ?_ _|refine aQ ?_|refine aI ?_ _));exact h)) : W.heap[g]? = some o:=h X
section
variable {α : Type} {d : Kd α} {e base : Nat} {ok : Nat → Prop} {w W : World} {v : Value} {xs : List α}
theorem Yr (X : Kd.R d e w base ok v xs) (h : Kd.R d e w base ok v xs → Kd.R d e W base ok v xs:=by (intro h;(with_reducible repeat (first|apply Kd.lI|apply Kd.lJ|apply Kd.lV));exact h)) : Kd.R d e W base ok v xs:=h X
theorem Yn (X : Kd.N d e w base ok v xs) (h : Kd.N d e w base ok v xs → Kd.N d e W base ok v xs:=by (intro h;(with_reducible repeat (first|apply Kd.Oj|apply Kd.Ol|apply Kd.N_drew));exact h)) : Kd.N d e W base ok v xs:=h X
theorem Ys (X : Kd.S d e w base ok v xs) (h : Kd.S d e w base ok v xs → Kd.S d e W base ok v xs:=by (intro h;(with_reducible repeat (first|apply Kd.Oh|apply Kd.Oi|apply Kd.S_drew));exact h)) : Kd.S d e W base ok v xs:=h X
theorem Yv (X : Kd.V d e w base ok v xs) (h : Kd.V d e w base ok v xs → Kd.V d e W base ok v xs:=by (intro h;(with_reducible repeat (first|apply Kd.Om|apply Kd.Oo|apply Kd.V_drew));exact h)) : Kd.V d e W base ok v xs:=h X
end
def Yb (n m : Nat) : Array Bool:=((List.range n).map (fun i => m.testBit i)).toArray
theorem YW {w W : World} {g : Nat} (hg : g = W.heap.size) (h : Below w.heap.size w W:=by repeat (first|(with_reducible first|exact HB.out|apply au|apply aj|apply aA|refine aH ?_ (ah.out (by with_reducible assumption)))|exact HB.out)) : w.heap.size ≤ g:=by rw [hg];exact aV h
theorem YG {α : Type} {d : Kd α} {e base : Nat} {ok : Nat → Prop} {w : World} {v : Value} {xs : List α} (g : Nat) (X : Kd.N d e w base (fun k => ok k ∧ k ≠ g) v xs) (a b c u x : Value) : Kd.N d e (((((w.setCell ⟨g,0,none⟩ a).setCell ⟨g,1,none⟩ b).setCell ⟨g,2,none⟩ c).setCell ⟨g,3,none⟩ u).setCell ⟨g,4,none⟩ x) base (fun k => ok k ∧ k ≠ g) v xs :=
 Kd.JD (p:=⟨g,4,none⟩) (Kd.JD (p:=⟨g,3,none⟩) (Kd.JD (p:=⟨g,2,none⟩) (Kd.JD (p:=⟨g,1,none⟩) (Kd.JD (p:=⟨g,0,none⟩) X (fun _ hk => hk.2) a) (fun _ hk => hk.2) b) (fun _ hk => hk.2) c) (fun _ hk => hk.2) u) (fun _ hk => hk.2) x
theorem YQ {w W : World} {p : Addr} {v : Option Value} (hq : w = W) (h : w.cell? p = v) : W.cell? p = v:=hq ▸ h
theorem YC {w W : World} {p : Addr} {v : Value} (HB : ah (Below w.heap.size w W)) (h : w.cell? p = some v) : W.cell? p = some v:=(HB.out.cell (World.block_lt_of_cell? w _ h)).trans h
theorem Yt {a b : Int} (h : a = b) (c : Int) (e : (b == c) = true) : (a == c) = true:=h ▸ e
theorem Yf {a b : Int} (h : a = b) (c : Int) (e : (b == c) = false) : (a == c) = false:=h ▸ e
theorem Y1 {α : Type} (l : List α) (i : Nat) (a : α) : l.toArray.setIfInBounds i a = (l.set i a).toArray:=List.setIfInBounds_toArray l i a
theorem Y2 {α : Type} {x : α} {xs : List α} {a : α} : (x :: xs).set 0 a = a :: xs:=rfl
theorem Y3 {α : Type} {x : α} {xs : List α} {n : Nat} {a : α} : (x :: xs).set (n + 1) a = x :: xs.set n a:=rfl
end Go.Proofs.YtboojhadfhpdeaaGreatDoorW.PrintWords
namespace Go.Proofs.YtboojhadfhpdeaaGreatDoorW.PrintLast
open Go.Proofs.YtboojhadfhpdeaaGreatDoorW.PrintWords (ah)
def wV (md : Region.Mode) (o : Oper) : List Nat:=(o.after.toList.filter (fun e => Region.binds md e)).map (fun e => e.on)
def Gv (md : Region.Mode) (ops : Array Oper) (i : Nat) (oi : Oper) : List Nat:=(List.range ops.size).filter fun j => !(j == i) && match ops[j]? with
 | some oj => !(oj.after.any (fun e => Region.binds md e && e.on == i) || oi.apart ops oj)
 | none => false
def kG (md : Region.Mode) (ops : Array Oper) : Bool × List (List Nat × List Nat):=(Region.noSelect ops,(List.range ops.size).map fun i => match ops[i]? with
 | some o => (wV md o,Gv md ops i o)
 | none => ([],[]))
def tV (T : List (List Nat × List Nat)) (l : List Bool) (i : Nat) : Bool:=!l.getD i true && match T[i]? with
 | some r => r.1.all (fun j => l.getD j false)
 | none => false
def xW (T : List (List Nat × List Nat)) (l : List Bool) : List Nat:=(List.range T.length).filter (tV T l)
def JE (T : List (List Nat × List Nat)) (l : List Bool) (i : Nat) : Bool:=match T[i]? with
 | some r => r.2.all (fun j => l.getD j true)
 | none => false
def BR (T : List (List Nat × List Nat)) (l : List Bool) : Bool:=(List.range T.length).all fun j => !l.getD j false || match T[j]? with
 | some r => r.1.all (fun k => l.getD k false)
 | none => true
def Ah (T : List (List Nat × List Nat)) (i : Nat) : Nat → Nat → Bool
 | 0,_ => false
 | fuel + 1,d => match T[d]? with
  | some r => r.1.any fun j => j == i || Ah T i fuel j
  | none => false
def lastT (T : List (List Nat × List Nat)) (l : List Bool) (ds : List Nat) (i : Nat) : Bool:=ds.all fun d => l.getD d true || Ah T i T.length d
section
variable {md : Region.Mode} {ops : Array Oper} {T : Bool × List (List Nat × List Nat)} {l l' li lj lk : Array Bool} {ds : List Nat} {i j k : Nat}
theorem gd (l : Array Bool) (j : Nat) (b : Bool) : l.getD j b = l.toList.getD j b:=by simp [Array.getD_eq_getD_getElem?,List.getD_eq_getElem?_getD]
theorem Fp (o : Oper) (p : Nat → Bool) : o.after.all (fun e => !Region.binds md e || p e.on) = (wV md o).all p:=by
 unfold wV;rw [← Array.all_toList];induction o.after.toList with
 | nil => rfl
 | cons e r ih =>
  rw [List.all_cons,ih,List.filter_cons];cases h : Region.binds md e <;> simp
theorem QU (o : Oper) (p : Nat → Bool) : o.after.any (fun e => Region.binds md e && p e.on) = (wV md o).any p:=by
 unfold wV;rw [← Array.any_toList];induction o.after.toList with
 | nil => rfl
 | cons e r ih =>
  rw [List.any_cons,ih,List.filter_cons];cases h : Region.binds md e <;> simp
theorem tX : (kG md ops).2.length = ops.size:=by simp [kG]
theorem wW {o : Oper} (h : ops[i]? = some o) : (kG md ops).2[i]? = some (wV md o,Gv md ops i o):=by
 have hi:=(Array.getElem?_eq_some_iff.1 h).1;unfold kG;rw [List.getElem?_map,List.getElem?_range hi,Option.map_some,h]
theorem wX (h : ops[i]? = none) : (kG md ops).2[i]? = none:=by
 have hi : ops.size ≤ i:=Array.getElem?_eq_none_iff.1 h;exact List.getElem?_eq_none (by rw [tX];exact hi)
theorem L8 : tV (kG md ops).2 l.toList i = (!l.getD i true && ((ops[i]?).map (·.after.all fun e => !Region.binds md e || l.getD e.on false)).getD false):=by
 unfold tV;rw [gd];cases h : ops[i]? with
 | none => rw [wX h];rfl
 | some o =>
  rw [wW h];simp only [Option.map_some,Option.getD_some];rw [← Fp];simp only [gd]
theorem ready_eq : Region.ready md ops l = xW (kG md ops).2 l.toList:=by
 unfold Region.ready xW;rw [tX];refine List.filter_congr (fun i _ => ?_);rw [L8]
theorem free_eq : Region.free md ops l i = JE (kG md ops).2 l.toList i:=by
 unfold Region.free JE;cases h : ops[i]? with
 | none => rw [wX h]
 | some oi =>
  rw [wW h];simp only [Gv];rw [List.all_filter];congr 1
  funext j
  rw [gd];cases hj : ops[j]? with
  | none => cases (j == i) <;> cases (l.toList.getD j true) <;> simp
  | some oj =>
   cases (j == i) <;> cases (l.toList.getD j true) <;> cases (oj.after.any (fun e => Region.binds md e && e.on == i) || oi.apart ops oj) <;> simp_all
theorem QV : Region.yE md ops l = BR (kG md ops).2 l.toList:=by
 unfold Region.yE BR;rw [tX];congr 1
 funext j
 rw [gd];cases h : ops[j]? with
 | none => rw [wX h]
 | some o =>
  rw [wW h];simp only;rw [← Fp];simp only [gd]
theorem reach_eq : ∀ (fuel d : Nat),Region.qQ md ops i fuel d = Ah (kG md ops).2 i fuel d
 | 0,_ => rfl
 | fuel + 1,d => by
  unfold Region.qQ Ah;cases h : ops[d]? with
  | none => rw [wX h]
  | some o =>
   rw [wW h];simp only;rw [← QU];congr 1
   funext e
   rw [reach_eq fuel]
theorem last_eq : Region.lastB md ops l ds i = lastT (kG md ops).2 l.toList ds i:=by
 unfold Region.lastB lastT;rw [tX];congr 1
 funext d
 rw [gd,reach_eq]
theorem Bh (h : tV T.2 l.toList i = true) (hT : kG md ops = T) : (Region.ready md ops l).contains i = true:=by
 subst hT;rw [ready_eq];unfold xW;rw [List.contains_iff_mem,List.mem_filter,List.mem_range];refine ⟨?_,h⟩;unfold tV at h;rw [Bool.and_eq_true] at h;cases hq : (kG md ops).2[i]? with
 | none => rw [hq] at h;simp at h
 | some r => exact (List.getElem?_eq_some_iff.1 hq).1
theorem L9 (h : (l.toList.set i true == l'.toList) = true) : (l.setIfInBounds i true == l') = true:=by
 rw [beq_iff_eq] at h ⊢;apply Array.ext';rw [Array.toList_setIfInBounds];exact h
def anyT (T : Bool × List (List Nat × List Nat)) (l l' : List Bool) (i : Nat) : Bool:=T.1 && JE T.2 l i && tV T.2 l i && (l.set i true == l')
theorem dY (hT : kG md ops = T) (h : anyT T l.toList l'.toList i = true) : anyB md ops l l' i = true:=by
 simp only [anyT,Bool.and_eq_true] at h;obtain ⟨⟨⟨h1,h2⟩,h3⟩,h4⟩:=h;have h5:=Bh h3 hT;have h6:=L9 h4;subst hT;simp only [anyB,Bool.and_eq_true];exact ⟨⟨⟨h1,by rw [free_eq];exact h2⟩,h5⟩,h6⟩
def JF (T : Bool × List (List Nat × List Nat)) (ds : List Nat) (l l' : List Bool) (i : Nat) : Bool:=T.1 && JE T.2 l i && tV T.2 l i && BR T.2 l && lastT T.2 l ds i && (l.set i true == l')
theorem Gw (hT : kG md ops = T) (h : JF T ds l.toList l'.toList i = true) : takeB md ops ds l l' i = true:=by
 simp only [JF,Bool.and_eq_true] at h;obtain ⟨⟨⟨⟨⟨h1,h2⟩,h3⟩,h4⟩,h5⟩,h6⟩:=h;have h7:=Bh h3 hT;have h8:=L9 h6;subst hT;simp only [takeB,Bool.and_eq_true];exact ⟨⟨⟨⟨⟨h1,by rw [free_eq];exact h2⟩,h7⟩,by rw [QV];exact h4⟩,by rw [last_eq];exact h5⟩,h8⟩
theorem kH (hT : kG md ops = T) (h : (xW T.2 l.toList == [i] && l.toList.set i true == l'.toList) = true) : Gq md ops l l' i = true:=by
 simp only [Bool.and_eq_true] at h;obtain ⟨h1,h2⟩:=h;subst hT;simp only [Gq,Bool.and_eq_true];exact ⟨by rw [ready_eq];exact h1,L9 h2⟩
theorem qX (hT : kG md ops = T) (h : (xW T.2 l.toList == []) = true) : (Region.ready md ops l == []) = true:=by
 subst hT;rw [ready_eq];exact h
def upM (B : List Nat) (d : Nat) : List Nat → Nat
 | [] => 0
 | n :: r => (2 ^ n ||| (if n < d then B.getD n 0 else 0)) ||| upM B d r
def tY (T : List (List Nat × List Nat)) (B : List Nat) : Bool:=(List.range T.length).all fun d => match T[d]? with
 | some r => (B.getD d 0 ||| upM B d r.1) == upM B d r.1
 | none => false
theorem Oq {B : List Nat} {d i : Nat} : ∀ {ns : List Nat},(upM B d ns).testBit i = true → ∃ n ∈ ns,n = i ∨ (n < d ∧ (B.getD n 0).testBit i = true)
 | [],h => by simp [upM] at h
 | n :: r,h => by
  unfold upM at h;rw [Nat.testBit_or,Nat.testBit_or,Bool.or_eq_true,Bool.or_eq_true] at h;rcases h with (h|h)|h
  · rw [Nat.testBit_two_pow] at h;exact ⟨n,List.mem_cons_self,.inl (by simpa using h)⟩
  · by_cases hn : n < d
    · rw [if_pos hn] at h;exact ⟨n,List.mem_cons_self,.inr ⟨hn,h⟩⟩
    · rw [if_neg hn] at h;simp at h
  · obtain ⟨m,hm,h2⟩:=Oq h;exact ⟨m,List.mem_cons_of_mem _ hm,h2⟩
theorem Fq {T : List (List Nat × List Nat)} {B : List Nat} (hB : tY T B = true) : ∀ (fuel d : Nat),d < fuel → d < T.length → (B.getD d 0).testBit i = true → Ah T i fuel d = true
 | 0,d,h,_,_ => by omega
 | fuel + 1,d,h,hd,hb => by
  have h1:=List.all_eq_true.1 hB d (List.mem_range.2 hd);cases hr : T[d]? with
  | none => rw [hr] at h1;simp at h1
  | some r =>
   rw [hr] at h1;simp only [beq_iff_eq] at h1;have h2 : (upM B d r.1).testBit i = true:=by rw [← h1,Nat.testBit_or,hb,Bool.true_or]
   obtain ⟨n,hn,h3⟩:=Oq h2;unfold Ah;rw [hr];simp only;rw [List.any_eq_true];refine ⟨n,hn,?_⟩;rcases h3 with rfl | ⟨h4,h5⟩
   · simp
   · rw [Fq hB fuel n (by omega) (by omega) h5,Bool.or_true]
def lastW (T : List (List Nat × List Nat)) (B : List Nat) (l : List Bool) (ds : List Nat) (i : Nat) : Bool:=ds.all fun d => l.getD d true || (decide (d < T.length) && (B.getD d 0).testBit i)
def takeW (T : Bool × List (List Nat × List Nat)) (B : List Nat) (ds : List Nat) (l l' : List Bool) (i : Nat) : Bool:=T.1 && JE T.2 l i && tV T.2 l i && BR T.2 l && lastW T.2 B l ds i && (l.set i true == l')
theorem gX {B : List Nat} (hT : kG md ops = T) (hB : tY T.2 B = true) (h : takeW T B ds l.toList l'.toList i = true) : takeB md ops ds l l' i = true:=by
 refine Gw hT ?_;simp only [takeW,JF,Bool.and_eq_true] at h ⊢;obtain ⟨⟨⟨⟨⟨h1,h2⟩,h3⟩,h4⟩,h5⟩,h6⟩:=h;refine ⟨⟨⟨⟨⟨h1,h2⟩,h3⟩,h4⟩,?_⟩,h6⟩;unfold lastW at h5;unfold lastT;rw [List.all_eq_true] at h5 ⊢;intro d hd;have h7:=h5 d hd;rw [Bool.or_eq_true,Bool.and_eq_true,decide_eq_true_eq] at h7;rcases h7 with h7 | ⟨h8,h9⟩
 · rw [h7,Bool.true_or]
 · rw [Fq hB _ d h8 h8 h9,Bool.or_true]
theorem oQ {P : Program} {Q : Exit → Act → World → Prop} {S : World → Prop} {n : Nat} {a : Act} {w : World} {B : List Nat} (hT : kG md ops = T) (hB : tY T.2 B = true) (h : ah (kG md ops = T) → ah (tY T.2 B = true) → eF P md ops Q S ds n l a w) : eF P md ops Q S ds n l a w:=h ⟨hT⟩ ⟨hB⟩
theorem jw {P : Program} {Q : Exit → Act → World → Prop} {S : World → Prop} {n : Nat} {a : Act} {w : World} (hT : kG md ops = T) (h : ah (kG md ops = T) → eF P md ops Q S ds n l a w) : eF P md ops Q S ds n l a w:=h ⟨hT⟩
end
def xM : Code → Nat → Option (Array Oper)
 | .region id ops _,k => if id == k then some ops else none
 | .seq a b,k => match xM a k with
  | some o => some o
  | none => xM b k
 | .cond _ a b,k => match xM a k with
  | some o => some o
  | none => xM b k
 | .block _ c,k => xM c k
 | .loop c,k => xM c k
 | .scope c,k => xM c k
 | .rangeFunc _ _ a b,k => match xM a k with
  | some o => some o
  | none => xM b k
 | _,_ => none
def opsOf (f : Func) (k : Nat) : Array Oper:=((f.body.bind fun c => xM c k)).getD #[]
end Go.Proofs.YtboojhadfhpdeaaGreatDoorW.PrintLast
namespace Go.Proofs.YtboojhadfhpdeaaGreatDoorW.PrintWords
theorem gQ.one {α : Type} {R : α → List Value → Prop} {ps : List α} {cs : List Value} {p : α} {v : Value} (hp : R p [v]) (h : gQ R 1 ps cs) : gQ R 1 (p :: ps) (v :: cs):=by
 refine ⟨by simp [h.1],fun j q hq => ?_⟩;cases j with
 | zero =>
  simp only [List.getElem?_cons_zero,Option.some.injEq] at hq;subst hq
  simpa using hp
 | succ j =>
  simp only [List.getElem?_cons_succ] at hq;have h1:=h.2 j q hq
  simpa [Nat.mul_one] using h1
theorem gQ.front {α : Type} {R : α → List Value → Prop} {size : Nat} {ps : List α} {cs c all : List Value} {p : α} (hp : R p c) (hc : c.length = size) (h : gQ R size ps cs) (ha : c ++ cs = all) : gQ R size (p :: ps) all:=by
 subst ha;refine ⟨by rw [List.length_append,hc,h.1,List.length_cons,Nat.succ_mul,Nat.add_comm],fun j q hq => ?_⟩;cases j with
 | zero =>
  simp only [List.getElem?_cons_zero,Option.some.injEq] at hq;subst hq;rw [Nat.zero_mul,List.drop_zero,List.take_append_of_le_length (by omega),List.take_of_length_le (by omega)];exact hp
 | succ j =>
  simp only [List.getElem?_cons_succ] at hq;have h1:=h.2 j q hq;rw [Nat.succ_mul,List.drop_append,List.drop_of_length_le (by rw [hc];exact Nat.le_add_left _ _),List.nil_append,hc,Nat.add_sub_cancel];exact h1
theorem gQ.c2 {α : Type} {R : α → List Value → Prop} {ps : List α} {cs : List Value} {p : α} {va vb : Value} (hp : R p [va,vb]) (h : gQ R 2 ps cs) : gQ R 2 (p :: ps) (va :: vb :: cs):=gQ.front hp rfl h rfl
theorem gQ.c3 {α : Type} {R : α → List Value → Prop} {ps : List α} {cs : List Value} {p : α} {va vb vc : Value} (hp : R p [va,vb,vc]) (h : gQ R 3 ps cs) : gQ R 3 (p :: ps) (va :: vb :: vc :: cs):=gQ.front hp rfl h rfl
theorem gQ.c4 {α : Type} {R : α → List Value → Prop} {ps : List α} {cs : List Value} {p : α} {va vb vc vd : Value} (hp : R p [va,vb,vc,vd]) (h : gQ R 4 ps cs) : gQ R 4 (p :: ps) (va :: vb :: vc :: vd :: cs):=gQ.front hp rfl h rfl
theorem gQ.c5 {α : Type} {R : α → List Value → Prop} {ps : List α} {cs : List Value} {p : α} {va vb vc vd ve : Value} (hp : R p [va,vb,vc,vd,ve]) (h : gQ R 5 ps cs) : gQ R 5 (p :: ps) (va :: vb :: vc :: vd :: ve :: cs):=gQ.front hp rfl h rfl
theorem gQ.c6 {α : Type} {R : α → List Value → Prop} {ps : List α} {cs : List Value} {p : α} {va vb vc vd ve vf : Value} (hp : R p [va,vb,vc,vd,ve,vf]) (h : gQ R 6 ps cs) : gQ R 6 (p :: ps) (va :: vb :: vc :: vd :: ve :: vf :: cs):=gQ.front hp rfl h rfl
theorem gQ.c7 {α : Type} {R : α → List Value → Prop} {ps : List α} {cs : List Value} {p : α} {va vb vc vd ve vf vg : Value} (hp : R p [va,vb,vc,vd,ve,vf,vg]) (h : gQ R 7 ps cs) : gQ R 7 (p :: ps) (va :: vb :: vc :: vd :: ve :: vf :: vg :: cs):=gQ.front hp rfl h rfl
theorem gQ.c8 {α : Type} {R : α → List Value → Prop} {ps : List α} {cs : List Value} {p : α} {va vb vc vd ve vf vg vh : Value} (hp : R p [va,vb,vc,vd,ve,vf,vg,vh]) (h : gQ R 8 ps cs) : gQ R 8 (p :: ps) (va :: vb :: vc :: vd :: ve :: vf :: vg :: vh :: cs):=gQ.front hp rfl h rfl
theorem gQ.c9 {α : Type} {R : α → List Value → Prop} {ps : List α} {cs : List Value} {p : α} {va vb vc vd ve vf vg vh vi : Value} (hp : R p [va,vb,vc,vd,ve,vf,vg,vh,vi]) (h : gQ R 9 ps cs) : gQ R 9 (p :: ps) (va :: vb :: vc :: vd :: ve :: vf :: vg :: vh :: vi :: cs):=gQ.front hp rfl h rfl
theorem gQ.c10 {α : Type} {R : α → List Value → Prop} {ps : List α} {cs : List Value} {p : α} {va vb vc vd ve vf vg vh vi vj : Value} (hp : R p [va,vb,vc,vd,ve,vf,vg,vh,vi,vj]) (h : gQ R 10 ps cs) : gQ R 10 (p :: ps) (va :: vb :: vc :: vd :: ve :: vf :: vg :: vh :: vi :: vj :: cs):=gQ.front hp rfl h rfl
open Go.RowKit
section
variable {P : Program} {ops : Array Oper} {rest : List Oper} {o : Oper} {a : Act} {Q : Exit → Act → World → Prop} {W : World}
theorem iI (hw : Region.wanted o (yielded ops a.tmps) = true) (h : wpList P ops Q ({ o with guard:=none } :: rest) a W) : wpList P ops Q (o :: rest) a W:=by
 have h1 : Region.wanted { o with guard:=none } (yielded ops a.tmps) = true:=rfl;unfold wpList at h ⊢;rw [if_pos h1] at h;rw [if_pos hw];exact h
end
end Go.Proofs.YtboojhadfhpdeaaGreatDoorW.PrintWords
