/- A part of the proof, made small by a program: S3, Rg, H9, J1, J2, J3, J4, J5, L1, L2, L3, L4, L5, L6, Fn, L7, L8, N1, N2, N3, X1, UF, U0, P0, T1, T2, ExtV. -/
import Derived.Lib.AppendIntMem
import Derived.Shelf.LaysM
import Derived.Shelf.Small.Strs
import Derived.Shelf.Strconv.Itoa2
import Derived.Test.YtboojhadfhpdeaaGreatDoorVq2
import Derived.Test.YtboojhadfhpdeaaGreatDoorVq4
import Derived.Test.YtboojhadfhpdeaaGreatDoorVq9
import Derived.Test.YtboojhadfhpdeaaGreatDoorVq11
import Derived.Test.YtboojhadfhpdeaaGreatDoorVq14
import Derived.Test.YtboojhadfhpdeaaGreatDoorVq18
import Derived.Test.YtboojhadfhpdeaaGreatDoorVq19
set_option linter.unusedVariables false
set_option linter.unusedSimpArgs false
set_option maxHeartbeats 8000000
set_option maxRecDepth 100000
namespace Go.Proofs.YtboojhadfhpdeaaGreatDoor.Q
open Go.RowKit Go.Proofs.YtboojhadfhpdeaaGreatDoorW.PrintWords Go.Proofs.YtboojhadfhpdeaaGreatDoorW.PrintLast Go.Proofs.YtboojhadfhpdeaaGreatDoorW.PrintMore
theorem Fit.len {x : bn} (h : Fit x) : x.f4.length ≤ 9223372036854775807:=by cases h;assumption
theorem Fit.kid {x y : bn} (h : Fit x) (hy : y ∈ x.f4) : Fit y:=by
 cases h with
 | mk _ _ hk => exact hk y hy
theorem FU (l : List bn) (i : Nat) : aG l (i : Int) = nd l i:=by simp [aG,nd]
theorem gu {x y : bn} (hy : y ∈ x.f4) : SizeOf.sizeOf y < SizeOf.sizeOf x:=by
 have h1:=List.sizeOf_lt_of_mem hy;have h2 : SizeOf.sizeOf x = 1 + SizeOf.sizeOf x.f0 + SizeOf.sizeOf x.f1 + SizeOf.sizeOf x.f2 + SizeOf.sizeOf x.f3 + SizeOf.sizeOf x.f4 + SizeOf.sizeOf x.f5:=by cases x;simp [bn.mk.sizeOf_spec]
 omega
theorem Rj {n : Nat} (h0 : 0 < n) (h : n ≤ 9223372036854775807) : wrap64 ((n : Int) - 1) = ((n - 1 : Nat) : Int):=by unfold wrap64;omega
def vW : Nat → bn → Bool
 | 0,_ => false
 | n + 1,x => if x.f0 = 49 then (if x.f4.length = 2 then true else if x.f4.length = 0 then false else vW n (nd x.f4 (x.f4.length - 1))) else if x.f0 = 50 ∨ x.f0 = 52 then (if x.f4.length = 0 then false else vW n (nd x.f4 (x.f4.length - 1))) else false
theorem Qh {x : bn} (h : x.f4.length ≠ 0) : nd x.f4 (x.f4.length - 1) ∈ x.f4:=fH (by omega)
theorem KC : ∀ (n : Nat) (x : bn),Fit x → SizeOf.sizeOf x < n → iL.f n x.f0 x.f1 x.f2 x.f3 x.f4 x.f5 = some (vW n x)
 | 0,x,_,h => absurd h (Nat.not_lt_zero _)
 | n + 1,x,hf,h => by
  have hl:=hf.len;have last (h0 : ¬ x.f4.length = 0) : (if (x.f4.length : Int) > 0 then (if 0 ≤ (wrap64 ((x.f4.length : Int) - 1)) then (if (wrap64 ((x.f4.length : Int) - 1)) < (x.f4.length : Int) then ((iL.f n ((aG x.f4 (wrap64 ((x.f4.length : Int) - 1))).f0) ((aG x.f4 (wrap64 ((x.f4.length : Int) - 1))).f1) ((aG x.f4 (wrap64 ((x.f4.length : Int) - 1))).f2) ((aG x.f4 (wrap64 ((x.f4.length : Int) - 1))).f3) ((aG x.f4 (wrap64 ((x.f4.length : Int) - 1))).f4) ((aG x.f4 (wrap64 ((x.f4.length : Int) - 1))).f5)).bind fun EW => (some EW)) else (none)) else (none)) else (some false)) = some (vW n (nd x.f4 (x.f4.length - 1))):=by
   have hk:=Qh h0;have hs:=gu hk;rw [Rj (by omega) hl,FU,if_pos (by omega),if_pos (by omega),if_pos (by omega),KC n _ (hf.kid hk) (by omega)];rfl
  have none_ (h0 : x.f4.length = 0) {a : Option Bool} : (if (x.f4.length : Int) > 0 then a else (some false)) = some false:=by rw [if_neg (by omega)]
  unfold iL.f vW;by_cases FV : x.f0 = 49
  · rw [if_pos FV,if_pos FV];by_cases h2 : x.f4.length = 2
    · rw [if_pos h2,if_pos (by omega)]
    · rw [if_neg h2,if_neg (by omega)];by_cases h0 : x.f4.length = 0
      · rw [if_pos h0,none_ h0]
      · rw [if_neg h0,last h0]
  · rw [if_neg FV,if_neg FV];by_cases h50 : x.f0 = 50
    · rw [if_pos h50,if_pos (Or.inl h50)];by_cases h0 : x.f4.length = 0
      · rw [if_pos h0,none_ h0]
      · rw [if_neg h0,last h0]
    · rw [if_neg h50];by_cases Qi : x.f0 = 52
      · rw [if_pos Qi,if_pos (Or.inr Qi)];by_cases h0 : x.f4.length = 0
        · rw [if_pos h0,none_ h0]
        · rw [if_neg h0,last h0]
      · rw [if_neg Qi,if_neg (by omega)]
noncomputable def FW (x : bn) : Bool:=vW (SizeOf.sizeOf x + 1) x
def Jh (x : bn) : Bool:=if x.f3 = true then !decide (x.f4.length = 0) && PD (nd x.f4 0) && (decide (x.f4.length = 1) || (decide (x.f4.length = 2) && (oG (nd x.f4 1) || decide ((nd x.f4 1).f0 = 44)))) else decide (x.f4.length = 0) || (decide (x.f4.length = 1) && oG (nd x.f4 0))
theorem var_ast (x : bn) : nU.f x.f0 x.f1 x.f2 x.f3 x.f4 x.f5 = some (Jh x):=by
 have r0 : aG x.f4 0 = nd x.f4 0:=FU _ 0;have r1 : aG (x.f4.drop 1) 0 = nd x.f4 1:=by simp [aG,nd]
 unfold nU.f Jh;rw [r0];by_cases h3 : x.f3 = true
 · rw [if_pos h3,if_pos h3];by_cases h0 : x.f4.length = 0
   · rw [if_pos (by omega),decide_eq_true h0];rfl
   · rw [if_neg (by omega),if_pos (by omega),isN_f,decide_eq_false h0,Option.bind_some];cases PD (nd x.f4 0) with
     | false => rfl
     | true =>
      rw [if_pos rfl,if_pos (by omega),Option.bind_some,r1,PG];have hd : (x.f4.drop 1).length = x.f4.length - 1:=List.length_drop;by_cases h1 : x.f4.length = 1
      · rw [if_pos (by omega),decide_eq_true h1];rfl
      · rw [if_neg (by omega),decide_eq_false h1];by_cases h2 : x.f4.length = 2
        · rw [if_pos (by omega),if_pos (by omega),decide_eq_true h2,Option.bind_some];cases oG (nd x.f4 1) with
          | true => rfl
          | false => rfl
        · rw [if_neg (by omega),decide_eq_false h2];rfl
 · rw [if_neg h3,if_neg h3];by_cases h0 : x.f4.length = 0
   · rw [if_pos (by omega),decide_eq_true h0];rfl
   · rw [if_neg (by omega),decide_eq_false h0];by_cases h1 : x.f4.length = 1
     · rw [if_pos (by omega),if_pos (by omega),PG,decide_eq_true h1,Option.bind_some];cases oG (nd x.f4 0) <;> rfl
     · rw [if_neg (by omega),decide_eq_false h1];rfl
section
variable {x : bn} {A : Option Addr} {c : Nat} {w : World}
theorem open.all (hn : ND w x A c) : Calls Tryz.prog 74 #[val x A c] w (fB (FW x) w) :=
 iL.calls _ _ _ _ _ A c _ _ _ w hn.C hn.le (KC _ x (zX hn.C) (Nat.lt_succ_self _))
theorem variable.all (hn : ND w x A c) : Calls Tryz.prog 78 #[val x A c] w (fB (Jh x) w):=variable.of x _ (var_ast x) A c w hn
theorem shape.first (k : Int) (gp : List (FuncId × (bn → Bool))) (hg : ∀ z ∈ gp,Gen z) (xs : List bn) (A : Option Addr) (c : Nat) (w : World) (hC : Kd.C k25 w A xs.length xs) (q cap p : Nat) (h4 : gp.length ≤ 6)
 (hp : w.heap[p]? = some (.cells #[.int .i64 k] 3 (0,0)))
 (hq : w.heap[q]? = some (.cells (Value.func (.func 94) #[] #[.pointer (some ⟨p,0,none⟩)] :: gp.map fun z => Value.func (.func z.1) #[] #[]).toArray 29 (0,0))) :
 Calls Tryz.prog 67 #[.slice A xs.length c,.slice (some ⟨q,0,none⟩) (gp.length + 1) cap] w (fB (fG ((fun x => decide (x.f0 = k)) :: gp.map (·.2)) xs) w):=by
 have e:=shape.calls xs A c w hC q cap (Value.func (.func 94) #[] #[.pointer (some ⟨p,0,none⟩)] :: gp.map fun z => Value.func (.func z.1) #[] #[]) ((fun x => decide (x.f0 = k)) :: gp.map (·.2)) (by simp) (by simp;omega) hq (fun i f hf hi => by
  cases i with
  | zero =>
   obtain rfl:=Option.some.inj (show some _ = some f from hf);exact ⟨94,#[.pointer (some ⟨p,0,none⟩)],rfl,enters_of Tryz.func94 (by kernel_rfl) rfl,fun W A c hW hn => of1.all k p (bI hp hW)⟩
  | succ i =>
   rw [List.getElem?_cons_succ,List.getElem?_map] at hf;cases hz : gp[i]? with
   | none => rw [hz] at hf;cases hf
   | some z =>
    rw [hz] at hf;obtain rfl:=Option.some.inj hf;obtain ⟨h1,h2⟩:=hg z (List.mem_of_getElem? hz);refine ⟨z.1,#[],rfl,h1,fun W A c _ hn => ?_⟩;rw [Array.append_empty];have e : zI ((fun x => decide (x.f0 = k)) :: gp.map (·.2)) (i + 1) = z.2:=by
     unfold zI;rw [List.getD_eq_getElem?_getD,List.getElem?_cons_succ,List.getElem?_map,hz];rfl
    rw [e];exact h2 hn)
 rwa [List.length_cons,List.length_map] at e
theorem shape.t (xs : List bn) (A : Option Addr) (c : Nat) (w : World) (hC : Kd.C k25 w A xs.length xs) (q cap p : Nat)
 (hp : w.heap[p]? = some (.cells #[.int .i64 16] 3 (0,0))) (hq : w.heap[q]? = some (.cells #[Value.func (.func 94) #[] #[.pointer (some ⟨p,0,none⟩)]] 29 (0,0))) :
 Calls Tryz.prog 67 #[.slice A xs.length c,.slice (some ⟨q,0,none⟩) 1 cap] w (fB (fG [fun x => decide (x.f0 = 16)] xs) w):=shape.first 16 [] (fun z hz => by cases hz) xs A c w hC q cap p (by decide) hp hq
theorem shape.te (xs : List bn) (A : Option Addr) (c : Nat) (w : World) (hC : Kd.C k25 w A xs.length xs) (q cap p : Nat)
 (hp : w.heap[p]? = some (.cells #[.int .i64 16] 3 (0,0))) (hq : w.heap[q]? = some (.cells #[Value.func (.func 94) #[] #[.pointer (some ⟨p,0,none⟩)],Value.func (.func 40) #[] #[]] 29 (0,0))) :
 Calls Tryz.prog 67 #[.slice A xs.length c,.slice (some ⟨q,0,none⟩) 2 cap] w (fB (fG [fun x => decide (x.f0 = 16),oG] xs) w):=shape.first 16 gE Kw xs A c w hC q cap p (by decide) hp hq
end
section
variable {ops : Array Oper} {T : Bool × List (List Nat × List Nat)} {Q : Exit → Act → World → Prop} {S : World → Prop} {oi : Oper} {v : Value} {fuel : Nat} {l : Array Bool} {a a' : Act} {w : World}
theorem rp (i : Nat) (N : Tmp) (HT : ah (kG .any ops = T)) (hi : ops[i]? = some oi:=by rfl) (hN : oi.dst = some N:=by rfl) (hc : anyT T l.toList (l.setIfInBounds i true).toList i = true:=by kernel_rfl)
 (hQ : ∀ c a w,Q (.panic c) (a.put oi.dst v) w → Q (.panic c) a w:=by exact fun _ _ _ h => h) (hw : Region.wanted oi (yielded ops a.tmps) = true:=by rfl)
 (hy : ∀ w,(execOp a.eval oi).run Tryz.prog w = .ok (.value v) w:=by (intro w';go_simp;with_reducible rfl))
 (ha : a.put (some N) v = a' := by (simp only [Act.put,List.setIfInBounds_toArray,List.set_cons_zero,List.set_cons_succ,bW,dA];rfl))
 (h : eF Tryz.prog .any ops Q S [] fuel (l.setIfInBounds i true) a' w) : eF Tryz.prog .any ops Q S [] (fuel + 1) l a w:=fK _ hi hN (dY HT.out hc) hQ (Or.inl ⟨hw,hy⟩) ha h
theorem ro (i : Nat) (N : Tmp) (HT : ah (kG .any ops = T)) (hi : ops[i]? = some oi:=by rfl) (hN : oi.dst = some N:=by rfl) (hc : anyT T l.toList (l.setIfInBounds i true).toList i = true:=by kernel_rfl)
 (hQ : ∀ c a w,Q (.panic c) (a.put oi.dst undef) w → Q (.panic c) a w:=by exact fun _ _ _ h => h) (hw : Region.wanted oi (yielded ops a.tmps) = false:=by rfl)
 (ha : a.put (some N) undef = a' := by (simp only [Act.put,List.setIfInBounds_toArray,List.set_cons_zero,List.set_cons_succ,bW,dA];rfl))
 (h : eF Tryz.prog .any ops Q S [] fuel (l.setIfInBounds i true) a' w) : eF Tryz.prog .any ops Q S [] (fuel + 1) l a w:=fK _ hi hN (dY HT.out hc) hQ (Or.inr ⟨hw,rfl⟩) ha h
theorem rt (i : Nat) (N : Tmp) (HT : ah (kG .any ops = T)) (hS : S w) (hi : ops[i]? = some oi:=by rfl) (hN : oi.dst = some N:=by rfl) (hc : JF T [] l.toList (l.setIfInBounds i true).toList i = true:=by kernel_rfl)
 (hQ : ∀ c a w,Q (.panic c) (a.put oi.dst v) w → Q (.panic c) a w:=by exact fun _ _ _ h => h) (hw : Region.wanted oi (yielded ops a.tmps) = true:=by rfl)
 (hy : ∀ w,S w → (execOp a.eval oi).run Tryz.prog w = .ok (.value v) w:=by (intro w' s0_;obtain ⟨s0,s1,s2⟩:=s0_;go_simp;with_reducible rfl))
 (ha : a.put (some N) v = a' := by (simp only [Act.put,List.setIfInBounds_toArray,List.set_cons_zero,List.set_cons_succ,bW,dA];rfl))
 (h : eF Tryz.prog .any ops Q S [] fuel (l.setIfInBounds i true) a' w) : eF Tryz.prog .any ops Q S [] (fuel + 1) l a w:=kM _ hi hN (Gw HT.out hc) hQ (Or.inl ⟨hw,hy⟩) hS ha h
theorem rc (i : Nat) (N : Tmp) (HT : ah (kG .any ops = T)) (hi : ops[i]? = some oi:=by rfl) (hN : oi.dst = some N:=by rfl) (hc : (xW T.2 l.toList == [i] && l.toList.set i true == (l.setIfInBounds i true).toList) = true:=by kernel_rfl)
 (h : ∀ K : Act → World → Prop,Shut (∀ a' w',S w' → (S w' → eF Tryz.prog .any ops Q S [] fuel (l.setIfInBounds i true) a' w') → K a' w') → if Region.wanted oi (yielded ops a.tmps) = true then Oper.wp Tryz.prog oi a w K Q else K (a.put (some N) undef) w) :
 eF Tryz.prog .any ops Q S [] (fuel + 1) l a w:=qE _ hi hN (kH HT.out hc) (by simp) h
theorem rn (h : eF Tryz.prog .any ops Q S [] fuel l a' w) (ha : a = a' := by (simp only [Act.put,List.setIfInBounds_toArray,List.set_cons_zero,List.set_cons_succ,bW,dA];rfl)) : eF Tryz.prog .any ops Q S [] fuel l a w:=mO ha h
theorem EX {n : Nat} (HT : ah (kG .any ops = T)) (h : Q .normal a w) (hc : (xW T.2 l.toList == []) = true:=by kernel_rfl) : eF Tryz.prog .any ops Q S [] n l a w:=yG (qX HT.out hc) h
end
def e14 (x : bn) : Bool:=(x.f1.toList == ([] : List UInt8)) && (x.f2 == 0) && fG [fun x => decide (x.f0 = 16),oG] x.f4
theorem cast.a {x : bn} {A : Option Addr} {c : Nat} {w : World} (hk : x.f0 = 14) (h0 : (x.f1.toList == ([] : List UInt8)) = false) (hG : dG w) (hn : ND w x A c) : Calls Tryz.prog 41 #[val x A c] w (fB (e14 x) w):=by
 have b1:=Yf hk 1 rfl
 have b2:=Yf hk 2 rfl
 have b3:=Yf hk 3 rfl
 have b4:=Yf hk 4 rfl
 have b5:=Yf hk 5 rfl
 have b6:=Yf hk 6 rfl
 have b7:=Yf hk 7 rfl
 have b8:=Yf hk 8 rfl
 have b9:=Yf hk 9 rfl
 have b10:=Yf hk 10 rfl
 have b11:=Yf hk 11 rfl
 have b12:=Yf hk 12 rfl
 have b13:=Yf hk 13 rfl
 have b14:=Yt hk 14 rfl
 have e0 : (x.f1.toList == ([] : List UInt8)) = false:=h0;have e1 : (x.f1.toList != ([] : List UInt8)) = true:=by rw [bne,h0];rfl
 have HH:=ah.mk (show e14 x = false from by unfold e14;rw [h0];rfl);clear h0;have E:=Env.start hG hn;clear hk hn hG;go_enter Tryz.func41,Tryz.ntmps41
 go_wp2
 replace E:=ah.mk (E.out.step (W1:=(w.alloc (.cells #[.int .i64 x.f0,.string x.f1,.int .u32 x.f2,.bool x.f3,.slice A x.f4.length c,.int .i64 x.f5] 25 (0,0))).drew) (aA (Below.refl _ _)));refine jV (n:=9) (S:=fun w' => w'.cell? ⟨w.heap.size,4,none⟩ = some (.slice A x.f4.length c) ∧ True ∧ True) (ds:=[]) (Array.replicate 9 false) (by kernel_rfl) rfl rfl ⟨E.out.cells.2.2.2.2.1,trivial,trivial⟩ (fun hHeld => ?_);refine jw (T:=kG .any (opsOf Tryz.f41 29)) (by kernel_rfl) (fun bM => ?_);generalize (w.alloc (.cells #[.int .i64 x.f0,.string x.f1,.int .u32 x.f2,.bool x.f3,.slice A x.f4.length c,.int .i64 x.f5] 25 (0,0))).drew = w7 at E hHeld ⊢;refine rp 0 203 bM (h:=?_);refine rp 1 204 bM (h:=?_);refine ro 2 205 bM (h:=?_);refine ro 3 206 bM (h:=?_);refine ro 4 207 bM (h:=?_);refine ro 5 208 bM (h:=?_);refine ro 6 209 bM (h:=?_);refine rp 7 210 bM (h:=?_);refine rp 8 2 bM (h:=?_);refine EX bM ?_;try go_wp2
 go_ret
 exact ⟨by rw [HH.out];rfl,E.out.b⟩
theorem cast.b {x : bn} {A : Option Addr} {c : Nat} {w : World} (hk : x.f0 = 14) (h0 : (x.f1.toList == ([] : List UInt8)) = true) (h1 : (x.f2 == 0) = false) (hG : dG w) (hn : ND w x A c) : Calls Tryz.prog 41 #[val x A c] w (fB (e14 x) w):=by
 have b1:=Yf hk 1 rfl
 have b2:=Yf hk 2 rfl
 have b3:=Yf hk 3 rfl
 have b4:=Yf hk 4 rfl
 have b5:=Yf hk 5 rfl
 have b6:=Yf hk 6 rfl
 have b7:=Yf hk 7 rfl
 have b8:=Yf hk 8 rfl
 have b9:=Yf hk 9 rfl
 have b10:=Yf hk 10 rfl
 have b11:=Yf hk 11 rfl
 have b12:=Yf hk 12 rfl
 have b13:=Yf hk 13 rfl
 have b14:=Yt hk 14 rfl
 have e0 : (x.f1.toList == ([] : List UInt8)) = true:=h0;have e1 : (x.f1.toList != ([] : List UInt8)) = false:=by rw [bne,h0];rfl
 have e2 : (x.f2 == 0) = false:=h1;have HH:=ah.mk (show e14 x = false from by unfold e14;rw [h0,h1];rfl);clear h0 h1;have E:=Env.start hG hn;clear hk hn hG;go_enter Tryz.func41,Tryz.ntmps41
 go_wp2
 replace E:=ah.mk (E.out.step (W1:=(w.alloc (.cells #[.int .i64 x.f0,.string x.f1,.int .u32 x.f2,.bool x.f3,.slice A x.f4.length c,.int .i64 x.f5] 25 (0,0))).drew) (aA (Below.refl _ _)));refine jV (n:=9) (S:=fun w' => w'.cell? ⟨w.heap.size,4,none⟩ = some (.slice A x.f4.length c) ∧ True ∧ True) (ds:=[]) (Array.replicate 9 false) (by kernel_rfl) rfl rfl ⟨E.out.cells.2.2.2.2.1,trivial,trivial⟩ (fun hHeld => ?_);refine jw (T:=kG .any (opsOf Tryz.f41 29)) (by kernel_rfl) (fun bM => ?_);generalize (w.alloc (.cells #[.int .i64 x.f0,.string x.f1,.int .u32 x.f2,.bool x.f3,.slice A x.f4.length c,.int .i64 x.f5] 25 (0,0))).drew = w7 at E hHeld ⊢;refine rp 0 203 bM (h:=?_);refine rp 1 204 bM (h:=?_);refine ro 2 205 bM (h:=?_);refine ro 3 206 bM (h:=?_);refine ro 4 207 bM (h:=?_);refine ro 5 208 bM (h:=?_);refine ro 6 209 bM (h:=?_);refine rp 7 210 bM (h:=?_);refine rp 8 2 bM (h:=?_);refine EX bM ?_;try go_wp2
 go_ret
 exact ⟨by rw [HH.out];rfl,E.out.b⟩
theorem cast.c {x : bn} {A : Option Addr} {c : Nat} {w : World} (hk : x.f0 = 14) (h0 : (x.f1.toList == ([] : List UInt8)) = true) (h1 : (x.f2 == 0) = true) (hG : dG w) (hn : ND w x A c) : Calls Tryz.prog 41 #[val x A c] w (fB (e14 x) w):=by
 have b1:=Yf hk 1 rfl
 have b2:=Yf hk 2 rfl
 have b3:=Yf hk 3 rfl
 have b4:=Yf hk 4 rfl
 have b5:=Yf hk 5 rfl
 have b6:=Yf hk 6 rfl
 have b7:=Yf hk 7 rfl
 have b8:=Yf hk 8 rfl
 have b9:=Yf hk 9 rfl
 have b10:=Yf hk 10 rfl
 have b11:=Yf hk 11 rfl
 have b12:=Yf hk 12 rfl
 have b13:=Yf hk 13 rfl
 have b14:=Yt hk 14 rfl
 have e0 : (x.f1.toList == ([] : List UInt8)) = true:=h0;have e1 : (x.f1.toList != ([] : List UInt8)) = false:=by rw [bne,h0];rfl
 have e2 : (x.f2 == 0) = true:=h1;have HH:=ah.mk (show e14 x = fG [fun x => decide (x.f0 = 16),oG] x.f4 from by unfold e14;rw [h0,h1];rfl);clear h0 h1;have E:=Env.start hG hn;clear hk hn hG;go_enter Tryz.func41,Tryz.ntmps41
 go_wp2
 replace E:=ah.mk (E.out.step (W1:=(w.alloc (.cells #[.int .i64 x.f0,.string x.f1,.int .u32 x.f2,.bool x.f3,.slice A x.f4.length c,.int .i64 x.f5] 25 (0,0))).drew) (aA (Below.refl _ _)));refine jV (n:=9) (S:=fun w' => w'.cell? ⟨w.heap.size,4,none⟩ = some (.slice A x.f4.length c) ∧ True ∧ True) (ds:=[]) (Array.replicate 9 false) (by kernel_rfl) rfl rfl ⟨E.out.cells.2.2.2.2.1,trivial,trivial⟩ (fun hHeld => ?_);refine jw (T:=kG .any (opsOf Tryz.f41 29)) (by kernel_rfl) (fun bM => ?_);generalize (w.alloc (.cells #[.int .i64 x.f0,.string x.f1,.int .u32 x.f2,.bool x.f3,.slice A x.f4.length c,.int .i64 x.f5] 25 (0,0))).drew = w7 at E hHeld ⊢;refine rp 0 203 bM (h:=?_);refine rp 1 204 bM (h:=?_);refine rp 2 205 bM (h:=?_);refine rt 3 206 bM hHeld (h:=?_);refine rc 4 207 bM (h:=fun K hK => ?_);refine ku Tryz.func70 (by kernel_rfl) rfl #[.int .i64 16] (by rfl) rfl rfl (by (try simp only [List.map_toArray,List.map_cons,List.map_nil]);first|done|rfl) ((of.all 16 _).mono ?_);rintro e w8 ⟨q,rfl,hq,hB⟩;refine ⟨_,rfl,?_⟩;have HQ:=ah.mk hq;clear hq;replace E:=ah.mk (E.out.step hB);clear hB;refine hK.out _ _ ⟨E.out.cells.2.2.2.2.1,trivial,trivial⟩ (fun hHeld => rn ?_);clear hK K;refine rc 5 208 bM (h:=fun K hK => ?_);go_simp;replace HQ:=ah.mk (bI HQ.out (au (Below.refl _ _) (.cells #[Value.func (.func 94) #[] #[.pointer (some ⟨q,0,none⟩)],Value.func (.func 40) #[] #[]] 29 (0,0))));have HF:=ah.mk (eP w8 (.cells #[Value.func (.func 94) #[] #[.pointer (some ⟨q,0,none⟩)],Value.func (.func 40) #[] #[]] 29 (0,0)));replace E:=ah.mk (E.out.alloc (.cells #[Value.func (.func 94) #[] #[.pointer (some ⟨q,0,none⟩)],Value.func (.func 40) #[] #[]] 29 (0,0)));refine hK.out _ _ ⟨E.out.cells.2.2.2.2.1,trivial,trivial⟩ (fun hHeld => ?_);clear hK K;refine rc 6 209 bM (h:=fun K hK => ?_);refine ku Tryz.func67 (by kernel_rfl) rfl #[.slice A x.f4.length c,.slice (some ⟨w8.heap.size,0,none⟩) 2 2] (by rfl) rfl rfl (by (try simp only [List.map_toArray,List.map_cons,List.map_nil]);first|done|rfl) ((shape.te x.f4 A c _ E.out.kids _ _ q HQ.out HF.out).mono ?_);rintro e w9 ⟨rfl,hB⟩;refine ⟨_,rfl,?_⟩;replace E:=ah.mk (E.out.step hB);clear hB;refine hK.out _ _ ⟨E.out.cells.2.2.2.2.1,trivial,trivial⟩ (fun hHeld => rn ?_);clear hK K;refine rp 7 210 bM (h:=?_);refine rp 8 2 bM (h:=?_);refine EX bM ?_;try go_wp2
 go_ret
 exact ⟨by rw [HH.out];rfl,E.out.b⟩
theorem expressions.k14 {x : bn} {A : Option Addr} {c : Nat} {w : World} (hk : x.f0 = 14) (hG : dG w) (hn : ND w x A c) : Calls Tryz.prog 41 #[val x A c] w (fB (e14 x) w):=by
 cases h0 : (x.f1.toList == ([] : List UInt8)) with
 | false => exact cast.a hk h0 hG hn
 | true =>
  cases h1 : (x.f2 == 0) with
  | false => exact cast.b hk h0 h1 hG hn
  | true => exact cast.c hk h0 h1 hG hn
def s47 (x : bn) : Bool:=((x.f1.toList == ([] : List UInt8)) && (x.f2 == 0) && (x.f4.all (fun x => isS x || decide (x.f0 = 42))))
theorem statements.n47 {x : bn} {A : Option Addr} {c : Nat} {w : World} (hk : x.f0 = 47) (hG : dG w) (hn : ND w x A c) : Calls Tryz.prog 43 #[val x A c] w (fB (s47 x) w):=by
 have E:=Env.start hG hn;clear hn hG;have EC:=Yt hk 47 rfl
 have HK:=ah.mk hk;clear hk;cases h0 : (x.f1.toList == ([] : List UInt8));rotate_left 1;cases h1 : (x.f2 == 0);rotate_right 1
 rotate_left 2;cases h2 : (x.f4.all (fun x => isS x || decide (x.f0 = 42)));rotate_right 2
 all_goals
  try have kR : (x.f1.toList != ([] : List UInt8)) = false:=by rw [bne,h0];rfl
  try have kR : (x.f1.toList != ([] : List UInt8)) = true:=by rw [bne,h0];rfl
  try have kS : (x.f2 != 0) = false:=by rw [bne,h1];rfl
  try have kS : (x.f2 != 0) = true:=by rw [bne,h1];rfl
  try (have HC2:=ah.mk h2;clear h2)
  go_enter Tryz.func43,Tryz.ntmps43
  go_wp2_with (first
   | (go_at_call 33;(try clear c0 c1 c2 c3 c4 c5);(with_reducible refine Env.call E E.out HC2.out (every.calls x.f4 A c _ E.out.kids 73 #[] (fun x => isS x || decide (x.f0 = 42)) (enters_of Tryz.func73 (by kernel_rfl) rfl) (sW Ku.all)) (fun w1 E c0 c1 c2 c3 c4 c5 => ?_)))
   | fail)
  go_ret
  exact ⟨by unfold s47;(try rw [h0]);(try rw [h1]);(try rw [HC2.out]);first|done|rfl,lK⟩
def s48 (x : bn) : Bool:=((x.f1.toList == ([] : List UInt8)) && (x.f2 == 0) && (fG (gE.map (·.2)) x.f4))
theorem statements.n48 {x : bn} {A : Option Addr} {c : Nat} {w : World} (hk : x.f0 = 48) (hG : dG w) (hn : ND w x A c) : Calls Tryz.prog 43 #[val x A c] w (fB (s48 x) w):=by
 have E:=Env.start hG hn;clear hn hG;have EC:=Yf hk 47 rfl
 have RV:=Yt hk 48 rfl
 have HK:=ah.mk hk;clear hk;cases h0 : (x.f1.toList == ([] : List UInt8));rotate_left 1;cases h1 : (x.f2 == 0);rotate_right 1
 rotate_left 2;cases h2 : (fG (gE.map (·.2)) x.f4);rotate_right 2
 all_goals
  try have kR : (x.f1.toList != ([] : List UInt8)) = false:=by rw [bne,h0];rfl
  try have kR : (x.f1.toList != ([] : List UInt8)) = true:=by rw [bne,h0];rfl
  try have kS : (x.f2 != 0) = false:=by rw [bne,h1];rfl
  try have kS : (x.f2 != 0) = true:=by rw [bne,h1];rfl
  try (have HC2:=ah.mk h2;clear h2)
  have tk2 : True:=trivial;go_enter Tryz.func43,Tryz.ntmps43
  go_wp2_with (first
   | (go_at_call 67;have t_:=tk2;clear t_ tk2;(try clear c0 c1 c2 c3 c4 c5);(refine Env.call E (E.out.alloc _) HC2.out (shape.at 1 gE rfl Kw x.f4 A c _ (E.out.alloc _).kids _ _ (by decide) (by first|exact eP _ _|exact jB _ _ _)) (fun w1 E c0 c1 c2 c3 c4 c5 => ?_)))
   | fail)
  go_ret
  exact ⟨by unfold s48;(try rw [h0]);(try rw [h1]);(try rw [HC2.out]);first|done|rfl,lK⟩
def s50 (x : bn) : Bool:=((x.f1.toList == ([] : List UInt8)) && (x.f2 == 0) && (fG (gES.map (·.2)) x.f4))
theorem statements.n50 {x : bn} {A : Option Addr} {c : Nat} {w : World} (hk : x.f0 = 50) (hG : dG w) (hn : ND w x A c) : Calls Tryz.prog 43 #[val x A c] w (fB (s50 x) w):=by
 have E:=Env.start hG hn;clear hn hG;have EC:=Yf hk 47 rfl
 have RV:=Yf hk 48 rfl
 have FX:=Yf hk 49 rfl
 have Ji:=Yt hk 50 rfl
 have HK:=ah.mk hk;clear hk;cases h0 : (x.f1.toList == ([] : List UInt8));rotate_left 1;cases h1 : (x.f2 == 0);rotate_right 1
 rotate_left 2;cases h2 : (fG (gES.map (·.2)) x.f4);rotate_right 2
 all_goals
  try have kR : (x.f1.toList != ([] : List UInt8)) = false:=by rw [bne,h0];rfl
  try have kR : (x.f1.toList != ([] : List UInt8)) = true:=by rw [bne,h0];rfl
  try have kS : (x.f2 != 0) = false:=by rw [bne,h1];rfl
  try have kS : (x.f2 != 0) = true:=by rw [bne,h1];rfl
  try (have HC2:=ah.mk h2;clear h2)
  have tk2 : True:=trivial;go_enter Tryz.func43,Tryz.ntmps43
  go_wp2_with (first
   | (go_at_call 67;have t_:=tk2;clear t_ tk2;(try clear c0 c1 c2 c3 c4 c5);(refine Env.call E (E.out.alloc _) HC2.out (shape.at 2 gES rfl ok_gES x.f4 A c _ (E.out.alloc _).kids _ _ (by decide) (by first|exact eP _ _|exact jB _ _ _)) (fun w1 E c0 c1 c2 c3 c4 c5 => ?_)))
   | fail)
  go_ret
  exact ⟨by unfold s50;(try rw [h0]);(try rw [h1]);(try rw [HC2.out]);first|done|rfl,lK⟩
def s51 (x : bn) : Bool:=((x.f1.toList == ([] : List UInt8)) && (x.f2 == 0) && (fG (gSE.map (·.2)) x.f4))
theorem statements.n51 {x : bn} {A : Option Addr} {c : Nat} {w : World} (hk : x.f0 = 51) (hG : dG w) (hn : ND w x A c) : Calls Tryz.prog 43 #[val x A c] w (fB (s51 x) w):=by
 have E:=Env.start hG hn;clear hn hG;have EC:=Yf hk 47 rfl
 have RV:=Yf hk 48 rfl
 have FX:=Yf hk 49 rfl
 have Ji:=Yf hk 50 rfl
 have Jy:=Yt hk 51 rfl
 have HK:=ah.mk hk;clear hk;cases h0 : (x.f1.toList == ([] : List UInt8));rotate_left 1;cases h1 : (x.f2 == 0);rotate_right 1
 rotate_left 2;cases h2 : (fG (gSE.map (·.2)) x.f4);rotate_right 2
 all_goals
  try have kR : (x.f1.toList != ([] : List UInt8)) = false:=by rw [bne,h0];rfl
  try have kR : (x.f1.toList != ([] : List UInt8)) = true:=by rw [bne,h0];rfl
  try have kS : (x.f2 != 0) = false:=by rw [bne,h1];rfl
  try have kS : (x.f2 != 0) = true:=by rw [bne,h1];rfl
  try (have HC2:=ah.mk h2;clear h2)
  have tk2 : True:=trivial;go_enter Tryz.func43,Tryz.ntmps43
  go_wp2_with (first
   | (go_at_call 67;have t_:=tk2;clear t_ tk2;(try clear c0 c1 c2 c3 c4 c5);(refine Env.call E (E.out.alloc _) HC2.out (shape.at 2 gSE rfl ok_gSE x.f4 A c _ (E.out.alloc _).kids _ _ (by decide) (by first|exact eP _ _|exact jB _ _ _)) (fun w1 E c0 c1 c2 c3 c4 c5 => ?_)))
   | fail)
  go_ret
  exact ⟨by unfold s51;(try rw [h0]);(try rw [h1]);(try rw [HC2.out]);first|done|rfl,lK⟩
def s52 (x : bn) : Bool:=((x.f1.toList == ([] : List UInt8)) && (x.f2 == 0) && (fG (Ed.map (·.2)) x.f4))
theorem statements.n52 {x : bn} {A : Option Addr} {c : Nat} {w : World} (hk : x.f0 = 52) (hG : dG w) (hn : ND w x A c) : Calls Tryz.prog 43 #[val x A c] w (fB (s52 x) w):=by
 have E:=Env.start hG hn;clear hn hG;have EC:=Yf hk 47 rfl
 have RV:=Yf hk 48 rfl
 have FX:=Yf hk 49 rfl
 have Ji:=Yf hk 50 rfl
 have Jy:=Yf hk 51 rfl
 have KD:=Yt hk 52 rfl
 have HK:=ah.mk hk;clear hk;cases h0 : (x.f1.toList == ([] : List UInt8));rotate_left 1;cases h1 : (x.f2 == 0);rotate_right 1
 rotate_left 2;cases h2 : (fG (Ed.map (·.2)) x.f4);rotate_right 2
 all_goals
  try have kR : (x.f1.toList != ([] : List UInt8)) = false:=by rw [bne,h0];rfl
  try have kR : (x.f1.toList != ([] : List UInt8)) = true:=by rw [bne,h0];rfl
  try have kS : (x.f2 != 0) = false:=by rw [bne,h1];rfl
  try have kS : (x.f2 != 0) = true:=by rw [bne,h1];rfl
  try (have HC2:=ah.mk h2;clear h2)
  have tk2 : True:=trivial;go_enter Tryz.func43,Tryz.ntmps43
  go_wp2_with (first
   | (go_at_call 67;have t_:=tk2;clear t_ tk2;(try clear c0 c1 c2 c3 c4 c5);(refine Env.call E (E.out.alloc _) HC2.out (shape.at 4 Ed rfl ok_gNNNS x.f4 A c _ (E.out.alloc _).kids _ _ (by decide) (by first|exact eP _ _|exact jB _ _ _)) (fun w1 E c0 c1 c2 c3 c4 c5 => ?_)))
   | fail)
  go_ret
  exact ⟨by unfold s52;(try rw [h0]);(try rw [h1]);(try rw [HC2.out]);first|done|rfl,lK⟩
theorem FY {gp : List (FuncId × (bn → Bool))} {l : List bn} (h : fG (gp.map (·.2)) l = true) : l.length = gp.length:=by
 unfold fG at h;rw [Bool.and_eq_true,decide_eq_true_eq,List.length_map] at h;exact h.1
theorem node_at1 {w : World} {A : Option Addr} {n : Nat} {xs : List bn} (h : Kd.C k25 w A n xs) (hi : 1 < n) :
 ∃ ad A' c',A = some ad ∧ ND w (nd xs 1) A' c' ∧ w.cell? ⟨ad.block,ad.off + 6,none⟩ = some (.int .i64 (nd xs 1).f0) ∧ w.cell? ⟨ad.block,ad.off + 6 + 1,none⟩ = some (.string (nd xs 1).f1) ∧ w.cell? ⟨ad.block,ad.off + 6 + 2,none⟩ = some (.int .u32 (nd xs 1).f2) ∧ w.cell? ⟨ad.block,ad.off + 6 + 3,none⟩ = some (.bool (nd xs 1).f3) ∧ w.cell? ⟨ad.block,ad.off + 6 + 4,none⟩ = some (.slice A' (nd xs 1).f4.length c') ∧ w.cell? ⟨ad.block,ad.off + 6 + 5,none⟩ = some (.int .i64 (nd xs 1).f5):=by
 obtain ⟨ad,A',c',e,hn,k0,k1,k2,k3,k4,k5⟩:=jo h 1 hi;exact ⟨ad,A',c',e,hn,k0,k1,k2,k3,k4,k5⟩
noncomputable def s49 (x : bn) : Bool:=((x.f1.toList == ([] : List UInt8)) && (x.f2 == 0) && ((fG (gES.map (·.2)) x.f4) || ((fG (Nk.map (·.2)) x.f4) && (!(FW (nd x.f4 1))))))
theorem statements.n49 {x : bn} {A : Option Addr} {c : Nat} {w : World} (hk : x.f0 = 49) (hG : dG w) (hn : ND w x A c) : Calls Tryz.prog 43 #[val x A c] w (fB (s49 x) w):=by
 have E:=Env.start hG hn;clear hn hG;have EC:=Yf hk 47 rfl
 have RV:=Yf hk 48 rfl
 have FX:=Yt hk 49 rfl
 have HK:=ah.mk hk;clear hk;cases h0 : (x.f1.toList == ([] : List UInt8));rotate_left 1;cases h1 : (x.f2 == 0);rotate_right 1
 rotate_left 2;cases h2 : (fG (gES.map (·.2)) x.f4);rotate_right 2
 rotate_left 2;cases h3 : (fG (Nk.map (·.2)) x.f4);rotate_right 2
 rotate_left 3;cases h4 : (FW (nd x.f4 1));rotate_right 3
 all_goals
  try have kR : (x.f1.toList != ([] : List UInt8)) = false:=by rw [bne,h0];rfl
  try have kR : (x.f1.toList != ([] : List UInt8)) = true:=by rw [bne,h0];rfl
  try have kS : (x.f2 != 0) = false:=by rw [bne,h1];rfl
  try have kS : (x.f2 != 0) = true:=by rw [bne,h1];rfl
  try (have HC2:=ah.mk h2;clear h2)
  have tk2 : True:=trivial;try (have qV:=ah.mk h3;clear h3)
  have tk3 : True:=trivial;try (have KE:=ah.mk h4;clear h4)
  go_enter Tryz.func43,Tryz.ntmps43
  go_wp2_with (first
   | (go_at_call 67;have t_:=tk2;clear t_ tk2;(try clear c0 c1 c2 c3 c4 c5);(refine Env.call E (E.out.alloc _) HC2.out (shape.at 2 gES rfl ok_gES x.f4 A c _ (E.out.alloc _).kids _ _ (by decide) (by first|exact eP _ _|exact jB _ _ _)) (fun w1 E c0 c1 c2 c3 c4 c5 => ?_)))
   | (go_at_call 67;have t_:=tk3;clear t_ tk3;(try clear c0 c1 c2 c3 c4 c5);(refine Env.call E (E.out.alloc _) qV.out (shape.at 3 Nk rfl ok_gESS x.f4 A c _ (E.out.alloc _).kids _ _ (by decide) (by first|exact eP _ _|exact jB _ _ _)) (fun w1 E c0 c1 c2 c3 c4 c5 => ?_));(try (obtain ⟨ad,A1,c1_,rfl,hnd,k0,k1,k2,k3,k4,k5⟩:=node_at1 E.out.kids (by rw [FY qV.out];decide);have HND:=ah.mk hnd;clear hnd;have q1 : (1 : Int) < (x.f4.length : Int):=by (rw [FY qV.out];decide))))
   | (go_at_call 74;(try clear c0 c1 c2 c3 c4 c5);(with_reducible refine Env.call E E.out KE.out (open.all HND.out) (fun w1 E c0 c1 c2 c3 c4 c5 => ?_)))
   | fail)
  go_ret
  exact ⟨by unfold s49;(try rw [h0]);(try rw [h1]);(try rw [HC2.out]);(try rw [qV.out]);(try rw [KE.out]);first|done|rfl,lK⟩
def s55 (x : bn) : Bool:=((x.f1.toList == ([] : List UInt8)) && (x.f2 == 0) && ((decide ((x.f4.length : Int) ≤ 1)) && (x.f4.all oG)))
theorem statements.n55 {x : bn} {A : Option Addr} {c : Nat} {w : World} (hk : x.f0 = 55) (hG : dG w) (hn : ND w x A c) : Calls Tryz.prog 43 #[val x A c] w (fB (s55 x) w):=by
 have E:=Env.start hG hn;clear hn hG;have EC:=Yf hk 47 rfl
 have RV:=Yf hk 48 rfl
 have FX:=Yf hk 49 rfl
 have Ji:=Yf hk 50 rfl
 have Jy:=Yf hk 51 rfl
 have KD:=Yf hk 52 rfl
 have b55:=Yt hk 55 rfl
 have HK:=ah.mk hk;clear hk;cases h0 : (x.f1.toList == ([] : List UInt8));rotate_left 1;cases h1 : (x.f2 == 0);rotate_right 1
 rotate_left 2;cases h2 : (decide ((x.f4.length : Int) ≤ 1));rotate_right 2
 rotate_left 3;cases h3 : (x.f4.all oG);rotate_right 3
 all_goals
  try have kR : (x.f1.toList != ([] : List UInt8)) = false:=by rw [bne,h0];rfl
  try have kR : (x.f1.toList != ([] : List UInt8)) = true:=by rw [bne,h0];rfl
  try have kS : (x.f2 != 0) = false:=by rw [bne,h1];rfl
  try have kS : (x.f2 != 0) = true:=by rw [bne,h1];rfl
  try (have qV:=ah.mk h3;clear h3)
  go_enter Tryz.func43,Tryz.ntmps43
  go_wp2_with (first
   | (go_at_call 33;(try clear c0 c1 c2 c3 c4 c5);(with_reducible refine Env.call E E.out qV.out (every.calls x.f4 A c _ E.out.kids 40 #[] oG (enters_of Tryz.func40 (by kernel_rfl) rfl) (sW expression.all)) (fun w1 E c0 c1 c2 c3 c4 c5 => ?_)))
   | fail)
  go_ret
  exact ⟨by unfold s55;(try rw [h0]);(try rw [h1]);(try rw [h2]);(try rw [qV.out]);first|done|rfl,lK⟩
def s0 (x : bn) : Bool:=((x.f1.toList == ([] : List UInt8)) && (x.f2 == 0) && ((x.f4.length : Int) == 0))
theorem statements.n0 {x : bn} {A : Option Addr} {c : Nat} {w : World} (h47 : x.f0 ≠ 47) (h48 : x.f0 ≠ 48) (FV : x.f0 ≠ 49) (h50 : x.f0 ≠ 50) (RX : x.f0 ≠ 51) (Qi : x.f0 ≠ 52) (h55 : x.f0 ≠ 55) (hG : dG w) (hn : ND w x A c) : Calls Tryz.prog 43 #[val x A c] w (fB (s0 x) w):=by
 have E:=Env.start hG hn;clear hn hG;have EC : (x.f0 == 47) = false:=beq_eq_false_iff_ne.2 h47;have RV : (x.f0 == 48) = false:=beq_eq_false_iff_ne.2 h48;have FX : (x.f0 == 49) = false:=beq_eq_false_iff_ne.2 FV;have Ji : (x.f0 == 50) = false:=beq_eq_false_iff_ne.2 h50;have Jy : (x.f0 == 51) = false:=beq_eq_false_iff_ne.2 RX;have KD : (x.f0 == 52) = false:=beq_eq_false_iff_ne.2 Qi;have b55 : (x.f0 == 55) = false:=beq_eq_false_iff_ne.2 h55;clear h47 h48 FV h50 RX Qi h55;cases h0 : (x.f1.toList == ([] : List UInt8));rotate_left 1;cases h1 : (x.f2 == 0);rotate_right 1
 rotate_left 2;cases h2 : ((x.f4.length : Int) == 0);rotate_right 2
 all_goals
  try have kR : (x.f1.toList != ([] : List UInt8)) = false:=by rw [bne,h0];rfl
  try have kR : (x.f1.toList != ([] : List UInt8)) = true:=by rw [bne,h0];rfl
  try have kS : (x.f2 != 0) = false:=by rw [bne,h1];rfl
  try have kS : (x.f2 != 0) = true:=by rw [bne,h1];rfl
  go_enter Tryz.func43,Tryz.ntmps43
  go_wp2
  go_ret
  exact ⟨by unfold s0;(try rw [h0]);(try rw [h1]);(try rw [h2]);first|done|rfl,lK⟩
def d40 (x : bn) : Bool:=((x.f1.toList == ([] : List UInt8)) && (x.f2 == 0) && (x.f4.all (fun x => decide (x.f0 = 41) || decide (x.f0 = 42) || decide (x.f0 = 45))))
theorem declarations.n40 {x : bn} {A : Option Addr} {c : Nat} {w : World} (hk : x.f0 = 40) (hs : oV x.f1) (hG : dG w) (hn : ND w x A c) : Calls Tryz.prog 44 #[val x A c] w (fB (d40 x) w):=by
 have E:=Env.start hG hn;clear hn hG;have b40:=Yt hk 40 rfl
 have HK:=ah.mk hk;clear hk;have HS:=ah.mk hs;clear hs;cases h0 : (uF x.f1);cases h1 : (x.f1.toList == ([] : List UInt8));rotate_left 1;cases h2 : (x.f2 == 0);rotate_right 1
 rotate_left 2;cases h3 : (x.f4.all (fun x => decide (x.f0 = 41) || decide (x.f0 = 42) || decide (x.f0 = 45)));rotate_right 2
 rotate_left 4;cases h1 : (x.f1.toList == ([] : List UInt8));rotate_right 4
 rotate_left 5;cases h2 : (x.f2 == 0);rotate_right 5
 rotate_left 6;cases h3 : (x.f4.all (fun x => decide (x.f0 = 41) || decide (x.f0 = 42) || decide (x.f0 = 45)));rotate_right 6
 all_goals
  try (have vw:=ah.mk h0;clear h0)
  try have kS : (x.f1.toList != ([] : List UInt8)) = false:=by rw [bne,h1];rfl
  try have kS : (x.f1.toList != ([] : List UInt8)) = true:=by rw [bne,h1];rfl
  try have h2m0 : (x.f2 != 0) = false:=by rw [bne,h2];rfl
  try have h2m0 : (x.f2 != 0) = true:=by rw [bne,h2];rfl
  try (have qV:=ah.mk h3;clear h3)
  go_enter Tryz.func44,Tryz.ntmps44
  go_wp2_with (first
   | (go_at_call 66;(try clear c0 c1 c2 c3 c4 c5);(with_reducible refine Env.call E E.out vw.out (name.all HS.out E.out.kQ) (fun w1 E c0 c1 c2 c3 c4 c5 => ?_)))
   | (go_at_call 33;(try clear c0 c1 c2 c3 c4 c5);(with_reducible refine Env.call E E.out qV.out (every.calls x.f4 A c _ E.out.kids 76 #[] (fun x => decide (x.f0 = 41) || decide (x.f0 = 42) || decide (x.f0 = 45)) (enters_of Tryz.func76 (by kernel_rfl) rfl) (sW EU.all)) (fun w1 E c0 c1 c2 c3 c4 c5 => ?_)))
   | fail)
  go_ret
  exact ⟨by unfold d40;(try rw [h1]);(try rw [h2]);(try rw [qV.out]);first|done|rfl,lK⟩
def d41 (x : bn) : Bool:=((uF x.f1) && (x.f2 == 0) && (x.f4.all vV))
theorem declarations.n41 {x : bn} {A : Option Addr} {c : Nat} {w : World} (hk : x.f0 = 41) (hs : oV x.f1) (hG : dG w) (hn : ND w x A c) : Calls Tryz.prog 44 #[val x A c] w (fB (d41 x) w):=by
 have E:=Env.start hG hn;clear hn hG;have b40:=Yf hk 40 rfl
 have BM:=Yt hk 41 rfl
 have HK:=ah.mk hk;clear hk;have HS:=ah.mk hs;clear hs;cases h0 : (uF x.f1);rotate_left 1;cases h1 : (x.f2 == 0);rotate_right 1
 rotate_left 2;cases h2 : (x.f4.all vV);rotate_right 2
 all_goals
  try (have vw:=ah.mk h0;clear h0)
  try have kS : (x.f2 != 0) = false:=by rw [bne,h1];rfl
  try have kS : (x.f2 != 0) = true:=by rw [bne,h1];rfl
  try (have HC2:=ah.mk h2;clear h2)
  go_enter Tryz.func44,Tryz.ntmps44
  go_wp2_with (first
   | (go_at_call 66;(try clear c0 c1 c2 c3 c4 c5);(with_reducible refine Env.call E E.out vw.out (name.all HS.out E.out.kQ) (fun w1 E c0 c1 c2 c3 c4 c5 => ?_)))
   | (go_at_call 33;(try clear c0 c1 c2 c3 c4 c5);(with_reducible refine Env.call E E.out HC2.out (every.calls x.f4 A c _ E.out.kids 77 #[] vV (enters_of Tryz.func77 (by kernel_rfl) rfl) (sW bare.all)) (fun w1 E c0 c1 c2 c3 c4 c5 => ?_)))
   | fail)
  go_ret
  exact ⟨by unfold d41;(try rw [vw.out]);(try rw [h1]);(try rw [HC2.out]);first|done|rfl,lK⟩
def d43 (x : bn) : Bool:=((uF x.f1) && (x.f2 == 0) && (Jh x))
theorem declarations.n43 {x : bn} {A : Option Addr} {c : Nat} {w : World} (hk : x.f0 = 43) (hs : oV x.f1) (hG : dG w) (hn : ND w x A c) : Calls Tryz.prog 44 #[val x A c] w (fB (d43 x) w):=by
 have E:=Env.start hG hn;clear hn hG;have b40:=Yf hk 40 rfl
 have BM:=Yf hk 41 rfl
 have Cj:=Yf hk 42 rfl
 have b43:=Yt hk 43 rfl
 have HK:=ah.mk hk;clear hk;have HS:=ah.mk hs;clear hs;cases h0 : (uF x.f1);rotate_left 1;cases h1 : (x.f2 == 0);rotate_right 1
 rotate_left 2;cases h2 : (Jh x);rotate_right 2
 all_goals
  try (have vw:=ah.mk h0;clear h0)
  try have kS : (x.f2 != 0) = false:=by rw [bne,h1];rfl
  try have kS : (x.f2 != 0) = true:=by rw [bne,h1];rfl
  try (have HC2:=ah.mk h2;clear h2)
  go_enter Tryz.func44,Tryz.ntmps44
  go_wp2_with (first
   | (go_at_call 66;(try clear c0 c1 c2 c3 c4 c5);(with_reducible refine Env.call E E.out vw.out (name.all HS.out E.out.kQ) (fun w1 E c0 c1 c2 c3 c4 c5 => ?_)))
   | (go_at_call 78;(try clear c0 c1 c2 c3 c4 c5);(with_reducible refine Env.call E E.out HC2.out (variable.all E.out.nd) (fun w1 E c0 c1 c2 c3 c4 c5 => ?_)))
   | fail)
  go_ret
  exact ⟨by unfold d43;(try rw [vw.out]);(try rw [h1]);(try rw [HC2.out]);first|done|rfl,lK⟩
def d44 (x : bn) : Bool:=((x.f1.toList == ([] : List UInt8)) && (x.f2 == 0) && (decide ((x.f4.length : Int) > 0)) && (x.f4.all oG))
theorem declarations.n44 {x : bn} {A : Option Addr} {c : Nat} {w : World} (hk : x.f0 = 44) (hs : oV x.f1) (hG : dG w) (hn : ND w x A c) : Calls Tryz.prog 44 #[val x A c] w (fB (d44 x) w):=by
 have E:=Env.start hG hn;clear hn hG;have b40:=Yf hk 40 rfl
 have BM:=Yf hk 41 rfl
 have Cj:=Yf hk 42 rfl
 have b43:=Yf hk 43 rfl
 have b44:=Yt hk 44 rfl
 have HK:=ah.mk hk;clear hk;have HS:=ah.mk hs;clear hs;cases h0 : (uF x.f1);cases h1 : (x.f1.toList == ([] : List UInt8));rotate_left 1;cases h2 : (x.f2 == 0);rotate_right 1
 rotate_left 2;cases h3 : (decide ((x.f4.length : Int) > 0));rotate_right 2
 rotate_left 3;cases h4 : (x.f4.all oG);rotate_right 3
 rotate_left 5;cases h1 : (x.f1.toList == ([] : List UInt8));rotate_right 5
 rotate_left 6;cases h2 : (x.f2 == 0);rotate_right 6
 rotate_left 7;cases h3 : (decide ((x.f4.length : Int) > 0));rotate_right 7
 rotate_left 8;cases h4 : (x.f4.all oG);rotate_right 8
 all_goals
  try (have vw:=ah.mk h0;clear h0)
  try have kS : (x.f1.toList != ([] : List UInt8)) = false:=by rw [bne,h1];rfl
  try have kS : (x.f1.toList != ([] : List UInt8)) = true:=by rw [bne,h1];rfl
  try have h2m0 : (x.f2 != 0) = false:=by rw [bne,h2];rfl
  try have h2m0 : (x.f2 != 0) = true:=by rw [bne,h2];rfl
  try have h3m0 : decide (0 < (x.f4.length : Int)) = true:=h3
  try have h3m0 : decide (0 < (x.f4.length : Int)) = false:=h3
  try have h3m1 : decide (0 < x.f4.length) = true:=by rw [← h3];simp
  try have h3m1 : decide (0 < x.f4.length) = false:=by rw [← h3];simp
  try (have KE:=ah.mk h4;clear h4)
  go_enter Tryz.func44,Tryz.ntmps44
  go_wp2_with (first
   | (go_at_call 66;(try clear c0 c1 c2 c3 c4 c5);(with_reducible refine Env.call E E.out vw.out (name.all HS.out E.out.kQ) (fun w1 E c0 c1 c2 c3 c4 c5 => ?_)))
   | (go_at_call 33;(try clear c0 c1 c2 c3 c4 c5);(with_reducible refine Env.call E E.out KE.out (every.calls x.f4 A c _ E.out.kids 40 #[] oG (enters_of Tryz.func40 (by kernel_rfl) rfl) (sW expression.all)) (fun w1 E c0 c1 c2 c3 c4 c5 => ?_)))
   | fail)
  go_ret
  exact ⟨by unfold d44;(try rw [h1]);(try rw [h2]);(try rw [h3]);(try rw [KE.out]);first|done|rfl,lK⟩
def d46 (x : bn) : Bool:=((uF x.f1) && (decide (x.f2 ≤ 1)) && (!((x.f3) && (x.f2 == 1))) && (fG [fun x => decide (x.f0 = 16)] x.f4))
theorem declarations.n46 {x : bn} {A : Option Addr} {c : Nat} {w : World} (hk : x.f0 = 46) (hs : oV x.f1) (hG : dG w) (hn : ND w x A c) : Calls Tryz.prog 44 #[val x A c] w (fB (d46 x) w):=by
 have E:=Env.start hG hn;clear hn hG;have b40:=Yf hk 40 rfl
 have BM:=Yf hk 41 rfl
 have Cj:=Yf hk 42 rfl
 have b43:=Yf hk 43 rfl
 have b44:=Yf hk 44 rfl
 have KF:=Yf hk 45 rfl
 have b46:=Yt hk 46 rfl
 have HK:=ah.mk hk;clear hk;have HS:=ah.mk hs;clear hs;cases h0 : (uF x.f1);rotate_left 1;cases h1 : (decide (x.f2 ≤ 1));rotate_right 1
 rotate_left 2;cases h2 : (x.f3);rotate_right 2
 rotate_left 2;cases h5 : (fG [fun x => decide (x.f0 = 16)] x.f4);rotate_right 2
 rotate_left 4;cases h3 : (x.f2 == 1);rotate_right 4
 rotate_left 4;cases h5 : (fG [fun x => decide (x.f0 = 16)] x.f4);rotate_right 4
 all_goals
  try (have vw:=ah.mk h0;clear h0)
  try (have HC2:=ah.mk h2;clear h2)
  try (have Jv:=ah.mk h5;clear h5)
  have tk5 : True:=trivial;go_enter Tryz.func44,Tryz.ntmps44
  go_wp2_with (first
   | (go_at_call 66;(try clear c0 c1 c2 c3 c4 c5);(with_reducible refine Env.call E E.out vw.out (name.all HS.out E.out.kQ) (fun w1 E c0 c1 c2 c3 c4 c5 => ?_));(try have h2:=HC2.out))
   | (go_at_call 70;(try clear c0 c1 c2 c3 c4 c5);(with_reducible refine (of.all _ _).mono ?_);rintro e w1 ⟨q,rfl,hq,hB⟩;replace E:=ah.mk (E.out.step hB);clear hB;obtain ⟨c0,c1,c2,c3,c4,c5⟩:=E.out.cells;have HQ:=ah.mk hq;clear hq)
   | (go_at_call 67;have t_:=tk5;clear t_ tk5;(try clear c0 c1 c2 c3 c4 c5);(refine Env.call E (E.out.alloc _) Jv.out (shape.t x.f4 A c _ (E.out.alloc _).kids _ _ q (bI HQ.out (au (Below.refl _ _) _)) (by first|exact eP _ _|exact jB _ _ _)) (fun w1 E c0 c1 c2 c3 c4 c5 => ?_)))
   | fail)
  go_ret
  exact ⟨by unfold d46;(try rw [vw.out]);(try rw [h1]);(try rw [HC2.out]);(try rw [h3]);(try rw [Jv.out]);first|done|rfl,lK⟩
def d0 (x : bn) : Bool:=false
theorem declarations.n0 {x : bn} {A : Option Addr} {c : Nat} {w : World} (Rk : x.f0 ≠ 40) (Nz : x.f0 ≠ 41) (h42 : x.f0 ≠ 42) (h43 : x.f0 ≠ 43) (EY : x.f0 ≠ 44) (h45 : x.f0 ≠ 45) (h46 : x.f0 ≠ 46) (hs : oV x.f1) (hG : dG w) (hn : ND w x A c) : Calls Tryz.prog 44 #[val x A c] w (fB (d0 x) w):=by
 have E:=Env.start hG hn;clear hn hG;have b40 : (x.f0 == 40) = false:=beq_eq_false_iff_ne.2 Rk;have BM : (x.f0 == 41) = false:=beq_eq_false_iff_ne.2 Nz;have Cj : (x.f0 == 42) = false:=beq_eq_false_iff_ne.2 h42;have b43 : (x.f0 == 43) = false:=beq_eq_false_iff_ne.2 h43;have b44 : (x.f0 == 44) = false:=beq_eq_false_iff_ne.2 EY;have KF : (x.f0 == 45) = false:=beq_eq_false_iff_ne.2 h45;have b46 : (x.f0 == 46) = false:=beq_eq_false_iff_ne.2 h46;clear Rk Nz h42 h43 EY h45 h46;have HS:=ah.mk hs;clear hs;cases h0 : (uF x.f1);all_goals
  try (have vw:=ah.mk h0;clear h0)
  go_enter Tryz.func44,Tryz.ntmps44
  go_wp2_with (first
   | (go_at_call 66;(try clear c0 c1 c2 c3 c4 c5);(with_reducible refine Env.call E E.out vw.out (name.all HS.out E.out.kQ) (fun w1 E c0 c1 c2 c3 c4 c5 => ?_)))
   | fail)
  go_ret
  exact ⟨by unfold d0;first|done|rfl,lK⟩
theorem of1.any {xs : List bn} (k : Int) (q : Nat) (w : World) (hq : w.heap[q]? = some (.cells #[.int .i64 k] 3 (0,0))) : Asks 94 #[.pointer (some ⟨q,0,none⟩)] (fun x => decide (x.f0 = k)) xs w :=
 fun x _ W A c hW _ => of1.all k q (bI hq hW)
theorem every.at (n : Nat) (xs : List bn) (e : xs.length = n) (A : Option Addr) (c : Nat) (w : World) (hC : Kd.C k25 w A xs.length xs) (g : FuncId) (caps : Array Value) (p : bn → Bool) (hent : Enters Tryz.prog g) (h : Asks g caps p xs w) :
 Calls Tryz.prog 33 #[.slice A n c,.func (.func g) #[] caps] w (fB (xs.all p) w):=by
 subst e;exact every.calls xs A c w hC g caps p hent h
def tH (l : List bn) : Bool:=decide (2 ≤ l.length) && decide ((nd l 0).f0 = 16) && decide ((nd l (l.length - 1)).f0 = 47) && ((l.take (l.length - 1)).tail).all (fun x => decide (x.f0 = 46))
theorem function.e (xs : List bn) (A : Option Addr) (c : Nat) (w : World) (hC : Kd.C k25 w A xs.length xs) (hle : xs.length ≤ c) (h2 : 2 ≤ xs.length) (h16 : (nd xs 0).f0 = 16) (h47 : (nd xs (xs.length - 1)).f0 = 47) : Calls Tryz.prog 79 #[.slice A xs.length c] w (fB (tH xs) w):=by
 have hmax:=hC.2.1;obtain ⟨m,hm⟩ : ∃ m,m + 1 = xs.length:=⟨xs.length - 1,by omega⟩
 have hw : IntKind.i64.wrap ((xs.length : Int) - 1) = (m : Int):=(bW _).trans (by unfold wrap64;omega);have hw2 : wrap64 ((xs.length : Int) - 1) = (m : Int):=by unfold wrap64;omega
 obtain ⟨ad,A1,c1,rfl,_,k0,_⟩:=jo hC 0 (by omega);rw [Nat.zero_mul,nM] at k0;obtain ⟨ad2,A2,c2,e2,_,c0,_⟩:=jo hC m (by omega);obtain rfl:=Option.some.inj e2;clear e2;have p1 : (0 : Int) ≤ (m : Int):=by omega
 have q1 : (m : Int) < (xs.length : Int):=by omega
 have q0 : 0 < xs.length:=by omega
 have e1 : decide ((m : Int) ≥ 1) = true:=decide_eq_true (by omega);have e1b : decide (1 ≤ (m : Int)) = true:=decide_eq_true (by omega);have e1c : (1 : Int) ≤ (m : Int):=by omega
 have hcc : ¬ c = 1:=by omega
 have q2 : m ≤ c:=by omega
 have vC:=ah.mk (show ((xs.take m).tail).length = m - 1 from by rw [List.length_tail,List.length_take];omega);have HS:=ah.mk (show Kd.C k25 w (some ⟨ad.block,ad.off + 6,none⟩) ((xs.take m).tail).length ((xs.take m).tail) from by
  have h1:=Kd.C_mid (lo:=1) (hi:=m) hC (by omega) (by omega) hle;rw [if_neg hcc,List.drop_one] at h1;exact h1)
 have t16 : ((nd xs 0).f0 == 16) = true:=by rw [h16];rfl
 have t47 : ((nd xs m).f0 == 47) = true:=by rw [show m = xs.length - 1 by omega,h47];rfl
 have HH:=ah.mk (show tH xs = ((xs.take m).tail).all (fun x => decide (x.f0 = 46)) from by unfold tH;rw [decide_eq_true h2,decide_eq_true h16,decide_eq_true h47,show xs.length - 1 = m by omega];rfl);clear h2 h16 h47;have HM:=ah.mk hm;have HX:=ah.mk hC;have HL:=ah.mk hle;clear hm hC hle hmax;go_enter Tryz.func79,Tryz.ntmps79
 go_wp2
 have HB:=ah.mk (aA (Below.refl w.heap.size w));refine jV (n:=25) (S:=fun w' => w'.cell? ad = some (.int .i64 (nd xs 0).f0) ∧ w'.cell? (ad.add (m * 6)) = some (.int .i64 (nd xs m).f0) ∧ True) (ds:=[]) (Array.replicate 25 false) (by kernel_rfl) rfl rfl ⟨bf HB.out k0,bf HB.out c0,trivial⟩ (fun hHeld => ?_);refine jw (T:=kG .any (opsOf Tryz.f79 2)) (by kernel_rfl) (fun bM => ?_);generalize w.drew = w7 at HB hHeld ⊢;refine rp 0 7 bM (h:=?_);refine rp 1 8 bM (h:=?_);refine rp 2 9 bM (h:=?_);refine rp 3 10 bM (h:=?_);refine rp 4 11 bM (h:=?_);refine rp 5 12 bM (h:=?_);refine rt 6 13 bM hHeld (h:=?_);refine rp 7 14 bM (h:=?_);refine rp 8 15 bM (h:=?_);refine rp 9 16 bM (h:=?_);refine rp 10 17 bM (h:=?_);refine rp 11 18 bM (h:=?_);refine rp 12 19 bM (h:=?_);refine rp 13 20 bM (h:=?_);refine rt 14 21 bM hHeld (h:=?_);refine rp 15 22 bM (h:=?_);refine rp 16 23 bM (h:=?_);refine rp 17 24 bM (h:=?_);refine rp 18 25 bM (h:=?_);refine rp 19 26 bM (h:=?_);refine rp 20 27 bM (h:=?_);refine rc 21 28 bM (h:=fun K hK => ?_);refine ku Tryz.func70 (by kernel_rfl) rfl #[.int .i64 46] (by rfl) rfl rfl (by (try simp only [List.map_toArray,List.map_cons,List.map_nil]);first|done|rfl) ((of.all 46 _).mono ?_);rintro e w8 ⟨q,rfl,hq,hB⟩;refine ⟨_,rfl,?_⟩;have HQ:=ah.mk hq;replace HB:=ah.mk (aN HB.out hB);clear hB hq;refine hK.out _ _ ⟨bf HB.out k0,bf HB.out c0,trivial⟩ (fun hHeld => rn ?_);clear hK K;refine rc 22 29 bM (h:=fun K hK => ?_);refine ku Tryz.func33 (by kernel_rfl) rfl #[.slice (some ⟨ad.block,ad.off + 6,none⟩) (m - 1) (c - 1),.func (.func 94) #[] #[.pointer (some ⟨q,0,none⟩)]] (by rfl) rfl rfl (by (try simp only [List.map_toArray,List.map_cons,List.map_nil]);first|done|rfl) ((every.at (m - 1) ((xs.take m).tail) vC.out (some ⟨ad.block,ad.off + 6,none⟩) _ _ (Kd.dP HS.out HB.out) 94 #[.pointer (some ⟨q,0,none⟩)] (fun x => decide (x.f0 = 46)) (enters_of Tryz.func94 (by kernel_rfl) rfl) (of1.any 46 q _ HQ.out)).mono ?_);rintro e w9 ⟨rfl,hB⟩;refine ⟨_,rfl,?_⟩;replace HB:=ah.mk (aN HB.out hB);clear hB;refine hK.out _ _ ⟨bf HB.out k0,bf HB.out c0,trivial⟩ (fun hHeld => rn ?_);clear hK K;refine rp 23 30 bM (h:=?_);refine rp 24 2 bM (h:=?_);refine EX bM ?_;try go_wp2
 go_ret
 exact ⟨by rw [HH.out];rfl,HB.out⟩
theorem function.d (xs : List bn) (A : Option Addr) (c : Nat) (w : World) (hC : Kd.C k25 w A xs.length xs) (hle : xs.length ≤ c) (h2 : 2 ≤ xs.length) (h16 : (nd xs 0).f0 = 16) (h47 : (nd xs (xs.length - 1)).f0 ≠ 47) : Calls Tryz.prog 79 #[.slice A xs.length c] w (fB (tH xs) w):=by
 have hmax:=hC.2.1;obtain ⟨m,hm⟩ : ∃ m,m + 1 = xs.length:=⟨xs.length - 1,by omega⟩
 have hw : IntKind.i64.wrap ((xs.length : Int) - 1) = (m : Int):=(bW _).trans (by unfold wrap64;omega);have hw2 : wrap64 ((xs.length : Int) - 1) = (m : Int):=by unfold wrap64;omega
 obtain ⟨ad,A1,c1,rfl,_,k0,_⟩:=jo hC 0 (by omega);rw [Nat.zero_mul,nM] at k0;obtain ⟨ad2,A2,c2,e2,_,c0,_⟩:=jo hC m (by omega);obtain rfl:=Option.some.inj e2;clear e2;have p1 : (0 : Int) ≤ (m : Int):=by omega
 have q1 : (m : Int) < (xs.length : Int):=by omega
 have q0 : 0 < xs.length:=by omega
 have e1 : decide ((m : Int) ≥ 1) = true:=decide_eq_true (by omega);have e1b : decide (1 ≤ (m : Int)) = true:=decide_eq_true (by omega);have e1c : (1 : Int) ≤ (m : Int):=by omega
 have t16 : ((nd xs 0).f0 == 16) = true:=by rw [h16];rfl
 have t47 : ((nd xs m).f0 == 47) = false:=by rw [show m = xs.length - 1 by omega];exact beq_eq_false_iff_ne.2 h47
 have HH:=ah.mk (show tH xs = false from by unfold tH;rw [decide_eq_false h47,Bool.and_false];rfl);clear h2 h16 h47;have HM:=ah.mk hm;have HX:=ah.mk hC;have HL:=ah.mk hle;clear hm hC hle hmax;go_enter Tryz.func79,Tryz.ntmps79
 go_wp2
 have HB:=ah.mk (aA (Below.refl w.heap.size w));refine jV (n:=25) (S:=fun w' => w'.cell? ad = some (.int .i64 (nd xs 0).f0) ∧ w'.cell? (ad.add (m * 6)) = some (.int .i64 (nd xs m).f0) ∧ True) (ds:=[]) (Array.replicate 25 false) (by kernel_rfl) rfl rfl ⟨bf HB.out k0,bf HB.out c0,trivial⟩ (fun hHeld => ?_);refine jw (T:=kG .any (opsOf Tryz.f79 2)) (by kernel_rfl) (fun bM => ?_);generalize w.drew = w7 at HB hHeld ⊢;refine rp 0 7 bM (h:=?_);refine rp 1 8 bM (h:=?_);refine rp 2 9 bM (h:=?_);refine rp 3 10 bM (h:=?_);refine rp 4 11 bM (h:=?_);refine rp 5 12 bM (h:=?_);refine rt 6 13 bM hHeld (h:=?_);refine rp 7 14 bM (h:=?_);refine rp 8 15 bM (h:=?_);refine rp 9 16 bM (h:=?_);refine rp 10 17 bM (h:=?_);refine rp 11 18 bM (h:=?_);refine rp 12 19 bM (h:=?_);refine rp 13 20 bM (h:=?_);refine rt 14 21 bM hHeld (h:=?_);refine rp 15 22 bM (h:=?_);refine rp 16 23 bM (h:=?_);refine rp 17 24 bM (h:=?_);refine ro 18 25 bM (h:=?_);refine ro 19 26 bM (h:=?_);refine ro 20 27 bM (h:=?_);refine ro 21 28 bM (h:=?_);refine ro 22 29 bM (h:=?_);refine rp 23 30 bM (h:=?_);refine rp 24 2 bM (h:=?_);refine EX bM ?_;try go_wp2
 go_ret
 exact ⟨by rw [HH.out];rfl,HB.out⟩
theorem function.c (xs : List bn) (A : Option Addr) (c : Nat) (w : World) (hC : Kd.C k25 w A xs.length xs) (hle : xs.length ≤ c) (h2 : 2 ≤ xs.length) (h16 : (nd xs 0).f0 ≠ 16) : Calls Tryz.prog 79 #[.slice A xs.length c] w (fB (tH xs) w):=by
 have hmax:=hC.2.1;obtain ⟨m,hm⟩ : ∃ m,m + 1 = xs.length:=⟨xs.length - 1,by omega⟩
 have hw : IntKind.i64.wrap ((xs.length : Int) - 1) = (m : Int):=(bW _).trans (by unfold wrap64;omega);have hw2 : wrap64 ((xs.length : Int) - 1) = (m : Int):=by unfold wrap64;omega
 obtain ⟨ad,A1,c1,rfl,_,k0,_⟩:=jo hC 0 (by omega);rw [Nat.zero_mul,nM] at k0;obtain ⟨ad2,A2,c2,e2,_,c0,_⟩:=jo hC m (by omega);obtain rfl:=Option.some.inj e2;clear e2;have p1 : (0 : Int) ≤ (m : Int):=by omega
 have q1 : (m : Int) < (xs.length : Int):=by omega
 have q0 : 0 < xs.length:=by omega
 have e1 : decide ((m : Int) ≥ 1) = true:=decide_eq_true (by omega);have e1b : decide (1 ≤ (m : Int)) = true:=decide_eq_true (by omega);have e1c : (1 : Int) ≤ (m : Int):=by omega
 have t16 : ((nd xs 0).f0 == 16) = false:=beq_eq_false_iff_ne.2 h16;have HH:=ah.mk (show tH xs = false from by unfold tH;rw [decide_eq_false h16,Bool.and_false];rfl);clear h2 h16;have HM:=ah.mk hm;have HX:=ah.mk hC;have HL:=ah.mk hle;clear hm hC hle hmax;go_enter Tryz.func79,Tryz.ntmps79
 go_wp2
 have HB:=ah.mk (aA (Below.refl w.heap.size w));refine jV (n:=25) (S:=fun w' => w'.cell? ad = some (.int .i64 (nd xs 0).f0) ∧ w'.cell? (ad.add (m * 6)) = some (.int .i64 (nd xs m).f0) ∧ True) (ds:=[]) (Array.replicate 25 false) (by kernel_rfl) rfl rfl ⟨bf HB.out k0,bf HB.out c0,trivial⟩ (fun hHeld => ?_);refine jw (T:=kG .any (opsOf Tryz.f79 2)) (by kernel_rfl) (fun bM => ?_);generalize w.drew = w7 at HB hHeld ⊢;refine rp 0 7 bM (h:=?_);refine rp 1 8 bM (h:=?_);refine rp 2 9 bM (h:=?_);refine rp 3 10 bM (h:=?_);refine rp 4 11 bM (h:=?_);refine rp 5 12 bM (h:=?_);refine rt 6 13 bM hHeld (h:=?_);refine rp 7 14 bM (h:=?_);refine rp 8 15 bM (h:=?_);refine rp 9 16 bM (h:=?_);refine ro 10 17 bM (h:=?_);refine ro 11 18 bM (h:=?_);refine ro 12 19 bM (h:=?_);refine ro 13 20 bM (h:=?_);refine ro 14 21 bM (h:=?_);refine ro 15 22 bM (h:=?_);refine rp 16 23 bM (h:=?_);refine rp 17 24 bM (h:=?_);refine ro 18 25 bM (h:=?_);refine ro 19 26 bM (h:=?_);refine ro 20 27 bM (h:=?_);refine ro 21 28 bM (h:=?_);refine ro 22 29 bM (h:=?_);refine rp 23 30 bM (h:=?_);refine rp 24 2 bM (h:=?_);refine EX bM ?_;try go_wp2
 go_ret
 exact ⟨by rw [HH.out];rfl,HB.out⟩
theorem function.b (xs : List bn) (A : Option Addr) (c : Nat) (w : World) (hC : Kd.C k25 w A xs.length xs) (hle : xs.length ≤ c) (h1 : xs.length = 1) : Calls Tryz.prog 79 #[.slice A xs.length c] w (fB (tH xs) w):=by
 have hw : IntKind.i64.wrap ((xs.length : Int) - 1) = 0:=by rw [h1];rfl
 have hw2 : wrap64 ((xs.length : Int) - 1) = 0:=by unfold wrap64;omega
 have HH:=ah.mk (show tH xs = false from by unfold tH;rw [h1];rfl);clear h1 hC hle;go_enter Tryz.func79,Tryz.ntmps79
 go_wp2
 have HB:=ah.mk (aA (Below.refl w.heap.size w));refine jV (n:=25) (S:=fun _ => True) (ds:=[]) (Array.replicate 25 false) (by kernel_rfl) rfl rfl trivial (fun hHeld => ?_);refine jw (T:=kG .any (opsOf Tryz.f79 2)) (by kernel_rfl) (fun bM => ?_);generalize w.drew = w7 at HB hHeld ⊢;refine rp 0 7 bM (h:=?_);refine rp 1 8 bM (h:=?_);refine rp 2 9 bM (h:=?_);refine ro 3 10 bM (h:=?_);refine ro 4 11 bM (h:=?_);refine ro 5 12 bM (h:=?_);refine ro 6 13 bM (h:=?_);refine ro 7 14 bM (h:=?_);refine rp 8 15 bM (h:=?_);refine rp 9 16 bM (h:=?_);refine ro 10 17 bM (h:=?_);refine ro 11 18 bM (h:=?_);refine ro 12 19 bM (h:=?_);refine ro 13 20 bM (h:=?_);refine ro 14 21 bM (h:=?_);refine ro 15 22 bM (h:=?_);refine rp 16 23 bM (h:=?_);refine rp 17 24 bM (h:=?_);refine ro 18 25 bM (h:=?_);refine ro 19 26 bM (h:=?_);refine ro 20 27 bM (h:=?_);refine ro 21 28 bM (h:=?_);refine ro 22 29 bM (h:=?_);refine rp 23 30 bM (h:=?_);refine rp 24 2 bM (h:=?_);refine EX bM ?_;try go_wp2
 go_ret
 exact ⟨by rw [HH.out];rfl,HB.out⟩
theorem function.a (xs : List bn) (A : Option Addr) (c : Nat) (w : World) (hC : Kd.C k25 w A xs.length xs) (hle : xs.length ≤ c) (h1 : xs.length = 0) : Calls Tryz.prog 79 #[.slice A xs.length c] w (fB (tH xs) w):=by
 have hw : IntKind.i64.wrap ((xs.length : Int) - 1) = -1:=by rw [h1];rfl
 have hw2 : wrap64 ((xs.length : Int) - 1) = -1:=by unfold wrap64;omega
 have HH:=ah.mk (show tH xs = false from by unfold tH;rw [h1];rfl);clear h1 hC hle;go_enter Tryz.func79,Tryz.ntmps79
 go_wp2
 have HB:=ah.mk (aA (Below.refl w.heap.size w));refine jV (n:=25) (S:=fun _ => True) (ds:=[]) (Array.replicate 25 false) (by kernel_rfl) rfl rfl trivial (fun hHeld => ?_);refine jw (T:=kG .any (opsOf Tryz.f79 2)) (by kernel_rfl) (fun bM => ?_);generalize w.drew = w7 at HB hHeld ⊢;refine rp 0 7 bM (h:=?_);refine rp 1 8 bM (h:=?_);refine rp 2 9 bM (h:=?_);refine ro 3 10 bM (h:=?_);refine ro 4 11 bM (h:=?_);refine ro 5 12 bM (h:=?_);refine ro 6 13 bM (h:=?_);refine ro 7 14 bM (h:=?_);refine rp 8 15 bM (h:=?_);refine rp 9 16 bM (h:=?_);refine ro 10 17 bM (h:=?_);refine ro 11 18 bM (h:=?_);refine ro 12 19 bM (h:=?_);refine ro 13 20 bM (h:=?_);refine ro 14 21 bM (h:=?_);refine ro 15 22 bM (h:=?_);refine rp 16 23 bM (h:=?_);refine rp 17 24 bM (h:=?_);refine ro 18 25 bM (h:=?_);refine ro 19 26 bM (h:=?_);refine ro 20 27 bM (h:=?_);refine ro 21 28 bM (h:=?_);refine ro 22 29 bM (h:=?_);refine rp 23 30 bM (h:=?_);refine rp 24 2 bM (h:=?_);refine EX bM ?_;try go_wp2
 go_ret
 exact ⟨by rw [HH.out];rfl,HB.out⟩
theorem function.all {xs : List bn} {A : Option Addr} {c : Nat} {w : World} (hC : Kd.C k25 w A xs.length xs) (hle : xs.length ≤ c) : Calls Tryz.prog 79 #[.slice A xs.length c] w (fB (tH xs) w):=by
 by_cases h0 : xs.length = 0
 · exact function.a xs A c w hC hle h0
 · by_cases h1 : xs.length = 1
   · exact function.b xs A c w hC hle h1
   · by_cases h16 : (nd xs 0).f0 = 16
     · by_cases h47 : (nd xs (xs.length - 1)).f0 = 47
       · exact function.e xs A c w hC hle (by omega) h16 h47
       · exact function.d xs A c w hC hle (by omega) h16 h47
     · exact function.c xs A c w hC hle (by omega) h16
def d45 (x : bn) : Bool:=((uF x.f1) && (x.f2 == 0) && (tH x.f4))
theorem declarations.n45 {x : bn} {A : Option Addr} {c : Nat} {w : World} (hk : x.f0 = 45) (hs : oV x.f1) (hG : dG w) (hn : ND w x A c) : Calls Tryz.prog 44 #[val x A c] w (fB (d45 x) w):=by
 have E:=Env.start hG hn;clear hn hG;have b40:=Yf hk 40 rfl
 have BM:=Yf hk 41 rfl
 have Cj:=Yf hk 42 rfl
 have b43:=Yf hk 43 rfl
 have b44:=Yf hk 44 rfl
 have KF:=Yt hk 45 rfl
 have HK:=ah.mk hk;clear hk;have HS:=ah.mk hs;clear hs;cases h0 : (uF x.f1);rotate_left 1;cases h1 : (x.f2 == 0);rotate_right 1
 rotate_left 2;cases h2 : (tH x.f4);rotate_right 2
 all_goals
  try (have vw:=ah.mk h0;clear h0)
  try have kS : (x.f2 != 0) = false:=by rw [bne,h1];rfl
  try have kS : (x.f2 != 0) = true:=by rw [bne,h1];rfl
  try (have HC2:=ah.mk h2;clear h2)
  go_enter Tryz.func44,Tryz.ntmps44
  go_wp2_with (first
   | (go_at_call 66;(try clear c0 c1 c2 c3 c4 c5);(with_reducible refine Env.call E E.out vw.out (name.all HS.out E.out.kQ) (fun w1 E c0 c1 c2 c3 c4 c5 => ?_)))
   | (go_at_call 79;(try clear c0 c1 c2 c3 c4 c5);(with_reducible refine Env.call E E.out HC2.out (function.all E.out.kids E.out.k.le) (fun w1 E c0 c1 c2 c3 c4 c5 => ?_)))
   | fail)
  go_ret
  exact ⟨by unfold d45;(try rw [vw.out]);(try rw [h1]);(try rw [HC2.out]);first|done|rfl,lK⟩
def EZ (x : bn) : Bool:=(x.f1.toList == ([] : List UInt8)) && (x.f2 == 0) && decide (2 ≤ x.f4.length) && decide ((nd x.f4 0).f0 = 16) && x.f4.tail.all (fun x => decide (x.f0 = 43))
theorem vars.a {x : bn} {A : Option Addr} {c : Nat} {w : World} (b : Bool) (hb : uF x.f1 = b) (hk : x.f0 = 42) (hs : oV x.f1) (h0 : (x.f1.toList == ([] : List UInt8)) = false) (hG : dG w) (hn : ND w x A c) : Calls Tryz.prog 44 #[val x A c] w (fB (EZ x) w):=by
 have b40:=Yf hk 40 rfl
 have BM:=Yf hk 41 rfl
 have Cj:=Yt hk 42 rfl
 have e0 : (x.f1.toList == ([] : List UInt8)) = false:=h0;have e1 : (x.f1.toList != ([] : List UInt8)) = true:=by rw [bne,h0];rfl
 have HH:=ah.mk (show EZ x = false from by unfold EZ;rw [h0];rfl);clear h0;have E:=Env.start hG hn;have HC:=ah.mk hb;have HS:=ah.mk hs;clear hb hk hs hn hG;go_enter Tryz.func44,Tryz.ntmps44
 go_wp2_with (first
  | (go_at_call 66;with_reducible refine Env.call E E.out HC.out (name.all HS.out E.out.kQ) (fun w1 E c0 c1 c2 c3 c4 c5 => ?_))
  | fail)
 replace E:=ah.mk (E.out.step (W1:=w1.drew) (aA (Below.refl _ _)));clear c0 c1 c2 c3 c4 c5;refine jV (n:=27) (S:=fun w' => w'.cell? ⟨w.heap.size,1,none⟩ = some (.string x.f1) ∧ w'.cell? ⟨w.heap.size,2,none⟩ = some (.int .u32 x.f2) ∧ True) (ds:=[]) (Array.replicate 27 false) (by kernel_rfl) rfl rfl ⟨E.out.cells.2.1,E.out.cells.2.2.1,trivial⟩ (fun hHeld => ?_);refine jw (T:=kG .any (opsOf Tryz.f44 9)) (by kernel_rfl) (fun bM => ?_);generalize w1.drew = w7 at E hHeld ⊢;refine rp 0 40 bM (h:=?_);refine rt 1 41 bM hHeld (h:=?_);refine rp 2 42 bM (h:=?_);refine rp 3 43 bM (h:=?_);refine ro 4 44 bM (h:=?_);refine ro 5 45 bM (h:=?_);refine ro 6 46 bM (h:=?_);refine rp 7 47 bM (h:=?_);refine rp 8 48 bM (h:=?_);refine ro 9 49 bM (h:=?_);refine ro 10 50 bM (h:=?_);refine ro 11 51 bM (h:=?_);refine rp 12 52 bM (h:=?_);refine rp 13 53 bM (h:=?_);refine ro 14 54 bM (h:=?_);refine ro 15 55 bM (h:=?_);refine ro 16 56 bM (h:=?_);refine ro 17 57 bM (h:=?_);refine ro 18 58 bM (h:=?_);refine rp 19 59 bM (h:=?_);refine rp 20 60 bM (h:=?_);refine ro 21 61 bM (h:=?_);refine ro 22 62 bM (h:=?_);refine ro 23 63 bM (h:=?_);refine ro 24 64 bM (h:=?_);refine rp 25 65 bM (h:=?_);refine rp 26 2 bM (h:=?_);refine EX bM ?_;try go_wp2
 go_ret
 exact ⟨by rw [HH.out];rfl,E.out.b⟩
theorem vars.b {x : bn} {A : Option Addr} {c : Nat} {w : World} (b : Bool) (hb : uF x.f1 = b) (hk : x.f0 = 42) (hs : oV x.f1) (h0 : (x.f1.toList == ([] : List UInt8)) = true) (h1 : (x.f2 == 0) = false) (hG : dG w) (hn : ND w x A c) : Calls Tryz.prog 44 #[val x A c] w (fB (EZ x) w):=by
 have b40:=Yf hk 40 rfl
 have BM:=Yf hk 41 rfl
 have Cj:=Yt hk 42 rfl
 have e0 : (x.f1.toList == ([] : List UInt8)) = true:=h0;have e1 : (x.f1.toList != ([] : List UInt8)) = false:=by rw [bne,h0];rfl
 have e2 : (x.f2 == 0) = false:=h1;have HH:=ah.mk (show EZ x = false from by unfold EZ;rw [h0,h1];rfl);clear h0 h1;have E:=Env.start hG hn;have HC:=ah.mk hb;have HS:=ah.mk hs;clear hb hk hs hn hG;go_enter Tryz.func44,Tryz.ntmps44
 go_wp2_with (first
  | (go_at_call 66;with_reducible refine Env.call E E.out HC.out (name.all HS.out E.out.kQ) (fun w1 E c0 c1 c2 c3 c4 c5 => ?_))
  | fail)
 replace E:=ah.mk (E.out.step (W1:=w1.drew) (aA (Below.refl _ _)));clear c0 c1 c2 c3 c4 c5;refine jV (n:=27) (S:=fun w' => w'.cell? ⟨w.heap.size,1,none⟩ = some (.string x.f1) ∧ w'.cell? ⟨w.heap.size,2,none⟩ = some (.int .u32 x.f2) ∧ True) (ds:=[]) (Array.replicate 27 false) (by kernel_rfl) rfl rfl ⟨E.out.cells.2.1,E.out.cells.2.2.1,trivial⟩ (fun hHeld => ?_);refine jw (T:=kG .any (opsOf Tryz.f44 9)) (by kernel_rfl) (fun bM => ?_);generalize w1.drew = w7 at E hHeld ⊢;refine rp 0 40 bM (h:=?_);refine rt 1 41 bM hHeld (h:=?_);refine rp 2 42 bM (h:=?_);refine rp 3 43 bM (h:=?_);refine rp 4 44 bM (h:=?_);refine rt 5 45 bM hHeld (h:=?_);refine rp 6 46 bM (h:=?_);refine rp 7 47 bM (h:=?_);refine rp 8 48 bM (h:=?_);refine ro 9 49 bM (h:=?_);refine ro 10 50 bM (h:=?_);refine ro 11 51 bM (h:=?_);refine rp 12 52 bM (h:=?_);refine rp 13 53 bM (h:=?_);refine ro 14 54 bM (h:=?_);refine ro 15 55 bM (h:=?_);refine ro 16 56 bM (h:=?_);refine ro 17 57 bM (h:=?_);refine ro 18 58 bM (h:=?_);refine rp 19 59 bM (h:=?_);refine rp 20 60 bM (h:=?_);refine ro 21 61 bM (h:=?_);refine ro 22 62 bM (h:=?_);refine ro 23 63 bM (h:=?_);refine ro 24 64 bM (h:=?_);refine rp 25 65 bM (h:=?_);refine rp 26 2 bM (h:=?_);refine EX bM ?_;try go_wp2
 go_ret
 exact ⟨by rw [HH.out];rfl,E.out.b⟩
theorem vars.c {x : bn} {A : Option Addr} {c : Nat} {w : World} (b : Bool) (hb : uF x.f1 = b) (hk : x.f0 = 42) (hs : oV x.f1) (h0 : (x.f1.toList == ([] : List UInt8)) = true) (h1 : (x.f2 == 0) = true) (h2 : ¬ 2 ≤ x.f4.length) (hG : dG w) (hn : ND w x A c) : Calls Tryz.prog 44 #[val x A c] w (fB (EZ x) w):=by
 have b40:=Yf hk 40 rfl
 have BM:=Yf hk 41 rfl
 have Cj:=Yt hk 42 rfl
 have e0 : (x.f1.toList == ([] : List UInt8)) = true:=h0;have e1 : (x.f1.toList != ([] : List UInt8)) = false:=by rw [bne,h0];rfl
 have e2 : (x.f2 == 0) = true:=h1;have e3 : decide ((x.f4.length : Int) ≥ 2) = false:=decide_eq_false (by omega);have e4 : decide (2 ≤ (x.f4.length : Int)) = false:=e3;have e5 : decide (2 ≤ x.f4.length) = false:=decide_eq_false h2;have HH:=ah.mk (show EZ x = false from by unfold EZ;rw [h0,h1,e5];rfl);clear h0 h1 h2;have E:=Env.start hG hn;have HC:=ah.mk hb;have HS:=ah.mk hs;clear hb hk hs hn hG;go_enter Tryz.func44,Tryz.ntmps44
 go_wp2_with (first
  | (go_at_call 66;with_reducible refine Env.call E E.out HC.out (name.all HS.out E.out.kQ) (fun w1 E c0 c1 c2 c3 c4 c5 => ?_))
  | fail)
 replace E:=ah.mk (E.out.step (W1:=w1.drew) (aA (Below.refl _ _)));clear c0 c1 c2 c3 c4 c5;refine jV (n:=27) (S:=fun w' => w'.cell? ⟨w.heap.size,1,none⟩ = some (.string x.f1) ∧ w'.cell? ⟨w.heap.size,2,none⟩ = some (.int .u32 x.f2) ∧ True) (ds:=[]) (Array.replicate 27 false) (by kernel_rfl) rfl rfl ⟨E.out.cells.2.1,E.out.cells.2.2.1,trivial⟩ (fun hHeld => ?_);refine jw (T:=kG .any (opsOf Tryz.f44 9)) (by kernel_rfl) (fun bM => ?_);generalize w1.drew = w7 at E hHeld ⊢;refine rp 0 40 bM (h:=?_);refine rt 1 41 bM hHeld (h:=?_);refine rp 2 42 bM (h:=?_);refine rp 3 43 bM (h:=?_);refine rp 4 44 bM (h:=?_);refine rt 5 45 bM hHeld (h:=?_);refine rp 6 46 bM (h:=?_);refine rp 7 47 bM (h:=?_);refine rp 8 48 bM (h:=?_);refine rp 9 49 bM (h:=?_);refine rp 10 50 bM (h:=?_);refine rp 11 51 bM (h:=?_);refine rp 12 52 bM (h:=?_);refine rp 13 53 bM (h:=?_);refine ro 14 54 bM (h:=?_);refine ro 15 55 bM (h:=?_);refine ro 16 56 bM (h:=?_);refine ro 17 57 bM (h:=?_);refine ro 18 58 bM (h:=?_);refine rp 19 59 bM (h:=?_);refine rp 20 60 bM (h:=?_);refine ro 21 61 bM (h:=?_);refine ro 22 62 bM (h:=?_);refine ro 23 63 bM (h:=?_);refine ro 24 64 bM (h:=?_);refine rp 25 65 bM (h:=?_);refine rp 26 2 bM (h:=?_);refine EX bM ?_;try go_wp2
 go_ret
 exact ⟨by rw [HH.out];rfl,E.out.b⟩
theorem vars.d {x : bn} {A : Option Addr} {c : Nat} {w : World} (b : Bool) (hb : uF x.f1 = b) (hk : x.f0 = 42) (hs : oV x.f1) (h0 : (x.f1.toList == ([] : List UInt8)) = true) (h1 : (x.f2 == 0) = true) (h2 : 2 ≤ x.f4.length) (h16 : (nd x.f4 0).f0 ≠ 16) (hG : dG w) (hn : ND w x A c) : Calls Tryz.prog 44 #[val x A c] w (fB (EZ x) w):=by
 have b40:=Yf hk 40 rfl
 have BM:=Yf hk 41 rfl
 have Cj:=Yt hk 42 rfl
 have e0 : (x.f1.toList == ([] : List UInt8)) = true:=h0;have e1 : (x.f1.toList != ([] : List UInt8)) = false:=by rw [bne,h0];rfl
 have e2 : (x.f2 == 0) = true:=h1;have e3 : decide ((x.f4.length : Int) ≥ 2) = true:=decide_eq_true (by omega);have e4 : decide (2 ≤ (x.f4.length : Int)) = true:=e3;have e5 : decide (2 ≤ x.f4.length) = true:=decide_eq_true h2;have HH:=ah.mk (show EZ x = false from by unfold EZ;rw [h0,h1,e5,decide_eq_false h16];rfl);have t16 : ((nd x.f4 0).f0 == 16) = false:=beq_eq_false_iff_ne.2 h16;have hC:=hn.C;have hle:=hn.le;have hmax:=hn.C.2.1;obtain ⟨ad,A1,c1,rfl,_,k0,_⟩:=jo hC 0 (by omega);rw [Nat.zero_mul,nM] at k0;have jq:=ah.mk k0;have q0 : 0 < x.f4.length:=by omega
 have p1 : (1 : Int) ≤ (x.f4.length : Int):=by omega
 have p2 : 1 ≤ x.f4.length:=by omega
 clear h0 h1 h2 h16 k0 hC hle hmax;have E:=Env.start hG hn;have HC:=ah.mk hb;have HS:=ah.mk hs;clear hb hk hs hn hG;go_enter Tryz.func44,Tryz.ntmps44
 go_wp2_with (first
  | (go_at_call 66;with_reducible refine Env.call E E.out HC.out (name.all HS.out E.out.kQ) (fun w1 E c0 c1 c2 c3 c4 c5 => ?_))
  | fail)
 replace E:=ah.mk (E.out.step (W1:=w1.drew) (aA (Below.refl _ _)));clear c0 c1 c2 c3 c4 c5;refine jV (n:=27) (S:=fun w' => w'.cell? ⟨w.heap.size,1,none⟩ = some (.string x.f1) ∧ w'.cell? ⟨w.heap.size,2,none⟩ = some (.int .u32 x.f2) ∧ w'.cell? ad = some (.int .i64 (nd x.f4 0).f0)) (ds:=[]) (Array.replicate 27 false) (by kernel_rfl) rfl rfl ⟨E.out.cells.2.1,E.out.cells.2.2.1,bf E.out.b jq.out⟩ (fun hHeld => ?_);refine jw (T:=kG .any (opsOf Tryz.f44 9)) (by kernel_rfl) (fun bM => ?_);generalize w1.drew = w7 at E hHeld ⊢;refine rp 0 40 bM (h:=?_);refine rt 1 41 bM hHeld (h:=?_);refine rp 2 42 bM (h:=?_);refine rp 3 43 bM (h:=?_);refine rp 4 44 bM (h:=?_);refine rt 5 45 bM hHeld (h:=?_);refine rp 6 46 bM (h:=?_);refine rp 7 47 bM (h:=?_);refine rp 8 48 bM (h:=?_);refine rp 9 49 bM (h:=?_);refine rp 10 50 bM (h:=?_);refine rp 11 51 bM (h:=?_);refine rp 12 52 bM (h:=?_);refine rp 13 53 bM (h:=?_);refine rp 14 54 bM (h:=?_);refine rp 15 55 bM (h:=?_);refine rp 16 56 bM (h:=?_);refine rt 17 57 bM hHeld (h:=?_);refine rp 18 58 bM (h:=?_);refine rp 19 59 bM (h:=?_);refine rp 20 60 bM (h:=?_);refine ro 21 61 bM (h:=?_);refine ro 22 62 bM (h:=?_);refine ro 23 63 bM (h:=?_);refine ro 24 64 bM (h:=?_);refine rp 25 65 bM (h:=?_);refine rp 26 2 bM (h:=?_);refine EX bM ?_;try go_wp2
 go_ret
 exact ⟨by rw [HH.out];rfl,E.out.b⟩
theorem vars.e {x : bn} {A : Option Addr} {c : Nat} {w : World} (b : Bool) (hb : uF x.f1 = b) (hk : x.f0 = 42) (hs : oV x.f1) (h0 : (x.f1.toList == ([] : List UInt8)) = true) (h1 : (x.f2 == 0) = true) (h2 : 2 ≤ x.f4.length) (h16 : (nd x.f4 0).f0 = 16) (hG : dG w) (hn : ND w x A c) : Calls Tryz.prog 44 #[val x A c] w (fB (EZ x) w):=by
 have b40:=Yf hk 40 rfl
 have BM:=Yf hk 41 rfl
 have Cj:=Yt hk 42 rfl
 have e0 : (x.f1.toList == ([] : List UInt8)) = true:=h0;have e1 : (x.f1.toList != ([] : List UInt8)) = false:=by rw [bne,h0];rfl
 have e2 : (x.f2 == 0) = true:=h1;have e3 : decide ((x.f4.length : Int) ≥ 2) = true:=decide_eq_true (by omega);have e4 : decide (2 ≤ (x.f4.length : Int)) = true:=e3;have e5 : decide (2 ≤ x.f4.length) = true:=decide_eq_true h2;have HH:=ah.mk (show EZ x = x.f4.tail.all (fun x => decide (x.f0 = 43)) from by unfold EZ;rw [h0,h1,e5,decide_eq_true h16];rfl);have t16 : ((nd x.f4 0).f0 == 16) = true:=by rw [h16];rfl
 have hC:=hn.C;have hle:=hn.le;have hmax:=hn.C.2.1;obtain ⟨ad,A1,c1,rfl,_,k0,_⟩:=jo hC 0 (by omega);rw [Nat.zero_mul,nM] at k0;have jq:=ah.mk k0;have q0 : 0 < x.f4.length:=by omega
 have p1 : (1 : Int) ≤ (x.f4.length : Int):=by omega
 have p2 : 1 ≤ x.f4.length:=by omega
 have hcc : ¬ c = 1:=by omega
 have p3 : x.f4.length ≤ c:=hle;have HSL:=ah.mk (show Kd.C k25 w (some ⟨ad.block,ad.off + 6,none⟩) x.f4.tail.length x.f4.tail from by
  have h1:=Kd.xU (m:=1) hC (by omega) hle;rw [if_neg hcc,List.drop_one] at h1;exact h1)
 clear h0 h1 h2 h16 k0 hC hle hmax;have E:=Env.start hG hn;have HC:=ah.mk hb;have HS:=ah.mk hs;clear hb hk hs hn hG;go_enter Tryz.func44,Tryz.ntmps44
 go_wp2_with (first
  | (go_at_call 66;with_reducible refine Env.call E E.out HC.out (name.all HS.out E.out.kQ) (fun w1 E c0 c1 c2 c3 c4 c5 => ?_))
  | fail)
 replace E:=ah.mk (E.out.step (W1:=w1.drew) (aA (Below.refl _ _)));clear c0 c1 c2 c3 c4 c5;refine jV (n:=27) (S:=fun w' => w'.cell? ⟨w.heap.size,1,none⟩ = some (.string x.f1) ∧ w'.cell? ⟨w.heap.size,2,none⟩ = some (.int .u32 x.f2) ∧ w'.cell? ad = some (.int .i64 (nd x.f4 0).f0)) (ds:=[]) (Array.replicate 27 false) (by kernel_rfl) rfl rfl ⟨E.out.cells.2.1,E.out.cells.2.2.1,bf E.out.b jq.out⟩ (fun hHeld => ?_);refine jw (T:=kG .any (opsOf Tryz.f44 9)) (by kernel_rfl) (fun bM => ?_);generalize w1.drew = w7 at E hHeld ⊢;refine rp 0 40 bM (h:=?_);refine rt 1 41 bM hHeld (h:=?_);refine rp 2 42 bM (h:=?_);refine rp 3 43 bM (h:=?_);refine rp 4 44 bM (h:=?_);refine rt 5 45 bM hHeld (h:=?_);refine rp 6 46 bM (h:=?_);refine rp 7 47 bM (h:=?_);refine rp 8 48 bM (h:=?_);refine rp 9 49 bM (h:=?_);refine rp 10 50 bM (h:=?_);refine rp 11 51 bM (h:=?_);refine rp 12 52 bM (h:=?_);refine rp 13 53 bM (h:=?_);refine rp 14 54 bM (h:=?_);refine rp 15 55 bM (h:=?_);refine rp 16 56 bM (h:=?_);refine rt 17 57 bM hHeld (h:=?_);refine rp 18 58 bM (h:=?_);refine rp 19 59 bM (h:=?_);refine rp 20 60 bM (h:=?_);refine rp 21 61 bM (h:=?_);refine rp 22 62 bM (h:=?_);refine rc 23 63 bM (h:=fun K hK => ?_);refine ku Tryz.func70 (by kernel_rfl) rfl #[.int .i64 43] (by rfl) rfl rfl (by (try simp only [List.map_toArray,List.map_cons,List.map_nil]);first|done|rfl) ((of.all 43 _).mono ?_);rintro e w8 ⟨q,rfl,hq,hB⟩;refine ⟨_,rfl,?_⟩;have HQ:=ah.mk hq;clear hq;replace E:=ah.mk (E.out.step hB);clear hB;refine hK.out _ _ ⟨E.out.cells.2.1,E.out.cells.2.2.1,bf E.out.b jq.out⟩ (fun hHeld => rn ?_);clear hK K;refine rc 24 64 bM (h:=fun K hK => ?_);refine ku Tryz.func33 (by kernel_rfl) rfl #[.slice (some ⟨ad.block,ad.off + 6,none⟩) (x.f4.length - 1) (c - 1),.func (.func 94) #[] #[.pointer (some ⟨q,0,none⟩)]] (by rfl) rfl rfl (by (try simp only [List.map_toArray,List.map_cons,List.map_nil]);first|done|rfl) ((every.at (x.f4.length - 1) x.f4.tail List.length_tail (some ⟨ad.block,ad.off + 6,none⟩) _ _ (Kd.dP HSL.out E.out.b) 94 #[.pointer (some ⟨q,0,none⟩)] (fun x => decide (x.f0 = 43)) (enters_of Tryz.func94 (by kernel_rfl) rfl) (of1.any 43 q _ HQ.out)).mono ?_);rintro e w9 ⟨rfl,hB⟩;refine ⟨_,rfl,?_⟩;replace E:=ah.mk (E.out.step hB);clear hB;refine hK.out _ _ ⟨E.out.cells.2.1,E.out.cells.2.2.1,bf E.out.b jq.out⟩ (fun hHeld => rn ?_);clear hK K;refine rp 25 65 bM (h:=?_);refine rp 26 2 bM (h:=?_);refine EX bM ?_;try go_wp2
 go_ret
 exact ⟨by rw [HH.out];rfl,E.out.b⟩
theorem declarations.n42 {x : bn} {A : Option Addr} {c : Nat} {w : World} (hk : x.f0 = 42) (hs : oV x.f1) (hG : dG w) (hn : ND w x A c) : Calls Tryz.prog 44 #[val x A c] w (fB (EZ x) w):=by
 cases h0 : (x.f1.toList == ([] : List UInt8)) with
 | false => exact vars.a _ rfl hk hs h0 hG hn
 | true =>
  cases h1 : (x.f2 == 0) with
  | false => exact vars.b _ rfl hk hs h0 h1 hG hn
  | true =>
   by_cases h2 : 2 ≤ x.f4.length
   · by_cases h16 : (nd x.f4 0).f0 = 16
     · exact vars.e _ rfl hk hs h0 h1 h2 h16 hG hn
     · exact vars.d _ rfl hk hs h0 h1 h2 h16 hG hn
   · exact vars.c _ rfl hk hs h0 h1 h2 hG hn
def dS (x : bn) : Bool:=if x.f0 = 1 then e1 x else if x.f0 = 2 then e2 x else if x.f0 = 3 then e3 x else if x.f0 = 4 then e4 x else if x.f0 = 5 then e5 x else if x.f0 = 6 then e6 x else if x.f0 = 7 then e6 x else if x.f0 = 8 then e8 x else if x.f0 = 9 then e9 x else if x.f0 = 10 then e10 x else if x.f0 = 11 then e11 x else if x.f0 = 12 then e12 x else if x.f0 = 13 then e13 x else if x.f0 = 14 then e14 x else if x.f0 = 15 then e15 x else if x.f0 = 16 then e16 x else false
noncomputable def jD (x : bn) : Bool:=if x.f0 = 47 then s47 x else if x.f0 = 48 then s48 x else if x.f0 = 49 then s49 x else if x.f0 = 50 then s50 x else if x.f0 = 51 then s51 x else if x.f0 = 52 then s52 x else if x.f0 = 55 then s55 x else s0 x
def jM (x : bn) : Bool:=if x.f0 = 40 then d40 x else if x.f0 = 41 then d41 x else if x.f0 = 42 then EZ x else if x.f0 = 43 then d43 x else if x.f0 = 44 then d44 x else if x.f0 = 45 then d45 x else if x.f0 = 46 then d46 x else false
def eNo (x : bn) : Bool:=false
theorem expressions.other {x : bn} {A : Option Addr} {c : Nat} {w : World} (h1 : x.f0 ≠ 1) (h2 : x.f0 ≠ 2) (h3 : x.f0 ≠ 3) (h4 : x.f0 ≠ 4) (h5 : x.f0 ≠ 5) (h6 : x.f0 ≠ 6) (h7 : x.f0 ≠ 7) (h8 : x.f0 ≠ 8) (h9 : x.f0 ≠ 9) (h10 : x.f0 ≠ 10) (h11 : x.f0 ≠ 11) (h12 : x.f0 ≠ 12) (h13 : x.f0 ≠ 13) (h14 : x.f0 ≠ 14) (h15 : x.f0 ≠ 15) (h16 : x.f0 ≠ 16) (hG : dG w) (hn : ND w x A c) : Calls Tryz.prog 41 #[val x A c] w (fB (eNo x) w):=by
 have E:=Env.start hG hn;clear hn hG;have b1 : (x.f0 == 1) = false:=beq_eq_false_iff_ne.2 h1;have b2 : (x.f0 == 2) = false:=beq_eq_false_iff_ne.2 h2;have b3 : (x.f0 == 3) = false:=beq_eq_false_iff_ne.2 h3;have b4 : (x.f0 == 4) = false:=beq_eq_false_iff_ne.2 h4;have b5 : (x.f0 == 5) = false:=beq_eq_false_iff_ne.2 h5;have b6 : (x.f0 == 6) = false:=beq_eq_false_iff_ne.2 h6;have b7 : (x.f0 == 7) = false:=beq_eq_false_iff_ne.2 h7;have b8 : (x.f0 == 8) = false:=beq_eq_false_iff_ne.2 h8;have b9 : (x.f0 == 9) = false:=beq_eq_false_iff_ne.2 h9;have b10 : (x.f0 == 10) = false:=beq_eq_false_iff_ne.2 h10;have b11 : (x.f0 == 11) = false:=beq_eq_false_iff_ne.2 h11;have b12 : (x.f0 == 12) = false:=beq_eq_false_iff_ne.2 h12;have b13 : (x.f0 == 13) = false:=beq_eq_false_iff_ne.2 h13;have b14 : (x.f0 == 14) = false:=beq_eq_false_iff_ne.2 h14;have b15 : (x.f0 == 15) = false:=beq_eq_false_iff_ne.2 h15;have b16 : (x.f0 == 16) = false:=beq_eq_false_iff_ne.2 h16;clear h1 h2 h3 h4 h5 h6 h7 h8 h9 h10 h11 h12 h13 h14 h15 h16;cases h0 : (x.f1.toList == ([] : List UInt8));all_goals
  try have kR : (x.f1.toList != ([] : List UInt8)) = false:=by rw [bne,h0];rfl
  try have kR : (x.f1.toList != ([] : List UInt8)) = true:=by rw [bne,h0];rfl
  go_enter Tryz.func41,Tryz.ntmps41
  go_wp2
  go_ret
  exact ⟨by unfold eNo;first|done|rfl,lK⟩
section
variable {x : bn} {A : Option Addr} {c : Nat} {w : World}
theorem expressions.all (hs : oV x.f1) (hG : dG w) (hn : ND w x A c) : Calls Tryz.prog 41 #[val x A c] w (fB (dS x) w):=by
 by_cases h1 : x.f0 = 1
 · rw [show dS x = e1 x from by unfold dS;rw [ if_pos h1]];exact expressions.k1 h1 hG hn
 by_cases h2 : x.f0 = 2
 · rw [show dS x = e2 x from by unfold dS;rw [if_neg h1,if_pos h2]];exact expressions.k2 h2 hG hn
 by_cases h3 : x.f0 = 3
 · rw [show dS x = e3 x from by unfold dS;rw [if_neg h1,if_neg h2,if_pos h3]];exact expressions.k3 h3 hG hn
 by_cases h4 : x.f0 = 4
 · rw [show dS x = e4 x from by unfold dS;rw [if_neg h1,if_neg h2,if_neg h3,if_pos h4]];exact expressions.k4 h4 hs hG hn
 by_cases h5 : x.f0 = 5
 · rw [show dS x = e5 x from by unfold dS;rw [if_neg h1,if_neg h2,if_neg h3,if_neg h4,if_pos h5]];exact expressions.k5 h5 hG hn
 by_cases h6 : x.f0 = 6
 · rw [show dS x = e6 x from by unfold dS;rw [if_neg h1,if_neg h2,if_neg h3,if_neg h4,if_neg h5,if_pos h6]];exact expressions.k6 h6 hs hG hn
 by_cases h7 : x.f0 = 7
 · rw [show dS x = e6 x from by unfold dS;rw [if_neg h1,if_neg h2,if_neg h3,if_neg h4,if_neg h5,if_neg h6,if_pos h7]];exact expressions.k7 h7 hs hG hn
 by_cases h8 : x.f0 = 8
 · rw [show dS x = e8 x from by unfold dS;rw [if_neg h1,if_neg h2,if_neg h3,if_neg h4,if_neg h5,if_neg h6,if_neg h7,if_pos h8]];exact expressions.k8 h8 hs hG hn
 by_cases h9 : x.f0 = 9
 · rw [show dS x = e9 x from by unfold dS;rw [if_neg h1,if_neg h2,if_neg h3,if_neg h4,if_neg h5,if_neg h6,if_neg h7,if_neg h8,if_pos h9]];exact expressions.k9 h9 hs hG hn
 by_cases h10 : x.f0 = 10
 · rw [show dS x = e10 x from by unfold dS;rw [if_neg h1,if_neg h2,if_neg h3,if_neg h4,if_neg h5,if_neg h6,if_neg h7,if_neg h8,if_neg h9,if_pos h10]];exact expressions.k10 h10 hs hG hn
 by_cases h11 : x.f0 = 11
 · rw [show dS x = e11 x from by unfold dS;rw [if_neg h1,if_neg h2,if_neg h3,if_neg h4,if_neg h5,if_neg h6,if_neg h7,if_neg h8,if_neg h9,if_neg h10,if_pos h11]];exact expressions.k11 h11 hs hG hn
 by_cases h12 : x.f0 = 12
 · rw [show dS x = e12 x from by unfold dS;rw [if_neg h1,if_neg h2,if_neg h3,if_neg h4,if_neg h5,if_neg h6,if_neg h7,if_neg h8,if_neg h9,if_neg h10,if_neg h11,if_pos h12]];exact expressions.k12 h12 hG hn
 by_cases h13 : x.f0 = 13
 · rw [show dS x = e13 x from by unfold dS;rw [if_neg h1,if_neg h2,if_neg h3,if_neg h4,if_neg h5,if_neg h6,if_neg h7,if_neg h8,if_neg h9,if_neg h10,if_neg h11,if_neg h12,if_pos h13]];exact expressions.k13 h13 hs hG hn
 by_cases h14 : x.f0 = 14
 · rw [show dS x = e14 x from by unfold dS;rw [if_neg h1,if_neg h2,if_neg h3,if_neg h4,if_neg h5,if_neg h6,if_neg h7,if_neg h8,if_neg h9,if_neg h10,if_neg h11,if_neg h12,if_neg h13,if_pos h14]];exact expressions.k14 h14 hG hn
 by_cases h15 : x.f0 = 15
 · rw [show dS x = e15 x from by unfold dS;rw [if_neg h1,if_neg h2,if_neg h3,if_neg h4,if_neg h5,if_neg h6,if_neg h7,if_neg h8,if_neg h9,if_neg h10,if_neg h11,if_neg h12,if_neg h13,if_neg h14,if_pos h15]];exact expressions.k15 h15 hG hn
 by_cases h16 : x.f0 = 16
 · rw [show dS x = e16 x from by unfold dS;rw [if_neg h1,if_neg h2,if_neg h3,if_neg h4,if_neg h5,if_neg h6,if_neg h7,if_neg h8,if_neg h9,if_neg h10,if_neg h11,if_neg h12,if_neg h13,if_neg h14,if_neg h15,if_pos h16]];exact expressions.k16 h16 hs hG hn
 rw [show dS x = eNo x from by unfold dS eNo;rw [if_neg h1,if_neg h2,if_neg h3,if_neg h4,if_neg h5,if_neg h6,if_neg h7,if_neg h8,if_neg h9,if_neg h10,if_neg h11,if_neg h12,if_neg h13,if_neg h14,if_neg h15,if_neg h16]];exact expressions.other h1 h2 h3 h4 h5 h6 h7 h8 h9 h10 h11 h12 h13 h14 h15 h16 hG hn
theorem statements.all (hG : dG w) (hn : ND w x A c) : Calls Tryz.prog 43 #[val x A c] w (fB (jD x) w):=by
 by_cases h47 : x.f0 = 47
 · rw [show jD x = s47 x from by unfold jD;rw [ if_pos h47]];exact statements.n47 h47 hG hn
 by_cases h48 : x.f0 = 48
 · rw [show jD x = s48 x from by unfold jD;rw [if_neg h47,if_pos h48]];exact statements.n48 h48 hG hn
 by_cases FV : x.f0 = 49
 · rw [show jD x = s49 x from by unfold jD;rw [if_neg h47,if_neg h48,if_pos FV]];exact statements.n49 FV hG hn
 by_cases h50 : x.f0 = 50
 · rw [show jD x = s50 x from by unfold jD;rw [if_neg h47,if_neg h48,if_neg FV,if_pos h50]];exact statements.n50 h50 hG hn
 by_cases RX : x.f0 = 51
 · rw [show jD x = s51 x from by unfold jD;rw [if_neg h47,if_neg h48,if_neg FV,if_neg h50,if_pos RX]];exact statements.n51 RX hG hn
 by_cases Qi : x.f0 = 52
 · rw [show jD x = s52 x from by unfold jD;rw [if_neg h47,if_neg h48,if_neg FV,if_neg h50,if_neg RX,if_pos Qi]];exact statements.n52 Qi hG hn
 by_cases h55 : x.f0 = 55
 · rw [show jD x = s55 x from by unfold jD;rw [if_neg h47,if_neg h48,if_neg FV,if_neg h50,if_neg RX,if_neg Qi,if_pos h55]];exact statements.n55 h55 hG hn
 rw [show jD x = s0 x from by unfold jD ;rw [if_neg h47,if_neg h48,if_neg FV,if_neg h50,if_neg RX,if_neg Qi,if_neg h55]];exact statements.n0 h47 h48 FV h50 RX Qi h55 hG hn
theorem declarations.all (hs : oV x.f1) (hG : dG w) (hn : ND w x A c) : Calls Tryz.prog 44 #[val x A c] w (fB (jM x) w):=by
 by_cases Rk : x.f0 = 40
 · rw [show jM x = d40 x from by unfold jM;rw [ if_pos Rk]];exact declarations.n40 Rk hs hG hn
 by_cases Nz : x.f0 = 41
 · rw [show jM x = d41 x from by unfold jM;rw [if_neg Rk,if_pos Nz]];exact declarations.n41 Nz hs hG hn
 by_cases h42 : x.f0 = 42
 · rw [show jM x = EZ x from by unfold jM;rw [if_neg Rk,if_neg Nz,if_pos h42]];exact declarations.n42 h42 hs hG hn
 by_cases h43 : x.f0 = 43
 · rw [show jM x = d43 x from by unfold jM;rw [if_neg Rk,if_neg Nz,if_neg h42,if_pos h43]];exact declarations.n43 h43 hs hG hn
 by_cases EY : x.f0 = 44
 · rw [show jM x = d44 x from by unfold jM;rw [if_neg Rk,if_neg Nz,if_neg h42,if_neg h43,if_pos EY]];exact declarations.n44 EY hs hG hn
 by_cases h45 : x.f0 = 45
 · rw [show jM x = d45 x from by unfold jM;rw [if_neg Rk,if_neg Nz,if_neg h42,if_neg h43,if_neg EY,if_pos h45]];exact declarations.n45 h45 hs hG hn
 by_cases h46 : x.f0 = 46
 · rw [show jM x = d46 x from by unfold jM;rw [if_neg Rk,if_neg Nz,if_neg h42,if_neg h43,if_neg EY,if_neg h45,if_pos h46]];exact declarations.n46 h46 hs hG hn
 rw [show jM x = d0 x from by unfold jM d0;rw [if_neg Rk,if_neg Nz,if_neg h42,if_neg h43,if_neg EY,if_neg h45,if_neg h46]];exact declarations.n0 Rk Nz h42 h43 EY h45 h46 hs hG hn
end
noncomputable def Jz (x : bn) : Bool:=(if ((oG x) || (x.f0 == 16)) = true then (dS x) else (if (isS x) = true then (jD x) else (jM x)))
theorem itself.k1 {x : bn} {A : Option Addr} {c : Nat} {w : World} (hk : x.f0 = 1) (hs : oV x.f1) (hG : dG w) (hn : ND w x A c) : Calls Tryz.prog 32 #[val x A c] w (fB (Jz x) w):=by
 have E:=Env.start hG hn;clear hn hG;have b1:=Yt hk 1 rfl
 have HK:=ah.mk hk;clear hk;have HS:=ah.mk hs;clear hs;cases h0 : (oG x);cases h2 : (x.f0 == 16);cases h3 : (isS x);cases h5 : (jM x);rotate_left 2;cases h4 : (jD x);rotate_right 2
 rotate_left 4;cases h1 : (dS x);rotate_right 4
 rotate_left 6;cases h1 : (dS x);rotate_right 6
 all_goals
  try (have vw:=ah.mk h0;clear h0)
  try (have KG:=ah.mk h1;clear h1)
  try (have qV:=ah.mk h3;clear h3)
  try (have KE:=ah.mk h4;clear h4)
  try (have Jv:=ah.mk h5;clear h5)
  go_enter Tryz.func32,Tryz.ntmps32
  go_wp2_with (first
   | (go_at_call 40;(try clear c0 c1 c2 c3 c4 c5);(with_reducible refine Env.call E E.out vw.out (expression.all E.out.nd) (fun w1 E c0 c1 c2 c3 c4 c5 => ?_)))
   | (go_at_call 41;(try clear c0 c1 c2 c3 c4 c5);(with_reducible refine Env.call E E.out KG.out (expressions.all HS.out E.out.kQ E.out.nd) (fun w1 E c0 c1 c2 c3 c4 c5 => ?_)))
   | (go_at_call 42;(try clear c0 c1 c2 c3 c4 c5);(with_reducible refine Env.call E E.out qV.out (statement.all E.out.nd) (fun w1 E c0 c1 c2 c3 c4 c5 => ?_)))
   | (go_at_call 43;(try clear c0 c1 c2 c3 c4 c5);(with_reducible refine Env.call E E.out KE.out (statements.all E.out.kQ E.out.nd) (fun w1 E c0 c1 c2 c3 c4 c5 => ?_)))
   | (go_at_call 44;(try clear c0 c1 c2 c3 c4 c5);(with_reducible refine Env.call E E.out Jv.out (declarations.all HS.out E.out.kQ E.out.nd) (fun w1 E c0 c1 c2 c3 c4 c5 => ?_)))
   | fail)
  go_ret
  exact ⟨by unfold Jz;(try rw [vw.out]);(try rw [KG.out]);(try rw [h2]);(try rw [qV.out]);(try rw [KE.out]);(try rw [Jv.out]);first|done|rfl,lK⟩
theorem itself.k43 {x : bn} {A : Option Addr} {c : Nat} {w : World} (hk : x.f0 = 43) (hs : oV x.f1) (hG : dG w) (hn : ND w x A c) : Calls Tryz.prog 32 #[val x A c] w (fB (Jz x) w):=by
 have E:=Env.start hG hn;clear hn hG;have b1:=Yf hk 1 rfl
 have b43:=Yt hk 43 rfl
 have HK:=ah.mk hk;clear hk;have HS:=ah.mk hs;clear hs;cases h0 : (oG x);cases h2 : (x.f0 == 16);cases h3 : (isS x);cases h5 : (jM x);rotate_left 2;cases h4 : (jD x);rotate_right 2
 rotate_left 4;cases h1 : (dS x);rotate_right 4
 rotate_left 6;cases h1 : (dS x);rotate_right 6
 all_goals
  try (have vw:=ah.mk h0;clear h0)
  try (have KG:=ah.mk h1;clear h1)
  try (have qV:=ah.mk h3;clear h3)
  try (have KE:=ah.mk h4;clear h4)
  try (have Jv:=ah.mk h5;clear h5)
  go_enter Tryz.func32,Tryz.ntmps32
  go_wp2_with (first
   | (go_at_call 40;(try clear c0 c1 c2 c3 c4 c5);(with_reducible refine Env.call E E.out vw.out (expression.all E.out.nd) (fun w1 E c0 c1 c2 c3 c4 c5 => ?_)))
   | (go_at_call 41;(try clear c0 c1 c2 c3 c4 c5);(with_reducible refine Env.call E E.out KG.out (expressions.all HS.out E.out.kQ E.out.nd) (fun w1 E c0 c1 c2 c3 c4 c5 => ?_)))
   | (go_at_call 42;(try clear c0 c1 c2 c3 c4 c5);(with_reducible refine Env.call E E.out qV.out (statement.all E.out.nd) (fun w1 E c0 c1 c2 c3 c4 c5 => ?_)))
   | (go_at_call 43;(try clear c0 c1 c2 c3 c4 c5);(with_reducible refine Env.call E E.out KE.out (statements.all E.out.kQ E.out.nd) (fun w1 E c0 c1 c2 c3 c4 c5 => ?_)))
   | (go_at_call 44;(try clear c0 c1 c2 c3 c4 c5);(with_reducible refine Env.call E E.out Jv.out (declarations.all HS.out E.out.kQ E.out.nd) (fun w1 E c0 c1 c2 c3 c4 c5 => ?_)))
   | fail)
  go_ret
  exact ⟨by unfold Jz;(try rw [vw.out]);(try rw [KG.out]);(try rw [h2]);(try rw [qV.out]);(try rw [KE.out]);(try rw [Jv.out]);first|done|rfl,lK⟩
theorem itself.k46 {x : bn} {A : Option Addr} {c : Nat} {w : World} (hk : x.f0 = 46) (hs : oV x.f1) (hG : dG w) (hn : ND w x A c) : Calls Tryz.prog 32 #[val x A c] w (fB (Jz x) w):=by
 have E:=Env.start hG hn;clear hn hG;have b1:=Yf hk 1 rfl
 have b43:=Yf hk 43 rfl
 have b46:=Yt hk 46 rfl
 have HK:=ah.mk hk;clear hk;have HS:=ah.mk hs;clear hs;cases h0 : (oG x);cases h2 : (x.f0 == 16);cases h3 : (isS x);cases h5 : (jM x);rotate_left 2;cases h4 : (jD x);rotate_right 2
 rotate_left 4;cases h1 : (dS x);rotate_right 4
 rotate_left 6;cases h1 : (dS x);rotate_right 6
 all_goals
  try (have vw:=ah.mk h0;clear h0)
  try (have KG:=ah.mk h1;clear h1)
  try (have qV:=ah.mk h3;clear h3)
  try (have KE:=ah.mk h4;clear h4)
  try (have Jv:=ah.mk h5;clear h5)
  go_enter Tryz.func32,Tryz.ntmps32
  go_wp2_with (first
   | (go_at_call 40;(try clear c0 c1 c2 c3 c4 c5);(with_reducible refine Env.call E E.out vw.out (expression.all E.out.nd) (fun w1 E c0 c1 c2 c3 c4 c5 => ?_)))
   | (go_at_call 41;(try clear c0 c1 c2 c3 c4 c5);(with_reducible refine Env.call E E.out KG.out (expressions.all HS.out E.out.kQ E.out.nd) (fun w1 E c0 c1 c2 c3 c4 c5 => ?_)))
   | (go_at_call 42;(try clear c0 c1 c2 c3 c4 c5);(with_reducible refine Env.call E E.out qV.out (statement.all E.out.nd) (fun w1 E c0 c1 c2 c3 c4 c5 => ?_)))
   | (go_at_call 43;(try clear c0 c1 c2 c3 c4 c5);(with_reducible refine Env.call E E.out KE.out (statements.all E.out.kQ E.out.nd) (fun w1 E c0 c1 c2 c3 c4 c5 => ?_)))
   | (go_at_call 44;(try clear c0 c1 c2 c3 c4 c5);(with_reducible refine Env.call E E.out Jv.out (declarations.all HS.out E.out.kQ E.out.nd) (fun w1 E c0 c1 c2 c3 c4 c5 => ?_)))
   | fail)
  go_ret
  exact ⟨by unfold Jz;(try rw [vw.out]);(try rw [KG.out]);(try rw [h2]);(try rw [qV.out]);(try rw [KE.out]);(try rw [Jv.out]);first|done|rfl,lK⟩
def itNo (x : bn) : Bool:=false
theorem itself.flag {x : bn} {A : Option Addr} {c : Nat} {w : World} (h1 : x.f0 ≠ 1) (h43 : x.f0 ≠ 43) (h46 : x.f0 ≠ 46) (hf : x.f3 = true) (hG : dG w) (hn : ND w x A c) : Calls Tryz.prog 32 #[val x A c] w (fB (itNo x) w):=by
 have E:=Env.start hG hn;clear hn hG;have b1 : (x.f0 == 1) = false:=beq_eq_false_iff_ne.2 h1;have b43 : (x.f0 == 43) = false:=beq_eq_false_iff_ne.2 h43;have b46 : (x.f0 == 46) = false:=beq_eq_false_iff_ne.2 h46;clear h1 h43 h46;go_enter Tryz.func32,Tryz.ntmps32
 go_wp2
 go_ret
 exact ⟨by unfold itNo;first|done|rfl,lK⟩
theorem itself.plain {f0 : Int} {f1 : ByteArray} {f2 : Int} {l : List bn} {p : Int} {A : Option Addr} {c : Nat} {w : World} (h1 : f0 ≠ 1) (h43 : f0 ≠ 43) (h46 : f0 ≠ 46) (hs : oV f1) (hG : dG w) (hn : ND w ⟨f0,f1,f2,false,l,p⟩ A c) : Calls Tryz.prog 32 #[val ⟨f0,f1,f2,false,l,p⟩ A c] w (fB (Jz ⟨f0,f1,f2,false,l,p⟩) w):=by
 have E:=Env.start hG hn;clear hn hG;have b1 : (f0 == 1) = false:=beq_eq_false_iff_ne.2 h1;have b43 : (f0 == 43) = false:=beq_eq_false_iff_ne.2 h43;have b46 : (f0 == 46) = false:=beq_eq_false_iff_ne.2 h46;clear h1 h43 h46;have HS:=ah.mk hs;clear hs;cases h0 : (oG ⟨f0,f1,f2,false,l,p⟩);cases h2 : (f0 == 16);cases h3 : (isS ⟨f0,f1,f2,false,l,p⟩);cases h5 : (jM ⟨f0,f1,f2,false,l,p⟩);rotate_left 2;cases h4 : (jD ⟨f0,f1,f2,false,l,p⟩);rotate_right 2
 rotate_left 4;cases h1 : (dS ⟨f0,f1,f2,false,l,p⟩);rotate_right 4
 rotate_left 6;cases h1 : (dS ⟨f0,f1,f2,false,l,p⟩);rotate_right 6
 all_goals
  try (have vw:=ah.mk h0;clear h0)
  try (have KG:=ah.mk h1;clear h1)
  try (have qV:=ah.mk h3;clear h3)
  try (have KE:=ah.mk h4;clear h4)
  try (have Jv:=ah.mk h5;clear h5)
  go_enter Tryz.func32,Tryz.ntmps32
  go_wp2_with (first
   | (go_at_call 40;(try clear c0 c1 c2 c3 c4 c5);(with_reducible refine Env.call E E.out vw.out (expression.all E.out.nd) (fun w1 E c0 c1 c2 c3 c4 c5 => ?_)))
   | (go_at_call 41;(try clear c0 c1 c2 c3 c4 c5);(with_reducible refine Env.call E E.out KG.out (expressions.all HS.out E.out.kQ E.out.nd) (fun w1 E c0 c1 c2 c3 c4 c5 => ?_)))
   | (go_at_call 42;(try clear c0 c1 c2 c3 c4 c5);(with_reducible refine Env.call E E.out qV.out (statement.all E.out.nd) (fun w1 E c0 c1 c2 c3 c4 c5 => ?_)))
   | (go_at_call 43;(try clear c0 c1 c2 c3 c4 c5);(with_reducible refine Env.call E E.out KE.out (statements.all E.out.kQ E.out.nd) (fun w1 E c0 c1 c2 c3 c4 c5 => ?_)))
   | (go_at_call 44;(try clear c0 c1 c2 c3 c4 c5);(with_reducible refine Env.call E E.out Jv.out (declarations.all HS.out E.out.kQ E.out.nd) (fun w1 E c0 c1 c2 c3 c4 c5 => ?_)))
   | fail)
  go_ret
  exact ⟨by unfold Jz;(try rw [vw.out]);(try rw [KG.out]);(try rw [h2]);(try rw [qV.out]);(try rw [KE.out]);(try rw [Jv.out]);first|done|rfl,lK⟩
noncomputable def kE (x : bn) : Bool:=if x.f0 = 1 ∨ x.f0 = 43 ∨ x.f0 = 46 then Jz x else !x.f3 && Jz x
theorem itself.all {x : bn} {A : Option Addr} {c : Nat} {w : World} (hs : oV x.f1) (hG : dG w) (hn : ND w x A c) : Calls Tryz.prog 32 #[val x A c] w (fB (kE x) w):=by
 by_cases h1 : x.f0 = 1
 · rw [show kE x = Jz x from by unfold kE;rw [if_pos (Or.inl h1)]];exact itself.k1 h1 hs hG hn
 · by_cases h43 : x.f0 = 43
   · rw [show kE x = Jz x from by unfold kE;rw [if_pos (Or.inr (Or.inl h43))]];exact itself.k43 h43 hs hG hn
   · by_cases h46 : x.f0 = 46
     · rw [show kE x = Jz x from by unfold kE;rw [if_pos (Or.inr (Or.inr h46))]];exact itself.k46 h46 hs hG hn
     · have hno : ¬ (x.f0 = 1 ∨ x.f0 = 43 ∨ x.f0 = 46):=by omega
       cases hf : x.f3 with
       | true =>
        rw [show kE x = itNo x from by unfold kE itNo;rw [if_neg hno,hf];rfl];exact itself.flag h1 h43 h46 hf hG hn
       | false =>
        rw [show kE x = Jz x from by unfold kE;rw [if_neg hno,hf];rfl];obtain ⟨f0,f1,f2,f3,l,p⟩:=x;obtain rfl : f3 = false:=hf;exact itself.plain h1 h43 h46 hs hG hn
inductive wE : bn → Prop
 | mk (x : bn) (h : oV x.f1) (hk : ∀ y ∈ x.f4,wE y) : wE x
theorem wE.str {x : bn} (h : wE x) : oV x.f1:=by cases h;assumption
theorem wE.kid {x y : bn} (h : wE x) (hy : y ∈ x.f4) : wE y:=by
 cases h with
 | mk _ _ hk => exact hk y hy
noncomputable def BN : Nat → bn → Bool
 | 0,_ => false
 | n + 1,x => kE x && x.f4.all (BN n)
noncomputable def ji (x : bn) : Bool:=BN (SizeOf.sizeOf x + 1) x
theorem Cm : ∀ (n m : Nat) (x : bn),SizeOf.sizeOf x < n → SizeOf.sizeOf x < m → BN n x = BN m x
 | 0,_,x,h,_ => absurd h (Nat.not_lt_zero _)
 | _ + 1,0,x,_,h => absurd h (Nat.not_lt_zero _)
 | n + 1,m + 1,x,h1,h2 => by
  unfold BN;congr 1;rw [Bool.eq_iff_iff,List.all_eq_true,List.all_eq_true];have e : ∀ y ∈ x.f4,BN n y = BN m y:=fun y hy => Cm n m y (by have:=gu hy;omega) (by have:=gu hy;omega)
  exact ⟨fun h y hy => by rw [← e y hy];exact h y hy,fun h y hy => by rw [e y hy];exact h y hy⟩
noncomputable def NC (x : bn) : Bool:=(kE x) && (x.f4.all ji)
theorem CB (x : bn) : ji x = NC x:=by
 show (kE x && x.f4.all (BN (SizeOf.sizeOf x))) = _
 unfold NC;congr 1;rw [Bool.eq_iff_iff,List.all_eq_true,List.all_eq_true];have e : ∀ y ∈ x.f4,BN (SizeOf.sizeOf x) y = ji y:=fun y hy => Cm _ _ y (gu hy) (Nat.lt_succ_self _)
 exact ⟨fun h y hy => by rw [← e y hy];exact h y hy,fun h y hy => by rw [e y hy];exact h y hy⟩
theorem may.step {x : bn} {A : Option Addr} {c : Nat} {w : World} (hs : oV x.f1) (ha : Asks 20 #[] ji x.f4 w) (hG : dG w) (hn : ND w x A c) : Calls Tryz.prog 20 #[val x A c] w (fB (NC x) w):=by
 have E:=Env.start hG hn;clear hn hG;have HS:=ah.mk hs;clear hs;have HA:=ah.mk ha;clear ha;cases h0 : (kE x);rotate_left 1;cases h1 : (x.f4.all ji);rotate_right 1
 all_goals
  try (have vw:=ah.mk h0;clear h0)
  try (have KG:=ah.mk h1;clear h1)
  go_enter Tryz.func20,Tryz.ntmps20
  go_wp2_with (first
   | (go_at_call 32;(try clear c0 c1 c2 c3 c4 c5);(with_reducible refine Env.call E E.out vw.out (itself.all HS.out E.out.kQ E.out.nd) (fun w1 E c0 c1 c2 c3 c4 c5 => ?_)))
   | (go_at_call 33;(try clear c0 c1 c2 c3 c4 c5);(with_reducible refine Env.call E E.out KG.out (every.calls x.f4 A c _ E.out.kids 20 #[] ji (enters_of Tryz.func20 (by kernel_rfl) rfl) (HA.out.below E.out.b)) (fun w1 E c0 c1 c2 c3 c4 c5 => ?_)))
   | fail)
  go_ret
  exact ⟨by unfold NC;(try rw [vw.out]);(try rw [KG.out]);first|done|rfl,lK⟩
theorem may.fuel : ∀ (n : Nat) (x : bn),SizeOf.sizeOf x < n → wE x → ∀ (A : Option Addr) (c : Nat) (w : World),dG w → ND w x A c → Calls Tryz.prog 20 #[val x A c] w (fB (ji x) w)
 | 0,_,h,_,_,_,_,_,_ => absurd h (Nat.not_lt_zero _)
 | n + 1,x,h,hs,A,c,w,hG,hn => by
  rw [CB];exact may.step hs.str (fun y hy W A c hW hn => by rw [Array.append_empty];exact may.fuel n y (by have:=gu hy;omega) (hs.kid hy) A c W (hG.below hW) hn) hG hn
theorem may.all {x : bn} {A : Option Addr} {c : Nat} {w : World} (hs : wE x) (hG : dG w) (hn : ND w x A c) : Calls Tryz.prog 20 #[val x A c] w (fB (ji x) w):=may.fuel _ x (Nat.lt_succ_self _) hs A c w hG hn
def IntP (v : Int) (w : World) (e : Ending) (w' : World) : Prop:=e = .returned (.int .i64 v) ∧ Below w.heap.size w w'
noncomputable def lg (r : Int) (x : bn) : Int:=if ((x.f0 != 40) || ((r == 0) || !(ji x))) = true then 80 else 0
theorem Check.all {x : bn} {A : Option Addr} {c : Nat} {w : World} (k : Nat) (r : Int) (hr0 : dK.f k x.f0 x.f1 x.f2 x.f3 x.f4 x.f5 = some r) (hs : wE x) (hG : dG w) (hn : ND w x A c) : Calls Tryz.prog 8 #[val x A c] w (IntP (lg r x) w):=by
 have E:=Env.start hG hn;clear hn hG;have HS:=ah.mk hs;have hr:=ah.mk hr0;clear hs hr0;cases h0 : (x.f0 != 40);cases h2 : (r == 0);cases h3 : (ji x);all_goals
  try have kR : (x.f0 == 40) = false:=by rw [bne] at h0;simpa using h0
  try have kR : (x.f0 == 40) = true:=by rw [bne] at h0;simpa using h0
  try (have qV:=ah.mk h3;clear h3)
  go_enter Tryz.func8,Tryz.ntmps8
  go_wp2_with (first
   | (go_at_call 16;(try clear c0 c1 c2 c3 c4 c5);(with_reducible refine (dK.calls k _ _ _ _ A c _ _ r _ E.out.kids E.out.k.le hr.out).mono ?_);rintro e w1 ⟨rfl,hB⟩;replace E:=ah.mk (E.out.step hB);clear hB;obtain ⟨c0,c1,c2,c3,c4,c5⟩:=E.out.cells)
   | (go_at_call 20;(try clear c0 c1 c2 c3 c4 c5);(with_reducible refine Env.call E E.out qV.out (may.all HS.out E.out.kQ E.out.nd) (fun w1 E c0 c1 c2 c3 c4 c5 => ?_)))
   | fail)
  go_ret
  exact ⟨by unfold lg;(try rw [h0]);(try rw [h2]);(try rw [qV.out]);first|done|rfl,lK⟩
mutual
def strip : bn → bn
 | ⟨a,b,c,d,l,_⟩ => ⟨a,b,c,d,stripL l,0⟩
def stripL : List bn → List bn
 | [] => []
 | x :: xs => strip x :: stripL xs
end
theorem vJ : ∀ l : List bn,stripL l = l.map strip
 | [] => by simp [stripL]
 | x :: xs => by simp [stripL,vJ xs]
theorem qh (x : bn) : (strip x).f0 = x.f0:=by cases x;simp [strip]
theorem E5 (x : bn) : (strip x).f1 = x.f1:=by cases x;simp [strip]
theorem KH (x : bn) : (strip x).f2 = x.f2:=by cases x;simp [strip]
theorem BO (x : bn) : (strip x).f3 = x.f3:=by cases x;simp [strip]
theorem wP (x : bn) : (strip x).f4 = x.f4.map strip:=by cases x;simp [strip,vJ]
theorem s_z : strip z25 = z25:=by simp [strip,stripL,z25]
theorem BP (xs : List bn) (i : Nat) : nd (xs.map strip) i = strip (nd xs i):=by
 unfold nd;rw [List.getD_eq_getElem?_getD,List.getD_eq_getElem?_getD,List.getElem?_map];cases xs[i]? with
 | none => exact s_z.symm
 | some y => rfl
theorem s_rd (xs : List bn) (i : Int) : aG (xs.map strip) i = strip (aG xs i):=BP xs i.toNat
theorem vX (xs : List bn) : (xs.map strip).length = xs.length:=List.length_map _
theorem pX (x : bn) : oG (strip x) = oG x:=by unfold oG;rw [qh]
theorem Ej (x : bn) : isS (strip x) = isS x:=by unfold isS;rw [qh]
theorem s_isP (x : bn) : isP (strip x) = isP x:=by unfold isP;rw [qh]
theorem Qj (x : bn) : PD (strip x) = PD x:=by unfold PD;rw [qh,pX]
theorem xQ {p : bn → Bool} (h : ∀ x,p (strip x) = p x) (xs : List bn) : (xs.map strip).all p = xs.all p:=by
 rw [List.all_map];congr 1
 funext y
 exact h y
theorem oH {ps : List (bn → Bool)} (h : ∀ p ∈ ps,∀ x,p (strip x) = p x) (xs : List bn) : fG ps (xs.map strip) = fG ps xs:=by
 unfold fG oD;rw [vX];congr 1;congr 1
 funext j
 rw [BP];unfold zI;rw [List.getD_eq_getElem?_getD];cases hj : ps[j]? with
 | none => rfl
 | some p => exact h p (List.mem_of_getElem? hj) _
theorem s_bare1 (x : bn) : qJ (strip x) = qJ x:=by unfold qJ;rw [qh,BO,wP,vX]
theorem s_bareB (x : bn) : vV (strip x) = vV x:=by unfold vV;rw [qh,wP,xQ s_bare1]
theorem s_varB (x : bn) : Jh (strip x) = Jh x:=by unfold Jh;simp only [qh,BO,wP,vX,BP,Qj,pX]
theorem s_funB (l : List bn) : tH (l.map strip) = tH l:=by
 unfold tH;simp only [vX,BP,qh,← List.map_take,← List.map_tail];rw [xQ (p:=fun x => decide (x.f0 = 46)) (fun x => by simp only [qh])]
theorem Qk : ∀ (n : Nat) (x : bn),vW n (strip x) = vW n x
 | 0,_ => rfl
 | n + 1,x => by
  unfold vW;simp only [qh,wP,vX,BP,Qk n]
theorem Em : ∀ (n m : Nat) (x : bn),SizeOf.sizeOf x < n → SizeOf.sizeOf x < m → vW n x = vW m x
 | 0,_,x,h,_ => absurd h (Nat.not_lt_zero _)
 | _ + 1,0,x,_,h => absurd h (Nat.not_lt_zero _)
 | n + 1,m + 1,x,h1,h2 => by
  unfold vW;by_cases h0 : x.f4.length = 0
  · simp [h0]
  · have hk:=gu (Qh h0);simp only [Em n m _ (show SizeOf.sizeOf (nd x.f4 (x.f4.length - 1)) < n by omega) (by omega)]
theorem s_openA (x : bn) : FW (strip x) = FW x:=by
 unfold FW;rw [Em _ (max (SizeOf.sizeOf (strip x) + 1) (SizeOf.sizeOf x + 1)) (strip x) (by omega) (by omega),Qk];exact Em _ _ _ (by omega) (by omega)
theorem s_1 {p : bn → Bool} (h : ∀ x,p (strip x) = p x) : ∀ q ∈ [p],∀ x,q (strip x) = q x:=by
 intro q hq;obtain rfl:=List.mem_singleton.1 hq;exact h
theorem s_c {p : bn → Bool} {ps : List (bn → Bool)} (h : ∀ x,p (strip x) = p x) (hs : ∀ q ∈ ps,∀ x,q (strip x) = q x) : ∀ q ∈ p :: ps,∀ x,q (strip x) = q x:=by
 intro q hq;rcases List.mem_cons.1 hq with rfl|hq
 · exact h
 · exact hs q hq
theorem s_exprs (x : bn) : dS (strip x) = dS x:=by
 unfold dS e1 e2 e3 e4 e5 e6 e8 e9 e10 e11 e12 e13 e14 e15 e16;simp only [qh,E5,KH,BO,wP,vX];rw [xQ pX,oH (ps:=gE.map (·.2)) (s_1 pX),oH (ps:=Ez.map (·.2)) (s_c pX (s_1 pX)),oH (ps:=zK.map (·.2)) (s_c pX (s_c pX (s_1 pX))),oH (ps:=Nj.map (·.2)) (s_c s_isP (s_1 pX)),oH (ps:=[fun x => decide (x.f0 = 16),oG]) (s_c (fun x => by simp only [qh]) (s_1 pX)),oH (ps:=gT.map (·.2)) (s_1 (fun x => by simp only [qh,pX]))]
theorem s_stmt (x : bn) : jD (strip x) = jD x:=by
 unfold jD s47 s48 s49 s50 s51 s52 s55 s0;simp only [qh,E5,KH,BO,wP,vX,BP,s_openA];rw [xQ pX,xQ (p:=fun x => isS x || decide (x.f0 = 42)) (fun x => by simp only [qh,Ej]),oH (ps:=gE.map (·.2)) (s_1 pX),oH (ps:=gES.map (·.2)) (s_c pX (s_1 Ej)),oH (ps:=gSE.map (·.2)) (s_c Ej (s_1 pX)),oH (ps:=Nk.map (·.2)) (s_c pX (s_c Ej (s_1 Ej))),oH (ps:=Ed.map (·.2)) (s_c Qj (s_c Qj (s_c Qj (s_1 Ej))))]
theorem s_decl (x : bn) : jM (strip x) = jM x:=by
 unfold jM d40 d41 EZ d43 d44 d45 d46;simp only [qh,E5,KH,BO,wP,vX,BP,s_varB,s_funB,← List.map_tail];rw [xQ pX,xQ s_bareB,xQ (p:=fun x => decide (x.f0 = 41) || decide (x.f0 = 42) || decide (x.f0 = 45)) (fun x => by simp only [qh]),xQ (p:=fun x => decide (x.f0 = 43)) (fun x => by simp only [qh]),oH (s_1 (fun x => by simp only [qh]))]
theorem s_itself (x : bn) : kE (strip x) = kE x:=by
 unfold kE Jz;simp only [qh,BO,pX,Ej,s_exprs,s_stmt,s_decl]
theorem s_mayN : ∀ (n : Nat) (x : bn),BN n (strip x) = BN n x
 | 0,_ => rfl
 | n + 1,x => by
  unfold BN;rw [s_itself,wP,xQ (s_mayN n)]
theorem s_mayT (x : bn) : ji (strip x) = ji x:=by
 unfold ji;rw [Cm _ (max (SizeOf.sizeOf (strip x) + 1) (SizeOf.sizeOf x + 1)) (strip x) (by omega) (by omega),s_mayN];exact Cm _ _ _ (by omega) (by omega)
theorem s_chk (r : Int) (x : bn) : lg r (strip x) = lg r x:=by unfold lg;rw [qh,s_mayT]
end Go.Proofs.YtboojhadfhpdeaaGreatDoor.Q
namespace Go.Proofs
open Go.Shelf
def Tryz.layU_ren : Go.Shelf.Ren:=⟨fun | 129 => 146 | 284 => 141 | 285 => 142 | 317 => 145 | 318 => 147|n => n,fun | 0 => 0 | 3 => 3 | 4 => 4 | 5 => 5 | 9 => 9 | 37 => 40 | 46 => 70 | 51 => 22 | 53 => 89 | 212 => 112|n => n,fun | 17 => 1|n => n⟩
theorem Tryz.layU284 : Go.Proofs.LaysM.n284 Tryz.prog Tryz.layU_ren:={
 mixed:=by kernel_rfl
 f129:=Tryz.func146.trans (congrArg some (by kernel_rfl))
 f284:=Tryz.func141.trans (congrArg some (by kernel_rfl))
 f317:=Tryz.func145.trans (congrArg some (by kernel_rfl))
 f318:=Tryz.func147.trans (congrArg some (by kernel_rfl))
 t0:=Tryz.underlying0
 a0:=Tryz.isAgg0
 z0:=Tryz.sizeOf0
 v0:=Tryz.zeroValue0
 t3:=Tryz.underlying3
 a3:=Tryz.isAgg3
 z3:=Tryz.sizeOf3
 v3:=Tryz.zeroValue3
 t4:=Tryz.underlying4
 a4:=Tryz.isAgg4
 z4:=Tryz.sizeOf4
 v4:=Tryz.zeroValue4
 t5:=Tryz.underlying5
 a5:=Tryz.isAgg5
 z5:=Tryz.sizeOf5
 v5:=Tryz.zeroValue5
 t9:=Tryz.underlying9
 a9:=Tryz.isAgg9
 z9:=Tryz.sizeOf9
 v9:=Tryz.zeroValue9
 t46:=Tryz.underlying70
 a46:=Tryz.isAgg70
 z46:=Tryz.sizeOf70
 v46:=Tryz.zeroValue70
 t53:=Tryz.underlying89
 a53:=Tryz.isAgg89
 z53:=Tryz.sizeOf89
 v53:=Tryz.zeroValue89
 t212:=Tryz.underlying112
 a212:=Tryz.isAgg112
 z212:=Tryz.sizeOf112
 v212:=Tryz.zeroValue112
 g17:=by kernel_rfl
 i0:=by kernel_rfl
 i3:=by kernel_rfl
 i4:=by kernel_rfl
 i5:=by kernel_rfl
 i9:=by kernel_rfl
 i46:=by kernel_rfl
 i53:=by kernel_rfl
 i212:=by kernel_rfl
 m17:=by kernel_rfl }
theorem Tryz.layU285 : Go.Proofs.Lays.n285 Tryz.prog Tryz.layU_ren:={
 mixed:=by kernel_rfl
 f285:=Tryz.func142.trans (congrArg some (by kernel_rfl))
 t0:=Tryz.underlying0
 a0:=Tryz.isAgg0
 z0:=Tryz.sizeOf0
 v0:=Tryz.zeroValue0
 t3:=Tryz.underlying3
 a3:=Tryz.isAgg3
 z3:=Tryz.sizeOf3
 v3:=Tryz.zeroValue3
 t4:=Tryz.underlying4
 a4:=Tryz.isAgg4
 z4:=Tryz.sizeOf4
 v4:=Tryz.zeroValue4
 t5:=Tryz.underlying5
 a5:=Tryz.isAgg5
 z5:=Tryz.sizeOf5
 v5:=Tryz.zeroValue5
 t9:=Tryz.underlying9
 a9:=Tryz.isAgg9
 z9:=Tryz.sizeOf9
 v9:=Tryz.zeroValue9
 t37:=Tryz.underlying40
 a37:=Tryz.isAgg40
 z37:=Tryz.sizeOf40
 v37:=Tryz.zeroValue40
 t51:=Tryz.underlying22
 a51:=Tryz.isAgg22
 z51:=Tryz.sizeOf22
 v51:=Tryz.zeroValue22
 t53:=Tryz.underlying89
 a53:=Tryz.isAgg89
 z53:=Tryz.sizeOf89
 v53:=Tryz.zeroValue89 }
end Go.Proofs
namespace Go.Proofs.YtboojhadfhpdeaaGreatDoor.Q
open Go.RowKit Go.Proofs.YtboojhadfhpdeaaGreatDoorW.PrintWords Go.Proofs.YtboojhadfhpdeaaGreatDoorW.PrintLast Go.Proofs.YtboojhadfhpdeaaGreatDoorW.PrintMore
open Go.Lib Go.«Sort»
abbrev Tb (w : World) : Prop:=Lib.TabIs Tryz.prog w "internal/strconv.uint64pow10" .u64 Lib.pow10Tab
theorem globU : Tryz.prog.globalNamed "internal/strconv.uint64pow10" = some 1:=by kernel_rfl
theorem Tb.below {w w1 : World} (h : Tb w) (hb : Below w.heap.size w w1) : Tb w1:=by
 refine var?_below (g:=1) hb globU ?_ h;unfold Tb Lib.TabIs World.var? at h;rw [globU] at h;simp only [Option.bind_some] at h;rcases Nat.lt_or_ge 1 w.heap.size with h0|h0
 · exact h0
 · rw [Array.getElem?_eq_none h0] at h;simp at h
theorem slice105 (n : Nat) (h : n ≤ 24) (g : Nat) (W : World) : (Instr.sliceAt 105 (.pointer (some ⟨g,0,none⟩)) none (some (.int .i64 (n : Int))) none).run Tryz.prog W = .ok (.slice (some ⟨g,0,none⟩) n 24) W:=by
 rw [run_sliceAt_array_h W 105 ⟨g,0,none⟩ (by simp [Program.arrayLen,Program.elem,Tryz.underlying105]) .i64 (n : Int) (by omega) (by rw [show Tryz.prog.arrayLen 105 = 24 from by simp [Program.arrayLen,Tryz.underlying105]];omega)];go_simp;try omega
theorem below_grow (w : World) (k : Nat) (os : Array Obj) : Below w.heap.size w (grow (w.drewN k) os) :=
 ⟨rfl,rfl,rfl,by show w.heap.size ≤ (w.heap ++ os).size;rw [Array.size_append];omega,fun g hg => heap_grow_old w k os g hg⟩
theorem xI.big (u : Nat) (h1 : 100 ≤ u) (h2 : u < 18446744073709551616) (w : World) (htab : Tb w) : Calls Tryz.prog 135 #[.int .u64 u,.int .i64 10] w fun e w' => e = .returned (.string ⟨(Lib.decDigits u).toArray⟩) ∧ Below w.heap.size w w' := by
 have hnd20 : Lib.nDigits u ≤ 20:=by have:=Lib.numDigits_eq u (by omega) h2;split at this <;> omega
 have hsl:=slice105 (Lib.nDigits u) (by omega) w.heap.size;have hH0:=Lib.holds_zero0 w 105 (Lib.nDigits u) (by omega);have hfmt:=Any.internal_strconv_formatBase10 Tryz.layU285 w.heap.size 0 24 u (Array.replicate (Lib.nDigits u) 0) (w.alloc (.cells Lib.zeros24 105)) hH0 (by rw [Array.size_replicate];exact Lib.lt_pow_nDigits u) h2 (by rw [Array.size_replicate];omega);rw [Array.size_replicate] at hfmt;have HH0:=ah.mk hH0;have HF:=ah.mk hfmt;have HT:=ah.mk htab;have b1 : decide ((u : Int) < 100) = false:=decide_eq_false (by omega);have b2 : decide (u < 100) = false:=decide_eq_false (by omega);have HU:=ah.mk h1;clear hH0 hfmt htab h1;go_enter Tryz.func135,Tryz.ntmps135
 go_wp2_with (first
  | (go_at_call 141;refine (Any.internal_strconv_numDigits Tryz.layU284 u (by have:=HU.out;omega) h2 _ (Lib.tabIs_alloc HT.out _)).mono ?_;rintro e w' ⟨rfl,rfl⟩)
  | fail)
 refine HF.out.mono ?_;rintro e w' ⟨rfl,k,v',dk,rfl,hF⟩;have HFF:=ah.mk hF;clear hF;have hcv : (convert 40 9 (.slice (some ⟨w.heap.size,0,none⟩) (Lib.nDigits u) 24)).run Tryz.prog ((putRow (fun (b : UInt8) => Value.int .u8 (b.toNat : Int)) (w.alloc (.cells Lib.zeros24 105)) w.heap.size 0 dk).drewN k) = .ok (.string ⟨(Lib.decDigits u).toArray⟩) ((putRow (fun (b : UInt8) => Value.int .u8 (b.toNat : Int)) (w.alloc (.cells Lib.zeros24 105)) w.heap.size 0 dk).drewN k):=by
  have h:=run_convert_bytes_back (P:=Tryz.prog) ((putRow (fun (b : UInt8) => Value.int .u8 (b.toNat : Int)) (w.alloc (.cells Lib.zeros24 105)) w.heap.size 0 dk).drewN k) 40 9 5 ⟨w.heap.size,0,none⟩ 24 (Lib.decDigits u) Tryz.underlying40 Tryz.underlying5 Tryz.underlying9 (fun j hj => by
   rw [Lib.row_is_numeral HFF.out j hj,Lib.add_plain,World.cell?_drewN];exact cell?_putRow (fun (b : UInt8) => Value.int .u8 (b.toNat : Int)) _ w.heap.size 0 _ dk HH0.out (by rw [HFF.out.size,Array.size_replicate]) j (by rw [HFF.out.size];rw [Lib.decDigits_length] at hj;exact hj))
  rw [Lib.decDigits_length] at h;exact h
 go_wp2
 go_ret
 obtain ⟨os,eo⟩:=Lib.fin_at w (.cells Lib.zeros24 105) dk k 0;refine ⟨rfl,?_⟩;rw [eo];exact below_grow w k os
theorem xI.small (u : Nat) (h1 : u < 100) (w : World) : Calls Tryz.prog 135 #[.int .u64 u,.int .i64 10] w fun e w' => e = .returned (.string ⟨(Lib.decDigits u).toArray⟩) ∧ Below w.heap.size w w' := by
 have b1 : decide ((u : Int) < 100) = true:=decide_eq_true (by omega);have b2 : decide (u < 100) = true:=decide_eq_true (by omega);have cu : wrap64 (u : Int) = (u : Int):=by unfold wrap64;omega
 have HU:=ah.mk h1;clear h1;go_enter Tryz.func135,Tryz.ntmps135
 go_wp2_with (first
  | (go_at_call 140;((refine (Tryz.internal_strconv_small u HU.out _).mono ?_);rintro e w1 ⟨rfl,rfl⟩))
  | fail)
 go_ret
 exact ⟨rfl,Below.refl _ _⟩
def decS (n : Int) : ByteArray:=⟨(Lib.decDigits n.toNat).toArray⟩
theorem xI.all {v : Int} (h : 0 ≤ v ∧ v < 4294967296) {w : World} (htab : Tb w) : Calls Tryz.prog 125 #[.int .u64 v,.int .i64 10] w fun e w' => e = .returned (.string (decS v)) ∧ Below w.heap.size w w' := by
 obtain ⟨u,rfl⟩:=Int.eq_ofNat_of_zero_le h.1;have HC:=ah.mk (show Calls Tryz.prog 135 #[.int .u64 u,.int .i64 10] w fun e w' => e = .returned (.string ⟨(Lib.decDigits u).toArray⟩) ∧ Below w.heap.size w w' from if h1 : u < 100 then xI.small u h1 w else xI.big u (by omega) (by omega) w htab);clear h htab;go_enter Tryz.func125,Tryz.ntmps125
 go_wp2_with (first
  | (go_at_call 135;(refine HC.out.mono ?_);rintro e w1 ⟨rfl,hB⟩;have HB:=ah.mk hB;clear hB)
  | fail)
 go_ret
 exact ⟨rfl,HB.out⟩
end Go.Proofs.YtboojhadfhpdeaaGreatDoor.Q
namespace Go.Proofs.YtboojhadfhpdeaaGreatDoor.Q
open Go.RowKit Go.Proofs.YtboojhadfhpdeaaGreatDoorW.PrintWords Go.Proofs.YtboojhadfhpdeaaGreatDoorW.PrintLast Go.Proofs.YtboojhadfhpdeaaGreatDoorW.PrintMore
structure PX (t b p : Nat) (l : List Int) (w : World) : Prop where
 hp : b ≤ p
 hb : b ≤ w.heap.size
 ex : ∃ v,w.heap[p]? = some (.cells #[v] t (0,0)) ∧ w.ownsRow b 5 1 v l.length (nums .u8 l)
theorem PX.below {t b p : Nat} {l : List Int} {w w' : World} (h : PX t b p l w) (hB : Below w.heap.size w w') : PX t b p l w' := by
 obtain ⟨v,h1,h2⟩:=h.ex;refine ⟨h.hp,Nat.le_trans h.hb hB.size,v,bI h1 hB,uK h2 (fun k hk => ?_)⟩;obtain ⟨_,cur,hc⟩:=qy h2 hk;exact hB.block k (jl hc)
theorem PX.put {t b p : Nat} (ht : t ≠ 5) {l l' : List Int} {w0 W w1 : World} {v v1 : Value} (hp : b ≤ p) (hb : b ≤ W.heap.size) (h1 : W.heap[p]? = some (.cells #[v] t (0,0))) (h2 : W.ownsRow b 5 1 v l.length (nums .u8 l)) (ho : w1.ownsRow b 5 1 v1 l'.length (nums .u8 l')) (hB : Below b w0 w1) (hg : W.grownBy w1 v.ownBlock) :
 w1.heap[p]? = some (.cells #[v] t (0,0)) ∧ PX t b p l' (w1.setCell ⟨p,0,none⟩ v1) ∧ Below b w0 (w1.setCell ⟨p,0,none⟩ v1) ∧ Fr p W (w1.setCell ⟨p,0,none⟩ v1):=by
 have hsz : (w1.setCell ⟨p,0,none⟩ v1).heap.size = w1.heap.size:=by simp [World.setCell]
 have hne : ∀ k t cs,W.heap[k]? = some (.cells cs t (0,0)) → t ≠ 5 → some k ≠ v.ownBlock:=fun k t cs hk ht he => by
  obtain ⟨_,cur,hc⟩:=qy h2 he.symm;rw [hk] at hc;injection hc with hc
  injection hc with _ ht'
  exact ht ht'
 have hp1:=rW h1 hg (hne p t _ h1 ht);refine ⟨hp1,⟨hp,by rw [hsz];exact Nat.le_trans hb hg.size,v1,qx hp1 0 v1,uK ho (fun k hk => ?_)⟩,hB.setCell hp v1,⟨by rw [hsz];exact hg.size,fun k t cs hk hkp ht => ?_⟩⟩
 · obtain ⟨_,cur,hc⟩:=qy ho hk;exact Below.heap_setCell w1 _ v1 k (fun e => blk_ne hc hp1 (Ne.symm ht) e)
 · exact (Below.heap_setCell w1 _ v1 k hkp).trans (rW hk hg (hne k t cs hk ht))
def BX (s : Bool) (b p : Nat) (m : List Int) (w : World) : Prop:=∃ l,PX (if s = true then 46 else 42) b p l w ∧ (l = m ∨ (s = true ∧ 1048576 < l.length ∧ 1048576 < m.length))
theorem BX.below {s : Bool} {b p : Nat} {m : List Int} {w w' : World} (h : BX s b p m w) (hB : Below w.heap.size w w') : BX s b p m w' := by
 obtain ⟨l,h1,h2⟩:=h;exact ⟨l,h1.below hB,h2⟩
theorem BX.lt {s : Bool} {b p : Nat} {m : List Int} {w : World} (h : BX s b p m w) : p < w.heap.size:=by
 obtain ⟨l,⟨_,_,v,h1,_⟩,_⟩:=h;exact jl h1
structure St (s : Bool) (p : Nat) (w0 : World) (F r : List Int) (w : World) : Prop where
 b : Below w0.heap.size w0 w
 ex : ∃ m,m ++ r = F ∧ BX s w0.heap.size p m w
 len : F.length ≤ 70368744177664
 g : dG w0
 tb : Tb w0
theorem St.step {s : Bool} {p : Nat} {w0 : World} {F r : List Int} {w w' : World} (h : St s p w0 F r w) (hB : Below w.heap.size w w') : St s p w0 F r w' := by
 obtain ⟨b,⟨m,hm,hx⟩,l,g,tb⟩:=h;exact ⟨bQ b b.size hB,⟨m,hm,hx.below hB⟩,l,g,tb⟩
theorem St.lt {s : Bool} {p : Nat} {w0 : World} {F r : List Int} {w : World} (h : St s p w0 F r w) : p < w.heap.size:=by
 obtain ⟨m,_,hx⟩:=h.ex;exact hx.lt
theorem St.tab {s : Bool} {p : Nat} {w0 : World} {F r : List Int} {w : World} (h : St s p w0 F r w) : Tb w:=h.tb.below h.b
theorem St.kQ {s : Bool} {p : Nat} {w0 : World} {F r : List Int} {w : World} (h : St s p w0 F r w) : dG w:=h.g.below h.b
def nY (s : Bool) (p : Nat) (w0 : World) (F r : List Int) (v : Value) (w : World) (e : Ending) (w' : World) : Prop:=e = .returned v ∧ St s p w0 F r w' ∧ Fr p w w'
theorem putP.calls {p q : Nat} {w0 w : World} {F r : List Int} {c : Nat} (ss : List ByteArray) (h : St false p w0 F (ss.flatMap bytesOf ++ r) w) (hq : q ≠ p) (hS : w.heap[q]? = some (.cells (ss.map Value.string).toArray 9 (0,0))) (hn : ss.length ≤ 1000) :
 Calls Tryz.prog 54 #[.pointer (some ⟨p,0,none⟩),.slice (some ⟨q,0,none⟩) ss.length c] w (nY false p w0 F r (.tuple #[]) w):=by
 obtain ⟨b,⟨m,hm,l,hx,hl⟩,hF,g,tb⟩:=h;obtain rfl : l = m:=by
  rcases hl with h | ⟨h,_⟩
  · exact h
  · cases h
 have hlen : l.length + (ss.flatMap bytesOf).length ≤ 140737488355328:=by
  have:=congrArg List.length hm;simp only [List.length_append] at this;omega
 refine (put.calls w0.heap.size p q ss l c w0 w b ⟨hx.hp,hx.hb,hx.ex⟩ hq hS hlen hn).mono ?_;rintro e w' ⟨rfl,hp,hb,hf⟩;exact ⟨rfl,⟨hb,⟨l ++ ss.flatMap bytesOf,by rw [List.append_assoc];exact hm,_,⟨hp.hp,hp.hb,hp.ex⟩,.inl rfl⟩,hF,g,tb⟩,hf⟩
structure PE (s : Bool) (p g : Nat) (w0 : World) (x : bn) (A : Option Addr) (c : Nat) (F r : List Int) (ws W : World) : Prop where
 st : St s p w0 F r W
 n : NB W g x A c
 ne : g ≠ p
 k : ND w0 x A c
 fr : Fr p ws W
section
variable {s : Bool} {p g : Nat} {w0 : World} {x : bn} {A : Option Addr} {c : Nat} {F r t : List Int} {ws W : World}
theorem PE.start (h : St s p w0 F r ws) (hn : ND w0 x A c) : ah (PE s p ws.heap.size w0 x A c F r ws (ws.alloc (.cells #[.int .i64 x.f0,.string x.f1,.int .u32 x.f2,.bool x.f3,.slice A x.f4.length c,.int .i64 x.f5] 25 (0,0)))) :=
 ⟨h.step (au (Below.refl _ _) _),eP ws _,fun e => by have:=h.lt;omega,hn,Fr.of_below (au (Below.refl _ _) _)⟩
theorem PE.step {W1 : World} (E : PE s p g w0 x A c F r ws W) (hB : Below W.heap.size W W1) : PE s p g w0 x A c F r ws W1 :=
 ⟨E.st.step hB,E.n.below hB,E.ne,E.k,E.fr.trans (Fr.of_below hB)⟩
theorem PE.alloc (E : PE s p g w0 x A c F r ws W) (o : Obj) : PE s p g w0 x A c F r ws (W.alloc o):=E.step (au (Below.refl _ _) _)
theorem PE.kQ (E : PE s p g w0 x A c F r ws W) : dG W:=E.st.kQ
theorem PE.nd (E : PE s p g w0 x A c F r ws W) : ND W x A c:=E.k.below E.st.b
theorem PE.kids (E : PE s p g w0 x A c F r ws W) : Kd.C k25 W A x.f4.length x.f4:=E.nd.C
theorem PE.cells (E : PE s p g w0 x A c F r ws W) : W.cell? ⟨g,0,none⟩ = some (.int .i64 x.f0) ∧ W.cell? ⟨g,1,none⟩ = some (.string x.f1) ∧ W.cell? ⟨g,2,none⟩ = some (.int .u32 x.f2) ∧ W.cell? ⟨g,3,none⟩ = some (.bool x.f3) ∧ W.cell? ⟨g,4,none⟩ = some (.slice A x.f4.length c) ∧ W.cell? ⟨g,5,none⟩ = some (.int .i64 x.f5):=E.n.cells
theorem PE.call {W0 : World} {r0 : List Int} {v : Value} {f : FuncId} {args : Array Value} {Q : Ending → World → Prop} (E0 : ah (PE s p g w0 x A c F r0 ws W0)) (E : PE s p g w0 x A c F (t ++ r) ws W) (h : St s p w0 F (t ++ r) W → Calls Tryz.prog f args W (nY s p w0 F r v W))
 (K : ∀ w1,ah (PE s p g w0 x A c F r ws w1) → w1.cell? ⟨g,0,none⟩ = some (.int .i64 x.f0) → w1.cell? ⟨g,1,none⟩ = some (.string x.f1) → w1.cell? ⟨g,2,none⟩ = some (.int .u32 x.f2) → w1.cell? ⟨g,3,none⟩ = some (.bool x.f3) → w1.cell? ⟨g,4,none⟩ = some (.slice A x.f4.length c) → w1.cell? ⟨g,5,none⟩ = some (.int .i64 x.f5) → Q (.returned v) w1) : Calls Tryz.prog f args W Q:=by
 refine (h E.st).mono ?_;rintro e w1 ⟨rfl,h1,h2⟩;have hn : NB w1 g x A c:=h2.keep _ 25 _ E.n E.ne (by decide);obtain ⟨c0,c1,c2,c3,c4,c5⟩:=hn.cells;exact K w1 ⟨⟨h1,hn,E.ne,E.k,E.fr.trans h2⟩⟩ c0 c1 c2 c3 c4 c5
theorem PE.still {W0 : World} {r0 : List Int} {v : Value} {f : FuncId} {args : Array Value} {Q : Ending → World → Prop} (E0 : ah (PE s p g w0 x A c F r0 ws W0)) (E : PE s p g w0 x A c F r ws W) (h : Calls Tryz.prog f args W (fun e w' => e = .returned v ∧ Below W.heap.size W w'))
 (K : ∀ w1,ah (PE s p g w0 x A c F r ws w1) → w1.cell? ⟨g,0,none⟩ = some (.int .i64 x.f0) → w1.cell? ⟨g,1,none⟩ = some (.string x.f1) → w1.cell? ⟨g,2,none⟩ = some (.int .u32 x.f2) → w1.cell? ⟨g,3,none⟩ = some (.bool x.f3) → w1.cell? ⟨g,4,none⟩ = some (.slice A x.f4.length c) → w1.cell? ⟨g,5,none⟩ = some (.int .i64 x.f5) → Q (.returned v) w1) : Calls Tryz.prog f args W Q:=by
 refine h.mono ?_;rintro e w1 ⟨rfl,hB⟩;have E1:=E.step hB;obtain ⟨c0,c1,c2,c3,c4,c5⟩:=E1.cells;exact K w1 ⟨E1⟩ c0 c1 c2 c3 c4 c5
end
section
variable {p g : Nat} {w0 : World} {x : bn} {A : Option Addr} {c : Nat} {F r t : List Int} {ws W : World}
theorem PE.puts {q cc n : Nat} (ss : List ByteArray) {row : Array Value} {Q : Ending → World → Prop} (E : ah (PE false p g w0 x A c F (ss.flatMap bytesOf ++ r) ws W)) (hrow : (ss.map Value.string).toArray = row) (hl : ss.length = n) (hq : q = W.heap.size) (hn : n ≤ 1000)
 (K : ∀ w1,ah (PE false p g w0 x A c F r ws w1) → w1.cell? ⟨g,0,none⟩ = some (.int .i64 x.f0) → w1.cell? ⟨g,1,none⟩ = some (.string x.f1) → w1.cell? ⟨g,2,none⟩ = some (.int .u32 x.f2) → w1.cell? ⟨g,3,none⟩ = some (.bool x.f3) → w1.cell? ⟨g,4,none⟩ = some (.slice A x.f4.length c) → w1.cell? ⟨g,5,none⟩ = some (.int .i64 x.f5) → Q (.returned (.tuple #[])) w1) :
 Calls Tryz.prog 54 #[.pointer (some ⟨p,0,none⟩),.slice (some ⟨q,0,none⟩) n cc] (W.alloc (.cells row 9 (0,0))) Q:=by
 subst hrow hl hq;exact PE.call E (E.out.alloc _) (fun h => putP.calls ss h (fun e => by have:=E.out.st.lt;omega) (eP W _) hn) K
theorem PE.jI {q cc : Nat} {a : ByteArray} {Q : Ending → World → Prop} (E : ah (PE false p g w0 x A c F (bytesOf a ++ r) ws W))
 (K : ∀ w1,ah (PE false p g w0 x A c F r ws w1) → w1.cell? ⟨g,0,none⟩ = some (.int .i64 x.f0) → w1.cell? ⟨g,1,none⟩ = some (.string x.f1) → w1.cell? ⟨g,2,none⟩ = some (.int .u32 x.f2) → w1.cell? ⟨g,3,none⟩ = some (.bool x.f3) → w1.cell? ⟨g,4,none⟩ = some (.slice A x.f4.length c) → w1.cell? ⟨g,5,none⟩ = some (.int .i64 x.f5) → Q (.returned (.tuple #[])) w1) (hq : q = W.heap.size:=by first|rfl|(simp;done)) :
 Calls Tryz.prog 54 #[.pointer (some ⟨p,0,none⟩),.slice (some ⟨q,0,none⟩) 1 cc] (W.alloc (.cells #[.string a] 9 (0,0))) Q :=
 PE.puts [a] ⟨by simpa using E.out⟩ rfl rfl hq (by decide) K
theorem PE.jS {q cc : Nat} {a b : ByteArray} {Q : Ending → World → Prop} (E : ah (PE false p g w0 x A c F (bytesOf a ++ (bytesOf b ++ r)) ws W))
 (K : ∀ w1,ah (PE false p g w0 x A c F r ws w1) → w1.cell? ⟨g,0,none⟩ = some (.int .i64 x.f0) → w1.cell? ⟨g,1,none⟩ = some (.string x.f1) → w1.cell? ⟨g,2,none⟩ = some (.int .u32 x.f2) → w1.cell? ⟨g,3,none⟩ = some (.bool x.f3) → w1.cell? ⟨g,4,none⟩ = some (.slice A x.f4.length c) → w1.cell? ⟨g,5,none⟩ = some (.int .i64 x.f5) → Q (.returned (.tuple #[])) w1) (hq : q = W.heap.size:=by first|rfl|(simp;done)) :
 Calls Tryz.prog 54 #[.pointer (some ⟨p,0,none⟩),.slice (some ⟨q,0,none⟩) 2 cc] (W.alloc (.cells #[.string a,.string b] 9 (0,0))) Q :=
 PE.puts [a,b] ⟨by simpa using E.out⟩ rfl rfl hq (by decide) K
theorem PE.jW {q cc : Nat} {a b d : ByteArray} {Q : Ending → World → Prop} (E : ah (PE false p g w0 x A c F (bytesOf a ++ (bytesOf b ++ (bytesOf d ++ r))) ws W))
 (K : ∀ w1,ah (PE false p g w0 x A c F r ws w1) → w1.cell? ⟨g,0,none⟩ = some (.int .i64 x.f0) → w1.cell? ⟨g,1,none⟩ = some (.string x.f1) → w1.cell? ⟨g,2,none⟩ = some (.int .u32 x.f2) → w1.cell? ⟨g,3,none⟩ = some (.bool x.f3) → w1.cell? ⟨g,4,none⟩ = some (.slice A x.f4.length c) → w1.cell? ⟨g,5,none⟩ = some (.int .i64 x.f5) → Q (.returned (.tuple #[])) w1) (hq : q = W.heap.size:=by first|rfl|(simp;done)) :
 Calls Tryz.prog 54 #[.pointer (some ⟨p,0,none⟩),.slice (some ⟨q,0,none⟩) 3 cc] (W.alloc (.cells #[.string a,.string b,.string d] 9 (0,0))) Q :=
 PE.puts [a,b,d] ⟨by simpa using E.out⟩ rfl rfl hq (by decide) K
theorem PE.jE {q cc : Nat} {a b d f : ByteArray} {Q : Ending → World → Prop} (E : ah (PE false p g w0 x A c F (bytesOf a ++ (bytesOf b ++ (bytesOf d ++ (bytesOf f ++ r)))) ws W))
 (K : ∀ w1,ah (PE false p g w0 x A c F r ws w1) → w1.cell? ⟨g,0,none⟩ = some (.int .i64 x.f0) → w1.cell? ⟨g,1,none⟩ = some (.string x.f1) → w1.cell? ⟨g,2,none⟩ = some (.int .u32 x.f2) → w1.cell? ⟨g,3,none⟩ = some (.bool x.f3) → w1.cell? ⟨g,4,none⟩ = some (.slice A x.f4.length c) → w1.cell? ⟨g,5,none⟩ = some (.int .i64 x.f5) → Q (.returned (.tuple #[])) w1) (hq : q = W.heap.size:=by first|rfl|(simp;done)) :
 Calls Tryz.prog 54 #[.pointer (some ⟨p,0,none⟩),.slice (some ⟨q,0,none⟩) 4 cc] (W.alloc (.cells #[.string a,.string b,.string d,.string f] 9 (0,0))) Q :=
 PE.puts [a,b,d,f] ⟨by simpa using E.out⟩ rfl rfl hq (by decide) K
end
open Go.Proofs.YtboojhadfhpdeaaGreatDoor.Lex
def vK (x : bn) (a b c : Bool) : Bool:=(a || (x.f1.toList == ([] : List UInt8))) && (b || (x.f2 == 0)) && (c || !x.f3)
theorem Ql {p q : bn → Bool} (l : List bn) : (l.all p && l.all q) = l.all fun x => p x && q x:=by
 induction l with
 | nil => rfl
 | cons y l ih =>
  simp only [List.all_cons];rw [← ih];cases p y <;> cases q y <;> cases l.all p <;> cases l.all q <;> rfl
noncomputable def jh (x : bn) : Bool:=oG x && ji x
noncomputable def stB (x : bn) : Bool:=isS x && ji x
noncomputable def tyT (x : bn) : Bool:=decide (x.f0 = 16) && ji x
theorem mayT_E {x : bn} (h1 : 1 ≤ x.f0) (h2 : x.f0 ≤ 16) : ji x = ((decide (x.f0 = 1) || !x.f3) && dS x && x.f4.all ji):=by
 rw [CB];unfold NC kE Jz;have hE : ((oG x) || (x.f0 == 16)) = true:=by
  unfold oG;by_cases h : x.f0 = 16
  · simp [h]
  · simp only [Bool.or_eq_true,Bool.and_eq_true,decide_eq_true_eq];exact Or.inl ⟨h1,by omega⟩
 rw [if_pos hE];by_cases h : x.f0 = 1
 · rw [if_pos (Or.inl h),decide_eq_true h];simp
 · rw [if_neg (by omega),decide_eq_false h];simp
theorem isE_of {x : bn} (h1 : 1 ≤ x.f0) (h2 : x.f0 ≤ 15) : oG x = true:=by
 unfold oG;rw [decide_eq_true h1,decide_eq_true h2];rfl
theorem yh (p : bn → Bool) (l : List bn) : fG [p] l = (decide (l.length = 1) && p (nd l 0)):=by
 unfold fG oD;simp [List.range_succ,zI]
theorem shape2 (p q : bn → Bool) (l : List bn) : fG [p,q] l = (decide (l.length = 2) && (p (nd l 0) && q (nd l 1))):=by
 unfold fG oD;simp [List.range_succ,zI]
theorem shape3 (p q r : bn → Bool) (l : List bn) : fG [p,q,r] l = (decide (l.length = 3) && (p (nd l 0) && q (nd l 1) && r (nd l 2))):=by
 unfold fG oD;simp [List.range_succ,zI,Bool.and_assoc]
theorem shape4 (p q r s : bn → Bool) (l : List bn) : fG [p,q,r,s] l = (decide (l.length = 4) && (p (nd l 0) && q (nd l 1) && r (nd l 2) && s (nd l 3))):=by
 unfold fG oD;simp [List.range_succ,zI,Bool.and_assoc]
theorem len1 {l : List bn} (h : l.length = 1) : ∃ a,l = [a]:=by
 match l,h with
 | [a],_ => exact ⟨a,rfl⟩
def exs (n : Int) (x : bn) (p : bn → Bool) : Bool:=(decide (n < 0) || ((x.f4.length : Int) == n)) && x.f4.all p
theorem isP_E {x : bn} (h : isP x = true) : oG x = true:=by
 unfold isP at h;simp only [Bool.or_eq_true,decide_eq_true_eq] at h;exact isE_of (by omega) (by omega)
theorem size_eq (x : bn) : (decide (x.f4.length = 1) && (tyT (nd x.f4 0) || jh (nd x.f4 0))) = (fG [fun x => decide (x.f0 = 16) || oG x] x.f4 && x.f4.all ji):=by
 rw [yh];by_cases h : x.f4.length = 1
 · obtain ⟨a,ha⟩:=len1 h;rw [ha];simp [nd,jh,tyT];cases decide (a.f0 = 16) <;> cases oG a <;> cases ji a <;> rfl
 · rw [decide_eq_false h];rfl
theorem Jj (x : bn) : isS x = true ↔ 47 ≤ x.f0 ∧ x.f0 ≤ 56:=by
 unfold isS;simp only [Bool.or_eq_true,Bool.and_eq_true,decide_eq_true_eq];omega
theorem Qm (x : bn) : oG x = true ↔ 1 ≤ x.f0 ∧ x.f0 ≤ 15:=by
 unfold oG;simp only [Bool.and_eq_true,decide_eq_true_eq]
theorem isE_no {x : bn} (h : ¬ (1 ≤ x.f0 ∧ x.f0 ≤ 15)) : oG x = false:=Bool.eq_false_iff.2 fun e => h ((Qm x).1 e)
theorem isS_no {x : bn} (h : ¬ (47 ≤ x.f0 ∧ x.f0 ≤ 56)) : isS x = false:=Bool.eq_false_iff.2 fun e => h ((Jj x).1 e)
theorem mayT_S {x : bn} (h : 47 ≤ x.f0 ∧ x.f0 ≤ 56) : ji x = (!x.f3 && jD x && x.f4.all ji):=by
 rw [CB];unfold NC kE Jz;rw [if_neg (by omega),isE_no (by omega),show (x.f0 == 16) = false from beq_eq_false_iff_ne.2 (by omega),(Jj x).2 h];rfl
theorem Jk {x : bn} (h : 40 ≤ x.f0 ∧ x.f0 ≤ 46) : ji x = ((decide (x.f0 = 43) || decide (x.f0 = 46) || !x.f3) && jM x && x.f4.all ji):=by
 rw [CB];unfold NC kE Jz;rw [isE_no (by omega),show (x.f0 == 16) = false from beq_eq_false_iff_ne.2 (by omega),isS_no (by omega)];by_cases h43 : x.f0 = 43
 · rw [if_pos (Or.inr (Or.inl h43)),decide_eq_true h43];rfl
 · by_cases h46 : x.f0 = 46
   · rw [if_pos (Or.inr (Or.inr h46)),decide_eq_true h46,decide_eq_false h43];rfl
   · rw [if_neg (by omega),decide_eq_false h43,decide_eq_false h46];rfl
noncomputable def noT (x : bn) : Bool:=decide (x.f0 = 56) && ji x
noncomputable def liT (x : bn) : Bool:=decide (x.f0 = 44) && ji x
theorem liT_eq {y : bn} (h : y.f0 = 44) : liT y = (vK y false false false && (decide (y.f4.length ≠ 0) && y.f4.all jh)):=by
 unfold liT;rw [decide_eq_true h,Jk (by omega),show jM y = d44 y from by unfold jM;simp [h],decide_eq_false (show ¬ y.f0 = 43 by omega),decide_eq_false (show ¬ y.f0 = 46 by omega)];have e : y.f4.all jh = (y.f4.all oG && y.f4.all ji):=by
  rw [Ql];rfl
 rw [e];unfold vK d44;by_cases h0 : y.f4.length = 0
 · rw [decide_eq_false (show ¬ (y.f4.length : Int) > 0 by omega),decide_eq_false (show ¬ y.f4.length ≠ 0 by omega)];cases (y.f1.toList == ([] : List UInt8)) <;> cases (y.f2 == 0) <;> cases y.f3 <;> rfl
 · rw [decide_eq_true (show (y.f4.length : Int) > 0 by omega),decide_eq_true (show y.f4.length ≠ 0 from h0)];cases (y.f1.toList == ([] : List UInt8)) <;> cases (y.f2 == 0) <;> cases y.f3 <;> cases y.f4.all oG <;> cases y.f4.all ji <;> rfl
theorem qC (l : List bn) (i : Nat) : nd (l.drop 1) i = nd l (i + 1):=by
 unfold nd;rw [List.getD_eq_getElem?_getD,List.getD_eq_getElem?_getD,List.getElem?_drop,Nat.add_comm]
noncomputable def blT (x : bn) : Bool:=decide (x.f0 = 47) && ji x
noncomputable def paT (x : bn) : Bool:=decide (x.f0 = 46) && ji x
theorem paT_eq {x : bn} (h : x.f0 = 46) : paT x = (decide (x.f2 ≤ 1) && (!(x.f3 && (x.f2 == 1)) && (uF x.f1 && (decide (x.f4.length = 1) && tyT (nd x.f4 0))))):=by
 unfold paT;rw [decide_eq_true h,Jk (by omega),show jM x = d46 x from by unfold jM;simp [h],decide_eq_true h];unfold d46;rw [yh];by_cases h1 : x.f4.length = 1
 · obtain ⟨a,ha⟩:=len1 h1;rw [ha];unfold tyT;simp only [List.length_cons,List.length_nil,nd,List.getD_cons_zero,List.all_cons,List.all_nil];cases uF x.f1 <;> cases decide (x.f2 ≤ 1) <;> cases x.f3 <;> cases (x.f2 == 1) <;> cases decide (a.f0 = 16) <;> cases ji a <;> cases decide (x.f0 = 43) <;> rfl
 · rw [decide_eq_false h1];cases uF x.f1 <;> cases decide (x.f2 ≤ 1) <;> cases x.f3 <;> cases (x.f2 == 1) <;> cases decide (x.f0 = 43) <;> rfl
noncomputable def fnT (x : bn) : Bool:=decide (x.f0 = 45) && ji x
theorem ends_of {l : List bn} (h : 2 ≤ l.length) : ∃ a m z,l = a :: (m ++ [z]):=by
 match l,h with
 | a :: b :: t,_ => exact ⟨a,(b :: t).dropLast,(b :: t).getLast (by simp),by rw [List.dropLast_concat_getLast]⟩
theorem fnT_eq {x : bn} (h : x.f0 = 45) : fnT x = (vK x true false false && (uF x.f1 && (decide (2 ≤ x.f4.length) && (tyT (nd x.f4 0) && (blT (nd x.f4 (x.f4.length - 1)) && ((x.f4.take (x.f4.length - 1)).drop 1).all paT))))):=by
 unfold fnT;rw [decide_eq_true h,Jk (by omega),show jM x = d45 x from by unfold jM;simp [h],decide_eq_false (show ¬ x.f0 = 43 by omega),decide_eq_false (show ¬ x.f0 = 46 by omega)];unfold d45 vK tH;by_cases h2 : 2 ≤ x.f4.length
 · rw [decide_eq_true h2];obtain ⟨a,m,z,ha⟩:=ends_of h2;rw [ha];have e1 : (a :: (m ++ [z])).length - 1 = m.length + 1:=by simp
   have e2 : (a :: (m ++ [z])).take (m.length + 1) = a :: m:=by simp
   have e3 : nd (a :: (m ++ [z])) (m.length + 1) = z:=by simp [nd]
   have e4 : nd (a :: (m ++ [z])) 0 = a:=rfl;rw [e1,e2,e3,e4];simp only [List.tail_cons,List.drop_succ_cons,List.drop_zero,List.all_cons,List.all_append,List.all_nil];have e5 : m.all paT = (m.all (fun y => decide (y.f0 = 46)) && m.all ji):=by
    rw [Ql];rfl
   rw [e5];unfold tyT blT;cases uF x.f1 <;> cases (x.f2 == 0) <;> cases x.f3 <;> cases decide (a.f0 = 16) <;> cases decide (z.f0 = 47) <;> cases ji a <;> cases ji z <;> cases m.all (fun y => decide (y.f0 = 46)) <;> cases m.all ji <;> rfl
 · rw [decide_eq_false h2];cases uF x.f1 <;> cases (x.f2 == 0) <;> cases x.f3 <;> rfl
def Bz (y : bn) : Prop:=∀ (A : Option Addr) (c : Nat) (w : World),dG w → ND w y A c → Calls Tryz.prog 83 #[val y A c] w (fB (jh y) w)
def KnowS (y : bn) : Prop:=∀ (A : Option Addr) (c : Nat) (w : World),dG w → ND w y A c → Calls Tryz.prog 52 #[val y A c] w (fB (stB y) w)
theorem Bz.go {y : bn} {A : Option Addr} {c : Nat} {w : World} (h : Bz y) (hG : dG w) (hn : ND w y A c) : Calls Tryz.prog 83 #[val y A c] w (fB (jh y) w):=h A c w hG hn
theorem KnowS.go {y : bn} {A : Option Addr} {c : Nat} {w : World} (h : KnowS y) (hG : dG w) (hn : ND w y A c) : Calls Tryz.prog 52 #[val y A c] w (fB (stB y) w):=h A c w hG hn
section
variable {s : ByteArray} {w : World}
theorem nameR.all (hs : oV s) (hG : dG w) : Calls Tryz.prog 34 #[.string s] w (fB (uF s) w):=by
 obtain ⟨k,hk⟩:=(nm_ref s hs).rounds;refine (iO.calls k s _ w hk).mono ?_;rintro e w' ⟨rfl,h⟩;exact ⟨rfl,h.below⟩
theorem signR.all (t : ByteArray) (ht : t.size ≤ 1000) (hs : oV s) (hG : dG w) : Calls Tryz.prog 97 #[.string t,.string s] w (fB (IJ t.data.toList s.data.toList) w):=by
 obtain ⟨k,hk⟩:=(sign_ref t s ht hs).rounds;refine (bF.calls k t s _ w hk).mono ?_;rintro e w' ⟨rfl,h⟩;exact ⟨rfl,h.below⟩
end
theorem partsR.all {x : bn} {A : Option Addr} {c : Nat} {w : World} (a b d : Bool) (hG : dG w) (hn : ND w x A c) : Calls Tryz.prog 21 #[val x A c,.bool a,.bool b,.bool d] w (fB (vK x a b d) w):=by
 have E:=Env.start hG hn;clear hn hG;cases h0 : (a);cases h5 : (x.f1.toList == ([] : List UInt8));rotate_left 1;cases h1 : (b);rotate_right 1
 rotate_left 1;cases h4 : (x.f2 == 0);rotate_right 1
 rotate_left 2;cases h2 : (d);rotate_right 2
 rotate_left 2;cases h3 : (x.f3);rotate_right 2
 rotate_left 5;cases h2 : (d);rotate_right 5
 rotate_left 5;cases h3 : (x.f3);rotate_right 5
 rotate_left 8;cases h1 : (b);rotate_right 8
 rotate_left 8;cases h4 : (x.f2 == 0);rotate_right 8
 rotate_left 9;cases h2 : (d);rotate_right 9
 rotate_left 9;cases h3 : (x.f3);rotate_right 9
 rotate_left 12;cases h2 : (d);rotate_right 12
 rotate_left 12;cases h3 : (x.f3);rotate_right 12
 all_goals
  try have h4m0 : (x.f2 != 0) = false:=by rw [bne,h4];rfl
  try have h4m0 : (x.f2 != 0) = true:=by rw [bne,h4];rfl
  try have h5m0 : (x.f1.toList != ([] : List UInt8)) = false:=by rw [bne,h5];rfl
  try have h5m0 : (x.f1.toList != ([] : List UInt8)) = true:=by rw [bne,h5];rfl
  go_enter Tryz.func21,Tryz.ntmps21
  go_wp2
  go_ret
  exact ⟨by unfold vK;(try rw [h0]);(try rw [h1]);(try rw [h2]);(try rw [h3]);(try rw [h4]);(try rw [h5]);first|done|rfl,lK⟩
theorem gY {w : World} {A : Option Addr} {n : Nat} {xs : List bn} (h : Kd.C k25 w A n xs) (h0 : 0 < n) : ∃ ad,A = some ad:=by
 obtain ⟨ad,_,_,e,_⟩:=jo h 0 h0;exact ⟨ad,e⟩
theorem kid0 {w : World} {ad : Addr} {n : Nat} {xs : List bn} (h : Kd.C k25 w (some ad) n xs) (hi : 0 < n) : ∃ A' c',ND w (nd xs 0) A' c' ∧ w.cell? ad = some (.int .i64 (nd xs 0).f0) ∧ w.cell? ⟨ad.block,ad.off + 1,none⟩ = some (.string (nd xs 0).f1) ∧ w.cell? ⟨ad.block,ad.off + 2,none⟩ = some (.int .u32 (nd xs 0).f2) ∧ w.cell? ⟨ad.block,ad.off + 3,none⟩ = some (.bool (nd xs 0).f3) ∧ w.cell? ⟨ad.block,ad.off + 4,none⟩ = some (.slice A' (nd xs 0).f4.length c') ∧ w.cell? ⟨ad.block,ad.off + 5,none⟩ = some (.int .i64 (nd xs 0).f5):=by
 obtain ⟨ad1,A1,c1,e,hn,k0,k1,k2,k3,k4,k5⟩:=jo h 0 hi;obtain rfl:=Option.some.inj e;rw [Nat.zero_mul,nM] at k0 k1 k2 k3 k4 k5;exact ⟨A1,c1,hn,k0,k1,k2,k3,k4,k5⟩
theorem kid1 {w : World} {ad : Addr} {n : Nat} {xs : List bn} (h : Kd.C k25 w (some ad) n xs) (hi : 1 < n) : ∃ A' c',ND w (nd xs 1) A' c' ∧ w.cell? ⟨ad.block,ad.off + 6,none⟩ = some (.int .i64 (nd xs 1).f0) ∧ w.cell? ⟨ad.block,ad.off + 6 + 1,none⟩ = some (.string (nd xs 1).f1) ∧ w.cell? ⟨ad.block,ad.off + 6 + 2,none⟩ = some (.int .u32 (nd xs 1).f2) ∧ w.cell? ⟨ad.block,ad.off + 6 + 3,none⟩ = some (.bool (nd xs 1).f3) ∧ w.cell? ⟨ad.block,ad.off + 6 + 4,none⟩ = some (.slice A' (nd xs 1).f4.length c') ∧ w.cell? ⟨ad.block,ad.off + 6 + 5,none⟩ = some (.int .i64 (nd xs 1).f5):=by
 obtain ⟨ad1,A1,c1,e,hn,k0,k1,k2,k3,k4,k5⟩:=jo h 1 hi;obtain rfl:=Option.some.inj e;exact ⟨A1,c1,hn,k0,k1,k2,k3,k4,k5⟩
theorem kid2 {w : World} {ad : Addr} {n : Nat} {xs : List bn} (h : Kd.C k25 w (some ad) n xs) (hi : 2 < n) : ∃ A' c',ND w (nd xs 2) A' c' ∧ w.cell? ⟨ad.block,ad.off + 12,none⟩ = some (.int .i64 (nd xs 2).f0) ∧ w.cell? ⟨ad.block,ad.off + 12 + 1,none⟩ = some (.string (nd xs 2).f1) ∧ w.cell? ⟨ad.block,ad.off + 12 + 2,none⟩ = some (.int .u32 (nd xs 2).f2) ∧ w.cell? ⟨ad.block,ad.off + 12 + 3,none⟩ = some (.bool (nd xs 2).f3) ∧ w.cell? ⟨ad.block,ad.off + 12 + 4,none⟩ = some (.slice A' (nd xs 2).f4.length c') ∧ w.cell? ⟨ad.block,ad.off + 12 + 5,none⟩ = some (.int .i64 (nd xs 2).f5):=by
 obtain ⟨ad1,A1,c1,e,hn,k0,k1,k2,k3,k4,k5⟩:=jo h 2 hi;obtain rfl:=Option.some.inj e;exact ⟨A1,c1,hn,k0,k1,k2,k3,k4,k5⟩
theorem kid3 {w : World} {ad : Addr} {n : Nat} {xs : List bn} (h : Kd.C k25 w (some ad) n xs) (hi : 3 < n) : ∃ A' c',ND w (nd xs 3) A' c' ∧ w.cell? ⟨ad.block,ad.off + 18,none⟩ = some (.int .i64 (nd xs 3).f0) ∧ w.cell? ⟨ad.block,ad.off + 18 + 1,none⟩ = some (.string (nd xs 3).f1) ∧ w.cell? ⟨ad.block,ad.off + 18 + 2,none⟩ = some (.int .u32 (nd xs 3).f2) ∧ w.cell? ⟨ad.block,ad.off + 18 + 3,none⟩ = some (.bool (nd xs 3).f3) ∧ w.cell? ⟨ad.block,ad.off + 18 + 4,none⟩ = some (.slice A' (nd xs 3).f4.length c') ∧ w.cell? ⟨ad.block,ad.off + 18 + 5,none⟩ = some (.int .i64 (nd xs 3).f5):=by
 obtain ⟨ad1,A1,c1,e,hn,k0,k1,k2,k3,k4,k5⟩:=jo h 3 hi;obtain rfl:=Option.some.inj e;exact ⟨A1,c1,hn,k0,k1,k2,k3,k4,k5⟩
def noS (x : bn) : Bool:=((x.f0 == 56) && (vK x false false false) && ((x.f4.length : Int) == 0))
theorem noneR.s {x : bn} {A : Option Addr} {c : Nat} {w : World} (hG : dG w) (hn : ND w x A c) : Calls Tryz.prog 49 #[val x A c] w (fB (noS x) w):=by
 have E:=Env.start hG hn;clear hn hG;cases h0 : (x.f0 == 56);rotate_left 1;cases h1 : (vK x false false false);rotate_right 1
 rotate_left 2;cases h2 : ((x.f4.length : Int) == 0);rotate_right 2
 all_goals
  try (have KG:=ah.mk h1;clear h1)
  go_enter Tryz.func49,Tryz.ntmps49
  go_wp2_with (first
   | (go_at_call 21;(try clear c0 c1 c2 c3 c4 c5);(with_reducible refine Env.call E E.out KG.out (partsR.all false false false E.out.kQ E.out.nd) (fun w1 E c0 c1 c2 c3 c4 c5 => ?_)))
   | fail)
  go_ret
  exact ⟨by unfold noS;(try rw [h0]);(try rw [KG.out]);(try rw [h2]);first|done|rfl,lK⟩
theorem noS_eq (x : bn) : noS x = noT x:=by
 unfold noS noT;by_cases h : x.f0 = 56
 · rw [show (x.f0 == 56) = true from beq_iff_eq.2 h,decide_eq_true h,mayT_S (by omega),show jD x = s0 x from by unfold jD;simp [h]];unfold vK s0;by_cases h0 : x.f4.length = 0
   · rw [List.eq_nil_of_length_eq_zero h0];cases (x.f1.toList == ([] : List UInt8)) <;> cases (x.f2 == 0) <;> cases x.f3 <;> rfl
   · rw [show ((x.f4.length : Int) == 0) = false from beq_eq_false_iff_ne.2 (by omega)];cases (x.f1.toList == ([] : List UInt8)) <;> cases (x.f2 == 0) <;> cases x.f3 <;> rfl
 · rw [show (x.f0 == 56) = false from beq_eq_false_iff_ne.2 h,decide_eq_false h];rfl
noncomputable def exS (x : bn) : Bool:=((decide (x.f0 ≥ 1)) && (decide (x.f0 ≤ 15)) && (jh x))
theorem Qn.s {x : bn} {A : Option Addr} {c : Nat} {w : World} (hk : Bz x) (hG : dG w) (hn : ND w x A c) : Calls Tryz.prog 50 #[val x A c] w (fB (exS x) w):=by
 have E:=Env.start hG hn;clear hn hG;have HK:=ah.mk hk;clear hk;cases h0 : (decide (x.f0 ≥ 1));rotate_left 1;cases h1 : (decide (x.f0 ≤ 15));rotate_right 1
 rotate_left 2;cases h2 : (jh x);rotate_right 2
 all_goals
  try have kR : decide (1 ≤ x.f0) = true:=h0
  try have kR : decide (1 ≤ x.f0) = false:=h0
  try (have HC2:=ah.mk h2;clear h2)
  go_enter Tryz.func50,Tryz.ntmps50
  go_wp2_with (first
   | (go_at_call 83;(try clear c0 c1 c2 c3 c4 c5);(with_reducible refine Env.call E E.out HC2.out (Bz.go HK.out E.out.kQ E.out.nd) (fun w1 E c0 c1 c2 c3 c4 c5 => ?_)))
   | fail)
  go_ret
  exact ⟨by unfold exS;(try rw [h0]);(try rw [h1]);(try rw [HC2.out]);first|done|rfl,lK⟩
theorem exS_eq (x : bn) : exS x = jh x:=by
 unfold exS jh oG;rw [show decide (x.f0 ≥ 1) = decide (1 ≤ x.f0) from rfl];cases decide (1 ≤ x.f0) <;> cases decide (x.f0 ≤ 15) <;> cases ji x <;> rfl
section
variable {x : bn} {A : Option Addr} {c : Nat} {w : World}
theorem noneR.all (hG : dG w) (hn : ND w x A c) : Calls Tryz.prog 49 #[val x A c] w (fB (noT x) w):=by rw [← noS_eq];exact noneR.s hG hn
theorem Qn.all (hk : Bz x) (hG : dG w) (hn : ND w x A c) : Calls Tryz.prog 50 #[val x A c] w (fB (jh x) w):=by rw [← exS_eq];exact Qn.s hk hG hn
end
theorem all_from {p : bn → Bool} {l : List bn} {i : Nat} (h : ∀ j,i ≤ j → j < l.length → p (nd l j) = true) : (l.drop i).all p = true:=by
 rw [List.all_eq_true];intro y hy;obtain ⟨j,hj,rfl⟩:=List.mem_iff_getElem.1 hy;rw [List.length_drop] at hj;have:=h (i + j) (by omega) (by omega);rw [List.getElem_drop]
 rwa [show nd l (i + j) = l[i + j] from by simp [nd,show i + j < l.length by omega]] at this
theorem Rl {p : bn → Bool} {l : List bn} {i j : Nat} (hij : i ≤ j) (hj : j < l.length) (h : p (nd l j) = false) : (l.drop i).all p = false:=by
 rw [Bool.eq_false_iff,ne_eq,List.all_eq_true];intro h2;have:=h2 (nd l j) (by rw [show nd l j = l[j] from by simp [nd,hj]];exact List.mem_iff_getElem.2 ⟨j - i,by rw [List.length_drop];omega,by rw [List.getElem_drop];congr 1;omega⟩);rw [h] at this;cases this
theorem FZ {p : bn → Bool} {l : List bn} (h : ∀ j,0 ≤ j → j < l.length → p (nd l j) = true) : l.all p = true:=all_from (i:=0) h
theorem En {p : bn → Bool} {l : List bn} {j : Nat} (hij : 0 ≤ j) (hj : j < l.length) (h : p (nd l j) = false) : l.all p = false:=Rl (i:=0) hij hj h
theorem KI {w : World} {ad : Addr} {n : Nat} {xs : List bn} (h : Kd.C k25 w (some ad) n xs) {i : Nat} (hi : i < n) : ∃ A' c',ND w (nd xs i) A' c' ∧ w.cell? (ad.add (i * 6)) = some (.int .i64 (nd xs i).f0) ∧ w.cell? ⟨(ad.add (i * 6)).block,(ad.add (i * 6)).off + 1,none⟩ = some (.string (nd xs i).f1) ∧ w.cell? ⟨(ad.add (i * 6)).block,(ad.add (i * 6)).off + 2,none⟩ = some (.int .u32 (nd xs i).f2) ∧ w.cell? ⟨(ad.add (i * 6)).block,(ad.add (i * 6)).off + 3,none⟩ = some (.bool (nd xs i).f3) ∧ w.cell? ⟨(ad.add (i * 6)).block,(ad.add (i * 6)).off + 4,none⟩ = some (.slice A' (nd xs i).f4.length c') ∧ w.cell? ⟨(ad.add (i * 6)).block,(ad.add (i * 6)).off + 5,none⟩ = some (.int .i64 (nd xs i).f5):=by
 obtain ⟨ad1,A1,c1,e,hn,k0,k1,k2,k3,k4,k5⟩:=jo h i hi;obtain rfl:=Option.some.inj e;exact ⟨A1,c1,hn,k0,k1,k2,k3,k4,k5⟩
theorem AZ.p {x : bn} {A : Option Addr} {c : Nat} {w : World} (n : Int) (hge : n ≥ 0) (hq : (x.f4.length : Int) = n) (hk : ∀ y ∈ x.f4,Bz y) (hG : dG w) (hn : ND w x A c) : Calls Tryz.prog 51 #[val x A c,.int .i64 n] w (fB (x.f4.all jh) w):=by
 have HMX:=ah.mk hn.C.2.1;have E:=Env.start hG hn;clear hn hG;have HK:=ah.mk hk;clear hk;have g1 : decide (n ≥ 0) = true:=decide_eq_true hge;have g2 : decide (0 ≤ n) = true:=g1;have g3 : ((x.f4.length : Int) != n) = false:=bne_eq_false_iff_eq.2 hq;have g4 : ((x.f4.length : Int) == n) = true:=beq_iff_eq.2 hq;have HQ:=ah.mk (And.intro hge hq);clear hge hq;go_enter Tryz.func51,Tryz.ntmps51
 go_wp2
 try clear c0 c1 c2 c3 c4 c5
 go_loopg [5] x.f4.length (fun kq v w' => ∃ i : Nat,v = .int .i64 i ∧ ah (i + kq = x.f4.length + 0) ∧ ah (0 ≤ i) ∧ ah (∀ j,0 ≤ j → j < i → j < x.f4.length → jh (nd x.f4 j) = true) ∧ ah (Env w x A c w'))
 case atStart => exact ⟨0,rfl,⟨by omega⟩,⟨Nat.le_refl _⟩,⟨fun j h1 h2 => by omega⟩,by first|exact E|exact ⟨E.out.alloc _⟩⟩
 case round =>
  obtain ⟨i,rfl,HI,H0,HP,E⟩:=hrel;obtain ⟨c0,c1,c2,c3,c4,c5⟩:=E.out.cells;by_cases hi : i < x.f4.length
  · have EP : decide (i < x.f4.length) = true:=decide_eq_true hi;have e1 : decide ((i : Int) < (x.f4.length : Int)) = true:=decide_eq_true (by omega);have p1 : (0 : Int) ≤ (i : Int):=by omega
    have q1 : (i : Int) < (x.f4.length : Int):=by omega
    obtain ⟨ad,A',c',rfl,hnd,k0,k1,k2,k3,k4,k5⟩:=jo E.out.kids i hi;have HND:=ah.mk hnd;have qg:=ah.mk hi;have vM:=ah.mk (fH hi);clear hi hnd;have w3 : wrap64 ((i : Int) + 1) = (i : Int) + 1:=by have:=HMX.out;have:=qg.out;unfold wrap64;omega
    have w4 : IntKind.i64.wrap ((i : Int) + 1) = (i : Int) + 1:=(bW _).trans w3;cases hp0 : jh (nd x.f4 i);all_goals
     try (have vw:=ah.mk hp0;clear hp0)
     go_wp2_with (first
      | (go_at_call 50;(try clear c0 c1 c2 c3 c4 c5);(with_reducible refine Env.call E E.out vw.out (Qn.all (HK.out _ vM.out) E.out.kQ HND.out) (fun w1 E c0 c1 c2 c3 c4 c5 => ?_));(try (clear k0 k1 k2 k3 k4 k5;obtain ⟨A2,c2_,hnd,k0,k1,k2,k3,k4,k5⟩:=KI E.out.kids qg.out;have HND:=ah.mk hnd;clear hnd)))
      | fail)
     first
      | (go_ret;exact ⟨by rw [En (p:=jh) H0.out qg.out (by (try dsimp only);(try rw [vw.out]);first|done|rfl)];rfl,lK⟩)
      | (go_roundg (x.f4.length + 0 - (i + 1))
         case measure => have:=HI.out;have:=qg.out;omega
         case rel => exact ⟨i + 1,by (try simp only [w4,w3]);rfl,⟨by have:=HI.out;have:=qg.out;omega⟩,⟨by have:=H0.out;omega⟩,⟨fun j h1 h2 h3 => by
          by_cases hj : j = i
          · subst hj;(try dsimp only);(try rw [vw.out]);first|done|rfl
          · exact HP.out j h1 (by omega) h3⟩,E⟩)
  · have EP : decide (i < x.f4.length) = false:=decide_eq_false hi;have e1 : decide ((i : Int) < (x.f4.length : Int)) = false:=decide_eq_false (by omega);have HH:=ah.mk (FZ (p:=jh) (l:=x.f4) (fun j h1 h2 => HP.out j h1 (by omega) h2));clear hi HP HI;go_wp2
    go_ret
    exact ⟨by rw [HH.out];rfl,lK⟩
theorem AZ.n {x : bn} {A : Option Addr} {c : Nat} {w : World} (n : Int) (hge : ¬ n ≥ 0) (hk : ∀ y ∈ x.f4,Bz y) (hG : dG w) (hn : ND w x A c) : Calls Tryz.prog 51 #[val x A c,.int .i64 n] w (fB (x.f4.all jh) w):=by
 have HMX:=ah.mk hn.C.2.1;have E:=Env.start hG hn;clear hn hG;have HK:=ah.mk hk;clear hk;have g1 : decide (n ≥ 0) = false:=decide_eq_false hge;have g2 : decide (0 ≤ n) = false:=g1;have HQ:=ah.mk hge;clear hge;go_enter Tryz.func51,Tryz.ntmps51
 go_wp2
 try clear c0 c1 c2 c3 c4 c5
 go_loopg [5] x.f4.length (fun kq v w' => ∃ i : Nat,v = .int .i64 i ∧ ah (i + kq = x.f4.length + 0) ∧ ah (0 ≤ i) ∧ ah (∀ j,0 ≤ j → j < i → j < x.f4.length → jh (nd x.f4 j) = true) ∧ ah (Env w x A c w'))
 case atStart => exact ⟨0,rfl,⟨by omega⟩,⟨Nat.le_refl _⟩,⟨fun j h1 h2 => by omega⟩,by first|exact E|exact ⟨E.out.alloc _⟩⟩
 case round =>
  obtain ⟨i,rfl,HI,H0,HP,E⟩:=hrel;obtain ⟨c0,c1,c2,c3,c4,c5⟩:=E.out.cells;by_cases hi : i < x.f4.length
  · have EP : decide (i < x.f4.length) = true:=decide_eq_true hi;have e1 : decide ((i : Int) < (x.f4.length : Int)) = true:=decide_eq_true (by omega);have p1 : (0 : Int) ≤ (i : Int):=by omega
    have q1 : (i : Int) < (x.f4.length : Int):=by omega
    obtain ⟨ad,A',c',rfl,hnd,k0,k1,k2,k3,k4,k5⟩:=jo E.out.kids i hi;have HND:=ah.mk hnd;have qg:=ah.mk hi;have vM:=ah.mk (fH hi);clear hi hnd;have w3 : wrap64 ((i : Int) + 1) = (i : Int) + 1:=by have:=HMX.out;have:=qg.out;unfold wrap64;omega
    have w4 : IntKind.i64.wrap ((i : Int) + 1) = (i : Int) + 1:=(bW _).trans w3;cases hp0 : jh (nd x.f4 i);all_goals
     try (have vw:=ah.mk hp0;clear hp0)
     go_wp2_with (first
      | (go_at_call 50;(try clear c0 c1 c2 c3 c4 c5);(with_reducible refine Env.call E E.out vw.out (Qn.all (HK.out _ vM.out) E.out.kQ HND.out) (fun w1 E c0 c1 c2 c3 c4 c5 => ?_));(try (clear k0 k1 k2 k3 k4 k5;obtain ⟨A2,c2_,hnd,k0,k1,k2,k3,k4,k5⟩:=KI E.out.kids qg.out;have HND:=ah.mk hnd;clear hnd)))
      | fail)
     first
      | (go_ret;exact ⟨by rw [En (p:=jh) H0.out qg.out (by (try dsimp only);(try rw [vw.out]);first|done|rfl)];rfl,lK⟩)
      | (go_roundg (x.f4.length + 0 - (i + 1))
         case measure => have:=HI.out;have:=qg.out;omega
         case rel => exact ⟨i + 1,by (try simp only [w4,w3]);rfl,⟨by have:=HI.out;have:=qg.out;omega⟩,⟨by have:=H0.out;omega⟩,⟨fun j h1 h2 h3 => by
          by_cases hj : j = i
          · subst hj;(try dsimp only);(try rw [vw.out]);first|done|rfl
          · exact HP.out j h1 (by omega) h3⟩,E⟩)
  · have EP : decide (i < x.f4.length) = false:=decide_eq_false hi;have e1 : decide ((i : Int) < (x.f4.length : Int)) = false:=decide_eq_false (by omega);have HH:=ah.mk (FZ (p:=jh) (l:=x.f4) (fun j h1 h2 => HP.out j h1 (by omega) h2));clear hi HP HI;go_wp2
    go_ret
    exact ⟨by rw [HH.out];rfl,lK⟩
theorem AZ.f {x : bn} {A : Option Addr} {c : Nat} {w : World} (n : Int) (hge : n ≥ 0) (hq : (x.f4.length : Int) ≠ n) (hG : dG w) (hn : ND w x A c) : Calls Tryz.prog 51 #[val x A c,.int .i64 n] w (fB false w):=by
 have E:=Env.start hG hn;have g1 : decide (n ≥ 0) = true:=decide_eq_true hge;have g2 : decide (0 ≤ n) = true:=g1;have g3 : ((x.f4.length : Int) != n) = true:=bne_iff_ne.2 hq;have g4 : ((x.f4.length : Int) == n) = false:=beq_eq_false_iff_ne.2 hq;clear hn hG hge hq;go_enter Tryz.func51,Tryz.ntmps51
 go_wp2
 go_ret
 exact ⟨rfl,lK⟩
theorem AZ.all {x : bn} {A : Option Addr} {c : Nat} {w : World} (n : Int) (hk : ∀ y ∈ x.f4,Bz y) (hG : dG w) (hn : ND w x A c) : Calls Tryz.prog 51 #[val x A c,.int .i64 n] w (fB (exs n x jh) w):=by
 unfold exs;by_cases hge : n ≥ 0
 · rw [decide_eq_false (show ¬ n < 0 by omega),Bool.false_or];by_cases hq : (x.f4.length : Int) = n
   · rw [show ((x.f4.length : Int) == n) = true from beq_iff_eq.2 hq,Bool.true_and];exact AZ.p n hge hq hk hG hn
   · rw [show ((x.f4.length : Int) == n) = false from beq_eq_false_iff_ne.2 hq,Bool.false_and];exact AZ.f n hge hq hG hn
 · rw [decide_eq_true (show n < 0 by omega),Bool.true_or,Bool.true_and];exact AZ.n n hge hk hG hn
end Go.Proofs.YtboojhadfhpdeaaGreatDoor.Q
namespace Go.Proofs
open Go.Shelf
def Tryz.lays137_ren : Go.Shelf.Ren:=⟨fun | 137 => 136 | 217 => 131 | 266 => 138|n => n,fun | 9 => 9 | 5 => 5 | 3 => 3|n => n,fun|n => n⟩
theorem Tryz.lays137 : Go.Proofs.Lays.n137 Tryz.prog Tryz.lays137_ren:={
 mixed:=by kernel_rfl
 f137:=Tryz.func136.trans (congrArg some (by kernel_rfl))
 f217:=Tryz.func131.trans (congrArg some (by kernel_rfl))
 f266:=Tryz.func138.trans (congrArg some (by kernel_rfl))
 t3:=Tryz.underlying3
 a3:=Tryz.isAgg3
 z3:=Tryz.sizeOf3
 v3:=Tryz.zeroValue3
 t5:=Tryz.underlying5
 a5:=Tryz.isAgg5
 z5:=Tryz.sizeOf5
 v5:=Tryz.zeroValue5
 t9:=Tryz.underlying9
 a9:=Tryz.isAgg9
 z9:=Tryz.sizeOf9
 v9:=Tryz.zeroValue9 }
open Go.RowKit in
theorem Tryz.strings_IndexByte (s : ByteArray) (c : Int) (w : World) :
 Calls Tryz.prog 136 #[.string s,.int .u8 c] w fun e w' => e = .returned (.int .i64 (Lib.indexByte s.data.toList c.toNat.toUInt8)) ∧ w' = w:=Any.strings_IndexByte Tryz.lays137 s c w
end Go.Proofs
namespace Go.Proofs.YtboojhadfhpdeaaGreatDoor.Q
open Go.RowKit Go.Proofs.YtboojhadfhpdeaaGreatDoorW.PrintWords Go.Proofs.YtboojhadfhpdeaaGreatDoorW.PrintLast Go.Proofs.YtboojhadfhpdeaaGreatDoorW.PrintMore
def strings_IndexByte.f (a0 : ByteArray) (a1 : Int) : Option Int:=some (Lib.indexByte a0.data.toList a1.toNat.toUInt8)
theorem strings_IndexByte.calls (a0 : ByteArray) (a1 : Int) (r : Int) (w : World) (h : strings_IndexByte.f a0 a1 = some r) :
 Calls Tryz.prog 136 #[.string a0,.int .u8 a1] w fun e w' => e = .returned (.int .i64 r) ∧ bH w w' := by
 obtain rfl:=Option.some.inj h;refine (Tryz.strings_IndexByte a0 a1 w).mono ?_;rintro e w' ⟨rfl,rfl⟩;exact ⟨rfl,bH.refl _⟩
theorem info5 : (Tryz.prog.info? 5).map (fun i => (i.zero,i.size,i.bytes)) = some (some (.int .u8 0),1,1):=by kernel_rfl
end Go.Proofs.YtboojhadfhpdeaaGreatDoor.Q
