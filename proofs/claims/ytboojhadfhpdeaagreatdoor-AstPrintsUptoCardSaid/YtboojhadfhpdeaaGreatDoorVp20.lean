/- A part of the proof, made small by a program: S3, Rg, H9, J1, J2, J3, J4, J5, L1, L2, L3, L4, L5, L6, Fn, L7, L8, N1, N2, N3, P0. -/
import Derived.Test.YtboojhadfhpdeaaGreatDoorVp5
import Derived.Test.YtboojhadfhpdeaaGreatDoorVp13
import Derived.Test.YtboojhadfhpdeaaGreatDoorVp16
import Derived.Test.YtboojhadfhpdeaaGreatDoorVp18
import Derived.Test.YtboojhadfhpdeaaGreatDoorVp19
set_option linter.unusedVariables false
set_option linter.unusedSimpArgs false
set_option maxHeartbeats 8000000
set_option maxRecDepth 100000
namespace Go.Proofs.YtboojhadfhpdeaaGreatDoor.Q
open Go.RowKit Go.Proofs.YtboojhadfhpdeaaGreatDoorW.PrintWords Go.Proofs.YtboojhadfhpdeaaGreatDoorW.PrintLast Go.Proofs.YtboojhadfhpdeaaGreatDoorW.PrintMore
theorem Fit.len {x : ak} (h : Fit x) : x.f4.length ≤ 9223372036854775807:=by cases h;assumption
theorem Fit.kid {x y : ak} (h : Fit x) (hy : y ∈ x.f4) : Fit y:=by
 cases h with
 | mk _ _ hk => exact hk y hy
theorem KI (l : List ak) (i : Nat) : aj l (i : Int) = nd l i:=by simp [aj,nd]
theorem dI {x y : ak} (hy : y ∈ x.f4) : SizeOf.sizeOf y < SizeOf.sizeOf x:=by
 have h1:=List.sizeOf_lt_of_mem hy;have h2 : SizeOf.sizeOf x = 1 + SizeOf.sizeOf x.f0 + SizeOf.sizeOf x.f1 + SizeOf.sizeOf x.f2 + SizeOf.sizeOf x.f3 + SizeOf.sizeOf x.f4 + SizeOf.sizeOf x.f5:=by cases x;simp [ak.mk.sizeOf_spec]
 omega
theorem CJ {n : Nat} (h0 : 0 < n) (h : n ≤ 9223372036854775807) : wrap64 ((n : Int) - 1) = ((n - 1 : Nat) : Int):=by unfold wrap64;omega
def xP : Nat → ak → Bool
 | 0,_ => false
 | n + 1,x => if x.f0 = 49 then (if x.f4.length = 2 then true else if x.f4.length = 0 then false else xP n (nd x.f4 (x.f4.length - 1))) else if x.f0 = 50 ∨ x.f0 = 52 then (if x.f4.length = 0 then false else xP n (nd x.f4 (x.f4.length - 1))) else false
def xQ : Nat → ak → Bool
 | 0,_ => false
 | n + 1,x => if x.f0 = 49 then (if x.f4.length = 2 then true else if x.f4.length = 3 then xQ n (nd x.f4 2) else false) else if x.f0 = 50 ∨ x.f0 = 52 then (if x.f4.length = 0 then false else xQ n (nd x.f4 (x.f4.length - 1))) else false
theorem Ea {x : ak} (h : x.f4.length ≠ 0) : nd x.f4 (x.f4.length - 1) ∈ x.f4:=aQ (by omega)
theorem FM : ∀ (n : Nat) (x : ak),Fit x → SizeOf.sizeOf x < n → iV.f n x.f0 x.f1 x.f2 x.f3 x.f4 x.f5 = some (xP n x)
 | 0,x,_,h => absurd h (Nat.not_lt_zero _)
 | n + 1,x,hf,h => by
  have hl:=hf.len;have last (h0 : ¬ x.f4.length = 0) : (if (x.f4.length : Int) > 0 then (if 0 ≤ (wrap64 ((x.f4.length : Int) - 1)) then (if (wrap64 ((x.f4.length : Int) - 1)) < (x.f4.length : Int) then ((iV.f n ((aj x.f4 (wrap64 ((x.f4.length : Int) - 1))).f0) ((aj x.f4 (wrap64 ((x.f4.length : Int) - 1))).f1) ((aj x.f4 (wrap64 ((x.f4.length : Int) - 1))).f2) ((aj x.f4 (wrap64 ((x.f4.length : Int) - 1))).f3) ((aj x.f4 (wrap64 ((x.f4.length : Int) - 1))).f4) ((aj x.f4 (wrap64 ((x.f4.length : Int) - 1))).f5)).bind fun zC => (some zC)) else (none)) else (none)) else (some false)) = some (xP n (nd x.f4 (x.f4.length - 1))):=by
   have hk:=Ea h0;have hs:=dI hk;rw [CJ (by omega) hl,KI,if_pos (by omega),if_pos (by omega),if_pos (by omega),FM n _ (hf.kid hk) (by omega)];rfl
  have none_ (h0 : x.f4.length = 0) {a : Option Bool} : (if (x.f4.length : Int) > 0 then a else (some false)) = some false:=by rw [if_neg (by omega)]
  unfold iV.f xP;by_cases sD : x.f0 = 49
  · rw [if_pos sD,if_pos sD];by_cases h2 : x.f4.length = 2
    · rw [if_pos h2,if_pos (by omega)]
    · rw [if_neg h2,if_neg (by omega)];by_cases h0 : x.f4.length = 0
      · rw [if_pos h0,none_ h0]
      · rw [if_neg h0,last h0]
  · rw [if_neg sD,if_neg sD];by_cases h50 : x.f0 = 50
    · rw [if_pos h50,if_pos (Or.inl h50)];by_cases h0 : x.f4.length = 0
      · rw [if_pos h0,none_ h0]
      · rw [if_neg h0,last h0]
    · rw [if_neg h50];by_cases zN : x.f0 = 52
      · rw [if_pos zN,if_pos (Or.inr zN)];by_cases h0 : x.f4.length = 0
        · rw [if_pos h0,none_ h0]
        · rw [if_neg h0,last h0]
      · rw [if_neg zN,if_neg (by omega)]
theorem Ar : ∀ (n : Nat) (x : ak),Fit x → SizeOf.sizeOf x < n → dA.f n x.f0 x.f1 x.f2 x.f3 x.f4 x.f5 = some (xQ n x)
 | 0,x,_,h => absurd h (Nat.not_lt_zero _)
 | n + 1,x,hf,h => by
  have hl:=hf.len;have last (h0 : ¬ x.f4.length = 0) : (if (x.f4.length : Int) > 0 then (if 0 ≤ (wrap64 ((x.f4.length : Int) - 1)) then (if (wrap64 ((x.f4.length : Int) - 1)) < (x.f4.length : Int) then ((dA.f n ((aj x.f4 (wrap64 ((x.f4.length : Int) - 1))).f0) ((aj x.f4 (wrap64 ((x.f4.length : Int) - 1))).f1) ((aj x.f4 (wrap64 ((x.f4.length : Int) - 1))).f2) ((aj x.f4 (wrap64 ((x.f4.length : Int) - 1))).f3) ((aj x.f4 (wrap64 ((x.f4.length : Int) - 1))).f4) ((aj x.f4 (wrap64 ((x.f4.length : Int) - 1))).f5)).bind fun zC => (some zC)) else (none)) else (none)) else (some false)) = some (xQ n (nd x.f4 (x.f4.length - 1))):=by
   have hk:=Ea h0;have hs:=dI hk;rw [CJ (by omega) hl,KI,if_pos (by omega),if_pos (by omega),if_pos (by omega),Ar n _ (hf.kid hk) (by omega)];rfl
  have none_ (h0 : x.f4.length = 0) {a : Option Bool} : (if (x.f4.length : Int) > 0 then a else (some false)) = some false:=by rw [if_neg (by omega)]
  unfold dA.f xQ;by_cases sD : x.f0 = 49
  · rw [if_pos sD,if_pos sD];by_cases h2 : x.f4.length = 2
    · rw [if_pos h2,if_pos (by omega)]
    · rw [if_neg h2,if_neg (by omega)];by_cases h3 : x.f4.length = 3
      · have hk : nd x.f4 2 ∈ x.f4:=aQ (by omega);have hs:=dI hk;rw [if_pos h3,if_pos (by omega),if_pos (by omega),show aj x.f4 2 = nd x.f4 2 from KI _ 2,Ar n _ (hf.kid hk) (by omega)];rfl
      · rw [if_neg h3,if_neg (by omega)]
  · rw [if_neg sD,if_neg sD];by_cases h50 : x.f0 = 50
    · rw [if_pos h50,if_pos (Or.inl h50)];by_cases h0 : x.f4.length = 0
      · rw [if_pos h0,none_ h0]
      · rw [if_neg h0,last h0]
    · rw [if_neg h50];by_cases zN : x.f0 = 52
      · rw [if_pos zN,if_pos (Or.inr zN)];by_cases h0 : x.f4.length = 0
        · rw [if_pos h0,none_ h0]
        · rw [if_neg h0,last h0]
      · rw [if_neg zN,if_neg (by omega)]
noncomputable def FN (x : ak) : Bool:=xP (SizeOf.sizeOf x + 1) x
noncomputable def zq (x : ak) : Bool:=xQ (SizeOf.sizeOf x + 1) x
def Ic (x : ak) : Bool:=if x.f3 = true then !decide (x.f4.length = 0) && BD (nd x.f4 0) && (decide (x.f4.length = 1) || (decide (x.f4.length = 2) && (gQ (nd x.f4 1) || decide ((nd x.f4 1).f0 = 44)))) else decide (x.f4.length = 0) || (decide (x.f4.length = 1) && gQ (nd x.f4 0))
theorem var_ast (x : ak) : kV.f x.f0 x.f1 x.f2 x.f3 x.f4 x.f5 = some (Ic x):=by
 have r0 : aj x.f4 0 = nd x.f4 0:=KI _ 0;have r1 : aj (x.f4.drop 1) 0 = nd x.f4 1:=by simp [aj,nd]
 unfold kV.f Ic;rw [r0];by_cases h3 : x.f3 = true
 · rw [if_pos h3,if_pos h3];by_cases h0 : x.f4.length = 0
   · rw [if_pos (by omega),decide_eq_true h0];rfl
   · rw [if_neg (by omega),if_pos (by omega),isN_f,decide_eq_false h0,Option.bind_some];cases BD (nd x.f4 0) with
     | false => rfl
     | true =>
      rw [if_pos rfl,if_pos (by omega),Option.bind_some,r1,Jz];have hd : (x.f4.drop 1).length = x.f4.length - 1:=List.length_drop;by_cases h1 : x.f4.length = 1
      · rw [if_pos (by omega),decide_eq_true h1];rfl
      · rw [if_neg (by omega),decide_eq_false h1];by_cases h2 : x.f4.length = 2
        · rw [if_pos (by omega),if_pos (by omega),decide_eq_true h2,Option.bind_some];cases gQ (nd x.f4 1) with
          | true => rfl
          | false => rfl
        · rw [if_neg (by omega),decide_eq_false h2];rfl
 · rw [if_neg h3,if_neg h3];by_cases h0 : x.f4.length = 0
   · rw [if_pos (by omega),decide_eq_true h0];rfl
   · rw [if_neg (by omega),decide_eq_false h0];by_cases h1 : x.f4.length = 1
     · rw [if_pos (by omega),if_pos (by omega),Jz,decide_eq_true h1,Option.bind_some];cases gQ (nd x.f4 0) <;> rfl
     · rw [if_neg (by omega),decide_eq_false h1];rfl
section
variable {x : ak} {A : Option Addr} {c : Nat} {w : World}
theorem open.all (hn : ND w x A c) : Calls Tryz.prog 74 #[val x A c] w (bg (FN x) w) :=
 iV.calls _ _ _ _ _ A c _ _ _ w hn.C hn.le (FM _ x (Ap hn.C) (Nat.lt_succ_self _))
theorem variable.all (hn : ND w x A c) : Calls Tryz.prog 78 #[val x A c] w (bg (Ic x) w):=variable.of x _ (var_ast x) A c w hn
theorem shape.first (k : Int) (gp : List (FuncId × (ak → Bool))) (hg : ∀ z ∈ gp,Gen z) (xs : List ak) (A : Option Addr) (c : Nat) (w : World) (hC : Kd.C k25 w A xs.length xs) (q cap p : Nat) (h4 : gp.length ≤ 6)
 (hp : w.heap[p]? = some (.cells #[.int .i64 k] 3 (0,0)))
 (hq : w.heap[q]? = some (.cells (Value.func (.func 94) #[] #[.pointer (some ⟨p,0,none⟩)] :: gp.map fun z => Value.func (.func z.1) #[] #[]).toArray 29 (0,0))) :
 Calls Tryz.prog 67 #[.slice A xs.length c,.slice (some ⟨q,0,none⟩) (gp.length + 1) cap] w (bg (aU ((fun x => decide (x.f0 = k)) :: gp.map (·.2)) xs) w):=by
 have e:=shape.calls xs A c w hC q cap (Value.func (.func 94) #[] #[.pointer (some ⟨p,0,none⟩)] :: gp.map fun z => Value.func (.func z.1) #[] #[]) ((fun x => decide (x.f0 = k)) :: gp.map (·.2)) (by simp) (by simp;omega) hq (fun i f hf hi => by
  cases i with
  | zero =>
   obtain rfl:=Option.some.inj (show some _ = some f from hf);exact ⟨94,#[.pointer (some ⟨p,0,none⟩)],rfl,enters_of Tryz.func94 (by kernel_rfl) rfl,fun W A c hW hn => of1.all k p (o7 hp hW)⟩
  | succ i =>
   rw [List.getElem?_cons_succ,List.getElem?_map] at hf;cases hz : gp[i]? with
   | none => rw [hz] at hf;cases hf
   | some z =>
    rw [hz] at hf;obtain rfl:=Option.some.inj hf;obtain ⟨h1,h2⟩:=hg z (List.mem_of_getElem? hz);refine ⟨z.1,#[],rfl,h1,fun W A c _ hn => ?_⟩;rw [Array.append_empty];have e : yL ((fun x => decide (x.f0 = k)) :: gp.map (·.2)) (i + 1) = z.2:=by
     unfold yL;rw [List.getD_eq_getElem?_getD,List.getElem?_cons_succ,List.getElem?_map,hz];rfl
    rw [e];exact h2 hn)
 rwa [List.length_cons,List.length_map] at e
theorem shape.t (xs : List ak) (A : Option Addr) (c : Nat) (w : World) (hC : Kd.C k25 w A xs.length xs) (q cap p : Nat)
 (hp : w.heap[p]? = some (.cells #[.int .i64 16] 3 (0,0))) (hq : w.heap[q]? = some (.cells #[Value.func (.func 94) #[] #[.pointer (some ⟨p,0,none⟩)]] 29 (0,0))) :
 Calls Tryz.prog 67 #[.slice A xs.length c,.slice (some ⟨q,0,none⟩) 1 cap] w (bg (aU [fun x => decide (x.f0 = 16)] xs) w):=shape.first 16 [] (fun z hz => by cases hz) xs A c w hC q cap p (by decide) hp hq
theorem shape.te (xs : List ak) (A : Option Addr) (c : Nat) (w : World) (hC : Kd.C k25 w A xs.length xs) (q cap p : Nat)
 (hp : w.heap[p]? = some (.cells #[.int .i64 16] 3 (0,0))) (hq : w.heap[q]? = some (.cells #[Value.func (.func 94) #[] #[.pointer (some ⟨p,0,none⟩)],Value.func (.func 40) #[] #[]] 29 (0,0))) :
 Calls Tryz.prog 67 #[.slice A xs.length c,.slice (some ⟨q,0,none⟩) 2 cap] w (bg (aU [fun x => decide (x.f0 = 16),gQ] xs) w):=shape.first 16 gE FD xs A c w hC q cap p (by decide) hp hq
end
section
variable {ops : Array Oper} {T : Bool × List (List Nat × List Nat)} {Q : Exit → Act → World → Prop} {S : World → Prop} {oi : Oper} {v : Value} {fuel : Nat} {l : Array Bool} {a a' : Act} {w : World}
theorem rp (i : Nat) (N : Tmp) (HT : Ad (iC .any ops = T)) (hi : ops[i]? = some oi:=by rfl) (hN : oi.dst = some N:=by rfl) (hc : anyT T l.toList (l.setIfInBounds i true).toList i = true:=by kernel_rfl)
 (hQ : ∀ c a w,Q (.panic c) (a.put oi.dst v) w → Q (.panic c) a w:=by exact fun _ _ _ h => h) (hw : Region.wanted oi (yielded ops a.tmps) = true:=by rfl)
 (hy : ∀ w,(execOp a.eval oi).run Tryz.prog w = .ok (.value v) w:=by (intro w';go_simp;with_reducible rfl))
 (ha : a.put (some N) v = a' := by (simp only [Act.put,List.setIfInBounds_toArray,List.set_cons_zero,List.set_cons_succ,bY];rfl))
 (h : pI Tryz.prog .any ops Q S [] fuel (l.setIfInBounds i true) a' w) : pI Tryz.prog .any ops Q S [] (fuel + 1) l a w:=jP _ hi hN (iR HT.out hc) hQ (Or.inl ⟨hw,hy⟩) ha h
theorem ro (i : Nat) (N : Tmp) (HT : Ad (iC .any ops = T)) (hi : ops[i]? = some oi:=by rfl) (hN : oi.dst = some N:=by rfl) (hc : anyT T l.toList (l.setIfInBounds i true).toList i = true:=by kernel_rfl)
 (hQ : ∀ c a w,Q (.panic c) (a.put oi.dst undef) w → Q (.panic c) a w:=by exact fun _ _ _ h => h) (hw : Region.wanted oi (yielded ops a.tmps) = false:=by rfl)
 (ha : a.put (some N) undef = a' := by (simp only [Act.put,List.setIfInBounds_toArray,List.set_cons_zero,List.set_cons_succ,bY];rfl))
 (h : pI Tryz.prog .any ops Q S [] fuel (l.setIfInBounds i true) a' w) : pI Tryz.prog .any ops Q S [] (fuel + 1) l a w:=jP _ hi hN (iR HT.out hc) hQ (Or.inr ⟨hw,rfl⟩) ha h
theorem rt (i : Nat) (N : Tmp) (HT : Ad (iC .any ops = T)) (hS : S w) (hi : ops[i]? = some oi:=by rfl) (hN : oi.dst = some N:=by rfl) (hc : BN T [] l.toList (l.setIfInBounds i true).toList i = true:=by kernel_rfl)
 (hQ : ∀ c a w,Q (.panic c) (a.put oi.dst v) w → Q (.panic c) a w:=by exact fun _ _ _ h => h) (hw : Region.wanted oi (yielded ops a.tmps) = true:=by rfl)
 (hy : ∀ w,S w → (execOp a.eval oi).run Tryz.prog w = .ok (.value v) w:=by (intro w' s0_;obtain ⟨s0,s1,s2⟩:=s0_;go_simp;with_reducible rfl))
 (ha : a.put (some N) v = a' := by (simp only [Act.put,List.setIfInBounds_toArray,List.set_cons_zero,List.set_cons_succ,bY];rfl))
 (h : pI Tryz.prog .any ops Q S [] fuel (l.setIfInBounds i true) a' w) : pI Tryz.prog .any ops Q S [] (fuel + 1) l a w:=sS _ hi hN (zH HT.out hc) hQ (Or.inl ⟨hw,hy⟩) hS ha h
theorem rc (i : Nat) (N : Tmp) (HT : Ad (iC .any ops = T)) (hi : ops[i]? = some oi:=by rfl) (hN : oi.dst = some N:=by rfl) (hc : (vk T.2 l.toList == [i] && l.toList.set i true == (l.setIfInBounds i true).toList) = true:=by kernel_rfl)
 (h : ∀ K : Act → World → Prop,Shut (∀ a' w',S w' → (S w' → pI Tryz.prog .any ops Q S [] fuel (l.setIfInBounds i true) a' w') → K a' w') → if Region.wanted oi (yielded ops a.tmps) = true then Oper.wp Tryz.prog oi a w K Q else K (a.put (some N) undef) w) :
 pI Tryz.prog .any ops Q S [] (fuel + 1) l a w:=Dv _ hi hN (qZ HT.out hc) (by simp) h
theorem rn (h : pI Tryz.prog .any ops Q S [] fuel l a' w) (ha : a = a' := by (simp only [Act.put,List.setIfInBounds_toArray,List.set_cons_zero,List.set_cons_succ,bY];rfl)) : pI Tryz.prog .any ops Q S [] fuel l a w:=wI ha h
theorem wu {n : Nat} (HT : Ad (iC .any ops = T)) (h : Q .normal a w) (hc : (vk T.2 l.toList == []) = true:=by kernel_rfl) : pI Tryz.prog .any ops Q S [] n l a w:=ES (Z83 HT.out hc) h
end
def e14 (x : ak) : Bool:=(x.f1.toList == ([] : List UInt8)) && (x.f2 == 0) && aU [fun x => decide (x.f0 = 16),gQ] x.f4
theorem cast.a {x : ak} {A : Option Addr} {c : Nat} {w : World} (hk : x.f0 = 14) (h0 : (x.f1.toList == ([] : List UInt8)) = false) (hG : aH w) (hn : ND w x A c) : Calls Tryz.prog 41 #[val x A c] w (bg (e14 x) w):=by
 have b1:=Yf hk 1 rfl
 have b2:=Yf hk 2 rfl
 have b3:=Yf hk 3 rfl
 have b4:=Yf hk 4 rfl
 have b5:=Yf hk 5 rfl
 have b6:=Yf hk 6 rfl
 have b7:=Yf hk 7 rfl
 have b8:=Yf hk 8 rfl
 have b9:=Yf hk 9 rfl
 have b10:=Yf hk 10 rfl
 have b11:=Yf hk 11 rfl
 have b12:=Yf hk 12 rfl
 have b13:=Yf hk 13 rfl
 have b14:=Yt hk 14 rfl
 have e0 : (x.f1.toList == ([] : List UInt8)) = false:=h0;have e1 : (x.f1.toList != ([] : List UInt8)) = true:=by rw [bne,h0];rfl
 have HH:=Am (show e14 x = false from by unfold e14;rw [h0];rfl);clear h0;have E:=Env.start hG hn;clear hk hn hG;go_enter Tryz.func41,Tryz.ntmps41
 go_wp2
 replace E:=Am (E.out.step (W1:=(w.alloc (.cells #[.int .i64 x.f0,.string x.f1,.int .u32 x.f2,.bool x.f3,.slice A x.f4.length c,.int .i64 x.f5] 25 (0,0))).drew) (Z6 (Below.refl _ _)));refine gy (n:=9) (S:=fun w' => w'.cell? ⟨w.heap.size,4,none⟩ = some (.slice A x.f4.length c) ∧ True ∧ True) (ds:=[]) (Array.replicate 9 false) (by kernel_rfl) rfl rfl ⟨E.out.cells.2.2.2.2.1,trivial,trivial⟩ (fun hHeld => ?_);refine eu (T:=iC .any (opsOf Tryz.f41 29)) (by kernel_rfl) (fun aG => ?_);generalize (w.alloc (.cells #[.int .i64 x.f0,.string x.f1,.int .u32 x.f2,.bool x.f3,.slice A x.f4.length c,.int .i64 x.f5] 25 (0,0))).drew = w7 at E hHeld ⊢;refine rp 0 203 aG (h:=?_);refine rp 1 204 aG (h:=?_);refine ro 2 205 aG (h:=?_);refine ro 3 206 aG (h:=?_);refine ro 4 207 aG (h:=?_);refine ro 5 208 aG (h:=?_);refine ro 6 209 aG (h:=?_);refine rp 7 210 aG (h:=?_);refine rp 8 2 aG (h:=?_);refine wu aG ?_;try go_wp2
 go_ret
 exact ⟨by rw [HH.out];rfl,E.out.b⟩
theorem cast.b {x : ak} {A : Option Addr} {c : Nat} {w : World} (hk : x.f0 = 14) (h0 : (x.f1.toList == ([] : List UInt8)) = true) (h1 : (x.f2 == 0) = false) (hG : aH w) (hn : ND w x A c) : Calls Tryz.prog 41 #[val x A c] w (bg (e14 x) w):=by
 have b1:=Yf hk 1 rfl
 have b2:=Yf hk 2 rfl
 have b3:=Yf hk 3 rfl
 have b4:=Yf hk 4 rfl
 have b5:=Yf hk 5 rfl
 have b6:=Yf hk 6 rfl
 have b7:=Yf hk 7 rfl
 have b8:=Yf hk 8 rfl
 have b9:=Yf hk 9 rfl
 have b10:=Yf hk 10 rfl
 have b11:=Yf hk 11 rfl
 have b12:=Yf hk 12 rfl
 have b13:=Yf hk 13 rfl
 have b14:=Yt hk 14 rfl
 have e0 : (x.f1.toList == ([] : List UInt8)) = true:=h0;have e1 : (x.f1.toList != ([] : List UInt8)) = false:=by rw [bne,h0];rfl
 have e2 : (x.f2 == 0) = false:=h1;have HH:=Am (show e14 x = false from by unfold e14;rw [h0,h1];rfl);clear h0 h1;have E:=Env.start hG hn;clear hk hn hG;go_enter Tryz.func41,Tryz.ntmps41
 go_wp2
 replace E:=Am (E.out.step (W1:=(w.alloc (.cells #[.int .i64 x.f0,.string x.f1,.int .u32 x.f2,.bool x.f3,.slice A x.f4.length c,.int .i64 x.f5] 25 (0,0))).drew) (Z6 (Below.refl _ _)));refine gy (n:=9) (S:=fun w' => w'.cell? ⟨w.heap.size,4,none⟩ = some (.slice A x.f4.length c) ∧ True ∧ True) (ds:=[]) (Array.replicate 9 false) (by kernel_rfl) rfl rfl ⟨E.out.cells.2.2.2.2.1,trivial,trivial⟩ (fun hHeld => ?_);refine eu (T:=iC .any (opsOf Tryz.f41 29)) (by kernel_rfl) (fun aG => ?_);generalize (w.alloc (.cells #[.int .i64 x.f0,.string x.f1,.int .u32 x.f2,.bool x.f3,.slice A x.f4.length c,.int .i64 x.f5] 25 (0,0))).drew = w7 at E hHeld ⊢;refine rp 0 203 aG (h:=?_);refine rp 1 204 aG (h:=?_);refine ro 2 205 aG (h:=?_);refine ro 3 206 aG (h:=?_);refine ro 4 207 aG (h:=?_);refine ro 5 208 aG (h:=?_);refine ro 6 209 aG (h:=?_);refine rp 7 210 aG (h:=?_);refine rp 8 2 aG (h:=?_);refine wu aG ?_;try go_wp2
 go_ret
 exact ⟨by rw [HH.out];rfl,E.out.b⟩
theorem cast.c {x : ak} {A : Option Addr} {c : Nat} {w : World} (hk : x.f0 = 14) (h0 : (x.f1.toList == ([] : List UInt8)) = true) (h1 : (x.f2 == 0) = true) (hG : aH w) (hn : ND w x A c) : Calls Tryz.prog 41 #[val x A c] w (bg (e14 x) w):=by
 have b1:=Yf hk 1 rfl
 have b2:=Yf hk 2 rfl
 have b3:=Yf hk 3 rfl
 have b4:=Yf hk 4 rfl
 have b5:=Yf hk 5 rfl
 have b6:=Yf hk 6 rfl
 have b7:=Yf hk 7 rfl
 have b8:=Yf hk 8 rfl
 have b9:=Yf hk 9 rfl
 have b10:=Yf hk 10 rfl
 have b11:=Yf hk 11 rfl
 have b12:=Yf hk 12 rfl
 have b13:=Yf hk 13 rfl
 have b14:=Yt hk 14 rfl
 have e0 : (x.f1.toList == ([] : List UInt8)) = true:=h0;have e1 : (x.f1.toList != ([] : List UInt8)) = false:=by rw [bne,h0];rfl
 have e2 : (x.f2 == 0) = true:=h1;have HH:=Am (show e14 x = aU [fun x => decide (x.f0 = 16),gQ] x.f4 from by unfold e14;rw [h0,h1];rfl);clear h0 h1;have E:=Env.start hG hn;clear hk hn hG;go_enter Tryz.func41,Tryz.ntmps41
 go_wp2
 replace E:=Am (E.out.step (W1:=(w.alloc (.cells #[.int .i64 x.f0,.string x.f1,.int .u32 x.f2,.bool x.f3,.slice A x.f4.length c,.int .i64 x.f5] 25 (0,0))).drew) (Z6 (Below.refl _ _)));refine gy (n:=9) (S:=fun w' => w'.cell? ⟨w.heap.size,4,none⟩ = some (.slice A x.f4.length c) ∧ True ∧ True) (ds:=[]) (Array.replicate 9 false) (by kernel_rfl) rfl rfl ⟨E.out.cells.2.2.2.2.1,trivial,trivial⟩ (fun hHeld => ?_);refine eu (T:=iC .any (opsOf Tryz.f41 29)) (by kernel_rfl) (fun aG => ?_);generalize (w.alloc (.cells #[.int .i64 x.f0,.string x.f1,.int .u32 x.f2,.bool x.f3,.slice A x.f4.length c,.int .i64 x.f5] 25 (0,0))).drew = w7 at E hHeld ⊢;refine rp 0 203 aG (h:=?_);refine rp 1 204 aG (h:=?_);refine rp 2 205 aG (h:=?_);refine rt 3 206 aG hHeld (h:=?_);refine rc 4 207 aG (h:=fun K hK => ?_);refine jQ Tryz.func70 (by kernel_rfl) rfl #[.int .i64 16] (by rfl) rfl rfl (by (try simp only [List.map_toArray,List.map_cons,List.map_nil]);first|done|rfl) ((of.all 16 _).mono ?_);rintro e w8 ⟨q,rfl,hq,hB⟩;refine ⟨_,rfl,?_⟩;have HQ:=Am hq;clear hq;replace E:=Am (E.out.step hB);clear hB;refine hK.out _ _ ⟨E.out.cells.2.2.2.2.1,trivial,trivial⟩ (fun hHeld => rn ?_);clear hK K;refine rc 5 208 aG (h:=fun K hK => ?_);go_simp;replace HQ:=Am (o7 HQ.out (Z7 (Below.refl _ _) (.cells #[Value.func (.func 94) #[] #[.pointer (some ⟨q,0,none⟩)],Value.func (.func 40) #[] #[]] 29 (0,0))));have HF:=Am (cO w8 (.cells #[Value.func (.func 94) #[] #[.pointer (some ⟨q,0,none⟩)],Value.func (.func 40) #[] #[]] 29 (0,0)));replace E:=Am (E.out.alloc (.cells #[Value.func (.func 94) #[] #[.pointer (some ⟨q,0,none⟩)],Value.func (.func 40) #[] #[]] 29 (0,0)));refine hK.out _ _ ⟨E.out.cells.2.2.2.2.1,trivial,trivial⟩ (fun hHeld => ?_);clear hK K;refine rc 6 209 aG (h:=fun K hK => ?_);refine jQ Tryz.func67 (by kernel_rfl) rfl #[.slice A x.f4.length c,.slice (some ⟨w8.heap.size,0,none⟩) 2 2] (by rfl) rfl rfl (by (try simp only [List.map_toArray,List.map_cons,List.map_nil]);first|done|rfl) ((shape.te x.f4 A c _ E.out.kids _ _ q HQ.out HF.out).mono ?_);rintro e w9 ⟨rfl,hB⟩;refine ⟨_,rfl,?_⟩;replace E:=Am (E.out.step hB);clear hB;refine hK.out _ _ ⟨E.out.cells.2.2.2.2.1,trivial,trivial⟩ (fun hHeld => rn ?_);clear hK K;refine rp 7 210 aG (h:=?_);refine rp 8 2 aG (h:=?_);refine wu aG ?_;try go_wp2
 go_ret
 exact ⟨by rw [HH.out];rfl,E.out.b⟩
theorem expressions.k14 {x : ak} {A : Option Addr} {c : Nat} {w : World} (hk : x.f0 = 14) (hG : aH w) (hn : ND w x A c) : Calls Tryz.prog 41 #[val x A c] w (bg (e14 x) w):=by
 cases h0 : (x.f1.toList == ([] : List UInt8)) with
 | false => exact cast.a hk h0 hG hn
 | true =>
  cases h1 : (x.f2 == 0) with
  | false => exact cast.b hk h0 h1 hG hn
  | true => exact cast.c hk h0 h1 hG hn
def s47 (x : ak) : Bool:=((x.f1.toList == ([] : List UInt8)) && (x.f2 == 0) && (x.f4.all (fun x => isS x || decide (x.f0 = 42))))
theorem statements.n47 {x : ak} {A : Option Addr} {c : Nat} {w : World} (hk : x.f0 = 47) (hG : aH w) (hn : ND w x A c) : Calls Tryz.prog 43 #[val x A c] w (bg (s47 x) w):=by
 have E:=Env.start hG hn;clear hn hG;have nZ:=Yt hk 47 rfl
 have HK:=Am hk;clear hk;cases h0 : (x.f1.toList == ([] : List UInt8));rotate_left 1;cases h1 : (x.f2 == 0);rotate_right 1
 rotate_left 2;cases h2 : (x.f4.all (fun x => isS x || decide (x.f0 = 42)));rotate_right 2
 all_goals
  try have iU : (x.f1.toList != ([] : List UInt8)) = false:=by rw [bne,h0];rfl
  try have iU : (x.f1.toList != ([] : List UInt8)) = true:=by rw [bne,h0];rfl
  try have iL : (x.f2 != 0) = false:=by rw [bne,h1];rfl
  try have iL : (x.f2 != 0) = true:=by rw [bne,h1];rfl
  try (have HC2:=Am h2;clear h2)
  go_enter Tryz.func43,Tryz.ntmps43
  go_wp2_with (first
   | (go_at_call 33;(try clear c0 c1 c2 c3 c4 c5);(with_reducible refine Env.call E E.out HC2.out (every.calls x.f4 A c _ E.out.kids 73 #[] (fun x => isS x || decide (x.f0 = 42)) (enters_of Tryz.func73 (by kernel_rfl) rfl) (oK FB.all)) (fun w1 E c0 c1 c2 c3 c4 c5 => ?_)))
   | fail)
  go_ret
  exact ⟨by unfold s47;(try rw [h0]);(try rw [h1]);(try rw [HC2.out]);first|done|rfl,dS⟩
def s48 (x : ak) : Bool:=((x.f1.toList == ([] : List UInt8)) && (x.f2 == 0) && (aU (gE.map (·.2)) x.f4))
theorem statements.n48 {x : ak} {A : Option Addr} {c : Nat} {w : World} (hk : x.f0 = 48) (hG : aH w) (hn : ND w x A c) : Calls Tryz.prog 43 #[val x A c] w (bg (s48 x) w):=by
 have E:=Env.start hG hn;clear hn hG;have nZ:=Yf hk 47 rfl
 have rH:=Yt hk 48 rfl
 have HK:=Am hk;clear hk;cases h0 : (x.f1.toList == ([] : List UInt8));rotate_left 1;cases h1 : (x.f2 == 0);rotate_right 1
 rotate_left 2;cases h2 : (aU (gE.map (·.2)) x.f4);rotate_right 2
 all_goals
  try have iU : (x.f1.toList != ([] : List UInt8)) = false:=by rw [bne,h0];rfl
  try have iU : (x.f1.toList != ([] : List UInt8)) = true:=by rw [bne,h0];rfl
  try have iL : (x.f2 != 0) = false:=by rw [bne,h1];rfl
  try have iL : (x.f2 != 0) = true:=by rw [bne,h1];rfl
  try (have HC2:=Am h2;clear h2)
  have tk2 : True:=trivial;go_enter Tryz.func43,Tryz.ntmps43
  go_wp2_with (first
   | (go_at_call 67;have t_:=tk2;clear t_ tk2;(try clear c0 c1 c2 c3 c4 c5);(refine Env.call E (E.out.alloc _) HC2.out (shape.at 1 gE rfl FD x.f4 A c _ (E.out.alloc _).kids _ _ (by decide) (by first|exact cO _ _|exact iw _ _ _)) (fun w1 E c0 c1 c2 c3 c4 c5 => ?_)))
   | fail)
  go_ret
  exact ⟨by unfold s48;(try rw [h0]);(try rw [h1]);(try rw [HC2.out]);first|done|rfl,dS⟩
def s50 (x : ak) : Bool:=((x.f1.toList == ([] : List UInt8)) && (x.f2 == 0) && (aU (gES.map (·.2)) x.f4))
theorem statements.n50 {x : ak} {A : Option Addr} {c : Nat} {w : World} (hk : x.f0 = 50) (hG : aH w) (hn : ND w x A c) : Calls Tryz.prog 43 #[val x A c] w (bg (s50 x) w):=by
 have E:=Env.start hG hn;clear hn hG;have nZ:=Yf hk 47 rfl
 have rH:=Yf hk 48 rfl
 have oM:=Yf hk 49 rfl
 have oW:=Yt hk 50 rfl
 have HK:=Am hk;clear hk;cases h0 : (x.f1.toList == ([] : List UInt8));rotate_left 1;cases h1 : (x.f2 == 0);rotate_right 1
 rotate_left 2;cases h2 : (aU (gES.map (·.2)) x.f4);rotate_right 2
 all_goals
  try have iU : (x.f1.toList != ([] : List UInt8)) = false:=by rw [bne,h0];rfl
  try have iU : (x.f1.toList != ([] : List UInt8)) = true:=by rw [bne,h0];rfl
  try have iL : (x.f2 != 0) = false:=by rw [bne,h1];rfl
  try have iL : (x.f2 != 0) = true:=by rw [bne,h1];rfl
  try (have HC2:=Am h2;clear h2)
  have tk2 : True:=trivial;go_enter Tryz.func43,Tryz.ntmps43
  go_wp2_with (first
   | (go_at_call 67;have t_:=tk2;clear t_ tk2;(try clear c0 c1 c2 c3 c4 c5);(refine Env.call E (E.out.alloc _) HC2.out (shape.at 2 gES rfl ok_gES x.f4 A c _ (E.out.alloc _).kids _ _ (by decide) (by first|exact cO _ _|exact iw _ _ _)) (fun w1 E c0 c1 c2 c3 c4 c5 => ?_)))
   | fail)
  go_ret
  exact ⟨by unfold s50;(try rw [h0]);(try rw [h1]);(try rw [HC2.out]);first|done|rfl,dS⟩
def s51 (x : ak) : Bool:=((x.f1.toList == ([] : List UInt8)) && (x.f2 == 0) && (aU (gSE.map (·.2)) x.f4))
theorem statements.n51 {x : ak} {A : Option Addr} {c : Nat} {w : World} (hk : x.f0 = 51) (hG : aH w) (hn : ND w x A c) : Calls Tryz.prog 43 #[val x A c] w (bg (s51 x) w):=by
 have E:=Env.start hG hn;clear hn hG;have nZ:=Yf hk 47 rfl
 have rH:=Yf hk 48 rfl
 have oM:=Yf hk 49 rfl
 have oW:=Yf hk 50 rfl
 have pz:=Yt hk 51 rfl
 have HK:=Am hk;clear hk;cases h0 : (x.f1.toList == ([] : List UInt8));rotate_left 1;cases h1 : (x.f2 == 0);rotate_right 1
 rotate_left 2;cases h2 : (aU (gSE.map (·.2)) x.f4);rotate_right 2
 all_goals
  try have iU : (x.f1.toList != ([] : List UInt8)) = false:=by rw [bne,h0];rfl
  try have iU : (x.f1.toList != ([] : List UInt8)) = true:=by rw [bne,h0];rfl
  try have iL : (x.f2 != 0) = false:=by rw [bne,h1];rfl
  try have iL : (x.f2 != 0) = true:=by rw [bne,h1];rfl
  try (have HC2:=Am h2;clear h2)
  have tk2 : True:=trivial;go_enter Tryz.func43,Tryz.ntmps43
  go_wp2_with (first
   | (go_at_call 67;have t_:=tk2;clear t_ tk2;(try clear c0 c1 c2 c3 c4 c5);(refine Env.call E (E.out.alloc _) HC2.out (shape.at 2 gSE rfl ok_gSE x.f4 A c _ (E.out.alloc _).kids _ _ (by decide) (by first|exact cO _ _|exact iw _ _ _)) (fun w1 E c0 c1 c2 c3 c4 c5 => ?_)))
   | fail)
  go_ret
  exact ⟨by unfold s51;(try rw [h0]);(try rw [h1]);(try rw [HC2.out]);first|done|rfl,dS⟩
def s52 (x : ak) : Bool:=((x.f1.toList == ([] : List UInt8)) && (x.f2 == 0) && (aU (Ai.map (·.2)) x.f4))
theorem statements.n52 {x : ak} {A : Option Addr} {c : Nat} {w : World} (hk : x.f0 = 52) (hG : aH w) (hn : ND w x A c) : Calls Tryz.prog 43 #[val x A c] w (bg (s52 x) w):=by
 have E:=Env.start hG hn;clear hn hG;have nZ:=Yf hk 47 rfl
 have rH:=Yf hk 48 rfl
 have oM:=Yf hk 49 rfl
 have oW:=Yf hk 50 rfl
 have pz:=Yf hk 51 rfl
 have qj:=Yt hk 52 rfl
 have HK:=Am hk;clear hk;cases h0 : (x.f1.toList == ([] : List UInt8));rotate_left 1;cases h1 : (x.f2 == 0);rotate_right 1
 rotate_left 2;cases h2 : (aU (Ai.map (·.2)) x.f4);rotate_right 2
 all_goals
  try have iU : (x.f1.toList != ([] : List UInt8)) = false:=by rw [bne,h0];rfl
  try have iU : (x.f1.toList != ([] : List UInt8)) = true:=by rw [bne,h0];rfl
  try have iL : (x.f2 != 0) = false:=by rw [bne,h1];rfl
  try have iL : (x.f2 != 0) = true:=by rw [bne,h1];rfl
  try (have HC2:=Am h2;clear h2)
  have tk2 : True:=trivial;go_enter Tryz.func43,Tryz.ntmps43
  go_wp2_with (first
   | (go_at_call 67;have t_:=tk2;clear t_ tk2;(try clear c0 c1 c2 c3 c4 c5);(refine Env.call E (E.out.alloc _) HC2.out (shape.at 4 Ai rfl ok_gNNNS x.f4 A c _ (E.out.alloc _).kids _ _ (by decide) (by first|exact cO _ _|exact iw _ _ _)) (fun w1 E c0 c1 c2 c3 c4 c5 => ?_)))
   | fail)
  go_ret
  exact ⟨by unfold s52;(try rw [h0]);(try rw [h1]);(try rw [HC2.out]);first|done|rfl,dS⟩
theorem CO {gp : List (FuncId × (ak → Bool))} {l : List ak} (h : aU (gp.map (·.2)) l = true) : l.length = gp.length:=by
 unfold aU at h;rw [Bool.and_eq_true,decide_eq_true_eq,List.length_map] at h;exact h.1
theorem node_at1 {w : World} {A : Option Addr} {n : Nat} {xs : List ak} (h : Kd.C k25 w A n xs) (hi : 1 < n) :
 ∃ ad A' c',A = some ad ∧ ND w (nd xs 1) A' c' ∧ w.cell? ⟨ad.block,ad.off + 6,none⟩ = some (.int .i64 (nd xs 1).f0) ∧ w.cell? ⟨ad.block,ad.off + 6 + 1,none⟩ = some (.string (nd xs 1).f1) ∧ w.cell? ⟨ad.block,ad.off + 6 + 2,none⟩ = some (.int .u32 (nd xs 1).f2) ∧ w.cell? ⟨ad.block,ad.off + 6 + 3,none⟩ = some (.bool (nd xs 1).f3) ∧ w.cell? ⟨ad.block,ad.off + 6 + 4,none⟩ = some (.slice A' (nd xs 1).f4.length c') ∧ w.cell? ⟨ad.block,ad.off + 6 + 5,none⟩ = some (.int .i64 (nd xs 1).f5):=by
 obtain ⟨ad,A',c',e,hn,k0,k1,k2,k3,k4,k5⟩:=fG h 1 hi;exact ⟨ad,A',c',e,hn,k0,k1,k2,k3,k4,k5⟩
noncomputable def s49 (x : ak) : Bool:=((x.f1.toList == ([] : List UInt8)) && (x.f2 == 0) && ((aU (gES.map (·.2)) x.f4) || ((aU (FH.map (·.2)) x.f4) && (!(FN (nd x.f4 1))))))
theorem statements.n49 {x : ak} {A : Option Addr} {c : Nat} {w : World} (hk : x.f0 = 49) (hG : aH w) (hn : ND w x A c) : Calls Tryz.prog 43 #[val x A c] w (bg (s49 x) w):=by
 have E:=Env.start hG hn;clear hn hG;have nZ:=Yf hk 47 rfl
 have rH:=Yf hk 48 rfl
 have oM:=Yt hk 49 rfl
 have HK:=Am hk;clear hk;cases h0 : (x.f1.toList == ([] : List UInt8));rotate_left 1;cases h1 : (x.f2 == 0);rotate_right 1
 rotate_left 2;cases h2 : (aU (gES.map (·.2)) x.f4);rotate_right 2
 rotate_left 2;cases h3 : (aU (FH.map (·.2)) x.f4);rotate_right 2
 rotate_left 3;cases h4 : (FN (nd x.f4 1));rotate_right 3
 all_goals
  try have iU : (x.f1.toList != ([] : List UInt8)) = false:=by rw [bne,h0];rfl
  try have iU : (x.f1.toList != ([] : List UInt8)) = true:=by rw [bne,h0];rfl
  try have iL : (x.f2 != 0) = false:=by rw [bne,h1];rfl
  try have iL : (x.f2 != 0) = true:=by rw [bne,h1];rfl
  try (have HC2:=Am h2;clear h2)
  have tk2 : True:=trivial;try (have kR:=Am h3;clear h3)
  have tk3 : True:=trivial;try (have Eb:=Am h4;clear h4)
  go_enter Tryz.func43,Tryz.ntmps43
  go_wp2_with (first
   | (go_at_call 67;have t_:=tk2;clear t_ tk2;(try clear c0 c1 c2 c3 c4 c5);(refine Env.call E (E.out.alloc _) HC2.out (shape.at 2 gES rfl ok_gES x.f4 A c _ (E.out.alloc _).kids _ _ (by decide) (by first|exact cO _ _|exact iw _ _ _)) (fun w1 E c0 c1 c2 c3 c4 c5 => ?_)))
   | (go_at_call 67;have t_:=tk3;clear t_ tk3;(try clear c0 c1 c2 c3 c4 c5);(refine Env.call E (E.out.alloc _) kR.out (shape.at 3 FH rfl ok_gESS x.f4 A c _ (E.out.alloc _).kids _ _ (by decide) (by first|exact cO _ _|exact iw _ _ _)) (fun w1 E c0 c1 c2 c3 c4 c5 => ?_));(try (obtain ⟨ad,A1,c1_,rfl,hnd,k0,k1,k2,k3,k4,k5⟩:=node_at1 E.out.kids (by rw [CO kR.out];decide);have uM:=Am hnd;clear hnd;have q1 : (1 : Int) < (x.f4.length : Int):=by (rw [CO kR.out];decide))))
   | (go_at_call 74;(try clear c0 c1 c2 c3 c4 c5);(with_reducible refine Env.call E E.out Eb.out (open.all uM.out) (fun w1 E c0 c1 c2 c3 c4 c5 => ?_)))
   | fail)
  go_ret
  exact ⟨by unfold s49;(try rw [h0]);(try rw [h1]);(try rw [HC2.out]);(try rw [kR.out]);(try rw [Eb.out]);first|done|rfl,dS⟩
def s55 (x : ak) : Bool:=((x.f1.toList == ([] : List UInt8)) && (x.f2 == 0) && ((decide ((x.f4.length : Int) ≤ 1)) && (x.f4.all gQ)))
theorem statements.n55 {x : ak} {A : Option Addr} {c : Nat} {w : World} (hk : x.f0 = 55) (hG : aH w) (hn : ND w x A c) : Calls Tryz.prog 43 #[val x A c] w (bg (s55 x) w):=by
 have E:=Env.start hG hn;clear hn hG;have nZ:=Yf hk 47 rfl
 have rH:=Yf hk 48 rfl
 have oM:=Yf hk 49 rfl
 have oW:=Yf hk 50 rfl
 have pz:=Yf hk 51 rfl
 have qj:=Yf hk 52 rfl
 have uF:=Yt hk 55 rfl
 have HK:=Am hk;clear hk;cases h0 : (x.f1.toList == ([] : List UInt8));rotate_left 1;cases h1 : (x.f2 == 0);rotate_right 1
 rotate_left 2;cases h2 : (decide ((x.f4.length : Int) ≤ 1));rotate_right 2
 rotate_left 3;cases h3 : (x.f4.all gQ);rotate_right 3
 all_goals
  try have iU : (x.f1.toList != ([] : List UInt8)) = false:=by rw [bne,h0];rfl
  try have iU : (x.f1.toList != ([] : List UInt8)) = true:=by rw [bne,h0];rfl
  try have iL : (x.f2 != 0) = false:=by rw [bne,h1];rfl
  try have iL : (x.f2 != 0) = true:=by rw [bne,h1];rfl
  try (have kR:=Am h3;clear h3)
  go_enter Tryz.func43,Tryz.ntmps43
  go_wp2_with (first
   | (go_at_call 33;(try clear c0 c1 c2 c3 c4 c5);(with_reducible refine Env.call E E.out kR.out (every.calls x.f4 A c _ E.out.kids 40 #[] gQ (enters_of Tryz.func40 (by kernel_rfl) rfl) (oK expression.all)) (fun w1 E c0 c1 c2 c3 c4 c5 => ?_)))
   | fail)
  go_ret
  exact ⟨by unfold s55;(try rw [h0]);(try rw [h1]);(try rw [h2]);(try rw [kR.out]);first|done|rfl,dS⟩
def s0 (x : ak) : Bool:=((x.f1.toList == ([] : List UInt8)) && (x.f2 == 0) && ((x.f4.length : Int) == 0))
theorem statements.n0 {x : ak} {A : Option Addr} {c : Nat} {w : World} (h47 : x.f0 ≠ 47) (h48 : x.f0 ≠ 48) (sD : x.f0 ≠ 49) (h50 : x.f0 ≠ 50) (EI : x.f0 ≠ 51) (zN : x.f0 ≠ 52) (EJ : x.f0 ≠ 55) (hG : aH w) (hn : ND w x A c) : Calls Tryz.prog 43 #[val x A c] w (bg (s0 x) w):=by
 have E:=Env.start hG hn;clear hn hG;have nZ : (x.f0 == 47) = false:=beq_eq_false_iff_ne.2 h47;have rH : (x.f0 == 48) = false:=beq_eq_false_iff_ne.2 h48;have oM : (x.f0 == 49) = false:=beq_eq_false_iff_ne.2 sD;have oW : (x.f0 == 50) = false:=beq_eq_false_iff_ne.2 h50;have pz : (x.f0 == 51) = false:=beq_eq_false_iff_ne.2 EI;have qj : (x.f0 == 52) = false:=beq_eq_false_iff_ne.2 zN;have uF : (x.f0 == 55) = false:=beq_eq_false_iff_ne.2 EJ;clear h47 h48 sD h50 EI zN EJ;cases h0 : (x.f1.toList == ([] : List UInt8));rotate_left 1;cases h1 : (x.f2 == 0);rotate_right 1
 rotate_left 2;cases h2 : ((x.f4.length : Int) == 0);rotate_right 2
 all_goals
  try have iU : (x.f1.toList != ([] : List UInt8)) = false:=by rw [bne,h0];rfl
  try have iU : (x.f1.toList != ([] : List UInt8)) = true:=by rw [bne,h0];rfl
  try have iL : (x.f2 != 0) = false:=by rw [bne,h1];rfl
  try have iL : (x.f2 != 0) = true:=by rw [bne,h1];rfl
  go_enter Tryz.func43,Tryz.ntmps43
  go_wp2
  go_ret
  exact ⟨by unfold s0;(try rw [h0]);(try rw [h1]);(try rw [h2]);first|done|rfl,dS⟩
def d40 (x : ak) : Bool:=((x.f1.toList == ([] : List UInt8)) && (x.f2 == 0) && (x.f4.all (fun x => decide (x.f0 = 41) || decide (x.f0 = 42) || decide (x.f0 = 45))))
theorem declarations.n40 {x : ak} {A : Option Addr} {c : Nat} {w : World} (hk : x.f0 = 40) (hs : gY x.f1) (hG : aH w) (hn : ND w x A c) : Calls Tryz.prog 44 #[val x A c] w (bg (d40 x) w):=by
 have E:=Env.start hG hn;clear hn hG;have b40:=Yt hk 40 rfl
 have HK:=Am hk;clear hk;have HS:=Am hs;clear hs;cases h0 : (jD x.f1);cases h1 : (x.f1.toList == ([] : List UInt8));rotate_left 1;cases h2 : (x.f2 == 0);rotate_right 1
 rotate_left 2;cases h3 : (x.f4.all (fun x => decide (x.f0 = 41) || decide (x.f0 = 42) || decide (x.f0 = 45)));rotate_right 2
 rotate_left 4;cases h1 : (x.f1.toList == ([] : List UInt8));rotate_right 4
 rotate_left 5;cases h2 : (x.f2 == 0);rotate_right 5
 rotate_left 6;cases h3 : (x.f4.all (fun x => decide (x.f0 = 41) || decide (x.f0 = 42) || decide (x.f0 = 45)));rotate_right 6
 all_goals
  try (have fF:=Am h0;clear h0)
  try have iL : (x.f1.toList != ([] : List UInt8)) = false:=by rw [bne,h1];rfl
  try have iL : (x.f1.toList != ([] : List UInt8)) = true:=by rw [bne,h1];rfl
  try have h2m0 : (x.f2 != 0) = false:=by rw [bne,h2];rfl
  try have h2m0 : (x.f2 != 0) = true:=by rw [bne,h2];rfl
  try (have kR:=Am h3;clear h3)
  go_enter Tryz.func44,Tryz.ntmps44
  go_wp2_with (first
   | (go_at_call 66;(try clear c0 c1 c2 c3 c4 c5);(with_reducible refine Env.call E E.out fF.out (name.all HS.out E.out.bH) (fun w1 E c0 c1 c2 c3 c4 c5 => ?_)))
   | (go_at_call 33;(try clear c0 c1 c2 c3 c4 c5);(with_reducible refine Env.call E E.out kR.out (every.calls x.f4 A c _ E.out.kids 76 #[] (fun x => decide (x.f0 = 41) || decide (x.f0 = 42) || decide (x.f0 = 45)) (enters_of Tryz.func76 (by kernel_rfl) rfl) (oK BF.all)) (fun w1 E c0 c1 c2 c3 c4 c5 => ?_)))
   | fail)
  go_ret
  exact ⟨by unfold d40;(try rw [h1]);(try rw [h2]);(try rw [kR.out]);first|done|rfl,dS⟩
def d41 (x : ak) : Bool:=((jD x.f1) && (x.f2 == 0) && (x.f4.all su))
theorem declarations.n41 {x : ak} {A : Option Addr} {c : Nat} {w : World} (hk : x.f0 = 41) (hs : gY x.f1) (hG : aH w) (hn : ND w x A c) : Calls Tryz.prog 44 #[val x A c] w (bg (d41 x) w):=by
 have E:=Env.start hG hn;clear hn hG;have b40:=Yf hk 40 rfl
 have qW:=Yt hk 41 rfl
 have HK:=Am hk;clear hk;have HS:=Am hs;clear hs;cases h0 : (jD x.f1);rotate_left 1;cases h1 : (x.f2 == 0);rotate_right 1
 rotate_left 2;cases h2 : (x.f4.all su);rotate_right 2
 all_goals
  try (have fF:=Am h0;clear h0)
  try have iL : (x.f2 != 0) = false:=by rw [bne,h1];rfl
  try have iL : (x.f2 != 0) = true:=by rw [bne,h1];rfl
  try (have HC2:=Am h2;clear h2)
  go_enter Tryz.func44,Tryz.ntmps44
  go_wp2_with (first
   | (go_at_call 66;(try clear c0 c1 c2 c3 c4 c5);(with_reducible refine Env.call E E.out fF.out (name.all HS.out E.out.bH) (fun w1 E c0 c1 c2 c3 c4 c5 => ?_)))
   | (go_at_call 33;(try clear c0 c1 c2 c3 c4 c5);(with_reducible refine Env.call E E.out HC2.out (every.calls x.f4 A c _ E.out.kids 77 #[] su (enters_of Tryz.func77 (by kernel_rfl) rfl) (oK bare.all)) (fun w1 E c0 c1 c2 c3 c4 c5 => ?_)))
   | fail)
  go_ret
  exact ⟨by unfold d41;(try rw [fF.out]);(try rw [h1]);(try rw [HC2.out]);first|done|rfl,dS⟩
def d43 (x : ak) : Bool:=((jD x.f1) && (x.f2 == 0) && (Ic x))
theorem declarations.n43 {x : ak} {A : Option Addr} {c : Nat} {w : World} (hk : x.f0 = 43) (hs : gY x.f1) (hG : aH w) (hn : ND w x A c) : Calls Tryz.prog 44 #[val x A c] w (bg (d43 x) w):=by
 have E:=Env.start hG hn;clear hn hG;have b40:=Yf hk 40 rfl
 have qW:=Yf hk 41 rfl
 have rJ:=Yf hk 42 rfl
 have b43:=Yt hk 43 rfl
 have HK:=Am hk;clear hk;have HS:=Am hs;clear hs;cases h0 : (jD x.f1);rotate_left 1;cases h1 : (x.f2 == 0);rotate_right 1
 rotate_left 2;cases h2 : (Ic x);rotate_right 2
 all_goals
  try (have fF:=Am h0;clear h0)
  try have iL : (x.f2 != 0) = false:=by rw [bne,h1];rfl
  try have iL : (x.f2 != 0) = true:=by rw [bne,h1];rfl
  try (have HC2:=Am h2;clear h2)
  go_enter Tryz.func44,Tryz.ntmps44
  go_wp2_with (first
   | (go_at_call 66;(try clear c0 c1 c2 c3 c4 c5);(with_reducible refine Env.call E E.out fF.out (name.all HS.out E.out.bH) (fun w1 E c0 c1 c2 c3 c4 c5 => ?_)))
   | (go_at_call 78;(try clear c0 c1 c2 c3 c4 c5);(with_reducible refine Env.call E E.out HC2.out (variable.all E.out.nd) (fun w1 E c0 c1 c2 c3 c4 c5 => ?_)))
   | fail)
  go_ret
  exact ⟨by unfold d43;(try rw [fF.out]);(try rw [h1]);(try rw [HC2.out]);first|done|rfl,dS⟩
def d44 (x : ak) : Bool:=((x.f1.toList == ([] : List UInt8)) && (x.f2 == 0) && (decide ((x.f4.length : Int) > 0)) && (x.f4.all gQ))
theorem declarations.n44 {x : ak} {A : Option Addr} {c : Nat} {w : World} (hk : x.f0 = 44) (hs : gY x.f1) (hG : aH w) (hn : ND w x A c) : Calls Tryz.prog 44 #[val x A c] w (bg (d44 x) w):=by
 have E:=Env.start hG hn;clear hn hG;have b40:=Yf hk 40 rfl
 have qW:=Yf hk 41 rfl
 have rJ:=Yf hk 42 rfl
 have b43:=Yf hk 43 rfl
 have MG:=Yt hk 44 rfl
 have HK:=Am hk;clear hk;have HS:=Am hs;clear hs;cases h0 : (jD x.f1);cases h1 : (x.f1.toList == ([] : List UInt8));rotate_left 1;cases h2 : (x.f2 == 0);rotate_right 1
 rotate_left 2;cases h3 : (decide ((x.f4.length : Int) > 0));rotate_right 2
 rotate_left 3;cases h4 : (x.f4.all gQ);rotate_right 3
 rotate_left 5;cases h1 : (x.f1.toList == ([] : List UInt8));rotate_right 5
 rotate_left 6;cases h2 : (x.f2 == 0);rotate_right 6
 rotate_left 7;cases h3 : (decide ((x.f4.length : Int) > 0));rotate_right 7
 rotate_left 8;cases h4 : (x.f4.all gQ);rotate_right 8
 all_goals
  try (have fF:=Am h0;clear h0)
  try have iL : (x.f1.toList != ([] : List UInt8)) = false:=by rw [bne,h1];rfl
  try have iL : (x.f1.toList != ([] : List UInt8)) = true:=by rw [bne,h1];rfl
  try have h2m0 : (x.f2 != 0) = false:=by rw [bne,h2];rfl
  try have h2m0 : (x.f2 != 0) = true:=by rw [bne,h2];rfl
  try have h3m0 : decide (0 < (x.f4.length : Int)) = true:=h3
  try have h3m0 : decide (0 < (x.f4.length : Int)) = false:=h3
  try have h3m1 : decide (0 < x.f4.length) = true:=by rw [← h3];simp
  try have h3m1 : decide (0 < x.f4.length) = false:=by rw [← h3];simp
  try (have Eb:=Am h4;clear h4)
  go_enter Tryz.func44,Tryz.ntmps44
  go_wp2_with (first
   | (go_at_call 66;(try clear c0 c1 c2 c3 c4 c5);(with_reducible refine Env.call E E.out fF.out (name.all HS.out E.out.bH) (fun w1 E c0 c1 c2 c3 c4 c5 => ?_)))
   | (go_at_call 33;(try clear c0 c1 c2 c3 c4 c5);(with_reducible refine Env.call E E.out Eb.out (every.calls x.f4 A c _ E.out.kids 40 #[] gQ (enters_of Tryz.func40 (by kernel_rfl) rfl) (oK expression.all)) (fun w1 E c0 c1 c2 c3 c4 c5 => ?_)))
   | fail)
  go_ret
  exact ⟨by unfold d44;(try rw [h1]);(try rw [h2]);(try rw [h3]);(try rw [Eb.out]);first|done|rfl,dS⟩
def d46 (x : ak) : Bool:=((jD x.f1) && (decide (x.f2 ≤ 1)) && (!((x.f3) && (x.f2 == 1))) && (aU [fun x => decide (x.f0 = 16)] x.f4))
theorem declarations.n46 {x : ak} {A : Option Addr} {c : Nat} {w : World} (hk : x.f0 = 46) (hs : gY x.f1) (hG : aH w) (hn : ND w x A c) : Calls Tryz.prog 44 #[val x A c] w (bg (d46 x) w):=by
 have E:=Env.start hG hn;clear hn hG;have b40:=Yf hk 40 rfl
 have qW:=Yf hk 41 rfl
 have rJ:=Yf hk 42 rfl
 have b43:=Yf hk 43 rfl
 have MG:=Yf hk 44 rfl
 have uV:=Yf hk 45 rfl
 have b46:=Yt hk 46 rfl
 have HK:=Am hk;clear hk;have HS:=Am hs;clear hs;cases h0 : (jD x.f1);rotate_left 1;cases h1 : (decide (x.f2 ≤ 1));rotate_right 1
 rotate_left 2;cases h2 : (x.f3);rotate_right 2
 rotate_left 2;cases h5 : (aU [fun x => decide (x.f0 = 16)] x.f4);rotate_right 2
 rotate_left 4;cases h3 : (x.f2 == 1);rotate_right 4
 rotate_left 4;cases h5 : (aU [fun x => decide (x.f0 = 16)] x.f4);rotate_right 4
 all_goals
  try (have fF:=Am h0;clear h0)
  try (have HC2:=Am h2;clear h2)
  try (have yw:=Am h5;clear h5)
  have tk5 : True:=trivial;go_enter Tryz.func44,Tryz.ntmps44
  go_wp2_with (first
   | (go_at_call 66;(try clear c0 c1 c2 c3 c4 c5);(with_reducible refine Env.call E E.out fF.out (name.all HS.out E.out.bH) (fun w1 E c0 c1 c2 c3 c4 c5 => ?_));(try have h2:=HC2.out))
   | (go_at_call 70;(try clear c0 c1 c2 c3 c4 c5);(with_reducible refine (of.all _ _).mono ?_);rintro e w1 ⟨q,rfl,hq,hB⟩;replace E:=Am (E.out.step hB);clear hB;obtain ⟨c0,c1,c2,c3,c4,c5⟩:=E.out.cells;have HQ:=Am hq;clear hq)
   | (go_at_call 67;have t_:=tk5;clear t_ tk5;(try clear c0 c1 c2 c3 c4 c5);(refine Env.call E (E.out.alloc _) yw.out (shape.t x.f4 A c _ (E.out.alloc _).kids _ _ q (o7 HQ.out (Z7 (Below.refl _ _) _)) (by first|exact cO _ _|exact iw _ _ _)) (fun w1 E c0 c1 c2 c3 c4 c5 => ?_)))
   | fail)
  go_ret
  exact ⟨by unfold d46;(try rw [fF.out]);(try rw [h1]);(try rw [HC2.out]);(try rw [h3]);(try rw [yw.out]);first|done|rfl,dS⟩
def d0 (x : ak) : Bool:=false
theorem declarations.n0 {x : ak} {A : Option Addr} {c : Nat} {w : World} (EK : x.f0 ≠ 40) (EL : x.f0 ≠ 41) (h42 : x.f0 ≠ 42) (h43 : x.f0 ≠ 43) (tV : x.f0 ≠ 44) (h45 : x.f0 ≠ 45) (h46 : x.f0 ≠ 46) (hs : gY x.f1) (hG : aH w) (hn : ND w x A c) : Calls Tryz.prog 44 #[val x A c] w (bg (d0 x) w):=by
 have E:=Env.start hG hn;clear hn hG;have b40 : (x.f0 == 40) = false:=beq_eq_false_iff_ne.2 EK;have qW : (x.f0 == 41) = false:=beq_eq_false_iff_ne.2 EL;have rJ : (x.f0 == 42) = false:=beq_eq_false_iff_ne.2 h42;have b43 : (x.f0 == 43) = false:=beq_eq_false_iff_ne.2 h43;have MG : (x.f0 == 44) = false:=beq_eq_false_iff_ne.2 tV;have uV : (x.f0 == 45) = false:=beq_eq_false_iff_ne.2 h45;have b46 : (x.f0 == 46) = false:=beq_eq_false_iff_ne.2 h46;clear EK EL h42 h43 tV h45 h46;have HS:=Am hs;clear hs;cases h0 : (jD x.f1);all_goals
  try (have fF:=Am h0;clear h0)
  go_enter Tryz.func44,Tryz.ntmps44
  go_wp2_with (first
   | (go_at_call 66;(try clear c0 c1 c2 c3 c4 c5);(with_reducible refine Env.call E E.out fF.out (name.all HS.out E.out.bH) (fun w1 E c0 c1 c2 c3 c4 c5 => ?_)))
   | fail)
  go_ret
  exact ⟨by unfold d0;first|done|rfl,dS⟩
theorem of1.any {xs : List ak} (k : Int) (q : Nat) (w : World) (hq : w.heap[q]? = some (.cells #[.int .i64 k] 3 (0,0))) : Asks 94 #[.pointer (some ⟨q,0,none⟩)] (fun x => decide (x.f0 = k)) xs w :=
 fun x _ W A c hW _ => of1.all k q (o7 hq hW)
theorem every.at (n : Nat) (xs : List ak) (e : xs.length = n) (A : Option Addr) (c : Nat) (w : World) (hC : Kd.C k25 w A xs.length xs) (g : FuncId) (caps : Array Value) (p : ak → Bool) (hent : Enters Tryz.prog g) (h : Asks g caps p xs w) :
 Calls Tryz.prog 33 #[.slice A n c,.func (.func g) #[] caps] w (bg (xs.all p) w):=by
 subst e;exact every.calls xs A c w hC g caps p hent h
def rM (l : List ak) : Bool:=decide (2 ≤ l.length) && decide ((nd l 0).f0 = 16) && decide ((nd l (l.length - 1)).f0 = 47) && ((l.take (l.length - 1)).tail).all (fun x => decide (x.f0 = 46))
theorem function.e (xs : List ak) (A : Option Addr) (c : Nat) (w : World) (hC : Kd.C k25 w A xs.length xs) (hle : xs.length ≤ c) (h2 : 2 ≤ xs.length) (h16 : (nd xs 0).f0 = 16) (h47 : (nd xs (xs.length - 1)).f0 = 47) : Calls Tryz.prog 79 #[.slice A xs.length c] w (bg (rM xs) w):=by
 have hmax:=hC.2.1;obtain ⟨m,hm⟩ : ∃ m,m + 1 = xs.length:=⟨xs.length - 1,by omega⟩
 have hw : IntKind.i64.wrap ((xs.length : Int) - 1) = (m : Int):=(bY _).trans (by unfold wrap64;omega);have hw2 : wrap64 ((xs.length : Int) - 1) = (m : Int):=by unfold wrap64;omega
 obtain ⟨ad,A1,c1,rfl,_,k0,_⟩:=fG hC 0 (by omega);rw [Nat.zero_mul,kG] at k0;obtain ⟨ad2,A2,c2,e2,_,c0,_⟩:=fG hC m (by omega);obtain rfl:=Option.some.inj e2;clear e2;have p1 : (0 : Int) ≤ (m : Int):=by omega
 have q1 : (m : Int) < (xs.length : Int):=by omega
 have q0 : 0 < xs.length:=by omega
 have e1 : decide ((m : Int) ≥ 1) = true:=decide_eq_true (by omega);have e1b : decide (1 ≤ (m : Int)) = true:=decide_eq_true (by omega);have e1c : (1 : Int) ≤ (m : Int):=by omega
 have hcc : ¬ c = 1:=by omega
 have q2 : m ≤ c:=by omega
 have jY:=Am (show ((xs.take m).tail).length = m - 1 from by rw [List.length_tail,List.length_take];omega);have HS:=Am (show Kd.C k25 w (some ⟨ad.block,ad.off + 6,none⟩) ((xs.take m).tail).length ((xs.take m).tail) from by
  have h1:=Kd.C_mid (lo:=1) (hi:=m) hC (by omega) (by omega) hle;rw [if_neg hcc,List.drop_one] at h1;exact h1)
 have t16 : ((nd xs 0).f0 == 16) = true:=by rw [h16];rfl
 have t47 : ((nd xs m).f0 == 47) = true:=by rw [show m = xs.length - 1 by omega,h47];rfl
 have HH:=Am (show rM xs = ((xs.take m).tail).all (fun x => decide (x.f0 = 46)) from by unfold rM;rw [decide_eq_true h2,decide_eq_true h16,decide_eq_true h47,show xs.length - 1 = m by omega];rfl);clear h2 h16 h47;have HM:=Am hm;have HX:=Am hC;have HL:=Am hle;clear hm hC hle hmax;go_enter Tryz.func79,Tryz.ntmps79
 go_wp2
 have HB:=Am (Z6 (Below.refl w.heap.size w));refine gy (n:=25) (S:=fun w' => w'.cell? ad = some (.int .i64 (nd xs 0).f0) ∧ w'.cell? (ad.add (m * 6)) = some (.int .i64 (nd xs m).f0) ∧ True) (ds:=[]) (Array.replicate 25 false) (by kernel_rfl) rfl rfl ⟨kC HB.out k0,kC HB.out c0,trivial⟩ (fun hHeld => ?_);refine eu (T:=iC .any (opsOf Tryz.f79 2)) (by kernel_rfl) (fun aG => ?_);generalize w.drew = w7 at HB hHeld ⊢;refine rp 0 7 aG (h:=?_);refine rp 1 8 aG (h:=?_);refine rp 2 9 aG (h:=?_);refine rp 3 10 aG (h:=?_);refine rp 4 11 aG (h:=?_);refine rp 5 12 aG (h:=?_);refine rt 6 13 aG hHeld (h:=?_);refine rp 7 14 aG (h:=?_);refine rp 8 15 aG (h:=?_);refine rp 9 16 aG (h:=?_);refine rp 10 17 aG (h:=?_);refine rp 11 18 aG (h:=?_);refine rp 12 19 aG (h:=?_);refine rp 13 20 aG (h:=?_);refine rt 14 21 aG hHeld (h:=?_);refine rp 15 22 aG (h:=?_);refine rp 16 23 aG (h:=?_);refine rp 17 24 aG (h:=?_);refine rp 18 25 aG (h:=?_);refine rp 19 26 aG (h:=?_);refine rp 20 27 aG (h:=?_);refine rc 21 28 aG (h:=fun K hK => ?_);refine jQ Tryz.func70 (by kernel_rfl) rfl #[.int .i64 46] (by rfl) rfl rfl (by (try simp only [List.map_toArray,List.map_cons,List.map_nil]);first|done|rfl) ((of.all 46 _).mono ?_);rintro e w8 ⟨q,rfl,hq,hB⟩;refine ⟨_,rfl,?_⟩;have HQ:=Am hq;replace HB:=Am (Z25 HB.out hB);clear hB hq;refine hK.out _ _ ⟨kC HB.out k0,kC HB.out c0,trivial⟩ (fun hHeld => rn ?_);clear hK K;refine rc 22 29 aG (h:=fun K hK => ?_);refine jQ Tryz.func33 (by kernel_rfl) rfl #[.slice (some ⟨ad.block,ad.off + 6,none⟩) (m - 1) (c - 1),.func (.func 94) #[] #[.pointer (some ⟨q,0,none⟩)]] (by rfl) rfl rfl (by (try simp only [List.map_toArray,List.map_cons,List.map_nil]);first|done|rfl) ((every.at (m - 1) ((xs.take m).tail) jY.out (some ⟨ad.block,ad.off + 6,none⟩) _ _ (Kd.dV HS.out HB.out) 94 #[.pointer (some ⟨q,0,none⟩)] (fun x => decide (x.f0 = 46)) (enters_of Tryz.func94 (by kernel_rfl) rfl) (of1.any 46 q _ HQ.out)).mono ?_);rintro e w9 ⟨rfl,hB⟩;refine ⟨_,rfl,?_⟩;replace HB:=Am (Z25 HB.out hB);clear hB;refine hK.out _ _ ⟨kC HB.out k0,kC HB.out c0,trivial⟩ (fun hHeld => rn ?_);clear hK K;refine rp 23 30 aG (h:=?_);refine rp 24 2 aG (h:=?_);refine wu aG ?_;try go_wp2
 go_ret
 exact ⟨by rw [HH.out];rfl,HB.out⟩
theorem function.d (xs : List ak) (A : Option Addr) (c : Nat) (w : World) (hC : Kd.C k25 w A xs.length xs) (hle : xs.length ≤ c) (h2 : 2 ≤ xs.length) (h16 : (nd xs 0).f0 = 16) (h47 : (nd xs (xs.length - 1)).f0 ≠ 47) : Calls Tryz.prog 79 #[.slice A xs.length c] w (bg (rM xs) w):=by
 have hmax:=hC.2.1;obtain ⟨m,hm⟩ : ∃ m,m + 1 = xs.length:=⟨xs.length - 1,by omega⟩
 have hw : IntKind.i64.wrap ((xs.length : Int) - 1) = (m : Int):=(bY _).trans (by unfold wrap64;omega);have hw2 : wrap64 ((xs.length : Int) - 1) = (m : Int):=by unfold wrap64;omega
 obtain ⟨ad,A1,c1,rfl,_,k0,_⟩:=fG hC 0 (by omega);rw [Nat.zero_mul,kG] at k0;obtain ⟨ad2,A2,c2,e2,_,c0,_⟩:=fG hC m (by omega);obtain rfl:=Option.some.inj e2;clear e2;have p1 : (0 : Int) ≤ (m : Int):=by omega
 have q1 : (m : Int) < (xs.length : Int):=by omega
 have q0 : 0 < xs.length:=by omega
 have e1 : decide ((m : Int) ≥ 1) = true:=decide_eq_true (by omega);have e1b : decide (1 ≤ (m : Int)) = true:=decide_eq_true (by omega);have e1c : (1 : Int) ≤ (m : Int):=by omega
 have t16 : ((nd xs 0).f0 == 16) = true:=by rw [h16];rfl
 have t47 : ((nd xs m).f0 == 47) = false:=by rw [show m = xs.length - 1 by omega];exact beq_eq_false_iff_ne.2 h47
 have HH:=Am (show rM xs = false from by unfold rM;rw [decide_eq_false h47,Bool.and_false];rfl);clear h2 h16 h47;have HM:=Am hm;have HX:=Am hC;have HL:=Am hle;clear hm hC hle hmax;go_enter Tryz.func79,Tryz.ntmps79
 go_wp2
 have HB:=Am (Z6 (Below.refl w.heap.size w));refine gy (n:=25) (S:=fun w' => w'.cell? ad = some (.int .i64 (nd xs 0).f0) ∧ w'.cell? (ad.add (m * 6)) = some (.int .i64 (nd xs m).f0) ∧ True) (ds:=[]) (Array.replicate 25 false) (by kernel_rfl) rfl rfl ⟨kC HB.out k0,kC HB.out c0,trivial⟩ (fun hHeld => ?_);refine eu (T:=iC .any (opsOf Tryz.f79 2)) (by kernel_rfl) (fun aG => ?_);generalize w.drew = w7 at HB hHeld ⊢;refine rp 0 7 aG (h:=?_);refine rp 1 8 aG (h:=?_);refine rp 2 9 aG (h:=?_);refine rp 3 10 aG (h:=?_);refine rp 4 11 aG (h:=?_);refine rp 5 12 aG (h:=?_);refine rt 6 13 aG hHeld (h:=?_);refine rp 7 14 aG (h:=?_);refine rp 8 15 aG (h:=?_);refine rp 9 16 aG (h:=?_);refine rp 10 17 aG (h:=?_);refine rp 11 18 aG (h:=?_);refine rp 12 19 aG (h:=?_);refine rp 13 20 aG (h:=?_);refine rt 14 21 aG hHeld (h:=?_);refine rp 15 22 aG (h:=?_);refine rp 16 23 aG (h:=?_);refine rp 17 24 aG (h:=?_);refine ro 18 25 aG (h:=?_);refine ro 19 26 aG (h:=?_);refine ro 20 27 aG (h:=?_);refine ro 21 28 aG (h:=?_);refine ro 22 29 aG (h:=?_);refine rp 23 30 aG (h:=?_);refine rp 24 2 aG (h:=?_);refine wu aG ?_;try go_wp2
 go_ret
 exact ⟨by rw [HH.out];rfl,HB.out⟩
theorem function.c (xs : List ak) (A : Option Addr) (c : Nat) (w : World) (hC : Kd.C k25 w A xs.length xs) (hle : xs.length ≤ c) (h2 : 2 ≤ xs.length) (h16 : (nd xs 0).f0 ≠ 16) : Calls Tryz.prog 79 #[.slice A xs.length c] w (bg (rM xs) w):=by
 have hmax:=hC.2.1;obtain ⟨m,hm⟩ : ∃ m,m + 1 = xs.length:=⟨xs.length - 1,by omega⟩
 have hw : IntKind.i64.wrap ((xs.length : Int) - 1) = (m : Int):=(bY _).trans (by unfold wrap64;omega);have hw2 : wrap64 ((xs.length : Int) - 1) = (m : Int):=by unfold wrap64;omega
 obtain ⟨ad,A1,c1,rfl,_,k0,_⟩:=fG hC 0 (by omega);rw [Nat.zero_mul,kG] at k0;obtain ⟨ad2,A2,c2,e2,_,c0,_⟩:=fG hC m (by omega);obtain rfl:=Option.some.inj e2;clear e2;have p1 : (0 : Int) ≤ (m : Int):=by omega
 have q1 : (m : Int) < (xs.length : Int):=by omega
 have q0 : 0 < xs.length:=by omega
 have e1 : decide ((m : Int) ≥ 1) = true:=decide_eq_true (by omega);have e1b : decide (1 ≤ (m : Int)) = true:=decide_eq_true (by omega);have e1c : (1 : Int) ≤ (m : Int):=by omega
 have t16 : ((nd xs 0).f0 == 16) = false:=beq_eq_false_iff_ne.2 h16;have HH:=Am (show rM xs = false from by unfold rM;rw [decide_eq_false h16,Bool.and_false];rfl);clear h2 h16;have HM:=Am hm;have HX:=Am hC;have HL:=Am hle;clear hm hC hle hmax;go_enter Tryz.func79,Tryz.ntmps79
 go_wp2
 have HB:=Am (Z6 (Below.refl w.heap.size w));refine gy (n:=25) (S:=fun w' => w'.cell? ad = some (.int .i64 (nd xs 0).f0) ∧ w'.cell? (ad.add (m * 6)) = some (.int .i64 (nd xs m).f0) ∧ True) (ds:=[]) (Array.replicate 25 false) (by kernel_rfl) rfl rfl ⟨kC HB.out k0,kC HB.out c0,trivial⟩ (fun hHeld => ?_);refine eu (T:=iC .any (opsOf Tryz.f79 2)) (by kernel_rfl) (fun aG => ?_);generalize w.drew = w7 at HB hHeld ⊢;refine rp 0 7 aG (h:=?_);refine rp 1 8 aG (h:=?_);refine rp 2 9 aG (h:=?_);refine rp 3 10 aG (h:=?_);refine rp 4 11 aG (h:=?_);refine rp 5 12 aG (h:=?_);refine rt 6 13 aG hHeld (h:=?_);refine rp 7 14 aG (h:=?_);refine rp 8 15 aG (h:=?_);refine rp 9 16 aG (h:=?_);refine ro 10 17 aG (h:=?_);refine ro 11 18 aG (h:=?_);refine ro 12 19 aG (h:=?_);refine ro 13 20 aG (h:=?_);refine ro 14 21 aG (h:=?_);refine ro 15 22 aG (h:=?_);refine rp 16 23 aG (h:=?_);refine rp 17 24 aG (h:=?_);refine ro 18 25 aG (h:=?_);refine ro 19 26 aG (h:=?_);refine ro 20 27 aG (h:=?_);refine ro 21 28 aG (h:=?_);refine ro 22 29 aG (h:=?_);refine rp 23 30 aG (h:=?_);refine rp 24 2 aG (h:=?_);refine wu aG ?_;try go_wp2
 go_ret
 exact ⟨by rw [HH.out];rfl,HB.out⟩
theorem function.b (xs : List ak) (A : Option Addr) (c : Nat) (w : World) (hC : Kd.C k25 w A xs.length xs) (hle : xs.length ≤ c) (h1 : xs.length = 1) : Calls Tryz.prog 79 #[.slice A xs.length c] w (bg (rM xs) w):=by
 have hw : IntKind.i64.wrap ((xs.length : Int) - 1) = 0:=by rw [h1];rfl
 have hw2 : wrap64 ((xs.length : Int) - 1) = 0:=by unfold wrap64;omega
 have HH:=Am (show rM xs = false from by unfold rM;rw [h1];rfl);clear h1 hC hle;go_enter Tryz.func79,Tryz.ntmps79
 go_wp2
 have HB:=Am (Z6 (Below.refl w.heap.size w));refine gy (n:=25) (S:=fun _ => True) (ds:=[]) (Array.replicate 25 false) (by kernel_rfl) rfl rfl trivial (fun hHeld => ?_);refine eu (T:=iC .any (opsOf Tryz.f79 2)) (by kernel_rfl) (fun aG => ?_);generalize w.drew = w7 at HB hHeld ⊢;refine rp 0 7 aG (h:=?_);refine rp 1 8 aG (h:=?_);refine rp 2 9 aG (h:=?_);refine ro 3 10 aG (h:=?_);refine ro 4 11 aG (h:=?_);refine ro 5 12 aG (h:=?_);refine ro 6 13 aG (h:=?_);refine ro 7 14 aG (h:=?_);refine rp 8 15 aG (h:=?_);refine rp 9 16 aG (h:=?_);refine ro 10 17 aG (h:=?_);refine ro 11 18 aG (h:=?_);refine ro 12 19 aG (h:=?_);refine ro 13 20 aG (h:=?_);refine ro 14 21 aG (h:=?_);refine ro 15 22 aG (h:=?_);refine rp 16 23 aG (h:=?_);refine rp 17 24 aG (h:=?_);refine ro 18 25 aG (h:=?_);refine ro 19 26 aG (h:=?_);refine ro 20 27 aG (h:=?_);refine ro 21 28 aG (h:=?_);refine ro 22 29 aG (h:=?_);refine rp 23 30 aG (h:=?_);refine rp 24 2 aG (h:=?_);refine wu aG ?_;try go_wp2
 go_ret
 exact ⟨by rw [HH.out];rfl,HB.out⟩
theorem function.a (xs : List ak) (A : Option Addr) (c : Nat) (w : World) (hC : Kd.C k25 w A xs.length xs) (hle : xs.length ≤ c) (h1 : xs.length = 0) : Calls Tryz.prog 79 #[.slice A xs.length c] w (bg (rM xs) w):=by
 have hw : IntKind.i64.wrap ((xs.length : Int) - 1) = -1:=by rw [h1];rfl
 have hw2 : wrap64 ((xs.length : Int) - 1) = -1:=by unfold wrap64;omega
 have HH:=Am (show rM xs = false from by unfold rM;rw [h1];rfl);clear h1 hC hle;go_enter Tryz.func79,Tryz.ntmps79
 go_wp2
 have HB:=Am (Z6 (Below.refl w.heap.size w));refine gy (n:=25) (S:=fun _ => True) (ds:=[]) (Array.replicate 25 false) (by kernel_rfl) rfl rfl trivial (fun hHeld => ?_);refine eu (T:=iC .any (opsOf Tryz.f79 2)) (by kernel_rfl) (fun aG => ?_);generalize w.drew = w7 at HB hHeld ⊢;refine rp 0 7 aG (h:=?_);refine rp 1 8 aG (h:=?_);refine rp 2 9 aG (h:=?_);refine ro 3 10 aG (h:=?_);refine ro 4 11 aG (h:=?_);refine ro 5 12 aG (h:=?_);refine ro 6 13 aG (h:=?_);refine ro 7 14 aG (h:=?_);refine rp 8 15 aG (h:=?_);refine rp 9 16 aG (h:=?_);refine ro 10 17 aG (h:=?_);refine ro 11 18 aG (h:=?_);refine ro 12 19 aG (h:=?_);refine ro 13 20 aG (h:=?_);refine ro 14 21 aG (h:=?_);refine ro 15 22 aG (h:=?_);refine rp 16 23 aG (h:=?_);refine rp 17 24 aG (h:=?_);refine ro 18 25 aG (h:=?_);refine ro 19 26 aG (h:=?_);refine ro 20 27 aG (h:=?_);refine ro 21 28 aG (h:=?_);refine ro 22 29 aG (h:=?_);refine rp 23 30 aG (h:=?_);refine rp 24 2 aG (h:=?_);refine wu aG ?_;try go_wp2
 go_ret
 exact ⟨by rw [HH.out];rfl,HB.out⟩
theorem function.all {xs : List ak} {A : Option Addr} {c : Nat} {w : World} (hC : Kd.C k25 w A xs.length xs) (hle : xs.length ≤ c) : Calls Tryz.prog 79 #[.slice A xs.length c] w (bg (rM xs) w):=by
 by_cases h0 : xs.length = 0
 · exact function.a xs A c w hC hle h0
 · by_cases h1 : xs.length = 1
   · exact function.b xs A c w hC hle h1
   · by_cases h16 : (nd xs 0).f0 = 16
     · by_cases h47 : (nd xs (xs.length - 1)).f0 = 47
       · exact function.e xs A c w hC hle (by omega) h16 h47
       · exact function.d xs A c w hC hle (by omega) h16 h47
     · exact function.c xs A c w hC hle (by omega) h16
def d45 (x : ak) : Bool:=((jD x.f1) && (x.f2 == 0) && (rM x.f4))
theorem declarations.n45 {x : ak} {A : Option Addr} {c : Nat} {w : World} (hk : x.f0 = 45) (hs : gY x.f1) (hG : aH w) (hn : ND w x A c) : Calls Tryz.prog 44 #[val x A c] w (bg (d45 x) w):=by
 have E:=Env.start hG hn;clear hn hG;have b40:=Yf hk 40 rfl
 have qW:=Yf hk 41 rfl
 have rJ:=Yf hk 42 rfl
 have b43:=Yf hk 43 rfl
 have MG:=Yf hk 44 rfl
 have uV:=Yt hk 45 rfl
 have HK:=Am hk;clear hk;have HS:=Am hs;clear hs;cases h0 : (jD x.f1);rotate_left 1;cases h1 : (x.f2 == 0);rotate_right 1
 rotate_left 2;cases h2 : (rM x.f4);rotate_right 2
 all_goals
  try (have fF:=Am h0;clear h0)
  try have iL : (x.f2 != 0) = false:=by rw [bne,h1];rfl
  try have iL : (x.f2 != 0) = true:=by rw [bne,h1];rfl
  try (have HC2:=Am h2;clear h2)
  go_enter Tryz.func44,Tryz.ntmps44
  go_wp2_with (first
   | (go_at_call 66;(try clear c0 c1 c2 c3 c4 c5);(with_reducible refine Env.call E E.out fF.out (name.all HS.out E.out.bH) (fun w1 E c0 c1 c2 c3 c4 c5 => ?_)))
   | (go_at_call 79;(try clear c0 c1 c2 c3 c4 c5);(with_reducible refine Env.call E E.out HC2.out (function.all E.out.kids E.out.k.le) (fun w1 E c0 c1 c2 c3 c4 c5 => ?_)))
   | fail)
  go_ret
  exact ⟨by unfold d45;(try rw [fF.out]);(try rw [h1]);(try rw [HC2.out]);first|done|rfl,dS⟩
def Bf (x : ak) : Bool:=(x.f1.toList == ([] : List UInt8)) && (x.f2 == 0) && decide (2 ≤ x.f4.length) && decide ((nd x.f4 0).f0 = 16) && x.f4.tail.all (fun x => decide (x.f0 = 43))
theorem vars.a {x : ak} {A : Option Addr} {c : Nat} {w : World} (b : Bool) (hb : jD x.f1 = b) (hk : x.f0 = 42) (hs : gY x.f1) (h0 : (x.f1.toList == ([] : List UInt8)) = false) (hG : aH w) (hn : ND w x A c) : Calls Tryz.prog 44 #[val x A c] w (bg (Bf x) w):=by
 have b40:=Yf hk 40 rfl
 have qW:=Yf hk 41 rfl
 have rJ:=Yt hk 42 rfl
 have e0 : (x.f1.toList == ([] : List UInt8)) = false:=h0;have e1 : (x.f1.toList != ([] : List UInt8)) = true:=by rw [bne,h0];rfl
 have HH:=Am (show Bf x = false from by unfold Bf;rw [h0];rfl);clear h0;have E:=Env.start hG hn;have HC:=Am hb;have HS:=Am hs;clear hb hk hs hn hG;go_enter Tryz.func44,Tryz.ntmps44
 go_wp2_with (first
  | (go_at_call 66;with_reducible refine Env.call E E.out HC.out (name.all HS.out E.out.bH) (fun w1 E c0 c1 c2 c3 c4 c5 => ?_))
  | fail)
 replace E:=Am (E.out.step (W1:=w1.drew) (Z6 (Below.refl _ _)));clear c0 c1 c2 c3 c4 c5;refine gy (n:=27) (S:=fun w' => w'.cell? ⟨w.heap.size,1,none⟩ = some (.string x.f1) ∧ w'.cell? ⟨w.heap.size,2,none⟩ = some (.int .u32 x.f2) ∧ True) (ds:=[]) (Array.replicate 27 false) (by kernel_rfl) rfl rfl ⟨E.out.cells.2.1,E.out.cells.2.2.1,trivial⟩ (fun hHeld => ?_);refine eu (T:=iC .any (opsOf Tryz.f44 9)) (by kernel_rfl) (fun aG => ?_);generalize w1.drew = w7 at E hHeld ⊢;refine rp 0 40 aG (h:=?_);refine rt 1 41 aG hHeld (h:=?_);refine rp 2 42 aG (h:=?_);refine rp 3 43 aG (h:=?_);refine ro 4 44 aG (h:=?_);refine ro 5 45 aG (h:=?_);refine ro 6 46 aG (h:=?_);refine rp 7 47 aG (h:=?_);refine rp 8 48 aG (h:=?_);refine ro 9 49 aG (h:=?_);refine ro 10 50 aG (h:=?_);refine ro 11 51 aG (h:=?_);refine rp 12 52 aG (h:=?_);refine rp 13 53 aG (h:=?_);refine ro 14 54 aG (h:=?_);refine ro 15 55 aG (h:=?_);refine ro 16 56 aG (h:=?_);refine ro 17 57 aG (h:=?_);refine ro 18 58 aG (h:=?_);refine rp 19 59 aG (h:=?_);refine rp 20 60 aG (h:=?_);refine ro 21 61 aG (h:=?_);refine ro 22 62 aG (h:=?_);refine ro 23 63 aG (h:=?_);refine ro 24 64 aG (h:=?_);refine rp 25 65 aG (h:=?_);refine rp 26 2 aG (h:=?_);refine wu aG ?_;try go_wp2
 go_ret
 exact ⟨by rw [HH.out];rfl,E.out.b⟩
theorem vars.b {x : ak} {A : Option Addr} {c : Nat} {w : World} (b : Bool) (hb : jD x.f1 = b) (hk : x.f0 = 42) (hs : gY x.f1) (h0 : (x.f1.toList == ([] : List UInt8)) = true) (h1 : (x.f2 == 0) = false) (hG : aH w) (hn : ND w x A c) : Calls Tryz.prog 44 #[val x A c] w (bg (Bf x) w):=by
 have b40:=Yf hk 40 rfl
 have qW:=Yf hk 41 rfl
 have rJ:=Yt hk 42 rfl
 have e0 : (x.f1.toList == ([] : List UInt8)) = true:=h0;have e1 : (x.f1.toList != ([] : List UInt8)) = false:=by rw [bne,h0];rfl
 have e2 : (x.f2 == 0) = false:=h1;have HH:=Am (show Bf x = false from by unfold Bf;rw [h0,h1];rfl);clear h0 h1;have E:=Env.start hG hn;have HC:=Am hb;have HS:=Am hs;clear hb hk hs hn hG;go_enter Tryz.func44,Tryz.ntmps44
 go_wp2_with (first
  | (go_at_call 66;with_reducible refine Env.call E E.out HC.out (name.all HS.out E.out.bH) (fun w1 E c0 c1 c2 c3 c4 c5 => ?_))
  | fail)
 replace E:=Am (E.out.step (W1:=w1.drew) (Z6 (Below.refl _ _)));clear c0 c1 c2 c3 c4 c5;refine gy (n:=27) (S:=fun w' => w'.cell? ⟨w.heap.size,1,none⟩ = some (.string x.f1) ∧ w'.cell? ⟨w.heap.size,2,none⟩ = some (.int .u32 x.f2) ∧ True) (ds:=[]) (Array.replicate 27 false) (by kernel_rfl) rfl rfl ⟨E.out.cells.2.1,E.out.cells.2.2.1,trivial⟩ (fun hHeld => ?_);refine eu (T:=iC .any (opsOf Tryz.f44 9)) (by kernel_rfl) (fun aG => ?_);generalize w1.drew = w7 at E hHeld ⊢;refine rp 0 40 aG (h:=?_);refine rt 1 41 aG hHeld (h:=?_);refine rp 2 42 aG (h:=?_);refine rp 3 43 aG (h:=?_);refine rp 4 44 aG (h:=?_);refine rt 5 45 aG hHeld (h:=?_);refine rp 6 46 aG (h:=?_);refine rp 7 47 aG (h:=?_);refine rp 8 48 aG (h:=?_);refine ro 9 49 aG (h:=?_);refine ro 10 50 aG (h:=?_);refine ro 11 51 aG (h:=?_);refine rp 12 52 aG (h:=?_);refine rp 13 53 aG (h:=?_);refine ro 14 54 aG (h:=?_);refine ro 15 55 aG (h:=?_);refine ro 16 56 aG (h:=?_);refine ro 17 57 aG (h:=?_);refine ro 18 58 aG (h:=?_);refine rp 19 59 aG (h:=?_);refine rp 20 60 aG (h:=?_);refine ro 21 61 aG (h:=?_);refine ro 22 62 aG (h:=?_);refine ro 23 63 aG (h:=?_);refine ro 24 64 aG (h:=?_);refine rp 25 65 aG (h:=?_);refine rp 26 2 aG (h:=?_);refine wu aG ?_;try go_wp2
 go_ret
 exact ⟨by rw [HH.out];rfl,E.out.b⟩
theorem vars.c {x : ak} {A : Option Addr} {c : Nat} {w : World} (b : Bool) (hb : jD x.f1 = b) (hk : x.f0 = 42) (hs : gY x.f1) (h0 : (x.f1.toList == ([] : List UInt8)) = true) (h1 : (x.f2 == 0) = true) (h2 : ¬ 2 ≤ x.f4.length) (hG : aH w) (hn : ND w x A c) : Calls Tryz.prog 44 #[val x A c] w (bg (Bf x) w):=by
 have b40:=Yf hk 40 rfl
 have qW:=Yf hk 41 rfl
 have rJ:=Yt hk 42 rfl
 have e0 : (x.f1.toList == ([] : List UInt8)) = true:=h0;have e1 : (x.f1.toList != ([] : List UInt8)) = false:=by rw [bne,h0];rfl
 have e2 : (x.f2 == 0) = true:=h1;have e3 : decide ((x.f4.length : Int) ≥ 2) = false:=decide_eq_false (by omega);have e4 : decide (2 ≤ (x.f4.length : Int)) = false:=e3;have e5 : decide (2 ≤ x.f4.length) = false:=decide_eq_false h2;have HH:=Am (show Bf x = false from by unfold Bf;rw [h0,h1,e5];rfl);clear h0 h1 h2;have E:=Env.start hG hn;have HC:=Am hb;have HS:=Am hs;clear hb hk hs hn hG;go_enter Tryz.func44,Tryz.ntmps44
 go_wp2_with (first
  | (go_at_call 66;with_reducible refine Env.call E E.out HC.out (name.all HS.out E.out.bH) (fun w1 E c0 c1 c2 c3 c4 c5 => ?_))
  | fail)
 replace E:=Am (E.out.step (W1:=w1.drew) (Z6 (Below.refl _ _)));clear c0 c1 c2 c3 c4 c5;refine gy (n:=27) (S:=fun w' => w'.cell? ⟨w.heap.size,1,none⟩ = some (.string x.f1) ∧ w'.cell? ⟨w.heap.size,2,none⟩ = some (.int .u32 x.f2) ∧ True) (ds:=[]) (Array.replicate 27 false) (by kernel_rfl) rfl rfl ⟨E.out.cells.2.1,E.out.cells.2.2.1,trivial⟩ (fun hHeld => ?_);refine eu (T:=iC .any (opsOf Tryz.f44 9)) (by kernel_rfl) (fun aG => ?_);generalize w1.drew = w7 at E hHeld ⊢;refine rp 0 40 aG (h:=?_);refine rt 1 41 aG hHeld (h:=?_);refine rp 2 42 aG (h:=?_);refine rp 3 43 aG (h:=?_);refine rp 4 44 aG (h:=?_);refine rt 5 45 aG hHeld (h:=?_);refine rp 6 46 aG (h:=?_);refine rp 7 47 aG (h:=?_);refine rp 8 48 aG (h:=?_);refine rp 9 49 aG (h:=?_);refine rp 10 50 aG (h:=?_);refine rp 11 51 aG (h:=?_);refine rp 12 52 aG (h:=?_);refine rp 13 53 aG (h:=?_);refine ro 14 54 aG (h:=?_);refine ro 15 55 aG (h:=?_);refine ro 16 56 aG (h:=?_);refine ro 17 57 aG (h:=?_);refine ro 18 58 aG (h:=?_);refine rp 19 59 aG (h:=?_);refine rp 20 60 aG (h:=?_);refine ro 21 61 aG (h:=?_);refine ro 22 62 aG (h:=?_);refine ro 23 63 aG (h:=?_);refine ro 24 64 aG (h:=?_);refine rp 25 65 aG (h:=?_);refine rp 26 2 aG (h:=?_);refine wu aG ?_;try go_wp2
 go_ret
 exact ⟨by rw [HH.out];rfl,E.out.b⟩
theorem vars.d {x : ak} {A : Option Addr} {c : Nat} {w : World} (b : Bool) (hb : jD x.f1 = b) (hk : x.f0 = 42) (hs : gY x.f1) (h0 : (x.f1.toList == ([] : List UInt8)) = true) (h1 : (x.f2 == 0) = true) (h2 : 2 ≤ x.f4.length) (h16 : (nd x.f4 0).f0 ≠ 16) (hG : aH w) (hn : ND w x A c) : Calls Tryz.prog 44 #[val x A c] w (bg (Bf x) w):=by
 have b40:=Yf hk 40 rfl
 have qW:=Yf hk 41 rfl
 have rJ:=Yt hk 42 rfl
 have e0 : (x.f1.toList == ([] : List UInt8)) = true:=h0;have e1 : (x.f1.toList != ([] : List UInt8)) = false:=by rw [bne,h0];rfl
 have e2 : (x.f2 == 0) = true:=h1;have e3 : decide ((x.f4.length : Int) ≥ 2) = true:=decide_eq_true (by omega);have e4 : decide (2 ≤ (x.f4.length : Int)) = true:=e3;have e5 : decide (2 ≤ x.f4.length) = true:=decide_eq_true h2;have HH:=Am (show Bf x = false from by unfold Bf;rw [h0,h1,e5,decide_eq_false h16];rfl);have t16 : ((nd x.f4 0).f0 == 16) = false:=beq_eq_false_iff_ne.2 h16;have hC:=hn.C;have hle:=hn.le;have hmax:=hn.C.2.1;obtain ⟨ad,A1,c1,rfl,_,k0,_⟩:=fG hC 0 (by omega);rw [Nat.zero_mul,kG] at k0;have dD:=Am k0;have q0 : 0 < x.f4.length:=by omega
 have p1 : (1 : Int) ≤ (x.f4.length : Int):=by omega
 have p2 : 1 ≤ x.f4.length:=by omega
 clear h0 h1 h2 h16 k0 hC hle hmax;have E:=Env.start hG hn;have HC:=Am hb;have HS:=Am hs;clear hb hk hs hn hG;go_enter Tryz.func44,Tryz.ntmps44
 go_wp2_with (first
  | (go_at_call 66;with_reducible refine Env.call E E.out HC.out (name.all HS.out E.out.bH) (fun w1 E c0 c1 c2 c3 c4 c5 => ?_))
  | fail)
 replace E:=Am (E.out.step (W1:=w1.drew) (Z6 (Below.refl _ _)));clear c0 c1 c2 c3 c4 c5;refine gy (n:=27) (S:=fun w' => w'.cell? ⟨w.heap.size,1,none⟩ = some (.string x.f1) ∧ w'.cell? ⟨w.heap.size,2,none⟩ = some (.int .u32 x.f2) ∧ w'.cell? ad = some (.int .i64 (nd x.f4 0).f0)) (ds:=[]) (Array.replicate 27 false) (by kernel_rfl) rfl rfl ⟨E.out.cells.2.1,E.out.cells.2.2.1,kC E.out.b dD.out⟩ (fun hHeld => ?_);refine eu (T:=iC .any (opsOf Tryz.f44 9)) (by kernel_rfl) (fun aG => ?_);generalize w1.drew = w7 at E hHeld ⊢;refine rp 0 40 aG (h:=?_);refine rt 1 41 aG hHeld (h:=?_);refine rp 2 42 aG (h:=?_);refine rp 3 43 aG (h:=?_);refine rp 4 44 aG (h:=?_);refine rt 5 45 aG hHeld (h:=?_);refine rp 6 46 aG (h:=?_);refine rp 7 47 aG (h:=?_);refine rp 8 48 aG (h:=?_);refine rp 9 49 aG (h:=?_);refine rp 10 50 aG (h:=?_);refine rp 11 51 aG (h:=?_);refine rp 12 52 aG (h:=?_);refine rp 13 53 aG (h:=?_);refine rp 14 54 aG (h:=?_);refine rp 15 55 aG (h:=?_);refine rp 16 56 aG (h:=?_);refine rt 17 57 aG hHeld (h:=?_);refine rp 18 58 aG (h:=?_);refine rp 19 59 aG (h:=?_);refine rp 20 60 aG (h:=?_);refine ro 21 61 aG (h:=?_);refine ro 22 62 aG (h:=?_);refine ro 23 63 aG (h:=?_);refine ro 24 64 aG (h:=?_);refine rp 25 65 aG (h:=?_);refine rp 26 2 aG (h:=?_);refine wu aG ?_;try go_wp2
 go_ret
 exact ⟨by rw [HH.out];rfl,E.out.b⟩
theorem vars.e {x : ak} {A : Option Addr} {c : Nat} {w : World} (b : Bool) (hb : jD x.f1 = b) (hk : x.f0 = 42) (hs : gY x.f1) (h0 : (x.f1.toList == ([] : List UInt8)) = true) (h1 : (x.f2 == 0) = true) (h2 : 2 ≤ x.f4.length) (h16 : (nd x.f4 0).f0 = 16) (hG : aH w) (hn : ND w x A c) : Calls Tryz.prog 44 #[val x A c] w (bg (Bf x) w):=by
 have b40:=Yf hk 40 rfl
 have qW:=Yf hk 41 rfl
 have rJ:=Yt hk 42 rfl
 have e0 : (x.f1.toList == ([] : List UInt8)) = true:=h0;have e1 : (x.f1.toList != ([] : List UInt8)) = false:=by rw [bne,h0];rfl
 have e2 : (x.f2 == 0) = true:=h1;have e3 : decide ((x.f4.length : Int) ≥ 2) = true:=decide_eq_true (by omega);have e4 : decide (2 ≤ (x.f4.length : Int)) = true:=e3;have e5 : decide (2 ≤ x.f4.length) = true:=decide_eq_true h2;have HH:=Am (show Bf x = x.f4.tail.all (fun x => decide (x.f0 = 43)) from by unfold Bf;rw [h0,h1,e5,decide_eq_true h16];rfl);have t16 : ((nd x.f4 0).f0 == 16) = true:=by rw [h16];rfl
 have hC:=hn.C;have hle:=hn.le;have hmax:=hn.C.2.1;obtain ⟨ad,A1,c1,rfl,_,k0,_⟩:=fG hC 0 (by omega);rw [Nat.zero_mul,kG] at k0;have dD:=Am k0;have q0 : 0 < x.f4.length:=by omega
 have p1 : (1 : Int) ≤ (x.f4.length : Int):=by omega
 have p2 : 1 ≤ x.f4.length:=by omega
 have hcc : ¬ c = 1:=by omega
 have p3 : x.f4.length ≤ c:=hle;have HSL:=Am (show Kd.C k25 w (some ⟨ad.block,ad.off + 6,none⟩) x.f4.tail.length x.f4.tail from by
  have h1:=Kd.vg (m:=1) hC (by omega) hle;rw [if_neg hcc,List.drop_one] at h1;exact h1)
 clear h0 h1 h2 h16 k0 hC hle hmax;have E:=Env.start hG hn;have HC:=Am hb;have HS:=Am hs;clear hb hk hs hn hG;go_enter Tryz.func44,Tryz.ntmps44
 go_wp2_with (first
  | (go_at_call 66;with_reducible refine Env.call E E.out HC.out (name.all HS.out E.out.bH) (fun w1 E c0 c1 c2 c3 c4 c5 => ?_))
  | fail)
 replace E:=Am (E.out.step (W1:=w1.drew) (Z6 (Below.refl _ _)));clear c0 c1 c2 c3 c4 c5;refine gy (n:=27) (S:=fun w' => w'.cell? ⟨w.heap.size,1,none⟩ = some (.string x.f1) ∧ w'.cell? ⟨w.heap.size,2,none⟩ = some (.int .u32 x.f2) ∧ w'.cell? ad = some (.int .i64 (nd x.f4 0).f0)) (ds:=[]) (Array.replicate 27 false) (by kernel_rfl) rfl rfl ⟨E.out.cells.2.1,E.out.cells.2.2.1,kC E.out.b dD.out⟩ (fun hHeld => ?_);refine eu (T:=iC .any (opsOf Tryz.f44 9)) (by kernel_rfl) (fun aG => ?_);generalize w1.drew = w7 at E hHeld ⊢;refine rp 0 40 aG (h:=?_);refine rt 1 41 aG hHeld (h:=?_);refine rp 2 42 aG (h:=?_);refine rp 3 43 aG (h:=?_);refine rp 4 44 aG (h:=?_);refine rt 5 45 aG hHeld (h:=?_);refine rp 6 46 aG (h:=?_);refine rp 7 47 aG (h:=?_);refine rp 8 48 aG (h:=?_);refine rp 9 49 aG (h:=?_);refine rp 10 50 aG (h:=?_);refine rp 11 51 aG (h:=?_);refine rp 12 52 aG (h:=?_);refine rp 13 53 aG (h:=?_);refine rp 14 54 aG (h:=?_);refine rp 15 55 aG (h:=?_);refine rp 16 56 aG (h:=?_);refine rt 17 57 aG hHeld (h:=?_);refine rp 18 58 aG (h:=?_);refine rp 19 59 aG (h:=?_);refine rp 20 60 aG (h:=?_);refine rp 21 61 aG (h:=?_);refine rp 22 62 aG (h:=?_);refine rc 23 63 aG (h:=fun K hK => ?_);refine jQ Tryz.func70 (by kernel_rfl) rfl #[.int .i64 43] (by rfl) rfl rfl (by (try simp only [List.map_toArray,List.map_cons,List.map_nil]);first|done|rfl) ((of.all 43 _).mono ?_);rintro e w8 ⟨q,rfl,hq,hB⟩;refine ⟨_,rfl,?_⟩;have HQ:=Am hq;clear hq;replace E:=Am (E.out.step hB);clear hB;refine hK.out _ _ ⟨E.out.cells.2.1,E.out.cells.2.2.1,kC E.out.b dD.out⟩ (fun hHeld => rn ?_);clear hK K;refine rc 24 64 aG (h:=fun K hK => ?_);refine jQ Tryz.func33 (by kernel_rfl) rfl #[.slice (some ⟨ad.block,ad.off + 6,none⟩) (x.f4.length - 1) (c - 1),.func (.func 94) #[] #[.pointer (some ⟨q,0,none⟩)]] (by rfl) rfl rfl (by (try simp only [List.map_toArray,List.map_cons,List.map_nil]);first|done|rfl) ((every.at (x.f4.length - 1) x.f4.tail List.length_tail (some ⟨ad.block,ad.off + 6,none⟩) _ _ (Kd.dV HSL.out E.out.b) 94 #[.pointer (some ⟨q,0,none⟩)] (fun x => decide (x.f0 = 43)) (enters_of Tryz.func94 (by kernel_rfl) rfl) (of1.any 43 q _ HQ.out)).mono ?_);rintro e w9 ⟨rfl,hB⟩;refine ⟨_,rfl,?_⟩;replace E:=Am (E.out.step hB);clear hB;refine hK.out _ _ ⟨E.out.cells.2.1,E.out.cells.2.2.1,kC E.out.b dD.out⟩ (fun hHeld => rn ?_);clear hK K;refine rp 25 65 aG (h:=?_);refine rp 26 2 aG (h:=?_);refine wu aG ?_;try go_wp2
 go_ret
 exact ⟨by rw [HH.out];rfl,E.out.b⟩
theorem declarations.n42 {x : ak} {A : Option Addr} {c : Nat} {w : World} (hk : x.f0 = 42) (hs : gY x.f1) (hG : aH w) (hn : ND w x A c) : Calls Tryz.prog 44 #[val x A c] w (bg (Bf x) w):=by
 cases h0 : (x.f1.toList == ([] : List UInt8)) with
 | false => exact vars.a _ rfl hk hs h0 hG hn
 | true =>
  cases h1 : (x.f2 == 0) with
  | false => exact vars.b _ rfl hk hs h0 h1 hG hn
  | true =>
   by_cases h2 : 2 ≤ x.f4.length
   · by_cases h16 : (nd x.f4 0).f0 = 16
     · exact vars.e _ rfl hk hs h0 h1 h2 h16 hG hn
     · exact vars.d _ rfl hk hs h0 h1 h2 h16 hG hn
   · exact vars.c _ rfl hk hs h0 h1 h2 hG hn
def aV (x : ak) : Bool:=if x.f0 = 1 then e1 x else if x.f0 = 2 then e2 x else if x.f0 = 3 then e3 x else if x.f0 = 4 then e4 x else if x.f0 = 5 then e5 x else if x.f0 = 6 then e6 x else if x.f0 = 7 then e6 x else if x.f0 = 8 then e8 x else if x.f0 = 9 then e9 x else if x.f0 = 10 then e10 x else if x.f0 = 11 then e11 x else if x.f0 = 12 then e12 x else if x.f0 = 13 then e13 x else if x.f0 = 14 then e14 x else if x.f0 = 15 then e15 x else if x.f0 = 16 then e16 x else false
noncomputable def eU (x : ak) : Bool:=if x.f0 = 47 then s47 x else if x.f0 = 48 then s48 x else if x.f0 = 49 then s49 x else if x.f0 = 50 then s50 x else if x.f0 = 51 then s51 x else if x.f0 = 52 then s52 x else if x.f0 = 55 then s55 x else s0 x
def fQ (x : ak) : Bool:=if x.f0 = 40 then d40 x else if x.f0 = 41 then d41 x else if x.f0 = 42 then Bf x else if x.f0 = 43 then d43 x else if x.f0 = 44 then d44 x else if x.f0 = 45 then d45 x else if x.f0 = 46 then d46 x else false
def eNo (x : ak) : Bool:=false
theorem expressions.other {x : ak} {A : Option Addr} {c : Nat} {w : World} (h1 : x.f0 ≠ 1) (h2 : x.f0 ≠ 2) (h3 : x.f0 ≠ 3) (h4 : x.f0 ≠ 4) (h5 : x.f0 ≠ 5) (h6 : x.f0 ≠ 6) (h7 : x.f0 ≠ 7) (h8 : x.f0 ≠ 8) (h9 : x.f0 ≠ 9) (h10 : x.f0 ≠ 10) (h11 : x.f0 ≠ 11) (h12 : x.f0 ≠ 12) (h13 : x.f0 ≠ 13) (Ie : x.f0 ≠ 14) (h15 : x.f0 ≠ 15) (h16 : x.f0 ≠ 16) (hG : aH w) (hn : ND w x A c) : Calls Tryz.prog 41 #[val x A c] w (bg (eNo x) w):=by
 have E:=Env.start hG hn;clear hn hG;have b1 : (x.f0 == 1) = false:=beq_eq_false_iff_ne.2 h1;have b2 : (x.f0 == 2) = false:=beq_eq_false_iff_ne.2 h2;have b3 : (x.f0 == 3) = false:=beq_eq_false_iff_ne.2 h3;have b4 : (x.f0 == 4) = false:=beq_eq_false_iff_ne.2 h4;have b5 : (x.f0 == 5) = false:=beq_eq_false_iff_ne.2 h5;have b6 : (x.f0 == 6) = false:=beq_eq_false_iff_ne.2 h6;have b7 : (x.f0 == 7) = false:=beq_eq_false_iff_ne.2 h7;have b8 : (x.f0 == 8) = false:=beq_eq_false_iff_ne.2 h8;have b9 : (x.f0 == 9) = false:=beq_eq_false_iff_ne.2 h9;have b10 : (x.f0 == 10) = false:=beq_eq_false_iff_ne.2 h10;have b11 : (x.f0 == 11) = false:=beq_eq_false_iff_ne.2 h11;have b12 : (x.f0 == 12) = false:=beq_eq_false_iff_ne.2 h12;have b13 : (x.f0 == 13) = false:=beq_eq_false_iff_ne.2 h13;have b14 : (x.f0 == 14) = false:=beq_eq_false_iff_ne.2 Ie;have b15 : (x.f0 == 15) = false:=beq_eq_false_iff_ne.2 h15;have b16 : (x.f0 == 16) = false:=beq_eq_false_iff_ne.2 h16;clear h1 h2 h3 h4 h5 h6 h7 h8 h9 h10 h11 h12 h13 Ie h15 h16;cases h0 : (x.f1.toList == ([] : List UInt8));all_goals
  try have iU : (x.f1.toList != ([] : List UInt8)) = false:=by rw [bne,h0];rfl
  try have iU : (x.f1.toList != ([] : List UInt8)) = true:=by rw [bne,h0];rfl
  go_enter Tryz.func41,Tryz.ntmps41
  go_wp2
  go_ret
  exact ⟨by unfold eNo;first|done|rfl,dS⟩
section
variable {x : ak} {A : Option Addr} {c : Nat} {w : World}
theorem expressions.all (hs : gY x.f1) (hG : aH w) (hn : ND w x A c) : Calls Tryz.prog 41 #[val x A c] w (bg (aV x) w):=by
 by_cases h1 : x.f0 = 1
 · rw [show aV x = e1 x from by unfold aV;rw [ if_pos h1]];exact expressions.k1 h1 hG hn
 by_cases h2 : x.f0 = 2
 · rw [show aV x = e2 x from by unfold aV;rw [if_neg h1,if_pos h2]];exact expressions.k2 h2 hG hn
 by_cases h3 : x.f0 = 3
 · rw [show aV x = e3 x from by unfold aV;rw [if_neg h1,if_neg h2,if_pos h3]];exact expressions.k3 h3 hG hn
 by_cases h4 : x.f0 = 4
 · rw [show aV x = e4 x from by unfold aV;rw [if_neg h1,if_neg h2,if_neg h3,if_pos h4]];exact expressions.k4 h4 hs hG hn
 by_cases h5 : x.f0 = 5
 · rw [show aV x = e5 x from by unfold aV;rw [if_neg h1,if_neg h2,if_neg h3,if_neg h4,if_pos h5]];exact expressions.k5 h5 hG hn
 by_cases h6 : x.f0 = 6
 · rw [show aV x = e6 x from by unfold aV;rw [if_neg h1,if_neg h2,if_neg h3,if_neg h4,if_neg h5,if_pos h6]];exact expressions.k6 h6 hs hG hn
 by_cases h7 : x.f0 = 7
 · rw [show aV x = e6 x from by unfold aV;rw [if_neg h1,if_neg h2,if_neg h3,if_neg h4,if_neg h5,if_neg h6,if_pos h7]];exact expressions.k7 h7 hs hG hn
 by_cases h8 : x.f0 = 8
 · rw [show aV x = e8 x from by unfold aV;rw [if_neg h1,if_neg h2,if_neg h3,if_neg h4,if_neg h5,if_neg h6,if_neg h7,if_pos h8]];exact expressions.k8 h8 hs hG hn
 by_cases h9 : x.f0 = 9
 · rw [show aV x = e9 x from by unfold aV;rw [if_neg h1,if_neg h2,if_neg h3,if_neg h4,if_neg h5,if_neg h6,if_neg h7,if_neg h8,if_pos h9]];exact expressions.k9 h9 hs hG hn
 by_cases h10 : x.f0 = 10
 · rw [show aV x = e10 x from by unfold aV;rw [if_neg h1,if_neg h2,if_neg h3,if_neg h4,if_neg h5,if_neg h6,if_neg h7,if_neg h8,if_neg h9,if_pos h10]];exact expressions.k10 h10 hs hG hn
 by_cases h11 : x.f0 = 11
 · rw [show aV x = e11 x from by unfold aV;rw [if_neg h1,if_neg h2,if_neg h3,if_neg h4,if_neg h5,if_neg h6,if_neg h7,if_neg h8,if_neg h9,if_neg h10,if_pos h11]];exact expressions.k11 h11 hs hG hn
 by_cases h12 : x.f0 = 12
 · rw [show aV x = e12 x from by unfold aV;rw [if_neg h1,if_neg h2,if_neg h3,if_neg h4,if_neg h5,if_neg h6,if_neg h7,if_neg h8,if_neg h9,if_neg h10,if_neg h11,if_pos h12]];exact expressions.k12 h12 hG hn
 by_cases h13 : x.f0 = 13
 · rw [show aV x = e13 x from by unfold aV;rw [if_neg h1,if_neg h2,if_neg h3,if_neg h4,if_neg h5,if_neg h6,if_neg h7,if_neg h8,if_neg h9,if_neg h10,if_neg h11,if_neg h12,if_pos h13]];exact expressions.k13 h13 hs hG hn
 by_cases Ie : x.f0 = 14
 · rw [show aV x = e14 x from by unfold aV;rw [if_neg h1,if_neg h2,if_neg h3,if_neg h4,if_neg h5,if_neg h6,if_neg h7,if_neg h8,if_neg h9,if_neg h10,if_neg h11,if_neg h12,if_neg h13,if_pos Ie]];exact expressions.k14 Ie hG hn
 by_cases h15 : x.f0 = 15
 · rw [show aV x = e15 x from by unfold aV;rw [if_neg h1,if_neg h2,if_neg h3,if_neg h4,if_neg h5,if_neg h6,if_neg h7,if_neg h8,if_neg h9,if_neg h10,if_neg h11,if_neg h12,if_neg h13,if_neg Ie,if_pos h15]];exact expressions.k15 h15 hG hn
 by_cases h16 : x.f0 = 16
 · rw [show aV x = e16 x from by unfold aV;rw [if_neg h1,if_neg h2,if_neg h3,if_neg h4,if_neg h5,if_neg h6,if_neg h7,if_neg h8,if_neg h9,if_neg h10,if_neg h11,if_neg h12,if_neg h13,if_neg Ie,if_neg h15,if_pos h16]];exact expressions.k16 h16 hs hG hn
 rw [show aV x = eNo x from by unfold aV eNo;rw [if_neg h1,if_neg h2,if_neg h3,if_neg h4,if_neg h5,if_neg h6,if_neg h7,if_neg h8,if_neg h9,if_neg h10,if_neg h11,if_neg h12,if_neg h13,if_neg Ie,if_neg h15,if_neg h16]];exact expressions.other h1 h2 h3 h4 h5 h6 h7 h8 h9 h10 h11 h12 h13 Ie h15 h16 hG hn
theorem statements.all (hG : aH w) (hn : ND w x A c) : Calls Tryz.prog 43 #[val x A c] w (bg (eU x) w):=by
 by_cases h47 : x.f0 = 47
 · rw [show eU x = s47 x from by unfold eU;rw [ if_pos h47]];exact statements.n47 h47 hG hn
 by_cases h48 : x.f0 = 48
 · rw [show eU x = s48 x from by unfold eU;rw [if_neg h47,if_pos h48]];exact statements.n48 h48 hG hn
 by_cases sD : x.f0 = 49
 · rw [show eU x = s49 x from by unfold eU;rw [if_neg h47,if_neg h48,if_pos sD]];exact statements.n49 sD hG hn
 by_cases h50 : x.f0 = 50
 · rw [show eU x = s50 x from by unfold eU;rw [if_neg h47,if_neg h48,if_neg sD,if_pos h50]];exact statements.n50 h50 hG hn
 by_cases EI : x.f0 = 51
 · rw [show eU x = s51 x from by unfold eU;rw [if_neg h47,if_neg h48,if_neg sD,if_neg h50,if_pos EI]];exact statements.n51 EI hG hn
 by_cases zN : x.f0 = 52
 · rw [show eU x = s52 x from by unfold eU;rw [if_neg h47,if_neg h48,if_neg sD,if_neg h50,if_neg EI,if_pos zN]];exact statements.n52 zN hG hn
 by_cases EJ : x.f0 = 55
 · rw [show eU x = s55 x from by unfold eU;rw [if_neg h47,if_neg h48,if_neg sD,if_neg h50,if_neg EI,if_neg zN,if_pos EJ]];exact statements.n55 EJ hG hn
 rw [show eU x = s0 x from by unfold eU ;rw [if_neg h47,if_neg h48,if_neg sD,if_neg h50,if_neg EI,if_neg zN,if_neg EJ]];exact statements.n0 h47 h48 sD h50 EI zN EJ hG hn
theorem declarations.all (hs : gY x.f1) (hG : aH w) (hn : ND w x A c) : Calls Tryz.prog 44 #[val x A c] w (bg (fQ x) w):=by
 by_cases EK : x.f0 = 40
 · rw [show fQ x = d40 x from by unfold fQ;rw [ if_pos EK]];exact declarations.n40 EK hs hG hn
 by_cases EL : x.f0 = 41
 · rw [show fQ x = d41 x from by unfold fQ;rw [if_neg EK,if_pos EL]];exact declarations.n41 EL hs hG hn
 by_cases h42 : x.f0 = 42
 · rw [show fQ x = Bf x from by unfold fQ;rw [if_neg EK,if_neg EL,if_pos h42]];exact declarations.n42 h42 hs hG hn
 by_cases h43 : x.f0 = 43
 · rw [show fQ x = d43 x from by unfold fQ;rw [if_neg EK,if_neg EL,if_neg h42,if_pos h43]];exact declarations.n43 h43 hs hG hn
 by_cases tV : x.f0 = 44
 · rw [show fQ x = d44 x from by unfold fQ;rw [if_neg EK,if_neg EL,if_neg h42,if_neg h43,if_pos tV]];exact declarations.n44 tV hs hG hn
 by_cases h45 : x.f0 = 45
 · rw [show fQ x = d45 x from by unfold fQ;rw [if_neg EK,if_neg EL,if_neg h42,if_neg h43,if_neg tV,if_pos h45]];exact declarations.n45 h45 hs hG hn
 by_cases h46 : x.f0 = 46
 · rw [show fQ x = d46 x from by unfold fQ;rw [if_neg EK,if_neg EL,if_neg h42,if_neg h43,if_neg tV,if_neg h45,if_pos h46]];exact declarations.n46 h46 hs hG hn
 rw [show fQ x = d0 x from by unfold fQ d0;rw [if_neg EK,if_neg EL,if_neg h42,if_neg h43,if_neg tV,if_neg h45,if_neg h46]];exact declarations.n0 EK EL h42 h43 tV h45 h46 hs hG hn
end
noncomputable def FP (x : ak) : Bool:=(if ((gQ x) || (x.f0 == 16)) = true then (aV x) else (if (isS x) = true then (eU x) else (fQ x)))
theorem itself.k1 {x : ak} {A : Option Addr} {c : Nat} {w : World} (hk : x.f0 = 1) (hs : gY x.f1) (hG : aH w) (hn : ND w x A c) : Calls Tryz.prog 32 #[val x A c] w (bg (FP x) w):=by
 have E:=Env.start hG hn;clear hn hG;have b1:=Yt hk 1 rfl
 have HK:=Am hk;clear hk;have HS:=Am hs;clear hs;cases h0 : (gQ x);cases h2 : (x.f0 == 16);cases h3 : (isS x);cases h5 : (fQ x);rotate_left 2;cases h4 : (eU x);rotate_right 2
 rotate_left 4;cases h1 : (aV x);rotate_right 4
 rotate_left 6;cases h1 : (aV x);rotate_right 6
 all_goals
  try (have fF:=Am h0;clear h0)
  try (have jK:=Am h1;clear h1)
  try (have kR:=Am h3;clear h3)
  try (have Eb:=Am h4;clear h4)
  try (have yw:=Am h5;clear h5)
  go_enter Tryz.func32,Tryz.ntmps32
  go_wp2_with (first
   | (go_at_call 40;(try clear c0 c1 c2 c3 c4 c5);(with_reducible refine Env.call E E.out fF.out (expression.all E.out.nd) (fun w1 E c0 c1 c2 c3 c4 c5 => ?_)))
   | (go_at_call 41;(try clear c0 c1 c2 c3 c4 c5);(with_reducible refine Env.call E E.out jK.out (expressions.all HS.out E.out.bH E.out.nd) (fun w1 E c0 c1 c2 c3 c4 c5 => ?_)))
   | (go_at_call 42;(try clear c0 c1 c2 c3 c4 c5);(with_reducible refine Env.call E E.out kR.out (statement.all E.out.nd) (fun w1 E c0 c1 c2 c3 c4 c5 => ?_)))
   | (go_at_call 43;(try clear c0 c1 c2 c3 c4 c5);(with_reducible refine Env.call E E.out Eb.out (statements.all E.out.bH E.out.nd) (fun w1 E c0 c1 c2 c3 c4 c5 => ?_)))
   | (go_at_call 44;(try clear c0 c1 c2 c3 c4 c5);(with_reducible refine Env.call E E.out yw.out (declarations.all HS.out E.out.bH E.out.nd) (fun w1 E c0 c1 c2 c3 c4 c5 => ?_)))
   | fail)
  go_ret
  exact ⟨by unfold FP;(try rw [fF.out]);(try rw [jK.out]);(try rw [h2]);(try rw [kR.out]);(try rw [Eb.out]);(try rw [yw.out]);first|done|rfl,dS⟩
theorem itself.k43 {x : ak} {A : Option Addr} {c : Nat} {w : World} (hk : x.f0 = 43) (hs : gY x.f1) (hG : aH w) (hn : ND w x A c) : Calls Tryz.prog 32 #[val x A c] w (bg (FP x) w):=by
 have E:=Env.start hG hn;clear hn hG;have b1:=Yf hk 1 rfl
 have b43:=Yt hk 43 rfl
 have HK:=Am hk;clear hk;have HS:=Am hs;clear hs;cases h0 : (gQ x);cases h2 : (x.f0 == 16);cases h3 : (isS x);cases h5 : (fQ x);rotate_left 2;cases h4 : (eU x);rotate_right 2
 rotate_left 4;cases h1 : (aV x);rotate_right 4
 rotate_left 6;cases h1 : (aV x);rotate_right 6
 all_goals
  try (have fF:=Am h0;clear h0)
  try (have jK:=Am h1;clear h1)
  try (have kR:=Am h3;clear h3)
  try (have Eb:=Am h4;clear h4)
  try (have yw:=Am h5;clear h5)
  go_enter Tryz.func32,Tryz.ntmps32
  go_wp2_with (first
   | (go_at_call 40;(try clear c0 c1 c2 c3 c4 c5);(with_reducible refine Env.call E E.out fF.out (expression.all E.out.nd) (fun w1 E c0 c1 c2 c3 c4 c5 => ?_)))
   | (go_at_call 41;(try clear c0 c1 c2 c3 c4 c5);(with_reducible refine Env.call E E.out jK.out (expressions.all HS.out E.out.bH E.out.nd) (fun w1 E c0 c1 c2 c3 c4 c5 => ?_)))
   | (go_at_call 42;(try clear c0 c1 c2 c3 c4 c5);(with_reducible refine Env.call E E.out kR.out (statement.all E.out.nd) (fun w1 E c0 c1 c2 c3 c4 c5 => ?_)))
   | (go_at_call 43;(try clear c0 c1 c2 c3 c4 c5);(with_reducible refine Env.call E E.out Eb.out (statements.all E.out.bH E.out.nd) (fun w1 E c0 c1 c2 c3 c4 c5 => ?_)))
   | (go_at_call 44;(try clear c0 c1 c2 c3 c4 c5);(with_reducible refine Env.call E E.out yw.out (declarations.all HS.out E.out.bH E.out.nd) (fun w1 E c0 c1 c2 c3 c4 c5 => ?_)))
   | fail)
  go_ret
  exact ⟨by unfold FP;(try rw [fF.out]);(try rw [jK.out]);(try rw [h2]);(try rw [kR.out]);(try rw [Eb.out]);(try rw [yw.out]);first|done|rfl,dS⟩
theorem itself.k46 {x : ak} {A : Option Addr} {c : Nat} {w : World} (hk : x.f0 = 46) (hs : gY x.f1) (hG : aH w) (hn : ND w x A c) : Calls Tryz.prog 32 #[val x A c] w (bg (FP x) w):=by
 have E:=Env.start hG hn;clear hn hG;have b1:=Yf hk 1 rfl
 have b43:=Yf hk 43 rfl
 have b46:=Yt hk 46 rfl
 have HK:=Am hk;clear hk;have HS:=Am hs;clear hs;cases h0 : (gQ x);cases h2 : (x.f0 == 16);cases h3 : (isS x);cases h5 : (fQ x);rotate_left 2;cases h4 : (eU x);rotate_right 2
 rotate_left 4;cases h1 : (aV x);rotate_right 4
 rotate_left 6;cases h1 : (aV x);rotate_right 6
 all_goals
  try (have fF:=Am h0;clear h0)
  try (have jK:=Am h1;clear h1)
  try (have kR:=Am h3;clear h3)
  try (have Eb:=Am h4;clear h4)
  try (have yw:=Am h5;clear h5)
  go_enter Tryz.func32,Tryz.ntmps32
  go_wp2_with (first
   | (go_at_call 40;(try clear c0 c1 c2 c3 c4 c5);(with_reducible refine Env.call E E.out fF.out (expression.all E.out.nd) (fun w1 E c0 c1 c2 c3 c4 c5 => ?_)))
   | (go_at_call 41;(try clear c0 c1 c2 c3 c4 c5);(with_reducible refine Env.call E E.out jK.out (expressions.all HS.out E.out.bH E.out.nd) (fun w1 E c0 c1 c2 c3 c4 c5 => ?_)))
   | (go_at_call 42;(try clear c0 c1 c2 c3 c4 c5);(with_reducible refine Env.call E E.out kR.out (statement.all E.out.nd) (fun w1 E c0 c1 c2 c3 c4 c5 => ?_)))
   | (go_at_call 43;(try clear c0 c1 c2 c3 c4 c5);(with_reducible refine Env.call E E.out Eb.out (statements.all E.out.bH E.out.nd) (fun w1 E c0 c1 c2 c3 c4 c5 => ?_)))
   | (go_at_call 44;(try clear c0 c1 c2 c3 c4 c5);(with_reducible refine Env.call E E.out yw.out (declarations.all HS.out E.out.bH E.out.nd) (fun w1 E c0 c1 c2 c3 c4 c5 => ?_)))
   | fail)
  go_ret
  exact ⟨by unfold FP;(try rw [fF.out]);(try rw [jK.out]);(try rw [h2]);(try rw [kR.out]);(try rw [Eb.out]);(try rw [yw.out]);first|done|rfl,dS⟩
def itNo (x : ak) : Bool:=false
theorem itself.flag {x : ak} {A : Option Addr} {c : Nat} {w : World} (h1 : x.f0 ≠ 1) (h43 : x.f0 ≠ 43) (h46 : x.f0 ≠ 46) (hf : x.f3 = true) (hG : aH w) (hn : ND w x A c) : Calls Tryz.prog 32 #[val x A c] w (bg (itNo x) w):=by
 have E:=Env.start hG hn;clear hn hG;have b1 : (x.f0 == 1) = false:=beq_eq_false_iff_ne.2 h1;have b43 : (x.f0 == 43) = false:=beq_eq_false_iff_ne.2 h43;have b46 : (x.f0 == 46) = false:=beq_eq_false_iff_ne.2 h46;clear h1 h43 h46;go_enter Tryz.func32,Tryz.ntmps32
 go_wp2
 go_ret
 exact ⟨by unfold itNo;first|done|rfl,dS⟩
theorem itself.plain {f0 : Int} {f1 : ByteArray} {f2 : Int} {l : List ak} {p : Int} {A : Option Addr} {c : Nat} {w : World} (h1 : f0 ≠ 1) (h43 : f0 ≠ 43) (h46 : f0 ≠ 46) (hs : gY f1) (hG : aH w) (hn : ND w ⟨f0,f1,f2,false,l,p⟩ A c) : Calls Tryz.prog 32 #[val ⟨f0,f1,f2,false,l,p⟩ A c] w (bg (FP ⟨f0,f1,f2,false,l,p⟩) w):=by
 have E:=Env.start hG hn;clear hn hG;have b1 : (f0 == 1) = false:=beq_eq_false_iff_ne.2 h1;have b43 : (f0 == 43) = false:=beq_eq_false_iff_ne.2 h43;have b46 : (f0 == 46) = false:=beq_eq_false_iff_ne.2 h46;clear h1 h43 h46;have HS:=Am hs;clear hs;cases h0 : (gQ ⟨f0,f1,f2,false,l,p⟩);cases h2 : (f0 == 16);cases h3 : (isS ⟨f0,f1,f2,false,l,p⟩);cases h5 : (fQ ⟨f0,f1,f2,false,l,p⟩);rotate_left 2;cases h4 : (eU ⟨f0,f1,f2,false,l,p⟩);rotate_right 2
 rotate_left 4;cases h1 : (aV ⟨f0,f1,f2,false,l,p⟩);rotate_right 4
 rotate_left 6;cases h1 : (aV ⟨f0,f1,f2,false,l,p⟩);rotate_right 6
 all_goals
  try (have fF:=Am h0;clear h0)
  try (have jK:=Am h1;clear h1)
  try (have kR:=Am h3;clear h3)
  try (have Eb:=Am h4;clear h4)
  try (have yw:=Am h5;clear h5)
  go_enter Tryz.func32,Tryz.ntmps32
  go_wp2_with (first
   | (go_at_call 40;(try clear c0 c1 c2 c3 c4 c5);(with_reducible refine Env.call E E.out fF.out (expression.all E.out.nd) (fun w1 E c0 c1 c2 c3 c4 c5 => ?_)))
   | (go_at_call 41;(try clear c0 c1 c2 c3 c4 c5);(with_reducible refine Env.call E E.out jK.out (expressions.all HS.out E.out.bH E.out.nd) (fun w1 E c0 c1 c2 c3 c4 c5 => ?_)))
   | (go_at_call 42;(try clear c0 c1 c2 c3 c4 c5);(with_reducible refine Env.call E E.out kR.out (statement.all E.out.nd) (fun w1 E c0 c1 c2 c3 c4 c5 => ?_)))
   | (go_at_call 43;(try clear c0 c1 c2 c3 c4 c5);(with_reducible refine Env.call E E.out Eb.out (statements.all E.out.bH E.out.nd) (fun w1 E c0 c1 c2 c3 c4 c5 => ?_)))
   | (go_at_call 44;(try clear c0 c1 c2 c3 c4 c5);(with_reducible refine Env.call E E.out yw.out (declarations.all HS.out E.out.bH E.out.nd) (fun w1 E c0 c1 c2 c3 c4 c5 => ?_)))
   | fail)
  go_ret
  exact ⟨by unfold FP;(try rw [fF.out]);(try rw [jK.out]);(try rw [h2]);(try rw [kR.out]);(try rw [Eb.out]);(try rw [yw.out]);first|done|rfl,dS⟩
noncomputable def jr (x : ak) : Bool:=if x.f0 = 1 ∨ x.f0 = 43 ∨ x.f0 = 46 then FP x else !x.f3 && FP x
theorem itself.all {x : ak} {A : Option Addr} {c : Nat} {w : World} (hs : gY x.f1) (hG : aH w) (hn : ND w x A c) : Calls Tryz.prog 32 #[val x A c] w (bg (jr x) w):=by
 by_cases h1 : x.f0 = 1
 · rw [show jr x = FP x from by unfold jr;rw [if_pos (Or.inl h1)]];exact itself.k1 h1 hs hG hn
 · by_cases h43 : x.f0 = 43
   · rw [show jr x = FP x from by unfold jr;rw [if_pos (Or.inr (Or.inl h43))]];exact itself.k43 h43 hs hG hn
   · by_cases h46 : x.f0 = 46
     · rw [show jr x = FP x from by unfold jr;rw [if_pos (Or.inr (Or.inr h46))]];exact itself.k46 h46 hs hG hn
     · have hno : ¬ (x.f0 = 1 ∨ x.f0 = 43 ∨ x.f0 = 46):=by omega
       cases hf : x.f3 with
       | true =>
        rw [show jr x = itNo x from by unfold jr itNo;rw [if_neg hno,hf];rfl];exact itself.flag h1 h43 h46 hf hG hn
       | false =>
        rw [show jr x = FP x from by unfold jr;rw [if_neg hno,hf];rfl];obtain ⟨f0,f1,f2,f3,l,p⟩:=x;obtain rfl : f3 = false:=hf;exact itself.plain h1 h43 h46 hs hG hn
inductive nI : ak → Prop
 | mk (x : ak) (h : gY x.f1) (hk : ∀ y ∈ x.f4,nI y) : nI x
theorem nI.str {x : ak} (h : nI x) : gY x.f1:=by cases h;assumption
theorem nI.kid {x y : ak} (h : nI x) (hy : y ∈ x.f4) : nI y:=by
 cases h with
 | mk _ _ hk => exact hk y hy
noncomputable def Ec : Nat → ak → Bool
 | 0,_ => false
 | n + 1,x => jr x && x.f4.all (Ec n)
noncomputable def bK (x : ak) : Bool:=Ec (SizeOf.sizeOf x + 1) x
theorem KJ : ∀ (n m : Nat) (x : ak),SizeOf.sizeOf x < n → SizeOf.sizeOf x < m → Ec n x = Ec m x
 | 0,_,x,h,_ => absurd h (Nat.not_lt_zero _)
 | _ + 1,0,x,_,h => absurd h (Nat.not_lt_zero _)
 | n + 1,m + 1,x,h1,h2 => by
  unfold Ec;congr 1;rw [Bool.eq_iff_iff,List.all_eq_true,List.all_eq_true];have e : ∀ y ∈ x.f4,Ec n y = Ec m y:=fun y hy => KJ n m y (by have:=dI hy;omega) (by have:=dI hy;omega)
  exact ⟨fun h y hy => by rw [← e y hy];exact h y hy,fun h y hy => by rw [e y hy];exact h y hy⟩
noncomputable def FQ (x : ak) : Bool:=(jr x) && (x.f4.all bK)
theorem xR (x : ak) : bK x = FQ x:=by
 show (jr x && x.f4.all (Ec (SizeOf.sizeOf x))) = _
 unfold FQ;congr 1;rw [Bool.eq_iff_iff,List.all_eq_true,List.all_eq_true];have e : ∀ y ∈ x.f4,Ec (SizeOf.sizeOf x) y = bK y:=fun y hy => KJ _ _ y (dI hy) (Nat.lt_succ_self _)
 exact ⟨fun h y hy => by rw [← e y hy];exact h y hy,fun h y hy => by rw [e y hy];exact h y hy⟩
theorem may.step {x : ak} {A : Option Addr} {c : Nat} {w : World} (hs : gY x.f1) (ha : Asks 20 #[] bK x.f4 w) (hG : aH w) (hn : ND w x A c) : Calls Tryz.prog 20 #[val x A c] w (bg (FQ x) w):=by
 have E:=Env.start hG hn;clear hn hG;have HS:=Am hs;clear hs;have HA:=Am ha;clear ha;cases h0 : (jr x);rotate_left 1;cases h1 : (x.f4.all bK);rotate_right 1
 all_goals
  try (have fF:=Am h0;clear h0)
  try (have jK:=Am h1;clear h1)
  go_enter Tryz.func20,Tryz.ntmps20
  go_wp2_with (first
   | (go_at_call 32;(try clear c0 c1 c2 c3 c4 c5);(with_reducible refine Env.call E E.out fF.out (itself.all HS.out E.out.bH E.out.nd) (fun w1 E c0 c1 c2 c3 c4 c5 => ?_)))
   | (go_at_call 33;(try clear c0 c1 c2 c3 c4 c5);(with_reducible refine Env.call E E.out jK.out (every.calls x.f4 A c _ E.out.kids 20 #[] bK (enters_of Tryz.func20 (by kernel_rfl) rfl) (HA.out.below E.out.b)) (fun w1 E c0 c1 c2 c3 c4 c5 => ?_)))
   | fail)
  go_ret
  exact ⟨by unfold FQ;(try rw [fF.out]);(try rw [jK.out]);first|done|rfl,dS⟩
theorem may.fuel : ∀ (n : Nat) (x : ak),SizeOf.sizeOf x < n → nI x → ∀ (A : Option Addr) (c : Nat) (w : World),aH w → ND w x A c → Calls Tryz.prog 20 #[val x A c] w (bg (bK x) w)
 | 0,_,h,_,_,_,_,_,_ => absurd h (Nat.not_lt_zero _)
 | n + 1,x,h,hs,A,c,w,hG,hn => by
  rw [xR];exact may.step hs.str (fun y hy W A c hW hn => by rw [Array.append_empty];exact may.fuel n y (by have:=dI hy;omega) (hs.kid hy) A c W (hG.below hW) hn) hG hn
theorem may.all {x : ak} {A : Option Addr} {c : Nat} {w : World} (hs : nI x) (hG : aH w) (hn : ND w x A c) : Calls Tryz.prog 20 #[val x A c] w (bg (bK x) w):=may.fuel _ x (Nat.lt_succ_self _) hs A c w hG hn
def IntP (v : Int) (w : World) (e : Ending) (w' : World) : Prop:=e = .returned (.int .i64 v) ∧ Below w.heap.size w w'
noncomputable def gX (r : Int) (x : ak) : Int:=if ((x.f0 != 40) || ((r == 0) || !(bK x))) = true then 80 else 0
theorem Check.all {x : ak} {A : Option Addr} {c : Nat} {w : World} (k : Nat) (r : Int) (hr0 : jW.f k x.f0 x.f1 x.f2 x.f3 x.f4 x.f5 = some r) (hs : nI x) (hG : aH w) (hn : ND w x A c) : Calls Tryz.prog 8 #[val x A c] w (IntP (gX r x) w):=by
 have E:=Env.start hG hn;clear hn hG;have HS:=Am hs;have hr:=Am hr0;clear hs hr0;cases h0 : (x.f0 != 40);cases h2 : (r == 0);cases h3 : (bK x);all_goals
  try have iU : (x.f0 == 40) = false:=by rw [bne] at h0;simpa using h0
  try have iU : (x.f0 == 40) = true:=by rw [bne] at h0;simpa using h0
  try (have kR:=Am h3;clear h3)
  go_enter Tryz.func8,Tryz.ntmps8
  go_wp2_with (first
   | (go_at_call 16;(try clear c0 c1 c2 c3 c4 c5);(with_reducible refine (jW.calls k _ _ _ _ A c _ _ r _ E.out.kids E.out.k.le hr.out).mono ?_);rintro e w1 ⟨rfl,hB⟩;replace E:=Am (E.out.step hB);clear hB;obtain ⟨c0,c1,c2,c3,c4,c5⟩:=E.out.cells)
   | (go_at_call 20;(try clear c0 c1 c2 c3 c4 c5);(with_reducible refine Env.call E E.out kR.out (may.all HS.out E.out.bH E.out.nd) (fun w1 E c0 c1 c2 c3 c4 c5 => ?_)))
   | fail)
  go_ret
  exact ⟨by unfold gX;(try rw [h0]);(try rw [h2]);(try rw [kR.out]);first|done|rfl,dS⟩
open Go.Proofs.YtboojhadfhpdeaaGreatDoor.Lex
def aI (x : ak) (a b c : Bool) : Bool:=(a || (x.f1.toList == ([] : List UInt8))) && (b || (x.f2 == 0)) && (c || !x.f3)
theorem parts_f (x : ak) (a b c : Bool) : fE.f x.f0 x.f1 x.f2 x.f3 x.f4 x.f5 a b c = some (aI x a b c):=by
 unfold fE.f aI;by_cases h1 : x.f1.toList = ([] : List UInt8) <;> by_cases h2 : x.f2 = 0 <;> cases a <;> cases b <;> cases c <;> simp [h1,h2]
theorem og {p q : ak → Bool} (l : List ak) : (l.all p && l.all q) = l.all fun x => p x && q x:=by
 induction l with
 | nil => rfl
 | cons y l ih =>
  simp only [List.all_cons];rw [← ih];cases p y <;> cases q y <;> cases l.all p <;> cases l.all q <;> rfl
noncomputable def bJ (x : ak) : Bool:=gQ x && bK x
noncomputable def stB (x : ak) : Bool:=isS x && bK x
noncomputable def uN (x : ak) : Bool:=decide (x.f0 = 16) && bK x
theorem Ig {x : ak} (h1 : 1 ≤ x.f0) (h2 : x.f0 ≤ 16) : bK x = ((decide (x.f0 = 1) || !x.f3) && aV x && x.f4.all bK):=by
 rw [xR];unfold FQ jr FP;have hE : ((gQ x) || (x.f0 == 16)) = true:=by
  unfold gQ;by_cases h : x.f0 = 16
  · simp [h]
  · simp only [Bool.or_eq_true,Bool.and_eq_true,decide_eq_true_eq];exact Or.inl ⟨h1,by omega⟩
 rw [if_pos hE];by_cases h : x.f0 = 1
 · rw [if_pos (Or.inl h),decide_eq_true h];simp
 · rw [if_neg (by omega),decide_eq_false h];simp
theorem isE_of {x : ak} (h1 : 1 ≤ x.f0) (h2 : x.f0 ≤ 15) : gQ x = true:=by
 unfold gQ;rw [decide_eq_true h1,decide_eq_true h2];rfl
theorem MH (x : ak) (hs : gY x.f1) : Ev (fun k => bF.f k x.f0 x.f1 x.f2 x.f3 x.f4 x.f5) (uN x):=by
 unfold bF.f uN;by_cases h16 : x.f0 = 16
 · refine bD h16 ?_;rw [parts_f,decide_eq_true h16,Ig (by omega) (by omega)];simp only [Option.bind_some];have e : aV x = e16 x:=by unfold aV;simp [h16]
   rw [e];cases hp : aI x true false false with
   | true =>
    refine bD rfl ?_;have h:=H9 x hs (decide ((x.f4.length : Int) > 0));unfold aI at hp;simp only [Bool.true_or,Bool.false_or,Bool.true_and,Bool.and_eq_true,Bool.not_eq_true'] at hp;have e2 : (true && ((decide (x.f0 = 1) || !x.f3) && e16 x && x.f4.all bK)) = (!decide ((x.f4.length : Int) > 0) && tyB x.f1):=by
     unfold e16;rw [hp.1,hp.2];by_cases h0 : x.f4.length = 0
     · have : x.f4 = []:=List.eq_nil_of_length_eq_zero h0;rw [this];cases tyB x.f1 <;> simp
     · rw [decide_eq_true (show (x.f4.length : Int) > 0 by omega),show ((x.f4.length : Int) == 0) = false from beq_eq_false_iff_ne.2 (by omega)];simp
    rw [e2];exact h
   | false =>
    refine dM (by decide) ?_;have h:=H9 x hs true;unfold aI at hp;simp only [Bool.true_or,Bool.false_or,Bool.true_and] at hp;have e2 : (true && ((decide (x.f0 = 1) || !x.f3) && e16 x && x.f4.all bK)) = (!true && tyB x.f1):=by
     unfold e16;have h1 : decide (x.f0 = 1) = false:=decide_eq_false (by omega);rw [h1];cases h2 : (x.f2 == 0) with
     | false => simp
     | true =>
      rw [h2] at hp;cases h3 : x.f3 with
      | true => simp
      | false => rw [h3] at hp;cases hp
    rw [e2];exact h
 · refine dM h16 ?_;rw [decide_eq_false h16];have h:=H9 x hs true;exact h
theorem tX (p : ak → Bool) (l : List ak) : aU [p] l = (decide (l.length = 1) && p (nd l 0)):=by
 unfold aU mP;simp [List.range_succ,yL]
theorem shape2 (p q : ak → Bool) (l : List ak) : aU [p,q] l = (decide (l.length = 2) && (p (nd l 0) && q (nd l 1))):=by
 unfold aU mP;simp [List.range_succ,yL]
theorem shape3 (p q r : ak → Bool) (l : List ak) : aU [p,q,r] l = (decide (l.length = 3) && (p (nd l 0) && q (nd l 1) && r (nd l 2))):=by
 unfold aU mP;simp [List.range_succ,yL,Bool.and_assoc]
theorem shape4 (p q r s : ak → Bool) (l : List ak) : aU [p,q,r,s] l = (decide (l.length = 4) && (p (nd l 0) && q (nd l 1) && r (nd l 2) && s (nd l 3))):=by
 unfold aU mP;simp [List.range_succ,yL,Bool.and_assoc]
theorem len1 {l : List ak} (h : l.length = 1) : ∃ a,l = [a]:=by
 match l,h with
 | [a],_ => exact ⟨a,rfl⟩
theorem len2 {l : List ak} (h : l.length = 2) : ∃ a b,l = [a,b]:=by
 match l,h with
 | [a,b],_ => exact ⟨a,b,rfl⟩
theorem len3 {l : List ak} (h : l.length = 3) : ∃ a b c,l = [a,b,c]:=by
 match l,h with
 | [a,b,c],_ => exact ⟨a,b,c,rfl⟩
theorem len4 {l : List ak} (h : l.length = 4) : ∃ a b c d,l = [a,b,c,d]:=by
 match l,h with
 | [a,b,c,d],_ => exact ⟨a,b,c,d,rfl⟩
def exs (n : Int) (x : ak) (p : ak → Bool) : Bool:=(decide (n < 0) || ((x.f4.length : Int) == n)) && x.f4.all p
theorem exs0 (x : ak) (p q : ak → Bool) : exs 0 x p = (((x.f4.length : Int) == 0) && x.f4.all q):=by
 unfold exs;by_cases h : x.f4.length = 0
 · rw [List.eq_nil_of_length_eq_zero h];rfl
 · rw [show ((x.f4.length : Int) == 0) = false from beq_eq_false_iff_ne.2 (by omega)];rfl
theorem exs1 (x : ak) : exs 1 x bJ = (aU [gQ] x.f4 && x.f4.all bK):=by
 unfold exs;rw [tX];by_cases h : x.f4.length = 1
 · obtain ⟨a,ha⟩:=len1 h;rw [ha];simp [nd,bJ]
 · rw [decide_eq_false h,show ((x.f4.length : Int) == 1) = false from beq_eq_false_iff_ne.2 (by omega)];rfl
theorem exs2 (x : ak) : exs 2 x bJ = (aU [gQ,gQ] x.f4 && x.f4.all bK):=by
 unfold exs;rw [shape2];by_cases h : x.f4.length = 2
 · obtain ⟨a,b,ha⟩:=len2 h;rw [ha];simp [nd,bJ];cases gQ a <;> cases gQ b <;> cases bK a <;> cases bK b <;> rfl
 · rw [decide_eq_false h,show ((x.f4.length : Int) == 2) = false from beq_eq_false_iff_ne.2 (by omega)];rfl
theorem exs3 (x : ak) : exs 3 x bJ = (aU [gQ,gQ,gQ] x.f4 && x.f4.all bK):=by
 unfold exs;rw [shape3];by_cases h : x.f4.length = 3
 · obtain ⟨a,b,c,ha⟩:=len3 h;rw [ha];simp [nd,bJ];cases gQ a <;> cases gQ b <;> cases gQ c <;> cases bK a <;> cases bK b <;> cases bK c <;> rfl
 · rw [decide_eq_false h,show ((x.f4.length : Int) == 3) = false from beq_eq_false_iff_ne.2 (by omega)];rfl
theorem exsn (x : ak) : exs (-1) x bJ = (x.f4.all gQ && x.f4.all bK):=by
 unfold exs;rw [og];rfl
theorem isP_E {x : ak} (h : EH x = true) : gQ x = true:=by
 unfold EH at h;simp only [Bool.or_eq_true,decide_eq_true_eq] at h;exact isE_of (by omega) (by omega)
theorem exsP (x : ak) : (exs 2 x bJ && EH (nd x.f4 0)) = (aU [EH,gQ] x.f4 && x.f4.all bK):=by
 unfold exs;rw [shape2];by_cases h : x.f4.length = 2
 · obtain ⟨a,b,ha⟩:=len2 h;rw [ha];simp [nd,bJ];cases hp : EH a with
   | true => rw [isP_E hp];cases gQ b <;> cases bK a <;> cases bK b <;> rfl
   | false => cases gQ a <;> cases gQ b <;> cases bK a <;> cases bK b <;> rfl
 · rw [decide_eq_false h,show ((x.f4.length : Int) == 2) = false from beq_eq_false_iff_ne.2 (by omega)];rfl
theorem lJ {x : ak} (h1 : 1 ≤ x.f0) (h2 : x.f0 ≤ 15) {b : Bool} (e : aV x = b) : bJ x = ((decide (x.f0 = 1) || !x.f3) && b && x.f4.all bK):=by
 unfold bJ;rw [isE_of h1 h2,Ig h1 (by omega),e,Bool.true_and]
theorem cast_eq (x : ak) : (decide (x.f4.length = 2) && (uN (nd x.f4 0) && bJ (nd x.f4 1))) = (aU [fun x => decide (x.f0 = 16),gQ] x.f4 && x.f4.all bK):=by
 rw [shape2];by_cases h : x.f4.length = 2
 · obtain ⟨a,b,ha⟩:=len2 h;rw [ha];simp [nd,bJ,uN];cases decide (a.f0 = 16) <;> cases gQ b <;> cases bK a <;> cases bK b <;> rfl
 · rw [decide_eq_false h];rfl
theorem size_eq (x : ak) : (decide (x.f4.length = 1) && (uN (nd x.f4 0) || bJ (nd x.f4 0))) = (aU [fun x => decide (x.f0 = 16) || gQ x] x.f4 && x.f4.all bK):=by
 rw [tX];by_cases h : x.f4.length = 1
 · obtain ⟨a,ha⟩:=len1 h;rw [ha];simp [nd,bJ,uN];cases decide (a.f0 = 16) <;> cases gQ a <;> cases bK a <;> rfl
 · rw [decide_eq_false h];rfl
theorem uG (x : ak) : isS x = true ↔ 47 ≤ x.f0 ∧ x.f0 ≤ 56:=by
 unfold isS;simp only [Bool.or_eq_true,Bool.and_eq_true,decide_eq_true_eq];omega
theorem KL (x : ak) : gQ x = true ↔ 1 ≤ x.f0 ∧ x.f0 ≤ 15:=by
 unfold gQ;simp only [Bool.and_eq_true,decide_eq_true_eq]
theorem Ih {x : ak} (h : ¬ (1 ≤ x.f0 ∧ x.f0 ≤ 15)) : gQ x = false:=Bool.eq_false_iff.2 fun e => h ((KL x).1 e)
theorem isS_no {x : ak} (h : ¬ (47 ≤ x.f0 ∧ x.f0 ≤ 56)) : isS x = false:=Bool.eq_false_iff.2 fun e => h ((uG x).1 e)
theorem Au {x : ak} (h : 47 ≤ x.f0 ∧ x.f0 ≤ 56) : bK x = (!x.f3 && eU x && x.f4.all bK):=by
 rw [xR];unfold FQ jr FP;rw [if_neg (by omega),Ih (by omega),show (x.f0 == 16) = false from beq_eq_false_iff_ne.2 (by omega),(uG x).2 h];rfl
theorem rO {x : ak} (h : 40 ≤ x.f0 ∧ x.f0 ≤ 46) : bK x = ((decide (x.f0 = 43) || decide (x.f0 = 46) || !x.f3) && fQ x && x.f4.all bK):=by
 rw [xR];unfold FQ jr FP;rw [Ih (by omega),show (x.f0 == 16) = false from beq_eq_false_iff_ne.2 (by omega),isS_no (by omega)];by_cases h43 : x.f0 = 43
 · rw [if_pos (Or.inr (Or.inl h43)),decide_eq_true h43];rfl
 · by_cases h46 : x.f0 = 46
   · rw [if_pos (Or.inr (Or.inr h46)),decide_eq_true h46,decide_eq_false h43];rfl
   · rw [if_neg (by omega),decide_eq_false h43,decide_eq_false h46];rfl
noncomputable def noT (x : ak) : Bool:=decide (x.f0 = 56) && bK x
noncomputable def liT (x : ak) : Bool:=decide (x.f0 = 44) && bK x
theorem noE (y : ak) : (noT y || bJ y) = (BD y && bK y):=by
 unfold noT bJ BD;cases decide (y.f0 = 56) <;> cases gQ y <;> cases bK y <;> rfl
theorem liT_eq {y : ak} (h : y.f0 = 44) : liT y = (aI y false false false && (decide (y.f4.length ≠ 0) && y.f4.all bJ)):=by
 unfold liT;rw [decide_eq_true h,rO (by omega),show fQ y = d44 y from by unfold fQ;simp [h],decide_eq_false (show ¬ y.f0 = 43 by omega),decide_eq_false (show ¬ y.f0 = 46 by omega)];have e : y.f4.all bJ = (y.f4.all gQ && y.f4.all bK):=by
  rw [og];rfl
 rw [e];unfold aI d44;by_cases h0 : y.f4.length = 0
 · rw [decide_eq_false (show ¬ (y.f4.length : Int) > 0 by omega),decide_eq_false (show ¬ y.f4.length ≠ 0 by omega)];cases (y.f1.toList == ([] : List UInt8)) <;> cases (y.f2 == 0) <;> cases y.f3 <;> rfl
 · rw [decide_eq_true (show (y.f4.length : Int) > 0 by omega),decide_eq_true (show y.f4.length ≠ 0 from h0)];cases (y.f1.toList == ([] : List UInt8)) <;> cases (y.f2 == 0) <;> cases y.f3 <;> cases y.f4.all gQ <;> cases y.f4.all bK <;> rfl
noncomputable def endT (bare flag : Bool) (l : List ak) : Bool:=decide (l.length = 0) || (!bare && (decide (l.length = 1) && (bJ (nd l 0) || (flag && liT (nd l 0)))))
noncomputable def Ii (bare : Bool) (x : ak) : Bool:=decide (x.f0 = 43) && bK x && (!bare || kZ x)
noncomputable def vaK (bare : Bool) (x : ak) : Bool:=if x.f3 = true then decide (x.f4.length ≠ 0) && ((noT (nd x.f4 0) || bJ (nd x.f4 0)) && endT bare true (x.f4.drop 1)) else endT bare false x.f4
theorem iP (l : List ak) (i : Nat) : nd (l.drop 1) i = nd l (i + 1):=by
 unfold nd;rw [List.getD_eq_getElem?_getD,List.getD_eq_getElem?_getD,List.getElem?_drop,Nat.add_comm]
theorem vaT_eq {x : ak} (h : x.f0 = 43) (bare : Bool) : Ii bare x = (aI x true false true && (jD x.f1 && vaK bare x)):=by
 unfold Ii;rw [decide_eq_true h,rO (by omega),show fQ x = d43 x from by unfold fQ;simp [h],decide_eq_true h];unfold kZ d43 aI vaK Ic endT;rw [decide_eq_true h];by_cases hf3 : x.f3 = true
 · rw [if_pos hf3,if_pos hf3,hf3]
   match hx : x.f4 with
   | [] => simp
   | [a] =>
    simp only [List.length_cons,List.length_nil,nd,List.getD_cons_zero,List.drop_succ_cons,List.drop_zero,List.all_cons,List.all_nil];rw [noE];cases BD a <;> cases bK a <;> cases jD x.f1 <;> cases (x.f2 == 0) <;> cases bare <;> simp
   | [a,b] =>
    simp only [List.length_cons,List.length_nil,nd,List.getD_cons_zero,List.getD_cons_succ,List.drop_succ_cons,List.drop_zero,List.all_cons,List.all_nil];rw [noE];unfold bJ liT;cases BD a <;> cases bK a <;> cases jD x.f1 <;> cases (x.f2 == 0) <;> cases bare <;> cases gQ b <;> cases decide (b.f0 = 44) <;> cases bK b <;> simp
   | a :: b :: c :: t =>
    simp
 · have hff:=Bool.eq_false_iff.2 hf3;rw [if_neg hf3,if_neg hf3,hff]
   match hx : x.f4 with
   | [] => cases jD x.f1 <;> cases (x.f2 == 0) <;> simp
   | [a] =>
    simp only [List.length_cons,List.length_nil,nd,List.getD_cons_zero,List.all_cons,List.all_nil];unfold bJ liT;cases gQ a <;> cases bK a <;> cases jD x.f1 <;> cases (x.f2 == 0) <;> cases bare <;> simp
   | a :: b :: t =>
    simp
noncomputable def zO (bare : Bool) (x : ak) : Bool:=decide (x.f0 = 42) && bK x && (!bare || x.f4.all kZ)
theorem vsT_eq {x : ak} (h : x.f0 = 42) (bare : Bool) : zO bare x = (aI x false false false && (decide (2 ≤ x.f4.length) && (uN (nd x.f4 0) && (x.f4.drop 1).all (Ii bare)))):=by
 unfold zO;rw [decide_eq_true h,rO (by omega),show fQ x = Bf x from by unfold fQ;simp [h],decide_eq_false (show ¬ x.f0 = 43 by omega),decide_eq_false (show ¬ x.f0 = 46 by omega)];unfold Bf aI
 match hx : x.f4 with
 | [] => simp
 | [a] => simp
 | a :: t =>
  simp only [List.drop_succ_cons,List.drop_zero,List.tail_cons,nd,List.getD_cons_zero,List.all_cons];have e : t.all (Ii bare) = (t.all (fun y => decide (y.f0 = 43)) && t.all bK && (!bare || t.all kZ)):=by
   rw [og];cases bare with
   | false =>
    simp only [Bool.not_false,Bool.true_or,Bool.and_true];congr 1
    funext y
    unfold Ii;simp
   | true =>
    simp only [Bool.not_true,Bool.false_or];rw [og];rfl
  rw [e];by_cases h16 : a.f0 = 16
  · have hb : kZ a = true:=by unfold kZ;rw [decide_eq_false (show ¬ a.f0 = 43 by omega)];rfl
    unfold uN;rw [decide_eq_true h16,hb];cases (x.f1.toList == ([] : List UInt8)) <;> cases (x.f2 == 0) <;> cases x.f3 <;> cases decide (2 ≤ (a :: t).length) <;> cases bK a <;> cases bare <;> cases t.all (fun y => decide (y.f0 = 43)) <;> cases t.all bK <;> cases t.all kZ <;> rfl
  · unfold uN;rw [decide_eq_false h16];cases (x.f1.toList == ([] : List UInt8)) <;> cases (x.f2 == 0) <;> cases x.f3 <;> cases decide (2 ≤ (a :: t).length) <;> simp
noncomputable def FT (x : ak) : Bool:=decide (x.f0 = 41) && bK x
noncomputable def Ed (x : ak) : Bool:=decide (x.f0 = 47) && bK x
theorem blT_eq {x : ak} (h : x.f0 = 47) : Ed x = (aI x false false false && x.f4.all (fun y => zO false y || stB y)):=by
 unfold Ed;rw [decide_eq_true h,Au (by omega),show eU x = s47 x from by unfold eU;simp [h]];have e1 : x.f4.all (fun y => zO false y || stB y) = (x.f4.all (fun y => isS y || decide (y.f0 = 42)) && x.f4.all bK):=by
  rw [og];congr 1
  funext y
  unfold zO stB;cases decide (y.f0 = 42) <;> cases bK y <;> cases isS y <;> simp
 rw [e1];unfold s47 aI;cases (x.f1.toList == ([] : List UInt8)) <;> cases (x.f2 == 0) <;> cases x.f3 <;> cases x.f4.all (fun y => isS y || decide (y.f0 = 42)) <;> cases x.f4.all bK <;> rfl
noncomputable def paT (x : ak) : Bool:=decide (x.f0 = 46) && bK x
theorem paT_eq {x : ak} (h : x.f0 = 46) : paT x = (decide (x.f2 ≤ 1) && (!(x.f3 && (x.f2 == 1)) && (jD x.f1 && (decide (x.f4.length = 1) && uN (nd x.f4 0))))):=by
 unfold paT;rw [decide_eq_true h,rO (by omega),show fQ x = d46 x from by unfold fQ;simp [h],decide_eq_true h];unfold d46;rw [tX];by_cases h1 : x.f4.length = 1
 · obtain ⟨a,ha⟩:=len1 h1;rw [ha];unfold uN;simp only [List.length_cons,List.length_nil,nd,List.getD_cons_zero,List.all_cons,List.all_nil];cases jD x.f1 <;> cases decide (x.f2 ≤ 1) <;> cases x.f3 <;> cases (x.f2 == 1) <;> cases decide (a.f0 = 16) <;> cases bK a <;> cases decide (x.f0 = 43) <;> rfl
 · rw [decide_eq_false h1];cases jD x.f1 <;> cases decide (x.f2 ≤ 1) <;> cases x.f3 <;> cases (x.f2 == 1) <;> cases decide (x.f0 = 43) <;> rfl
noncomputable def fnT (x : ak) : Bool:=decide (x.f0 = 45) && bK x
theorem ends_of {l : List ak} (h : 2 ≤ l.length) : ∃ a m z,l = a :: (m ++ [z]):=by
 match l,h with
 | a :: b :: t,_ => exact ⟨a,(b :: t).dropLast,(b :: t).getLast (by simp),by rw [List.dropLast_concat_getLast]⟩
theorem fnT_eq {x : ak} (h : x.f0 = 45) : fnT x = (aI x true false false && (jD x.f1 && (decide (2 ≤ x.f4.length) && (uN (nd x.f4 0) && (Ed (nd x.f4 (x.f4.length - 1)) && ((x.f4.take (x.f4.length - 1)).drop 1).all paT))))):=by
 unfold fnT;rw [decide_eq_true h,rO (by omega),show fQ x = d45 x from by unfold fQ;simp [h],decide_eq_false (show ¬ x.f0 = 43 by omega),decide_eq_false (show ¬ x.f0 = 46 by omega)];unfold d45 aI rM;by_cases h2 : 2 ≤ x.f4.length
 · rw [decide_eq_true h2];obtain ⟨a,m,z,ha⟩:=ends_of h2;rw [ha];have e1 : (a :: (m ++ [z])).length - 1 = m.length + 1:=by simp
   have e2 : (a :: (m ++ [z])).take (m.length + 1) = a :: m:=by simp
   have e3 : nd (a :: (m ++ [z])) (m.length + 1) = z:=by simp [nd]
   have e4 : nd (a :: (m ++ [z])) 0 = a:=rfl;rw [e1,e2,e3,e4];simp only [List.tail_cons,List.drop_succ_cons,List.drop_zero,List.all_cons,List.all_append,List.all_nil];have e5 : m.all paT = (m.all (fun y => decide (y.f0 = 46)) && m.all bK):=by
    rw [og];rfl
   rw [e5];unfold uN Ed;cases jD x.f1 <;> cases (x.f2 == 0) <;> cases x.f3 <;> cases decide (a.f0 = 16) <;> cases decide (z.f0 = 47) <;> cases bK a <;> cases bK z <;> cases m.all (fun y => decide (y.f0 = 46)) <;> cases m.all bK <;> rfl
 · rw [decide_eq_false h2];cases jD x.f1 <;> cases (x.f2 == 0) <;> cases x.f3 <;> rfl
theorem CP : ∀ (n : Nat) (x : ak),bK x = true → xP n x = xQ n x
 | 0,_,_ => rfl
 | n + 1,x,h => by
  have hk : ∀ y ∈ x.f4,bK y = true:=by
   rw [xR] at h;unfold FQ at h;rw [Bool.and_eq_true,List.all_eq_true] at h;exact h.2
  have last (h0 : ¬ x.f4.length = 0) : xP n (nd x.f4 (x.f4.length - 1)) = xQ n (nd x.f4 (x.f4.length - 1)):=CP n _ (hk _ (Ea h0));unfold xP xQ;by_cases sD : x.f0 = 49
  · rw [if_pos sD,if_pos sD];have h23 : x.f4.length = 2 ∨ x.f4.length = 3:=by
     rw [Au (by omega),show eU x = s49 x from by unfold eU;simp [sD]] at h;unfold s49 at h;rw [show aU (gES.map (·.2)) x.f4 = aU [gQ,isS] x.f4 from rfl,show aU (FH.map (·.2)) x.f4 = aU [gQ,isS,isS] x.f4 from rfl,shape2,shape3] at h;simp only [Bool.and_eq_true,Bool.or_eq_true,decide_eq_true_eq] at h;omega
    rcases h23 with h2|h3
    · rw [if_pos h2,if_pos h2]
    · rw [if_neg (by omega),if_neg (by omega),if_neg (by omega),if_pos h3,show x.f4.length - 1 = 2 by omega];have:=last (by omega);rw [show x.f4.length - 1 = 2 by omega] at this;exact this
  · rw [if_neg sD,if_neg sD];by_cases h5 : x.f0 = 50 ∨ x.f0 = 52
    · rw [if_pos h5,if_pos h5];by_cases h0 : x.f4.length = 0
      · rw [if_pos h0,if_pos h0]
      · rw [if_neg h0,if_neg h0,last h0]
    · rw [if_neg h5,if_neg h5]
theorem vM {x : ak} (h : 47 ≤ x.f0 ∧ x.f0 ≤ 56) : stB x = (!x.f3 && eU x && x.f4.all bK):=by
 unfold stB;rw [(uG x).2 h,Au h,Bool.true_and]
theorem KO (p q : ak → Bool) (l : List ak) : (decide (l.length = 2) && (p (nd l 0) && bK (nd l 0) && (q (nd l 1) && bK (nd l 1)))) = (aU [p,q] l && l.all bK):=by
 rw [shape2];by_cases h : l.length = 2
 · obtain ⟨a,b,ha⟩:=len2 h;rw [ha];simp [nd];cases p a <;> cases q b <;> cases bK a <;> cases bK b <;> rfl
 · rw [decide_eq_false h];rfl
end Go.Proofs.YtboojhadfhpdeaaGreatDoor.Q
