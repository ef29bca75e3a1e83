/- A part of the proof, made small by a program: T1, T2, ExtV. -/
import Derived.Shelf.Small.Strs
import Derived.Test.YtboojhadfhpdeaaGreatDoorVp2
import Derived.Test.YtboojhadfhpdeaaGreatDoorVp11
import Derived.Test.YtboojhadfhpdeaaGreatDoorVp20
import Derived.Test.YtboojhadfhpdeaaGreatDoorVp21
set_option linter.unusedVariables false
set_option linter.unusedSimpArgs false
set_option maxHeartbeats 8000000
set_option maxRecDepth 100000
namespace Go.Proofs.YtboojhadfhpdeaaGreatDoor.Q
open Go.RowKit Go.Proofs.YtboojhadfhpdeaaGreatDoorW.PrintWords Go.Proofs.YtboojhadfhpdeaaGreatDoorW.PrintLast Go.Proofs.YtboojhadfhpdeaaGreatDoorW.PrintMore
def jJ (y : ak) : Prop:=∀ (A : Option Addr) (c : Nat) (w : World),aH w → ND w y A c → Calls Tryz.prog 83 #[val y A c] w (bg (bJ y) w)
def qQ (y : ak) : Prop:=∀ (A : Option Addr) (c : Nat) (w : World),aH w → ND w y A c → Calls Tryz.prog 52 #[val y A c] w (bg (stB y) w)
theorem jJ.go {y : ak} {A : Option Addr} {c : Nat} {w : World} (h : jJ y) (hG : aH w) (hn : ND w y A c) : Calls Tryz.prog 83 #[val y A c] w (bg (bJ y) w):=h A c w hG hn
theorem qQ.go {y : ak} {A : Option Addr} {c : Nat} {w : World} (h : qQ y) (hG : aH w) (hn : ND w y A c) : Calls Tryz.prog 52 #[val y A c] w (bg (stB y) w):=h A c w hG hn
section
variable {s : ByteArray} {w : World}
theorem sF.all (hs : gY s) (hG : aH w) : Calls Tryz.prog 34 #[.string s] w (bg (jD s) w):=by
 obtain ⟨k,hk⟩:=(nm_ref s hs).rounds;refine (gu.calls k s _ w hk).mono ?_;rintro e w' ⟨rfl,h⟩;exact ⟨rfl,h.below⟩
theorem KP.all (t : ByteArray) (ht : t.size ≤ 1000) (hs : gY s) (hG : aH w) : Calls Tryz.prog 97 #[.string t,.string s] w (bg (nP t.data.toList s.data.toList) w):=by
 obtain ⟨k,hk⟩:=(sign_ref t s ht hs).rounds;refine (aK.calls k t s _ w hk).mono ?_;rintro e w' ⟨rfl,h⟩;exact ⟨rfl,h.below⟩
end
theorem eX.all {x : ak} {A : Option Addr} {c : Nat} {w : World} (a b d : Bool) (hG : aH w) (hn : ND w x A c) : Calls Tryz.prog 21 #[val x A c,.bool a,.bool b,.bool d] w (bg (aI x a b d) w):=by
 have E:=Env.start hG hn;clear hn hG;cases h0 : (a);cases h5 : (x.f1.toList == ([] : List UInt8));rotate_left 1;cases h1 : (b);rotate_right 1
 rotate_left 1;cases h4 : (x.f2 == 0);rotate_right 1
 rotate_left 2;cases h2 : (d);rotate_right 2
 rotate_left 2;cases h3 : (x.f3);rotate_right 2
 rotate_left 5;cases h2 : (d);rotate_right 5
 rotate_left 5;cases h3 : (x.f3);rotate_right 5
 rotate_left 8;cases h1 : (b);rotate_right 8
 rotate_left 8;cases h4 : (x.f2 == 0);rotate_right 8
 rotate_left 9;cases h2 : (d);rotate_right 9
 rotate_left 9;cases h3 : (x.f3);rotate_right 9
 rotate_left 12;cases h2 : (d);rotate_right 12
 rotate_left 12;cases h3 : (x.f3);rotate_right 12
 all_goals
  try have h4m0 : (x.f2 != 0) = false:=by rw [bne,h4];rfl
  try have h4m0 : (x.f2 != 0) = true:=by rw [bne,h4];rfl
  try have h5m0 : (x.f1.toList != ([] : List UInt8)) = false:=by rw [bne,h5];rfl
  try have h5m0 : (x.f1.toList != ([] : List UInt8)) = true:=by rw [bne,h5];rfl
  go_enter Tryz.func21,Tryz.ntmps21
  go_wp2
  go_ret
  exact ⟨by unfold aI;(try rw [h0]);(try rw [h1]);(try rw [h2]);(try rw [h3]);(try rw [h4]);(try rw [h5]);first|done|rfl,dS⟩
theorem aT {w : World} {A : Option Addr} {n : Nat} {xs : List ak} (h : Kd.C k25 w A n xs) (h0 : 0 < n) : ∃ ad,A = some ad:=by
 obtain ⟨ad,_,_,e,_⟩:=fG h 0 h0;exact ⟨ad,e⟩
theorem tY {n : Nat} {k : Nat} (h : ((n : Int) == (k : Int)) = true) : n = k:=by
 have:=beq_iff_eq.1 h;omega
theorem oN {w : World} {ad : Addr} {n : Nat} {xs : List ak} (h : Kd.C k25 w (some ad) n xs) (hi : 0 < n) : ∃ A' c',ND w (nd xs 0) A' c' ∧ w.cell? ad = some (.int .i64 (nd xs 0).f0) ∧ w.cell? ⟨ad.block,ad.off + 1,none⟩ = some (.string (nd xs 0).f1) ∧ w.cell? ⟨ad.block,ad.off + 2,none⟩ = some (.int .u32 (nd xs 0).f2) ∧ w.cell? ⟨ad.block,ad.off + 3,none⟩ = some (.bool (nd xs 0).f3) ∧ w.cell? ⟨ad.block,ad.off + 4,none⟩ = some (.slice A' (nd xs 0).f4.length c') ∧ w.cell? ⟨ad.block,ad.off + 5,none⟩ = some (.int .i64 (nd xs 0).f5):=by
 obtain ⟨ad1,A1,c1,e,hn,k0,k1,k2,k3,k4,k5⟩:=fG h 0 hi;obtain rfl:=Option.some.inj e;rw [Nat.zero_mul,kG] at k0 k1 k2 k3 k4 k5;exact ⟨A1,c1,hn,k0,k1,k2,k3,k4,k5⟩
theorem vN {w : World} {ad : Addr} {n : Nat} {xs : List ak} (h : Kd.C k25 w (some ad) n xs) (hi : 1 < n) : ∃ A' c',ND w (nd xs 1) A' c' ∧ w.cell? ⟨ad.block,ad.off + 6,none⟩ = some (.int .i64 (nd xs 1).f0) ∧ w.cell? ⟨ad.block,ad.off + 6 + 1,none⟩ = some (.string (nd xs 1).f1) ∧ w.cell? ⟨ad.block,ad.off + 6 + 2,none⟩ = some (.int .u32 (nd xs 1).f2) ∧ w.cell? ⟨ad.block,ad.off + 6 + 3,none⟩ = some (.bool (nd xs 1).f3) ∧ w.cell? ⟨ad.block,ad.off + 6 + 4,none⟩ = some (.slice A' (nd xs 1).f4.length c') ∧ w.cell? ⟨ad.block,ad.off + 6 + 5,none⟩ = some (.int .i64 (nd xs 1).f5):=by
 obtain ⟨ad1,A1,c1,e,hn,k0,k1,k2,k3,k4,k5⟩:=fG h 1 hi;obtain rfl:=Option.some.inj e;exact ⟨A1,c1,hn,k0,k1,k2,k3,k4,k5⟩
theorem Ee {w : World} {ad : Addr} {n : Nat} {xs : List ak} (h : Kd.C k25 w (some ad) n xs) (hi : 2 < n) : ∃ A' c',ND w (nd xs 2) A' c' ∧ w.cell? ⟨ad.block,ad.off + 12,none⟩ = some (.int .i64 (nd xs 2).f0) ∧ w.cell? ⟨ad.block,ad.off + 12 + 1,none⟩ = some (.string (nd xs 2).f1) ∧ w.cell? ⟨ad.block,ad.off + 12 + 2,none⟩ = some (.int .u32 (nd xs 2).f2) ∧ w.cell? ⟨ad.block,ad.off + 12 + 3,none⟩ = some (.bool (nd xs 2).f3) ∧ w.cell? ⟨ad.block,ad.off + 12 + 4,none⟩ = some (.slice A' (nd xs 2).f4.length c') ∧ w.cell? ⟨ad.block,ad.off + 12 + 5,none⟩ = some (.int .i64 (nd xs 2).f5):=by
 obtain ⟨ad1,A1,c1,e,hn,k0,k1,k2,k3,k4,k5⟩:=fG h 2 hi;obtain rfl:=Option.some.inj e;exact ⟨A1,c1,hn,k0,k1,k2,k3,k4,k5⟩
theorem kid3 {w : World} {ad : Addr} {n : Nat} {xs : List ak} (h : Kd.C k25 w (some ad) n xs) (hi : 3 < n) : ∃ A' c',ND w (nd xs 3) A' c' ∧ w.cell? ⟨ad.block,ad.off + 18,none⟩ = some (.int .i64 (nd xs 3).f0) ∧ w.cell? ⟨ad.block,ad.off + 18 + 1,none⟩ = some (.string (nd xs 3).f1) ∧ w.cell? ⟨ad.block,ad.off + 18 + 2,none⟩ = some (.int .u32 (nd xs 3).f2) ∧ w.cell? ⟨ad.block,ad.off + 18 + 3,none⟩ = some (.bool (nd xs 3).f3) ∧ w.cell? ⟨ad.block,ad.off + 18 + 4,none⟩ = some (.slice A' (nd xs 3).f4.length c') ∧ w.cell? ⟨ad.block,ad.off + 18 + 5,none⟩ = some (.int .i64 (nd xs 3).f5):=by
 obtain ⟨ad1,A1,c1,e,hn,k0,k1,k2,k3,k4,k5⟩:=fG h 3 hi;obtain rfl:=Option.some.inj e;exact ⟨A1,c1,hn,k0,k1,k2,k3,k4,k5⟩
def noS (x : ak) : Bool:=((x.f0 == 56) && (aI x false false false) && ((x.f4.length : Int) == 0))
theorem KQ.s {x : ak} {A : Option Addr} {c : Nat} {w : World} (hG : aH w) (hn : ND w x A c) : Calls Tryz.prog 49 #[val x A c] w (bg (noS x) w):=by
 have E:=Env.start hG hn;clear hn hG;cases h0 : (x.f0 == 56);rotate_left 1;cases h1 : (aI x false false false);rotate_right 1
 rotate_left 2;cases h2 : ((x.f4.length : Int) == 0);rotate_right 2
 all_goals
  try (have jK:=Am h1;clear h1)
  go_enter Tryz.func49,Tryz.ntmps49
  go_wp2_with (first
   | (go_at_call 21;(try clear c0 c1 c2 c3 c4 c5);(with_reducible refine Env.call E E.out jK.out (eX.all false false false E.out.bH E.out.nd) (fun w1 E c0 c1 c2 c3 c4 c5 => ?_)))
   | fail)
  go_ret
  exact ⟨by unfold noS;(try rw [h0]);(try rw [jK.out]);(try rw [h2]);first|done|rfl,dS⟩
theorem noS_eq (x : ak) : noS x = noT x:=by
 unfold noS noT;by_cases h : x.f0 = 56
 · rw [show (x.f0 == 56) = true from beq_iff_eq.2 h,decide_eq_true h,Au (by omega),show eU x = s0 x from by unfold eU;simp [h]];unfold aI s0;by_cases h0 : x.f4.length = 0
   · rw [List.eq_nil_of_length_eq_zero h0];cases (x.f1.toList == ([] : List UInt8)) <;> cases (x.f2 == 0) <;> cases x.f3 <;> rfl
   · rw [show ((x.f4.length : Int) == 0) = false from beq_eq_false_iff_ne.2 (by omega)];cases (x.f1.toList == ([] : List UInt8)) <;> cases (x.f2 == 0) <;> cases x.f3 <;> rfl
 · rw [show (x.f0 == 56) = false from beq_eq_false_iff_ne.2 h,decide_eq_false h];rfl
noncomputable def exS (x : ak) : Bool:=((decide (x.f0 ≥ 1)) && (decide (x.f0 ≤ 15)) && (bJ x))
theorem qR.s {x : ak} {A : Option Addr} {c : Nat} {w : World} (hk : jJ x) (hG : aH w) (hn : ND w x A c) : Calls Tryz.prog 50 #[val x A c] w (bg (exS x) w):=by
 have E:=Env.start hG hn;clear hn hG;have HK:=Am hk;clear hk;cases h0 : (decide (x.f0 ≥ 1));rotate_left 1;cases h1 : (decide (x.f0 ≤ 15));rotate_right 1
 rotate_left 2;cases h2 : (bJ x);rotate_right 2
 all_goals
  try have iU : decide (1 ≤ x.f0) = true:=h0
  try have iU : decide (1 ≤ x.f0) = false:=h0
  try (have HC2:=Am h2;clear h2)
  go_enter Tryz.func50,Tryz.ntmps50
  go_wp2_with (first
   | (go_at_call 83;(try clear c0 c1 c2 c3 c4 c5);(with_reducible refine Env.call E E.out HC2.out (jJ.go HK.out E.out.bH E.out.nd) (fun w1 E c0 c1 c2 c3 c4 c5 => ?_)))
   | fail)
  go_ret
  exact ⟨by unfold exS;(try rw [h0]);(try rw [h1]);(try rw [HC2.out]);first|done|rfl,dS⟩
theorem exS_eq (x : ak) : exS x = bJ x:=by
 unfold exS bJ gQ;rw [show decide (x.f0 ≥ 1) = decide (1 ≤ x.f0) from rfl];cases decide (1 ≤ x.f0) <;> cases decide (x.f0 ≤ 15) <;> cases bK x <;> rfl
section
variable {x : ak} {A : Option Addr} {c : Nat} {w : World}
theorem KQ.all (hG : aH w) (hn : ND w x A c) : Calls Tryz.prog 49 #[val x A c] w (bg (noT x) w):=by rw [← noS_eq];exact KQ.s hG hn
theorem qR.all (hk : jJ x) (hG : aH w) (hn : ND w x A c) : Calls Tryz.prog 50 #[val x A c] w (bg (bJ x) w):=by rw [← exS_eq];exact qR.s hk hG hn
end
theorem Aw {p : ak → Bool} {l : List ak} {i : Nat} (h : ∀ j,i ≤ j → j < l.length → p (nd l j) = true) : (l.drop i).all p = true:=by
 rw [List.all_eq_true];intro y hy;obtain ⟨j,hj,rfl⟩:=List.mem_iff_getElem.1 hy;rw [List.length_drop] at hj;have:=h (i + j) (by omega) (by omega);rw [List.getElem_drop]
 rwa [show nd l (i + j) = l[i + j] from by simp [nd,show i + j < l.length by omega]] at this
theorem yN {p : ak → Bool} {l : List ak} {i j : Nat} (hij : i ≤ j) (hj : j < l.length) (h : p (nd l j) = false) : (l.drop i).all p = false:=by
 rw [Bool.eq_false_iff,ne_eq,List.all_eq_true];intro h2;have:=h2 (nd l j) (by rw [show nd l j = l[j] from by simp [nd,hj]];exact List.mem_iff_getElem.2 ⟨j - i,by rw [List.length_drop];omega,by rw [List.getElem_drop];congr 1;omega⟩);rw [h] at this;cases this
theorem uH {p : ak → Bool} {l : List ak} (h : ∀ j,0 ≤ j → j < l.length → p (nd l j) = true) : l.all p = true:=Aw (i:=0) h
theorem rP {p : ak → Bool} {l : List ak} {j : Nat} (hij : 0 ≤ j) (hj : j < l.length) (h : p (nd l j) = false) : l.all p = false:=yN (i:=0) hij hj h
theorem MI {p : ak → Bool} {l : List ak} (h : ∀ j,1 ≤ j → j < l.length → p (nd l j) = true) : l.tail.all p = true:=by rw [← List.drop_one];exact Aw h
theorem Ij {p : ak → Bool} {l : List ak} {j : Nat} (hij : 1 ≤ j) (hj : j < l.length) (h : p (nd l j) = false) : l.tail.all p = false:=by rw [← List.drop_one];exact yN hij hj h
theorem jO {w : World} {ad : Addr} {n : Nat} {xs : List ak} (h : Kd.C k25 w (some ad) n xs) {i : Nat} (hi : i < n) : ∃ A' c',ND w (nd xs i) A' c' ∧ w.cell? (ad.add (i * 6)) = some (.int .i64 (nd xs i).f0) ∧ w.cell? ⟨(ad.add (i * 6)).block,(ad.add (i * 6)).off + 1,none⟩ = some (.string (nd xs i).f1) ∧ w.cell? ⟨(ad.add (i * 6)).block,(ad.add (i * 6)).off + 2,none⟩ = some (.int .u32 (nd xs i).f2) ∧ w.cell? ⟨(ad.add (i * 6)).block,(ad.add (i * 6)).off + 3,none⟩ = some (.bool (nd xs i).f3) ∧ w.cell? ⟨(ad.add (i * 6)).block,(ad.add (i * 6)).off + 4,none⟩ = some (.slice A' (nd xs i).f4.length c') ∧ w.cell? ⟨(ad.add (i * 6)).block,(ad.add (i * 6)).off + 5,none⟩ = some (.int .i64 (nd xs i).f5):=by
 obtain ⟨ad1,A1,c1,e,hn,k0,k1,k2,k3,k4,k5⟩:=fG h i hi;obtain rfl:=Option.some.inj e;exact ⟨A1,c1,hn,k0,k1,k2,k3,k4,k5⟩
theorem jl.p {x : ak} {A : Option Addr} {c : Nat} {w : World} (n : Int) (hge : n ≥ 0) (hq : (x.f4.length : Int) = n) (hk : ∀ y ∈ x.f4,jJ y) (hG : aH w) (hn : ND w x A c) : Calls Tryz.prog 51 #[val x A c,.int .i64 n] w (bg (x.f4.all bJ) w):=by
 have uI:=Am hn.C.2.1;have E:=Env.start hG hn;clear hn hG;have HK:=Am hk;clear hk;have g1 : decide (n ≥ 0) = true:=decide_eq_true hge;have g2 : decide (0 ≤ n) = true:=g1;have g3 : ((x.f4.length : Int) != n) = false:=bne_eq_false_iff_eq.2 hq;have g4 : ((x.f4.length : Int) == n) = true:=beq_iff_eq.2 hq;have HQ:=Am (And.intro hge hq);clear hge hq;go_enter Tryz.func51,Tryz.ntmps51
 go_wp2
 try clear c0 c1 c2 c3 c4 c5
 go_loopg [5] x.f4.length (fun kq v w' => ∃ i : Nat,v = .int .i64 i ∧ Ad (i + kq = x.f4.length + 0) ∧ Ad (0 ≤ i) ∧ Ad (∀ j,0 ≤ j → j < i → j < x.f4.length → bJ (nd x.f4 j) = true) ∧ Ad (Env w x A c w'))
 case atStart => exact ⟨0,rfl,⟨by omega⟩,⟨Nat.le_refl _⟩,⟨fun j h1 h2 => by omega⟩,by first|exact E|exact ⟨E.out.alloc _⟩⟩
 case round =>
  obtain ⟨i,rfl,HI,H0,HP,E⟩:=hrel;obtain ⟨c0,c1,c2,c3,c4,c5⟩:=E.out.cells;by_cases hi : i < x.f4.length
  · have qp : decide (i < x.f4.length) = true:=decide_eq_true hi;have e1 : decide ((i : Int) < (x.f4.length : Int)) = true:=decide_eq_true (by omega);have p1 : (0 : Int) ≤ (i : Int):=by omega
    have q1 : (i : Int) < (x.f4.length : Int):=by omega
    obtain ⟨ad,A',c',rfl,hnd,k0,k1,k2,k3,k4,k5⟩:=fG E.out.kids i hi;have uM:=Am hnd;have gZ:=Am hi;have jU:=Am (aQ hi);clear hi hnd;have w3 : wrap64 ((i : Int) + 1) = (i : Int) + 1:=by have:=uI.out;have:=gZ.out;unfold wrap64;omega
    have w4 : IntKind.i64.wrap ((i : Int) + 1) = (i : Int) + 1:=(bY _).trans w3;cases hp0 : bJ (nd x.f4 i);all_goals
     try (have fF:=Am hp0;clear hp0)
     go_wp2_with (first
      | (go_at_call 50;(try clear c0 c1 c2 c3 c4 c5);(with_reducible refine Env.call E E.out fF.out (qR.all (HK.out _ jU.out) E.out.bH uM.out) (fun w1 E c0 c1 c2 c3 c4 c5 => ?_));(try (clear k0 k1 k2 k3 k4 k5;obtain ⟨A2,c2_,hnd,k0,k1,k2,k3,k4,k5⟩:=jO E.out.kids gZ.out;have uM:=Am hnd;clear hnd)))
      | fail)
     first
      | (go_ret;exact ⟨by rw [rP (p:=bJ) H0.out gZ.out (by (try dsimp only);(try rw [fF.out]);first|done|rfl)];rfl,dS⟩)
      | (go_roundg (x.f4.length + 0 - (i + 1))
         case measure => have:=HI.out;have:=gZ.out;omega
         case rel => exact ⟨i + 1,by (try simp only [w4,w3]);rfl,⟨by have:=HI.out;have:=gZ.out;omega⟩,⟨by have:=H0.out;omega⟩,⟨fun j h1 h2 h3 => by
          by_cases hj : j = i
          · subst hj;(try dsimp only);(try rw [fF.out]);first|done|rfl
          · exact HP.out j h1 (by omega) h3⟩,E⟩)
  · have qp : decide (i < x.f4.length) = false:=decide_eq_false hi;have e1 : decide ((i : Int) < (x.f4.length : Int)) = false:=decide_eq_false (by omega);have HH:=Am (uH (p:=bJ) (l:=x.f4) (fun j h1 h2 => HP.out j h1 (by omega) h2));clear hi HP HI;go_wp2
    go_ret
    exact ⟨by rw [HH.out];rfl,dS⟩
theorem jl.n {x : ak} {A : Option Addr} {c : Nat} {w : World} (n : Int) (hge : ¬ n ≥ 0) (hk : ∀ y ∈ x.f4,jJ y) (hG : aH w) (hn : ND w x A c) : Calls Tryz.prog 51 #[val x A c,.int .i64 n] w (bg (x.f4.all bJ) w):=by
 have uI:=Am hn.C.2.1;have E:=Env.start hG hn;clear hn hG;have HK:=Am hk;clear hk;have g1 : decide (n ≥ 0) = false:=decide_eq_false hge;have g2 : decide (0 ≤ n) = false:=g1;have HQ:=Am hge;clear hge;go_enter Tryz.func51,Tryz.ntmps51
 go_wp2
 try clear c0 c1 c2 c3 c4 c5
 go_loopg [5] x.f4.length (fun kq v w' => ∃ i : Nat,v = .int .i64 i ∧ Ad (i + kq = x.f4.length + 0) ∧ Ad (0 ≤ i) ∧ Ad (∀ j,0 ≤ j → j < i → j < x.f4.length → bJ (nd x.f4 j) = true) ∧ Ad (Env w x A c w'))
 case atStart => exact ⟨0,rfl,⟨by omega⟩,⟨Nat.le_refl _⟩,⟨fun j h1 h2 => by omega⟩,by first|exact E|exact ⟨E.out.alloc _⟩⟩
 case round =>
  obtain ⟨i,rfl,HI,H0,HP,E⟩:=hrel;obtain ⟨c0,c1,c2,c3,c4,c5⟩:=E.out.cells;by_cases hi : i < x.f4.length
  · have qp : decide (i < x.f4.length) = true:=decide_eq_true hi;have e1 : decide ((i : Int) < (x.f4.length : Int)) = true:=decide_eq_true (by omega);have p1 : (0 : Int) ≤ (i : Int):=by omega
    have q1 : (i : Int) < (x.f4.length : Int):=by omega
    obtain ⟨ad,A',c',rfl,hnd,k0,k1,k2,k3,k4,k5⟩:=fG E.out.kids i hi;have uM:=Am hnd;have gZ:=Am hi;have jU:=Am (aQ hi);clear hi hnd;have w3 : wrap64 ((i : Int) + 1) = (i : Int) + 1:=by have:=uI.out;have:=gZ.out;unfold wrap64;omega
    have w4 : IntKind.i64.wrap ((i : Int) + 1) = (i : Int) + 1:=(bY _).trans w3;cases hp0 : bJ (nd x.f4 i);all_goals
     try (have fF:=Am hp0;clear hp0)
     go_wp2_with (first
      | (go_at_call 50;(try clear c0 c1 c2 c3 c4 c5);(with_reducible refine Env.call E E.out fF.out (qR.all (HK.out _ jU.out) E.out.bH uM.out) (fun w1 E c0 c1 c2 c3 c4 c5 => ?_));(try (clear k0 k1 k2 k3 k4 k5;obtain ⟨A2,c2_,hnd,k0,k1,k2,k3,k4,k5⟩:=jO E.out.kids gZ.out;have uM:=Am hnd;clear hnd)))
      | fail)
     first
      | (go_ret;exact ⟨by rw [rP (p:=bJ) H0.out gZ.out (by (try dsimp only);(try rw [fF.out]);first|done|rfl)];rfl,dS⟩)
      | (go_roundg (x.f4.length + 0 - (i + 1))
         case measure => have:=HI.out;have:=gZ.out;omega
         case rel => exact ⟨i + 1,by (try simp only [w4,w3]);rfl,⟨by have:=HI.out;have:=gZ.out;omega⟩,⟨by have:=H0.out;omega⟩,⟨fun j h1 h2 h3 => by
          by_cases hj : j = i
          · subst hj;(try dsimp only);(try rw [fF.out]);first|done|rfl
          · exact HP.out j h1 (by omega) h3⟩,E⟩)
  · have qp : decide (i < x.f4.length) = false:=decide_eq_false hi;have e1 : decide ((i : Int) < (x.f4.length : Int)) = false:=decide_eq_false (by omega);have HH:=Am (uH (p:=bJ) (l:=x.f4) (fun j h1 h2 => HP.out j h1 (by omega) h2));clear hi HP HI;go_wp2
    go_ret
    exact ⟨by rw [HH.out];rfl,dS⟩
theorem jl.f {x : ak} {A : Option Addr} {c : Nat} {w : World} (n : Int) (hge : n ≥ 0) (hq : (x.f4.length : Int) ≠ n) (hG : aH w) (hn : ND w x A c) : Calls Tryz.prog 51 #[val x A c,.int .i64 n] w (bg false w):=by
 have E:=Env.start hG hn;have g1 : decide (n ≥ 0) = true:=decide_eq_true hge;have g2 : decide (0 ≤ n) = true:=g1;have g3 : ((x.f4.length : Int) != n) = true:=bne_iff_ne.2 hq;have g4 : ((x.f4.length : Int) == n) = false:=beq_eq_false_iff_ne.2 hq;clear hn hG hge hq;go_enter Tryz.func51,Tryz.ntmps51
 go_wp2
 go_ret
 exact ⟨rfl,dS⟩
theorem jl.all {x : ak} {A : Option Addr} {c : Nat} {w : World} (n : Int) (hk : ∀ y ∈ x.f4,jJ y) (hG : aH w) (hn : ND w x A c) : Calls Tryz.prog 51 #[val x A c,.int .i64 n] w (bg (exs n x bJ) w):=by
 unfold exs;by_cases hge : n ≥ 0
 · rw [decide_eq_false (show ¬ n < 0 by omega),Bool.false_or];by_cases hq : (x.f4.length : Int) = n
   · rw [show ((x.f4.length : Int) == n) = true from beq_iff_eq.2 hq,Bool.true_and];exact jl.p n hge hq hk hG hn
   · rw [show ((x.f4.length : Int) == n) = false from beq_eq_false_iff_ne.2 hq,Bool.false_and];exact jl.f n hge hq hG hn
 · rw [decide_eq_true (show n < 0 by omega),Bool.true_or,Bool.true_and];exact jl.n n hge hk hG hn
end Go.Proofs.YtboojhadfhpdeaaGreatDoor.Q
namespace Go.Proofs
open Go.Shelf
def Tryz.lays137_ren : Go.Shelf.Ren:=⟨fun | 137 => 136 | 217 => 131 | 266 => 138|n => n,fun | 9 => 9 | 5 => 5 | 3 => 3|n => n,fun|n => n⟩
theorem Tryz.lays137 : Go.Proofs.Lays.n137 Tryz.prog Tryz.lays137_ren:={
 mixed:=by kernel_rfl
 f137:=Tryz.func136.trans (congrArg some (by kernel_rfl))
 f217:=Tryz.func131.trans (congrArg some (by kernel_rfl))
 f266:=Tryz.func138.trans (congrArg some (by kernel_rfl))
 t3:=Tryz.underlying3
 a3:=Tryz.isAgg3
 z3:=Tryz.sizeOf3
 v3:=Tryz.zeroValue3
 t5:=Tryz.underlying5
 a5:=Tryz.isAgg5
 z5:=Tryz.sizeOf5
 v5:=Tryz.zeroValue5
 t9:=Tryz.underlying9
 a9:=Tryz.isAgg9
 z9:=Tryz.sizeOf9
 v9:=Tryz.zeroValue9 }
open Go.RowKit in
theorem Tryz.strings_IndexByte (s : ByteArray) (c : Int) (w : World) :
 Calls Tryz.prog 136 #[.string s,.int .u8 c] w fun e w' => e = .returned (.int .i64 (Lib.indexByte s.data.toList c.toNat.toUInt8)) ∧ w' = w:=Any.strings_IndexByte Tryz.lays137 s c w
end Go.Proofs
namespace Go.Proofs.YtboojhadfhpdeaaGreatDoor.Q
open Go.RowKit Go.Proofs.YtboojhadfhpdeaaGreatDoorW.PrintWords Go.Proofs.YtboojhadfhpdeaaGreatDoorW.PrintLast Go.Proofs.YtboojhadfhpdeaaGreatDoorW.PrintMore
def strings_IndexByte.f (a0 : ByteArray) (a1 : Int) : Option Int:=some (Lib.indexByte a0.data.toList a1.toNat.toUInt8)
theorem strings_IndexByte.calls (a0 : ByteArray) (a1 : Int) (r : Int) (w : World) (h : strings_IndexByte.f a0 a1 = some r) :
 Calls Tryz.prog 136 #[.string a0,.int .u8 a1] w fun e w' => e = .returned (.int .i64 r) ∧ au w w' := by
 obtain rfl:=Option.some.inj h;refine (Tryz.strings_IndexByte a0 a1 w).mono ?_;rintro e w' ⟨rfl,rfl⟩;exact ⟨rfl,au.refl _⟩
theorem info5 : (Tryz.prog.info? 5).map (fun i => (i.zero,i.size,i.bytes)) = some (some (.int .u8 0),1,1):=by kernel_rfl
end Go.Proofs.YtboojhadfhpdeaaGreatDoor.Q
