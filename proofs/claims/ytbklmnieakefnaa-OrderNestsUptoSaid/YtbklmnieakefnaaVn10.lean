/- A part of the proof, made small by a program: Qx35. -/
import Derived.Test.YtbklmnieakefnaaVn1
import Derived.Test.YtbklmnieakefnaaVn2
import Derived.Test.YtbklmnieakefnaaVn3
import Derived.Test.YtbklmnieakefnaaVn8
import Derived.Test.YtbklmnieakefnaaVn9
namespace Go.Proofs.Ytbklmnieakefnaa.Q
open Go.RowKit Go.Proofs.YtbklmnieakefnaaW.PrintWords Go.Proofs.YtbklmnieakefnaaW.PrintLast Go.Proofs.YtbklmnieakefnaaW.PrintMore

set_option linter.unusedVariables false
set_option linter.unusedSimpArgs false
mutual
def cruciblelaw17_OrderNests.l0 : Nat → List (S42) → Int → ByteArray → Int → Int → Int → List (S45) → Option (Bool)
 | 0,_,_,_,_,_,_,_ => none
 | k + 1,x3,x4,x619000,x619001,x619002,x619003,x619004 => if x4 < (x3.length : Int) then (cruciblelaw17_OrderNests.l1 k x3 x4 0 x619000 x619001 x619002 x619003 x619004) else ((cruciblelaw17_awake.f k).bind fun t631 => (some t631))
def cruciblelaw17_OrderNests.l1 : Nat → List (S42) → Int → Int → ByteArray → Int → Int → Int → List (S45) → Option (Bool)
 | 0,_,_,_,_,_,_,_,_ => none
 | k + 1,x3,x4,x5,x619000,x619001,x619002,x619003,x619004 => if 0 ≤ x4 then (if x4 < (x3.length : Int) then (if x5 < (((rd_T42 x3 x4).f1).length : Int) then (if 0 ≤ x5 then ((order_Dominates.f k x619000 x619001 x619002 x619003 x619004 ((rd_T42 x3 x4).f0) (rd ((rd_T42 x3 x4).f1) x5)).bind fun t636 => (if t636 = true then (cruciblelaw17_OrderNests.l1 k x3 x4 (wrap64 (x5 + 1)) x619000 x619001 x619002 x619003 x619004) else (some false))) else (none)) else (cruciblelaw17_OrderNests.l2 k x3 x4 0 x619000 x619001 x619002 x619003 x619004)) else (none)) else (none)
def cruciblelaw17_OrderNests.l2 : Nat → List (S42) → Int → Int → ByteArray → Int → Int → Int → List (S45) → Option (Bool)
 | 0,_,_,_,_,_,_,_,_ => none
 | k + 1,x3,x4,x6,x619000,x619001,x619002,x619003,x619004 => if x6 < (x3.length : Int) then (cruciblelaw17_OrderNests.l3 k x3 x4 x6 false false 0 x619000 x619001 x619002 x619003 x619004) else (cruciblelaw17_OrderNests.l0 k x3 (wrap64 (x4 + 1)) x619000 x619001 x619002 x619003 x619004)
def cruciblelaw17_OrderNests.l3 : Nat → List (S42) → Int → Int → Bool → Bool → Int → ByteArray → Int → Int → Int → List (S45) → Option (Bool)
 | 0,_,_,_,_,_,_,_,_,_,_,_ => none
 | k + 1,x3,x4,x6,x7,x8,x9,x619000,x619001,x619002,x619003,x619004 => if 0 ≤ x4 then (if x4 < (x3.length : Int) then (if x9 < (((rd_T42 x3 x4).f1).length : Int) then (cruciblelaw17_OrderNests.l4 k x3 x4 x6 x7 x8 x9 0 x619000 x619001 x619002 x619003 x619004) else (cruciblelaw17_OrderNests.l5 k x3 x4 x6 x7 x8 0 x619000 x619001 x619002 x619003 x619004)) else (none)) else (none)
def cruciblelaw17_OrderNests.l4 : Nat → List (S42) → Int → Int → Bool → Bool → Int → Int → ByteArray → Int → Int → Int → List (S45) → Option (Bool)
 | 0,_,_,_,_,_,_,_,_,_,_,_,_ => none
 | k + 1,x3,x4,x6,x7,x8,x9,x10,x619000,x619001,x619002,x619003,x619004 => if 0 ≤ x6 then (if x6 < (x3.length : Int) then (if x10 < (((rd_T42 x3 x6).f1).length : Int) then (if x7 = true then (cruciblelaw17_OrderNests.l4 k x3 x4 x6 true x8 x9 (wrap64 (x10 + 1)) x619000 x619001 x619002 x619003 x619004) else (if 0 ≤ x4 then (if x4 < (x3.length : Int) then (if 0 ≤ x9 then (if x9 < (((rd_T42 x3 x4).f1).length : Int) then (if 0 ≤ x10 then (cruciblelaw17_OrderNests.l4 k x3 x4 x6 ((rd ((rd_T42 x3 x4).f1) x9) == (rd ((rd_T42 x3 x6).f1) x10)) x8 x9 (wrap64 (x10 + 1)) x619000 x619001 x619002 x619003 x619004) else (none)) else (none)) else (none)) else (none)) else (none))) else (if x8 = true then (cruciblelaw17_OrderNests.l3 k x3 x4 x6 x7 true (wrap64 (x9 + 1)) x619000 x619001 x619002 x619003 x619004) else (if 0 ≤ x4 then (if x4 < (x3.length : Int) then (if 0 ≤ x9 then (if x9 < (((rd_T42 x3 x4).f1).length : Int) then (cruciblelaw17_OrderNests.l3 k x3 x4 x6 x7 ((rd ((rd_T42 x3 x4).f1) x9) == ((rd_T42 x3 x6).f0)) (wrap64 (x9 + 1)) x619000 x619001 x619002 x619003 x619004) else (none)) else (none)) else (none)) else (none)))) else (none)) else (none)
def cruciblelaw17_OrderNests.l5 : Nat → List (S42) → Int → Int → Bool → Bool → Int → ByteArray → Int → Int → Int → List (S45) → Option (Bool)
 | 0,_,_,_,_,_,_,_,_,_,_,_ => none
 | k + 1,x3,x4,x6,x7,x8,x11,x619000,x619001,x619002,x619003,x619004 => if 0 ≤ x6 then (if x6 < (x3.length : Int) then (if x11 < (((rd_T42 x3 x6).f1).length : Int) then (if x8 = true then (cruciblelaw17_OrderNests.l5 k x3 x4 x6 x7 true (wrap64 (x11 + 1)) x619000 x619001 x619002 x619003 x619004) else (if 0 ≤ x11 then (if 0 ≤ x4 then (if x4 < (x3.length : Int) then (cruciblelaw17_OrderNests.l5 k x3 x4 x6 x7 ((rd ((rd_T42 x3 x6).f1) x11) == ((rd_T42 x3 x4).f0)) (wrap64 (x11 + 1)) x619000 x619001 x619002 x619003 x619004) else (none)) else (none)) else (none))) else (if x7 = true then (if x8 = true then (cruciblelaw17_OrderNests.l2 k x3 x4 (wrap64 (x6 + 1)) x619000 x619001 x619002 x619003 x619004) else (some false)) else (cruciblelaw17_OrderNests.l2 k x3 x4 (wrap64 (x6 + 1)) x619000 x619001 x619002 x619003 x619004))) else (none)) else (none)
end
def cruciblelaw17_OrderNests.f (k : Nat) (a0_0 : ByteArray) (a0_1 : Int) (a0_2 : Int) (a0_3 : Int) (l0_4 : List (S45)) : Option (Bool):=(cruciblelaw17_bare.f k a0_0 a0_1 a0_2 a0_3 l0_4).bind fun bt619 => ((cruciblelaw17_May.f k bt619.1 bt619.2.1 bt619.2.2.1 bt619.2.2.2.1 bt619.2.2.2.2).bind fun t626 => (if t626 = true then ((order_Loops.f k bt619.1 bt619.2.1 bt619.2.2.1 bt619.2.2.2.1 bt619.2.2.2.2).bind fun t628 => (cruciblelaw17_OrderNests.l0 k t628 0 bt619.1 bt619.2.1 bt619.2.2.1 bt619.2.2.2.1 bt619.2.2.2.2)) else ((cruciblelaw17_awake.f k).bind fun t627 => (some t627))))
def cruciblelaw17_OrderNests.T11 : Bool × List (List Nat × List Nat):=(true,[([],[]),([],[]),([],[]),([1,2],[1,2]),([3],[3]),([4],[4]),([],[]),([],[]),([6,7],[6,7]),([8],[8]),([9],[9]),([],[]),([10,11],[10,11]),([12],[12]),([0,5,13],[0,5,13]),([14],[14])])
def cruciblelaw17_OrderNests.B11 : List Nat:=[0,0,0,6,14,30,0,0,192,448,960,0,4032,8128,16383,32767]
theorem cruciblelaw17_OrderNests.tab11 : rtab .any (opsOf Try.f8 11) = cruciblelaw17_OrderNests.T11:=by kernel_rfl
theorem cruciblelaw17_OrderNests.bits11 : waitsOk cruciblelaw17_OrderNests.T11.2 cruciblelaw17_OrderNests.B11 = true:=by kernel_rfl
def cruciblelaw17_OrderNests.T23 : Bool × List (List Nat × List Nat):=(true,[([],[]),([0],[0]),([1],[1]),([1],[1]),([2,3,1],[1,2,3]),([4,1],[1,4]),([5,1],[1,5]),([1],[1]),([6,7,1],[1,6,7]),([8,1],[1,8]),([1],[1]),([1],[1]),([10,11,1],[1,10,11]),([12,1],[1,12]),([13,1],[1,13]),([1],[1]),([14,15,1],[1,14,15]),([16,1],[1,16]),([9,17,1],[1,9,17]),([1,18],[1,18]),([19,1,0,1,2,3,4,5,6,7,8,9,10,11,12,13,14,15,16,17,18,19],[0,19])])
def cruciblelaw17_OrderNests.B23 : List Nat:=[0,1,3,3,15,31,63,3,255,511,3,3,3075,7171,15363,3,64515,130051,262143,524287,1048575]
theorem cruciblelaw17_OrderNests.tab23 : rtab .any (opsOf Try.f8 23) = cruciblelaw17_OrderNests.T23:=by kernel_rfl
theorem cruciblelaw17_OrderNests.bits23 : waitsOk cruciblelaw17_OrderNests.T23.2 cruciblelaw17_OrderNests.B23 = true:=by kernel_rfl
def cruciblelaw17_OrderNests.T24 : Bool × List (List Nat × List Nat):=(true,[([],[]),([0],[0]),([1],[1]),([1],[1]),([2,3,1],[1,2,3]),([4,1],[1,4]),([5,1],[1,5]),([1],[1]),([6,7,1],[1,6,7]),([8,1],[1,8]),([1],[1]),([1],[1]),([10,11,1],[1,10,11]),([12,1],[1,12]),([13,1],[1,13]),([9,14,1],[1,9,14]),([1,15],[1,15]),([16,1,0,1,2,3,4,5,6,7,8,9,10,11,12,13,14,15,16],[0,16])])
def cruciblelaw17_OrderNests.B24 : List Nat:=[0,1,3,3,15,31,63,3,255,511,3,3,3075,7171,15363,32767,65535,131071]
theorem cruciblelaw17_OrderNests.tab24 : rtab .any (opsOf Try.f8 24) = cruciblelaw17_OrderNests.T24:=by kernel_rfl
theorem cruciblelaw17_OrderNests.bits24 : waitsOk cruciblelaw17_OrderNests.T24.2 cruciblelaw17_OrderNests.B24 = true:=by kernel_rfl
def cruciblelaw17_OrderNests.T28 : Bool × List (List Nat × List Nat):=(true,[([],[]),([0],[0]),([1],[1]),([1],[1]),([2,3,1],[1,2,3]),([4,1],[1,4]),([5,1],[1,5]),([1],[1]),([6,7,1],[1,6,7]),([8,1],[1,8]),([1],[1]),([1],[1]),([10,11,1],[1,10,11]),([12,1],[1,12]),([13,1],[1,13]),([9,14,1],[1,9,14]),([1,15],[1,15]),([16,1,0,1,2,3,4,5,6,7,8,9,10,11,12,13,14,15,16],[0,16])])
def cruciblelaw17_OrderNests.B28 : List Nat:=[0,1,3,3,15,31,63,3,255,511,3,3,3075,7171,15363,32767,65535,131071]
theorem cruciblelaw17_OrderNests.tab28 : rtab .any (opsOf Try.f8 28) = cruciblelaw17_OrderNests.T28:=by kernel_rfl
theorem cruciblelaw17_OrderNests.bits28 : waitsOk cruciblelaw17_OrderNests.T28.2 cruciblelaw17_OrderNests.B28 = true:=by kernel_rfl
set_option maxHeartbeats 8000000 in
set_option maxRecDepth 100000 in
theorem cruciblelaw17_OrderNests.calls (k : Nat) (a0_0 : ByteArray) (a0_1 : Int) (a0_2 : Int) (a0_3 : Int) (A0_4 : Option Addr) (c0_4 : Nat) (l0_4 : List (S45)) (r : Bool) (w : World) (hr0_4 : Kd.C k45 w A0_4 l0_4.length l0_4) (hc0_4 : l0_4.length ≤ c0_4) (h : cruciblelaw17_OrderNests.f k a0_0 a0_1 a0_2 a0_3 l0_4 = some r) :
 Calls Try.prog 8 #[.agg #[.string a0_0,.int .i64 a0_1,.int .i64 a0_2,.int .i64 a0_3,.slice A0_4 l0_4.length c0_4]] w fun e w' => e = .returned (.bool r) ∧ Below w.heap.size w w' := by
 have hu24:=Try.underlying24
 have HR0_4:=Aside0.mk hr0_4
 have HC0_4:=Aside0.mk hc0_4
 clear hr0_4 hc0_4;have HB:=Aside0.mk (Below.refl w.heap.size w)
 have H : ((cruciblelaw17_bare.f k a0_0 a0_1 a0_2 a0_3 l0_4).bind fun bt619 => ((cruciblelaw17_May.f k bt619.1 bt619.2.1 bt619.2.2.1 bt619.2.2.2.1 bt619.2.2.2.2).bind fun t626 => (if t626 = true then ((order_Loops.f k bt619.1 bt619.2.1 bt619.2.2.1 bt619.2.2.2.1 bt619.2.2.2.2).bind fun t628 => (cruciblelaw17_OrderNests.l0 k t628 0 bt619.1 bt619.2.1 bt619.2.2.1 bt619.2.2.2.1 bt619.2.2.2.2)) else ((cruciblelaw17_awake.f k).bind fun t627 => (some t627))))) = some r:=h
 clear h;replace H:=Option.bind_eq_some_iff.mp H
 obtain ⟨⟨t619,t620,t621,t622,t623⟩,A20,H⟩:=H
 replace H : ((cruciblelaw17_May.f k t619 t620 t621 t622 t623).bind fun t626 => (if t626 = true then ((order_Loops.f k t619 t620 t621 t622 t623).bind fun t628 => (cruciblelaw17_OrderNests.l0 k t628 0 t619 t620 t621 t622 t623)) else ((cruciblelaw17_awake.f k).bind fun t627 => (some t627)))) = some r:=H
 have A2:=Aside0.mk A20
 clear A20;replace H:=Option.bind_eq_some_iff.mp H
 obtain ⟨t626,A30,H⟩:=H
 replace H : (if t626 = true then ((order_Loops.f k t619 t620 t621 t622 t623).bind fun t628 => (cruciblelaw17_OrderNests.l0 k t628 0 t619 t620 t621 t622 t623)) else ((cruciblelaw17_awake.f k).bind fun t627 => (some t627))) = some r:=H
 have A3:=Aside0.mk A30
 clear A30;by_cases c4 : t626 = true
 · subst c4;have H1 : ((order_Loops.f k t619 t620 t621 t622 t623).bind fun t628 => (cruciblelaw17_OrderNests.l0 k t628 0 t619 t620 t621 t622 t623)) = some r:=by rw [if_pos rfl] at H;exact H
   clear H;have H:=H1
   clear H1;replace H:=Option.bind_eq_some_iff.mp H
   obtain ⟨t628,A50,H⟩:=H
   replace H : (cruciblelaw17_OrderNests.l0 k t628 0 t619 t620 t621 t622 t623) = some r:=H
   have A5:=Aside0.mk A50
   clear A50;have H' := Aside0.mk H
   clear H;go_enter Try.func8,Try.ntmps8
   go_wp2_with (first|((with_reducible refine Z52 (N:=1) rfl ?_);refine Z51 ?hg (N:=1) ?hd (cs:=#[.string a0_0,.int .i64 a0_1,.int .i64 a0_2,.int .i64 a0_3,.slice A0_4 l0_4.length c0_4]) (t:=24) ?hr ?_;(case hd => rfl);(case hg => rfl);(case hr => first|(go_simp;done)|(go_simp;rfl));intro gb618 hg w6 hbox hb;have n0_:=Aside0.mk (Z25 YH hb);have n1_:=Aside0.mk (hbox);have n2_:=Aside0.mk ((by rw [hg];exact (Z27 YH) : w.heap.size ≤ gb618));have n3_:=Aside0.mk ((by rw [hg];exact (Z27 YH) : w.heap.size ≤ gb618));clear HB;have HB:=n0_;have BK618:=n1_;have GW618:=n2_;have GE618:=n3_;clear n0_ n1_ n2_ n3_;clear hb hbox hg;have hcz7_0 : w6.cell? ⟨gb618,0,none⟩ = some (.string a0_0):=(Z5 BK618.out 0).trans rfl;have hcz7_1 : w6.cell? ⟨gb618,1,none⟩ = some (.int .i64 a0_1):=(Z5 BK618.out 1).trans rfl;have hcz7_2 : w6.cell? ⟨gb618,2,none⟩ = some (.int .i64 a0_2):=(Z5 BK618.out 2).trans rfl;have hcz7_3 : w6.cell? ⟨gb618,3,none⟩ = some (.int .i64 a0_3):=(Z5 BK618.out 3).trans rfl;have hcz7_4 : w6.cell? ⟨gb618,4,none⟩ = some (.slice A0_4 l0_4.length c0_4):=(Z5 BK618.out 4).trans rfl)|((with_reducible refine Z14 (f:=9) rfl ?_);refine goesL_ (some 13) rfl rfl Try.func9 (by kernel_rfl) rfl #[.agg #[.string a0_0,.int .i64 a0_1,.int .i64 a0_2,.int .i64 a0_3,.slice A0_4 l0_4.length c0_4]] rfl (by (try simp only [List.map_toArray,List.map_cons,List.map_nil]);first|done|rfl|(simp only [List.length_drop,List.length_take];rfl)) ?_;(with_reducible refine (cruciblelaw17_bare.calls k a0_0 a0_1 a0_2 a0_3 (fun k_ => k_ < w.heap.size) _ _ l0_4 t619 t620 t621 t622 t623 _ ?side1 A2.out).mono ?_);(case side1 => exact Kd.V_mk HC0_4.out (Kd.F_below (Kd.C_F k45_heap HR0_4.out) YH));rintro e w8 ⟨v624,rfl,ho0,hb⟩;refine ⟨_,rfl,?_⟩;have n0_:=Aside0.mk (Kd.N_lower (Kd.N_mono (ok' := fun k_ => k_ ≠ gb618) ho0 (fun k_ hk_ => Or.elim hk_ (fun hs_ => fun e_ => Nat.not_le.2 hs_ (by rw [e_];exact GW618.out)) (fun hn_ => (Kd.freshB (YK BK618) k_ hn_)))) (Z27 YH));have n1_:=Aside0.mk (Z40 (YK BK618) hb);have n2_:=Aside0.mk (Z25 YH hb);clear BK618;clear HB;have HO625:=n0_;have BK618:=n1_;have HB:=n2_;clear n0_ n1_ n2_;(try clear hb);(try clear hb2);(try clear hk);(try clear hi);(try clear ho0);have hcz9_0 : w8.cell? ⟨gb618,0,none⟩ = some (.string a0_0):=(Z5 BK618.out 0).trans rfl;have hcz9_1 : w8.cell? ⟨gb618,1,none⟩ = some (.int .i64 a0_1):=(Z5 BK618.out 1).trans rfl;have hcz9_2 : w8.cell? ⟨gb618,2,none⟩ = some (.int .i64 a0_2):=(Z5 BK618.out 2).trans rfl;have hcz9_3 : w8.cell? ⟨gb618,3,none⟩ = some (.int .i64 a0_3):=(Z5 BK618.out 3).trans rfl;have hcz9_4 : w8.cell? ⟨gb618,4,none⟩ = some (.slice A0_4 l0_4.length c0_4):=(Z5 BK618.out 4).trans rfl;have hfz9_0:=Z2 BK618.out 0;have hfz9_1:=Z2 BK618.out 1;have hfz9_2:=Z2 BK618.out 2;have hfz9_3:=Z2 BK618.out 3;have hfz9_4:=Z2 BK618.out 4;obtain ⟨Ao10,co10,eo10⟩:=Kd.N_slice HO625.out;subst eo10)|((with_reducible refine Z14 (f:=11) rfl ?_);refine goesL_ (some 15) rfl rfl Try.func11 (by kernel_rfl) rfl #[.agg #[.string t619,.int .i64 t620,.int .i64 t621,.int .i64 t622,.slice Ao10 t623.length co10]] rfl (by (try simp only [List.map_toArray,List.map_cons,List.map_nil]);first|done|rfl|(simp only [List.length_drop,List.length_take];rfl)) ?_;(with_reducible refine (cruciblelaw17_May.calls k t619 t620 t621 t622 _ _ t623 true _ ?side1 ?side2 A3.out).mono ?_);(case side1 => refine (Kd.N_reads' (e:=45) (base:=w.heap.size) (ok:=fun k_ => k_ ≠ gb618) (n:=t623.length) (c:=co10) ?_).2.2;exact (by (with_reducible repeat (first|apply Kd.N_alloc|apply Kd.N_drewN|apply Kd.N_drew));exact (Kd.N_mono (Kd.N_far (p:=⟨gb618,4,none⟩) (Kd.N_far (p:=⟨gb618,3,none⟩) (Kd.N_far (p:=⟨gb618,2,none⟩) (Kd.N_far (p:=⟨gb618,1,none⟩) (Kd.N_far (p:=⟨gb618,0,none⟩) (Kd.N_mono HO625.out (fun k_ hk => (⟨hk,hk⟩ : _ ∧ k_ ≠ gb618))) (fun _ hk => hk.2) (.string t619)) (fun _ hk => hk.2) (.int .i64 t620)) (fun _ hk => hk.2) (.int .i64 t621)) (fun _ hk => hk.2) (.int .i64 t622)) (fun _ hk => hk.2) (.slice Ao10 t623.length co10)) (fun _ h_ => h_.1))));(case side2 => exact (Kd.N_reads' HO625.out).2.1);rintro e w11 ⟨rfl,hb⟩;refine ⟨_,rfl,?_⟩;have n0_:=Aside0.mk (Kd.N_below (by (with_reducible repeat (first|apply Kd.N_alloc|apply Kd.N_drewN|apply Kd.N_drew));exact (Kd.N_mono (Kd.N_far (p:=⟨gb618,4,none⟩) (Kd.N_far (p:=⟨gb618,3,none⟩) (Kd.N_far (p:=⟨gb618,2,none⟩) (Kd.N_far (p:=⟨gb618,1,none⟩) (Kd.N_far (p:=⟨gb618,0,none⟩) (Kd.N_mono HO625.out (fun k_ hk => (⟨hk,hk⟩ : _ ∧ k_ ≠ gb618))) (fun _ hk => hk.2) (.string t619)) (fun _ hk => hk.2) (.int .i64 t620)) (fun _ hk => hk.2) (.int .i64 t621)) (fun _ hk => hk.2) (.int .i64 t622)) (fun _ hk => hk.2) (.slice Ao10 t623.length co10)) (fun _ h_ => h_.1))) hb);have n1_:=Aside0.mk (Z40 (g:=gb618) (o:=.cells #[.string t619,.int .i64 t620,.int .i64 t621,.int .i64 t622,.slice Ao10 t623.length co10] 24 (0,0)) (by (with_reducible repeat (first|refine Z0 ?_ _|refine Z3 ?_|refine Z1 ?_ _));refine Z9 (cs:=#[.string t619,.int .i64 t620,.int .i64 t621,.int .i64 t622,.slice A0_4 l0_4.length c0_4]) ?_ 4 _ rfl;(with_reducible repeat (first|refine Z0 ?_ _|refine Z3 ?_|refine Z1 ?_ _));refine Z9 (cs:=#[.string t619,.int .i64 t620,.int .i64 t621,.int .i64 a0_3,.slice A0_4 l0_4.length c0_4]) ?_ 3 _ rfl;(with_reducible repeat (first|refine Z0 ?_ _|refine Z3 ?_|refine Z1 ?_ _));refine Z9 (cs:=#[.string t619,.int .i64 t620,.int .i64 a0_2,.int .i64 a0_3,.slice A0_4 l0_4.length c0_4]) ?_ 2 _ rfl;(with_reducible repeat (first|refine Z0 ?_ _|refine Z3 ?_|refine Z1 ?_ _));refine Z9 (cs:=#[.string t619,.int .i64 a0_1,.int .i64 a0_2,.int .i64 a0_3,.slice A0_4 l0_4.length c0_4]) ?_ 1 _ rfl;(with_reducible repeat (first|refine Z0 ?_ _|refine Z3 ?_|refine Z1 ?_ _));refine Z9 (cs:=#[.string a0_0,.int .i64 a0_1,.int .i64 a0_2,.int .i64 a0_3,.slice A0_4 l0_4.length c0_4]) ?_ 0 _ rfl;(with_reducible repeat (first|refine Z0 ?_ _|refine Z3 ?_|refine Z1 ?_ _));exact BK618.out) hb);have n2_:=Aside0.mk (Z25 YH hb);clear HO625;clear BK618;clear HB;have HO625:=n0_;have BK618:=n1_;have HB:=n2_;clear n0_ n1_ n2_;(try clear hb);(try clear hb2);(try clear hk);(try clear hi);have hcz12_0 : w11.cell? ⟨gb618,0,none⟩ = some (.string t619):=(Z5 BK618.out 0).trans rfl;have hcz12_1 : w11.cell? ⟨gb618,1,none⟩ = some (.int .i64 t620):=(Z5 BK618.out 1).trans rfl;have hcz12_2 : w11.cell? ⟨gb618,2,none⟩ = some (.int .i64 t621):=(Z5 BK618.out 2).trans rfl;have hcz12_3 : w11.cell? ⟨gb618,3,none⟩ = some (.int .i64 t622):=(Z5 BK618.out 3).trans rfl;have hcz12_4 : w11.cell? ⟨gb618,4,none⟩ = some (.slice Ao10 t623.length co10):=(Z5 BK618.out 4).trans rfl)|((with_reducible refine Z14 (f:=23) rfl ?_);refine goesL_ (some 19) rfl rfl Try.func23 (by kernel_rfl) rfl #[.agg #[.string t619,.int .i64 t620,.int .i64 t621,.int .i64 t622,.slice Ao10 t623.length co10]] rfl (by (try simp only [List.map_toArray,List.map_cons,List.map_nil]);first|done|rfl|(simp only [List.length_drop,List.length_take];rfl)) ?_;(with_reducible refine (order_Loops.calls k t619 t620 t621 t622 _ _ t623 t628 _ ?side1 ?side2 A5.out).mono ?_);(case side1 => repeat (first|exact (Kd.N_reads' HO625.out).2.2|(with_reducible refine Kd.C_alloc ?_ _)|(with_reducible refine Kd.C_drewN ?_ _)|(with_reducible refine Kd.C_drew ?_)));(case side2 => exact (Kd.N_reads' HO625.out).2.1);rintro e w13 ⟨v629,rfl,ho0,hb⟩;refine ⟨_,rfl,?_⟩;have n0_:=Aside0.mk (Kd.N_elder' (YN HO625) (by first|exact Kd.N_base ho0|exact Kd.S_base ho0) hb);have n1_:=Aside0.mk (Kd.N_lower (Kd.N_mono (ok' := fun k_ => some k_ ≠ (.slice Ao10 t623.length co10 : Value).ownBlock ∧ k_ ≠ gb618) (Kd.S_N (Kd.S_bound ho0)) (fun k_ hk_ => ⟨(Kd.fresh' (Kd.N_lt (YN HO625)) k_ hk_.2.1),(Kd.freshB (YK BK618) k_ hk_.2.1)⟩)) (Z27 YH));have n2_:=Aside0.mk (Z40 (YK BK618) hb);have n3_:=Aside0.mk (Z25 YH hb);clear HO625;clear BK618;clear HB;have HO625:=n0_;have HO630:=n1_;have BK618:=n2_;have HB:=n3_;clear n0_ n1_ n2_ n3_;(try clear hb);(try clear hb2);(try clear hk);(try clear hi);(try clear ho0)))
   go_loopg [4] k (fun kq v4 w' => ∃ (x4_1 : Int),v4 = .int .i64 x4_1 ∧ Aside0 (cruciblelaw17_OrderNests.l0 kq t628 x4_1 t619 t620 t621 t622 t623 = some r) ∧ Aside0 (kq ≤ k) ∧ Aside0 (Kd.N k42 42 w' w.heap.size (fun k_ => some k_ ≠ ((.slice Ao10 t623.length co10) : Value).ownBlock ∧ k_ ≠ gb618) v629 t628) ∧ Aside0 (Kd.N k45 45 w' w.heap.size (fun k_ => some k_ ≠ (v629 : Value).ownBlock ∧ k_ ≠ gb618) (.slice Ao10 t623.length co10) t623) ∧ Aside0 (w'.heap[gb618]? = some (.cells #[.string t619,.int .i64 t620,.int .i64 t621,.int .i64 t622,(.slice Ao10 t623.length co10)] 24 (0,0))) ∧ Aside0 (Below w.heap.size w w'))
   case atStart => exact ⟨(0),(by first|rfl|(simp;done)|(simp [*];done)),H',⟨Nat.le_refl _⟩,⟨YN HO630⟩,⟨by (with_reducible repeat (first|apply Kd.N_alloc|apply Kd.N_drewN|apply Kd.N_drew));exact Kd.N_mono HO625.out (fun _ hk => ⟨hk.2,hk.1⟩)⟩,⟨YK BK618⟩,⟨YH⟩⟩
   case round =>
    clear H';try clear c4
    try clear hcz12_0
    try clear hcz12_1
    try clear hcz12_2
    try clear hcz12_3
    try clear hcz12_4
    try clear hcz7_0
    try clear hcz7_1
    try clear hcz7_2
    try clear hcz7_3
    try clear hcz7_4
    try clear hcz9_0
    try clear hcz9_1
    try clear hcz9_2
    try clear hcz9_3
    try clear hcz9_4
    try clear hfz9_0
    try clear hfz9_1
    try clear hfz9_2
    try clear hfz9_3
    try clear hfz9_4
    obtain ⟨x4_1,rfl,HA,HK1,HO_3,HO_619004,BK618,HB⟩:=hrel
    cases gk with
    | zero => exact absurd HA.out (by simp [cruciblelaw17_OrderNests.l0])
    | succ k1 =>
     have H:=HA.out
     clear HA;simp only [cruciblelaw17_OrderNests.l0] at H;by_cases c14 : x4_1 < (t628.length : Int)
     · rw [if_pos c14] at H;have c14b0 : decide (x4_1 < (t628.length : Int)) = true:=decide_eq_true c14
       clear c14;have H' := Aside0.mk H
       clear H;obtain ⟨Ao15,co15,eo15⟩:=Kd.N_slice HO_3.out
       subst eo15;go_wp2
       go_loopg [5] k1 (fun kq v5 w' => ∃ (x5_2 : Int),v5 = .int .i64 x5_2 ∧ Aside0 (cruciblelaw17_OrderNests.l1 kq t628 x4_1 x5_2 t619 t620 t621 t622 t623 = some r) ∧ Aside0 (kq ≤ k1) ∧ Aside0 (Kd.N k42 42 w' w.heap.size (fun k_ => some k_ ≠ ((.slice Ao10 t623.length co10) : Value).ownBlock ∧ k_ ≠ gb618) (.slice Ao15 t628.length co15) t628) ∧ Aside0 (Kd.N k45 45 w' w.heap.size (fun k_ => some k_ ≠ ((.slice Ao15 t628.length co15) : Value).ownBlock ∧ k_ ≠ gb618) (.slice Ao10 t623.length co10) t623) ∧ Aside0 (w'.heap[gb618]? = some (.cells #[.string t619,.int .i64 t620,.int .i64 t621,.int .i64 t622,(.slice Ao10 t623.length co10)] 24 (0,0))) ∧ Aside0 (Below w.heap.size w w'))
       case atStart => exact ⟨(0),(by first|rfl|(simp;done)|(simp [*];done)),H',⟨Nat.le_refl _⟩,⟨YN HO_3⟩,⟨YN HO_619004⟩,⟨YK BK618⟩,⟨YH⟩⟩
       case round =>
        clear H';try clear c4
        try clear c14
        try clear c14b0
        try clear hcz12_0
        try clear hcz12_1
        try clear hcz12_2
        try clear hcz12_3
        try clear hcz12_4
        try clear hcz7_0
        try clear hcz7_1
        try clear hcz7_2
        try clear hcz7_3
        try clear hcz7_4
        try clear hcz9_0
        try clear hcz9_1
        try clear hcz9_2
        try clear hcz9_3
        try clear hcz9_4
        try clear hfz9_0
        try clear hfz9_1
        try clear hfz9_2
        try clear hfz9_3
        try clear hfz9_4
        obtain ⟨x5_2,rfl,HA,HK2,HO_3,HO_619004,BK618,HB⟩:=hrel
        cases gk with
        | zero => exact absurd HA.out (by simp [cruciblelaw17_OrderNests.l1])
        | succ k2 =>
         have H:=HA.out
         clear HA;simp only [cruciblelaw17_OrderNests.l1] at H;by_cases c16 : 0 ≤ x4_1
         · rw [if_pos c16] at H;have c16b0 : decide (0 ≤ x4_1) = true:=decide_eq_true c16
           clear c16;by_cases c17 : x4_1 < (t628.length : Int)
           · rw [if_pos c17] at H;have c17b0 : decide (x4_1 < (t628.length : Int)) = true:=decide_eq_true c17
             clear c17;by_cases c18 : x5_2 < (((rd_T42 t628 x4_1).f1).length : Int)
             · rw [if_pos c18] at H;have c18b0 : decide (x5_2 < (((rd_T42 t628 x4_1).f1).length : Int)) = true:=decide_eq_true c18
               clear c18;by_cases c19 : 0 ≤ x5_2
               · rw [if_pos c19] at H;have c19b0 : decide (0 ≤ x5_2) = true:=decide_eq_true c19
                 clear c19;replace H:=Option.bind_eq_some_iff.mp H
                 obtain ⟨t636,A200,H⟩:=H
                 replace H : (if t636 = true then (cruciblelaw17_OrderNests.l1 k2 t628 x4_1 (wrap64 (x5_2 + 1)) t619 t620 t621 t622 t623) else (some false)) = some r:=H
                 have A20:=Aside0.mk A200
                 clear A200;by_cases c21 : t636 = true
                 · subst c21;have H1 : (cruciblelaw17_OrderNests.l1 k2 t628 x4_1 (wrap64 (x5_2 + 1)) t619 t620 t621 t622 t623) = some r:=by rw [if_pos rfl] at H;exact H
                   clear H;have H:=H1
                   clear H1;have H' := Aside0.mk H
                   clear H;have p632 : 0 ≤ (x4_1 : Int):=YA
                   have q632 : x4_1 < (t628.length : Int):=YA
                   obtain ⟨ad632,A632_1,c632_1,e632,hx632_0,hx632_1,hl632_1,hi632_1⟩:=at_T42 (Kd.N_reads' HO_3.out).2.2 x4_1 p632 q632
                   cases e632;obtain ⟨ce632,hce632,hMe632,hcc632⟩:=Kd.N_get HO_3.out z42 x4_1 p632 (by first|exact q632|exact YA|(have e_:=(Kd.N_reads' HO_3.out).1;omega))
                   obtain ⟨ua632_1,uc632_1,rfl,ul632_1,ge632_1⟩:=k42_openF hMe632
                   have hv632_1:=hcc632 1 _ rfl
                   rw [add_field _ _ 1 (by omega)] at hv632_1;replace hv632_1:=Option.some.inj (hv632_1.symm.trans hx632_1)
                   injection hv632_1 with hva_ hvn_ hvc_
                   rw [hva_] at ge632_1;rw [hvc_] at ul632_1;have HL632_1:=Aside0.mk (show Kd.V (Kd.int .i64) 3 _ w.heap.size _ _ ((rd_T42 t628 x4_1).f1) from Kd.V_mk ul632_1 ge632_1)
                   clear hva_ hvn_ hvc_ ge632_1 ul632_1;clear hcc632 hce632;have HR632_1:=Aside0.mk hi632_1
                   clear hi632_1 hl632_1;replace p632:=eq_true p632
                   replace q632:=eq_true q632
                   try go_wp2
                   have n0_:=Aside0.mk (Kd.N_drew HO_3.out)
                   have n1_:=Aside0.mk (Kd.N_drew HO_619004.out)
                   have n2_:=Aside0.mk (Kd.V_drew HL632_1.out)
                   have n3_:=Aside0.mk (Z3 BK618.out)
                   have n4_:=Aside0.mk (Kd.C_drew HR632_1.out)
                   have n5_:=Aside0.mk (Z6 HB.out)
                   clear HO_3;clear HO_619004;clear HL632_1;clear BK618;clear HR632_1;clear HB;have HO_3:=n0_
                   have HO_619004:=n1_
                   have HL632_1:=n2_
                   have BK618:=n3_
                   have HR632_1:=n4_
                   have HB:=n5_
                   clear n0_ n1_ n2_ n3_ n4_ n5_;have p633 : 0 ≤ (x4_1 : Int):=YA
                   have q633 : x4_1 < (t628.length : Int):=YA
                   obtain ⟨ad633,A633_1,c633_1,e633,hx633_0,hx633_1,hl633_1,hi633_1⟩:=at_T42 (Kd.N_reads' HO_3.out).2.2 x4_1 p633 q633
                   obtain rfl : ad632 = ad633:=(by injection e633)
                   obtain ⟨ce633,hce633,hMe633,hcc633⟩:=Kd.N_get HO_3.out z42 x4_1 p633 (by first|exact q633|exact YA|(have e_:=(Kd.N_reads' HO_3.out).1;omega))
                   obtain ⟨ua633_1,uc633_1,rfl,ul633_1,ge633_1⟩:=k42_openF hMe633
                   have hv633_1:=hcc633 1 _ rfl
                   rw [add_field _ _ 1 (by omega)] at hv633_1;replace hv633_1:=Option.some.inj (hv633_1.symm.trans hx633_1)
                   injection hv633_1 with hva_ hvn_ hvc_
                   rw [hva_] at ge633_1;rw [hvc_] at ul633_1;have HL633_1:=Aside0.mk (show Kd.V (Kd.int .i64) 3 _ w.heap.size _ _ ((rd_T42 t628 x4_1).f1) from Kd.V_mk ul633_1 ge633_1)
                   clear hva_ hvn_ hvc_ ge633_1 ul633_1;clear hcc633 hce633;have HR633_1:=Aside0.mk hi633_1
                   clear hi633_1 hl633_1;replace p633:=eq_true p633
                   replace q633:=eq_true q633
                   have p634 : 0 ≤ (x4_1 : Int):=YA
                   have q634 : x4_1 < (t628.length : Int):=YA
                   obtain ⟨ad634,A634_1,c634_1,e634,hx634_0,hx634_1,hl634_1,hi634_1⟩:=at_T42 (Kd.N_reads' HO_3.out).2.2 x4_1 p634 q634
                   obtain rfl : ad632 = ad634:=(by injection e634)
                   obtain ⟨ce634,hce634,hMe634,hcc634⟩:=Kd.N_get HO_3.out z42 x4_1 p634 (by first|exact q634|exact YA|(have e_:=(Kd.N_reads' HO_3.out).1;omega))
                   obtain ⟨ua634_1,uc634_1,rfl,ul634_1,ge634_1⟩:=k42_openF hMe634
                   have hv634_1:=hcc634 1 _ rfl
                   rw [add_field _ _ 1 (by omega)] at hv634_1;replace hv634_1:=Option.some.inj (hv634_1.symm.trans hx634_1)
                   injection hv634_1 with hva_ hvn_ hvc_
                   rw [hva_] at ge634_1;rw [hvc_] at ul634_1;have HL634_1:=Aside0.mk (show Kd.V (Kd.int .i64) 3 _ w.heap.size _ _ ((rd_T42 t628 x4_1).f1) from Kd.V_mk ul634_1 ge634_1)
                   clear hva_ hvn_ hvc_ ge634_1 ul634_1;clear hcc634 hce634;have HR634_1:=Aside0.mk hi634_1
                   have HC634_1:=Aside0.mk hl634_1
                   clear hi634_1 hl634_1;replace p634:=eq_true p634
                   replace q634:=eq_true q634
                   have ea_:=Option.some.inj (hx633_1.symm.trans hx634_1)
                   injection ea_ with ea_ en_ ec_
                   subst ea_;subst ec_;clear en_;have p635 : 0 ≤ (x5_2 : Int):=YA
                   have q635 : x5_2 < (((rd_T42 t628 x4_1).f1).length : Int):=YA
                   obtain ⟨ad635,e635,hx635_0⟩:=Kd.at_int (by repeat (first|(with_reducible exact HR634_1.out)|(with_reducible refine Kd.C_alloc ?_ _)|(with_reducible refine Kd.C_drewN ?_ _)|(with_reducible refine Kd.C_drew ?_)|exact HR634_1.out)) x5_2 p635 q635
                   cases e635;replace p635:=eq_true p635
                   replace q635:=eq_true q635
                   refine start_ (n:=16) (S:=fun w' => w'.cell? ⟨gb618,0,none⟩ = some (.string t619) ∧ w'.cell? ⟨gb618,1,none⟩ = some (.int .i64 t620) ∧ w'.cell? ⟨gb618,2,none⟩ = some (.int .i64 t621) ∧ w'.cell? ⟨gb618,3,none⟩ = some (.int .i64 t622) ∧ w'.cell? ⟨gb618,4,none⟩ = some (.slice Ao10 t623.length co10) ∧ w'.cell? (ad632.add ((x4_1).toNat * 2)) = some (.int .i64 ((rd_T42 t628 x4_1).f0)) ∧ w'.cell? ⟨(ad632.add ((x4_1).toNat * 2)).block,(ad632.add ((x4_1).toNat * 2)).off + 1,none⟩ = some (.slice (some ad635) ((rd_T42 t628 x4_1).f1).length c633_1) ∧ w'.cell? (ad632.add ((x4_1).toNat * 2)) = some (.int .i64 ((rd_T42 t628 x4_1).f0)) ∧ w'.cell? ⟨(ad632.add ((x4_1).toNat * 2)).block,(ad632.add ((x4_1).toNat * 2)).off + 1,none⟩ = some (.slice (some ad635) ((rd_T42 t628 x4_1).f1).length c633_1) ∧ w'.cell? (ad635.add (x5_2).toNat) = some (.int .i64 (rd ((rd_T42 t628 x4_1).f1) x5_2))) (ds:=[]) #[false,false,false,false,false,false,false,false,false,false,false,false,false,false,false,false] (by kernel_rfl) rfl rfl ⟨(Z5 BK618.out 0).trans rfl,(Z5 BK618.out 1).trans rfl,(Z5 BK618.out 2).trans rfl,(Z5 BK618.out 3).trans rfl,(Z5 BK618.out 4).trans rfl,hx633_0,hx633_1,hx634_0,hx634_1,hx635_0⟩ (fun hHeld => ?_);refine Z74 cruciblelaw17_OrderNests.tab11 cruciblelaw17_OrderNests.bits11 (fun HT_ HW_ => ?_);generalize wr.drew = w22 at HO_3 HO_619004 HL632_1 BK618 HR632_1 HB HL633_1 HL634_1 HR633_1 HR634_1 hx633_0 hx633_1 hx634_0 hx634_1 hx635_0 hHeld ⊢;refine pure_ (i:=1) (N:=some 37) (v:=?_) (a' := ?_) #[false,true,false,false,false,false,false,false,false,false,false,false,false,false,false,false] rfl rfl (any_of HT_.out (by kernel_rfl)) (fun _ _ _ h => h) (Or.inl ⟨by rfl,?_⟩) ?_ ?_;rotate_left
                   · intro w';go_simp
                     with_reducible rfl
                   rotate_left
                   · simp only [Act.put,List.setIfInBounds_toArray,List.set_cons_zero,List.set_cons_succ,i64_w,i32_w];rfl
                   refine pure_ (i:=2) (N:=some 38) (v:=?_) (a' := ?_) #[false,true,true,false,false,false,false,false,false,false,false,false,false,false,false,false] rfl rfl (any_of HT_.out (by kernel_rfl)) (fun _ _ _ h => h) (Or.inl ⟨by rfl,?_⟩) ?_ ?_;rotate_left
                   · intro w';go_simp
                     with_reducible rfl
                   rotate_left
                   · simp only [Act.put,List.setIfInBounds_toArray,List.set_cons_zero,List.set_cons_succ,i64_w,i32_w];rfl
                   refine pure_ (i:=3) (N:=some 39) (v:=?_) (a' := ?_) #[false,true,true,true,false,false,false,false,false,false,false,false,false,false,false,false] rfl rfl (any_of HT_.out (by kernel_rfl)) (fun _ _ _ h => h) (Or.inl ⟨by rfl,?_⟩) ?_ ?_;rotate_left
                   · intro w';go_simp
                     with_reducible rfl
                   rotate_left
                   · simp only [Act.put,List.setIfInBounds_toArray,List.set_cons_zero,List.set_cons_succ,i64_w,i32_w];rfl
                   refine pure_ (i:=4) (N:=some 40) (v:=?_) (a' := ?_) #[false,true,true,true,true,false,false,false,false,false,false,false,false,false,false,false] rfl rfl (any_of HT_.out (by kernel_rfl)) (fun _ _ _ h => h) (Or.inl ⟨by rfl,?_⟩) ?_ ?_;rotate_left
                   · intro w';go_simp
                     with_reducible rfl
                   rotate_left
                   · simp only [Act.put,List.setIfInBounds_toArray,List.set_cons_zero,List.set_cons_succ,i64_w,i32_w];rfl
                   refine pure_ (i:=6) (N:=some 42) (v:=?_) (a' := ?_) #[false,true,true,true,true,false,true,false,false,false,false,false,false,false,false,false] rfl rfl (any_of HT_.out (by kernel_rfl)) (fun _ _ _ h => h) (Or.inl ⟨by rfl,?_⟩) ?_ ?_;rotate_left
                   · intro w';go_simp
                     with_reducible rfl
                   rotate_left
                   · simp only [Act.put,List.setIfInBounds_toArray,List.set_cons_zero,List.set_cons_succ,i64_w,i32_w];rfl
                   refine pure_ (i:=7) (N:=some 43) (v:=?_) (a' := ?_) #[false,true,true,true,true,false,true,true,false,false,false,false,false,false,false,false] rfl rfl (any_of HT_.out (by kernel_rfl)) (fun _ _ _ h => h) (Or.inl ⟨by rfl,?_⟩) ?_ ?_;rotate_left
                   · intro w';go_simp
                     with_reducible rfl
                   rotate_left
                   · simp only [Act.put,List.setIfInBounds_toArray,List.set_cons_zero,List.set_cons_succ,i64_w,i32_w];rfl
                   refine pure_ (i:=8) (N:=some 44) (v:=?_) (a' := ?_) #[false,true,true,true,true,false,true,true,true,false,false,false,false,false,false,false] rfl rfl (any_of HT_.out (by kernel_rfl)) (fun _ _ _ h => h) (Or.inl ⟨by rfl,?_⟩) ?_ ?_;rotate_left
                   · intro w';go_simp
                     with_reducible rfl
                   rotate_left
                   · simp only [Act.put,List.setIfInBounds_toArray,List.set_cons_zero,List.set_cons_succ,i64_w,i32_w];rfl
                   refine pure_ (i:=9) (N:=some 45) (v:=?_) (a' := ?_) #[false,true,true,true,true,false,true,true,true,true,false,false,false,false,false,false] rfl rfl (any_of HT_.out (by kernel_rfl)) (fun _ _ _ h => h) (Or.inl ⟨by rfl,?_⟩) ?_ ?_;rotate_left
                   · intro w';go_simp
                     with_reducible rfl
                   rotate_left
                   · simp only [Act.put,List.setIfInBounds_toArray,List.set_cons_zero,List.set_cons_succ,i64_w,i32_w];rfl
                   refine pure_ (i:=11) (N:=some 47) (v:=?_) (a' := ?_) #[false,true,true,true,true,false,true,true,true,true,false,true,false,false,false,false] rfl rfl (any_of HT_.out (by kernel_rfl)) (fun _ _ _ h => h) (Or.inl ⟨by rfl,?_⟩) ?_ ?_;rotate_left
                   · intro w';go_simp
                     with_reducible rfl
                   rotate_left
                   · simp only [Act.put,List.setIfInBounds_toArray,List.set_cons_zero,List.set_cons_succ,i64_w,i32_w];rfl
                   refine take_ (i:=0) (N:=some 36) (v:=?_) (a' := ?_) #[true,true,true,true,true,false,true,true,true,true,false,true,false,false,false,false] rfl rfl (Z67 HT_.out HW_.out (by kernel_rfl)) (fun _ _ _ h => h) (Or.inl ⟨by rfl,?_⟩) hHeld ?_ ?_;rotate_left
                   · rintro w' ⟨s0,s1,s2,s3,s4,s5,s6,s7,s8,s9⟩;go_simp
                     with_reducible rfl
                   rotate_left
                   · simp only [Act.put,List.setIfInBounds_toArray,List.set_cons_zero,List.set_cons_succ,i64_w,i32_w];rfl
                   refine take_ (i:=5) (N:=some 41) (v:=?_) (a' := ?_) #[true,true,true,true,true,true,true,true,true,true,false,true,false,false,false,false] rfl rfl (Z67 HT_.out HW_.out (by kernel_rfl)) (fun _ _ _ h => h) (Or.inl ⟨by rfl,?_⟩) hHeld ?_ ?_;rotate_left
                   · rintro w' ⟨s0,s1,s2,s3,s4,s5,s6,s7,s8,s9⟩;go_simp
                     with_reducible rfl
                   rotate_left
                   · simp only [Act.put,List.setIfInBounds_toArray,List.set_cons_zero,List.set_cons_succ,i64_w,i32_w];rfl
                   refine take_ (i:=10) (N:=some 46) (v:=?_) (a' := ?_) #[true,true,true,true,true,true,true,true,true,true,true,true,false,false,false,false] rfl rfl (Z67 HT_.out HW_.out (by kernel_rfl)) (fun _ _ _ h => h) (Or.inl ⟨by rfl,?_⟩) hHeld ?_ ?_;rotate_left
                   · rintro w' ⟨s0,s1,s2,s3,s4,s5,s6,s7,s8,s9⟩;go_simp
                     with_reducible rfl
                   rotate_left
                   · simp only [Act.put,List.setIfInBounds_toArray,List.set_cons_zero,List.set_cons_succ,i64_w,i32_w];rfl
                   refine pure_ (i:=12) (N:=some 48) (v:=?_) (a' := ?_) #[true,true,true,true,true,true,true,true,true,true,true,true,true,false,false,false] rfl rfl (any_of HT_.out (by kernel_rfl)) (fun _ _ _ h => h) (Or.inl ⟨by rfl,?_⟩) ?_ ?_;rotate_left
                   · intro w';go_simp
                     with_reducible rfl
                   rotate_left
                   · simp only [Act.put,List.setIfInBounds_toArray,List.set_cons_zero,List.set_cons_succ,i64_w,i32_w];rfl
                   refine take_ (i:=13) (N:=some 49) (v:=?_) (a' := ?_) #[true,true,true,true,true,true,true,true,true,true,true,true,true,true,false,false] rfl rfl (Z67 HT_.out HW_.out (by kernel_rfl)) (fun _ _ _ h => h) (Or.inl ⟨by rfl,?_⟩) hHeld ?_ ?_;rotate_left
                   · rintro w' ⟨s0,s1,s2,s3,s4,s5,s6,s7,s8,s9⟩;go_simp
                     with_reducible rfl
                   rotate_left
                   · simp only [Act.put,List.setIfInBounds_toArray,List.set_cons_zero,List.set_cons_succ,i64_w,i32_w];rfl
                   refine one_ (i:=14) (N:=some 50) #[true,true,true,true,true,true,true,true,true,true,true,true,true,true,true,false] rfl rfl (one_of HT_.out (by kernel_rfl)) (by decide) (fun K hK => ?_);refine goes_ Try.func18 (by kernel_rfl) rfl #[.agg #[.string t619,.int .i64 t620,.int .i64 t621,.int .i64 t622,.slice Ao10 t623.length co10],.int .i64 ((rd_T42 t628 x4_1).f0),.int .i64 (rd ((rd_T42 t628 x4_1).f1) x5_2)] (by rfl) rfl rfl (by (try simp only [List.map_toArray,List.map_cons,List.map_nil]);first|done|rfl|(simp only [List.length_drop,List.length_take];rfl)) ?_
                   with_reducible refine (order_Dominates.calls k2 t619 t620 t621 t622 _ _ t623 ((rd_T42 t628 x4_1).f0) (rd ((rd_T42 t628 x4_1).f1) x5_2) true _ ?side1 ?side2 A20.out).mono ?_
                   (case side1 => repeat (first|exact (Kd.N_reads' HO_619004.out).2.2|(with_reducible refine Kd.C_alloc ?_ _)|(with_reducible refine Kd.C_drewN ?_ _)|(with_reducible refine Kd.C_drew ?_)));(case side2 => exact (Kd.N_reads' HO_619004.out).2.1);rintro e w23 ⟨rfl,hb⟩;have HS5_:=(hb.cell (World.block_lt_of_cell? _ _ (hHeld.2.2.2.2.2.1))).trans (hHeld.2.2.2.2.2.1)
                   have HS6_:=(hb.cell (World.block_lt_of_cell? _ _ (hHeld.2.2.2.2.2.2.1))).trans (hHeld.2.2.2.2.2.2.1)
                   have HS7_:=(hb.cell (World.block_lt_of_cell? _ _ (hHeld.2.2.2.2.2.2.2.1))).trans (hHeld.2.2.2.2.2.2.2.1)
                   have HS8_:=(hb.cell (World.block_lt_of_cell? _ _ (hHeld.2.2.2.2.2.2.2.2.1))).trans (hHeld.2.2.2.2.2.2.2.2.1)
                   have HS9_:=(hb.cell (World.block_lt_of_cell? _ _ (hHeld.2.2.2.2.2.2.2.2.2))).trans (hHeld.2.2.2.2.2.2.2.2.2)
                   refine ⟨_,rfl,?_⟩;have n0_:=Aside0.mk (Kd.N_below (YN HO_3) hb)
                   have n1_:=Aside0.mk (Kd.N_below (YN HO_619004) hb)
                   have n2_:=Aside0.mk (Kd.V_below (YV HL632_1) hb)
                   have n3_:=Aside0.mk (Kd.V_below (YV HL633_1) hb)
                   have n4_:=Aside0.mk (Kd.V_below (YV HL634_1) hb)
                   have n5_:=Aside0.mk (Z40 (YK BK618) hb)
                   have n6_:=Aside0.mk (Kd.C_below (by repeat (first|(with_reducible exact HR632_1.out)|(with_reducible refine Kd.C_alloc ?_ _)|(with_reducible refine Kd.C_drewN ?_ _)|(with_reducible refine Kd.C_drew ?_)|exact HR632_1.out)) hb)
                   have n7_:=Aside0.mk (Kd.C_below (by repeat (first|(with_reducible exact HR633_1.out)|(with_reducible refine Kd.C_alloc ?_ _)|(with_reducible refine Kd.C_drewN ?_ _)|(with_reducible refine Kd.C_drew ?_)|exact HR633_1.out)) hb)
                   have n8_:=Aside0.mk (Kd.C_below (by repeat (first|(with_reducible exact HR634_1.out)|(with_reducible refine Kd.C_alloc ?_ _)|(with_reducible refine Kd.C_drewN ?_ _)|(with_reducible refine Kd.C_drew ?_)|exact HR634_1.out)) hb)
                   have n9_:=Aside0.mk (Z25 YH hb)
                   clear HO_3;clear HO_619004;clear HL632_1;clear HL633_1;clear HL634_1;clear BK618;clear HR632_1;clear HR633_1;clear HR634_1;clear HB;have HO_3:=n0_
                   have HO_619004:=n1_
                   have HL632_1:=n2_
                   have HL633_1:=n3_
                   have HL634_1:=n4_
                   have BK618:=n5_
                   have HR632_1:=n6_
                   have HR633_1:=n7_
                   have HR634_1:=n8_
                   have HB:=n9_
                   clear n0_ n1_ n2_ n3_ n4_ n5_ n6_ n7_ n8_ n9_;(try clear hb);(try clear hb2);(try clear hk);(try clear hi);refine hK.out _ _ ⟨(Z5 BK618.out 0).trans rfl,(Z5 BK618.out 1).trans rfl,(Z5 BK618.out 2).trans rfl,(Z5 BK618.out 3).trans rfl,(Z5 BK618.out 4).trans rfl,HS5_,HS6_,HS7_,HS8_,HS9_⟩ (fun hHeld => ?_);clear hK K;refine norm_ (a' := ?_) ?_ ?_;rotate_left
                   · show Act.put _ (some 50) _ = _
                     simp only [Act.put,List.setIfInBounds_toArray,List.set_cons_zero,List.set_cons_succ,i64_w,i32_w];rfl
                   refine pure_ (i:=15) (N:=some 51) (v:=?_) (a' := ?_) #[true,true,true,true,true,true,true,true,true,true,true,true,true,true,true,true] rfl rfl (any_of HT_.out (by kernel_rfl)) (fun _ _ _ h => h) (Or.inl ⟨by rfl,?_⟩) ?_ ?_;rotate_left
                   · intro w';go_simp
                     with_reducible rfl
                   rotate_left
                   · simp only [Act.put,List.setIfInBounds_toArray,List.set_cons_zero,List.set_cons_succ,i64_w,i32_w];rfl
                   refine done_ (Z83 HT_.out (by kernel_rfl)) ?_;try go_wp2
                   go_roundg k2
                   case measure => have:=HK1.out;have:=HK2.out;omega
                   case rel => exact ⟨(wrap64 (x5_2 + 1)),(by first|rfl|(simp;done)|(simp [*];done)),H',⟨by have:=HK1.out;have:=HK2.out;omega⟩,⟨YN HO_3⟩,⟨YN HO_619004⟩,⟨YK BK618⟩,⟨YH⟩⟩
                 · replace c21:=Bool.eq_false_iff.mpr c21
                   subst c21;have H1 : (some false) = some r:=by rw [if_neg (show ¬ (false = true) by decide)] at H;exact H
                   clear H;have H:=H1
                   clear H1;obtain rfl:=Option.some.inj H
                   have p632 : 0 ≤ (x4_1 : Int):=YA
                   have q632 : x4_1 < (t628.length : Int):=YA
                   obtain ⟨ad632,A632_1,c632_1,e632,hx632_0,hx632_1,hl632_1,hi632_1⟩:=at_T42 (Kd.N_reads' HO_3.out).2.2 x4_1 p632 q632
                   cases e632;obtain ⟨ce632,hce632,hMe632,hcc632⟩:=Kd.N_get HO_3.out z42 x4_1 p632 (by first|exact q632|exact YA|(have e_:=(Kd.N_reads' HO_3.out).1;omega))
                   obtain ⟨ua632_1,uc632_1,rfl,ul632_1,ge632_1⟩:=k42_openF hMe632
                   have hv632_1:=hcc632 1 _ rfl
                   rw [add_field _ _ 1 (by omega)] at hv632_1;replace hv632_1:=Option.some.inj (hv632_1.symm.trans hx632_1)
                   injection hv632_1 with hva_ hvn_ hvc_
                   rw [hva_] at ge632_1;rw [hvc_] at ul632_1;have HL632_1:=Aside0.mk (show Kd.V (Kd.int .i64) 3 _ w.heap.size _ _ ((rd_T42 t628 x4_1).f1) from Kd.V_mk ul632_1 ge632_1)
                   clear hva_ hvn_ hvc_ ge632_1 ul632_1;clear hcc632 hce632;have HR632_1:=Aside0.mk hi632_1
                   clear hi632_1 hl632_1;replace p632:=eq_true p632
                   replace q632:=eq_true q632
                   try go_wp2
                   have n0_:=Aside0.mk (Kd.N_drew HO_3.out)
                   have n1_:=Aside0.mk (Kd.N_drew HO_619004.out)
                   have n2_:=Aside0.mk (Kd.V_drew HL632_1.out)
                   have n3_:=Aside0.mk (Z3 BK618.out)
                   have n4_:=Aside0.mk (Kd.C_drew HR632_1.out)
                   have n5_:=Aside0.mk (Z6 HB.out)
                   clear HO_3;clear HO_619004;clear HL632_1;clear BK618;clear HR632_1;clear HB;have HO_3:=n0_
                   have HO_619004:=n1_
                   have HL632_1:=n2_
                   have BK618:=n3_
                   have HR632_1:=n4_
                   have HB:=n5_
                   clear n0_ n1_ n2_ n3_ n4_ n5_;have p633 : 0 ≤ (x4_1 : Int):=YA
                   have q633 : x4_1 < (t628.length : Int):=YA
                   obtain ⟨ad633,A633_1,c633_1,e633,hx633_0,hx633_1,hl633_1,hi633_1⟩:=at_T42 (Kd.N_reads' HO_3.out).2.2 x4_1 p633 q633
                   obtain rfl : ad632 = ad633:=(by injection e633)
                   obtain ⟨ce633,hce633,hMe633,hcc633⟩:=Kd.N_get HO_3.out z42 x4_1 p633 (by first|exact q633|exact YA|(have e_:=(Kd.N_reads' HO_3.out).1;omega))
                   obtain ⟨ua633_1,uc633_1,rfl,ul633_1,ge633_1⟩:=k42_openF hMe633
                   have hv633_1:=hcc633 1 _ rfl
                   rw [add_field _ _ 1 (by omega)] at hv633_1;replace hv633_1:=Option.some.inj (hv633_1.symm.trans hx633_1)
                   injection hv633_1 with hva_ hvn_ hvc_
                   rw [hva_] at ge633_1;rw [hvc_] at ul633_1;have HL633_1:=Aside0.mk (show Kd.V (Kd.int .i64) 3 _ w.heap.size _ _ ((rd_T42 t628 x4_1).f1) from Kd.V_mk ul633_1 ge633_1)
                   clear hva_ hvn_ hvc_ ge633_1 ul633_1;clear hcc633 hce633;have HR633_1:=Aside0.mk hi633_1
                   clear hi633_1 hl633_1;replace p633:=eq_true p633
                   replace q633:=eq_true q633
                   have p634 : 0 ≤ (x4_1 : Int):=YA
                   have q634 : x4_1 < (t628.length : Int):=YA
                   obtain ⟨ad634,A634_1,c634_1,e634,hx634_0,hx634_1,hl634_1,hi634_1⟩:=at_T42 (Kd.N_reads' HO_3.out).2.2 x4_1 p634 q634
                   obtain rfl : ad632 = ad634:=(by injection e634)
                   obtain ⟨ce634,hce634,hMe634,hcc634⟩:=Kd.N_get HO_3.out z42 x4_1 p634 (by first|exact q634|exact YA|(have e_:=(Kd.N_reads' HO_3.out).1;omega))
                   obtain ⟨ua634_1,uc634_1,rfl,ul634_1,ge634_1⟩:=k42_openF hMe634
                   have hv634_1:=hcc634 1 _ rfl
                   rw [add_field _ _ 1 (by omega)] at hv634_1;replace hv634_1:=Option.some.inj (hv634_1.symm.trans hx634_1)
                   injection hv634_1 with hva_ hvn_ hvc_
                   rw [hva_] at ge634_1;rw [hvc_] at ul634_1;have HL634_1:=Aside0.mk (show Kd.V (Kd.int .i64) 3 _ w.heap.size _ _ ((rd_T42 t628 x4_1).f1) from Kd.V_mk ul634_1 ge634_1)
                   clear hva_ hvn_ hvc_ ge634_1 ul634_1;clear hcc634 hce634;have HR634_1:=Aside0.mk hi634_1
                   have HC634_1:=Aside0.mk hl634_1
                   clear hi634_1 hl634_1;replace p634:=eq_true p634
                   replace q634:=eq_true q634
                   have ea_:=Option.some.inj (hx633_1.symm.trans hx634_1)
                   injection ea_ with ea_ en_ ec_
                   subst ea_;subst ec_;clear en_;have p635 : 0 ≤ (x5_2 : Int):=YA
                   have q635 : x5_2 < (((rd_T42 t628 x4_1).f1).length : Int):=YA
                   obtain ⟨ad635,e635,hx635_0⟩:=Kd.at_int (by repeat (first|(with_reducible exact HR634_1.out)|(with_reducible refine Kd.C_alloc ?_ _)|(with_reducible refine Kd.C_drewN ?_ _)|(with_reducible refine Kd.C_drew ?_)|exact HR634_1.out)) x5_2 p635 q635
                   cases e635;replace p635:=eq_true p635
                   replace q635:=eq_true q635
                   refine start_ (n:=16) (S:=fun w' => w'.cell? ⟨gb618,0,none⟩ = some (.string t619) ∧ w'.cell? ⟨gb618,1,none⟩ = some (.int .i64 t620) ∧ w'.cell? ⟨gb618,2,none⟩ = some (.int .i64 t621) ∧ w'.cell? ⟨gb618,3,none⟩ = some (.int .i64 t622) ∧ w'.cell? ⟨gb618,4,none⟩ = some (.slice Ao10 t623.length co10) ∧ w'.cell? (ad632.add ((x4_1).toNat * 2)) = some (.int .i64 ((rd_T42 t628 x4_1).f0)) ∧ w'.cell? ⟨(ad632.add ((x4_1).toNat * 2)).block,(ad632.add ((x4_1).toNat * 2)).off + 1,none⟩ = some (.slice (some ad635) ((rd_T42 t628 x4_1).f1).length c633_1) ∧ w'.cell? (ad632.add ((x4_1).toNat * 2)) = some (.int .i64 ((rd_T42 t628 x4_1).f0)) ∧ w'.cell? ⟨(ad632.add ((x4_1).toNat * 2)).block,(ad632.add ((x4_1).toNat * 2)).off + 1,none⟩ = some (.slice (some ad635) ((rd_T42 t628 x4_1).f1).length c633_1) ∧ w'.cell? (ad635.add (x5_2).toNat) = some (.int .i64 (rd ((rd_T42 t628 x4_1).f1) x5_2))) (ds:=[]) #[false,false,false,false,false,false,false,false,false,false,false,false,false,false,false,false] (by kernel_rfl) rfl rfl ⟨(Z5 BK618.out 0).trans rfl,(Z5 BK618.out 1).trans rfl,(Z5 BK618.out 2).trans rfl,(Z5 BK618.out 3).trans rfl,(Z5 BK618.out 4).trans rfl,hx633_0,hx633_1,hx634_0,hx634_1,hx635_0⟩ (fun hHeld => ?_);refine Z74 cruciblelaw17_OrderNests.tab11 cruciblelaw17_OrderNests.bits11 (fun HT_ HW_ => ?_);generalize wr.drew = w24 at HO_3 HO_619004 HL632_1 BK618 HR632_1 HB HL633_1 HL634_1 HR633_1 HR634_1 hx633_0 hx633_1 hx634_0 hx634_1 hx635_0 hHeld ⊢;refine pure_ (i:=1) (N:=some 37) (v:=?_) (a' := ?_) #[false,true,false,false,false,false,false,false,false,false,false,false,false,false,false,false] rfl rfl (any_of HT_.out (by kernel_rfl)) (fun _ _ _ h => h) (Or.inl ⟨by rfl,?_⟩) ?_ ?_;rotate_left
                   · intro w';go_simp
                     with_reducible rfl
                   rotate_left
                   · simp only [Act.put,List.setIfInBounds_toArray,List.set_cons_zero,List.set_cons_succ,i64_w,i32_w];rfl
                   refine pure_ (i:=2) (N:=some 38) (v:=?_) (a' := ?_) #[false,true,true,false,false,false,false,false,false,false,false,false,false,false,false,false] rfl rfl (any_of HT_.out (by kernel_rfl)) (fun _ _ _ h => h) (Or.inl ⟨by rfl,?_⟩) ?_ ?_;rotate_left
                   · intro w';go_simp
                     with_reducible rfl
                   rotate_left
                   · simp only [Act.put,List.setIfInBounds_toArray,List.set_cons_zero,List.set_cons_succ,i64_w,i32_w];rfl
                   refine pure_ (i:=3) (N:=some 39) (v:=?_) (a' := ?_) #[false,true,true,true,false,false,false,false,false,false,false,false,false,false,false,false] rfl rfl (any_of HT_.out (by kernel_rfl)) (fun _ _ _ h => h) (Or.inl ⟨by rfl,?_⟩) ?_ ?_;rotate_left
                   · intro w';go_simp
                     with_reducible rfl
                   rotate_left
                   · simp only [Act.put,List.setIfInBounds_toArray,List.set_cons_zero,List.set_cons_succ,i64_w,i32_w];rfl
                   refine pure_ (i:=4) (N:=some 40) (v:=?_) (a' := ?_) #[false,true,true,true,true,false,false,false,false,false,false,false,false,false,false,false] rfl rfl (any_of HT_.out (by kernel_rfl)) (fun _ _ _ h => h) (Or.inl ⟨by rfl,?_⟩) ?_ ?_;rotate_left
                   · intro w';go_simp
                     with_reducible rfl
                   rotate_left
                   · simp only [Act.put,List.setIfInBounds_toArray,List.set_cons_zero,List.set_cons_succ,i64_w,i32_w];rfl
                   refine pure_ (i:=6) (N:=some 42) (v:=?_) (a' := ?_) #[false,true,true,true,true,false,true,false,false,false,false,false,false,false,false,false] rfl rfl (any_of HT_.out (by kernel_rfl)) (fun _ _ _ h => h) (Or.inl ⟨by rfl,?_⟩) ?_ ?_;rotate_left
                   · intro w';go_simp
                     with_reducible rfl
                   rotate_left
                   · simp only [Act.put,List.setIfInBounds_toArray,List.set_cons_zero,List.set_cons_succ,i64_w,i32_w];rfl
                   refine pure_ (i:=7) (N:=some 43) (v:=?_) (a' := ?_) #[false,true,true,true,true,false,true,true,false,false,false,false,false,false,false,false] rfl rfl (any_of HT_.out (by kernel_rfl)) (fun _ _ _ h => h) (Or.inl ⟨by rfl,?_⟩) ?_ ?_;rotate_left
                   · intro w';go_simp
                     with_reducible rfl
                   rotate_left
                   · simp only [Act.put,List.setIfInBounds_toArray,List.set_cons_zero,List.set_cons_succ,i64_w,i32_w];rfl
                   refine pure_ (i:=8) (N:=some 44) (v:=?_) (a' := ?_) #[false,true,true,true,true,false,true,true,true,false,false,false,false,false,false,false] rfl rfl (any_of HT_.out (by kernel_rfl)) (fun _ _ _ h => h) (Or.inl ⟨by rfl,?_⟩) ?_ ?_;rotate_left
                   · intro w';go_simp
                     with_reducible rfl
                   rotate_left
                   · simp only [Act.put,List.setIfInBounds_toArray,List.set_cons_zero,List.set_cons_succ,i64_w,i32_w];rfl
                   refine pure_ (i:=9) (N:=some 45) (v:=?_) (a' := ?_) #[false,true,true,true,true,false,true,true,true,true,false,false,false,false,false,false] rfl rfl (any_of HT_.out (by kernel_rfl)) (fun _ _ _ h => h) (Or.inl ⟨by rfl,?_⟩) ?_ ?_;rotate_left
                   · intro w';go_simp
                     with_reducible rfl
                   rotate_left
                   · simp only [Act.put,List.setIfInBounds_toArray,List.set_cons_zero,List.set_cons_succ,i64_w,i32_w];rfl
                   refine pure_ (i:=11) (N:=some 47) (v:=?_) (a' := ?_) #[false,true,true,true,true,false,true,true,true,true,false,true,false,false,false,false] rfl rfl (any_of HT_.out (by kernel_rfl)) (fun _ _ _ h => h) (Or.inl ⟨by rfl,?_⟩) ?_ ?_;rotate_left
                   · intro w';go_simp
                     with_reducible rfl
                   rotate_left
                   · simp only [Act.put,List.setIfInBounds_toArray,List.set_cons_zero,List.set_cons_succ,i64_w,i32_w];rfl
                   refine take_ (i:=0) (N:=some 36) (v:=?_) (a' := ?_) #[true,true,true,true,true,false,true,true,true,true,false,true,false,false,false,false] rfl rfl (Z67 HT_.out HW_.out (by kernel_rfl)) (fun _ _ _ h => h) (Or.inl ⟨by rfl,?_⟩) hHeld ?_ ?_;rotate_left
                   · rintro w' ⟨s0,s1,s2,s3,s4,s5,s6,s7,s8,s9⟩;go_simp
                     with_reducible rfl
                   rotate_left
                   · simp only [Act.put,List.setIfInBounds_toArray,List.set_cons_zero,List.set_cons_succ,i64_w,i32_w];rfl
                   refine take_ (i:=5) (N:=some 41) (v:=?_) (a' := ?_) #[true,true,true,true,true,true,true,true,true,true,false,true,false,false,false,false] rfl rfl (Z67 HT_.out HW_.out (by kernel_rfl)) (fun _ _ _ h => h) (Or.inl ⟨by rfl,?_⟩) hHeld ?_ ?_;rotate_left
                   · rintro w' ⟨s0,s1,s2,s3,s4,s5,s6,s7,s8,s9⟩;go_simp
                     with_reducible rfl
                   rotate_left
                   · simp only [Act.put,List.setIfInBounds_toArray,List.set_cons_zero,List.set_cons_succ,i64_w,i32_w];rfl
                   refine take_ (i:=10) (N:=some 46) (v:=?_) (a' := ?_) #[true,true,true,true,true,true,true,true,true,true,true,true,false,false,false,false] rfl rfl (Z67 HT_.out HW_.out (by kernel_rfl)) (fun _ _ _ h => h) (Or.inl ⟨by rfl,?_⟩) hHeld ?_ ?_;rotate_left
                   · rintro w' ⟨s0,s1,s2,s3,s4,s5,s6,s7,s8,s9⟩;go_simp
                     with_reducible rfl
                   rotate_left
                   · simp only [Act.put,List.setIfInBounds_toArray,List.set_cons_zero,List.set_cons_succ,i64_w,i32_w];rfl
                   refine pure_ (i:=12) (N:=some 48) (v:=?_) (a' := ?_) #[true,true,true,true,true,true,true,true,true,true,true,true,true,false,false,false] rfl rfl (any_of HT_.out (by kernel_rfl)) (fun _ _ _ h => h) (Or.inl ⟨by rfl,?_⟩) ?_ ?_;rotate_left
                   · intro w';go_simp
                     with_reducible rfl
                   rotate_left
                   · simp only [Act.put,List.setIfInBounds_toArray,List.set_cons_zero,List.set_cons_succ,i64_w,i32_w];rfl
                   refine take_ (i:=13) (N:=some 49) (v:=?_) (a' := ?_) #[true,true,true,true,true,true,true,true,true,true,true,true,true,true,false,false] rfl rfl (Z67 HT_.out HW_.out (by kernel_rfl)) (fun _ _ _ h => h) (Or.inl ⟨by rfl,?_⟩) hHeld ?_ ?_;rotate_left
                   · rintro w' ⟨s0,s1,s2,s3,s4,s5,s6,s7,s8,s9⟩;go_simp
                     with_reducible rfl
                   rotate_left
                   · simp only [Act.put,List.setIfInBounds_toArray,List.set_cons_zero,List.set_cons_succ,i64_w,i32_w];rfl
                   refine one_ (i:=14) (N:=some 50) #[true,true,true,true,true,true,true,true,true,true,true,true,true,true,true,false] rfl rfl (one_of HT_.out (by kernel_rfl)) (by decide) (fun K hK => ?_);refine goes_ Try.func18 (by kernel_rfl) rfl #[.agg #[.string t619,.int .i64 t620,.int .i64 t621,.int .i64 t622,.slice Ao10 t623.length co10],.int .i64 ((rd_T42 t628 x4_1).f0),.int .i64 (rd ((rd_T42 t628 x4_1).f1) x5_2)] (by rfl) rfl rfl (by (try simp only [List.map_toArray,List.map_cons,List.map_nil]);first|done|rfl|(simp only [List.length_drop,List.length_take];rfl)) ?_
                   with_reducible refine (order_Dominates.calls k2 t619 t620 t621 t622 _ _ t623 ((rd_T42 t628 x4_1).f0) (rd ((rd_T42 t628 x4_1).f1) x5_2) false _ ?side1 ?side2 A20.out).mono ?_
                   (case side1 => repeat (first|exact (Kd.N_reads' HO_619004.out).2.2|(with_reducible refine Kd.C_alloc ?_ _)|(with_reducible refine Kd.C_drewN ?_ _)|(with_reducible refine Kd.C_drew ?_)));(case side2 => exact (Kd.N_reads' HO_619004.out).2.1);rintro e w25 ⟨rfl,hb⟩;have HS5_:=(hb.cell (World.block_lt_of_cell? _ _ (hHeld.2.2.2.2.2.1))).trans (hHeld.2.2.2.2.2.1)
                   have HS6_:=(hb.cell (World.block_lt_of_cell? _ _ (hHeld.2.2.2.2.2.2.1))).trans (hHeld.2.2.2.2.2.2.1)
                   have HS7_:=(hb.cell (World.block_lt_of_cell? _ _ (hHeld.2.2.2.2.2.2.2.1))).trans (hHeld.2.2.2.2.2.2.2.1)
                   have HS8_:=(hb.cell (World.block_lt_of_cell? _ _ (hHeld.2.2.2.2.2.2.2.2.1))).trans (hHeld.2.2.2.2.2.2.2.2.1)
                   have HS9_:=(hb.cell (World.block_lt_of_cell? _ _ (hHeld.2.2.2.2.2.2.2.2.2))).trans (hHeld.2.2.2.2.2.2.2.2.2)
                   refine ⟨_,rfl,?_⟩;have n0_:=Aside0.mk (Kd.N_below (YN HO_3) hb)
                   have n1_:=Aside0.mk (Kd.N_below (YN HO_619004) hb)
                   have n2_:=Aside0.mk (Kd.V_below (YV HL632_1) hb)
                   have n3_:=Aside0.mk (Kd.V_below (YV HL633_1) hb)
                   have n4_:=Aside0.mk (Kd.V_below (YV HL634_1) hb)
                   have n5_:=Aside0.mk (Z40 (YK BK618) hb)
                   have n6_:=Aside0.mk (Kd.C_below (by repeat (first|(with_reducible exact HR632_1.out)|(with_reducible refine Kd.C_alloc ?_ _)|(with_reducible refine Kd.C_drewN ?_ _)|(with_reducible refine Kd.C_drew ?_)|exact HR632_1.out)) hb)
                   have n7_:=Aside0.mk (Kd.C_below (by repeat (first|(with_reducible exact HR633_1.out)|(with_reducible refine Kd.C_alloc ?_ _)|(with_reducible refine Kd.C_drewN ?_ _)|(with_reducible refine Kd.C_drew ?_)|exact HR633_1.out)) hb)
                   have n8_:=Aside0.mk (Kd.C_below (by repeat (first|(with_reducible exact HR634_1.out)|(with_reducible refine Kd.C_alloc ?_ _)|(with_reducible refine Kd.C_drewN ?_ _)|(with_reducible refine Kd.C_drew ?_)|exact HR634_1.out)) hb)
                   have n9_:=Aside0.mk (Z25 YH hb)
                   clear HO_3;clear HO_619004;clear HL632_1;clear HL633_1;clear HL634_1;clear BK618;clear HR632_1;clear HR633_1;clear HR634_1;clear HB;have HO_3:=n0_
                   have HO_619004:=n1_
                   have HL632_1:=n2_
                   have HL633_1:=n3_
                   have HL634_1:=n4_
                   have BK618:=n5_
                   have HR632_1:=n6_
                   have HR633_1:=n7_
                   have HR634_1:=n8_
                   have HB:=n9_
                   clear n0_ n1_ n2_ n3_ n4_ n5_ n6_ n7_ n8_ n9_;(try clear hb);(try clear hb2);(try clear hk);(try clear hi);refine hK.out _ _ ⟨(Z5 BK618.out 0).trans rfl,(Z5 BK618.out 1).trans rfl,(Z5 BK618.out 2).trans rfl,(Z5 BK618.out 3).trans rfl,(Z5 BK618.out 4).trans rfl,HS5_,HS6_,HS7_,HS8_,HS9_⟩ (fun hHeld => ?_);clear hK K;refine norm_ (a' := ?_) ?_ ?_;rotate_left
                   · show Act.put _ (some 50) _ = _
                     simp only [Act.put,List.setIfInBounds_toArray,List.set_cons_zero,List.set_cons_succ,i64_w,i32_w];rfl
                   refine pure_ (i:=15) (N:=some 51) (v:=?_) (a' := ?_) #[true,true,true,true,true,true,true,true,true,true,true,true,true,true,true,true] rfl rfl (any_of HT_.out (by kernel_rfl)) (fun _ _ _ h => h) (Or.inl ⟨by rfl,?_⟩) ?_ ?_;rotate_left
                   · intro w';go_simp
                     with_reducible rfl
                   rotate_left
                   · simp only [Act.put,List.setIfInBounds_toArray,List.set_cons_zero,List.set_cons_succ,i64_w,i32_w];rfl
                   refine done_ (Z83 HT_.out (by kernel_rfl)) ?_;try go_wp2
                   go_ret
                   exact ⟨by first|rfl|(simp [Z16,Z15] <;> rfl)|(simp [*,Z16,Z15] <;> rfl),by repeat (first|(with_reducible first|exact HB.out|apply Z7|apply Z4|apply Z6|refine Z8 ?_ GE618.out)|exact HB.out)⟩
               · rw [if_neg c19] at H;exact absurd H (by simp)
             · rw [if_neg c18] at H;have c18b0 : decide (x5_2 < (((rd_T42 t628 x4_1).f1).length : Int)) = false:=decide_eq_false c18
               clear c18;have H' := Aside0.mk H
               clear H;have p632 : 0 ≤ (x4_1 : Int):=YA
               have q632 : x4_1 < (t628.length : Int):=YA
               obtain ⟨ad632,A632_1,c632_1,e632,hx632_0,hx632_1,hl632_1,hi632_1⟩:=at_T42 (Kd.N_reads' HO_3.out).2.2 x4_1 p632 q632
               cases e632;obtain ⟨ce632,hce632,hMe632,hcc632⟩:=Kd.N_get HO_3.out z42 x4_1 p632 (by first|exact q632|exact YA|(have e_:=(Kd.N_reads' HO_3.out).1;omega))
               obtain ⟨ua632_1,uc632_1,rfl,ul632_1,ge632_1⟩:=k42_openF hMe632
               have hv632_1:=hcc632 1 _ rfl
               rw [add_field _ _ 1 (by omega)] at hv632_1;replace hv632_1:=Option.some.inj (hv632_1.symm.trans hx632_1)
               injection hv632_1 with hva_ hvn_ hvc_
               rw [hva_] at ge632_1;rw [hvc_] at ul632_1;have HL632_1:=Aside0.mk (show Kd.V (Kd.int .i64) 3 _ w.heap.size _ _ ((rd_T42 t628 x4_1).f1) from Kd.V_mk ul632_1 ge632_1)
               clear hva_ hvn_ hvc_ ge632_1 ul632_1;clear hcc632 hce632;have HR632_1:=Aside0.mk hi632_1
               clear hi632_1 hl632_1;replace p632:=eq_true p632
               replace q632:=eq_true q632
               go_wp2
               go_loopg [6] k2 (fun kq v6 w' => ∃ (x6_3 : Int),v6 = .int .i64 x6_3 ∧ Aside0 (cruciblelaw17_OrderNests.l2 kq t628 x4_1 x6_3 t619 t620 t621 t622 t623 = some r) ∧ Aside0 (kq ≤ k2) ∧ Aside0 (Kd.N k42 42 w' w.heap.size (fun k_ => some k_ ≠ ((.slice Ao10 t623.length co10) : Value).ownBlock ∧ k_ ≠ gb618) (.slice (some ad632) t628.length co15) t628) ∧ Aside0 (Kd.N k45 45 w' w.heap.size (fun k_ => some k_ ≠ ((.slice (some ad632) t628.length co15) : Value).ownBlock ∧ k_ ≠ gb618) (.slice Ao10 t623.length co10) t623) ∧ Aside0 (w'.heap[gb618]? = some (.cells #[.string t619,.int .i64 t620,.int .i64 t621,.int .i64 t622,(.slice Ao10 t623.length co10)] 24 (0,0))) ∧ Aside0 (Kd.C (Kd.int .i64) w' A632_1 ((rd_T42 t628 x4_1).f1).length ((rd_T42 t628 x4_1).f1)) ∧ Aside0 (Below w.heap.size w w'))
               case atStart => exact ⟨(0),(by first|rfl|(simp;done)|(simp [*];done)),H',⟨Nat.le_refl _⟩,⟨YN HO_3⟩,⟨YN HO_619004⟩,⟨YK BK618⟩,⟨by repeat (first|(with_reducible exact HR632_1.out)|(with_reducible refine Kd.C_alloc ?_ _)|(with_reducible refine Kd.C_drewN ?_ _)|(with_reducible refine Kd.C_drew ?_)|exact HR632_1.out)⟩,⟨YH⟩⟩
               case round =>
                clear H';try clear c18
                try clear c18b0
                try clear hx632_0
                try clear hx632_1
                try clear p632
                try clear q632
                obtain ⟨x6_3,rfl,HA,HK3,HO_3,HO_619004,BK618,HR632_1,HB⟩:=hrel
                cases gk with
                | zero => exact absurd HA.out (by simp [cruciblelaw17_OrderNests.l2])
                | succ k3 =>
                 have H:=HA.out
                 clear HA;simp only [cruciblelaw17_OrderNests.l2] at H;by_cases c26 : x6_3 < (t628.length : Int)
                 · rw [if_pos c26] at H;have c26b0 : decide (x6_3 < (t628.length : Int)) = true:=decide_eq_true c26
                   clear c26;have H' := Aside0.mk H
                   clear H;go_wp2
                   go_loopg [7,8,9] k3 (fun kq v7 v8 v9 w' => ∃ (x7_4 : Bool) (x8_4 : Bool) (x9_4 : Int),v7 = .bool x7_4 ∧ v8 = .bool x8_4 ∧ v9 = .int .i64 x9_4 ∧ Aside0 (cruciblelaw17_OrderNests.l3 kq t628 x4_1 x6_3 x7_4 x8_4 x9_4 t619 t620 t621 t622 t623 = some r) ∧ Aside0 (kq ≤ k3) ∧ Aside0 (Kd.N k42 42 w' w.heap.size (fun k_ => some k_ ≠ ((.slice Ao10 t623.length co10) : Value).ownBlock ∧ k_ ≠ gb618) (.slice (some ad632) t628.length co15) t628) ∧ Aside0 (Kd.N k45 45 w' w.heap.size (fun k_ => some k_ ≠ ((.slice (some ad632) t628.length co15) : Value).ownBlock ∧ k_ ≠ gb618) (.slice Ao10 t623.length co10) t623) ∧ Aside0 (w'.heap[gb618]? = some (.cells #[.string t619,.int .i64 t620,.int .i64 t621,.int .i64 t622,(.slice Ao10 t623.length co10)] 24 (0,0))) ∧ Aside0 (Kd.C (Kd.int .i64) w' A632_1 ((rd_T42 t628 x4_1).f1).length ((rd_T42 t628 x4_1).f1)) ∧ Aside0 (Below w.heap.size w w'))
                   case atStart => exact ⟨(false),(false),(0),(by first|rfl|(simp;done)|(simp [*];done)),(by first|rfl|(simp;done)|(simp [*];done)),(by first|rfl|(simp;done)|(simp [*];done)),H',⟨Nat.le_refl _⟩,⟨YN HO_3⟩,⟨YN HO_619004⟩,⟨YK BK618⟩,⟨by repeat (first|(with_reducible exact HR632_1.out)|(with_reducible refine Kd.C_alloc ?_ _)|(with_reducible refine Kd.C_drewN ?_ _)|(with_reducible refine Kd.C_drew ?_)|exact HR632_1.out)⟩,⟨YH⟩⟩
                   case round =>
                    clear H';try clear c18
                    try clear c18b0
                    try clear c26
                    try clear c26b0
                    try clear hx632_0
                    try clear hx632_1
                    try clear p632
                    try clear q632
                    obtain ⟨x7_4,x8_4,x9_4,rfl,rfl,rfl,HA,HK4,HO_3,HO_619004,BK618,HR632_1,HB⟩:=hrel
                    cases gk with
                    | zero => exact absurd HA.out (by simp [cruciblelaw17_OrderNests.l3])
                    | succ k4 =>
                     have H:=HA.out
                     clear HA;simp only [cruciblelaw17_OrderNests.l3] at H;by_cases c27 : 0 ≤ x4_1
                     · rw [if_pos c27] at H;have c27b0 : decide (0 ≤ x4_1) = true:=decide_eq_true c27
                       clear c27;by_cases c28 : x4_1 < (t628.length : Int)
                       · rw [if_pos c28] at H;have c28b0 : decide (x4_1 < (t628.length : Int)) = true:=decide_eq_true c28
                         clear c28;by_cases c29 : x9_4 < (((rd_T42 t628 x4_1).f1).length : Int)
                         · rw [if_pos c29] at H;have c29b0 : decide (x9_4 < (((rd_T42 t628 x4_1).f1).length : Int)) = true:=decide_eq_true c29
                           clear c29;have H' := Aside0.mk H
                           clear H;have p637 : 0 ≤ (x4_1 : Int):=YA
                           have q637 : x4_1 < (t628.length : Int):=YA
                           obtain ⟨ad637,A637_1,c637_1,e637,hx637_0,hx637_1,hl637_1,hi637_1⟩:=at_T42 (Kd.N_reads' HO_3.out).2.2 x4_1 p637 q637
                           obtain rfl : ad632 = ad637:=(by injection e637)
                           obtain ⟨ce637,hce637,hMe637,hcc637⟩:=Kd.N_get HO_3.out z42 x4_1 p637 (by first|exact q637|exact YA|(have e_:=(Kd.N_reads' HO_3.out).1;omega))
                           obtain ⟨ua637_1,uc637_1,rfl,ul637_1,ge637_1⟩:=k42_openF hMe637
                           have hv637_1:=hcc637 1 _ rfl
                           rw [add_field _ _ 1 (by omega)] at hv637_1;replace hv637_1:=Option.some.inj (hv637_1.symm.trans hx637_1)
                           injection hv637_1 with hva_ hvn_ hvc_
                           rw [hva_] at ge637_1;rw [hvc_] at ul637_1;have HL637_1:=Aside0.mk (show Kd.V (Kd.int .i64) 3 _ w.heap.size _ _ ((rd_T42 t628 x4_1).f1) from Kd.V_mk ul637_1 ge637_1)
                           clear hva_ hvn_ hvc_ ge637_1 ul637_1;clear hcc637 hce637;have HR637_1:=Aside0.mk hi637_1
                           clear hi637_1 hl637_1;replace p637:=eq_true p637
                           replace q637:=eq_true q637
                           go_wp2
                           go_loopg [7,10] k4 (fun kq v7 v10 w' => ∃ (x7_5 : Bool) (x10_5 : Int),v7 = .bool x7_5 ∧ v10 = .int .i64 x10_5 ∧ Aside0 (cruciblelaw17_OrderNests.l4 kq t628 x4_1 x6_3 x7_5 x8_4 x9_4 x10_5 t619 t620 t621 t622 t623 = some r) ∧ Aside0 (kq ≤ k4) ∧ Aside0 (Kd.N k42 42 w' w.heap.size (fun k_ => some k_ ≠ ((.slice Ao10 t623.length co10) : Value).ownBlock ∧ k_ ≠ gb618) (.slice (some ad632) t628.length co15) t628) ∧ Aside0 (Kd.N k45 45 w' w.heap.size (fun k_ => some k_ ≠ ((.slice (some ad632) t628.length co15) : Value).ownBlock ∧ k_ ≠ gb618) (.slice Ao10 t623.length co10) t623) ∧ Aside0 (w'.heap[gb618]? = some (.cells #[.string t619,.int .i64 t620,.int .i64 t621,.int .i64 t622,(.slice Ao10 t623.length co10)] 24 (0,0))) ∧ Aside0 (Kd.C (Kd.int .i64) w' A632_1 ((rd_T42 t628 x4_1).f1).length ((rd_T42 t628 x4_1).f1)) ∧ Aside0 (Kd.C (Kd.int .i64) w' A637_1 ((rd_T42 t628 x4_1).f1).length ((rd_T42 t628 x4_1).f1)) ∧ Aside0 (Below w.heap.size w w'))
                           case atStart => exact ⟨(x7_4),(0),(by first|rfl|(simp;done)|(simp [*];done)),(by first|rfl|(simp;done)|(simp [*];done)),H',⟨Nat.le_refl _⟩,⟨YN HO_3⟩,⟨YN HO_619004⟩,⟨YK BK618⟩,⟨by repeat (first|(with_reducible exact HR632_1.out)|(with_reducible refine Kd.C_alloc ?_ _)|(with_reducible refine Kd.C_drewN ?_ _)|(with_reducible refine Kd.C_drew ?_)|exact HR632_1.out)⟩,⟨by repeat (first|(with_reducible exact HR637_1.out)|(with_reducible refine Kd.C_alloc ?_ _)|(with_reducible refine Kd.C_drewN ?_ _)|(with_reducible refine Kd.C_drew ?_)|exact HR637_1.out)⟩,⟨YH⟩⟩
                           case round =>
                            clear H';try clear c18
                            try clear c18b0
                            try clear c26
                            try clear c26b0
                            try clear c27
                            try clear c27b0
                            try clear c28
                            try clear c28b0
                            try clear c29
                            try clear c29b0
                            try clear hx632_0
                            try clear hx632_1
                            try clear hx637_0
                            try clear hx637_1
                            try clear p632
                            try clear p637
                            try clear q632
                            try clear q637
                            obtain ⟨x7_5,x10_5,rfl,rfl,HA,HK5,HO_3,HO_619004,BK618,HR632_1,HR637_1,HB⟩:=hrel
                            cases gk with
                            | zero => exact absurd HA.out (by simp [cruciblelaw17_OrderNests.l4])
                            | succ k5 =>
                             have H:=HA.out
                             clear HA;simp only [cruciblelaw17_OrderNests.l4] at H;by_cases c30 : 0 ≤ x6_3
                             · rw [if_pos c30] at H;have c30b0 : decide (0 ≤ x6_3) = true:=decide_eq_true c30
                               clear c30;by_cases c31 : x6_3 < (t628.length : Int)
                               · rw [if_pos c31] at H;have c31b0 : decide (x6_3 < (t628.length : Int)) = true:=decide_eq_true c31
                                 clear c31;by_cases c32 : x10_5 < (((rd_T42 t628 x6_3).f1).length : Int)
                                 · rw [if_pos c32] at H;have c32b0 : decide (x10_5 < (((rd_T42 t628 x6_3).f1).length : Int)) = true:=decide_eq_true c32
                                   clear c32;by_cases c33 : x7_5 = true
                                   · subst c33;have H1 : (cruciblelaw17_OrderNests.l4 k5 t628 x4_1 x6_3 true x8_4 x9_4 (wrap64 (x10_5 + 1)) t619 t620 t621 t622 t623) = some r:=by rw [if_pos rfl] at H;exact H
                                     clear H;have H:=H1
                                     clear H1;have H' := Aside0.mk H
                                     clear H;have p638 : 0 ≤ (x6_3 : Int):=YA
                                     have q638 : x6_3 < (t628.length : Int):=YA
                                     obtain ⟨ad638,A638_1,c638_1,e638,hx638_0,hx638_1,hl638_1,hi638_1⟩:=at_T42 (Kd.N_reads' HO_3.out).2.2 x6_3 p638 q638
                                     obtain rfl : ad632 = ad638:=(by injection e638)
                                     obtain ⟨ce638,hce638,hMe638,hcc638⟩:=Kd.N_get HO_3.out z42 x6_3 p638 (by first|exact q638|exact YA|(have e_:=(Kd.N_reads' HO_3.out).1;omega))
                                     obtain ⟨ua638_1,uc638_1,rfl,ul638_1,ge638_1⟩:=k42_openF hMe638
                                     have hv638_1:=hcc638 1 _ rfl
                                     rw [add_field _ _ 1 (by omega)] at hv638_1;replace hv638_1:=Option.some.inj (hv638_1.symm.trans hx638_1)
                                     injection hv638_1 with hva_ hvn_ hvc_
                                     rw [hva_] at ge638_1;rw [hvc_] at ul638_1;have HL638_1:=Aside0.mk (show Kd.V (Kd.int .i64) 3 _ w.heap.size _ _ ((rd_T42 t628 x6_3).f1) from Kd.V_mk ul638_1 ge638_1)
                                     clear hva_ hvn_ hvc_ ge638_1 ul638_1;clear hcc638 hce638;have HR638_1:=Aside0.mk hi638_1
                                     clear hi638_1 hl638_1;replace p638:=eq_true p638
                                     replace q638:=eq_true q638
                                     try go_wp2
                                     have n0_:=Aside0.mk (Kd.N_drew HO_3.out)
                                     have n1_:=Aside0.mk (Kd.N_drew HO_619004.out)
                                     have n2_:=Aside0.mk (Kd.V_drew HL638_1.out)
                                     have n3_:=Aside0.mk (Z3 BK618.out)
                                     have n4_:=Aside0.mk (Kd.C_drew HR632_1.out)
                                     have n5_:=Aside0.mk (Kd.C_drew HR637_1.out)
                                     have n6_:=Aside0.mk (Kd.C_drew HR638_1.out)
                                     have n7_:=Aside0.mk (Z6 HB.out)
                                     clear HO_3;clear HO_619004;clear HL638_1;clear BK618;clear HR632_1;clear HR637_1;clear HR638_1;clear HB;have HO_3:=n0_
                                     have HO_619004:=n1_
                                     have HL638_1:=n2_
                                     have BK618:=n3_
                                     have HR632_1:=n4_
                                     have HR637_1:=n5_
                                     have HR638_1:=n6_
                                     have HB:=n7_
                                     clear n0_ n1_ n2_ n3_ n4_ n5_ n6_ n7_;refine start_ (n:=21) (S:=fun w' => True) (ds:=[]) #[false,false,false,false,false,false,false,false,false,false,false,false,false,false,false,false,false,false,false,false,false] (by kernel_rfl) rfl rfl trivial (fun hHeld => ?_);refine Z74 cruciblelaw17_OrderNests.tab23 cruciblelaw17_OrderNests.bits23 (fun HT_ HW_ => ?_);generalize wr.drew = w34 at HO_3 HO_619004 HL638_1 BK618 HR632_1 HR637_1 HR638_1 HB hHeld ⊢;refine pure_ (i:=0) (N:=some 78) (v:=?_) (a' := ?_) #[true,false,false,false,false,false,false,false,false,false,false,false,false,false,false,false,false,false,false,false,false] rfl rfl (any_of HT_.out (by kernel_rfl)) (fun _ _ _ h => h) (Or.inl ⟨by rfl,?_⟩) ?_ ?_;rotate_left
                                     · intro w';go_simp
                                       with_reducible rfl
                                     rotate_left
                                     · simp only [Act.put,List.setIfInBounds_toArray,List.set_cons_zero,List.set_cons_succ,i64_w,i32_w];rfl
                                     refine pure_ (i:=1) (N:=some 79) (v:=?_) (a' := ?_) #[true,true,false,false,false,false,false,false,false,false,false,false,false,false,false,false,false,false,false,false,false] rfl rfl (any_of HT_.out (by kernel_rfl)) (fun _ _ _ h => h) (Or.inl ⟨by rfl,?_⟩) ?_ ?_;rotate_left
                                     · intro w';go_simp
                                       with_reducible rfl
                                     rotate_left
                                     · simp only [Act.put,List.setIfInBounds_toArray,List.set_cons_zero,List.set_cons_succ,i64_w,i32_w];rfl
                                     refine pure_ (i:=2) (N:=some 80) (v:=undef) (a' := ?_) #[true,true,true,false,false,false,false,false,false,false,false,false,false,false,false,false,false,false,false,false,false] rfl rfl (any_of HT_.out (by kernel_rfl)) (fun _ _ _ h => h) (Or.inr ⟨by rfl,rfl⟩) ?_ ?_;rotate_left
                                     · simp only [Act.put,List.setIfInBounds_toArray,List.set_cons_zero,List.set_cons_succ,i64_w,i32_w];rfl
                                     refine pure_ (i:=3) (N:=some 81) (v:=undef) (a' := ?_) #[true,true,true,true,false,false,false,false,false,false,false,false,false,false,false,false,false,false,false,false,false] rfl rfl (any_of HT_.out (by kernel_rfl)) (fun _ _ _ h => h) (Or.inr ⟨by rfl,rfl⟩) ?_ ?_;rotate_left
                                     · simp only [Act.put,List.setIfInBounds_toArray,List.set_cons_zero,List.set_cons_succ,i64_w,i32_w];rfl
                                     refine pure_ (i:=4) (N:=some 82) (v:=undef) (a' := ?_) #[true,true,true,true,true,false,false,false,false,false,false,false,false,false,false,false,false,false,false,false,false] rfl rfl (any_of HT_.out (by kernel_rfl)) (fun _ _ _ h => h) (Or.inr ⟨by rfl,rfl⟩) ?_ ?_;rotate_left
                                     · simp only [Act.put,List.setIfInBounds_toArray,List.set_cons_zero,List.set_cons_succ,i64_w,i32_w];rfl
                                     refine pure_ (i:=5) (N:=some 83) (v:=undef) (a' := ?_) #[true,true,true,true,true,true,false,false,false,false,false,false,false,false,false,false,false,false,false,false,false] rfl rfl (any_of HT_.out (by kernel_rfl)) (fun _ _ _ h => h) (Or.inr ⟨by rfl,rfl⟩) ?_ ?_;rotate_left
                                     · simp only [Act.put,List.setIfInBounds_toArray,List.set_cons_zero,List.set_cons_succ,i64_w,i32_w];rfl
                                     refine pure_ (i:=6) (N:=some 84) (v:=undef) (a' := ?_) #[true,true,true,true,true,true,true,false,false,false,false,false,false,false,false,false,false,false,false,false,false] rfl rfl (any_of HT_.out (by kernel_rfl)) (fun _ _ _ h => h) (Or.inr ⟨by rfl,rfl⟩) ?_ ?_;rotate_left
                                     · simp only [Act.put,List.setIfInBounds_toArray,List.set_cons_zero,List.set_cons_succ,i64_w,i32_w];rfl
                                     refine pure_ (i:=7) (N:=some 85) (v:=undef) (a' := ?_) #[true,true,true,true,true,true,true,true,false,false,false,false,false,false,false,false,false,false,false,false,false] rfl rfl (any_of HT_.out (by kernel_rfl)) (fun _ _ _ h => h) (Or.inr ⟨by rfl,rfl⟩) ?_ ?_;rotate_left
                                     · simp only [Act.put,List.setIfInBounds_toArray,List.set_cons_zero,List.set_cons_succ,i64_w,i32_w];rfl
                                     refine pure_ (i:=8) (N:=some 86) (v:=undef) (a' := ?_) #[true,true,true,true,true,true,true,true,true,false,false,false,false,false,false,false,false,false,false,false,false] rfl rfl (any_of HT_.out (by kernel_rfl)) (fun _ _ _ h => h) (Or.inr ⟨by rfl,rfl⟩) ?_ ?_;rotate_left
                                     · simp only [Act.put,List.setIfInBounds_toArray,List.set_cons_zero,List.set_cons_succ,i64_w,i32_w];rfl
                                     refine pure_ (i:=9) (N:=some 87) (v:=undef) (a' := ?_) #[true,true,true,true,true,true,true,true,true,true,false,false,false,false,false,false,false,false,false,false,false] rfl rfl (any_of HT_.out (by kernel_rfl)) (fun _ _ _ h => h) (Or.inr ⟨by rfl,rfl⟩) ?_ ?_;rotate_left
                                     · simp only [Act.put,List.setIfInBounds_toArray,List.set_cons_zero,List.set_cons_succ,i64_w,i32_w];rfl
                                     refine pure_ (i:=10) (N:=some 88) (v:=undef) (a' := ?_) #[true,true,true,true,true,true,true,true,true,true,true,false,false,false,false,false,false,false,false,false,false] rfl rfl (any_of HT_.out (by kernel_rfl)) (fun _ _ _ h => h) (Or.inr ⟨by rfl,rfl⟩) ?_ ?_;rotate_left
                                     · simp only [Act.put,List.setIfInBounds_toArray,List.set_cons_zero,List.set_cons_succ,i64_w,i32_w];rfl
                                     refine pure_ (i:=11) (N:=some 89) (v:=undef) (a' := ?_) #[true,true,true,true,true,true,true,true,true,true,true,true,false,false,false,false,false,false,false,false,false] rfl rfl (any_of HT_.out (by kernel_rfl)) (fun _ _ _ h => h) (Or.inr ⟨by rfl,rfl⟩) ?_ ?_;rotate_left
                                     · simp only [Act.put,List.setIfInBounds_toArray,List.set_cons_zero,List.set_cons_succ,i64_w,i32_w];rfl
                                     refine pure_ (i:=12) (N:=some 90) (v:=undef) (a' := ?_) #[true,true,true,true,true,true,true,true,true,true,true,true,true,false,false,false,false,false,false,false,false] rfl rfl (any_of HT_.out (by kernel_rfl)) (fun _ _ _ h => h) (Or.inr ⟨by rfl,rfl⟩) ?_ ?_;rotate_left
                                     · simp only [Act.put,List.setIfInBounds_toArray,List.set_cons_zero,List.set_cons_succ,i64_w,i32_w];rfl
                                     refine pure_ (i:=13) (N:=some 91) (v:=undef) (a' := ?_) #[true,true,true,true,true,true,true,true,true,true,true,true,true,true,false,false,false,false,false,false,false] rfl rfl (any_of HT_.out (by kernel_rfl)) (fun _ _ _ h => h) (Or.inr ⟨by rfl,rfl⟩) ?_ ?_;rotate_left
                                     · simp only [Act.put,List.setIfInBounds_toArray,List.set_cons_zero,List.set_cons_succ,i64_w,i32_w];rfl
                                     refine pure_ (i:=14) (N:=some 92) (v:=undef) (a' := ?_) #[true,true,true,true,true,true,true,true,true,true,true,true,true,true,true,false,false,false,false,false,false] rfl rfl (any_of HT_.out (by kernel_rfl)) (fun _ _ _ h => h) (Or.inr ⟨by rfl,rfl⟩) ?_ ?_;rotate_left
                                     · simp only [Act.put,List.setIfInBounds_toArray,List.set_cons_zero,List.set_cons_succ,i64_w,i32_w];rfl
                                     refine pure_ (i:=15) (N:=some 93) (v:=undef) (a' := ?_) #[true,true,true,true,true,true,true,true,true,true,true,true,true,true,true,true,false,false,false,false,false] rfl rfl (any_of HT_.out (by kernel_rfl)) (fun _ _ _ h => h) (Or.inr ⟨by rfl,rfl⟩) ?_ ?_;rotate_left
                                     · simp only [Act.put,List.setIfInBounds_toArray,List.set_cons_zero,List.set_cons_succ,i64_w,i32_w];rfl
                                     refine pure_ (i:=16) (N:=some 94) (v:=undef) (a' := ?_) #[true,true,true,true,true,true,true,true,true,true,true,true,true,true,true,true,true,false,false,false,false] rfl rfl (any_of HT_.out (by kernel_rfl)) (fun _ _ _ h => h) (Or.inr ⟨by rfl,rfl⟩) ?_ ?_;rotate_left
                                     · simp only [Act.put,List.setIfInBounds_toArray,List.set_cons_zero,List.set_cons_succ,i64_w,i32_w];rfl
                                     refine pure_ (i:=17) (N:=some 95) (v:=undef) (a' := ?_) #[true,true,true,true,true,true,true,true,true,true,true,true,true,true,true,true,true,true,false,false,false] rfl rfl (any_of HT_.out (by kernel_rfl)) (fun _ _ _ h => h) (Or.inr ⟨by rfl,rfl⟩) ?_ ?_;rotate_left
                                     · simp only [Act.put,List.setIfInBounds_toArray,List.set_cons_zero,List.set_cons_succ,i64_w,i32_w];rfl
                                     refine pure_ (i:=18) (N:=some 96) (v:=undef) (a' := ?_) #[true,true,true,true,true,true,true,true,true,true,true,true,true,true,true,true,true,true,true,false,false] rfl rfl (any_of HT_.out (by kernel_rfl)) (fun _ _ _ h => h) (Or.inr ⟨by rfl,rfl⟩) ?_ ?_;rotate_left
                                     · simp only [Act.put,List.setIfInBounds_toArray,List.set_cons_zero,List.set_cons_succ,i64_w,i32_w];rfl
                                     refine pure_ (i:=19) (N:=some 97) (v:=?_) (a' := ?_) #[true,true,true,true,true,true,true,true,true,true,true,true,true,true,true,true,true,true,true,true,false] rfl rfl (any_of HT_.out (by kernel_rfl)) (fun _ _ _ h => h) (Or.inl ⟨by rfl,?_⟩) ?_ ?_;rotate_left
                                     · intro w';go_simp
                                       with_reducible rfl
                                     rotate_left
                                     · simp only [Act.put,List.setIfInBounds_toArray,List.set_cons_zero,List.set_cons_succ,i64_w,i32_w];rfl
                                     refine pure_ (i:=20) (N:=some 7) (v:=?_) (a' := ?_) #[true,true,true,true,true,true,true,true,true,true,true,true,true,true,true,true,true,true,true,true,true] rfl rfl (any_of HT_.out (by kernel_rfl)) (fun _ _ _ h => h) (Or.inl ⟨by rfl,?_⟩) ?_ ?_;rotate_left
                                     · intro w';go_simp
                                       with_reducible rfl
                                     rotate_left
                                     · simp only [Act.put,List.setIfInBounds_toArray,List.set_cons_zero,List.set_cons_succ,i64_w,i32_w];rfl
                                     refine done_ (Z83 HT_.out (by kernel_rfl)) ?_;try go_wp2
                                     go_roundg k5
                                     case measure => have:=HK1.out;have:=HK2.out;have:=HK3.out;have:=HK4.out;have:=HK5.out;omega
                                     case rel => exact ⟨(true),(wrap64 (x10_5 + 1)),(by first|rfl|(simp;done)|(simp [*];done)),(by first|rfl|(simp;done)|(simp [*];done)),H',⟨by have:=HK1.out;have:=HK2.out;have:=HK3.out;have:=HK4.out;have:=HK5.out;omega⟩,⟨YN HO_3⟩,⟨YN HO_619004⟩,⟨YK BK618⟩,⟨by repeat (first|(with_reducible exact HR632_1.out)|(with_reducible refine Kd.C_alloc ?_ _)|(with_reducible refine Kd.C_drewN ?_ _)|(with_reducible refine Kd.C_drew ?_)|exact HR632_1.out)⟩,⟨by repeat (first|(with_reducible exact HR637_1.out)|(with_reducible refine Kd.C_alloc ?_ _)|(with_reducible refine Kd.C_drewN ?_ _)|(with_reducible refine Kd.C_drew ?_)|exact HR637_1.out)⟩,⟨YH⟩⟩
                                   · replace c33:=Bool.eq_false_iff.mpr c33
                                     subst c33;have H1 : (if 0 ≤ x4_1 then (if x4_1 < (t628.length : Int) then (if 0 ≤ x9_4 then (if x9_4 < (((rd_T42 t628 x4_1).f1).length : Int) then (if 0 ≤ x10_5 then (cruciblelaw17_OrderNests.l4 k5 t628 x4_1 x6_3 ((rd ((rd_T42 t628 x4_1).f1) x9_4) == (rd ((rd_T42 t628 x6_3).f1) x10_5)) x8_4 x9_4 (wrap64 (x10_5 + 1)) t619 t620 t621 t622 t623) else (none)) else (none)) else (none)) else (none)) else (none)) = some r:=by rw [if_neg (show ¬ (false = true) by decide)] at H;exact H
                                     clear H;have H:=H1
                                     clear H1;by_cases c35 : 0 ≤ x4_1
                                     · rw [if_pos c35] at H;have c35b0 : decide (0 ≤ x4_1) = true:=decide_eq_true c35
                                       clear c35;by_cases c36 : x4_1 < (t628.length : Int)
                                       · rw [if_pos c36] at H;have c36b0 : decide (x4_1 < (t628.length : Int)) = true:=decide_eq_true c36
                                         clear c36;by_cases c37 : 0 ≤ x9_4
                                         · rw [if_pos c37] at H;have c37b0 : decide (0 ≤ x9_4) = true:=decide_eq_true c37
                                           clear c37;by_cases c38 : x9_4 < (((rd_T42 t628 x4_1).f1).length : Int)
                                           · rw [if_pos c38] at H;have c38b0 : decide (x9_4 < (((rd_T42 t628 x4_1).f1).length : Int)) = true:=decide_eq_true c38
                                             clear c38;by_cases c39 : 0 ≤ x10_5
                                             · rw [if_pos c39] at H;have c39b0 : decide (0 ≤ x10_5) = true:=decide_eq_true c39
                                               clear c39;have H' := Aside0.mk H
                                               clear H;have p638 : 0 ≤ (x6_3 : Int):=YA
                                               have q638 : x6_3 < (t628.length : Int):=YA
                                               obtain ⟨ad638,A638_1,c638_1,e638,hx638_0,hx638_1,hl638_1,hi638_1⟩:=at_T42 (Kd.N_reads' HO_3.out).2.2 x6_3 p638 q638
                                               obtain rfl : ad632 = ad638:=(by injection e638)
                                               obtain ⟨ce638,hce638,hMe638,hcc638⟩:=Kd.N_get HO_3.out z42 x6_3 p638 (by first|exact q638|exact YA|(have e_:=(Kd.N_reads' HO_3.out).1;omega))
                                               obtain ⟨ua638_1,uc638_1,rfl,ul638_1,ge638_1⟩:=k42_openF hMe638
                                               have hv638_1:=hcc638 1 _ rfl
                                               rw [add_field _ _ 1 (by omega)] at hv638_1;replace hv638_1:=Option.some.inj (hv638_1.symm.trans hx638_1)
                                               injection hv638_1 with hva_ hvn_ hvc_
                                               rw [hva_] at ge638_1;rw [hvc_] at ul638_1;have HL638_1:=Aside0.mk (show Kd.V (Kd.int .i64) 3 _ w.heap.size _ _ ((rd_T42 t628 x6_3).f1) from Kd.V_mk ul638_1 ge638_1)
                                               clear hva_ hvn_ hvc_ ge638_1 ul638_1;clear hcc638 hce638;have HR638_1:=Aside0.mk hi638_1
                                               clear hi638_1 hl638_1;replace p638:=eq_true p638
                                               replace q638:=eq_true q638
                                               try go_wp2
                                               have n0_:=Aside0.mk (Kd.N_drew HO_3.out)
                                               have n1_:=Aside0.mk (Kd.N_drew HO_619004.out)
                                               have n2_:=Aside0.mk (Kd.V_drew HL638_1.out)
                                               have n3_:=Aside0.mk (Z3 BK618.out)
                                               have n4_:=Aside0.mk (Kd.C_drew HR632_1.out)
                                               have n5_:=Aside0.mk (Kd.C_drew HR637_1.out)
                                               have n6_:=Aside0.mk (Kd.C_drew HR638_1.out)
                                               have n7_:=Aside0.mk (Z6 HB.out)
                                               clear HO_3;clear HO_619004;clear HL638_1;clear BK618;clear HR632_1;clear HR637_1;clear HR638_1;clear HB;have HO_3:=n0_
                                               have HO_619004:=n1_
                                               have HL638_1:=n2_
                                               have BK618:=n3_
                                               have HR632_1:=n4_
                                               have HR637_1:=n5_
                                               have HR638_1:=n6_
                                               have HB:=n7_
                                               clear n0_ n1_ n2_ n3_ n4_ n5_ n6_ n7_;have p639 : 0 ≤ (x4_1 : Int):=YA
                                               have q639 : x4_1 < (t628.length : Int):=YA
                                               obtain ⟨ad639,A639_1,c639_1,e639,hx639_0,hx639_1,hl639_1,hi639_1⟩:=at_T42 (Kd.N_reads' HO_3.out).2.2 x4_1 p639 q639
                                               obtain rfl : ad632 = ad639:=(by injection e639)
                                               obtain ⟨ce639,hce639,hMe639,hcc639⟩:=Kd.N_get HO_3.out z42 x4_1 p639 (by first|exact q639|exact YA|(have e_:=(Kd.N_reads' HO_3.out).1;omega))
                                               obtain ⟨ua639_1,uc639_1,rfl,ul639_1,ge639_1⟩:=k42_openF hMe639
                                               have hv639_1:=hcc639 1 _ rfl
                                               rw [add_field _ _ 1 (by omega)] at hv639_1;replace hv639_1:=Option.some.inj (hv639_1.symm.trans hx639_1)
                                               injection hv639_1 with hva_ hvn_ hvc_
                                               rw [hva_] at ge639_1;rw [hvc_] at ul639_1;have HL639_1:=Aside0.mk (show Kd.V (Kd.int .i64) 3 _ w.heap.size _ _ ((rd_T42 t628 x4_1).f1) from Kd.V_mk ul639_1 ge639_1)
                                               clear hva_ hvn_ hvc_ ge639_1 ul639_1;clear hcc639 hce639;have HR639_1:=Aside0.mk hi639_1
                                               clear hi639_1 hl639_1;replace p639:=eq_true p639
                                               replace q639:=eq_true q639
                                               have p640 : 0 ≤ (x9_4 : Int):=YA
                                               have q640 : x9_4 < (((rd_T42 t628 x4_1).f1).length : Int):=YA
                                               obtain ⟨ad640,e640,hx640_0⟩:=Kd.at_int (by repeat (first|(with_reducible exact HR639_1.out)|(with_reducible refine Kd.C_alloc ?_ _)|(with_reducible refine Kd.C_drewN ?_ _)|(with_reducible refine Kd.C_drew ?_)|exact HR639_1.out)) x9_4 p640 q640
                                               cases e640;replace p640:=eq_true p640
                                               replace q640:=eq_true q640
                                               have p641 : 0 ≤ (x6_3 : Int):=YA
                                               have q641 : x6_3 < (t628.length : Int):=YA
                                               obtain ⟨ad641,A641_1,c641_1,e641,hx641_0,hx641_1,hl641_1,hi641_1⟩:=at_T42 (Kd.N_reads' HO_3.out).2.2 x6_3 p641 q641
                                               obtain rfl : ad632 = ad641:=(by injection e641)
                                               obtain ⟨ce641,hce641,hMe641,hcc641⟩:=Kd.N_get HO_3.out z42 x6_3 p641 (by first|exact q641|exact YA|(have e_:=(Kd.N_reads' HO_3.out).1;omega))
                                               obtain ⟨ua641_1,uc641_1,rfl,ul641_1,ge641_1⟩:=k42_openF hMe641
                                               have hv641_1:=hcc641 1 _ rfl
                                               rw [add_field _ _ 1 (by omega)] at hv641_1;replace hv641_1:=Option.some.inj (hv641_1.symm.trans hx641_1)
                                               injection hv641_1 with hva_ hvn_ hvc_
                                               rw [hva_] at ge641_1;rw [hvc_] at ul641_1;have HL641_1:=Aside0.mk (show Kd.V (Kd.int .i64) 3 _ w.heap.size _ _ ((rd_T42 t628 x6_3).f1) from Kd.V_mk ul641_1 ge641_1)
                                               clear hva_ hvn_ hvc_ ge641_1 ul641_1;clear hcc641 hce641;have HR641_1:=Aside0.mk hi641_1
                                               clear hi641_1 hl641_1;replace p641:=eq_true p641
                                               replace q641:=eq_true q641
                                               have p642 : 0 ≤ (x10_5 : Int):=YA
                                               have q642 : x10_5 < (((rd_T42 t628 x6_3).f1).length : Int):=YA
                                               obtain ⟨ad642,e642,hx642_0⟩:=Kd.at_int (by repeat (first|(with_reducible exact HR641_1.out)|(with_reducible refine Kd.C_alloc ?_ _)|(with_reducible refine Kd.C_drewN ?_ _)|(with_reducible refine Kd.C_drew ?_)|exact HR641_1.out)) x10_5 p642 q642
                                               cases e642;replace p642:=eq_true p642
                                               replace q642:=eq_true q642
                                               refine start_ (n:=21) (S:=fun w' => w'.cell? (ad632.add ((x4_1).toNat * 2)) = some (.int .i64 ((rd_T42 t628 x4_1).f0)) ∧ w'.cell? ⟨(ad632.add ((x4_1).toNat * 2)).block,(ad632.add ((x4_1).toNat * 2)).off + 1,none⟩ = some (.slice (some ad640) ((rd_T42 t628 x4_1).f1).length c639_1) ∧ w'.cell? (ad640.add (x9_4).toNat) = some (.int .i64 (rd ((rd_T42 t628 x4_1).f1) x9_4)) ∧ w'.cell? (ad632.add ((x6_3).toNat * 2)) = some (.int .i64 ((rd_T42 t628 x6_3).f0)) ∧ w'.cell? ⟨(ad632.add ((x6_3).toNat * 2)).block,(ad632.add ((x6_3).toNat * 2)).off + 1,none⟩ = some (.slice (some ad642) ((rd_T42 t628 x6_3).f1).length c641_1) ∧ w'.cell? (ad642.add (x10_5).toNat) = some (.int .i64 (rd ((rd_T42 t628 x6_3).f1) x10_5))) (ds:=[]) #[false,false,false,false,false,false,false,false,false,false,false,false,false,false,false,false,false,false,false,false,false] (by kernel_rfl) rfl rfl ⟨hx639_0,hx639_1,hx640_0,hx641_0,hx641_1,hx642_0⟩ (fun hHeld => ?_);refine Z74 cruciblelaw17_OrderNests.tab23 cruciblelaw17_OrderNests.bits23 (fun HT_ HW_ => ?_);generalize wr.drew = w40 at HO_3 HO_619004 HL638_1 BK618 HR632_1 HR637_1 HR638_1 HB HL639_1 HL641_1 HR639_1 HR641_1 hx639_0 hx639_1 hx640_0 hx641_0 hx641_1 hx642_0 hHeld ⊢;refine pure_ (i:=0) (N:=some 78) (v:=?_) (a' := ?_) #[true,false,false,false,false,false,false,false,false,false,false,false,false,false,false,false,false,false,false,false,false] rfl rfl (any_of HT_.out (by kernel_rfl)) (fun _ _ _ h => h) (Or.inl ⟨by rfl,?_⟩) ?_ ?_;rotate_left
                                               · intro w';go_simp
                                                 with_reducible rfl
                                               rotate_left
                                               · simp only [Act.put,List.setIfInBounds_toArray,List.set_cons_zero,List.set_cons_succ,i64_w,i32_w];rfl
                                               refine pure_ (i:=1) (N:=some 79) (v:=?_) (a' := ?_) #[true,true,false,false,false,false,false,false,false,false,false,false,false,false,false,false,false,false,false,false,false] rfl rfl (any_of HT_.out (by kernel_rfl)) (fun _ _ _ h => h) (Or.inl ⟨by rfl,?_⟩) ?_ ?_;rotate_left
                                               · intro w';go_simp
                                                 with_reducible rfl
                                               rotate_left
                                               · simp only [Act.put,List.setIfInBounds_toArray,List.set_cons_zero,List.set_cons_succ,i64_w,i32_w];rfl
                                               refine pure_ (i:=2) (N:=some 80) (v:=?_) (a' := ?_) #[true,true,true,false,false,false,false,false,false,false,false,false,false,false,false,false,false,false,false,false,false] rfl rfl (any_of HT_.out (by kernel_rfl)) (fun _ _ _ h => h) (Or.inl ⟨by rfl,?_⟩) ?_ ?_;rotate_left
                                               · intro w';go_simp
                                                 with_reducible rfl
                                               rotate_left
                                               · simp only [Act.put,List.setIfInBounds_toArray,List.set_cons_zero,List.set_cons_succ,i64_w,i32_w];rfl
                                               refine pure_ (i:=3) (N:=some 81) (v:=?_) (a' := ?_) #[true,true,true,true,false,false,false,false,false,false,false,false,false,false,false,false,false,false,false,false,false] rfl rfl (any_of HT_.out (by kernel_rfl)) (fun _ _ _ h => h) (Or.inl ⟨by rfl,?_⟩) ?_ ?_;rotate_left
                                               · intro w';go_simp
                                                 with_reducible rfl
                                               rotate_left
                                               · simp only [Act.put,List.setIfInBounds_toArray,List.set_cons_zero,List.set_cons_succ,i64_w,i32_w];rfl
                                               refine pure_ (i:=4) (N:=some 82) (v:=?_) (a' := ?_) #[true,true,true,true,true,false,false,false,false,false,false,false,false,false,false,false,false,false,false,false,false] rfl rfl (any_of HT_.out (by kernel_rfl)) (fun _ _ _ h => h) (Or.inl ⟨by rfl,?_⟩) ?_ ?_;rotate_left
                                               · intro w';go_simp
                                                 with_reducible rfl
                                               rotate_left
                                               · simp only [Act.put,List.setIfInBounds_toArray,List.set_cons_zero,List.set_cons_succ,i64_w,i32_w];rfl
                                               refine pure_ (i:=5) (N:=some 83) (v:=?_) (a' := ?_) #[true,true,true,true,true,true,false,false,false,false,false,false,false,false,false,false,false,false,false,false,false] rfl rfl (any_of HT_.out (by kernel_rfl)) (fun _ _ _ h => h) (Or.inl ⟨by rfl,?_⟩) ?_ ?_;rotate_left
                                               · intro w';go_simp
                                                 with_reducible rfl
                                               rotate_left
                                               · simp only [Act.put,List.setIfInBounds_toArray,List.set_cons_zero,List.set_cons_succ,i64_w,i32_w];rfl
                                               refine pure_ (i:=7) (N:=some 85) (v:=?_) (a' := ?_) #[true,true,true,true,true,true,false,true,false,false,false,false,false,false,false,false,false,false,false,false,false] rfl rfl (any_of HT_.out (by kernel_rfl)) (fun _ _ _ h => h) (Or.inl ⟨by rfl,?_⟩) ?_ ?_;rotate_left
                                               · intro w';go_simp
                                                 with_reducible rfl
                                               rotate_left
                                               · simp only [Act.put,List.setIfInBounds_toArray,List.set_cons_zero,List.set_cons_succ,i64_w,i32_w];rfl
                                               refine pure_ (i:=10) (N:=some 88) (v:=?_) (a' := ?_) #[true,true,true,true,true,true,false,true,false,false,true,false,false,false,false,false,false,false,false,false,false] rfl rfl (any_of HT_.out (by kernel_rfl)) (fun _ _ _ h => h) (Or.inl ⟨by rfl,?_⟩) ?_ ?_;rotate_left
                                               · intro w';go_simp
                                                 with_reducible rfl
                                               rotate_left
                                               · simp only [Act.put,List.setIfInBounds_toArray,List.set_cons_zero,List.set_cons_succ,i64_w,i32_w];rfl
                                               refine pure_ (i:=11) (N:=some 89) (v:=?_) (a' := ?_) #[true,true,true,true,true,true,false,true,false,false,true,true,false,false,false,false,false,false,false,false,false] rfl rfl (any_of HT_.out (by kernel_rfl)) (fun _ _ _ h => h) (Or.inl ⟨by rfl,?_⟩) ?_ ?_;rotate_left
                                               · intro w';go_simp
                                                 with_reducible rfl
                                               rotate_left
                                               · simp only [Act.put,List.setIfInBounds_toArray,List.set_cons_zero,List.set_cons_succ,i64_w,i32_w];rfl
                                               refine pure_ (i:=12) (N:=some 90) (v:=?_) (a' := ?_) #[true,true,true,true,true,true,false,true,false,false,true,true,true,false,false,false,false,false,false,false,false] rfl rfl (any_of HT_.out (by kernel_rfl)) (fun _ _ _ h => h) (Or.inl ⟨by rfl,?_⟩) ?_ ?_;rotate_left
                                               · intro w';go_simp
                                                 with_reducible rfl
                                               rotate_left
                                               · simp only [Act.put,List.setIfInBounds_toArray,List.set_cons_zero,List.set_cons_succ,i64_w,i32_w];rfl
                                               refine pure_ (i:=13) (N:=some 91) (v:=?_) (a' := ?_) #[true,true,true,true,true,true,false,true,false,false,true,true,true,true,false,false,false,false,false,false,false] rfl rfl (any_of HT_.out (by kernel_rfl)) (fun _ _ _ h => h) (Or.inl ⟨by rfl,?_⟩) ?_ ?_;rotate_left
                                               · intro w';go_simp
                                                 with_reducible rfl
                                               rotate_left
                                               · simp only [Act.put,List.setIfInBounds_toArray,List.set_cons_zero,List.set_cons_succ,i64_w,i32_w];rfl
                                               refine pure_ (i:=15) (N:=some 93) (v:=?_) (a' := ?_) #[true,true,true,true,true,true,false,true,false,false,true,true,true,true,false,true,false,false,false,false,false] rfl rfl (any_of HT_.out (by kernel_rfl)) (fun _ _ _ h => h) (Or.inl ⟨by rfl,?_⟩) ?_ ?_;rotate_left
                                               · intro w';go_simp
                                                 with_reducible rfl
                                               rotate_left
                                               · simp only [Act.put,List.setIfInBounds_toArray,List.set_cons_zero,List.set_cons_succ,i64_w,i32_w];rfl
                                               refine take_ (i:=6) (N:=some 84) (v:=?_) (a' := ?_) #[true,true,true,true,true,true,true,true,false,false,true,true,true,true,false,true,false,false,false,false,false] rfl rfl (Z67 HT_.out HW_.out (by kernel_rfl)) (fun _ _ _ h => h) (Or.inl ⟨by rfl,?_⟩) hHeld ?_ ?_;rotate_left
                                               · rintro w' ⟨s0,s1,s2,s3,s4,s5⟩;go_simp
                                                 with_reducible rfl
                                               rotate_left
                                               · simp only [Act.put,List.setIfInBounds_toArray,List.set_cons_zero,List.set_cons_succ,i64_w,i32_w];rfl
                                               refine pure_ (i:=8) (N:=some 86) (v:=?_) (a' := ?_) #[true,true,true,true,true,true,true,true,true,false,true,true,true,true,false,true,false,false,false,false,false] rfl rfl (any_of HT_.out (by kernel_rfl)) (fun _ _ _ h => h) (Or.inl ⟨by rfl,?_⟩) ?_ ?_;rotate_left
                                               · intro w';go_simp
                                                 with_reducible rfl
                                               rotate_left
                                               · simp only [Act.put,List.setIfInBounds_toArray,List.set_cons_zero,List.set_cons_succ,i64_w,i32_w];rfl
                                               refine take_ (i:=9) (N:=some 87) (v:=?_) (a' := ?_) #[true,true,true,true,true,true,true,true,true,true,true,true,true,true,false,true,false,false,false,false,false] rfl rfl (Z67 HT_.out HW_.out (by kernel_rfl)) (fun _ _ _ h => h) (Or.inl ⟨by rfl,?_⟩) hHeld ?_ ?_;rotate_left
                                               · rintro w' ⟨s0,s1,s2,s3,s4,s5⟩;go_simp
                                                 with_reducible rfl
                                               rotate_left
                                               · simp only [Act.put,List.setIfInBounds_toArray,List.set_cons_zero,List.set_cons_succ,i64_w,i32_w];rfl
                                               refine take_ (i:=14) (N:=some 92) (v:=?_) (a' := ?_) #[true,true,true,true,true,true,true,true,true,true,true,true,true,true,true,true,false,false,false,false,false] rfl rfl (Z67 HT_.out HW_.out (by kernel_rfl)) (fun _ _ _ h => h) (Or.inl ⟨by rfl,?_⟩) hHeld ?_ ?_;rotate_left
                                               · rintro w' ⟨s0,s1,s2,s3,s4,s5⟩;go_simp
                                                 with_reducible rfl
                                               rotate_left
                                               · simp only [Act.put,List.setIfInBounds_toArray,List.set_cons_zero,List.set_cons_succ,i64_w,i32_w];rfl
                                               refine pure_ (i:=16) (N:=some 94) (v:=?_) (a' := ?_) #[true,true,true,true,true,true,true,true,true,true,true,true,true,true,true,true,true,false,false,false,false] rfl rfl (any_of HT_.out (by kernel_rfl)) (fun _ _ _ h => h) (Or.inl ⟨by rfl,?_⟩) ?_ ?_;rotate_left
                                               · intro w';go_simp
                                                 with_reducible rfl
                                               rotate_left
                                               · simp only [Act.put,List.setIfInBounds_toArray,List.set_cons_zero,List.set_cons_succ,i64_w,i32_w];rfl
                                               refine take_ (i:=17) (N:=some 95) (v:=?_) (a' := ?_) #[true,true,true,true,true,true,true,true,true,true,true,true,true,true,true,true,true,true,false,false,false] rfl rfl (Z67 HT_.out HW_.out (by kernel_rfl)) (fun _ _ _ h => h) (Or.inl ⟨by rfl,?_⟩) hHeld ?_ ?_;rotate_left
                                               · rintro w' ⟨s0,s1,s2,s3,s4,s5⟩;go_simp
                                                 with_reducible rfl
                                               rotate_left
                                               · simp only [Act.put,List.setIfInBounds_toArray,List.set_cons_zero,List.set_cons_succ,i64_w,i32_w];rfl
                                               refine pure_ (i:=18) (N:=some 96) (v:=?_) (a' := ?_) #[true,true,true,true,true,true,true,true,true,true,true,true,true,true,true,true,true,true,true,false,false] rfl rfl (any_of HT_.out (by kernel_rfl)) (fun _ _ _ h => h) (Or.inl ⟨by rfl,?_⟩) ?_ ?_;rotate_left
                                               · intro w';go_simp
                                                 with_reducible rfl
                                               rotate_left
                                               · simp only [Act.put,List.setIfInBounds_toArray,List.set_cons_zero,List.set_cons_succ,i64_w,i32_w];rfl
                                               refine pure_ (i:=19) (N:=some 97) (v:=?_) (a' := ?_) #[true,true,true,true,true,true,true,true,true,true,true,true,true,true,true,true,true,true,true,true,false] rfl rfl (any_of HT_.out (by kernel_rfl)) (fun _ _ _ h => h) (Or.inl ⟨by rfl,?_⟩) ?_ ?_;rotate_left
                                               · intro w';go_simp
                                                 with_reducible rfl
                                               rotate_left
                                               · simp only [Act.put,List.setIfInBounds_toArray,List.set_cons_zero,List.set_cons_succ,i64_w,i32_w];rfl
                                               refine pure_ (i:=20) (N:=some 7) (v:=?_) (a' := ?_) #[true,true,true,true,true,true,true,true,true,true,true,true,true,true,true,true,true,true,true,true,true] rfl rfl (any_of HT_.out (by kernel_rfl)) (fun _ _ _ h => h) (Or.inl ⟨by rfl,?_⟩) ?_ ?_;rotate_left
                                               · intro w';go_simp
                                                 with_reducible rfl
                                               rotate_left
                                               · simp only [Act.put,List.setIfInBounds_toArray,List.set_cons_zero,List.set_cons_succ,i64_w,i32_w];rfl
                                               refine done_ (Z83 HT_.out (by kernel_rfl)) ?_;try go_wp2
                                               go_roundg k5
                                               case measure => have:=HK1.out;have:=HK2.out;have:=HK3.out;have:=HK4.out;have:=HK5.out;omega
                                               case rel => exact ⟨(((rd ((rd_T42 t628 x4_1).f1) x9_4) == (rd ((rd_T42 t628 x6_3).f1) x10_5))),(wrap64 (x10_5 + 1)),(by first|rfl|(simp;done)|(simp [*];done)),(by first|rfl|(simp;done)|(simp [*];done)),H',⟨by have:=HK1.out;have:=HK2.out;have:=HK3.out;have:=HK4.out;have:=HK5.out;omega⟩,⟨YN HO_3⟩,⟨YN HO_619004⟩,⟨YK BK618⟩,⟨by repeat (first|(with_reducible exact HR632_1.out)|(with_reducible refine Kd.C_alloc ?_ _)|(with_reducible refine Kd.C_drewN ?_ _)|(with_reducible refine Kd.C_drew ?_)|exact HR632_1.out)⟩,⟨by repeat (first|(with_reducible exact HR637_1.out)|(with_reducible refine Kd.C_alloc ?_ _)|(with_reducible refine Kd.C_drewN ?_ _)|(with_reducible refine Kd.C_drew ?_)|exact HR637_1.out)⟩,⟨YH⟩⟩
                                             · rw [if_neg c39] at H;exact absurd H (by simp)
                                           · rw [if_neg c38] at H;exact absurd H (by simp)
                                         · rw [if_neg c37] at H;exact absurd H (by simp)
                                       · rw [if_neg c36] at H;exact absurd H (by simp)
                                     · rw [if_neg c35] at H;exact absurd H (by simp)
                                 · rw [if_neg c32] at H;have c32b0 : decide (x10_5 < (((rd_T42 t628 x6_3).f1).length : Int)) = false:=decide_eq_false c32
                                   clear c32;by_cases c41 : x8_4 = true
                                   · subst c41;have H1 : (cruciblelaw17_OrderNests.l3 k5 t628 x4_1 x6_3 x7_5 true (wrap64 (x9_4 + 1)) t619 t620 t621 t622 t623) = some r:=by rw [if_pos rfl] at H;exact H
                                     clear H;have H:=H1
                                     clear H1;have H' := Aside0.mk H
                                     clear H;have p638 : 0 ≤ (x6_3 : Int):=YA
                                     have q638 : x6_3 < (t628.length : Int):=YA
                                     obtain ⟨ad638,A638_1,c638_1,e638,hx638_0,hx638_1,hl638_1,hi638_1⟩:=at_T42 (Kd.N_reads' HO_3.out).2.2 x6_3 p638 q638
                                     obtain rfl : ad632 = ad638:=(by injection e638)
                                     obtain ⟨ce638,hce638,hMe638,hcc638⟩:=Kd.N_get HO_3.out z42 x6_3 p638 (by first|exact q638|exact YA|(have e_:=(Kd.N_reads' HO_3.out).1;omega))
                                     obtain ⟨ua638_1,uc638_1,rfl,ul638_1,ge638_1⟩:=k42_openF hMe638
                                     have hv638_1:=hcc638 1 _ rfl
                                     rw [add_field _ _ 1 (by omega)] at hv638_1;replace hv638_1:=Option.some.inj (hv638_1.symm.trans hx638_1)
                                     injection hv638_1 with hva_ hvn_ hvc_
                                     rw [hva_] at ge638_1;rw [hvc_] at ul638_1;have HL638_1:=Aside0.mk (show Kd.V (Kd.int .i64) 3 _ w.heap.size _ _ ((rd_T42 t628 x6_3).f1) from Kd.V_mk ul638_1 ge638_1)
                                     clear hva_ hvn_ hvc_ ge638_1 ul638_1;clear hcc638 hce638;have HR638_1:=Aside0.mk hi638_1
                                     clear hi638_1 hl638_1;replace p638:=eq_true p638
                                     replace q638:=eq_true q638
                                     try go_wp2
                                     have n0_:=Aside0.mk (Kd.N_drew HO_3.out)
                                     have n1_:=Aside0.mk (Kd.N_drew HO_619004.out)
                                     have n2_:=Aside0.mk (Kd.V_drew HL638_1.out)
                                     have n3_:=Aside0.mk (Z3 BK618.out)
                                     have n4_:=Aside0.mk (Kd.C_drew HR632_1.out)
                                     have n5_:=Aside0.mk (Kd.C_drew HR637_1.out)
                                     have n6_:=Aside0.mk (Kd.C_drew HR638_1.out)
                                     have n7_:=Aside0.mk (Z6 HB.out)
                                     clear HO_3;clear HO_619004;clear HL638_1;clear BK618;clear HR632_1;clear HR637_1;clear HR638_1;clear HB;have HO_3:=n0_
                                     have HO_619004:=n1_
                                     have HL638_1:=n2_
                                     have BK618:=n3_
                                     have HR632_1:=n4_
                                     have HR637_1:=n5_
                                     have HR638_1:=n6_
                                     have HB:=n7_
                                     clear n0_ n1_ n2_ n3_ n4_ n5_ n6_ n7_;refine start_ (n:=18) (S:=fun w' => True) (ds:=[]) #[false,false,false,false,false,false,false,false,false,false,false,false,false,false,false,false,false,false] (by kernel_rfl) rfl rfl trivial (fun hHeld => ?_);refine Z74 cruciblelaw17_OrderNests.tab24 cruciblelaw17_OrderNests.bits24 (fun HT_ HW_ => ?_);generalize wr.drew = w42 at HO_3 HO_619004 HL638_1 BK618 HR632_1 HR637_1 HR638_1 HB hHeld ⊢;refine pure_ (i:=0) (N:=some 98) (v:=?_) (a' := ?_) #[true,false,false,false,false,false,false,false,false,false,false,false,false,false,false,false,false,false] rfl rfl (any_of HT_.out (by kernel_rfl)) (fun _ _ _ h => h) (Or.inl ⟨by rfl,?_⟩) ?_ ?_;rotate_left
                                     · intro w';go_simp
                                       with_reducible rfl
                                     rotate_left
                                     · simp only [Act.put,List.setIfInBounds_toArray,List.set_cons_zero,List.set_cons_succ,i64_w,i32_w];rfl
                                     refine pure_ (i:=1) (N:=some 99) (v:=?_) (a' := ?_) #[true,true,false,false,false,false,false,false,false,false,false,false,false,false,false,false,false,false] rfl rfl (any_of HT_.out (by kernel_rfl)) (fun _ _ _ h => h) (Or.inl ⟨by rfl,?_⟩) ?_ ?_;rotate_left
                                     · intro w';go_simp
                                       with_reducible rfl
                                     rotate_left
                                     · simp only [Act.put,List.setIfInBounds_toArray,List.set_cons_zero,List.set_cons_succ,i64_w,i32_w];rfl
                                     refine pure_ (i:=2) (N:=some 100) (v:=undef) (a' := ?_) #[true,true,true,false,false,false,false,false,false,false,false,false,false,false,false,false,false,false] rfl rfl (any_of HT_.out (by kernel_rfl)) (fun _ _ _ h => h) (Or.inr ⟨by rfl,rfl⟩) ?_ ?_;rotate_left
                                     · simp only [Act.put,List.setIfInBounds_toArray,List.set_cons_zero,List.set_cons_succ,i64_w,i32_w];rfl
                                     refine pure_ (i:=3) (N:=some 101) (v:=undef) (a' := ?_) #[true,true,true,true,false,false,false,false,false,false,false,false,false,false,false,false,false,false] rfl rfl (any_of HT_.out (by kernel_rfl)) (fun _ _ _ h => h) (Or.inr ⟨by rfl,rfl⟩) ?_ ?_;rotate_left
                                     · simp only [Act.put,List.setIfInBounds_toArray,List.set_cons_zero,List.set_cons_succ,i64_w,i32_w];rfl
                                     refine pure_ (i:=4) (N:=some 102) (v:=undef) (a' := ?_) #[true,true,true,true,true,false,false,false,false,false,false,false,false,false,false,false,false,false] rfl rfl (any_of HT_.out (by kernel_rfl)) (fun _ _ _ h => h) (Or.inr ⟨by rfl,rfl⟩) ?_ ?_;rotate_left
                                     · simp only [Act.put,List.setIfInBounds_toArray,List.set_cons_zero,List.set_cons_succ,i64_w,i32_w];rfl
                                     refine pure_ (i:=5) (N:=some 103) (v:=undef) (a' := ?_) #[true,true,true,true,true,true,false,false,false,false,false,false,false,false,false,false,false,false] rfl rfl (any_of HT_.out (by kernel_rfl)) (fun _ _ _ h => h) (Or.inr ⟨by rfl,rfl⟩) ?_ ?_;rotate_left
                                     · simp only [Act.put,List.setIfInBounds_toArray,List.set_cons_zero,List.set_cons_succ,i64_w,i32_w];rfl
                                     refine pure_ (i:=6) (N:=some 104) (v:=undef) (a' := ?_) #[true,true,true,true,true,true,true,false,false,false,false,false,false,false,false,false,false,false] rfl rfl (any_of HT_.out (by kernel_rfl)) (fun _ _ _ h => h) (Or.inr ⟨by rfl,rfl⟩) ?_ ?_;rotate_left
                                     · simp only [Act.put,List.setIfInBounds_toArray,List.set_cons_zero,List.set_cons_succ,i64_w,i32_w];rfl
                                     refine pure_ (i:=7) (N:=some 105) (v:=undef) (a' := ?_) #[true,true,true,true,true,true,true,true,false,false,false,false,false,false,false,false,false,false] rfl rfl (any_of HT_.out (by kernel_rfl)) (fun _ _ _ h => h) (Or.inr ⟨by rfl,rfl⟩) ?_ ?_;rotate_left
                                     · simp only [Act.put,List.setIfInBounds_toArray,List.set_cons_zero,List.set_cons_succ,i64_w,i32_w];rfl
                                     refine pure_ (i:=8) (N:=some 106) (v:=undef) (a' := ?_) #[true,true,true,true,true,true,true,true,true,false,false,false,false,false,false,false,false,false] rfl rfl (any_of HT_.out (by kernel_rfl)) (fun _ _ _ h => h) (Or.inr ⟨by rfl,rfl⟩) ?_ ?_;rotate_left
                                     · simp only [Act.put,List.setIfInBounds_toArray,List.set_cons_zero,List.set_cons_succ,i64_w,i32_w];rfl
                                     refine pure_ (i:=9) (N:=some 107) (v:=undef) (a' := ?_) #[true,true,true,true,true,true,true,true,true,true,false,false,false,false,false,false,false,false] rfl rfl (any_of HT_.out (by kernel_rfl)) (fun _ _ _ h => h) (Or.inr ⟨by rfl,rfl⟩) ?_ ?_;rotate_left
                                     · simp only [Act.put,List.setIfInBounds_toArray,List.set_cons_zero,List.set_cons_succ,i64_w,i32_w];rfl
                                     refine pure_ (i:=10) (N:=some 108) (v:=undef) (a' := ?_) #[true,true,true,true,true,true,true,true,true,true,true,false,false,false,false,false,false,false] rfl rfl (any_of HT_.out (by kernel_rfl)) (fun _ _ _ h => h) (Or.inr ⟨by rfl,rfl⟩) ?_ ?_;rotate_left
                                     · simp only [Act.put,List.setIfInBounds_toArray,List.set_cons_zero,List.set_cons_succ,i64_w,i32_w];rfl
                                     refine pure_ (i:=11) (N:=some 109) (v:=undef) (a' := ?_) #[true,true,true,true,true,true,true,true,true,true,true,true,false,false,false,false,false,false] rfl rfl (any_of HT_.out (by kernel_rfl)) (fun _ _ _ h => h) (Or.inr ⟨by rfl,rfl⟩) ?_ ?_;rotate_left
                                     · simp only [Act.put,List.setIfInBounds_toArray,List.set_cons_zero,List.set_cons_succ,i64_w,i32_w];rfl
                                     refine pure_ (i:=12) (N:=some 110) (v:=undef) (a' := ?_) #[true,true,true,true,true,true,true,true,true,true,true,true,true,false,false,false,false,false] rfl rfl (any_of HT_.out (by kernel_rfl)) (fun _ _ _ h => h) (Or.inr ⟨by rfl,rfl⟩) ?_ ?_;rotate_left
                                     · simp only [Act.put,List.setIfInBounds_toArray,List.set_cons_zero,List.set_cons_succ,i64_w,i32_w];rfl
                                     refine pure_ (i:=13) (N:=some 111) (v:=undef) (a' := ?_) #[true,true,true,true,true,true,true,true,true,true,true,true,true,true,false,false,false,false] rfl rfl (any_of HT_.out (by kernel_rfl)) (fun _ _ _ h => h) (Or.inr ⟨by rfl,rfl⟩) ?_ ?_;rotate_left
                                     · simp only [Act.put,List.setIfInBounds_toArray,List.set_cons_zero,List.set_cons_succ,i64_w,i32_w];rfl
                                     refine pure_ (i:=14) (N:=some 112) (v:=undef) (a' := ?_) #[true,true,true,true,true,true,true,true,true,true,true,true,true,true,true,false,false,false] rfl rfl (any_of HT_.out (by kernel_rfl)) (fun _ _ _ h => h) (Or.inr ⟨by rfl,rfl⟩) ?_ ?_;rotate_left
                                     · simp only [Act.put,List.setIfInBounds_toArray,List.set_cons_zero,List.set_cons_succ,i64_w,i32_w];rfl
                                     refine pure_ (i:=15) (N:=some 113) (v:=undef) (a' := ?_) #[true,true,true,true,true,true,true,true,true,true,true,true,true,true,true,true,false,false] rfl rfl (any_of HT_.out (by kernel_rfl)) (fun _ _ _ h => h) (Or.inr ⟨by rfl,rfl⟩) ?_ ?_;rotate_left
                                     · simp only [Act.put,List.setIfInBounds_toArray,List.set_cons_zero,List.set_cons_succ,i64_w,i32_w];rfl
                                     refine pure_ (i:=16) (N:=some 114) (v:=?_) (a' := ?_) #[true,true,true,true,true,true,true,true,true,true,true,true,true,true,true,true,true,false] rfl rfl (any_of HT_.out (by kernel_rfl)) (fun _ _ _ h => h) (Or.inl ⟨by rfl,?_⟩) ?_ ?_;rotate_left
                                     · intro w';go_simp
                                       with_reducible rfl
                                     rotate_left
                                     · simp only [Act.put,List.setIfInBounds_toArray,List.set_cons_zero,List.set_cons_succ,i64_w,i32_w];rfl
                                     refine pure_ (i:=17) (N:=some 8) (v:=?_) (a' := ?_) #[true,true,true,true,true,true,true,true,true,true,true,true,true,true,true,true,true,true] rfl rfl (any_of HT_.out (by kernel_rfl)) (fun _ _ _ h => h) (Or.inl ⟨by rfl,?_⟩) ?_ ?_;rotate_left
                                     · intro w';go_simp
                                       with_reducible rfl
                                     rotate_left
                                     · simp only [Act.put,List.setIfInBounds_toArray,List.set_cons_zero,List.set_cons_succ,i64_w,i32_w];rfl
                                     refine done_ (Z83 HT_.out (by kernel_rfl)) ?_;try go_wp2
                                     go_roundg k5
                                     case measure => have:=HK1.out;have:=HK2.out;have:=HK3.out;have:=HK4.out;have:=HK5.out;omega
                                     case rel => exact ⟨(x7_5),(true),(wrap64 (x9_4 + 1)),(by first|rfl|(simp;done)|(simp [*];done)),(by first|rfl|(simp;done)|(simp [*];done)),(by first|rfl|(simp;done)|(simp [*];done)),H',⟨by have:=HK1.out;have:=HK2.out;have:=HK3.out;have:=HK4.out;have:=HK5.out;omega⟩,⟨YN HO_3⟩,⟨YN HO_619004⟩,⟨YK BK618⟩,⟨by repeat (first|(with_reducible exact HR632_1.out)|(with_reducible refine Kd.C_alloc ?_ _)|(with_reducible refine Kd.C_drewN ?_ _)|(with_reducible refine Kd.C_drew ?_)|exact HR632_1.out)⟩,⟨YH⟩⟩
                                   · replace c41:=Bool.eq_false_iff.mpr c41
                                     subst c41;have H1 : (if 0 ≤ x4_1 then (if x4_1 < (t628.length : Int) then (if 0 ≤ x9_4 then (if x9_4 < (((rd_T42 t628 x4_1).f1).length : Int) then (cruciblelaw17_OrderNests.l3 k5 t628 x4_1 x6_3 x7_5 ((rd ((rd_T42 t628 x4_1).f1) x9_4) == ((rd_T42 t628 x6_3).f0)) (wrap64 (x9_4 + 1)) t619 t620 t621 t622 t623) else (none)) else (none)) else (none)) else (none)) = some r:=by rw [if_neg (show ¬ (false = true) by decide)] at H;exact H
                                     clear H;have H:=H1
                                     clear H1;by_cases c43 : 0 ≤ x4_1
                                     · rw [if_pos c43] at H;have c43b0 : decide (0 ≤ x4_1) = true:=decide_eq_true c43
                                       clear c43;by_cases c44 : x4_1 < (t628.length : Int)
                                       · rw [if_pos c44] at H;have c44b0 : decide (x4_1 < (t628.length : Int)) = true:=decide_eq_true c44
                                         clear c44;by_cases c45 : 0 ≤ x9_4
                                         · rw [if_pos c45] at H;have c45b0 : decide (0 ≤ x9_4) = true:=decide_eq_true c45
                                           clear c45;by_cases c46 : x9_4 < (((rd_T42 t628 x4_1).f1).length : Int)
                                           · rw [if_pos c46] at H;have c46b0 : decide (x9_4 < (((rd_T42 t628 x4_1).f1).length : Int)) = true:=decide_eq_true c46
                                             clear c46;have H' := Aside0.mk H
                                             clear H;have p638 : 0 ≤ (x6_3 : Int):=YA
                                             have q638 : x6_3 < (t628.length : Int):=YA
                                             obtain ⟨ad638,A638_1,c638_1,e638,hx638_0,hx638_1,hl638_1,hi638_1⟩:=at_T42 (Kd.N_reads' HO_3.out).2.2 x6_3 p638 q638
                                             obtain rfl : ad632 = ad638:=(by injection e638)
                                             obtain ⟨ce638,hce638,hMe638,hcc638⟩:=Kd.N_get HO_3.out z42 x6_3 p638 (by first|exact q638|exact YA|(have e_:=(Kd.N_reads' HO_3.out).1;omega))
                                             obtain ⟨ua638_1,uc638_1,rfl,ul638_1,ge638_1⟩:=k42_openF hMe638
                                             have hv638_1:=hcc638 1 _ rfl
                                             rw [add_field _ _ 1 (by omega)] at hv638_1;replace hv638_1:=Option.some.inj (hv638_1.symm.trans hx638_1)
                                             injection hv638_1 with hva_ hvn_ hvc_
                                             rw [hva_] at ge638_1;rw [hvc_] at ul638_1;have HL638_1:=Aside0.mk (show Kd.V (Kd.int .i64) 3 _ w.heap.size _ _ ((rd_T42 t628 x6_3).f1) from Kd.V_mk ul638_1 ge638_1)
                                             clear hva_ hvn_ hvc_ ge638_1 ul638_1;clear hcc638 hce638;have HR638_1:=Aside0.mk hi638_1
                                             clear hi638_1 hl638_1;replace p638:=eq_true p638
                                             replace q638:=eq_true q638
                                             try go_wp2
                                             have n0_:=Aside0.mk (Kd.N_drew HO_3.out)
                                             have n1_:=Aside0.mk (Kd.N_drew HO_619004.out)
                                             have n2_:=Aside0.mk (Kd.V_drew HL638_1.out)
                                             have n3_:=Aside0.mk (Z3 BK618.out)
                                             have n4_:=Aside0.mk (Kd.C_drew HR632_1.out)
                                             have n5_:=Aside0.mk (Kd.C_drew HR637_1.out)
                                             have n6_:=Aside0.mk (Kd.C_drew HR638_1.out)
                                             have n7_:=Aside0.mk (Z6 HB.out)
                                             clear HO_3;clear HO_619004;clear HL638_1;clear BK618;clear HR632_1;clear HR637_1;clear HR638_1;clear HB;have HO_3:=n0_
                                             have HO_619004:=n1_
                                             have HL638_1:=n2_
                                             have BK618:=n3_
                                             have HR632_1:=n4_
                                             have HR637_1:=n5_
                                             have HR638_1:=n6_
                                             have HB:=n7_
                                             clear n0_ n1_ n2_ n3_ n4_ n5_ n6_ n7_;have p643 : 0 ≤ (x4_1 : Int):=YA
                                             have q643 : x4_1 < (t628.length : Int):=YA
                                             obtain ⟨ad643,A643_1,c643_1,e643,hx643_0,hx643_1,hl643_1,hi643_1⟩:=at_T42 (Kd.N_reads' HO_3.out).2.2 x4_1 p643 q643
                                             obtain rfl : ad632 = ad643:=(by injection e643)
                                             obtain ⟨ce643,hce643,hMe643,hcc643⟩:=Kd.N_get HO_3.out z42 x4_1 p643 (by first|exact q643|exact YA|(have e_:=(Kd.N_reads' HO_3.out).1;omega))
                                             obtain ⟨ua643_1,uc643_1,rfl,ul643_1,ge643_1⟩:=k42_openF hMe643
                                             have hv643_1:=hcc643 1 _ rfl
                                             rw [add_field _ _ 1 (by omega)] at hv643_1;replace hv643_1:=Option.some.inj (hv643_1.symm.trans hx643_1)
                                             injection hv643_1 with hva_ hvn_ hvc_
                                             rw [hva_] at ge643_1;rw [hvc_] at ul643_1;have HL643_1:=Aside0.mk (show Kd.V (Kd.int .i64) 3 _ w.heap.size _ _ ((rd_T42 t628 x4_1).f1) from Kd.V_mk ul643_1 ge643_1)
                                             clear hva_ hvn_ hvc_ ge643_1 ul643_1;clear hcc643 hce643;have HR643_1:=Aside0.mk hi643_1
                                             clear hi643_1 hl643_1;replace p643:=eq_true p643
                                             replace q643:=eq_true q643
                                             have p644 : 0 ≤ (x9_4 : Int):=YA
                                             have q644 : x9_4 < (((rd_T42 t628 x4_1).f1).length : Int):=YA
                                             obtain ⟨ad644,e644,hx644_0⟩:=Kd.at_int (by repeat (first|(with_reducible exact HR643_1.out)|(with_reducible refine Kd.C_alloc ?_ _)|(with_reducible refine Kd.C_drewN ?_ _)|(with_reducible refine Kd.C_drew ?_)|exact HR643_1.out)) x9_4 p644 q644
                                             cases e644;replace p644:=eq_true p644
                                             replace q644:=eq_true q644
                                             have p645 : 0 ≤ (x6_3 : Int):=YA
                                             have q645 : x6_3 < (t628.length : Int):=YA
                                             obtain ⟨ad645,A645_1,c645_1,e645,hx645_0,hx645_1,hl645_1,hi645_1⟩:=at_T42 (Kd.N_reads' HO_3.out).2.2 x6_3 p645 q645
                                             obtain rfl : ad632 = ad645:=(by injection e645)
                                             obtain ⟨ce645,hce645,hMe645,hcc645⟩:=Kd.N_get HO_3.out z42 x6_3 p645 (by first|exact q645|exact YA|(have e_:=(Kd.N_reads' HO_3.out).1;omega))
                                             obtain ⟨ua645_1,uc645_1,rfl,ul645_1,ge645_1⟩:=k42_openF hMe645
                                             have hv645_1:=hcc645 1 _ rfl
                                             rw [add_field _ _ 1 (by omega)] at hv645_1;replace hv645_1:=Option.some.inj (hv645_1.symm.trans hx645_1)
                                             injection hv645_1 with hva_ hvn_ hvc_
                                             rw [hva_] at ge645_1;rw [hvc_] at ul645_1;have HL645_1:=Aside0.mk (show Kd.V (Kd.int .i64) 3 _ w.heap.size _ _ ((rd_T42 t628 x6_3).f1) from Kd.V_mk ul645_1 ge645_1)
                                             clear hva_ hvn_ hvc_ ge645_1 ul645_1;clear hcc645 hce645;clear hi645_1 hl645_1;replace p645:=eq_true p645
                                             replace q645:=eq_true q645
                                             refine start_ (n:=18) (S:=fun w' => w'.cell? (ad632.add ((x4_1).toNat * 2)) = some (.int .i64 ((rd_T42 t628 x4_1).f0)) ∧ w'.cell? ⟨(ad632.add ((x4_1).toNat * 2)).block,(ad632.add ((x4_1).toNat * 2)).off + 1,none⟩ = some (.slice (some ad644) ((rd_T42 t628 x4_1).f1).length c643_1) ∧ w'.cell? (ad644.add (x9_4).toNat) = some (.int .i64 (rd ((rd_T42 t628 x4_1).f1) x9_4)) ∧ w'.cell? (ad632.add ((x6_3).toNat * 2)) = some (.int .i64 ((rd_T42 t628 x6_3).f0)) ∧ w'.cell? ⟨(ad632.add ((x6_3).toNat * 2)).block,(ad632.add ((x6_3).toNat * 2)).off + 1,none⟩ = some (.slice A645_1 ((rd_T42 t628 x6_3).f1).length c645_1)) (ds:=[]) #[false,false,false,false,false,false,false,false,false,false,false,false,false,false,false,false,false,false] (by kernel_rfl) rfl rfl ⟨hx643_0,hx643_1,hx644_0,hx645_0,hx645_1⟩ (fun hHeld => ?_);refine Z74 cruciblelaw17_OrderNests.tab24 cruciblelaw17_OrderNests.bits24 (fun HT_ HW_ => ?_);generalize wr.drew = w47 at HO_3 HO_619004 HL638_1 BK618 HR632_1 HR637_1 HR638_1 HB HL643_1 HL645_1 HR643_1 hx643_0 hx643_1 hx644_0 hx645_0 hx645_1 hHeld ⊢;refine pure_ (i:=0) (N:=some 98) (v:=?_) (a' := ?_) #[true,false,false,false,false,false,false,false,false,false,false,false,false,false,false,false,false,false] rfl rfl (any_of HT_.out (by kernel_rfl)) (fun _ _ _ h => h) (Or.inl ⟨by rfl,?_⟩) ?_ ?_;rotate_left
                                             · intro w';go_simp
                                               with_reducible rfl
                                             rotate_left
                                             · simp only [Act.put,List.setIfInBounds_toArray,List.set_cons_zero,List.set_cons_succ,i64_w,i32_w];rfl
                                             refine pure_ (i:=1) (N:=some 99) (v:=?_) (a' := ?_) #[true,true,false,false,false,false,false,false,false,false,false,false,false,false,false,false,false,false] rfl rfl (any_of HT_.out (by kernel_rfl)) (fun _ _ _ h => h) (Or.inl ⟨by rfl,?_⟩) ?_ ?_;rotate_left
                                             · intro w';go_simp
                                               with_reducible rfl
                                             rotate_left
                                             · simp only [Act.put,List.setIfInBounds_toArray,List.set_cons_zero,List.set_cons_succ,i64_w,i32_w];rfl
                                             refine pure_ (i:=2) (N:=some 100) (v:=?_) (a' := ?_) #[true,true,true,false,false,false,false,false,false,false,false,false,false,false,false,false,false,false] rfl rfl (any_of HT_.out (by kernel_rfl)) (fun _ _ _ h => h) (Or.inl ⟨by rfl,?_⟩) ?_ ?_;rotate_left
                                             · intro w';go_simp
                                               with_reducible rfl
                                             rotate_left
                                             · simp only [Act.put,List.setIfInBounds_toArray,List.set_cons_zero,List.set_cons_succ,i64_w,i32_w];rfl
                                             refine pure_ (i:=3) (N:=some 101) (v:=?_) (a' := ?_) #[true,true,true,true,false,false,false,false,false,false,false,false,false,false,false,false,false,false] rfl rfl (any_of HT_.out (by kernel_rfl)) (fun _ _ _ h => h) (Or.inl ⟨by rfl,?_⟩) ?_ ?_;rotate_left
                                             · intro w';go_simp
                                               with_reducible rfl
                                             rotate_left
                                             · simp only [Act.put,List.setIfInBounds_toArray,List.set_cons_zero,List.set_cons_succ,i64_w,i32_w];rfl
                                             refine pure_ (i:=4) (N:=some 102) (v:=?_) (a' := ?_) #[true,true,true,true,true,false,false,false,false,false,false,false,false,false,false,false,false,false] rfl rfl (any_of HT_.out (by kernel_rfl)) (fun _ _ _ h => h) (Or.inl ⟨by rfl,?_⟩) ?_ ?_;rotate_left
                                             · intro w';go_simp
                                               with_reducible rfl
                                             rotate_left
                                             · simp only [Act.put,List.setIfInBounds_toArray,List.set_cons_zero,List.set_cons_succ,i64_w,i32_w];rfl
                                             refine pure_ (i:=5) (N:=some 103) (v:=?_) (a' := ?_) #[true,true,true,true,true,true,false,false,false,false,false,false,false,false,false,false,false,false] rfl rfl (any_of HT_.out (by kernel_rfl)) (fun _ _ _ h => h) (Or.inl ⟨by rfl,?_⟩) ?_ ?_;rotate_left
                                             · intro w';go_simp
                                               with_reducible rfl
                                             rotate_left
                                             · simp only [Act.put,List.setIfInBounds_toArray,List.set_cons_zero,List.set_cons_succ,i64_w,i32_w];rfl
                                             refine pure_ (i:=7) (N:=some 105) (v:=?_) (a' := ?_) #[true,true,true,true,true,true,false,true,false,false,false,false,false,false,false,false,false,false] rfl rfl (any_of HT_.out (by kernel_rfl)) (fun _ _ _ h => h) (Or.inl ⟨by rfl,?_⟩) ?_ ?_;rotate_left
                                             · intro w';go_simp
                                               with_reducible rfl
                                             rotate_left
                                             · simp only [Act.put,List.setIfInBounds_toArray,List.set_cons_zero,List.set_cons_succ,i64_w,i32_w];rfl
                                             refine pure_ (i:=10) (N:=some 108) (v:=?_) (a' := ?_) #[true,true,true,true,true,true,false,true,false,false,true,false,false,false,false,false,false,false] rfl rfl (any_of HT_.out (by kernel_rfl)) (fun _ _ _ h => h) (Or.inl ⟨by rfl,?_⟩) ?_ ?_;rotate_left
                                             · intro w';go_simp
                                               with_reducible rfl
                                             rotate_left
                                             · simp only [Act.put,List.setIfInBounds_toArray,List.set_cons_zero,List.set_cons_succ,i64_w,i32_w];rfl
                                             refine pure_ (i:=11) (N:=some 109) (v:=?_) (a' := ?_) #[true,true,true,true,true,true,false,true,false,false,true,true,false,false,false,false,false,false] rfl rfl (any_of HT_.out (by kernel_rfl)) (fun _ _ _ h => h) (Or.inl ⟨by rfl,?_⟩) ?_ ?_;rotate_left
                                             · intro w';go_simp
                                               with_reducible rfl
                                             rotate_left
                                             · simp only [Act.put,List.setIfInBounds_toArray,List.set_cons_zero,List.set_cons_succ,i64_w,i32_w];rfl
                                             refine pure_ (i:=12) (N:=some 110) (v:=?_) (a' := ?_) #[true,true,true,true,true,true,false,true,false,false,true,true,true,false,false,false,false,false] rfl rfl (any_of HT_.out (by kernel_rfl)) (fun _ _ _ h => h) (Or.inl ⟨by rfl,?_⟩) ?_ ?_;rotate_left
                                             · intro w';go_simp
                                               with_reducible rfl
                                             rotate_left
                                             · simp only [Act.put,List.setIfInBounds_toArray,List.set_cons_zero,List.set_cons_succ,i64_w,i32_w];rfl
                                             refine pure_ (i:=13) (N:=some 111) (v:=?_) (a' := ?_) #[true,true,true,true,true,true,false,true,false,false,true,true,true,true,false,false,false,false] rfl rfl (any_of HT_.out (by kernel_rfl)) (fun _ _ _ h => h) (Or.inl ⟨by rfl,?_⟩) ?_ ?_;rotate_left
                                             · intro w';go_simp
                                               with_reducible rfl
                                             rotate_left
                                             · simp only [Act.put,List.setIfInBounds_toArray,List.set_cons_zero,List.set_cons_succ,i64_w,i32_w];rfl
                                             refine take_ (i:=6) (N:=some 104) (v:=?_) (a' := ?_) #[true,true,true,true,true,true,true,true,false,false,true,true,true,true,false,false,false,false] rfl rfl (Z67 HT_.out HW_.out (by kernel_rfl)) (fun _ _ _ h => h) (Or.inl ⟨by rfl,?_⟩) hHeld ?_ ?_;rotate_left
                                             · rintro w' ⟨s0,s1,s2,s3,s4⟩;go_simp
                                               with_reducible rfl
                                             rotate_left
                                             · simp only [Act.put,List.setIfInBounds_toArray,List.set_cons_zero,List.set_cons_succ,i64_w,i32_w];rfl
                                             refine pure_ (i:=8) (N:=some 106) (v:=?_) (a' := ?_) #[true,true,true,true,true,true,true,true,true,false,true,true,true,true,false,false,false,false] rfl rfl (any_of HT_.out (by kernel_rfl)) (fun _ _ _ h => h) (Or.inl ⟨by rfl,?_⟩) ?_ ?_;rotate_left
                                             · intro w';go_simp
                                               with_reducible rfl
                                             rotate_left
                                             · simp only [Act.put,List.setIfInBounds_toArray,List.set_cons_zero,List.set_cons_succ,i64_w,i32_w];rfl
                                             refine take_ (i:=9) (N:=some 107) (v:=?_) (a' := ?_) #[true,true,true,true,true,true,true,true,true,true,true,true,true,true,false,false,false,false] rfl rfl (Z67 HT_.out HW_.out (by kernel_rfl)) (fun _ _ _ h => h) (Or.inl ⟨by rfl,?_⟩) hHeld ?_ ?_;rotate_left
                                             · rintro w' ⟨s0,s1,s2,s3,s4⟩;go_simp
                                               with_reducible rfl
                                             rotate_left
                                             · simp only [Act.put,List.setIfInBounds_toArray,List.set_cons_zero,List.set_cons_succ,i64_w,i32_w];rfl
                                             refine take_ (i:=14) (N:=some 112) (v:=?_) (a' := ?_) #[true,true,true,true,true,true,true,true,true,true,true,true,true,true,true,false,false,false] rfl rfl (Z67 HT_.out HW_.out (by kernel_rfl)) (fun _ _ _ h => h) (Or.inl ⟨by rfl,?_⟩) hHeld ?_ ?_;rotate_left
                                             · rintro w' ⟨s0,s1,s2,s3,s4⟩;go_simp
                                               with_reducible rfl
                                             rotate_left
                                             · simp only [Act.put,List.setIfInBounds_toArray,List.set_cons_zero,List.set_cons_succ,i64_w,i32_w];rfl
                                             refine pure_ (i:=15) (N:=some 113) (v:=?_) (a' := ?_) #[true,true,true,true,true,true,true,true,true,true,true,true,true,true,true,true,false,false] rfl rfl (any_of HT_.out (by kernel_rfl)) (fun _ _ _ h => h) (Or.inl ⟨by rfl,?_⟩) ?_ ?_;rotate_left
                                             · intro w';go_simp
                                               with_reducible rfl
                                             rotate_left
                                             · simp only [Act.put,List.setIfInBounds_toArray,List.set_cons_zero,List.set_cons_succ,i64_w,i32_w];rfl
                                             refine pure_ (i:=16) (N:=some 114) (v:=?_) (a' := ?_) #[true,true,true,true,true,true,true,true,true,true,true,true,true,true,true,true,true,false] rfl rfl (any_of HT_.out (by kernel_rfl)) (fun _ _ _ h => h) (Or.inl ⟨by rfl,?_⟩) ?_ ?_;rotate_left
                                             · intro w';go_simp
                                               with_reducible rfl
                                             rotate_left
                                             · simp only [Act.put,List.setIfInBounds_toArray,List.set_cons_zero,List.set_cons_succ,i64_w,i32_w];rfl
                                             refine pure_ (i:=17) (N:=some 8) (v:=?_) (a' := ?_) #[true,true,true,true,true,true,true,true,true,true,true,true,true,true,true,true,true,true] rfl rfl (any_of HT_.out (by kernel_rfl)) (fun _ _ _ h => h) (Or.inl ⟨by rfl,?_⟩) ?_ ?_;rotate_left
                                             · intro w';go_simp
                                               with_reducible rfl
                                             rotate_left
                                             · simp only [Act.put,List.setIfInBounds_toArray,List.set_cons_zero,List.set_cons_succ,i64_w,i32_w];rfl
                                             refine done_ (Z83 HT_.out (by kernel_rfl)) ?_;try go_wp2
                                             go_roundg k5
                                             case measure => have:=HK1.out;have:=HK2.out;have:=HK3.out;have:=HK4.out;have:=HK5.out;omega
                                             case rel => exact ⟨(x7_5),(((rd ((rd_T42 t628 x4_1).f1) x9_4) == ((rd_T42 t628 x6_3).f0))),(wrap64 (x9_4 + 1)),(by first|rfl|(simp;done)|(simp [*];done)),(by first|rfl|(simp;done)|(simp [*];done)),(by first|rfl|(simp;done)|(simp [*];done)),H',⟨by have:=HK1.out;have:=HK2.out;have:=HK3.out;have:=HK4.out;have:=HK5.out;omega⟩,⟨YN HO_3⟩,⟨YN HO_619004⟩,⟨YK BK618⟩,⟨by repeat (first|(with_reducible exact HR632_1.out)|(with_reducible refine Kd.C_alloc ?_ _)|(with_reducible refine Kd.C_drewN ?_ _)|(with_reducible refine Kd.C_drew ?_)|exact HR632_1.out)⟩,⟨YH⟩⟩
                                           · rw [if_neg c46] at H;exact absurd H (by simp)
                                         · rw [if_neg c45] at H;exact absurd H (by simp)
                                       · rw [if_neg c44] at H;exact absurd H (by simp)
                                     · rw [if_neg c43] at H;exact absurd H (by simp)
                               · rw [if_neg c31] at H;exact absurd H (by simp)
                             · rw [if_neg c30] at H;exact absurd H (by simp)
                         · rw [if_neg c29] at H;have c29b0 : decide (x9_4 < (((rd_T42 t628 x4_1).f1).length : Int)) = false:=decide_eq_false c29
                           clear c29;have H' := Aside0.mk H
                           clear H;have p637 : 0 ≤ (x4_1 : Int):=YA
                           have q637 : x4_1 < (t628.length : Int):=YA
                           obtain ⟨ad637,A637_1,c637_1,e637,hx637_0,hx637_1,hl637_1,hi637_1⟩:=at_T42 (Kd.N_reads' HO_3.out).2.2 x4_1 p637 q637
                           obtain rfl : ad632 = ad637:=(by injection e637)
                           obtain ⟨ce637,hce637,hMe637,hcc637⟩:=Kd.N_get HO_3.out z42 x4_1 p637 (by first|exact q637|exact YA|(have e_:=(Kd.N_reads' HO_3.out).1;omega))
                           obtain ⟨ua637_1,uc637_1,rfl,ul637_1,ge637_1⟩:=k42_openF hMe637
                           have hv637_1:=hcc637 1 _ rfl
                           rw [add_field _ _ 1 (by omega)] at hv637_1;replace hv637_1:=Option.some.inj (hv637_1.symm.trans hx637_1)
                           injection hv637_1 with hva_ hvn_ hvc_
                           rw [hva_] at ge637_1;rw [hvc_] at ul637_1;have HL637_1:=Aside0.mk (show Kd.V (Kd.int .i64) 3 _ w.heap.size _ _ ((rd_T42 t628 x4_1).f1) from Kd.V_mk ul637_1 ge637_1)
                           clear hva_ hvn_ hvc_ ge637_1 ul637_1;clear hcc637 hce637;have HR637_1:=Aside0.mk hi637_1
                           clear hi637_1 hl637_1;replace p637:=eq_true p637
                           replace q637:=eq_true q637
                           go_wp2
                           go_loopg [8,11] k4 (fun kq v8 v11 w' => ∃ (x8_5 : Bool) (x11_5 : Int),v8 = .bool x8_5 ∧ v11 = .int .i64 x11_5 ∧ Aside0 (cruciblelaw17_OrderNests.l5 kq t628 x4_1 x6_3 x7_4 x8_5 x11_5 t619 t620 t621 t622 t623 = some r) ∧ Aside0 (kq ≤ k4) ∧ Aside0 (Kd.N k42 42 w' w.heap.size (fun k_ => some k_ ≠ ((.slice Ao10 t623.length co10) : Value).ownBlock ∧ k_ ≠ gb618) (.slice (some ad632) t628.length co15) t628) ∧ Aside0 (Kd.N k45 45 w' w.heap.size (fun k_ => some k_ ≠ ((.slice (some ad632) t628.length co15) : Value).ownBlock ∧ k_ ≠ gb618) (.slice Ao10 t623.length co10) t623) ∧ Aside0 (w'.heap[gb618]? = some (.cells #[.string t619,.int .i64 t620,.int .i64 t621,.int .i64 t622,(.slice Ao10 t623.length co10)] 24 (0,0))) ∧ Aside0 (Kd.C (Kd.int .i64) w' A632_1 ((rd_T42 t628 x4_1).f1).length ((rd_T42 t628 x4_1).f1)) ∧ Aside0 (Kd.C (Kd.int .i64) w' A637_1 ((rd_T42 t628 x4_1).f1).length ((rd_T42 t628 x4_1).f1)) ∧ Aside0 (Below w.heap.size w w'))
                           case atStart => exact ⟨(x8_4),(0),(by first|rfl|(simp;done)|(simp [*];done)),(by first|rfl|(simp;done)|(simp [*];done)),H',⟨Nat.le_refl _⟩,⟨YN HO_3⟩,⟨YN HO_619004⟩,⟨YK BK618⟩,⟨by repeat (first|(with_reducible exact HR632_1.out)|(with_reducible refine Kd.C_alloc ?_ _)|(with_reducible refine Kd.C_drewN ?_ _)|(with_reducible refine Kd.C_drew ?_)|exact HR632_1.out)⟩,⟨by repeat (first|(with_reducible exact HR637_1.out)|(with_reducible refine Kd.C_alloc ?_ _)|(with_reducible refine Kd.C_drewN ?_ _)|(with_reducible refine Kd.C_drew ?_)|exact HR637_1.out)⟩,⟨YH⟩⟩
                           case round =>
                            clear H';try clear c4
                            try clear c29
                            try clear c29b0
                            try clear hx637_0
                            try clear hx637_1
                            try clear p637
                            try clear q637
                            obtain ⟨x8_5,x11_5,rfl,rfl,HA,HK5,HO_3,HO_619004,BK618,HR632_1,HR637_1,HB⟩:=hrel
                            cases gk with
                            | zero => exact absurd HA.out (by simp [cruciblelaw17_OrderNests.l5])
                            | succ k5 =>
                             have H:=HA.out
                             clear HA;simp only [cruciblelaw17_OrderNests.l5] at H;by_cases c48 : 0 ≤ x6_3
                             · rw [if_pos c48] at H;have c48b0 : decide (0 ≤ x6_3) = true:=decide_eq_true c48
                               clear c48;by_cases c49 : x6_3 < (t628.length : Int)
                               · rw [if_pos c49] at H;have c49b0 : decide (x6_3 < (t628.length : Int)) = true:=decide_eq_true c49
                                 clear c49;by_cases c50 : x11_5 < (((rd_T42 t628 x6_3).f1).length : Int)
                                 · rw [if_pos c50] at H;have c50b0 : decide (x11_5 < (((rd_T42 t628 x6_3).f1).length : Int)) = true:=decide_eq_true c50
                                   clear c50;by_cases c51 : x8_5 = true
                                   · subst c51;have H1 : (cruciblelaw17_OrderNests.l5 k5 t628 x4_1 x6_3 x7_4 true (wrap64 (x11_5 + 1)) t619 t620 t621 t622 t623) = some r:=by rw [if_pos rfl] at H;exact H
                                     clear H;have H:=H1
                                     clear H1;have H' := Aside0.mk H
                                     clear H;have p646 : 0 ≤ (x6_3 : Int):=YA
                                     have q646 : x6_3 < (t628.length : Int):=YA
                                     obtain ⟨ad646,A646_1,c646_1,e646,hx646_0,hx646_1,hl646_1,hi646_1⟩:=at_T42 (Kd.N_reads' HO_3.out).2.2 x6_3 p646 q646
                                     obtain rfl : ad632 = ad646:=(by injection e646)
                                     obtain ⟨ce646,hce646,hMe646,hcc646⟩:=Kd.N_get HO_3.out z42 x6_3 p646 (by first|exact q646|exact YA|(have e_:=(Kd.N_reads' HO_3.out).1;omega))
                                     obtain ⟨ua646_1,uc646_1,rfl,ul646_1,ge646_1⟩:=k42_openF hMe646
                                     have hv646_1:=hcc646 1 _ rfl
                                     rw [add_field _ _ 1 (by omega)] at hv646_1;replace hv646_1:=Option.some.inj (hv646_1.symm.trans hx646_1)
                                     injection hv646_1 with hva_ hvn_ hvc_
                                     rw [hva_] at ge646_1;rw [hvc_] at ul646_1;have HL646_1:=Aside0.mk (show Kd.V (Kd.int .i64) 3 _ w.heap.size _ _ ((rd_T42 t628 x6_3).f1) from Kd.V_mk ul646_1 ge646_1)
                                     clear hva_ hvn_ hvc_ ge646_1 ul646_1;clear hcc646 hce646;have HR646_1:=Aside0.mk hi646_1
                                     clear hi646_1 hl646_1;replace p646:=eq_true p646
                                     replace q646:=eq_true q646
                                     try go_wp2
                                     have n0_:=Aside0.mk (Kd.N_drew HO_3.out)
                                     have n1_:=Aside0.mk (Kd.N_drew HO_619004.out)
                                     have n2_:=Aside0.mk (Kd.V_drew HL646_1.out)
                                     have n3_:=Aside0.mk (Z3 BK618.out)
                                     have n4_:=Aside0.mk (Kd.C_drew HR632_1.out)
                                     have n5_:=Aside0.mk (Kd.C_drew HR637_1.out)
                                     have n6_:=Aside0.mk (Kd.C_drew HR646_1.out)
                                     have n7_:=Aside0.mk (Z6 HB.out)
                                     clear HO_3;clear HO_619004;clear HL646_1;clear BK618;clear HR632_1;clear HR637_1;clear HR646_1;clear HB;have HO_3:=n0_
                                     have HO_619004:=n1_
                                     have HL646_1:=n2_
                                     have BK618:=n3_
                                     have HR632_1:=n4_
                                     have HR637_1:=n5_
                                     have HR646_1:=n6_
                                     have HB:=n7_
                                     clear n0_ n1_ n2_ n3_ n4_ n5_ n6_ n7_;refine start_ (n:=18) (S:=fun w' => True) (ds:=[]) #[false,false,false,false,false,false,false,false,false,false,false,false,false,false,false,false,false,false] (by kernel_rfl) rfl rfl trivial (fun hHeld => ?_);refine Z74 cruciblelaw17_OrderNests.tab28 cruciblelaw17_OrderNests.bits28 (fun HT_ HW_ => ?_);generalize wr.drew = w52 at HO_3 HO_619004 HL646_1 BK618 HR632_1 HR637_1 HR646_1 HB hHeld ⊢;refine pure_ (i:=0) (N:=some 125) (v:=?_) (a' := ?_) #[true,false,false,false,false,false,false,false,false,false,false,false,false,false,false,false,false,false] rfl rfl (any_of HT_.out (by kernel_rfl)) (fun _ _ _ h => h) (Or.inl ⟨by rfl,?_⟩) ?_ ?_;rotate_left
                                     · intro w';go_simp
                                       with_reducible rfl
                                     rotate_left
                                     · simp only [Act.put,List.setIfInBounds_toArray,List.set_cons_zero,List.set_cons_succ,i64_w,i32_w];rfl
                                     refine pure_ (i:=1) (N:=some 126) (v:=?_) (a' := ?_) #[true,true,false,false,false,false,false,false,false,false,false,false,false,false,false,false,false,false] rfl rfl (any_of HT_.out (by kernel_rfl)) (fun _ _ _ h => h) (Or.inl ⟨by rfl,?_⟩) ?_ ?_;rotate_left
                                     · intro w';go_simp
                                       with_reducible rfl
                                     rotate_left
                                     · simp only [Act.put,List.setIfInBounds_toArray,List.set_cons_zero,List.set_cons_succ,i64_w,i32_w];rfl
                                     refine pure_ (i:=2) (N:=some 127) (v:=undef) (a' := ?_) #[true,true,true,false,false,false,false,false,false,false,false,false,false,false,false,false,false,false] rfl rfl (any_of HT_.out (by kernel_rfl)) (fun _ _ _ h => h) (Or.inr ⟨by rfl,rfl⟩) ?_ ?_;rotate_left
                                     · simp only [Act.put,List.setIfInBounds_toArray,List.set_cons_zero,List.set_cons_succ,i64_w,i32_w];rfl
                                     refine pure_ (i:=3) (N:=some 128) (v:=undef) (a' := ?_) #[true,true,true,true,false,false,false,false,false,false,false,false,false,false,false,false,false,false] rfl rfl (any_of HT_.out (by kernel_rfl)) (fun _ _ _ h => h) (Or.inr ⟨by rfl,rfl⟩) ?_ ?_;rotate_left
                                     · simp only [Act.put,List.setIfInBounds_toArray,List.set_cons_zero,List.set_cons_succ,i64_w,i32_w];rfl
                                     refine pure_ (i:=4) (N:=some 129) (v:=undef) (a' := ?_) #[true,true,true,true,true,false,false,false,false,false,false,false,false,false,false,false,false,false] rfl rfl (any_of HT_.out (by kernel_rfl)) (fun _ _ _ h => h) (Or.inr ⟨by rfl,rfl⟩) ?_ ?_;rotate_left
                                     · simp only [Act.put,List.setIfInBounds_toArray,List.set_cons_zero,List.set_cons_succ,i64_w,i32_w];rfl
                                     refine pure_ (i:=5) (N:=some 130) (v:=undef) (a' := ?_) #[true,true,true,true,true,true,false,false,false,false,false,false,false,false,false,false,false,false] rfl rfl (any_of HT_.out (by kernel_rfl)) (fun _ _ _ h => h) (Or.inr ⟨by rfl,rfl⟩) ?_ ?_;rotate_left
                                     · simp only [Act.put,List.setIfInBounds_toArray,List.set_cons_zero,List.set_cons_succ,i64_w,i32_w];rfl
                                     refine pure_ (i:=6) (N:=some 131) (v:=undef) (a' := ?_) #[true,true,true,true,true,true,true,false,false,false,false,false,false,false,false,false,false,false] rfl rfl (any_of HT_.out (by kernel_rfl)) (fun _ _ _ h => h) (Or.inr ⟨by rfl,rfl⟩) ?_ ?_;rotate_left
                                     · simp only [Act.put,List.setIfInBounds_toArray,List.set_cons_zero,List.set_cons_succ,i64_w,i32_w];rfl
                                     refine pure_ (i:=7) (N:=some 132) (v:=undef) (a' := ?_) #[true,true,true,true,true,true,true,true,false,false,false,false,false,false,false,false,false,false] rfl rfl (any_of HT_.out (by kernel_rfl)) (fun _ _ _ h => h) (Or.inr ⟨by rfl,rfl⟩) ?_ ?_;rotate_left
                                     · simp only [Act.put,List.setIfInBounds_toArray,List.set_cons_zero,List.set_cons_succ,i64_w,i32_w];rfl
                                     refine pure_ (i:=8) (N:=some 133) (v:=undef) (a' := ?_) #[true,true,true,true,true,true,true,true,true,false,false,false,false,false,false,false,false,false] rfl rfl (any_of HT_.out (by kernel_rfl)) (fun _ _ _ h => h) (Or.inr ⟨by rfl,rfl⟩) ?_ ?_;rotate_left
                                     · simp only [Act.put,List.setIfInBounds_toArray,List.set_cons_zero,List.set_cons_succ,i64_w,i32_w];rfl
                                     refine pure_ (i:=9) (N:=some 134) (v:=undef) (a' := ?_) #[true,true,true,true,true,true,true,true,true,true,false,false,false,false,false,false,false,false] rfl rfl (any_of HT_.out (by kernel_rfl)) (fun _ _ _ h => h) (Or.inr ⟨by rfl,rfl⟩) ?_ ?_;rotate_left
                                     · simp only [Act.put,List.setIfInBounds_toArray,List.set_cons_zero,List.set_cons_succ,i64_w,i32_w];rfl
                                     refine pure_ (i:=10) (N:=some 135) (v:=undef) (a' := ?_) #[true,true,true,true,true,true,true,true,true,true,true,false,false,false,false,false,false,false] rfl rfl (any_of HT_.out (by kernel_rfl)) (fun _ _ _ h => h) (Or.inr ⟨by rfl,rfl⟩) ?_ ?_;rotate_left
                                     · simp only [Act.put,List.setIfInBounds_toArray,List.set_cons_zero,List.set_cons_succ,i64_w,i32_w];rfl
                                     refine pure_ (i:=11) (N:=some 136) (v:=undef) (a' := ?_) #[true,true,true,true,true,true,true,true,true,true,true,true,false,false,false,false,false,false] rfl rfl (any_of HT_.out (by kernel_rfl)) (fun _ _ _ h => h) (Or.inr ⟨by rfl,rfl⟩) ?_ ?_;rotate_left
                                     · simp only [Act.put,List.setIfInBounds_toArray,List.set_cons_zero,List.set_cons_succ,i64_w,i32_w];rfl
                                     refine pure_ (i:=12) (N:=some 137) (v:=undef) (a' := ?_) #[true,true,true,true,true,true,true,true,true,true,true,true,true,false,false,false,false,false] rfl rfl (any_of HT_.out (by kernel_rfl)) (fun _ _ _ h => h) (Or.inr ⟨by rfl,rfl⟩) ?_ ?_;rotate_left
                                     · simp only [Act.put,List.setIfInBounds_toArray,List.set_cons_zero,List.set_cons_succ,i64_w,i32_w];rfl
                                     refine pure_ (i:=13) (N:=some 138) (v:=undef) (a' := ?_) #[true,true,true,true,true,true,true,true,true,true,true,true,true,true,false,false,false,false] rfl rfl (any_of HT_.out (by kernel_rfl)) (fun _ _ _ h => h) (Or.inr ⟨by rfl,rfl⟩) ?_ ?_;rotate_left
                                     · simp only [Act.put,List.setIfInBounds_toArray,List.set_cons_zero,List.set_cons_succ,i64_w,i32_w];rfl
                                     refine pure_ (i:=14) (N:=some 139) (v:=undef) (a' := ?_) #[true,true,true,true,true,true,true,true,true,true,true,true,true,true,true,false,false,false] rfl rfl (any_of HT_.out (by kernel_rfl)) (fun _ _ _ h => h) (Or.inr ⟨by rfl,rfl⟩) ?_ ?_;rotate_left
                                     · simp only [Act.put,List.setIfInBounds_toArray,List.set_cons_zero,List.set_cons_succ,i64_w,i32_w];rfl
                                     refine pure_ (i:=15) (N:=some 140) (v:=undef) (a' := ?_) #[true,true,true,true,true,true,true,true,true,true,true,true,true,true,true,true,false,false] rfl rfl (any_of HT_.out (by kernel_rfl)) (fun _ _ _ h => h) (Or.inr ⟨by rfl,rfl⟩) ?_ ?_;rotate_left
                                     · simp only [Act.put,List.setIfInBounds_toArray,List.set_cons_zero,List.set_cons_succ,i64_w,i32_w];rfl
                                     refine pure_ (i:=16) (N:=some 141) (v:=?_) (a' := ?_) #[true,true,true,true,true,true,true,true,true,true,true,true,true,true,true,true,true,false] rfl rfl (any_of HT_.out (by kernel_rfl)) (fun _ _ _ h => h) (Or.inl ⟨by rfl,?_⟩) ?_ ?_;rotate_left
                                     · intro w';go_simp
                                       with_reducible rfl
                                     rotate_left
                                     · simp only [Act.put,List.setIfInBounds_toArray,List.set_cons_zero,List.set_cons_succ,i64_w,i32_w];rfl
                                     refine pure_ (i:=17) (N:=some 8) (v:=?_) (a' := ?_) #[true,true,true,true,true,true,true,true,true,true,true,true,true,true,true,true,true,true] rfl rfl (any_of HT_.out (by kernel_rfl)) (fun _ _ _ h => h) (Or.inl ⟨by rfl,?_⟩) ?_ ?_;rotate_left
                                     · intro w';go_simp
                                       with_reducible rfl
                                     rotate_left
                                     · simp only [Act.put,List.setIfInBounds_toArray,List.set_cons_zero,List.set_cons_succ,i64_w,i32_w];rfl
                                     refine done_ (Z83 HT_.out (by kernel_rfl)) ?_;try go_wp2
                                     go_roundg k5
                                     case measure => have:=HK1.out;have:=HK2.out;have:=HK3.out;have:=HK4.out;have:=HK5.out;omega
                                     case rel => exact ⟨(true),(wrap64 (x11_5 + 1)),(by first|rfl|(simp;done)|(simp [*];done)),(by first|rfl|(simp;done)|(simp [*];done)),H',⟨by have:=HK1.out;have:=HK2.out;have:=HK3.out;have:=HK4.out;have:=HK5.out;omega⟩,⟨YN HO_3⟩,⟨YN HO_619004⟩,⟨YK BK618⟩,⟨by repeat (first|(with_reducible exact HR632_1.out)|(with_reducible refine Kd.C_alloc ?_ _)|(with_reducible refine Kd.C_drewN ?_ _)|(with_reducible refine Kd.C_drew ?_)|exact HR632_1.out)⟩,⟨by repeat (first|(with_reducible exact HR637_1.out)|(with_reducible refine Kd.C_alloc ?_ _)|(with_reducible refine Kd.C_drewN ?_ _)|(with_reducible refine Kd.C_drew ?_)|exact HR637_1.out)⟩,⟨YH⟩⟩
                                   · replace c51:=Bool.eq_false_iff.mpr c51
                                     subst c51;have H1 : (if 0 ≤ x11_5 then (if 0 ≤ x4_1 then (if x4_1 < (t628.length : Int) then (cruciblelaw17_OrderNests.l5 k5 t628 x4_1 x6_3 x7_4 ((rd ((rd_T42 t628 x6_3).f1) x11_5) == ((rd_T42 t628 x4_1).f0)) (wrap64 (x11_5 + 1)) t619 t620 t621 t622 t623) else (none)) else (none)) else (none)) = some r:=by rw [if_neg (show ¬ (false = true) by decide)] at H;exact H
                                     clear H;have H:=H1
                                     clear H1;by_cases c53 : 0 ≤ x11_5
                                     · rw [if_pos c53] at H;have c53b0 : decide (0 ≤ x11_5) = true:=decide_eq_true c53
                                       clear c53;by_cases c54 : 0 ≤ x4_1
                                       · rw [if_pos c54] at H;have c54b0 : decide (0 ≤ x4_1) = true:=decide_eq_true c54
                                         clear c54;by_cases c55 : x4_1 < (t628.length : Int)
                                         · rw [if_pos c55] at H;have c55b0 : decide (x4_1 < (t628.length : Int)) = true:=decide_eq_true c55
                                           clear c55;have H' := Aside0.mk H
                                           clear H;have p646 : 0 ≤ (x6_3 : Int):=YA
                                           have q646 : x6_3 < (t628.length : Int):=YA
                                           obtain ⟨ad646,A646_1,c646_1,e646,hx646_0,hx646_1,hl646_1,hi646_1⟩:=at_T42 (Kd.N_reads' HO_3.out).2.2 x6_3 p646 q646
                                           obtain rfl : ad632 = ad646:=(by injection e646)
                                           obtain ⟨ce646,hce646,hMe646,hcc646⟩:=Kd.N_get HO_3.out z42 x6_3 p646 (by first|exact q646|exact YA|(have e_:=(Kd.N_reads' HO_3.out).1;omega))
                                           obtain ⟨ua646_1,uc646_1,rfl,ul646_1,ge646_1⟩:=k42_openF hMe646
                                           have hv646_1:=hcc646 1 _ rfl
                                           rw [add_field _ _ 1 (by omega)] at hv646_1;replace hv646_1:=Option.some.inj (hv646_1.symm.trans hx646_1)
                                           injection hv646_1 with hva_ hvn_ hvc_
                                           rw [hva_] at ge646_1;rw [hvc_] at ul646_1;have HL646_1:=Aside0.mk (show Kd.V (Kd.int .i64) 3 _ w.heap.size _ _ ((rd_T42 t628 x6_3).f1) from Kd.V_mk ul646_1 ge646_1)
                                           clear hva_ hvn_ hvc_ ge646_1 ul646_1;clear hcc646 hce646;have HR646_1:=Aside0.mk hi646_1
                                           clear hi646_1 hl646_1;replace p646:=eq_true p646
                                           replace q646:=eq_true q646
                                           try go_wp2
                                           have n0_:=Aside0.mk (Kd.N_drew HO_3.out)
                                           have n1_:=Aside0.mk (Kd.N_drew HO_619004.out)
                                           have n2_:=Aside0.mk (Kd.V_drew HL646_1.out)
                                           have n3_:=Aside0.mk (Z3 BK618.out)
                                           have n4_:=Aside0.mk (Kd.C_drew HR632_1.out)
                                           have n5_:=Aside0.mk (Kd.C_drew HR637_1.out)
                                           have n6_:=Aside0.mk (Kd.C_drew HR646_1.out)
                                           have n7_:=Aside0.mk (Z6 HB.out)
                                           clear HO_3;clear HO_619004;clear HL646_1;clear BK618;clear HR632_1;clear HR637_1;clear HR646_1;clear HB;have HO_3:=n0_
                                           have HO_619004:=n1_
                                           have HL646_1:=n2_
                                           have BK618:=n3_
                                           have HR632_1:=n4_
                                           have HR637_1:=n5_
                                           have HR646_1:=n6_
                                           have HB:=n7_
                                           clear n0_ n1_ n2_ n3_ n4_ n5_ n6_ n7_;have p647 : 0 ≤ (x6_3 : Int):=YA
                                           have q647 : x6_3 < (t628.length : Int):=YA
                                           obtain ⟨ad647,A647_1,c647_1,e647,hx647_0,hx647_1,hl647_1,hi647_1⟩:=at_T42 (Kd.N_reads' HO_3.out).2.2 x6_3 p647 q647
                                           obtain rfl : ad632 = ad647:=(by injection e647)
                                           obtain ⟨ce647,hce647,hMe647,hcc647⟩:=Kd.N_get HO_3.out z42 x6_3 p647 (by first|exact q647|exact YA|(have e_:=(Kd.N_reads' HO_3.out).1;omega))
                                           obtain ⟨ua647_1,uc647_1,rfl,ul647_1,ge647_1⟩:=k42_openF hMe647
                                           have hv647_1:=hcc647 1 _ rfl
                                           rw [add_field _ _ 1 (by omega)] at hv647_1;replace hv647_1:=Option.some.inj (hv647_1.symm.trans hx647_1)
                                           injection hv647_1 with hva_ hvn_ hvc_
                                           rw [hva_] at ge647_1;rw [hvc_] at ul647_1;have HL647_1:=Aside0.mk (show Kd.V (Kd.int .i64) 3 _ w.heap.size _ _ ((rd_T42 t628 x6_3).f1) from Kd.V_mk ul647_1 ge647_1)
                                           clear hva_ hvn_ hvc_ ge647_1 ul647_1;clear hcc647 hce647;have HR647_1:=Aside0.mk hi647_1
                                           clear hi647_1 hl647_1;replace p647:=eq_true p647
                                           replace q647:=eq_true q647
                                           have p648 : 0 ≤ (x11_5 : Int):=YA
                                           have q648 : x11_5 < (((rd_T42 t628 x6_3).f1).length : Int):=YA
                                           obtain ⟨ad648,e648,hx648_0⟩:=Kd.at_int (by repeat (first|(with_reducible exact HR647_1.out)|(with_reducible refine Kd.C_alloc ?_ _)|(with_reducible refine Kd.C_drewN ?_ _)|(with_reducible refine Kd.C_drew ?_)|exact HR647_1.out)) x11_5 p648 q648
                                           cases e648;replace p648:=eq_true p648
                                           replace q648:=eq_true q648
                                           have p649 : 0 ≤ (x4_1 : Int):=YA
                                           have q649 : x4_1 < (t628.length : Int):=YA
                                           obtain ⟨ad649,A649_1,c649_1,e649,hx649_0,hx649_1,hl649_1,hi649_1⟩:=at_T42 (Kd.N_reads' HO_3.out).2.2 x4_1 p649 q649
                                           obtain rfl : ad632 = ad649:=(by injection e649)
                                           obtain ⟨ce649,hce649,hMe649,hcc649⟩:=Kd.N_get HO_3.out z42 x4_1 p649 (by first|exact q649|exact YA|(have e_:=(Kd.N_reads' HO_3.out).1;omega))
                                           obtain ⟨ua649_1,uc649_1,rfl,ul649_1,ge649_1⟩:=k42_openF hMe649
                                           have hv649_1:=hcc649 1 _ rfl
                                           rw [add_field _ _ 1 (by omega)] at hv649_1;replace hv649_1:=Option.some.inj (hv649_1.symm.trans hx649_1)
                                           injection hv649_1 with hva_ hvn_ hvc_
                                           rw [hva_] at ge649_1;rw [hvc_] at ul649_1;have HL649_1:=Aside0.mk (show Kd.V (Kd.int .i64) 3 _ w.heap.size _ _ ((rd_T42 t628 x4_1).f1) from Kd.V_mk ul649_1 ge649_1)
                                           clear hva_ hvn_ hvc_ ge649_1 ul649_1;clear hcc649 hce649;clear hi649_1 hl649_1;replace p649:=eq_true p649
                                           replace q649:=eq_true q649
                                           refine start_ (n:=18) (S:=fun w' => w'.cell? (ad632.add ((x6_3).toNat * 2)) = some (.int .i64 ((rd_T42 t628 x6_3).f0)) ∧ w'.cell? ⟨(ad632.add ((x6_3).toNat * 2)).block,(ad632.add ((x6_3).toNat * 2)).off + 1,none⟩ = some (.slice (some ad648) ((rd_T42 t628 x6_3).f1).length c647_1) ∧ w'.cell? (ad648.add (x11_5).toNat) = some (.int .i64 (rd ((rd_T42 t628 x6_3).f1) x11_5)) ∧ w'.cell? (ad632.add ((x4_1).toNat * 2)) = some (.int .i64 ((rd_T42 t628 x4_1).f0)) ∧ w'.cell? ⟨(ad632.add ((x4_1).toNat * 2)).block,(ad632.add ((x4_1).toNat * 2)).off + 1,none⟩ = some (.slice A649_1 ((rd_T42 t628 x4_1).f1).length c649_1)) (ds:=[]) #[false,false,false,false,false,false,false,false,false,false,false,false,false,false,false,false,false,false] (by kernel_rfl) rfl rfl ⟨hx647_0,hx647_1,hx648_0,hx649_0,hx649_1⟩ (fun hHeld => ?_);refine Z74 cruciblelaw17_OrderNests.tab28 cruciblelaw17_OrderNests.bits28 (fun HT_ HW_ => ?_);generalize wr.drew = w56 at HO_3 HO_619004 HL646_1 BK618 HR632_1 HR637_1 HR646_1 HB HL647_1 HL649_1 HR647_1 hx647_0 hx647_1 hx648_0 hx649_0 hx649_1 hHeld ⊢;refine pure_ (i:=0) (N:=some 125) (v:=?_) (a' := ?_) #[true,false,false,false,false,false,false,false,false,false,false,false,false,false,false,false,false,false] rfl rfl (any_of HT_.out (by kernel_rfl)) (fun _ _ _ h => h) (Or.inl ⟨by rfl,?_⟩) ?_ ?_;rotate_left
                                           · intro w';go_simp
                                             with_reducible rfl
                                           rotate_left
                                           · simp only [Act.put,List.setIfInBounds_toArray,List.set_cons_zero,List.set_cons_succ,i64_w,i32_w];rfl
                                           refine pure_ (i:=1) (N:=some 126) (v:=?_) (a' := ?_) #[true,true,false,false,false,false,false,false,false,false,false,false,false,false,false,false,false,false] rfl rfl (any_of HT_.out (by kernel_rfl)) (fun _ _ _ h => h) (Or.inl ⟨by rfl,?_⟩) ?_ ?_;rotate_left
                                           · intro w';go_simp
                                             with_reducible rfl
                                           rotate_left
                                           · simp only [Act.put,List.setIfInBounds_toArray,List.set_cons_zero,List.set_cons_succ,i64_w,i32_w];rfl
                                           refine pure_ (i:=2) (N:=some 127) (v:=?_) (a' := ?_) #[true,true,true,false,false,false,false,false,false,false,false,false,false,false,false,false,false,false] rfl rfl (any_of HT_.out (by kernel_rfl)) (fun _ _ _ h => h) (Or.inl ⟨by rfl,?_⟩) ?_ ?_;rotate_left
                                           · intro w';go_simp
                                             with_reducible rfl
                                           rotate_left
                                           · simp only [Act.put,List.setIfInBounds_toArray,List.set_cons_zero,List.set_cons_succ,i64_w,i32_w];rfl
                                           refine pure_ (i:=3) (N:=some 128) (v:=?_) (a' := ?_) #[true,true,true,true,false,false,false,false,false,false,false,false,false,false,false,false,false,false] rfl rfl (any_of HT_.out (by kernel_rfl)) (fun _ _ _ h => h) (Or.inl ⟨by rfl,?_⟩) ?_ ?_;rotate_left
                                           · intro w';go_simp
                                             with_reducible rfl
                                           rotate_left
                                           · simp only [Act.put,List.setIfInBounds_toArray,List.set_cons_zero,List.set_cons_succ,i64_w,i32_w];rfl
                                           refine pure_ (i:=4) (N:=some 129) (v:=?_) (a' := ?_) #[true,true,true,true,true,false,false,false,false,false,false,false,false,false,false,false,false,false] rfl rfl (any_of HT_.out (by kernel_rfl)) (fun _ _ _ h => h) (Or.inl ⟨by rfl,?_⟩) ?_ ?_;rotate_left
                                           · intro w';go_simp
                                             with_reducible rfl
                                           rotate_left
                                           · simp only [Act.put,List.setIfInBounds_toArray,List.set_cons_zero,List.set_cons_succ,i64_w,i32_w];rfl
                                           refine pure_ (i:=5) (N:=some 130) (v:=?_) (a' := ?_) #[true,true,true,true,true,true,false,false,false,false,false,false,false,false,false,false,false,false] rfl rfl (any_of HT_.out (by kernel_rfl)) (fun _ _ _ h => h) (Or.inl ⟨by rfl,?_⟩) ?_ ?_;rotate_left
                                           · intro w';go_simp
                                             with_reducible rfl
                                           rotate_left
                                           · simp only [Act.put,List.setIfInBounds_toArray,List.set_cons_zero,List.set_cons_succ,i64_w,i32_w];rfl
                                           refine pure_ (i:=7) (N:=some 132) (v:=?_) (a' := ?_) #[true,true,true,true,true,true,false,true,false,false,false,false,false,false,false,false,false,false] rfl rfl (any_of HT_.out (by kernel_rfl)) (fun _ _ _ h => h) (Or.inl ⟨by rfl,?_⟩) ?_ ?_;rotate_left
                                           · intro w';go_simp
                                             with_reducible rfl
                                           rotate_left
                                           · simp only [Act.put,List.setIfInBounds_toArray,List.set_cons_zero,List.set_cons_succ,i64_w,i32_w];rfl
                                           refine pure_ (i:=10) (N:=some 135) (v:=?_) (a' := ?_) #[true,true,true,true,true,true,false,true,false,false,true,false,false,false,false,false,false,false] rfl rfl (any_of HT_.out (by kernel_rfl)) (fun _ _ _ h => h) (Or.inl ⟨by rfl,?_⟩) ?_ ?_;rotate_left
                                           · intro w';go_simp
                                             with_reducible rfl
                                           rotate_left
                                           · simp only [Act.put,List.setIfInBounds_toArray,List.set_cons_zero,List.set_cons_succ,i64_w,i32_w];rfl
                                           refine pure_ (i:=11) (N:=some 136) (v:=?_) (a' := ?_) #[true,true,true,true,true,true,false,true,false,false,true,true,false,false,false,false,false,false] rfl rfl (any_of HT_.out (by kernel_rfl)) (fun _ _ _ h => h) (Or.inl ⟨by rfl,?_⟩) ?_ ?_;rotate_left
                                           · intro w';go_simp
                                             with_reducible rfl
                                           rotate_left
                                           · simp only [Act.put,List.setIfInBounds_toArray,List.set_cons_zero,List.set_cons_succ,i64_w,i32_w];rfl
                                           refine pure_ (i:=12) (N:=some 137) (v:=?_) (a' := ?_) #[true,true,true,true,true,true,false,true,false,false,true,true,true,false,false,false,false,false] rfl rfl (any_of HT_.out (by kernel_rfl)) (fun _ _ _ h => h) (Or.inl ⟨by rfl,?_⟩) ?_ ?_;rotate_left
                                           · intro w';go_simp
                                             with_reducible rfl
                                           rotate_left
                                           · simp only [Act.put,List.setIfInBounds_toArray,List.set_cons_zero,List.set_cons_succ,i64_w,i32_w];rfl
                                           refine pure_ (i:=13) (N:=some 138) (v:=?_) (a' := ?_) #[true,true,true,true,true,true,false,true,false,false,true,true,true,true,false,false,false,false] rfl rfl (any_of HT_.out (by kernel_rfl)) (fun _ _ _ h => h) (Or.inl ⟨by rfl,?_⟩) ?_ ?_;rotate_left
                                           · intro w';go_simp
                                             with_reducible rfl
                                           rotate_left
                                           · simp only [Act.put,List.setIfInBounds_toArray,List.set_cons_zero,List.set_cons_succ,i64_w,i32_w];rfl
                                           refine take_ (i:=6) (N:=some 131) (v:=?_) (a' := ?_) #[true,true,true,true,true,true,true,true,false,false,true,true,true,true,false,false,false,false] rfl rfl (Z67 HT_.out HW_.out (by kernel_rfl)) (fun _ _ _ h => h) (Or.inl ⟨by rfl,?_⟩) hHeld ?_ ?_;rotate_left
                                           · rintro w' ⟨s0,s1,s2,s3,s4⟩;go_simp
                                             with_reducible rfl
                                           rotate_left
                                           · simp only [Act.put,List.setIfInBounds_toArray,List.set_cons_zero,List.set_cons_succ,i64_w,i32_w];rfl
                                           refine pure_ (i:=8) (N:=some 133) (v:=?_) (a' := ?_) #[true,true,true,true,true,true,true,true,true,false,true,true,true,true,false,false,false,false] rfl rfl (any_of HT_.out (by kernel_rfl)) (fun _ _ _ h => h) (Or.inl ⟨by rfl,?_⟩) ?_ ?_;rotate_left
                                           · intro w';go_simp
                                             with_reducible rfl
                                           rotate_left
                                           · simp only [Act.put,List.setIfInBounds_toArray,List.set_cons_zero,List.set_cons_succ,i64_w,i32_w];rfl
                                           refine take_ (i:=9) (N:=some 134) (v:=?_) (a' := ?_) #[true,true,true,true,true,true,true,true,true,true,true,true,true,true,false,false,false,false] rfl rfl (Z67 HT_.out HW_.out (by kernel_rfl)) (fun _ _ _ h => h) (Or.inl ⟨by rfl,?_⟩) hHeld ?_ ?_;rotate_left
                                           · rintro w' ⟨s0,s1,s2,s3,s4⟩;go_simp
                                             with_reducible rfl
                                           rotate_left
                                           · simp only [Act.put,List.setIfInBounds_toArray,List.set_cons_zero,List.set_cons_succ,i64_w,i32_w];rfl
                                           refine take_ (i:=14) (N:=some 139) (v:=?_) (a' := ?_) #[true,true,true,true,true,true,true,true,true,true,true,true,true,true,true,false,false,false] rfl rfl (Z67 HT_.out HW_.out (by kernel_rfl)) (fun _ _ _ h => h) (Or.inl ⟨by rfl,?_⟩) hHeld ?_ ?_;rotate_left
                                           · rintro w' ⟨s0,s1,s2,s3,s4⟩;go_simp
                                             with_reducible rfl
                                           rotate_left
                                           · simp only [Act.put,List.setIfInBounds_toArray,List.set_cons_zero,List.set_cons_succ,i64_w,i32_w];rfl
                                           refine pure_ (i:=15) (N:=some 140) (v:=?_) (a' := ?_) #[true,true,true,true,true,true,true,true,true,true,true,true,true,true,true,true,false,false] rfl rfl (any_of HT_.out (by kernel_rfl)) (fun _ _ _ h => h) (Or.inl ⟨by rfl,?_⟩) ?_ ?_;rotate_left
                                           · intro w';go_simp
                                             with_reducible rfl
                                           rotate_left
                                           · simp only [Act.put,List.setIfInBounds_toArray,List.set_cons_zero,List.set_cons_succ,i64_w,i32_w];rfl
                                           refine pure_ (i:=16) (N:=some 141) (v:=?_) (a' := ?_) #[true,true,true,true,true,true,true,true,true,true,true,true,true,true,true,true,true,false] rfl rfl (any_of HT_.out (by kernel_rfl)) (fun _ _ _ h => h) (Or.inl ⟨by rfl,?_⟩) ?_ ?_;rotate_left
                                           · intro w';go_simp
                                             with_reducible rfl
                                           rotate_left
                                           · simp only [Act.put,List.setIfInBounds_toArray,List.set_cons_zero,List.set_cons_succ,i64_w,i32_w];rfl
                                           refine pure_ (i:=17) (N:=some 8) (v:=?_) (a' := ?_) #[true,true,true,true,true,true,true,true,true,true,true,true,true,true,true,true,true,true] rfl rfl (any_of HT_.out (by kernel_rfl)) (fun _ _ _ h => h) (Or.inl ⟨by rfl,?_⟩) ?_ ?_;rotate_left
                                           · intro w';go_simp
                                             with_reducible rfl
                                           rotate_left
                                           · simp only [Act.put,List.setIfInBounds_toArray,List.set_cons_zero,List.set_cons_succ,i64_w,i32_w];rfl
                                           refine done_ (Z83 HT_.out (by kernel_rfl)) ?_;try go_wp2
                                           go_roundg k5
                                           case measure => have:=HK1.out;have:=HK2.out;have:=HK3.out;have:=HK4.out;have:=HK5.out;omega
                                           case rel => exact ⟨(((rd ((rd_T42 t628 x6_3).f1) x11_5) == ((rd_T42 t628 x4_1).f0))),(wrap64 (x11_5 + 1)),(by first|rfl|(simp;done)|(simp [*];done)),(by first|rfl|(simp;done)|(simp [*];done)),H',⟨by have:=HK1.out;have:=HK2.out;have:=HK3.out;have:=HK4.out;have:=HK5.out;omega⟩,⟨YN HO_3⟩,⟨YN HO_619004⟩,⟨YK BK618⟩,⟨by repeat (first|(with_reducible exact HR632_1.out)|(with_reducible refine Kd.C_alloc ?_ _)|(with_reducible refine Kd.C_drewN ?_ _)|(with_reducible refine Kd.C_drew ?_)|exact HR632_1.out)⟩,⟨by repeat (first|(with_reducible exact HR637_1.out)|(with_reducible refine Kd.C_alloc ?_ _)|(with_reducible refine Kd.C_drewN ?_ _)|(with_reducible refine Kd.C_drew ?_)|exact HR637_1.out)⟩,⟨YH⟩⟩
                                         · rw [if_neg c55] at H;exact absurd H (by simp)
                                       · rw [if_neg c54] at H;exact absurd H (by simp)
                                     · rw [if_neg c53] at H;exact absurd H (by simp)
                                 · rw [if_neg c50] at H;have c50b0 : decide (x11_5 < (((rd_T42 t628 x6_3).f1).length : Int)) = false:=decide_eq_false c50
                                   clear c50;by_cases c57 : x7_4 = true
                                   · subst c57;have H1 : (if x8_5 = true then (cruciblelaw17_OrderNests.l2 k5 t628 x4_1 (wrap64 (x6_3 + 1)) t619 t620 t621 t622 t623) else (some false)) = some r:=by rw [if_pos rfl] at H;exact H
                                     clear H;have H:=H1
                                     clear H1;by_cases c58 : x8_5 = true
                                     · subst c58;have H1 : (cruciblelaw17_OrderNests.l2 k5 t628 x4_1 (wrap64 (x6_3 + 1)) t619 t620 t621 t622 t623) = some r:=by rw [if_pos rfl] at H;exact H
                                       clear H;have H:=H1
                                       clear H1;have H' := Aside0.mk H
                                       clear H;have p646 : 0 ≤ (x6_3 : Int):=YA
                                       have q646 : x6_3 < (t628.length : Int):=YA
                                       obtain ⟨ad646,A646_1,c646_1,e646,hx646_0,hx646_1,hl646_1,hi646_1⟩:=at_T42 (Kd.N_reads' HO_3.out).2.2 x6_3 p646 q646
                                       obtain rfl : ad632 = ad646:=(by injection e646)
                                       obtain ⟨ce646,hce646,hMe646,hcc646⟩:=Kd.N_get HO_3.out z42 x6_3 p646 (by first|exact q646|exact YA|(have e_:=(Kd.N_reads' HO_3.out).1;omega))
                                       obtain ⟨ua646_1,uc646_1,rfl,ul646_1,ge646_1⟩:=k42_openF hMe646
                                       have hv646_1:=hcc646 1 _ rfl
                                       rw [add_field _ _ 1 (by omega)] at hv646_1;replace hv646_1:=Option.some.inj (hv646_1.symm.trans hx646_1)
                                       injection hv646_1 with hva_ hvn_ hvc_
                                       rw [hva_] at ge646_1;rw [hvc_] at ul646_1;have HL646_1:=Aside0.mk (show Kd.V (Kd.int .i64) 3 _ w.heap.size _ _ ((rd_T42 t628 x6_3).f1) from Kd.V_mk ul646_1 ge646_1)
                                       clear hva_ hvn_ hvc_ ge646_1 ul646_1;clear hcc646 hce646;have HR646_1:=Aside0.mk hi646_1
                                       clear hi646_1 hl646_1;replace p646:=eq_true p646
                                       replace q646:=eq_true q646
                                       go_wp2
                                       go_roundg k5
                                       case measure => have:=HK1.out;have:=HK2.out;have:=HK3.out;have:=HK4.out;have:=HK5.out;omega
                                       case rel => exact ⟨(wrap64 (x6_3 + 1)),(by first|rfl|(simp;done)|(simp [*];done)),H',⟨by have:=HK1.out;have:=HK2.out;have:=HK3.out;have:=HK4.out;have:=HK5.out;omega⟩,⟨YN HO_3⟩,⟨YN HO_619004⟩,⟨YK BK618⟩,⟨by repeat (first|(with_reducible exact HR632_1.out)|(with_reducible refine Kd.C_alloc ?_ _)|(with_reducible refine Kd.C_drewN ?_ _)|(with_reducible refine Kd.C_drew ?_)|exact HR632_1.out)⟩,⟨YH⟩⟩
                                     · replace c58:=Bool.eq_false_iff.mpr c58
                                       subst c58;have H1 : (some false) = some r:=by rw [if_neg (show ¬ (false = true) by decide)] at H;exact H
                                       clear H;have H:=H1
                                       clear H1;obtain rfl:=Option.some.inj H
                                       have p646 : 0 ≤ (x6_3 : Int):=YA
                                       have q646 : x6_3 < (t628.length : Int):=YA
                                       obtain ⟨ad646,A646_1,c646_1,e646,hx646_0,hx646_1,hl646_1,hi646_1⟩:=at_T42 (Kd.N_reads' HO_3.out).2.2 x6_3 p646 q646
                                       obtain rfl : ad632 = ad646:=(by injection e646)
                                       obtain ⟨ce646,hce646,hMe646,hcc646⟩:=Kd.N_get HO_3.out z42 x6_3 p646 (by first|exact q646|exact YA|(have e_:=(Kd.N_reads' HO_3.out).1;omega))
                                       obtain ⟨ua646_1,uc646_1,rfl,ul646_1,ge646_1⟩:=k42_openF hMe646
                                       have hv646_1:=hcc646 1 _ rfl
                                       rw [add_field _ _ 1 (by omega)] at hv646_1;replace hv646_1:=Option.some.inj (hv646_1.symm.trans hx646_1)
                                       injection hv646_1 with hva_ hvn_ hvc_
                                       rw [hva_] at ge646_1;rw [hvc_] at ul646_1;have HL646_1:=Aside0.mk (show Kd.V (Kd.int .i64) 3 _ w.heap.size _ _ ((rd_T42 t628 x6_3).f1) from Kd.V_mk ul646_1 ge646_1)
                                       clear hva_ hvn_ hvc_ ge646_1 ul646_1;clear hcc646 hce646;have HR646_1:=Aside0.mk hi646_1
                                       clear hi646_1 hl646_1;replace p646:=eq_true p646
                                       replace q646:=eq_true q646
                                       go_wp2
                                       go_ret
                                       exact ⟨by first|rfl|(simp [Z16,Z15] <;> rfl)|(simp [*,Z16,Z15] <;> rfl),by repeat (first|(with_reducible first|exact HB.out|apply Z7|apply Z4|apply Z6|refine Z8 ?_ GE618.out)|exact HB.out)⟩
                                   · replace c57:=Bool.eq_false_iff.mpr c57
                                     subst c57;have H1 : (cruciblelaw17_OrderNests.l2 k5 t628 x4_1 (wrap64 (x6_3 + 1)) t619 t620 t621 t622 t623) = some r:=by rw [if_neg (show ¬ (false = true) by decide)] at H;exact H
                                     clear H;have H:=H1
                                     clear H1;have H' := Aside0.mk H
                                     clear H;have p646 : 0 ≤ (x6_3 : Int):=YA
                                     have q646 : x6_3 < (t628.length : Int):=YA
                                     obtain ⟨ad646,A646_1,c646_1,e646,hx646_0,hx646_1,hl646_1,hi646_1⟩:=at_T42 (Kd.N_reads' HO_3.out).2.2 x6_3 p646 q646
                                     obtain rfl : ad632 = ad646:=(by injection e646)
                                     obtain ⟨ce646,hce646,hMe646,hcc646⟩:=Kd.N_get HO_3.out z42 x6_3 p646 (by first|exact q646|exact YA|(have e_:=(Kd.N_reads' HO_3.out).1;omega))
                                     obtain ⟨ua646_1,uc646_1,rfl,ul646_1,ge646_1⟩:=k42_openF hMe646
                                     have hv646_1:=hcc646 1 _ rfl
                                     rw [add_field _ _ 1 (by omega)] at hv646_1;replace hv646_1:=Option.some.inj (hv646_1.symm.trans hx646_1)
                                     injection hv646_1 with hva_ hvn_ hvc_
                                     rw [hva_] at ge646_1;rw [hvc_] at ul646_1;have HL646_1:=Aside0.mk (show Kd.V (Kd.int .i64) 3 _ w.heap.size _ _ ((rd_T42 t628 x6_3).f1) from Kd.V_mk ul646_1 ge646_1)
                                     clear hva_ hvn_ hvc_ ge646_1 ul646_1;clear hcc646 hce646;have HR646_1:=Aside0.mk hi646_1
                                     clear hi646_1 hl646_1;replace p646:=eq_true p646
                                     replace q646:=eq_true q646
                                     go_wp2
                                     go_roundg k5
                                     case measure => have:=HK1.out;have:=HK2.out;have:=HK3.out;have:=HK4.out;have:=HK5.out;omega
                                     case rel => exact ⟨(wrap64 (x6_3 + 1)),(by first|rfl|(simp;done)|(simp [*];done)),H',⟨by have:=HK1.out;have:=HK2.out;have:=HK3.out;have:=HK4.out;have:=HK5.out;omega⟩,⟨YN HO_3⟩,⟨YN HO_619004⟩,⟨YK BK618⟩,⟨by repeat (first|(with_reducible exact HR632_1.out)|(with_reducible refine Kd.C_alloc ?_ _)|(with_reducible refine Kd.C_drewN ?_ _)|(with_reducible refine Kd.C_drew ?_)|exact HR632_1.out)⟩,⟨YH⟩⟩
                               · rw [if_neg c49] at H;exact absurd H (by simp)
                             · rw [if_neg c48] at H;exact absurd H (by simp)
                       · rw [if_neg c28] at H;exact absurd H (by simp)
                     · rw [if_neg c27] at H;exact absurd H (by simp)
                 · rw [if_neg c26] at H;have c26b0 : decide (x6_3 < (t628.length : Int)) = false:=decide_eq_false c26
                   clear c26;have H' := Aside0.mk H
                   clear H;go_wp2
                   go_roundg k3
                   case measure => have:=HK1.out;have:=HK2.out;have:=HK3.out;omega
                   case rel => exact ⟨(wrap64 (x4_1 + 1)),(by first|rfl|(simp;done)|(simp [*];done)),H',⟨by have:=HK1.out;have:=HK2.out;have:=HK3.out;omega⟩,⟨YN HO_3⟩,⟨YN HO_619004⟩,⟨YK BK618⟩,⟨YH⟩⟩
           · rw [if_neg c17] at H;exact absurd H (by simp)
         · rw [if_neg c16] at H;exact absurd H (by simp)
     · rw [if_neg c14] at H;have c14b0 : decide (x4_1 < (t628.length : Int)) = false:=decide_eq_false c14
       clear c14;replace H:=Option.bind_eq_some_iff.mp H
       obtain ⟨t631,A590,H⟩:=H
       replace H : (some t631) = some r:=H
       have A59:=Aside0.mk A590
       clear A590;obtain rfl:=Option.some.inj H
       obtain ⟨Ao60,co60,eo60⟩:=Kd.N_slice HO_3.out
       subst eo60;go_wp2_with (first|((with_reducible refine Z14 (f:=12) rfl ?_);refine goesL_ (some 147) rfl rfl Try.func12 (by kernel_rfl) rfl #[] rfl (by (try simp only [List.map_toArray,List.map_cons,List.map_nil]);first|done|rfl|(simp only [List.length_drop,List.length_take];rfl)) ?_;(with_reducible refine (cruciblelaw17_awake.calls k1  t631 _ A59.out).mono ?_);rintro e w61 ⟨rfl,hb⟩;refine ⟨_,rfl,?_⟩;have n0_:=Aside0.mk (Kd.N_below (YN HO_3) hb);have n1_:=Aside0.mk (Kd.N_below (YN HO_619004) hb);have n2_:=Aside0.mk (Z40 (YK BK618) hb);have n3_:=Aside0.mk (Z25 YH hb);clear HO_3;clear HO_619004;clear BK618;clear HB;have HO_3:=n0_;have HO_619004:=n1_;have BK618:=n2_;have HB:=n3_;clear n0_ n1_ n2_ n3_;(try clear hb);(try clear hb2);(try clear hk);(try clear hi)))
       go_ret
       exact ⟨by first|rfl|(simp [Z16,Z15] <;> rfl)|(simp [*,Z16,Z15] <;> rfl),by repeat (first|(with_reducible first|exact HB.out|apply Z7|apply Z4|apply Z6|refine Z8 ?_ GE618.out)|exact HB.out)⟩
 · replace c4:=Bool.eq_false_iff.mpr c4
   subst c4;have H1 : ((cruciblelaw17_awake.f k).bind fun t627 => (some t627)) = some r:=by rw [if_neg (show ¬ (false = true) by decide)] at H;exact H
   clear H;have H:=H1
   clear H1;replace H:=Option.bind_eq_some_iff.mp H
   obtain ⟨t627,A620,H⟩:=H
   replace H : (some t627) = some r:=H
   have A62:=Aside0.mk A620
   clear A620;obtain rfl:=Option.some.inj H
   go_enter Try.func8,Try.ntmps8
   go_wp2_with (first|((with_reducible refine Z52 (N:=1) rfl ?_);refine Z51 ?hg (N:=1) ?hd (cs:=#[.string a0_0,.int .i64 a0_1,.int .i64 a0_2,.int .i64 a0_3,.slice A0_4 l0_4.length c0_4]) (t:=24) ?hr ?_;(case hd => rfl);(case hg => rfl);(case hr => first|(go_simp;done)|(go_simp;rfl));intro gb618 hg w63 hbox hb;have n0_:=Aside0.mk (Z25 YH hb);have n1_:=Aside0.mk (hbox);have n2_:=Aside0.mk ((by rw [hg];exact (Z27 YH) : w.heap.size ≤ gb618));have n3_:=Aside0.mk ((by rw [hg];exact (Z27 YH) : w.heap.size ≤ gb618));clear HB;have HB:=n0_;have BK618:=n1_;have GW618:=n2_;have GE618:=n3_;clear n0_ n1_ n2_ n3_;clear hb hbox hg;have hcz64_0 : w63.cell? ⟨gb618,0,none⟩ = some (.string a0_0):=(Z5 BK618.out 0).trans rfl;have hcz64_1 : w63.cell? ⟨gb618,1,none⟩ = some (.int .i64 a0_1):=(Z5 BK618.out 1).trans rfl;have hcz64_2 : w63.cell? ⟨gb618,2,none⟩ = some (.int .i64 a0_2):=(Z5 BK618.out 2).trans rfl;have hcz64_3 : w63.cell? ⟨gb618,3,none⟩ = some (.int .i64 a0_3):=(Z5 BK618.out 3).trans rfl;have hcz64_4 : w63.cell? ⟨gb618,4,none⟩ = some (.slice A0_4 l0_4.length c0_4):=(Z5 BK618.out 4).trans rfl)|((with_reducible refine Z14 (f:=9) rfl ?_);refine goesL_ (some 13) rfl rfl Try.func9 (by kernel_rfl) rfl #[.agg #[.string a0_0,.int .i64 a0_1,.int .i64 a0_2,.int .i64 a0_3,.slice A0_4 l0_4.length c0_4]] rfl (by (try simp only [List.map_toArray,List.map_cons,List.map_nil]);first|done|rfl|(simp only [List.length_drop,List.length_take];rfl)) ?_;(with_reducible refine (cruciblelaw17_bare.calls k a0_0 a0_1 a0_2 a0_3 (fun k_ => k_ < w.heap.size) _ _ l0_4 t619 t620 t621 t622 t623 _ ?side1 A2.out).mono ?_);(case side1 => exact Kd.V_mk HC0_4.out (Kd.F_below (Kd.C_F k45_heap HR0_4.out) YH));rintro e w65 ⟨v624,rfl,ho0,hb⟩;refine ⟨_,rfl,?_⟩;have n0_:=Aside0.mk (Kd.N_lower (Kd.N_mono (ok' := fun k_ => k_ ≠ gb618) ho0 (fun k_ hk_ => Or.elim hk_ (fun hs_ => fun e_ => Nat.not_le.2 hs_ (by rw [e_];exact GW618.out)) (fun hn_ => (Kd.freshB (YK BK618) k_ hn_)))) (Z27 YH));have n1_:=Aside0.mk (Z40 (YK BK618) hb);have n2_:=Aside0.mk (Z25 YH hb);clear BK618;clear HB;have HO625:=n0_;have BK618:=n1_;have HB:=n2_;clear n0_ n1_ n2_;(try clear hb);(try clear hb2);(try clear hk);(try clear hi);(try clear ho0);have hcz66_0 : w65.cell? ⟨gb618,0,none⟩ = some (.string a0_0):=(Z5 BK618.out 0).trans rfl;have hcz66_1 : w65.cell? ⟨gb618,1,none⟩ = some (.int .i64 a0_1):=(Z5 BK618.out 1).trans rfl;have hcz66_2 : w65.cell? ⟨gb618,2,none⟩ = some (.int .i64 a0_2):=(Z5 BK618.out 2).trans rfl;have hcz66_3 : w65.cell? ⟨gb618,3,none⟩ = some (.int .i64 a0_3):=(Z5 BK618.out 3).trans rfl;have hcz66_4 : w65.cell? ⟨gb618,4,none⟩ = some (.slice A0_4 l0_4.length c0_4):=(Z5 BK618.out 4).trans rfl;have hfz66_0:=Z2 BK618.out 0;have hfz66_1:=Z2 BK618.out 1;have hfz66_2:=Z2 BK618.out 2;have hfz66_3:=Z2 BK618.out 3;have hfz66_4:=Z2 BK618.out 4;obtain ⟨Ao67,co67,eo67⟩:=Kd.N_slice HO625.out;subst eo67)|((with_reducible refine Z14 (f:=11) rfl ?_);refine goesL_ (some 15) rfl rfl Try.func11 (by kernel_rfl) rfl #[.agg #[.string t619,.int .i64 t620,.int .i64 t621,.int .i64 t622,.slice Ao67 t623.length co67]] rfl (by (try simp only [List.map_toArray,List.map_cons,List.map_nil]);first|done|rfl|(simp only [List.length_drop,List.length_take];rfl)) ?_;(with_reducible refine (cruciblelaw17_May.calls k t619 t620 t621 t622 _ _ t623 false _ ?side1 ?side2 A3.out).mono ?_);(case side1 => refine (Kd.N_reads' (e:=45) (base:=w.heap.size) (ok:=fun k_ => k_ ≠ gb618) (n:=t623.length) (c:=co67) ?_).2.2;exact (by (with_reducible repeat (first|apply Kd.N_alloc|apply Kd.N_drewN|apply Kd.N_drew));exact (Kd.N_mono (Kd.N_far (p:=⟨gb618,4,none⟩) (Kd.N_far (p:=⟨gb618,3,none⟩) (Kd.N_far (p:=⟨gb618,2,none⟩) (Kd.N_far (p:=⟨gb618,1,none⟩) (Kd.N_far (p:=⟨gb618,0,none⟩) (Kd.N_mono HO625.out (fun k_ hk => (⟨hk,hk⟩ : _ ∧ k_ ≠ gb618))) (fun _ hk => hk.2) (.string t619)) (fun _ hk => hk.2) (.int .i64 t620)) (fun _ hk => hk.2) (.int .i64 t621)) (fun _ hk => hk.2) (.int .i64 t622)) (fun _ hk => hk.2) (.slice Ao67 t623.length co67)) (fun _ h_ => h_.1))));(case side2 => exact (Kd.N_reads' HO625.out).2.1);rintro e w68 ⟨rfl,hb⟩;refine ⟨_,rfl,?_⟩;have n0_:=Aside0.mk (Kd.N_below (by (with_reducible repeat (first|apply Kd.N_alloc|apply Kd.N_drewN|apply Kd.N_drew));exact (Kd.N_mono (Kd.N_far (p:=⟨gb618,4,none⟩) (Kd.N_far (p:=⟨gb618,3,none⟩) (Kd.N_far (p:=⟨gb618,2,none⟩) (Kd.N_far (p:=⟨gb618,1,none⟩) (Kd.N_far (p:=⟨gb618,0,none⟩) (Kd.N_mono HO625.out (fun k_ hk => (⟨hk,hk⟩ : _ ∧ k_ ≠ gb618))) (fun _ hk => hk.2) (.string t619)) (fun _ hk => hk.2) (.int .i64 t620)) (fun _ hk => hk.2) (.int .i64 t621)) (fun _ hk => hk.2) (.int .i64 t622)) (fun _ hk => hk.2) (.slice Ao67 t623.length co67)) (fun _ h_ => h_.1))) hb);have n1_:=Aside0.mk (Z40 (g:=gb618) (o:=.cells #[.string t619,.int .i64 t620,.int .i64 t621,.int .i64 t622,.slice Ao67 t623.length co67] 24 (0,0)) (by (with_reducible repeat (first|refine Z0 ?_ _|refine Z3 ?_|refine Z1 ?_ _));refine Z9 (cs:=#[.string t619,.int .i64 t620,.int .i64 t621,.int .i64 t622,.slice A0_4 l0_4.length c0_4]) ?_ 4 _ rfl;(with_reducible repeat (first|refine Z0 ?_ _|refine Z3 ?_|refine Z1 ?_ _));refine Z9 (cs:=#[.string t619,.int .i64 t620,.int .i64 t621,.int .i64 a0_3,.slice A0_4 l0_4.length c0_4]) ?_ 3 _ rfl;(with_reducible repeat (first|refine Z0 ?_ _|refine Z3 ?_|refine Z1 ?_ _));refine Z9 (cs:=#[.string t619,.int .i64 t620,.int .i64 a0_2,.int .i64 a0_3,.slice A0_4 l0_4.length c0_4]) ?_ 2 _ rfl;(with_reducible repeat (first|refine Z0 ?_ _|refine Z3 ?_|refine Z1 ?_ _));refine Z9 (cs:=#[.string t619,.int .i64 a0_1,.int .i64 a0_2,.int .i64 a0_3,.slice A0_4 l0_4.length c0_4]) ?_ 1 _ rfl;(with_reducible repeat (first|refine Z0 ?_ _|refine Z3 ?_|refine Z1 ?_ _));refine Z9 (cs:=#[.string a0_0,.int .i64 a0_1,.int .i64 a0_2,.int .i64 a0_3,.slice A0_4 l0_4.length c0_4]) ?_ 0 _ rfl;(with_reducible repeat (first|refine Z0 ?_ _|refine Z3 ?_|refine Z1 ?_ _));exact BK618.out) hb);have n2_:=Aside0.mk (Z25 YH hb);clear HO625;clear BK618;clear HB;have HO625:=n0_;have BK618:=n1_;have HB:=n2_;clear n0_ n1_ n2_;(try clear hb);(try clear hb2);(try clear hk);(try clear hi))|((with_reducible refine Z14 (f:=12) rfl ?_);refine goesL_ (some 17) rfl rfl Try.func12 (by kernel_rfl) rfl #[] rfl (by (try simp only [List.map_toArray,List.map_cons,List.map_nil]);first|done|rfl|(simp only [List.length_drop,List.length_take];rfl)) ?_;(with_reducible refine (cruciblelaw17_awake.calls k  t627 _ A62.out).mono ?_);rintro e w69 ⟨rfl,hb⟩;refine ⟨_,rfl,?_⟩;have n0_:=Aside0.mk (Kd.N_below (YN HO625) hb);have n1_:=Aside0.mk (Z40 (YK BK618) hb);have n2_:=Aside0.mk (Z25 YH hb);clear HO625;clear BK618;clear HB;have HO625:=n0_;have BK618:=n1_;have HB:=n2_;clear n0_ n1_ n2_;(try clear hb);(try clear hb2);(try clear hk);(try clear hi)))
   go_ret
   exact ⟨by first|rfl|(simp [Z16,Z15] <;> rfl)|(simp [*,Z16,Z15] <;> rfl),by repeat (first|(with_reducible first|exact HB.out|apply Z7|apply Z4|apply Z6|refine Z8 ?_ GE618.out)|exact HB.out)⟩
end Go.Proofs.Ytbklmnieakefnaa.Q
