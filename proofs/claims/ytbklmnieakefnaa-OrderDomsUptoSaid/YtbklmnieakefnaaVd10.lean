/- A part of the proof, made small by a program: Qx27. -/
import Derived.Test.YtbklmnieakefnaaVd1
import Derived.Test.YtbklmnieakefnaaVd2
import Derived.Test.YtbklmnieakefnaaVd3
import Derived.Test.YtbklmnieakefnaaVd7
import Derived.Test.YtbklmnieakefnaaVd8
import Derived.Test.YtbklmnieakefnaaVd9
namespace Go.Proofs.Ytbklmnieakefnaa.Q
open Go.RowKit Go.Proofs.YtbklmnieakefnaaW.PrintWords Go.Proofs.YtbklmnieakefnaaW.PrintLast Go.Proofs.YtbklmnieakefnaaW.PrintMore

set_option linter.unusedVariables false
set_option linter.unusedSimpArgs false
mutual
def cruciblelaw17_OrderDoms.l0 : Nat → List (List Bool) → Int → ByteArray → Int → Int → Int → List (S45) → Option (Bool)
 | 0,_,_,_,_,_,_,_ => none
 | k + 1,x4,x5,x409000,x409001,x409002,x409003,x409004 => if x5 < (x4.length : Int) then (cruciblelaw17_OrderDoms.l1 k x4 x5 0 x409000 x409001 x409002 x409003 x409004) else ((order_Dominates.f k x409000 x409001 x409002 x409003 x409004 (-1) 0).bind fun t428 => (if t428 = true then (some false) else ((order_Dominates.f k x409000 x409001 x409002 x409003 x409004 0 (x4.length : Int)).bind fun t429 => (if t429 = true then (some false) else ((cruciblelaw17_awake.f k).bind fun t430 => (some t430))))))
def cruciblelaw17_OrderDoms.l1 : Nat → List (List Bool) → Int → Int → ByteArray → Int → Int → Int → List (S45) → Option (Bool)
 | 0,_,_,_,_,_,_,_,_ => none
 | k + 1,x4,x5,x6,x409000,x409001,x409002,x409003,x409004 => if x6 < (x4.length : Int) then ((order_Dominates.f k x409000 x409001 x409002 x409003 x409004 x5 x6).bind fun t431 => (if 0 ≤ x5 then (if x5 < (x4.length : Int) then (if 0 ≤ x6 then (if x6 < ((rd_L11 x4 x5).length : Int) then (if (t431 != (rdOf false (rd_L11 x4 x5) x6)) = true then (some false) else (cruciblelaw17_OrderDoms.l1 k x4 x5 (wrap64 (x6 + 1)) x409000 x409001 x409002 x409003 x409004)) else (none)) else (none)) else (none)) else (none))) else (cruciblelaw17_OrderDoms.l0 k x4 (wrap64 (x5 + 1)) x409000 x409001 x409002 x409003 x409004)
end
def cruciblelaw17_OrderDoms.f (k : Nat) (a0_0 : ByteArray) (a0_1 : Int) (a0_2 : Int) (a0_3 : Int) (l0_4 : List (S45)) : Option (Bool):=(cruciblelaw17_bare.f k a0_0 a0_1 a0_2 a0_3 l0_4).bind fun bt409 => ((order_Doms.f k bt409.1 bt409.2.1 bt409.2.2.1 bt409.2.2.2.1 bt409.2.2.2.2).bind fun t416 => ((cruciblelaw17_May.f k bt409.1 bt409.2.1 bt409.2.2.1 bt409.2.2.2.1 bt409.2.2.2.2).bind fun t419 => (if t419 = true then ((crucibleref17_Doms.f k bt409.1 bt409.2.1 bt409.2.2.1 bt409.2.2.2.1 bt409.2.2.2.2).bind fun t421 => ((crucibleref14_SameInts.f k t416 t421).bind fun t424 => (if t424 = true then ((crucibleref17_Table.f k bt409.1 bt409.2.1 bt409.2.2.1 bt409.2.2.2.1 bt409.2.2.2.2).bind fun t425 => (cruciblelaw17_OrderDoms.l0 k t425 0 bt409.1 bt409.2.1 bt409.2.2.1 bt409.2.2.2.1 bt409.2.2.2.2)) else (some false)))) else ((cruciblelaw17_awake.f k).bind fun t420 => (some t420)))))
def cruciblelaw17_OrderDoms.T14 : Bool × List (List Nat × List Nat):=(true,[([],[]),([],[]),([],[]),([0,1,2],[0,1,2]),([],[]),([],[]),([4,5],[4,5]),([6],[6]),([],[]),([7,8],[7,8]),([9],[9]),([3,10],[3,10])])
def cruciblelaw17_OrderDoms.B14 : List Nat:=[0,0,0,7,0,0,48,112,0,496,1008,2047]
theorem cruciblelaw17_OrderDoms.tab14 : rtab .any (opsOf Try.f4 14) = cruciblelaw17_OrderDoms.T14:=by kernel_rfl
theorem cruciblelaw17_OrderDoms.bits14 : waitsOk cruciblelaw17_OrderDoms.T14.2 cruciblelaw17_OrderDoms.B14 = true:=by kernel_rfl
set_option maxHeartbeats 8000000 in
set_option maxRecDepth 100000 in
theorem cruciblelaw17_OrderDoms.calls (k : Nat) (a0_0 : ByteArray) (a0_1 : Int) (a0_2 : Int) (a0_3 : Int) (A0_4 : Option Addr) (c0_4 : Nat) (l0_4 : List (S45)) (r : Bool) (w : World) (hr0_4 : Kd.C k45 w A0_4 l0_4.length l0_4) (hc0_4 : l0_4.length ≤ c0_4) (h : cruciblelaw17_OrderDoms.f k a0_0 a0_1 a0_2 a0_3 l0_4 = some r) :
 Calls Try.prog 4 #[.agg #[.string a0_0,.int .i64 a0_1,.int .i64 a0_2,.int .i64 a0_3,.slice A0_4 l0_4.length c0_4]] w fun e w' => e = .returned (.bool r) ∧ Below w.heap.size w w' := by
 have hu24:=Try.underlying24
 have HR0_4:=Aside0.mk hr0_4
 have HC0_4:=Aside0.mk hc0_4
 clear hr0_4 hc0_4;have HB:=Aside0.mk (Below.refl w.heap.size w)
 have H : ((cruciblelaw17_bare.f k a0_0 a0_1 a0_2 a0_3 l0_4).bind fun bt409 => ((order_Doms.f k bt409.1 bt409.2.1 bt409.2.2.1 bt409.2.2.2.1 bt409.2.2.2.2).bind fun t416 => ((cruciblelaw17_May.f k bt409.1 bt409.2.1 bt409.2.2.1 bt409.2.2.2.1 bt409.2.2.2.2).bind fun t419 => (if t419 = true then ((crucibleref17_Doms.f k bt409.1 bt409.2.1 bt409.2.2.1 bt409.2.2.2.1 bt409.2.2.2.2).bind fun t421 => ((crucibleref14_SameInts.f k t416 t421).bind fun t424 => (if t424 = true then ((crucibleref17_Table.f k bt409.1 bt409.2.1 bt409.2.2.1 bt409.2.2.2.1 bt409.2.2.2.2).bind fun t425 => (cruciblelaw17_OrderDoms.l0 k t425 0 bt409.1 bt409.2.1 bt409.2.2.1 bt409.2.2.2.1 bt409.2.2.2.2)) else (some false)))) else ((cruciblelaw17_awake.f k).bind fun t420 => (some t420)))))) = some r:=h
 clear h;replace H:=Option.bind_eq_some_iff.mp H
 obtain ⟨⟨t409,t410,t411,t412,t413⟩,A20,H⟩:=H
 replace H : ((order_Doms.f k t409 t410 t411 t412 t413).bind fun t416 => ((cruciblelaw17_May.f k t409 t410 t411 t412 t413).bind fun t419 => (if t419 = true then ((crucibleref17_Doms.f k t409 t410 t411 t412 t413).bind fun t421 => ((crucibleref14_SameInts.f k t416 t421).bind fun t424 => (if t424 = true then ((crucibleref17_Table.f k t409 t410 t411 t412 t413).bind fun t425 => (cruciblelaw17_OrderDoms.l0 k t425 0 t409 t410 t411 t412 t413)) else (some false)))) else ((cruciblelaw17_awake.f k).bind fun t420 => (some t420))))) = some r:=H
 have A2:=Aside0.mk A20
 clear A20;replace H:=Option.bind_eq_some_iff.mp H
 obtain ⟨t416,A30,H⟩:=H
 replace H : ((cruciblelaw17_May.f k t409 t410 t411 t412 t413).bind fun t419 => (if t419 = true then ((crucibleref17_Doms.f k t409 t410 t411 t412 t413).bind fun t421 => ((crucibleref14_SameInts.f k t416 t421).bind fun t424 => (if t424 = true then ((crucibleref17_Table.f k t409 t410 t411 t412 t413).bind fun t425 => (cruciblelaw17_OrderDoms.l0 k t425 0 t409 t410 t411 t412 t413)) else (some false)))) else ((cruciblelaw17_awake.f k).bind fun t420 => (some t420)))) = some r:=H
 have A3:=Aside0.mk A30
 clear A30;replace H:=Option.bind_eq_some_iff.mp H
 obtain ⟨t419,A40,H⟩:=H
 replace H : (if t419 = true then ((crucibleref17_Doms.f k t409 t410 t411 t412 t413).bind fun t421 => ((crucibleref14_SameInts.f k t416 t421).bind fun t424 => (if t424 = true then ((crucibleref17_Table.f k t409 t410 t411 t412 t413).bind fun t425 => (cruciblelaw17_OrderDoms.l0 k t425 0 t409 t410 t411 t412 t413)) else (some false)))) else ((cruciblelaw17_awake.f k).bind fun t420 => (some t420))) = some r:=H
 have A4:=Aside0.mk A40
 clear A40;by_cases c5 : t419 = true
 · subst c5;have H1 : ((crucibleref17_Doms.f k t409 t410 t411 t412 t413).bind fun t421 => ((crucibleref14_SameInts.f k t416 t421).bind fun t424 => (if t424 = true then ((crucibleref17_Table.f k t409 t410 t411 t412 t413).bind fun t425 => (cruciblelaw17_OrderDoms.l0 k t425 0 t409 t410 t411 t412 t413)) else (some false)))) = some r:=by rw [if_pos rfl] at H;exact H
   clear H;have H:=H1
   clear H1;replace H:=Option.bind_eq_some_iff.mp H
   obtain ⟨t421,A60,H⟩:=H
   replace H : ((crucibleref14_SameInts.f k t416 t421).bind fun t424 => (if t424 = true then ((crucibleref17_Table.f k t409 t410 t411 t412 t413).bind fun t425 => (cruciblelaw17_OrderDoms.l0 k t425 0 t409 t410 t411 t412 t413)) else (some false))) = some r:=H
   have A6:=Aside0.mk A60
   clear A60;replace H:=Option.bind_eq_some_iff.mp H
   obtain ⟨t424,A70,H⟩:=H
   replace H : (if t424 = true then ((crucibleref17_Table.f k t409 t410 t411 t412 t413).bind fun t425 => (cruciblelaw17_OrderDoms.l0 k t425 0 t409 t410 t411 t412 t413)) else (some false)) = some r:=H
   have A7:=Aside0.mk A70
   clear A70;by_cases c8 : t424 = true
   · subst c8;have H1 : ((crucibleref17_Table.f k t409 t410 t411 t412 t413).bind fun t425 => (cruciblelaw17_OrderDoms.l0 k t425 0 t409 t410 t411 t412 t413)) = some r:=by rw [if_pos rfl] at H;exact H
     clear H;have H:=H1
     clear H1;replace H:=Option.bind_eq_some_iff.mp H
     obtain ⟨t425,A90,H⟩:=H
     replace H : (cruciblelaw17_OrderDoms.l0 k t425 0 t409 t410 t411 t412 t413) = some r:=H
     have A9:=Aside0.mk A90
     clear A90;have H' := Aside0.mk H
     clear H;go_enter Try.func4,Try.ntmps4
     go_wp2_with (first|((with_reducible refine Z52 (N:=1) rfl ?_);(try (refine Z66 (by rfl) ?_;dsimp only));refine Z51 ?hg (N:=1) ?hd (cs:=#[.string a0_0,.int .i64 a0_1,.int .i64 a0_2,.int .i64 a0_3,.slice A0_4 l0_4.length c0_4]) (t:=24) ?hr ?_;(case hd => rfl);(case hg => rfl);(case hr => first|(go_simp;done)|(go_simp;rfl));intro gb408 hg w10 hbox hb;have n0_:=Aside0.mk (Z25 YH hb);have n1_:=Aside0.mk (hbox);have n2_:=Aside0.mk ((by rw [hg];exact (Z27 YH) : w.heap.size ≤ gb408));have n3_:=Aside0.mk ((by rw [hg];exact (Z27 YH) : w.heap.size ≤ gb408));clear HB;have HB:=n0_;have BK408:=n1_;have GW408:=n2_;have GE408:=n3_;clear n0_ n1_ n2_ n3_;clear hb hbox hg;have hcz11_0 : w10.cell? ⟨gb408,0,none⟩ = some (.string a0_0):=(Z5 BK408.out 0).trans rfl;have hcz11_1 : w10.cell? ⟨gb408,1,none⟩ = some (.int .i64 a0_1):=(Z5 BK408.out 1).trans rfl;have hcz11_2 : w10.cell? ⟨gb408,2,none⟩ = some (.int .i64 a0_2):=(Z5 BK408.out 2).trans rfl;have hcz11_3 : w10.cell? ⟨gb408,3,none⟩ = some (.int .i64 a0_3):=(Z5 BK408.out 3).trans rfl;have hcz11_4 : w10.cell? ⟨gb408,4,none⟩ = some (.slice A0_4 l0_4.length c0_4):=(Z5 BK408.out 4).trans rfl)|((with_reducible refine Z14 (f:=9) rfl ?_);refine goesL_ (some 8) rfl rfl Try.func9 (by kernel_rfl) rfl #[.agg #[.string a0_0,.int .i64 a0_1,.int .i64 a0_2,.int .i64 a0_3,.slice A0_4 l0_4.length c0_4]] rfl (by (try simp only [List.map_toArray,List.map_cons,List.map_nil]);first|done|rfl|(simp only [List.length_drop,List.length_take];rfl)) ?_;(with_reducible refine (cruciblelaw17_bare.calls k a0_0 a0_1 a0_2 a0_3 (fun k_ => k_ < w.heap.size) _ _ l0_4 t409 t410 t411 t412 t413 _ ?side1 A2.out).mono ?_);(case side1 => exact Kd.V_mk HC0_4.out (Kd.F_below (Kd.C_F k45_heap HR0_4.out) YH));rintro e w12 ⟨v414,rfl,ho0,hb⟩;refine ⟨_,rfl,?_⟩;have n0_:=Aside0.mk (Kd.N_lower (Kd.N_mono (ok' := fun k_ => k_ ≠ gb408) ho0 (fun k_ hk_ => Or.elim hk_ (fun hs_ => fun e_ => Nat.not_le.2 hs_ (by rw [e_];exact GW408.out)) (fun hn_ => (Kd.freshB (YK BK408) k_ hn_)))) (Z27 YH));have n1_:=Aside0.mk (Z40 (YK BK408) hb);have n2_:=Aside0.mk (Z25 YH hb);clear BK408;clear HB;have HO415:=n0_;have BK408:=n1_;have HB:=n2_;clear n0_ n1_ n2_;(try clear hb);(try clear hb2);(try clear hk);(try clear hi);(try clear ho0);have hcz13_0 : w12.cell? ⟨gb408,0,none⟩ = some (.string a0_0):=(Z5 BK408.out 0).trans rfl;have hcz13_1 : w12.cell? ⟨gb408,1,none⟩ = some (.int .i64 a0_1):=(Z5 BK408.out 1).trans rfl;have hcz13_2 : w12.cell? ⟨gb408,2,none⟩ = some (.int .i64 a0_2):=(Z5 BK408.out 2).trans rfl;have hcz13_3 : w12.cell? ⟨gb408,3,none⟩ = some (.int .i64 a0_3):=(Z5 BK408.out 3).trans rfl;have hcz13_4 : w12.cell? ⟨gb408,4,none⟩ = some (.slice A0_4 l0_4.length c0_4):=(Z5 BK408.out 4).trans rfl;have hfz13_0:=Z2 BK408.out 0;have hfz13_1:=Z2 BK408.out 1;have hfz13_2:=Z2 BK408.out 2;have hfz13_3:=Z2 BK408.out 3;have hfz13_4:=Z2 BK408.out 4;obtain ⟨Ao14,co14,eo14⟩:=Kd.N_slice HO415.out;subst eo14)|((with_reducible refine Z14 (f:=15) rfl ?_);refine goesL_ (some 10) rfl rfl Try.func15 (by kernel_rfl) rfl #[.agg #[.string t409,.int .i64 t410,.int .i64 t411,.int .i64 t412,.slice Ao14 t413.length co14]] rfl (by (try simp only [List.map_toArray,List.map_cons,List.map_nil]);first|done|rfl|(simp only [List.length_drop,List.length_take];rfl)) ?_;(with_reducible refine (order_Doms.calls k t409 t410 t411 t412 _ _ t413 t416 _ ?side1 ?side2 A3.out).mono ?_);(case side1 => refine (Kd.N_reads' (e:=45) (base:=w.heap.size) (ok:=fun k_ => k_ ≠ gb408) (n:=t413.length) (c:=co14) ?_).2.2;exact (by (with_reducible repeat (first|apply Kd.N_alloc|apply Kd.N_drewN|apply Kd.N_drew));exact (Kd.N_mono (Kd.N_far (p:=⟨gb408,4,none⟩) (Kd.N_far (p:=⟨gb408,3,none⟩) (Kd.N_far (p:=⟨gb408,2,none⟩) (Kd.N_far (p:=⟨gb408,1,none⟩) (Kd.N_far (p:=⟨gb408,0,none⟩) (Kd.N_mono HO415.out (fun k_ hk => (⟨hk,hk⟩ : _ ∧ k_ ≠ gb408))) (fun _ hk => hk.2) (.string t409)) (fun _ hk => hk.2) (.int .i64 t410)) (fun _ hk => hk.2) (.int .i64 t411)) (fun _ hk => hk.2) (.int .i64 t412)) (fun _ hk => hk.2) (.slice Ao14 t413.length co14)) (fun _ h_ => h_.1))));(case side2 => exact (Kd.N_reads' HO415.out).2.1);rintro e w15 ⟨v417,rfl,ho0,hb⟩;refine ⟨_,rfl,?_⟩;have n0_:=Aside0.mk (Kd.N_elder' (by (with_reducible repeat (first|apply Kd.N_alloc|apply Kd.N_drewN|apply Kd.N_drew));exact (Kd.N_mono (Kd.N_far (p:=⟨gb408,4,none⟩) (Kd.N_far (p:=⟨gb408,3,none⟩) (Kd.N_far (p:=⟨gb408,2,none⟩) (Kd.N_far (p:=⟨gb408,1,none⟩) (Kd.N_far (p:=⟨gb408,0,none⟩) (Kd.N_mono HO415.out (fun k_ hk => (⟨hk,hk⟩ : _ ∧ k_ ≠ gb408))) (fun _ hk => hk.2) (.string t409)) (fun _ hk => hk.2) (.int .i64 t410)) (fun _ hk => hk.2) (.int .i64 t411)) (fun _ hk => hk.2) (.int .i64 t412)) (fun _ hk => hk.2) (.slice Ao14 t413.length co14)) (fun _ h_ => h_.1))) (Kd.R_base ho0) hb);have n1_:=Aside0.mk (Kd.R_lower ho0 (Z27 YH));have n2_:=Aside0.mk (Z40 (g:=gb408) (o:=.cells #[.string t409,.int .i64 t410,.int .i64 t411,.int .i64 t412,.slice Ao14 t413.length co14] 24 (0,0)) (by (with_reducible repeat (first|refine Z0 ?_ _|refine Z3 ?_|refine Z1 ?_ _));refine Z9 (cs:=#[.string t409,.int .i64 t410,.int .i64 t411,.int .i64 t412,.slice A0_4 l0_4.length c0_4]) ?_ 4 _ rfl;(with_reducible repeat (first|refine Z0 ?_ _|refine Z3 ?_|refine Z1 ?_ _));refine Z9 (cs:=#[.string t409,.int .i64 t410,.int .i64 t411,.int .i64 a0_3,.slice A0_4 l0_4.length c0_4]) ?_ 3 _ rfl;(with_reducible repeat (first|refine Z0 ?_ _|refine Z3 ?_|refine Z1 ?_ _));refine Z9 (cs:=#[.string t409,.int .i64 t410,.int .i64 a0_2,.int .i64 a0_3,.slice A0_4 l0_4.length c0_4]) ?_ 2 _ rfl;(with_reducible repeat (first|refine Z0 ?_ _|refine Z3 ?_|refine Z1 ?_ _));refine Z9 (cs:=#[.string t409,.int .i64 a0_1,.int .i64 a0_2,.int .i64 a0_3,.slice A0_4 l0_4.length c0_4]) ?_ 1 _ rfl;(with_reducible repeat (first|refine Z0 ?_ _|refine Z3 ?_|refine Z1 ?_ _));refine Z9 (cs:=#[.string a0_0,.int .i64 a0_1,.int .i64 a0_2,.int .i64 a0_3,.slice A0_4 l0_4.length c0_4]) ?_ 0 _ rfl;(with_reducible repeat (first|refine Z0 ?_ _|refine Z3 ?_|refine Z1 ?_ _));exact BK408.out) hb);have n3_:=Aside0.mk (Z25 YH hb);clear HO415;clear BK408;clear HB;have HO415:=n0_;have HO418:=n1_;have BK408:=n2_;have HB:=n3_;clear n0_ n1_ n2_ n3_;(try clear hb);(try clear hb2);(try clear hk);(try clear hi);(try clear ho0);have hcz16_0 : w15.cell? ⟨gb408,0,none⟩ = some (.string t409):=(Z5 BK408.out 0).trans rfl;have hcz16_1 : w15.cell? ⟨gb408,1,none⟩ = some (.int .i64 t410):=(Z5 BK408.out 1).trans rfl;have hcz16_2 : w15.cell? ⟨gb408,2,none⟩ = some (.int .i64 t411):=(Z5 BK408.out 2).trans rfl;have hcz16_3 : w15.cell? ⟨gb408,3,none⟩ = some (.int .i64 t412):=(Z5 BK408.out 3).trans rfl;have hcz16_4 : w15.cell? ⟨gb408,4,none⟩ = some (.slice Ao14 t413.length co14):=(Z5 BK408.out 4).trans rfl)|((with_reducible refine Z14 (f:=11) rfl ?_);refine goesL_ (some 12) rfl rfl Try.func11 (by kernel_rfl) rfl #[.agg #[.string t409,.int .i64 t410,.int .i64 t411,.int .i64 t412,.slice Ao14 t413.length co14]] rfl (by (try simp only [List.map_toArray,List.map_cons,List.map_nil]);first|done|rfl|(simp only [List.length_drop,List.length_take];rfl)) ?_;(with_reducible refine (cruciblelaw17_May.calls k t409 t410 t411 t412 _ _ t413 true _ ?side1 ?side2 A4.out).mono ?_);(case side1 => repeat (first|exact (Kd.N_reads' HO415.out).2.2|(with_reducible refine Kd.C_alloc ?_ _)|(with_reducible refine Kd.C_drewN ?_ _)|(with_reducible refine Kd.C_drew ?_)));(case side2 => exact (Kd.N_reads' HO415.out).2.1);rintro e w17 ⟨rfl,hb⟩;refine ⟨_,rfl,?_⟩;have n0_:=Aside0.mk (Kd.N_below (YN HO415) hb);have n1_:=Aside0.mk (Kd.R_below (YR HO418) hb);have n2_:=Aside0.mk (Z40 (YK BK408) hb);have n3_:=Aside0.mk (Z25 YH hb);clear HO415;clear HO418;clear BK408;clear HB;have HO415:=n0_;have HO418:=n1_;have BK408:=n2_;have HB:=n3_;clear n0_ n1_ n2_ n3_;(try clear hb);(try clear hb2);(try clear hk);(try clear hi);have hcz18_0 : w17.cell? ⟨gb408,0,none⟩ = some (.string t409):=(Z5 BK408.out 0).trans rfl;have hcz18_1 : w17.cell? ⟨gb408,1,none⟩ = some (.int .i64 t410):=(Z5 BK408.out 1).trans rfl;have hcz18_2 : w17.cell? ⟨gb408,2,none⟩ = some (.int .i64 t411):=(Z5 BK408.out 2).trans rfl;have hcz18_3 : w17.cell? ⟨gb408,3,none⟩ = some (.int .i64 t412):=(Z5 BK408.out 3).trans rfl;have hcz18_4 : w17.cell? ⟨gb408,4,none⟩ = some (.slice Ao14 t413.length co14):=(Z5 BK408.out 4).trans rfl)|((with_reducible refine Z14 (f:=16) rfl ?_);refine goesL_ (some 17) rfl rfl Try.func16 (by kernel_rfl) rfl #[.agg #[.string t409,.int .i64 t410,.int .i64 t411,.int .i64 t412,.slice Ao14 t413.length co14]] rfl (by (try simp only [List.map_toArray,List.map_cons,List.map_nil]);first|done|rfl|(simp only [List.length_drop,List.length_take];rfl)) ?_;(with_reducible refine (crucibleref17_Doms.calls k t409 t410 t411 t412 _ _ t413 t421 _ ?side1 ?side2 A6.out).mono ?_);(case side1 => repeat (first|exact (Kd.N_reads' HO415.out).2.2|(with_reducible refine Kd.C_alloc ?_ _)|(with_reducible refine Kd.C_drewN ?_ _)|(with_reducible refine Kd.C_drew ?_)));(case side2 => exact (Kd.N_reads' HO415.out).2.1);rintro e w19 ⟨v422,rfl,ho0,hb⟩;refine ⟨_,rfl,?_⟩;have n0_:=Aside0.mk (Kd.N_elder' (YN HO415) (Kd.R_base ho0) hb);have n1_:=Aside0.mk (Kd.R_elder' (YR HO418) (Kd.R_base ho0) hb);have n2_:=Aside0.mk (Kd.R_lower (Kd.R_new' ho0 (Kd.R_lt (YR HO418))) (Z27 YH));have n3_:=Aside0.mk (Z40 (YK BK408) hb);have n4_:=Aside0.mk (Z25 YH hb);clear HO415;clear HO418;clear BK408;clear HB;have HO415:=n0_;have HO418:=n1_;have HO423:=n2_;have BK408:=n3_;have HB:=n4_;clear n0_ n1_ n2_ n3_ n4_;(try clear hb);(try clear hb2);(try clear hk);(try clear hi);(try clear ho0);obtain ⟨Ao20,co20,eo20⟩:=Kd.R_slice HO418.out;subst eo20;obtain ⟨Ao21,co21,eo21⟩:=Kd.R_slice HO423.out;subst eo21)|((with_reducible refine Z14 (f:=13) rfl ?_);refine goesL_ (some 18) rfl rfl Try.func13 (by kernel_rfl) rfl #[.slice Ao20 t416.length co20,.slice Ao21 t421.length co21] rfl (by (try simp only [List.map_toArray,List.map_cons,List.map_nil]);first|done|rfl|(simp only [List.length_drop,List.length_take];rfl)) ?_;(with_reducible refine (crucibleref14_SameInts.calls k _ _ t416 _ _ t421 true _ ?side1 ?side2 ?side3 ?side4 A7.out).mono ?_);(case side1 => repeat (first|exact (Kd.R_reads' HO418.out).2.2|(with_reducible refine Kd.C_alloc ?_ _)|(with_reducible refine Kd.C_drewN ?_ _)|(with_reducible refine Kd.C_drew ?_)));(case side2 => exact (Kd.R_reads' HO418.out).2.1);(case side3 => repeat (first|exact (Kd.R_reads' HO423.out).2.2|(with_reducible refine Kd.C_alloc ?_ _)|(with_reducible refine Kd.C_drewN ?_ _)|(with_reducible refine Kd.C_drew ?_)));(case side4 => exact (Kd.R_reads' HO423.out).2.1);rintro e w' ⟨rfl,⟨nd,rfl⟩⟩;refine ⟨_,rfl,?_⟩;have hcz22_0 : w19.cell? ⟨gb408,0,none⟩ = some (.string t409):=(Z5 BK408.out 0).trans rfl;have hcz22_1 : w19.cell? ⟨gb408,1,none⟩ = some (.int .i64 t410):=(Z5 BK408.out 1).trans rfl;have hcz22_2 : w19.cell? ⟨gb408,2,none⟩ = some (.int .i64 t411):=(Z5 BK408.out 2).trans rfl;have hcz22_3 : w19.cell? ⟨gb408,3,none⟩ = some (.int .i64 t412):=(Z5 BK408.out 3).trans rfl;have hcz22_4 : w19.cell? ⟨gb408,4,none⟩ = some (.slice Ao14 t413.length co14):=(Z5 BK408.out 4).trans rfl)|((with_reducible refine Z14 (f:=17) rfl ?_);refine goesL_ (some 21) rfl rfl Try.func17 (by kernel_rfl) rfl #[.agg #[.string t409,.int .i64 t410,.int .i64 t411,.int .i64 t412,.slice Ao14 t413.length co14]] rfl (by (try simp only [List.map_toArray,List.map_cons,List.map_nil]);first|done|rfl|(simp only [List.length_drop,List.length_take];rfl)) ?_;(with_reducible refine (crucibleref17_Table.calls k t409 t410 t411 t412 _ _ t413 t425 _ ?side1 ?side2 A9.out).mono ?_);(case side1 => repeat (first|exact (Kd.N_reads' HO415.out).2.2|(with_reducible refine Kd.C_alloc ?_ _)|(with_reducible refine Kd.C_drewN ?_ _)|(with_reducible refine Kd.C_drew ?_)));(case side2 => exact (Kd.N_reads' HO415.out).2.1);rintro e w23 ⟨v426,rfl,ho0,hb⟩;refine ⟨_,rfl,?_⟩;have n0_:=Aside0.mk (Kd.N_elder' (YN HO415) (Kd.S_base ho0) hb);have n1_:=Aside0.mk (Kd.R_below (YR HO418) hb);have n2_:=Aside0.mk (Kd.R_below (YR HO423) hb);have n3_:=Aside0.mk (Kd.N_lower (Kd.N_mono (ok' := fun k_ => some k_ ≠ (.slice Ao14 t413.length co14 : Value).ownBlock ∧ some k_ ≠ (.slice Ao20 t416.length co20 : Value).ownBlock ∧ some k_ ≠ (.slice Ao21 t421.length co21 : Value).ownBlock ∧ k_ ≠ gb408) (Kd.S_N (Kd.S_bound ho0)) (fun k_ hk_ => ⟨(Kd.fresh' (Kd.N_lt (YN HO415)) k_ hk_.2.1),(Kd.fresh' (Kd.R_lt (YR HO418)) k_ hk_.2.1),(Kd.fresh' (Kd.R_lt (YR HO423)) k_ hk_.2.1),(Kd.freshB (YK BK408) k_ hk_.2.1)⟩)) (Z27 YH));have n4_:=Aside0.mk (Z40 (YK BK408) hb);have n5_:=Aside0.mk (Z25 YH hb);clear HO415;clear HO418;clear HO423;clear BK408;clear HB;have HO415:=n0_;have HO418:=n1_;have HO423:=n2_;have HO427:=n3_;have BK408:=n4_;have HB:=n5_;clear n0_ n1_ n2_ n3_ n4_ n5_;(try clear hb);(try clear hb2);(try clear hk);(try clear hi);(try clear ho0)))
     go_loopg [5] k (fun kq v5 w' => ∃ (x5_1 : Int),v5 = .int .i64 x5_1 ∧ Aside0 (cruciblelaw17_OrderDoms.l0 kq t425 x5_1 t409 t410 t411 t412 t413 = some r) ∧ Aside0 (kq ≤ k) ∧ Aside0 (Kd.N (Kd.slice 4 Kd.bool) 34 w' w.heap.size (fun k_ => some k_ ≠ ((.slice Ao14 t413.length co14) : Value).ownBlock ∧ k_ ≠ gb408) v426 t425) ∧ Aside0 (Kd.N k45 45 w' w.heap.size (fun k_ => some k_ ≠ (v426 : Value).ownBlock ∧ k_ ≠ gb408) (.slice Ao14 t413.length co14) t413) ∧ Aside0 (w'.heap[gb408]? = some (.cells #[.string t409,.int .i64 t410,.int .i64 t411,.int .i64 t412,(.slice Ao14 t413.length co14)] 24 (0,0))) ∧ Aside0 (Below w.heap.size w w'))
     case atStart => exact ⟨(0),(by first|rfl|(simp;done)|(simp [*];done)),H',⟨Nat.le_refl _⟩,⟨by (with_reducible repeat (first|apply Kd.N_alloc|apply Kd.N_drewN|apply Kd.N_drew));exact Kd.N_mono HO427.out (fun _ hk => ⟨hk.1,hk.2.2.2⟩)⟩,⟨by (with_reducible repeat (first|apply Kd.N_alloc|apply Kd.N_drewN|apply Kd.N_drew));exact Kd.N_mono HO415.out (fun _ hk => ⟨hk.2,hk.1.1.1⟩)⟩,⟨YK BK408⟩,⟨YH⟩⟩
     case round =>
      clear H';try clear c5
      try clear c8
      try clear hcz11_0
      try clear hcz11_1
      try clear hcz11_2
      try clear hcz11_3
      try clear hcz11_4
      try clear hcz13_0
      try clear hcz13_1
      try clear hcz13_2
      try clear hcz13_3
      try clear hcz13_4
      try clear hcz16_0
      try clear hcz16_1
      try clear hcz16_2
      try clear hcz16_3
      try clear hcz16_4
      try clear hcz18_0
      try clear hcz18_1
      try clear hcz18_2
      try clear hcz18_3
      try clear hcz18_4
      try clear hcz22_0
      try clear hcz22_1
      try clear hcz22_2
      try clear hcz22_3
      try clear hcz22_4
      try clear hfz13_0
      try clear hfz13_1
      try clear hfz13_2
      try clear hfz13_3
      try clear hfz13_4
      obtain ⟨x5_1,rfl,HA,HK1,HO_4,HO_409004,BK408,HB⟩:=hrel
      cases gk with
      | zero => exact absurd HA.out (by simp [cruciblelaw17_OrderDoms.l0])
      | succ k1 =>
       have H:=HA.out
       clear HA;simp only [cruciblelaw17_OrderDoms.l0] at H;by_cases c24 : x5_1 < (t425.length : Int)
       · rw [if_pos c24] at H;have c24b0 : decide (x5_1 < (t425.length : Int)) = true:=decide_eq_true c24
         clear c24;have H' := Aside0.mk H
         clear H;obtain ⟨Ao25,co25,eo25⟩:=Kd.N_slice HO_4.out
         subst eo25;go_wp2
         go_loopg [6] k1 (fun kq v6 w' => ∃ (x6_2 : Int),v6 = .int .i64 x6_2 ∧ Aside0 (cruciblelaw17_OrderDoms.l1 kq t425 x5_1 x6_2 t409 t410 t411 t412 t413 = some r) ∧ Aside0 (kq ≤ k1) ∧ Aside0 (Kd.N (Kd.slice 4 Kd.bool) 34 w' w.heap.size (fun k_ => some k_ ≠ ((.slice Ao14 t413.length co14) : Value).ownBlock ∧ k_ ≠ gb408) (.slice Ao25 t425.length co25) t425) ∧ Aside0 (Kd.N k45 45 w' w.heap.size (fun k_ => some k_ ≠ ((.slice Ao25 t425.length co25) : Value).ownBlock ∧ k_ ≠ gb408) (.slice Ao14 t413.length co14) t413) ∧ Aside0 (w'.heap[gb408]? = some (.cells #[.string t409,.int .i64 t410,.int .i64 t411,.int .i64 t412,(.slice Ao14 t413.length co14)] 24 (0,0))) ∧ Aside0 (Below w.heap.size w w'))
         case atStart => exact ⟨(0),(by first|rfl|(simp;done)|(simp [*];done)),H',⟨Nat.le_refl _⟩,⟨YN HO_4⟩,⟨YN HO_409004⟩,⟨YK BK408⟩,⟨YH⟩⟩
         case round =>
          clear H';try clear c5
          try clear c8
          try clear c24
          try clear c24b0
          try clear hcz11_0
          try clear hcz11_1
          try clear hcz11_2
          try clear hcz11_3
          try clear hcz11_4
          try clear hcz13_0
          try clear hcz13_1
          try clear hcz13_2
          try clear hcz13_3
          try clear hcz13_4
          try clear hcz16_0
          try clear hcz16_1
          try clear hcz16_2
          try clear hcz16_3
          try clear hcz16_4
          try clear hcz18_0
          try clear hcz18_1
          try clear hcz18_2
          try clear hcz18_3
          try clear hcz18_4
          try clear hcz22_0
          try clear hcz22_1
          try clear hcz22_2
          try clear hcz22_3
          try clear hcz22_4
          try clear hfz13_0
          try clear hfz13_1
          try clear hfz13_2
          try clear hfz13_3
          try clear hfz13_4
          obtain ⟨x6_2,rfl,HA,HK2,HO_4,HO_409004,BK408,HB⟩:=hrel
          cases gk with
          | zero => exact absurd HA.out (by simp [cruciblelaw17_OrderDoms.l1])
          | succ k2 =>
           have H:=HA.out
           clear HA;simp only [cruciblelaw17_OrderDoms.l1] at H;by_cases c26 : x6_2 < (t425.length : Int)
           · rw [if_pos c26] at H;have c26b0 : decide (x6_2 < (t425.length : Int)) = true:=decide_eq_true c26
             clear c26;replace H:=Option.bind_eq_some_iff.mp H
             obtain ⟨t431,A270,H⟩:=H
             replace H : (if 0 ≤ x5_1 then (if x5_1 < (t425.length : Int) then (if 0 ≤ x6_2 then (if x6_2 < ((rd_L11 t425 x5_1).length : Int) then (if (t431 != (rdOf false (rd_L11 t425 x5_1) x6_2)) = true then (some false) else (cruciblelaw17_OrderDoms.l1 k2 t425 x5_1 (wrap64 (x6_2 + 1)) t409 t410 t411 t412 t413)) else (none)) else (none)) else (none)) else (none)) = some r:=H
             have A27:=Aside0.mk A270
             clear A270;by_cases c28 : 0 ≤ x5_1
             · rw [if_pos c28] at H;have c28b0 : decide (0 ≤ x5_1) = true:=decide_eq_true c28
               clear c28;by_cases c29 : x5_1 < (t425.length : Int)
               · rw [if_pos c29] at H;have c29b0 : decide (x5_1 < (t425.length : Int)) = true:=decide_eq_true c29
                 clear c29;by_cases c30 : 0 ≤ x6_2
                 · rw [if_pos c30] at H;have c30b0 : decide (0 ≤ x6_2) = true:=decide_eq_true c30
                   clear c30;by_cases c31 : x6_2 < ((rd_L11 t425 x5_1).length : Int)
                   · rw [if_pos c31] at H;have c31b0 : decide (x6_2 < ((rd_L11 t425 x5_1).length : Int)) = true:=decide_eq_true c31
                     clear c31;by_cases c32 : (t431 != (rdOf false (rd_L11 t425 x5_1) x6_2)) = true
                     · rw [if_pos c32] at H;(try (have c32b1 : decide (t431 = (rdOf false (rd_L11 t425 x5_1) x6_2)) = false:=by simpa using c32));(try (have c32b2 : (t431 == (rdOf false (rd_L11 t425 x5_1) x6_2)) = false:=by simpa using c32));(try (have c32b3 : ¬ (t431 = (rdOf false (rd_L11 t425 x5_1) x6_2)):=by simpa using c32));clear c32;obtain rfl:=Option.some.inj H
                       try go_wp2
                       have n0_:=Aside0.mk (Kd.N_drew HO_4.out)
                       have n1_:=Aside0.mk (Kd.N_drew HO_409004.out)
                       have n2_:=Aside0.mk (Z3 BK408.out)
                       have n3_:=Aside0.mk (Z6 HB.out)
                       clear HO_4;clear HO_409004;clear BK408;clear HB;have HO_4:=n0_
                       have HO_409004:=n1_
                       have BK408:=n2_
                       have HB:=n3_
                       clear n0_ n1_ n2_ n3_;have p432 : 0 ≤ (x5_1 : Int):=YA
                       have q432 : x5_1 < (t425.length : Int):=YA
                       obtain ⟨ad432,A432_0,c432_0,e432,hx432_0,hl432_0,hi432_0⟩:=at_L11 (Kd.N_reads' HO_4.out).2.2 x5_1 p432 q432
                       cases e432;obtain ⟨ce432,hce432,hMe432,hcc432⟩:=Kd.N_get HO_4.out [] x5_1 p432 (by first|exact q432|exact YA|(have e_:=(Kd.N_reads' HO_4.out).1;omega))
                       obtain ⟨ua432_0,uc432_0,rfl,ul432_0,ge432_0⟩:=Kd.FK_slice_open hMe432
                       have hv432_0:=hcc432 0 _ rfl
                       rw [Nat.add_zero,show ((Kd.slice 4 Kd.bool)).sz = 1 from rfl,Nat.mul_one] at hv432_0;replace hv432_0:=Option.some.inj (hv432_0.symm.trans hx432_0)
                       injection hv432_0 with hva_ hvn_ hvc_
                       rw [hva_] at ge432_0;rw [hvc_] at ul432_0;have HL432_0:=Aside0.mk (show Kd.V Kd.bool 4 _ w.heap.size _ _ (rd_L11 t425 x5_1) from Kd.V_mk ul432_0 ge432_0)
                       clear hva_ hvn_ hvc_ ge432_0 ul432_0;clear hcc432 hce432;have HR432_0:=Aside0.mk hi432_0
                       clear hi432_0 hl432_0;replace p432:=eq_true p432
                       replace q432:=eq_true q432
                       have p433 : 0 ≤ (x6_2 : Int):=YA
                       have q433 : x6_2 < ((rd_L11 t425 x5_1).length : Int):=YA
                       obtain ⟨ad433,e433,hx433_0⟩:=Kd.at_bool (by repeat (first|(with_reducible exact HR432_0.out)|(with_reducible refine Kd.C_alloc ?_ _)|(with_reducible refine Kd.C_drewN ?_ _)|(with_reducible refine Kd.C_drew ?_)|exact HR432_0.out)) x6_2 p433 q433
                       cases e433;replace p433:=eq_true p433
                       replace q433:=eq_true q433
                       refine start_ (n:=12) (S:=fun w' => w'.cell? ⟨gb408,0,none⟩ = some (.string t409) ∧ w'.cell? ⟨gb408,1,none⟩ = some (.int .i64 t410) ∧ w'.cell? ⟨gb408,2,none⟩ = some (.int .i64 t411) ∧ w'.cell? ⟨gb408,3,none⟩ = some (.int .i64 t412) ∧ w'.cell? ⟨gb408,4,none⟩ = some (.slice Ao14 t413.length co14) ∧ w'.cell? (ad432.add (x5_1).toNat) = some (.slice (some ad433) (rd_L11 t425 x5_1).length c432_0) ∧ w'.cell? (ad433.add (x6_2).toNat) = some (.bool (rdOf false (rd_L11 t425 x5_1) x6_2))) (ds:=[]) #[false,false,false,false,false,false,false,false,false,false,false,false] (by kernel_rfl) rfl rfl ⟨(Z5 BK408.out 0).trans rfl,(Z5 BK408.out 1).trans rfl,(Z5 BK408.out 2).trans rfl,(Z5 BK408.out 3).trans rfl,(Z5 BK408.out 4).trans rfl,hx432_0,hx433_0⟩ (fun hHeld => ?_);refine Z74 cruciblelaw17_OrderDoms.tab14 cruciblelaw17_OrderDoms.bits14 (fun HT_ HW_ => ?_);generalize wr.drew = w33 at HO_4 HO_409004 BK408 HB HL432_0 HR432_0 hx432_0 hx433_0 hHeld ⊢;refine pure_ (i:=1) (N:=some 35) (v:=?_) (a' := ?_) #[false,true,false,false,false,false,false,false,false,false,false,false] rfl rfl (any_of HT_.out (by kernel_rfl)) (fun _ _ _ h => h) (Or.inl ⟨by rfl,?_⟩) ?_ ?_;rotate_left
                       · intro w';go_simp
                         with_reducible rfl
                       rotate_left
                       · simp only [Act.put,List.setIfInBounds_toArray,List.set_cons_zero,List.set_cons_succ,i64_w,i32_w];rfl
                       refine pure_ (i:=2) (N:=some 36) (v:=?_) (a' := ?_) #[false,true,true,false,false,false,false,false,false,false,false,false] rfl rfl (any_of HT_.out (by kernel_rfl)) (fun _ _ _ h => h) (Or.inl ⟨by rfl,?_⟩) ?_ ?_;rotate_left
                       · intro w';go_simp
                         with_reducible rfl
                       rotate_left
                       · simp only [Act.put,List.setIfInBounds_toArray,List.set_cons_zero,List.set_cons_succ,i64_w,i32_w];rfl
                       refine pure_ (i:=4) (N:=some 38) (v:=?_) (a' := ?_) #[false,true,true,false,true,false,false,false,false,false,false,false] rfl rfl (any_of HT_.out (by kernel_rfl)) (fun _ _ _ h => h) (Or.inl ⟨by rfl,?_⟩) ?_ ?_;rotate_left
                       · intro w';go_simp
                         with_reducible rfl
                       rotate_left
                       · simp only [Act.put,List.setIfInBounds_toArray,List.set_cons_zero,List.set_cons_succ,i64_w,i32_w];rfl
                       refine pure_ (i:=5) (N:=some 39) (v:=?_) (a' := ?_) #[false,true,true,false,true,true,false,false,false,false,false,false] rfl rfl (any_of HT_.out (by kernel_rfl)) (fun _ _ _ h => h) (Or.inl ⟨by rfl,?_⟩) ?_ ?_;rotate_left
                       · intro w';go_simp
                         with_reducible rfl
                       rotate_left
                       · simp only [Act.put,List.setIfInBounds_toArray,List.set_cons_zero,List.set_cons_succ,i64_w,i32_w];rfl
                       refine pure_ (i:=6) (N:=some 40) (v:=?_) (a' := ?_) #[false,true,true,false,true,true,true,false,false,false,false,false] rfl rfl (any_of HT_.out (by kernel_rfl)) (fun _ _ _ h => h) (Or.inl ⟨by rfl,?_⟩) ?_ ?_;rotate_left
                       · intro w';go_simp
                         with_reducible rfl
                       rotate_left
                       · simp only [Act.put,List.setIfInBounds_toArray,List.set_cons_zero,List.set_cons_succ,i64_w,i32_w];rfl
                       refine pure_ (i:=8) (N:=some 42) (v:=?_) (a' := ?_) #[false,true,true,false,true,true,true,false,true,false,false,false] rfl rfl (any_of HT_.out (by kernel_rfl)) (fun _ _ _ h => h) (Or.inl ⟨by rfl,?_⟩) ?_ ?_;rotate_left
                       · intro w';go_simp
                         with_reducible rfl
                       rotate_left
                       · simp only [Act.put,List.setIfInBounds_toArray,List.set_cons_zero,List.set_cons_succ,i64_w,i32_w];rfl
                       refine take_ (i:=0) (N:=some 34) (v:=?_) (a' := ?_) #[true,true,true,false,true,true,true,false,true,false,false,false] rfl rfl (Z67 HT_.out HW_.out (by kernel_rfl)) (fun _ _ _ h => h) (Or.inl ⟨by rfl,?_⟩) hHeld ?_ ?_;rotate_left
                       · rintro w' ⟨s0,s1,s2,s3,s4,s5,s6⟩;go_simp
                         with_reducible rfl
                       rotate_left
                       · simp only [Act.put,List.setIfInBounds_toArray,List.set_cons_zero,List.set_cons_succ,i64_w,i32_w];rfl
                       refine take_ (i:=7) (N:=some 41) (v:=?_) (a' := ?_) #[true,true,true,false,true,true,true,true,true,false,false,false] rfl rfl (Z67 HT_.out HW_.out (by kernel_rfl)) (fun _ _ _ h => h) (Or.inl ⟨by rfl,?_⟩) hHeld ?_ ?_;rotate_left
                       · rintro w' ⟨s0,s1,s2,s3,s4,s5,s6⟩;go_simp
                         with_reducible rfl
                       rotate_left
                       · simp only [Act.put,List.setIfInBounds_toArray,List.set_cons_zero,List.set_cons_succ,i64_w,i32_w];rfl
                       refine pure_ (i:=9) (N:=some 43) (v:=?_) (a' := ?_) #[true,true,true,false,true,true,true,true,true,true,false,false] rfl rfl (any_of HT_.out (by kernel_rfl)) (fun _ _ _ h => h) (Or.inl ⟨by rfl,?_⟩) ?_ ?_;rotate_left
                       · intro w';go_simp
                         with_reducible rfl
                       rotate_left
                       · simp only [Act.put,List.setIfInBounds_toArray,List.set_cons_zero,List.set_cons_succ,i64_w,i32_w];rfl
                       refine take_ (i:=10) (N:=some 44) (v:=?_) (a' := ?_) #[true,true,true,false,true,true,true,true,true,true,true,false] rfl rfl (Z67 HT_.out HW_.out (by kernel_rfl)) (fun _ _ _ h => h) (Or.inl ⟨by rfl,?_⟩) hHeld ?_ ?_;rotate_left
                       · rintro w' ⟨s0,s1,s2,s3,s4,s5,s6⟩;go_simp
                         with_reducible rfl
                       rotate_left
                       · simp only [Act.put,List.setIfInBounds_toArray,List.set_cons_zero,List.set_cons_succ,i64_w,i32_w];rfl
                       refine one_ (i:=3) (N:=some 37) #[true,true,true,true,true,true,true,true,true,true,true,false] rfl rfl (one_of HT_.out (by kernel_rfl)) (by decide) (fun K hK => ?_);refine goes_ Try.func18 (by kernel_rfl) rfl #[.agg #[.string t409,.int .i64 t410,.int .i64 t411,.int .i64 t412,.slice Ao14 t413.length co14],.int .i64 x5_1,.int .i64 x6_2] (by rfl) rfl rfl (by (try simp only [List.map_toArray,List.map_cons,List.map_nil]);first|done|rfl|(simp only [List.length_drop,List.length_take];rfl)) ?_
                       with_reducible refine (order_Dominates.calls k2 t409 t410 t411 t412 _ _ t413 x5_1 x6_2 t431 _ ?side1 ?side2 A27.out).mono ?_
                       (case side1 => repeat (first|exact (Kd.N_reads' HO_409004.out).2.2|(with_reducible refine Kd.C_alloc ?_ _)|(with_reducible refine Kd.C_drewN ?_ _)|(with_reducible refine Kd.C_drew ?_)));(case side2 => exact (Kd.N_reads' HO_409004.out).2.1);rintro e w34 ⟨rfl,hb⟩;have HS5_:=(hb.cell (World.block_lt_of_cell? _ _ (hHeld.2.2.2.2.2.1))).trans (hHeld.2.2.2.2.2.1)
                       have HS6_:=(hb.cell (World.block_lt_of_cell? _ _ (hHeld.2.2.2.2.2.2))).trans (hHeld.2.2.2.2.2.2)
                       refine ⟨_,rfl,?_⟩;have n0_:=Aside0.mk (Kd.N_below (YN HO_4) hb)
                       have n1_:=Aside0.mk (Kd.N_below (YN HO_409004) hb)
                       have n2_:=Aside0.mk (Kd.V_below (YV HL432_0) hb)
                       have n3_:=Aside0.mk (Z40 (YK BK408) hb)
                       have n4_:=Aside0.mk (Kd.C_below (by repeat (first|(with_reducible exact HR432_0.out)|(with_reducible refine Kd.C_alloc ?_ _)|(with_reducible refine Kd.C_drewN ?_ _)|(with_reducible refine Kd.C_drew ?_)|exact HR432_0.out)) hb)
                       have n5_:=Aside0.mk (Z25 YH hb)
                       clear HO_4;clear HO_409004;clear HL432_0;clear BK408;clear HR432_0;clear HB;have HO_4:=n0_
                       have HO_409004:=n1_
                       have HL432_0:=n2_
                       have BK408:=n3_
                       have HR432_0:=n4_
                       have HB:=n5_
                       clear n0_ n1_ n2_ n3_ n4_ n5_;(try clear hb);(try clear hb2);(try clear hk);(try clear hi);refine hK.out _ _ ⟨(Z5 BK408.out 0).trans rfl,(Z5 BK408.out 1).trans rfl,(Z5 BK408.out 2).trans rfl,(Z5 BK408.out 3).trans rfl,(Z5 BK408.out 4).trans rfl,HS5_,HS6_⟩ (fun hHeld => ?_);clear hK K;refine norm_ (a' := ?_) ?_ ?_;rotate_left
                       · show Act.put _ (some 37) _ = _
                         simp only [Act.put,List.setIfInBounds_toArray,List.set_cons_zero,List.set_cons_succ,i64_w,i32_w];rfl
                       refine pure_ (i:=11) (N:=some 45) (v:=?_) (a' := ?_) #[true,true,true,true,true,true,true,true,true,true,true,true] rfl rfl (any_of HT_.out (by kernel_rfl)) (fun _ _ _ h => h) (Or.inl ⟨by rfl,?_⟩) ?_ ?_;rotate_left
                       · intro w';go_simp
                         with_reducible rfl
                       rotate_left
                       · simp only [Act.put,List.setIfInBounds_toArray,List.set_cons_zero,List.set_cons_succ,i64_w,i32_w];rfl
                       refine done_ (Z83 HT_.out (by kernel_rfl)) ?_;try go_wp2
                       go_ret
                       exact ⟨by first|rfl|(simp [Z16,Z15] <;> rfl)|(simp [*,Z16,Z15] <;> rfl),by repeat (first|(with_reducible first|exact HB.out|apply Z7|apply Z4|apply Z6|refine Z8 ?_ GE408.out)|exact HB.out)⟩
                     · rw [if_neg c32] at H;(try (have c32b1 : decide (t431 = (rdOf false (rd_L11 t425 x5_1) x6_2)) = true:=by simpa using c32));(try (have c32b2 : (t431 == (rdOf false (rd_L11 t425 x5_1) x6_2)) = true:=by simpa using c32));clear c32;have H' := Aside0.mk H
                       clear H;try go_wp2
                       have n0_:=Aside0.mk (Kd.N_drew HO_4.out)
                       have n1_:=Aside0.mk (Kd.N_drew HO_409004.out)
                       have n2_:=Aside0.mk (Z3 BK408.out)
                       have n3_:=Aside0.mk (Z6 HB.out)
                       clear HO_4;clear HO_409004;clear BK408;clear HB;have HO_4:=n0_
                       have HO_409004:=n1_
                       have BK408:=n2_
                       have HB:=n3_
                       clear n0_ n1_ n2_ n3_;have p432 : 0 ≤ (x5_1 : Int):=YA
                       have q432 : x5_1 < (t425.length : Int):=YA
                       obtain ⟨ad432,A432_0,c432_0,e432,hx432_0,hl432_0,hi432_0⟩:=at_L11 (Kd.N_reads' HO_4.out).2.2 x5_1 p432 q432
                       cases e432;obtain ⟨ce432,hce432,hMe432,hcc432⟩:=Kd.N_get HO_4.out [] x5_1 p432 (by first|exact q432|exact YA|(have e_:=(Kd.N_reads' HO_4.out).1;omega))
                       obtain ⟨ua432_0,uc432_0,rfl,ul432_0,ge432_0⟩:=Kd.FK_slice_open hMe432
                       have hv432_0:=hcc432 0 _ rfl
                       rw [Nat.add_zero,show ((Kd.slice 4 Kd.bool)).sz = 1 from rfl,Nat.mul_one] at hv432_0;replace hv432_0:=Option.some.inj (hv432_0.symm.trans hx432_0)
                       injection hv432_0 with hva_ hvn_ hvc_
                       rw [hva_] at ge432_0;rw [hvc_] at ul432_0;have HL432_0:=Aside0.mk (show Kd.V Kd.bool 4 _ w.heap.size _ _ (rd_L11 t425 x5_1) from Kd.V_mk ul432_0 ge432_0)
                       clear hva_ hvn_ hvc_ ge432_0 ul432_0;clear hcc432 hce432;have HR432_0:=Aside0.mk hi432_0
                       clear hi432_0 hl432_0;replace p432:=eq_true p432
                       replace q432:=eq_true q432
                       have p433 : 0 ≤ (x6_2 : Int):=YA
                       have q433 : x6_2 < ((rd_L11 t425 x5_1).length : Int):=YA
                       obtain ⟨ad433,e433,hx433_0⟩:=Kd.at_bool (by repeat (first|(with_reducible exact HR432_0.out)|(with_reducible refine Kd.C_alloc ?_ _)|(with_reducible refine Kd.C_drewN ?_ _)|(with_reducible refine Kd.C_drew ?_)|exact HR432_0.out)) x6_2 p433 q433
                       cases e433;replace p433:=eq_true p433
                       replace q433:=eq_true q433
                       refine start_ (n:=12) (S:=fun w' => w'.cell? ⟨gb408,0,none⟩ = some (.string t409) ∧ w'.cell? ⟨gb408,1,none⟩ = some (.int .i64 t410) ∧ w'.cell? ⟨gb408,2,none⟩ = some (.int .i64 t411) ∧ w'.cell? ⟨gb408,3,none⟩ = some (.int .i64 t412) ∧ w'.cell? ⟨gb408,4,none⟩ = some (.slice Ao14 t413.length co14) ∧ w'.cell? (ad432.add (x5_1).toNat) = some (.slice (some ad433) (rd_L11 t425 x5_1).length c432_0) ∧ w'.cell? (ad433.add (x6_2).toNat) = some (.bool (rdOf false (rd_L11 t425 x5_1) x6_2))) (ds:=[]) #[false,false,false,false,false,false,false,false,false,false,false,false] (by kernel_rfl) rfl rfl ⟨(Z5 BK408.out 0).trans rfl,(Z5 BK408.out 1).trans rfl,(Z5 BK408.out 2).trans rfl,(Z5 BK408.out 3).trans rfl,(Z5 BK408.out 4).trans rfl,hx432_0,hx433_0⟩ (fun hHeld => ?_);refine Z74 cruciblelaw17_OrderDoms.tab14 cruciblelaw17_OrderDoms.bits14 (fun HT_ HW_ => ?_);generalize wr.drew = w35 at HO_4 HO_409004 BK408 HB HL432_0 HR432_0 hx432_0 hx433_0 hHeld ⊢;refine pure_ (i:=1) (N:=some 35) (v:=?_) (a' := ?_) #[false,true,false,false,false,false,false,false,false,false,false,false] rfl rfl (any_of HT_.out (by kernel_rfl)) (fun _ _ _ h => h) (Or.inl ⟨by rfl,?_⟩) ?_ ?_;rotate_left
                       · intro w';go_simp
                         with_reducible rfl
                       rotate_left
                       · simp only [Act.put,List.setIfInBounds_toArray,List.set_cons_zero,List.set_cons_succ,i64_w,i32_w];rfl
                       refine pure_ (i:=2) (N:=some 36) (v:=?_) (a' := ?_) #[false,true,true,false,false,false,false,false,false,false,false,false] rfl rfl (any_of HT_.out (by kernel_rfl)) (fun _ _ _ h => h) (Or.inl ⟨by rfl,?_⟩) ?_ ?_;rotate_left
                       · intro w';go_simp
                         with_reducible rfl
                       rotate_left
                       · simp only [Act.put,List.setIfInBounds_toArray,List.set_cons_zero,List.set_cons_succ,i64_w,i32_w];rfl
                       refine pure_ (i:=4) (N:=some 38) (v:=?_) (a' := ?_) #[false,true,true,false,true,false,false,false,false,false,false,false] rfl rfl (any_of HT_.out (by kernel_rfl)) (fun _ _ _ h => h) (Or.inl ⟨by rfl,?_⟩) ?_ ?_;rotate_left
                       · intro w';go_simp
                         with_reducible rfl
                       rotate_left
                       · simp only [Act.put,List.setIfInBounds_toArray,List.set_cons_zero,List.set_cons_succ,i64_w,i32_w];rfl
                       refine pure_ (i:=5) (N:=some 39) (v:=?_) (a' := ?_) #[false,true,true,false,true,true,false,false,false,false,false,false] rfl rfl (any_of HT_.out (by kernel_rfl)) (fun _ _ _ h => h) (Or.inl ⟨by rfl,?_⟩) ?_ ?_;rotate_left
                       · intro w';go_simp
                         with_reducible rfl
                       rotate_left
                       · simp only [Act.put,List.setIfInBounds_toArray,List.set_cons_zero,List.set_cons_succ,i64_w,i32_w];rfl
                       refine pure_ (i:=6) (N:=some 40) (v:=?_) (a' := ?_) #[false,true,true,false,true,true,true,false,false,false,false,false] rfl rfl (any_of HT_.out (by kernel_rfl)) (fun _ _ _ h => h) (Or.inl ⟨by rfl,?_⟩) ?_ ?_;rotate_left
                       · intro w';go_simp
                         with_reducible rfl
                       rotate_left
                       · simp only [Act.put,List.setIfInBounds_toArray,List.set_cons_zero,List.set_cons_succ,i64_w,i32_w];rfl
                       refine pure_ (i:=8) (N:=some 42) (v:=?_) (a' := ?_) #[false,true,true,false,true,true,true,false,true,false,false,false] rfl rfl (any_of HT_.out (by kernel_rfl)) (fun _ _ _ h => h) (Or.inl ⟨by rfl,?_⟩) ?_ ?_;rotate_left
                       · intro w';go_simp
                         with_reducible rfl
                       rotate_left
                       · simp only [Act.put,List.setIfInBounds_toArray,List.set_cons_zero,List.set_cons_succ,i64_w,i32_w];rfl
                       refine take_ (i:=0) (N:=some 34) (v:=?_) (a' := ?_) #[true,true,true,false,true,true,true,false,true,false,false,false] rfl rfl (Z67 HT_.out HW_.out (by kernel_rfl)) (fun _ _ _ h => h) (Or.inl ⟨by rfl,?_⟩) hHeld ?_ ?_;rotate_left
                       · rintro w' ⟨s0,s1,s2,s3,s4,s5,s6⟩;go_simp
                         with_reducible rfl
                       rotate_left
                       · simp only [Act.put,List.setIfInBounds_toArray,List.set_cons_zero,List.set_cons_succ,i64_w,i32_w];rfl
                       refine take_ (i:=7) (N:=some 41) (v:=?_) (a' := ?_) #[true,true,true,false,true,true,true,true,true,false,false,false] rfl rfl (Z67 HT_.out HW_.out (by kernel_rfl)) (fun _ _ _ h => h) (Or.inl ⟨by rfl,?_⟩) hHeld ?_ ?_;rotate_left
                       · rintro w' ⟨s0,s1,s2,s3,s4,s5,s6⟩;go_simp
                         with_reducible rfl
                       rotate_left
                       · simp only [Act.put,List.setIfInBounds_toArray,List.set_cons_zero,List.set_cons_succ,i64_w,i32_w];rfl
                       refine pure_ (i:=9) (N:=some 43) (v:=?_) (a' := ?_) #[true,true,true,false,true,true,true,true,true,true,false,false] rfl rfl (any_of HT_.out (by kernel_rfl)) (fun _ _ _ h => h) (Or.inl ⟨by rfl,?_⟩) ?_ ?_;rotate_left
                       · intro w';go_simp
                         with_reducible rfl
                       rotate_left
                       · simp only [Act.put,List.setIfInBounds_toArray,List.set_cons_zero,List.set_cons_succ,i64_w,i32_w];rfl
                       refine take_ (i:=10) (N:=some 44) (v:=?_) (a' := ?_) #[true,true,true,false,true,true,true,true,true,true,true,false] rfl rfl (Z67 HT_.out HW_.out (by kernel_rfl)) (fun _ _ _ h => h) (Or.inl ⟨by rfl,?_⟩) hHeld ?_ ?_;rotate_left
                       · rintro w' ⟨s0,s1,s2,s3,s4,s5,s6⟩;go_simp
                         with_reducible rfl
                       rotate_left
                       · simp only [Act.put,List.setIfInBounds_toArray,List.set_cons_zero,List.set_cons_succ,i64_w,i32_w];rfl
                       refine one_ (i:=3) (N:=some 37) #[true,true,true,true,true,true,true,true,true,true,true,false] rfl rfl (one_of HT_.out (by kernel_rfl)) (by decide) (fun K hK => ?_);refine goes_ Try.func18 (by kernel_rfl) rfl #[.agg #[.string t409,.int .i64 t410,.int .i64 t411,.int .i64 t412,.slice Ao14 t413.length co14],.int .i64 x5_1,.int .i64 x6_2] (by rfl) rfl rfl (by (try simp only [List.map_toArray,List.map_cons,List.map_nil]);first|done|rfl|(simp only [List.length_drop,List.length_take];rfl)) ?_
                       with_reducible refine (order_Dominates.calls k2 t409 t410 t411 t412 _ _ t413 x5_1 x6_2 t431 _ ?side1 ?side2 A27.out).mono ?_
                       (case side1 => repeat (first|exact (Kd.N_reads' HO_409004.out).2.2|(with_reducible refine Kd.C_alloc ?_ _)|(with_reducible refine Kd.C_drewN ?_ _)|(with_reducible refine Kd.C_drew ?_)));(case side2 => exact (Kd.N_reads' HO_409004.out).2.1);rintro e w36 ⟨rfl,hb⟩;have HS5_:=(hb.cell (World.block_lt_of_cell? _ _ (hHeld.2.2.2.2.2.1))).trans (hHeld.2.2.2.2.2.1)
                       have HS6_:=(hb.cell (World.block_lt_of_cell? _ _ (hHeld.2.2.2.2.2.2))).trans (hHeld.2.2.2.2.2.2)
                       refine ⟨_,rfl,?_⟩;have n0_:=Aside0.mk (Kd.N_below (YN HO_4) hb)
                       have n1_:=Aside0.mk (Kd.N_below (YN HO_409004) hb)
                       have n2_:=Aside0.mk (Kd.V_below (YV HL432_0) hb)
                       have n3_:=Aside0.mk (Z40 (YK BK408) hb)
                       have n4_:=Aside0.mk (Kd.C_below (by repeat (first|(with_reducible exact HR432_0.out)|(with_reducible refine Kd.C_alloc ?_ _)|(with_reducible refine Kd.C_drewN ?_ _)|(with_reducible refine Kd.C_drew ?_)|exact HR432_0.out)) hb)
                       have n5_:=Aside0.mk (Z25 YH hb)
                       clear HO_4;clear HO_409004;clear HL432_0;clear BK408;clear HR432_0;clear HB;have HO_4:=n0_
                       have HO_409004:=n1_
                       have HL432_0:=n2_
                       have BK408:=n3_
                       have HR432_0:=n4_
                       have HB:=n5_
                       clear n0_ n1_ n2_ n3_ n4_ n5_;(try clear hb);(try clear hb2);(try clear hk);(try clear hi);refine hK.out _ _ ⟨(Z5 BK408.out 0).trans rfl,(Z5 BK408.out 1).trans rfl,(Z5 BK408.out 2).trans rfl,(Z5 BK408.out 3).trans rfl,(Z5 BK408.out 4).trans rfl,HS5_,HS6_⟩ (fun hHeld => ?_);clear hK K;refine norm_ (a' := ?_) ?_ ?_;rotate_left
                       · show Act.put _ (some 37) _ = _
                         simp only [Act.put,List.setIfInBounds_toArray,List.set_cons_zero,List.set_cons_succ,i64_w,i32_w];rfl
                       refine pure_ (i:=11) (N:=some 45) (v:=?_) (a' := ?_) #[true,true,true,true,true,true,true,true,true,true,true,true] rfl rfl (any_of HT_.out (by kernel_rfl)) (fun _ _ _ h => h) (Or.inl ⟨by rfl,?_⟩) ?_ ?_;rotate_left
                       · intro w';go_simp
                         with_reducible rfl
                       rotate_left
                       · simp only [Act.put,List.setIfInBounds_toArray,List.set_cons_zero,List.set_cons_succ,i64_w,i32_w];rfl
                       refine done_ (Z83 HT_.out (by kernel_rfl)) ?_;try go_wp2
                       go_roundg k2
                       case measure => have:=HK1.out;have:=HK2.out;omega
                       case rel => exact ⟨(wrap64 (x6_2 + 1)),(by first|rfl|(simp;done)|(simp [*];done)),H',⟨by have:=HK1.out;have:=HK2.out;omega⟩,⟨YN HO_4⟩,⟨YN HO_409004⟩,⟨YK BK408⟩,⟨YH⟩⟩
                   · rw [if_neg c31] at H;exact absurd H (by simp)
                 · rw [if_neg c30] at H;exact absurd H (by simp)
               · rw [if_neg c29] at H;exact absurd H (by simp)
             · rw [if_neg c28] at H;exact absurd H (by simp)
           · rw [if_neg c26] at H;have c26b0 : decide (x6_2 < (t425.length : Int)) = false:=decide_eq_false c26
             clear c26;have H' := Aside0.mk H
             clear H;go_wp2
             go_roundg k2
             case measure => have:=HK1.out;have:=HK2.out;omega
             case rel => exact ⟨(wrap64 (x5_1 + 1)),(by first|rfl|(simp;done)|(simp [*];done)),H',⟨by have:=HK1.out;have:=HK2.out;omega⟩,⟨YN HO_4⟩,⟨YN HO_409004⟩,⟨YK BK408⟩,⟨YH⟩⟩
       · rw [if_neg c24] at H;have c24b0 : decide (x5_1 < (t425.length : Int)) = false:=decide_eq_false c24
         clear c24;replace H:=Option.bind_eq_some_iff.mp H
         obtain ⟨t428,A370,H⟩:=H
         replace H : (if t428 = true then (some false) else ((order_Dominates.f k1 t409 t410 t411 t412 t413 0 (t425.length : Int)).bind fun t429 => (if t429 = true then (some false) else ((cruciblelaw17_awake.f k1).bind fun t430 => (some t430))))) = some r:=H
         have A37:=Aside0.mk A370
         clear A370;by_cases c38 : t428 = true
         · subst c38;have H1 : (some false) = some r:=by rw [if_pos rfl] at H;exact H
           clear H;have H:=H1
           clear H1;obtain rfl:=Option.some.inj H
           obtain ⟨Ao39,co39,eo39⟩:=Kd.N_slice HO_4.out
           subst eo39;have hcz40_0 : wr.cell? ⟨gb408,0,none⟩ = some (.string t409):=(Z5 BK408.out 0).trans rfl
           have hcz40_1 : wr.cell? ⟨gb408,1,none⟩ = some (.int .i64 t410):=(Z5 BK408.out 1).trans rfl
           have hcz40_2 : wr.cell? ⟨gb408,2,none⟩ = some (.int .i64 t411):=(Z5 BK408.out 2).trans rfl
           have hcz40_3 : wr.cell? ⟨gb408,3,none⟩ = some (.int .i64 t412):=(Z5 BK408.out 3).trans rfl
           have hcz40_4 : wr.cell? ⟨gb408,4,none⟩ = some (.slice Ao14 t413.length co14):=(Z5 BK408.out 4).trans rfl
           go_wp2_with (first|((with_reducible refine Z14 (f:=18) rfl ?_);refine goesL_ (some 47) rfl rfl Try.func18 (by kernel_rfl) rfl #[.agg #[.string t409,.int .i64 t410,.int .i64 t411,.int .i64 t412,.slice Ao14 t413.length co14],.int .i64 (-1),.int .i64 0] rfl (by (try simp only [List.map_toArray,List.map_cons,List.map_nil]);first|done|rfl|(simp only [List.length_drop,List.length_take];rfl)) ?_;(with_reducible refine (order_Dominates.calls k1 t409 t410 t411 t412 _ _ t413 (-1) 0 true _ ?side1 ?side2 A37.out).mono ?_);(case side1 => repeat (first|exact (Kd.N_reads' HO_409004.out).2.2|(with_reducible refine Kd.C_alloc ?_ _)|(with_reducible refine Kd.C_drewN ?_ _)|(with_reducible refine Kd.C_drew ?_)));(case side2 => exact (Kd.N_reads' HO_409004.out).2.1);rintro e w41 ⟨rfl,hb⟩;refine ⟨_,rfl,?_⟩;have n0_:=Aside0.mk (Kd.N_below (YN HO_4) hb);have n1_:=Aside0.mk (Kd.N_below (YN HO_409004) hb);have n2_:=Aside0.mk (Z40 (YK BK408) hb);have n3_:=Aside0.mk (Z25 YH hb);clear HO_4;clear HO_409004;clear BK408;clear HB;have HO_4:=n0_;have HO_409004:=n1_;have BK408:=n2_;have HB:=n3_;clear n0_ n1_ n2_ n3_;(try clear hb);(try clear hb2);(try clear hk);(try clear hi)))
           go_ret
           exact ⟨by first|rfl|(simp [Z16,Z15] <;> rfl)|(simp [*,Z16,Z15] <;> rfl),by repeat (first|(with_reducible first|exact HB.out|apply Z7|apply Z4|apply Z6|refine Z8 ?_ GE408.out)|exact HB.out)⟩
         · replace c38:=Bool.eq_false_iff.mpr c38
           subst c38;have H1 : ((order_Dominates.f k1 t409 t410 t411 t412 t413 0 (t425.length : Int)).bind fun t429 => (if t429 = true then (some false) else ((cruciblelaw17_awake.f k1).bind fun t430 => (some t430)))) = some r:=by rw [if_neg (show ¬ (false = true) by decide)] at H;exact H
           clear H;have H:=H1
           clear H1;replace H:=Option.bind_eq_some_iff.mp H
           obtain ⟨t429,A420,H⟩:=H
           replace H : (if t429 = true then (some false) else ((cruciblelaw17_awake.f k1).bind fun t430 => (some t430))) = some r:=H
           have A42:=Aside0.mk A420
           clear A420;by_cases c43 : t429 = true
           · subst c43;have H1 : (some false) = some r:=by rw [if_pos rfl] at H;exact H
             clear H;have H:=H1
             clear H1;obtain rfl:=Option.some.inj H
             obtain ⟨Ao44,co44,eo44⟩:=Kd.N_slice HO_4.out
             subst eo44;have hcz45_0 : wr.cell? ⟨gb408,0,none⟩ = some (.string t409):=(Z5 BK408.out 0).trans rfl
             have hcz45_1 : wr.cell? ⟨gb408,1,none⟩ = some (.int .i64 t410):=(Z5 BK408.out 1).trans rfl
             have hcz45_2 : wr.cell? ⟨gb408,2,none⟩ = some (.int .i64 t411):=(Z5 BK408.out 2).trans rfl
             have hcz45_3 : wr.cell? ⟨gb408,3,none⟩ = some (.int .i64 t412):=(Z5 BK408.out 3).trans rfl
             have hcz45_4 : wr.cell? ⟨gb408,4,none⟩ = some (.slice Ao14 t413.length co14):=(Z5 BK408.out 4).trans rfl
             go_wp2_with (first|((with_reducible refine Z14 (f:=18) rfl ?_);refine goesL_ (some 47) rfl rfl Try.func18 (by kernel_rfl) rfl #[.agg #[.string t409,.int .i64 t410,.int .i64 t411,.int .i64 t412,.slice Ao14 t413.length co14],.int .i64 (-1),.int .i64 0] rfl (by (try simp only [List.map_toArray,List.map_cons,List.map_nil]);first|done|rfl|(simp only [List.length_drop,List.length_take];rfl)) ?_;(with_reducible refine (order_Dominates.calls k1 t409 t410 t411 t412 _ _ t413 (-1) 0 false _ ?side1 ?side2 A37.out).mono ?_);(case side1 => repeat (first|exact (Kd.N_reads' HO_409004.out).2.2|(with_reducible refine Kd.C_alloc ?_ _)|(with_reducible refine Kd.C_drewN ?_ _)|(with_reducible refine Kd.C_drew ?_)));(case side2 => exact (Kd.N_reads' HO_409004.out).2.1);rintro e w46 ⟨rfl,hb⟩;refine ⟨_,rfl,?_⟩;have n0_:=Aside0.mk (Kd.N_below (YN HO_4) hb);have n1_:=Aside0.mk (Kd.N_below (YN HO_409004) hb);have n2_:=Aside0.mk (Z40 (YK BK408) hb);have n3_:=Aside0.mk (Z25 YH hb);clear HO_4;clear HO_409004;clear BK408;clear HB;have HO_4:=n0_;have HO_409004:=n1_;have BK408:=n2_;have HB:=n3_;clear n0_ n1_ n2_ n3_;(try clear hb);(try clear hb2);(try clear hk);(try clear hi);have hcz47_0 : w46.cell? ⟨gb408,0,none⟩ = some (.string t409):=(Z5 BK408.out 0).trans rfl;have hcz47_1 : w46.cell? ⟨gb408,1,none⟩ = some (.int .i64 t410):=(Z5 BK408.out 1).trans rfl;have hcz47_2 : w46.cell? ⟨gb408,2,none⟩ = some (.int .i64 t411):=(Z5 BK408.out 2).trans rfl;have hcz47_3 : w46.cell? ⟨gb408,3,none⟩ = some (.int .i64 t412):=(Z5 BK408.out 3).trans rfl;have hcz47_4 : w46.cell? ⟨gb408,4,none⟩ = some (.slice Ao14 t413.length co14):=(Z5 BK408.out 4).trans rfl)|(go_at_call 18;(with_reducible refine (order_Dominates.calls k1 t409 t410 t411 t412 _ _ t413 0 (t425.length : Int) true _ ?side1 ?side2 A42.out).mono ?_);(case side1 => repeat (first|exact (Kd.N_reads' HO_409004.out).2.2|(with_reducible refine Kd.C_alloc ?_ _)|(with_reducible refine Kd.C_drewN ?_ _)|(with_reducible refine Kd.C_drew ?_)));(case side2 => exact (Kd.N_reads' HO_409004.out).2.1);rintro e w48 ⟨rfl,hb⟩;have n0_:=Aside0.mk (Kd.N_below (YN HO_4) hb);have n1_:=Aside0.mk (Kd.N_below (YN HO_409004) hb);have n2_:=Aside0.mk (Z40 (YK BK408) hb);have n3_:=Aside0.mk (Z25 YH hb);clear HO_4;clear HO_409004;clear BK408;clear HB;have HO_4:=n0_;have HO_409004:=n1_;have BK408:=n2_;have HB:=n3_;clear n0_ n1_ n2_ n3_;(try clear hb);(try clear hb2);(try clear hk);(try clear hi)))
             go_ret
             exact ⟨by first|rfl|(simp [Z16,Z15] <;> rfl)|(simp [*,Z16,Z15] <;> rfl),by repeat (first|(with_reducible first|exact HB.out|apply Z7|apply Z4|apply Z6|refine Z8 ?_ GE408.out)|exact HB.out)⟩
           · replace c43:=Bool.eq_false_iff.mpr c43
             subst c43;have H1 : ((cruciblelaw17_awake.f k1).bind fun t430 => (some t430)) = some r:=by rw [if_neg (show ¬ (false = true) by decide)] at H;exact H
             clear H;have H:=H1
             clear H1;replace H:=Option.bind_eq_some_iff.mp H
             obtain ⟨t430,A490,H⟩:=H
             replace H : (some t430) = some r:=H
             have A49:=Aside0.mk A490
             clear A490;obtain rfl:=Option.some.inj H
             obtain ⟨Ao50,co50,eo50⟩:=Kd.N_slice HO_4.out
             subst eo50;have hcz51_0 : wr.cell? ⟨gb408,0,none⟩ = some (.string t409):=(Z5 BK408.out 0).trans rfl
             have hcz51_1 : wr.cell? ⟨gb408,1,none⟩ = some (.int .i64 t410):=(Z5 BK408.out 1).trans rfl
             have hcz51_2 : wr.cell? ⟨gb408,2,none⟩ = some (.int .i64 t411):=(Z5 BK408.out 2).trans rfl
             have hcz51_3 : wr.cell? ⟨gb408,3,none⟩ = some (.int .i64 t412):=(Z5 BK408.out 3).trans rfl
             have hcz51_4 : wr.cell? ⟨gb408,4,none⟩ = some (.slice Ao14 t413.length co14):=(Z5 BK408.out 4).trans rfl
             go_wp2_with (first|((with_reducible refine Z14 (f:=18) rfl ?_);refine goesL_ (some 47) rfl rfl Try.func18 (by kernel_rfl) rfl #[.agg #[.string t409,.int .i64 t410,.int .i64 t411,.int .i64 t412,.slice Ao14 t413.length co14],.int .i64 (-1),.int .i64 0] rfl (by (try simp only [List.map_toArray,List.map_cons,List.map_nil]);first|done|rfl|(simp only [List.length_drop,List.length_take];rfl)) ?_;(with_reducible refine (order_Dominates.calls k1 t409 t410 t411 t412 _ _ t413 (-1) 0 false _ ?side1 ?side2 A37.out).mono ?_);(case side1 => repeat (first|exact (Kd.N_reads' HO_409004.out).2.2|(with_reducible refine Kd.C_alloc ?_ _)|(with_reducible refine Kd.C_drewN ?_ _)|(with_reducible refine Kd.C_drew ?_)));(case side2 => exact (Kd.N_reads' HO_409004.out).2.1);rintro e w52 ⟨rfl,hb⟩;refine ⟨_,rfl,?_⟩;have n0_:=Aside0.mk (Kd.N_below (YN HO_4) hb);have n1_:=Aside0.mk (Kd.N_below (YN HO_409004) hb);have n2_:=Aside0.mk (Z40 (YK BK408) hb);have n3_:=Aside0.mk (Z25 YH hb);clear HO_4;clear HO_409004;clear BK408;clear HB;have HO_4:=n0_;have HO_409004:=n1_;have BK408:=n2_;have HB:=n3_;clear n0_ n1_ n2_ n3_;(try clear hb);(try clear hb2);(try clear hk);(try clear hi);have hcz53_0 : w52.cell? ⟨gb408,0,none⟩ = some (.string t409):=(Z5 BK408.out 0).trans rfl;have hcz53_1 : w52.cell? ⟨gb408,1,none⟩ = some (.int .i64 t410):=(Z5 BK408.out 1).trans rfl;have hcz53_2 : w52.cell? ⟨gb408,2,none⟩ = some (.int .i64 t411):=(Z5 BK408.out 2).trans rfl;have hcz53_3 : w52.cell? ⟨gb408,3,none⟩ = some (.int .i64 t412):=(Z5 BK408.out 3).trans rfl;have hcz53_4 : w52.cell? ⟨gb408,4,none⟩ = some (.slice Ao14 t413.length co14):=(Z5 BK408.out 4).trans rfl)|(go_at_call 18;(with_reducible refine (order_Dominates.calls k1 t409 t410 t411 t412 _ _ t413 0 (t425.length : Int) false _ ?side1 ?side2 A42.out).mono ?_);(case side1 => repeat (first|exact (Kd.N_reads' HO_409004.out).2.2|(with_reducible refine Kd.C_alloc ?_ _)|(with_reducible refine Kd.C_drewN ?_ _)|(with_reducible refine Kd.C_drew ?_)));(case side2 => exact (Kd.N_reads' HO_409004.out).2.1);rintro e w54 ⟨rfl,hb⟩;have n0_:=Aside0.mk (Kd.N_below (YN HO_4) hb);have n1_:=Aside0.mk (Kd.N_below (YN HO_409004) hb);have n2_:=Aside0.mk (Z40 (YK BK408) hb);have n3_:=Aside0.mk (Z25 YH hb);clear HO_4;clear HO_409004;clear BK408;clear HB;have HO_4:=n0_;have HO_409004:=n1_;have BK408:=n2_;have HB:=n3_;clear n0_ n1_ n2_ n3_;(try clear hb);(try clear hb2);(try clear hk);(try clear hi))|(go_at_call 12;(with_reducible refine (cruciblelaw17_awake.calls k1  t430 _ A49.out).mono ?_);rintro e w55 ⟨rfl,hb⟩;have n0_:=Aside0.mk (Kd.N_below (YN HO_4) hb);have n1_:=Aside0.mk (Kd.N_below (YN HO_409004) hb);have n2_:=Aside0.mk (Z40 (YK BK408) hb);have n3_:=Aside0.mk (Z25 YH hb);clear HO_4;clear HO_409004;clear BK408;clear HB;have HO_4:=n0_;have HO_409004:=n1_;have BK408:=n2_;have HB:=n3_;clear n0_ n1_ n2_ n3_;(try clear hb);(try clear hb2);(try clear hk);(try clear hi)))
             go_ret
             exact ⟨by first|rfl|(simp [Z16,Z15] <;> rfl)|(simp [*,Z16,Z15] <;> rfl),by repeat (first|(with_reducible first|exact HB.out|apply Z7|apply Z4|apply Z6|refine Z8 ?_ GE408.out)|exact HB.out)⟩
   · replace c8:=Bool.eq_false_iff.mpr c8
     subst c8;have H1 : (some false) = some r:=by rw [if_neg (show ¬ (false = true) by decide)] at H;exact H
     clear H;have H:=H1
     clear H1;obtain rfl:=Option.some.inj H
     go_enter Try.func4,Try.ntmps4
     go_wp2_with (first|((with_reducible refine Z52 (N:=1) rfl ?_);(try (refine Z66 (by rfl) ?_;dsimp only));refine Z51 ?hg (N:=1) ?hd (cs:=#[.string a0_0,.int .i64 a0_1,.int .i64 a0_2,.int .i64 a0_3,.slice A0_4 l0_4.length c0_4]) (t:=24) ?hr ?_;(case hd => rfl);(case hg => rfl);(case hr => first|(go_simp;done)|(go_simp;rfl));intro gb408 hg w56 hbox hb;have n0_:=Aside0.mk (Z25 YH hb);have n1_:=Aside0.mk (hbox);have n2_:=Aside0.mk ((by rw [hg];exact (Z27 YH) : w.heap.size ≤ gb408));have n3_:=Aside0.mk ((by rw [hg];exact (Z27 YH) : w.heap.size ≤ gb408));clear HB;have HB:=n0_;have BK408:=n1_;have GW408:=n2_;have GE408:=n3_;clear n0_ n1_ n2_ n3_;clear hb hbox hg;have hcz57_0 : w56.cell? ⟨gb408,0,none⟩ = some (.string a0_0):=(Z5 BK408.out 0).trans rfl;have hcz57_1 : w56.cell? ⟨gb408,1,none⟩ = some (.int .i64 a0_1):=(Z5 BK408.out 1).trans rfl;have hcz57_2 : w56.cell? ⟨gb408,2,none⟩ = some (.int .i64 a0_2):=(Z5 BK408.out 2).trans rfl;have hcz57_3 : w56.cell? ⟨gb408,3,none⟩ = some (.int .i64 a0_3):=(Z5 BK408.out 3).trans rfl;have hcz57_4 : w56.cell? ⟨gb408,4,none⟩ = some (.slice A0_4 l0_4.length c0_4):=(Z5 BK408.out 4).trans rfl)|((with_reducible refine Z14 (f:=9) rfl ?_);refine goesL_ (some 8) rfl rfl Try.func9 (by kernel_rfl) rfl #[.agg #[.string a0_0,.int .i64 a0_1,.int .i64 a0_2,.int .i64 a0_3,.slice A0_4 l0_4.length c0_4]] rfl (by (try simp only [List.map_toArray,List.map_cons,List.map_nil]);first|done|rfl|(simp only [List.length_drop,List.length_take];rfl)) ?_;(with_reducible refine (cruciblelaw17_bare.calls k a0_0 a0_1 a0_2 a0_3 (fun k_ => k_ < w.heap.size) _ _ l0_4 t409 t410 t411 t412 t413 _ ?side1 A2.out).mono ?_);(case side1 => exact Kd.V_mk HC0_4.out (Kd.F_below (Kd.C_F k45_heap HR0_4.out) YH));rintro e w58 ⟨v414,rfl,ho0,hb⟩;refine ⟨_,rfl,?_⟩;have n0_:=Aside0.mk (Kd.N_lower (Kd.N_mono (ok' := fun k_ => k_ ≠ gb408) ho0 (fun k_ hk_ => Or.elim hk_ (fun hs_ => fun e_ => Nat.not_le.2 hs_ (by rw [e_];exact GW408.out)) (fun hn_ => (Kd.freshB (YK BK408) k_ hn_)))) (Z27 YH));have n1_:=Aside0.mk (Z40 (YK BK408) hb);have n2_:=Aside0.mk (Z25 YH hb);clear BK408;clear HB;have HO415:=n0_;have BK408:=n1_;have HB:=n2_;clear n0_ n1_ n2_;(try clear hb);(try clear hb2);(try clear hk);(try clear hi);(try clear ho0);have hcz59_0 : w58.cell? ⟨gb408,0,none⟩ = some (.string a0_0):=(Z5 BK408.out 0).trans rfl;have hcz59_1 : w58.cell? ⟨gb408,1,none⟩ = some (.int .i64 a0_1):=(Z5 BK408.out 1).trans rfl;have hcz59_2 : w58.cell? ⟨gb408,2,none⟩ = some (.int .i64 a0_2):=(Z5 BK408.out 2).trans rfl;have hcz59_3 : w58.cell? ⟨gb408,3,none⟩ = some (.int .i64 a0_3):=(Z5 BK408.out 3).trans rfl;have hcz59_4 : w58.cell? ⟨gb408,4,none⟩ = some (.slice A0_4 l0_4.length c0_4):=(Z5 BK408.out 4).trans rfl;have hfz59_0:=Z2 BK408.out 0;have hfz59_1:=Z2 BK408.out 1;have hfz59_2:=Z2 BK408.out 2;have hfz59_3:=Z2 BK408.out 3;have hfz59_4:=Z2 BK408.out 4;obtain ⟨Ao60,co60,eo60⟩:=Kd.N_slice HO415.out;subst eo60)|((with_reducible refine Z14 (f:=15) rfl ?_);refine goesL_ (some 10) rfl rfl Try.func15 (by kernel_rfl) rfl #[.agg #[.string t409,.int .i64 t410,.int .i64 t411,.int .i64 t412,.slice Ao60 t413.length co60]] rfl (by (try simp only [List.map_toArray,List.map_cons,List.map_nil]);first|done|rfl|(simp only [List.length_drop,List.length_take];rfl)) ?_;(with_reducible refine (order_Doms.calls k t409 t410 t411 t412 _ _ t413 t416 _ ?side1 ?side2 A3.out).mono ?_);(case side1 => refine (Kd.N_reads' (e:=45) (base:=w.heap.size) (ok:=fun k_ => k_ ≠ gb408) (n:=t413.length) (c:=co60) ?_).2.2;exact (by (with_reducible repeat (first|apply Kd.N_alloc|apply Kd.N_drewN|apply Kd.N_drew));exact (Kd.N_mono (Kd.N_far (p:=⟨gb408,4,none⟩) (Kd.N_far (p:=⟨gb408,3,none⟩) (Kd.N_far (p:=⟨gb408,2,none⟩) (Kd.N_far (p:=⟨gb408,1,none⟩) (Kd.N_far (p:=⟨gb408,0,none⟩) (Kd.N_mono HO415.out (fun k_ hk => (⟨hk,hk⟩ : _ ∧ k_ ≠ gb408))) (fun _ hk => hk.2) (.string t409)) (fun _ hk => hk.2) (.int .i64 t410)) (fun _ hk => hk.2) (.int .i64 t411)) (fun _ hk => hk.2) (.int .i64 t412)) (fun _ hk => hk.2) (.slice Ao60 t413.length co60)) (fun _ h_ => h_.1))));(case side2 => exact (Kd.N_reads' HO415.out).2.1);rintro e w61 ⟨v417,rfl,ho0,hb⟩;refine ⟨_,rfl,?_⟩;have n0_:=Aside0.mk (Kd.N_elder' (by (with_reducible repeat (first|apply Kd.N_alloc|apply Kd.N_drewN|apply Kd.N_drew));exact (Kd.N_mono (Kd.N_far (p:=⟨gb408,4,none⟩) (Kd.N_far (p:=⟨gb408,3,none⟩) (Kd.N_far (p:=⟨gb408,2,none⟩) (Kd.N_far (p:=⟨gb408,1,none⟩) (Kd.N_far (p:=⟨gb408,0,none⟩) (Kd.N_mono HO415.out (fun k_ hk => (⟨hk,hk⟩ : _ ∧ k_ ≠ gb408))) (fun _ hk => hk.2) (.string t409)) (fun _ hk => hk.2) (.int .i64 t410)) (fun _ hk => hk.2) (.int .i64 t411)) (fun _ hk => hk.2) (.int .i64 t412)) (fun _ hk => hk.2) (.slice Ao60 t413.length co60)) (fun _ h_ => h_.1))) (Kd.R_base ho0) hb);have n1_:=Aside0.mk (Kd.R_lower ho0 (Z27 YH));have n2_:=Aside0.mk (Z40 (g:=gb408) (o:=.cells #[.string t409,.int .i64 t410,.int .i64 t411,.int .i64 t412,.slice Ao60 t413.length co60] 24 (0,0)) (by (with_reducible repeat (first|refine Z0 ?_ _|refine Z3 ?_|refine Z1 ?_ _));refine Z9 (cs:=#[.string t409,.int .i64 t410,.int .i64 t411,.int .i64 t412,.slice A0_4 l0_4.length c0_4]) ?_ 4 _ rfl;(with_reducible repeat (first|refine Z0 ?_ _|refine Z3 ?_|refine Z1 ?_ _));refine Z9 (cs:=#[.string t409,.int .i64 t410,.int .i64 t411,.int .i64 a0_3,.slice A0_4 l0_4.length c0_4]) ?_ 3 _ rfl;(with_reducible repeat (first|refine Z0 ?_ _|refine Z3 ?_|refine Z1 ?_ _));refine Z9 (cs:=#[.string t409,.int .i64 t410,.int .i64 a0_2,.int .i64 a0_3,.slice A0_4 l0_4.length c0_4]) ?_ 2 _ rfl;(with_reducible repeat (first|refine Z0 ?_ _|refine Z3 ?_|refine Z1 ?_ _));refine Z9 (cs:=#[.string t409,.int .i64 a0_1,.int .i64 a0_2,.int .i64 a0_3,.slice A0_4 l0_4.length c0_4]) ?_ 1 _ rfl;(with_reducible repeat (first|refine Z0 ?_ _|refine Z3 ?_|refine Z1 ?_ _));refine Z9 (cs:=#[.string a0_0,.int .i64 a0_1,.int .i64 a0_2,.int .i64 a0_3,.slice A0_4 l0_4.length c0_4]) ?_ 0 _ rfl;(with_reducible repeat (first|refine Z0 ?_ _|refine Z3 ?_|refine Z1 ?_ _));exact BK408.out) hb);have n3_:=Aside0.mk (Z25 YH hb);clear HO415;clear BK408;clear HB;have HO415:=n0_;have HO418:=n1_;have BK408:=n2_;have HB:=n3_;clear n0_ n1_ n2_ n3_;(try clear hb);(try clear hb2);(try clear hk);(try clear hi);(try clear ho0);have hcz62_0 : w61.cell? ⟨gb408,0,none⟩ = some (.string t409):=(Z5 BK408.out 0).trans rfl;have hcz62_1 : w61.cell? ⟨gb408,1,none⟩ = some (.int .i64 t410):=(Z5 BK408.out 1).trans rfl;have hcz62_2 : w61.cell? ⟨gb408,2,none⟩ = some (.int .i64 t411):=(Z5 BK408.out 2).trans rfl;have hcz62_3 : w61.cell? ⟨gb408,3,none⟩ = some (.int .i64 t412):=(Z5 BK408.out 3).trans rfl;have hcz62_4 : w61.cell? ⟨gb408,4,none⟩ = some (.slice Ao60 t413.length co60):=(Z5 BK408.out 4).trans rfl)|((with_reducible refine Z14 (f:=11) rfl ?_);refine goesL_ (some 12) rfl rfl Try.func11 (by kernel_rfl) rfl #[.agg #[.string t409,.int .i64 t410,.int .i64 t411,.int .i64 t412,.slice Ao60 t413.length co60]] rfl (by (try simp only [List.map_toArray,List.map_cons,List.map_nil]);first|done|rfl|(simp only [List.length_drop,List.length_take];rfl)) ?_;(with_reducible refine (cruciblelaw17_May.calls k t409 t410 t411 t412 _ _ t413 true _ ?side1 ?side2 A4.out).mono ?_);(case side1 => repeat (first|exact (Kd.N_reads' HO415.out).2.2|(with_reducible refine Kd.C_alloc ?_ _)|(with_reducible refine Kd.C_drewN ?_ _)|(with_reducible refine Kd.C_drew ?_)));(case side2 => exact (Kd.N_reads' HO415.out).2.1);rintro e w63 ⟨rfl,hb⟩;refine ⟨_,rfl,?_⟩;have n0_:=Aside0.mk (Kd.N_below (YN HO415) hb);have n1_:=Aside0.mk (Kd.R_below (YR HO418) hb);have n2_:=Aside0.mk (Z40 (YK BK408) hb);have n3_:=Aside0.mk (Z25 YH hb);clear HO415;clear HO418;clear BK408;clear HB;have HO415:=n0_;have HO418:=n1_;have BK408:=n2_;have HB:=n3_;clear n0_ n1_ n2_ n3_;(try clear hb);(try clear hb2);(try clear hk);(try clear hi);have hcz64_0 : w63.cell? ⟨gb408,0,none⟩ = some (.string t409):=(Z5 BK408.out 0).trans rfl;have hcz64_1 : w63.cell? ⟨gb408,1,none⟩ = some (.int .i64 t410):=(Z5 BK408.out 1).trans rfl;have hcz64_2 : w63.cell? ⟨gb408,2,none⟩ = some (.int .i64 t411):=(Z5 BK408.out 2).trans rfl;have hcz64_3 : w63.cell? ⟨gb408,3,none⟩ = some (.int .i64 t412):=(Z5 BK408.out 3).trans rfl;have hcz64_4 : w63.cell? ⟨gb408,4,none⟩ = some (.slice Ao60 t413.length co60):=(Z5 BK408.out 4).trans rfl)|((with_reducible refine Z14 (f:=16) rfl ?_);refine goesL_ (some 17) rfl rfl Try.func16 (by kernel_rfl) rfl #[.agg #[.string t409,.int .i64 t410,.int .i64 t411,.int .i64 t412,.slice Ao60 t413.length co60]] rfl (by (try simp only [List.map_toArray,List.map_cons,List.map_nil]);first|done|rfl|(simp only [List.length_drop,List.length_take];rfl)) ?_;(with_reducible refine (crucibleref17_Doms.calls k t409 t410 t411 t412 _ _ t413 t421 _ ?side1 ?side2 A6.out).mono ?_);(case side1 => repeat (first|exact (Kd.N_reads' HO415.out).2.2|(with_reducible refine Kd.C_alloc ?_ _)|(with_reducible refine Kd.C_drewN ?_ _)|(with_reducible refine Kd.C_drew ?_)));(case side2 => exact (Kd.N_reads' HO415.out).2.1);rintro e w65 ⟨v422,rfl,ho0,hb⟩;refine ⟨_,rfl,?_⟩;have n0_:=Aside0.mk (Kd.N_elder' (YN HO415) (Kd.R_base ho0) hb);have n1_:=Aside0.mk (Kd.R_elder' (YR HO418) (Kd.R_base ho0) hb);have n2_:=Aside0.mk (Kd.R_lower (Kd.R_new' ho0 (Kd.R_lt (YR HO418))) (Z27 YH));have n3_:=Aside0.mk (Z40 (YK BK408) hb);have n4_:=Aside0.mk (Z25 YH hb);clear HO415;clear HO418;clear BK408;clear HB;have HO415:=n0_;have HO418:=n1_;have HO423:=n2_;have BK408:=n3_;have HB:=n4_;clear n0_ n1_ n2_ n3_ n4_;(try clear hb);(try clear hb2);(try clear hk);(try clear hi);(try clear ho0);obtain ⟨Ao66,co66,eo66⟩:=Kd.R_slice HO418.out;subst eo66;obtain ⟨Ao67,co67,eo67⟩:=Kd.R_slice HO423.out;subst eo67)|((with_reducible refine Z14 (f:=13) rfl ?_);refine goesL_ (some 18) rfl rfl Try.func13 (by kernel_rfl) rfl #[.slice Ao66 t416.length co66,.slice Ao67 t421.length co67] rfl (by (try simp only [List.map_toArray,List.map_cons,List.map_nil]);first|done|rfl|(simp only [List.length_drop,List.length_take];rfl)) ?_;(with_reducible refine (crucibleref14_SameInts.calls k _ _ t416 _ _ t421 false _ ?side1 ?side2 ?side3 ?side4 A7.out).mono ?_);(case side1 => repeat (first|exact (Kd.R_reads' HO418.out).2.2|(with_reducible refine Kd.C_alloc ?_ _)|(with_reducible refine Kd.C_drewN ?_ _)|(with_reducible refine Kd.C_drew ?_)));(case side2 => exact (Kd.R_reads' HO418.out).2.1);(case side3 => repeat (first|exact (Kd.R_reads' HO423.out).2.2|(with_reducible refine Kd.C_alloc ?_ _)|(with_reducible refine Kd.C_drewN ?_ _)|(with_reducible refine Kd.C_drew ?_)));(case side4 => exact (Kd.R_reads' HO423.out).2.1);rintro e w' ⟨rfl,⟨nd,rfl⟩⟩;refine ⟨_,rfl,?_⟩))
     go_ret
     exact ⟨by first|rfl|(simp [Z16,Z15] <;> rfl)|(simp [*,Z16,Z15] <;> rfl),by repeat (first|(with_reducible first|exact HB.out|apply Z7|apply Z4|apply Z6|refine Z8 ?_ GE408.out)|exact HB.out)⟩
 · replace c5:=Bool.eq_false_iff.mpr c5
   subst c5;have H1 : ((cruciblelaw17_awake.f k).bind fun t420 => (some t420)) = some r:=by rw [if_neg (show ¬ (false = true) by decide)] at H;exact H
   clear H;have H:=H1
   clear H1;replace H:=Option.bind_eq_some_iff.mp H
   obtain ⟨t420,A680,H⟩:=H
   replace H : (some t420) = some r:=H
   have A68:=Aside0.mk A680
   clear A680;obtain rfl:=Option.some.inj H
   go_enter Try.func4,Try.ntmps4
   go_wp2_with (first|((with_reducible refine Z52 (N:=1) rfl ?_);(try (refine Z66 (by rfl) ?_;dsimp only));refine Z51 ?hg (N:=1) ?hd (cs:=#[.string a0_0,.int .i64 a0_1,.int .i64 a0_2,.int .i64 a0_3,.slice A0_4 l0_4.length c0_4]) (t:=24) ?hr ?_;(case hd => rfl);(case hg => rfl);(case hr => first|(go_simp;done)|(go_simp;rfl));intro gb408 hg w69 hbox hb;have n0_:=Aside0.mk (Z25 YH hb);have n1_:=Aside0.mk (hbox);have n2_:=Aside0.mk ((by rw [hg];exact (Z27 YH) : w.heap.size ≤ gb408));have n3_:=Aside0.mk ((by rw [hg];exact (Z27 YH) : w.heap.size ≤ gb408));clear HB;have HB:=n0_;have BK408:=n1_;have GW408:=n2_;have GE408:=n3_;clear n0_ n1_ n2_ n3_;clear hb hbox hg;have hcz70_0 : w69.cell? ⟨gb408,0,none⟩ = some (.string a0_0):=(Z5 BK408.out 0).trans rfl;have hcz70_1 : w69.cell? ⟨gb408,1,none⟩ = some (.int .i64 a0_1):=(Z5 BK408.out 1).trans rfl;have hcz70_2 : w69.cell? ⟨gb408,2,none⟩ = some (.int .i64 a0_2):=(Z5 BK408.out 2).trans rfl;have hcz70_3 : w69.cell? ⟨gb408,3,none⟩ = some (.int .i64 a0_3):=(Z5 BK408.out 3).trans rfl;have hcz70_4 : w69.cell? ⟨gb408,4,none⟩ = some (.slice A0_4 l0_4.length c0_4):=(Z5 BK408.out 4).trans rfl)|((with_reducible refine Z14 (f:=9) rfl ?_);refine goesL_ (some 8) rfl rfl Try.func9 (by kernel_rfl) rfl #[.agg #[.string a0_0,.int .i64 a0_1,.int .i64 a0_2,.int .i64 a0_3,.slice A0_4 l0_4.length c0_4]] rfl (by (try simp only [List.map_toArray,List.map_cons,List.map_nil]);first|done|rfl|(simp only [List.length_drop,List.length_take];rfl)) ?_;(with_reducible refine (cruciblelaw17_bare.calls k a0_0 a0_1 a0_2 a0_3 (fun k_ => k_ < w.heap.size) _ _ l0_4 t409 t410 t411 t412 t413 _ ?side1 A2.out).mono ?_);(case side1 => exact Kd.V_mk HC0_4.out (Kd.F_below (Kd.C_F k45_heap HR0_4.out) YH));rintro e w71 ⟨v414,rfl,ho0,hb⟩;refine ⟨_,rfl,?_⟩;have n0_:=Aside0.mk (Kd.N_lower (Kd.N_mono (ok' := fun k_ => k_ ≠ gb408) ho0 (fun k_ hk_ => Or.elim hk_ (fun hs_ => fun e_ => Nat.not_le.2 hs_ (by rw [e_];exact GW408.out)) (fun hn_ => (Kd.freshB (YK BK408) k_ hn_)))) (Z27 YH));have n1_:=Aside0.mk (Z40 (YK BK408) hb);have n2_:=Aside0.mk (Z25 YH hb);clear BK408;clear HB;have HO415:=n0_;have BK408:=n1_;have HB:=n2_;clear n0_ n1_ n2_;(try clear hb);(try clear hb2);(try clear hk);(try clear hi);(try clear ho0);have hcz72_0 : w71.cell? ⟨gb408,0,none⟩ = some (.string a0_0):=(Z5 BK408.out 0).trans rfl;have hcz72_1 : w71.cell? ⟨gb408,1,none⟩ = some (.int .i64 a0_1):=(Z5 BK408.out 1).trans rfl;have hcz72_2 : w71.cell? ⟨gb408,2,none⟩ = some (.int .i64 a0_2):=(Z5 BK408.out 2).trans rfl;have hcz72_3 : w71.cell? ⟨gb408,3,none⟩ = some (.int .i64 a0_3):=(Z5 BK408.out 3).trans rfl;have hcz72_4 : w71.cell? ⟨gb408,4,none⟩ = some (.slice A0_4 l0_4.length c0_4):=(Z5 BK408.out 4).trans rfl;have hfz72_0:=Z2 BK408.out 0;have hfz72_1:=Z2 BK408.out 1;have hfz72_2:=Z2 BK408.out 2;have hfz72_3:=Z2 BK408.out 3;have hfz72_4:=Z2 BK408.out 4;obtain ⟨Ao73,co73,eo73⟩:=Kd.N_slice HO415.out;subst eo73)|((with_reducible refine Z14 (f:=15) rfl ?_);refine goesL_ (some 10) rfl rfl Try.func15 (by kernel_rfl) rfl #[.agg #[.string t409,.int .i64 t410,.int .i64 t411,.int .i64 t412,.slice Ao73 t413.length co73]] rfl (by (try simp only [List.map_toArray,List.map_cons,List.map_nil]);first|done|rfl|(simp only [List.length_drop,List.length_take];rfl)) ?_;(with_reducible refine (order_Doms.calls k t409 t410 t411 t412 _ _ t413 t416 _ ?side1 ?side2 A3.out).mono ?_);(case side1 => refine (Kd.N_reads' (e:=45) (base:=w.heap.size) (ok:=fun k_ => k_ ≠ gb408) (n:=t413.length) (c:=co73) ?_).2.2;exact (by (with_reducible repeat (first|apply Kd.N_alloc|apply Kd.N_drewN|apply Kd.N_drew));exact (Kd.N_mono (Kd.N_far (p:=⟨gb408,4,none⟩) (Kd.N_far (p:=⟨gb408,3,none⟩) (Kd.N_far (p:=⟨gb408,2,none⟩) (Kd.N_far (p:=⟨gb408,1,none⟩) (Kd.N_far (p:=⟨gb408,0,none⟩) (Kd.N_mono HO415.out (fun k_ hk => (⟨hk,hk⟩ : _ ∧ k_ ≠ gb408))) (fun _ hk => hk.2) (.string t409)) (fun _ hk => hk.2) (.int .i64 t410)) (fun _ hk => hk.2) (.int .i64 t411)) (fun _ hk => hk.2) (.int .i64 t412)) (fun _ hk => hk.2) (.slice Ao73 t413.length co73)) (fun _ h_ => h_.1))));(case side2 => exact (Kd.N_reads' HO415.out).2.1);rintro e w74 ⟨v417,rfl,ho0,hb⟩;refine ⟨_,rfl,?_⟩;have n0_:=Aside0.mk (Kd.N_elder' (by (with_reducible repeat (first|apply Kd.N_alloc|apply Kd.N_drewN|apply Kd.N_drew));exact (Kd.N_mono (Kd.N_far (p:=⟨gb408,4,none⟩) (Kd.N_far (p:=⟨gb408,3,none⟩) (Kd.N_far (p:=⟨gb408,2,none⟩) (Kd.N_far (p:=⟨gb408,1,none⟩) (Kd.N_far (p:=⟨gb408,0,none⟩) (Kd.N_mono HO415.out (fun k_ hk => (⟨hk,hk⟩ : _ ∧ k_ ≠ gb408))) (fun _ hk => hk.2) (.string t409)) (fun _ hk => hk.2) (.int .i64 t410)) (fun _ hk => hk.2) (.int .i64 t411)) (fun _ hk => hk.2) (.int .i64 t412)) (fun _ hk => hk.2) (.slice Ao73 t413.length co73)) (fun _ h_ => h_.1))) (Kd.R_base ho0) hb);have n1_:=Aside0.mk (Kd.R_lower ho0 (Z27 YH));have n2_:=Aside0.mk (Z40 (g:=gb408) (o:=.cells #[.string t409,.int .i64 t410,.int .i64 t411,.int .i64 t412,.slice Ao73 t413.length co73] 24 (0,0)) (by (with_reducible repeat (first|refine Z0 ?_ _|refine Z3 ?_|refine Z1 ?_ _));refine Z9 (cs:=#[.string t409,.int .i64 t410,.int .i64 t411,.int .i64 t412,.slice A0_4 l0_4.length c0_4]) ?_ 4 _ rfl;(with_reducible repeat (first|refine Z0 ?_ _|refine Z3 ?_|refine Z1 ?_ _));refine Z9 (cs:=#[.string t409,.int .i64 t410,.int .i64 t411,.int .i64 a0_3,.slice A0_4 l0_4.length c0_4]) ?_ 3 _ rfl;(with_reducible repeat (first|refine Z0 ?_ _|refine Z3 ?_|refine Z1 ?_ _));refine Z9 (cs:=#[.string t409,.int .i64 t410,.int .i64 a0_2,.int .i64 a0_3,.slice A0_4 l0_4.length c0_4]) ?_ 2 _ rfl;(with_reducible repeat (first|refine Z0 ?_ _|refine Z3 ?_|refine Z1 ?_ _));refine Z9 (cs:=#[.string t409,.int .i64 a0_1,.int .i64 a0_2,.int .i64 a0_3,.slice A0_4 l0_4.length c0_4]) ?_ 1 _ rfl;(with_reducible repeat (first|refine Z0 ?_ _|refine Z3 ?_|refine Z1 ?_ _));refine Z9 (cs:=#[.string a0_0,.int .i64 a0_1,.int .i64 a0_2,.int .i64 a0_3,.slice A0_4 l0_4.length c0_4]) ?_ 0 _ rfl;(with_reducible repeat (first|refine Z0 ?_ _|refine Z3 ?_|refine Z1 ?_ _));exact BK408.out) hb);have n3_:=Aside0.mk (Z25 YH hb);clear HO415;clear BK408;clear HB;have HO415:=n0_;have HO418:=n1_;have BK408:=n2_;have HB:=n3_;clear n0_ n1_ n2_ n3_;(try clear hb);(try clear hb2);(try clear hk);(try clear hi);(try clear ho0);have hcz75_0 : w74.cell? ⟨gb408,0,none⟩ = some (.string t409):=(Z5 BK408.out 0).trans rfl;have hcz75_1 : w74.cell? ⟨gb408,1,none⟩ = some (.int .i64 t410):=(Z5 BK408.out 1).trans rfl;have hcz75_2 : w74.cell? ⟨gb408,2,none⟩ = some (.int .i64 t411):=(Z5 BK408.out 2).trans rfl;have hcz75_3 : w74.cell? ⟨gb408,3,none⟩ = some (.int .i64 t412):=(Z5 BK408.out 3).trans rfl;have hcz75_4 : w74.cell? ⟨gb408,4,none⟩ = some (.slice Ao73 t413.length co73):=(Z5 BK408.out 4).trans rfl)|((with_reducible refine Z14 (f:=11) rfl ?_);refine goesL_ (some 12) rfl rfl Try.func11 (by kernel_rfl) rfl #[.agg #[.string t409,.int .i64 t410,.int .i64 t411,.int .i64 t412,.slice Ao73 t413.length co73]] rfl (by (try simp only [List.map_toArray,List.map_cons,List.map_nil]);first|done|rfl|(simp only [List.length_drop,List.length_take];rfl)) ?_;(with_reducible refine (cruciblelaw17_May.calls k t409 t410 t411 t412 _ _ t413 false _ ?side1 ?side2 A4.out).mono ?_);(case side1 => repeat (first|exact (Kd.N_reads' HO415.out).2.2|(with_reducible refine Kd.C_alloc ?_ _)|(with_reducible refine Kd.C_drewN ?_ _)|(with_reducible refine Kd.C_drew ?_)));(case side2 => exact (Kd.N_reads' HO415.out).2.1);rintro e w76 ⟨rfl,hb⟩;refine ⟨_,rfl,?_⟩;have n0_:=Aside0.mk (Kd.N_below (YN HO415) hb);have n1_:=Aside0.mk (Kd.R_below (YR HO418) hb);have n2_:=Aside0.mk (Z40 (YK BK408) hb);have n3_:=Aside0.mk (Z25 YH hb);clear HO415;clear HO418;clear BK408;clear HB;have HO415:=n0_;have HO418:=n1_;have BK408:=n2_;have HB:=n3_;clear n0_ n1_ n2_ n3_;(try clear hb);(try clear hb2);(try clear hk);(try clear hi))|((with_reducible refine Z14 (f:=12) rfl ?_);refine goesL_ (some 14) rfl rfl Try.func12 (by kernel_rfl) rfl #[] rfl (by (try simp only [List.map_toArray,List.map_cons,List.map_nil]);first|done|rfl|(simp only [List.length_drop,List.length_take];rfl)) ?_;(with_reducible refine (cruciblelaw17_awake.calls k  t420 _ A68.out).mono ?_);rintro e w77 ⟨rfl,hb⟩;refine ⟨_,rfl,?_⟩;have n0_:=Aside0.mk (Kd.N_below (YN HO415) hb);have n1_:=Aside0.mk (Kd.R_below (YR HO418) hb);have n2_:=Aside0.mk (Z40 (YK BK408) hb);have n3_:=Aside0.mk (Z25 YH hb);clear HO415;clear HO418;clear BK408;clear HB;have HO415:=n0_;have HO418:=n1_;have BK408:=n2_;have HB:=n3_;clear n0_ n1_ n2_ n3_;(try clear hb);(try clear hb2);(try clear hk);(try clear hi)))
   go_ret
   exact ⟨by first|rfl|(simp [Z16,Z15] <;> rfl)|(simp [*,Z16,Z15] <;> rfl),by repeat (first|(with_reducible first|exact HB.out|apply Z7|apply Z4|apply Z6|refine Z8 ?_ GE408.out)|exact HB.out)⟩
end Go.Proofs.Ytbklmnieakefnaa.Q
