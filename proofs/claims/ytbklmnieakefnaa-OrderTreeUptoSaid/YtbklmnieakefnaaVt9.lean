/- A part of the proof, made small by a program: Qx19, Qx20. -/
import Derived.Test.YtbklmnieakefnaaVt1
import Derived.Test.YtbklmnieakefnaaVt2
import Derived.Test.YtbklmnieakefnaaVt3
import Derived.Test.YtbklmnieakefnaaVt7
import Derived.Test.YtbklmnieakefnaaVt8
namespace Go.Proofs.Ytbklmnieakefnaa.Q
open Go.RowKit Go.Proofs.YtbklmnieakefnaaW.PrintWords Go.Proofs.YtbklmnieakefnaaW.PrintLast Go.Proofs.YtbklmnieakefnaaW.PrintMore

set_option linter.unusedVariables false
set_option linter.unusedSimpArgs false
mutual
def crucibleref14_Reached.l0 : Nat → List Bool → List Int → ByteArray → Int → Int → Int → List (S45) → Option (List Bool)
 | 0,_,_,_,_,_,_,_ => none
 | k + 1,x3,x4,x263000,x263001,x263002,x263003,x263004 => if (x4.length : Int) > 0 then (if 0 ≤ (wrap64 ((x4.length : Int) - 1)) then (if (wrap64 ((x4.length : Int) - 1)) < (x4.length : Int) then (if (wrap64 ((x4.length : Int) - 1)) ≤ (x4.length : Int) then (crucibleref14_Reached.l1 k x3 (x4.take ((wrap64 ((x4.length : Int) - 1)) : Int).toNat) (rd x4 (wrap64 ((x4.length : Int) - 1))) 0 x263000 x263001 x263002 x263003 x263004) else (none)) else (none)) else (none)) else (some x3)
def crucibleref14_Reached.l1 : Nat → List Bool → List Int → Int → Int → ByteArray → Int → Int → Int → List (S45) → Option (List Bool)
 | 0,_,_,_,_,_,_,_,_,_ => none
 | k + 1,x3,x4,x5,x6,x263000,x263001,x263002,x263003,x263004 => if 0 ≤ x5 then (if x5 < (x263004.length : Int) then (if x6 < (((rd_T45 x263004 x5).f3).length : Int) then (if 0 ≤ x6 then (if (rd ((rd_T45 x263004 x5).f3) x6) ≥ 0 then (if (rd ((rd_T45 x263004 x5).f3) x6) < (x263004.length : Int) then (if 0 ≤ (rd ((rd_T45 x263004 x5).f3) x6) then (if (rd ((rd_T45 x263004 x5).f3) x6) < (x3.length : Int) then (if (rdOf false x3 (rd ((rd_T45 x263004 x5).f3) x6) = true) then (crucibleref14_Reached.l1 k x3 x4 x5 (wrap64 (x6 + 1)) x263000 x263001 x263002 x263003 x263004) else (if x4.length < 17592186044416 then (crucibleref14_Reached.l1 k (x3.set ((rd ((rd_T45 x263004 x5).f3) x6) : Int).toNat true) (x4 ++ [rd ((rd_T45 x263004 x5).f3) x6]) x5 (wrap64 (x6 + 1)) x263000 x263001 x263002 x263003 x263004) else (none))) else (none)) else (none)) else (crucibleref14_Reached.l1 k x3 x4 x5 (wrap64 (x6 + 1)) x263000 x263001 x263002 x263003 x263004)) else (crucibleref14_Reached.l1 k x3 x4 x5 (wrap64 (x6 + 1)) x263000 x263001 x263002 x263003 x263004)) else (none)) else (crucibleref14_Reached.l0 k x3 x4 x263000 x263001 x263002 x263003 x263004)) else (none)) else (none)
end
def crucibleref14_Reached.f (k : Nat) (a0_0 : ByteArray) (a0_1 : Int) (a0_2 : Int) (a0_3 : Int) (l0_4 : List (S45)) : Option (List Bool):=if 0 ≤ (l0_4.length : Int) then (if ((l0_4.length : Int) : Int).toNat ≤ 281474976710656 then ((some (List.replicate ((l0_4.length : Int) : Int).toNat false : List Bool)).bind fun y263 => (if (l0_4.length : Int) = 0 then (some y263) else (if 0 < (y263.length : Int) then (crucibleref14_Reached.l0 k (y263.set (0 : Int).toNat true) (([0] : List Int)) a0_0 a0_1 a0_2 a0_3 l0_4) else (none)))) else (none)) else (none)
set_option maxHeartbeats 8000000 in
set_option maxRecDepth 100000 in
theorem crucibleref14_Reached.calls (k : Nat) (a0_0 : ByteArray) (a0_1 : Int) (a0_2 : Int) (a0_3 : Int) (A0_4 : Option Addr) (c0_4 : Nat) (l0_4 : List (S45)) (r : List Bool) (w : World) (hr0_4 : Kd.C k45 w A0_4 l0_4.length l0_4) (hc0_4 : l0_4.length ≤ c0_4) (h : crucibleref14_Reached.f k a0_0 a0_1 a0_2 a0_3 l0_4 = some r) :
 Calls Try.prog 19 #[.agg #[.string a0_0,.int .i64 a0_1,.int .i64 a0_2,.int .i64 a0_3,.slice A0_4 l0_4.length c0_4]] w fun e w' => ∃ v0_ : Value,e = .returned (v0_) ∧ Kd.R Kd.bool 4 w' w.heap.size (fun _ => True) v0_ r ∧ Below w.heap.size w w' := by
 have hu24:=Try.underlying24
 have HR0_4:=Aside0.mk hr0_4
 have HC0_4:=Aside0.mk hc0_4
 clear hr0_4 hc0_4;have HB:=Aside0.mk (Below.refl w.heap.size w)
 have H : (if 0 ≤ (l0_4.length : Int) then (if ((l0_4.length : Int) : Int).toNat ≤ 281474976710656 then ((some (List.replicate ((l0_4.length : Int) : Int).toNat false : List Bool)).bind fun y263 => (if (l0_4.length : Int) = 0 then (some y263) else (if 0 < (y263.length : Int) then (crucibleref14_Reached.l0 k (y263.set (0 : Int).toNat true) (([0] : List Int)) a0_0 a0_1 a0_2 a0_3 l0_4) else (none)))) else (none)) else (none)) = some r:=h
 clear h;by_cases c2 : 0 ≤ (l0_4.length : Int)
 · rw [if_pos c2] at H;have c2b0:=eq_true c2
   have c2b1 : decide (0 ≤ (l0_4.length : Int)) = true:=decide_eq_true c2
   clear c2;by_cases c3 : ((l0_4.length : Int) : Int).toNat ≤ 281474976710656
   · rw [if_pos c3] at H;have c3b0:=eq_true c3
     have c3b1 : decide (((l0_4.length : Int) : Int).toNat ≤ 281474976710656) = true:=decide_eq_true c3
     clear c3;obtain ⟨y263,hy263⟩ : ∃ y_ : List Bool,y_ = (List.replicate ((l0_4.length : Int) : Int).toNat false):=⟨_,rfl⟩
     replace H : (if (l0_4.length : Int) = 0 then (some y263) else (if 0 < (y263.length : Int) then (crucibleref14_Reached.l0 k (y263.set (0 : Int).toNat true) (([0] : List Int)) a0_0 a0_1 a0_2 a0_3 l0_4) else (none))) = some r:=by first|(rw [hy263];with_reducible exact H)|(have H2_:=(Option.bind_some _ _).symm.trans H;rw [hy263];with_reducible exact H2_)|(have H2_:=(Option.bind_some _ _).symm.trans H;with_reducible exact H2_)|with_reducible exact H|(rw [hy263];exact H)|exact H
     have Ny263:=Aside0.mk hy263
     clear hy263;by_cases c4 : (l0_4.length : Int) = 0
     · rw [if_pos c4] at H;have c4b0 : ((l0_4.length : Int) == 0) = true:=beq_iff_eq.mpr c4
       have c4b1 : ((l0_4.length : Int) != 0) = false:=bne_eq_false_iff_eq.mpr c4
       clear c4;obtain rfl:=Option.some.inj H
       go_enter Try.func19,Try.ntmps19
       go_wp2_with (first|((with_reducible refine Z52 (N:=1) rfl ?_);(try (refine Z66 (by rfl) ?_;dsimp only));refine Z51 ?hg (N:=1) ?hd (cs:=#[.string a0_0,.int .i64 a0_1,.int .i64 a0_2,.int .i64 a0_3,.slice A0_4 l0_4.length c0_4]) (t:=24) ?hr ?_;(case hd => rfl);(case hg => rfl);(case hr => first|(go_simp;done)|(go_simp;rfl));intro gb262 hg w5 hbox hb;have n0_:=Aside0.mk (Z25 (by repeat (first|(with_reducible first|exact HB.out|apply Z7|apply Z4|apply Z6)|exact HB.out)) hb);have n1_:=Aside0.mk (hbox);have n2_:=Aside0.mk ((by rw [hg];exact (Z27 (by repeat (first|(with_reducible first|exact HB.out|apply Z7|apply Z4|apply Z6)|exact HB.out))) : w.heap.size ≤ gb262));have n3_:=Aside0.mk ((by rw [hg];exact (Z27 (by repeat (first|(with_reducible first|exact HB.out|apply Z7|apply Z4|apply Z6)|exact HB.out))) : w.heap.size ≤ gb262));clear HB;have HB:=n0_;have BK262:=n1_;have GW262:=n2_;have GE262:=n3_;clear n0_ n1_ n2_ n3_;clear hb hbox hg;have hcz6_0 : w5.cell? ⟨gb262,0,none⟩ = some (.string a0_0):=(Z5 BK262.out 0).trans rfl;have hcz6_1 : w5.cell? ⟨gb262,1,none⟩ = some (.int .i64 a0_1):=(Z5 BK262.out 1).trans rfl;have hcz6_2 : w5.cell? ⟨gb262,2,none⟩ = some (.int .i64 a0_2):=(Z5 BK262.out 2).trans rfl;have hcz6_3 : w5.cell? ⟨gb262,3,none⟩ = some (.int .i64 a0_3):=(Z5 BK262.out 3).trans rfl;have hcz6_4 : w5.cell? ⟨gb262,4,none⟩ = some (.slice A0_4 l0_4.length c0_4):=(Z5 BK262.out 4).trans rfl;have hfz6_0:=Z2 BK262.out 0;have hfz6_1:=Z2 BK262.out 1;have hfz6_2:=Z2 BK262.out 2;have hfz6_3:=Z2 BK262.out 3;have hfz6_4:=Z2 BK262.out 4)|((with_reducible refine Z52 (N:=11) rfl ?_);(try (refine Z66 (by rfl) ?_;dsimp only));refine Kd.R_make Kd.bool _ 4 rfl (N:=11) rfl 34 _ _ rfl (l0_4.length : Int) rfl rfl Try.underlying34 (.bool false) 1 info4 rfl (by decide) (by omega) false (ok:=fun _ => True) (okp:=fun _ => True) rfl (fun _ hk => hk) trivial (of_decide_eq_true (by first|(with_reducible assumption)|assumption)) (Nat.le_trans (Nat.mul_le_mul_right _ (of_decide_eq_true (by first|(with_reducible assumption)|assumption) : (l0_4.length : Int).toNat ≤ 281474976710656)) (by omega)) (Below.refl _ _) (Nat.le_refl _) ?_;intro v264 w7 ho8 hb hg_ hnew_;clear hg_ hnew_;(first|rw [← Ny263.out] at ho8|(simp only [Int.reduceToNat] at ho8;rw [← Ny263.out] at ho8));have n0_:=Aside0.mk (Kd.R_lower ho8 (Z27 (by repeat (first|(with_reducible first|exact HB.out|apply Z7|apply Z4|apply Z6|refine Z8 ?_ GE262.out)|exact HB.out))));have n1_:=Aside0.mk (Z40 (g:=gb262) (o:=.cells #[.string a0_0,.int .i64 a0_1,.int .i64 a0_2,.int .i64 a0_3,.slice A0_4 l0_4.length c0_4] 24 (0,0)) (by (with_reducible repeat (first|refine Z0 ?_ _|refine Z3 ?_|refine Z1 ?_ _));exact BK262.out) hb);have n2_:=Aside0.mk (Z25 (by repeat (first|(with_reducible first|exact HB.out|apply Z7|apply Z4|apply Z6|refine Z8 ?_ GE262.out)|exact HB.out)) hb);clear BK262;clear HB;have HO265:=n0_;have BK262:=n1_;have HB:=n2_;clear n0_ n1_ n2_;clear hb ho8;have hcz9_0 : w7.cell? ⟨gb262,0,none⟩ = some (.string a0_0):=(Z5 BK262.out 0).trans rfl;have hcz9_1 : w7.cell? ⟨gb262,1,none⟩ = some (.int .i64 a0_1):=(Z5 BK262.out 1).trans rfl;have hcz9_2 : w7.cell? ⟨gb262,2,none⟩ = some (.int .i64 a0_2):=(Z5 BK262.out 2).trans rfl;have hcz9_3 : w7.cell? ⟨gb262,3,none⟩ = some (.int .i64 a0_3):=(Z5 BK262.out 3).trans rfl;have hcz9_4 : w7.cell? ⟨gb262,4,none⟩ = some (.slice A0_4 l0_4.length c0_4):=(Z5 BK262.out 4).trans rfl;have hfz9_0:=Z2 BK262.out 0;have hfz9_1:=Z2 BK262.out 1;have hfz9_2:=Z2 BK262.out 2;have hfz9_3:=Z2 BK262.out 3;have hfz9_4:=Z2 BK262.out 4))
       go_ret
       exact ⟨_,by first|rfl|(simp [Z16,Z15] <;> rfl)|(simp [*,Z16,Z15] <;> rfl),by (with_reducible repeat (first|apply Kd.R_alloc|apply Kd.R_drewN|apply Kd.R_drew));exact HO265.out,by repeat (first|(with_reducible first|exact HB.out|apply Z7|apply Z4|apply Z6|refine Z8 ?_ GE262.out)|exact HB.out)⟩
     · rw [if_neg c4] at H;have c4b0 : ((l0_4.length : Int) == 0) = false:=beq_eq_false_iff_ne.mpr c4
       have c4b1 : ((l0_4.length : Int) != 0) = true:=bne_iff_ne.mpr c4
       have c4b2 : ¬ (l0_4 = []):=fun h_ => c4 (by rw [h_];rfl)
       by_cases c10 : 0 < (y263.length : Int)
       · rw [if_pos c10] at H;have c10b0 : decide (0 < (y263.length : Int)) = true:=decide_eq_true c10
         have c10b1 : decide (0 < y263.length) = true:=decide_eq_true (by omega)
         clear c10;obtain ⟨y266,hy266⟩ : ∃ y_ : List Bool,y_ = (y263.set (0 : Int).toNat true):=⟨_,rfl⟩
         replace H : (crucibleref14_Reached.l0 k y266 (([0] : List Int)) a0_0 a0_1 a0_2 a0_3 l0_4) = some r:=by first|(rw [hy266];with_reducible exact H)|(have H2_:=(Option.bind_some _ _).symm.trans H;rw [hy266];with_reducible exact H2_)|(have H2_:=(Option.bind_some _ _).symm.trans H;with_reducible exact H2_)|with_reducible exact H|(rw [hy266];exact H)|exact H
         have Ny266:=Aside0.mk hy266
         clear hy266;obtain ⟨y267,hy267⟩ : ∃ y_ : List Int,y_ = (([0] : List Int)):=⟨_,rfl⟩
         replace H : (crucibleref14_Reached.l0 k y266 y267 a0_0 a0_1 a0_2 a0_3 l0_4) = some r:=by first|(rw [hy267];with_reducible exact H)|(have H2_:=(Option.bind_some _ _).symm.trans H;rw [hy267];with_reducible exact H2_)|(have H2_:=(Option.bind_some _ _).symm.trans H;with_reducible exact H2_)|with_reducible exact H|(rw [hy267];exact H)|exact H
         have Ny267:=Aside0.mk hy267
         clear hy267;have H' := Aside0.mk H
         clear H;go_enter Try.func19,Try.ntmps19
         go_wp2_with (first|((with_reducible refine Z52 (N:=1) rfl ?_);(try (refine Z66 (by rfl) ?_;dsimp only));refine Z51 ?hg (N:=1) ?hd (cs:=#[.string a0_0,.int .i64 a0_1,.int .i64 a0_2,.int .i64 a0_3,.slice A0_4 l0_4.length c0_4]) (t:=24) ?hr ?_;(case hd => rfl);(case hg => rfl);(case hr => first|(go_simp;done)|(go_simp;rfl));intro gb262 hg w12 hbox hb;have n0_:=Aside0.mk (Z25 (by repeat (first|(with_reducible first|exact HB.out|apply Z7|apply Z4|apply Z6)|exact HB.out)) hb);have n1_:=Aside0.mk (hbox);have n2_:=Aside0.mk ((by rw [hg];exact (Z27 (by repeat (first|(with_reducible first|exact HB.out|apply Z7|apply Z4|apply Z6)|exact HB.out))) : w.heap.size ≤ gb262));have n3_:=Aside0.mk ((by rw [hg];exact (Z27 (by repeat (first|(with_reducible first|exact HB.out|apply Z7|apply Z4|apply Z6)|exact HB.out))) : w.heap.size ≤ gb262));clear HB;have HB:=n0_;have BK262:=n1_;have GW262:=n2_;have GE262:=n3_;clear n0_ n1_ n2_ n3_;clear hb hbox hg;have hcz13_0 : w12.cell? ⟨gb262,0,none⟩ = some (.string a0_0):=(Z5 BK262.out 0).trans rfl;have hcz13_1 : w12.cell? ⟨gb262,1,none⟩ = some (.int .i64 a0_1):=(Z5 BK262.out 1).trans rfl;have hcz13_2 : w12.cell? ⟨gb262,2,none⟩ = some (.int .i64 a0_2):=(Z5 BK262.out 2).trans rfl;have hcz13_3 : w12.cell? ⟨gb262,3,none⟩ = some (.int .i64 a0_3):=(Z5 BK262.out 3).trans rfl;have hcz13_4 : w12.cell? ⟨gb262,4,none⟩ = some (.slice A0_4 l0_4.length c0_4):=(Z5 BK262.out 4).trans rfl;have hfz13_0:=Z2 BK262.out 0;have hfz13_1:=Z2 BK262.out 1;have hfz13_2:=Z2 BK262.out 2;have hfz13_3:=Z2 BK262.out 3;have hfz13_4:=Z2 BK262.out 4)|((with_reducible refine Z52 (N:=11) rfl ?_);(try (refine Z66 (by rfl) ?_;dsimp only));refine Kd.R_make Kd.bool _ 4 rfl (N:=11) rfl 34 _ _ rfl (l0_4.length : Int) rfl rfl Try.underlying34 (.bool false) 1 info4 rfl (by decide) (by omega) false (ok:=fun _ => True) (okp:=fun _ => True) rfl (fun _ hk => hk) trivial (of_decide_eq_true (by first|(with_reducible assumption)|assumption)) (Nat.le_trans (Nat.mul_le_mul_right _ (of_decide_eq_true (by first|(with_reducible assumption)|assumption) : (l0_4.length : Int).toNat ≤ 281474976710656)) (by omega)) (Below.refl _ _) (Nat.le_refl _) ?_;intro v264 w14 ho15 hb hg_ hnew_;clear hg_ hnew_;(first|rw [← Ny263.out] at ho15|(simp only [Int.reduceToNat] at ho15;rw [← Ny263.out] at ho15));have n0_:=Aside0.mk (Kd.R_lower ho15 (Z27 (by repeat (first|(with_reducible first|exact HB.out|apply Z7|apply Z4|apply Z6|refine Z8 ?_ GE262.out)|exact HB.out))));have n1_:=Aside0.mk (Z40 (g:=gb262) (o:=.cells #[.string a0_0,.int .i64 a0_1,.int .i64 a0_2,.int .i64 a0_3,.slice A0_4 l0_4.length c0_4] 24 (0,0)) (by (with_reducible repeat (first|refine Z0 ?_ _|refine Z3 ?_|refine Z1 ?_ _));exact BK262.out) hb);have n2_:=Aside0.mk (Z25 (by repeat (first|(with_reducible first|exact HB.out|apply Z7|apply Z4|apply Z6|refine Z8 ?_ GE262.out)|exact HB.out)) hb);clear BK262;clear HB;have HO265:=n0_;have BK262:=n1_;have HB:=n2_;clear n0_ n1_ n2_;clear hb ho15;have hcz16_0 : w14.cell? ⟨gb262,0,none⟩ = some (.string a0_0):=(Z5 BK262.out 0).trans rfl;have hcz16_1 : w14.cell? ⟨gb262,1,none⟩ = some (.int .i64 a0_1):=(Z5 BK262.out 1).trans rfl;have hcz16_2 : w14.cell? ⟨gb262,2,none⟩ = some (.int .i64 a0_2):=(Z5 BK262.out 2).trans rfl;have hcz16_3 : w14.cell? ⟨gb262,3,none⟩ = some (.int .i64 a0_3):=(Z5 BK262.out 3).trans rfl;have hcz16_4 : w14.cell? ⟨gb262,4,none⟩ = some (.slice A0_4 l0_4.length c0_4):=(Z5 BK262.out 4).trans rfl;have hfz16_0:=Z2 BK262.out 0;have hfz16_1:=Z2 BK262.out 1;have hfz16_2:=Z2 BK262.out 2;have hfz16_3:=Z2 BK262.out 3;have hfz16_4:=Z2 BK262.out 4;have p11 : 0 ≤ (0 : Int):=(by omega);have q11 : (0 : Int) < ((y263.length : Int) : Int):=of_decide_eq_true (by first|(with_reducible assumption)|assumption);have qi11 : (0 < y263.length) = True:=eq_true (by omega);obtain ⟨go11,co11,eo11,gb11,gl11,cl11,HG11⟩:=Kd.R_form HO265.out (by omega);(first|cases eo11|(injection eo11 with ea_ en_ ec_;(first|subst ea_|(injection ea_ with ea_;subst ea_));subst ec_;clear en_));have GB11:=Aside0.mk gb11;have GG11:=Aside0.mk HG11;clear gb11 gl11 HG11;obtain ⟨hx11_0,hf11_0⟩:=Kd.R_celln false HO265.out (0 : Int) p11 q11;(try rw [show ((0 : Int)).toNat = 0 from rfl] at hx11_0);(try simp only [Nat.reduceMul,Nat.zero_mul,Nat.zero_add,Nat.reduceAdd] at hx11_0);(try rw [show ((0 : Int)).toNat = 0 from rfl] at hf11_0);(try simp only [Nat.reduceMul,Nat.zero_mul,Nat.zero_add,Nat.reduceAdd] at hf11_0);replace p11:=eq_true p11;replace q11:=eq_true q11;obtain ⟨hy17_,hz17_⟩:=Kd.R_celln false HO265.out (0 : Int) (by omega) (of_decide_eq_true (by first|(with_reducible assumption)|assumption));(try simp only [Int.reduceToNat,Int.toNat_zero,Int.toNat_ofNat,Nat.reduceMul,Nat.zero_mul,Nat.zero_add] at hy17_ hz17_);(try rw [show ((0 : Int)).toNat = 0 from rfl] at hy17_);(try rw [show ((0 : Int)).toNat = 0 from rfl] at hz17_);have HP17:=Kd.R_putg HO265.out (0 : Int) true)|((with_reducible refine gate_store (t:=4) (p:=18) rfl ?_);refine store_event (t:=4) (p:=18) (v:=?vo_w18) (w1:=(w14.setCell ⟨go11,(0 : Int).toNat,none⟩ (.bool true))) ?hg ?ho ?hn ?hr ?_;(case ho => rfl);(case hg => rfl);(case hn => rfl);(case hr => first|(go_simp;done)|(go_simp;rfl));intro w18 hw;have hg : w14.grownBy w18 (some go11):=(by rw [hw];exact HP17.2);have hp_ : Kd.R Kd.bool 4 w18 w.heap.size (fun _ => True) (.slice (some ⟨go11,0,none⟩) y263.length co11) y266:=(by rw [hw,Ny266.out];exact HP17.1);clear HP17;have n0_:=Aside0.mk (Z89 (g:=gb262) (o:=.cells #[.string a0_0,.int .i64 a0_1,.int .i64 a0_2,.int .i64 a0_3,.slice A0_4 l0_4.length c0_4] 24 (0,0)) (by (with_reducible repeat (first|refine Z0 ?_ _|refine Z3 ?_|refine Z1 ?_ _));exact BK262.out) hg (Kd.R_ne HO265.out BK262.out (by decide)));have n1_:=Aside0.mk (hp_);have n2_:=Aside0.mk ((by rw [hw];exact Z8 (HB.out) GB11.out : Below w.heap.size w w18));clear BK262;clear HO265;clear HB;have BK262:=n0_;have HO265:=n1_;have HB:=n2_;clear n0_ n1_ n2_;clear hg hw hp_)|((with_reducible refine Z52 (N:=19) rfl ?_);(try (refine Z66 (by rfl) ?_;dsimp only));refine Kd.R_lit (Kd.int .i64) _ 3 ?hg (N:=19) ?hd (xs:=([0] : List Int)) (inner:=[.int .i64 0]) (ok:=fun _ => True) (okp:=fun _ => True) ?hr ?hp (fun _ hk => hk) trivial (Below.refl _ _) (Nat.le_refl _) (by simp) ?_;(case hd => rfl);(case hg => rfl);(case hr => first|(go_simp;done)|(go_simp;rfl));(case hp => exact (Reps.one (show Kd.M (Kd.int .i64) _ _ _ 0 [.int .i64 0] from rfl) (Reps.none _ _)));intro v268 w19 ho20 hb hg_ hnew_;clear hg_ hnew_;(first|rw [← Ny267.out] at ho20|(simp only [Int.reduceToNat] at ho20;rw [← Ny267.out] at ho20));have n0_:=Aside0.mk (Kd.R_below (by (with_reducible repeat (first|apply Kd.R_alloc|apply Kd.R_drewN|apply Kd.R_drew));exact HO265.out) hb);have n1_:=Aside0.mk (Kd.R_lower ho20 (Z27 (by repeat (first|(with_reducible first|exact HB.out|apply Z7|apply Z4|apply Z6|refine Z8 ?_ GE262.out)|exact HB.out))));have n2_:=Aside0.mk (Z40 (g:=gb262) (o:=.cells #[.string a0_0,.int .i64 a0_1,.int .i64 a0_2,.int .i64 a0_3,.slice A0_4 l0_4.length c0_4] 24 (0,0)) (by (with_reducible repeat (first|refine Z0 ?_ _|refine Z3 ?_|refine Z1 ?_ _));exact BK262.out) hb);have n3_:=Aside0.mk (Z25 (by repeat (first|(with_reducible first|exact HB.out|apply Z7|apply Z4|apply Z6|refine Z8 ?_ GE262.out)|exact HB.out)) hb);clear HO265;clear BK262;clear HB;have HO265:=n0_;have HO269:=n1_;have BK262:=n2_;have HB:=n3_;clear n0_ n1_ n2_ n3_;clear hb ho20))
         go_loopg [4] k (fun kq v4 w' => ∃ (x3_1 : List Bool) (x4_1 : List Int),Aside0 (crucibleref14_Reached.l0 kq x3_1 x4_1 a0_0 a0_1 a0_2 a0_3 l0_4 = some r) ∧ Aside0 (kq ≤ k) ∧ Aside0 (Kd.R Kd.bool 4 w' w.heap.size (fun _ => True) (.slice (some ⟨go11,0,none⟩) y263.length co11) x3_1) ∧ Aside0 (Kd.R (Kd.int .i64) 3 w' w.heap.size (fun _ => True) v4 x4_1) ∧ Aside0 (w'.heap[gb262]? = some (.cells #[.string a0_0,.int .i64 a0_1,.int .i64 a0_2,.int .i64 a0_3,(.slice A0_4 l0_4.length c0_4)] 24 (0,0))) ∧ Aside0 (Below w.heap.size w w'))
         case atStart => exact ⟨(y266),(y267),H',⟨Nat.le_refl _⟩,⟨by (with_reducible repeat (first|apply Kd.R_alloc|apply Kd.R_drewN|apply Kd.R_drew));exact HO265.out⟩,⟨by (with_reducible repeat (first|apply Kd.R_alloc|apply Kd.R_drewN|apply Kd.R_drew));exact HO269.out⟩,⟨by (with_reducible repeat (first|refine Z0 ?_ _|refine Z3 ?_|refine Z1 ?_ _));exact BK262.out⟩,⟨by repeat (first|(with_reducible first|exact HB.out|apply Z7|apply Z4|apply Z6|refine Z8 ?_ GE262.out)|exact HB.out)⟩⟩
         case round =>
          clear H';try clear c2
          try clear c2b0
          try clear c2b1
          try clear c3
          try clear c3b0
          try clear c3b1
          try clear c4
          try clear c4b0
          try clear c4b1
          try clear c4b2
          try clear c10
          try clear c10b0
          try clear c10b1
          try clear p11
          try clear q11
          try clear qi11
          try clear hcz13_0
          try clear hcz13_1
          try clear hcz13_2
          try clear hcz13_3
          try clear hcz13_4
          try clear hcz16_0
          try clear hcz16_1
          try clear hcz16_2
          try clear hcz16_3
          try clear hcz16_4
          try clear hfz13_0
          try clear hfz13_1
          try clear hfz13_2
          try clear hfz13_3
          try clear hfz13_4
          try clear hfz16_0
          try clear hfz16_1
          try clear hfz16_2
          try clear hfz16_3
          try clear hfz16_4
          try clear hx11_0
          try clear p11
          try clear q11
          obtain ⟨x3_1,x4_1,HA,HK1,HO_3,HO_4,BK262,HB⟩:=hrel
          have hl3_1:=(Kd.R_reads' HO_3.out).1
          rw [hl3_1] at HO_3;(try simp only [hl3_1]);(try simp only [hl3_1] at BK262);(try simp only [hl3_1] at HO_4);cases gk with
          | zero => exact absurd HA.out (by simp [crucibleref14_Reached.l0])
          | succ k1 =>
           have H:=HA.out
           clear HA;simp only [crucibleref14_Reached.l0] at H;by_cases c21 : (x4_1.length : Int) > 0
           · rw [if_pos c21] at H;have c21b0 : decide (0 < (x4_1.length : Int)) = true:=decide_eq_true c21
             have c21b1 : decide (0 < x4_1.length) = true:=decide_eq_true (by omega)
             clear c21;obtain ⟨ji22,hji22⟩ : ∃ j_ : Int,(wrap64 ((x4_1.length : Int) - 1)) = j_:=⟨_,rfl⟩
             replace H : (if 0 ≤ (ji22) then (if (ji22) < (x4_1.length : Int) then (if (ji22) ≤ (x4_1.length : Int) then (crucibleref14_Reached.l1 k1 x3_1 (x4_1.take ((ji22) : Int).toNat) (rd x4_1 (ji22)) 0 a0_0 a0_1 a0_2 a0_3 l0_4) else (none)) else (none)) else (none)) = some r:=by first|(rw [hji22] at H;exact H)|(simp only [hji22] at H ⊢;exact H)
             have hji22w : (IntKind.i64.wrap ((x4_1.length : Int) - 1)) = ji22:=(i64_w _).trans hji22
             by_cases c23 : 0 ≤ (ji22)
             · rw [if_pos c23] at H;have c23b0 : decide (0 ≤ (ji22)) = true:=decide_eq_true c23
               clear c23;by_cases c24 : (ji22) < (x4_1.length : Int)
               · rw [if_pos c24] at H;have c24b0 : decide ((ji22) < (x4_1.length : Int)) = true:=decide_eq_true c24
                 clear c24;by_cases c25 : (ji22) ≤ (x4_1.length : Int)
                 · rw [if_pos c25] at H;have c25b0:=eq_true c25
                   have c25b1 : decide ((ji22) ≤ (x4_1.length : Int)) = true:=decide_eq_true c25
                   clear c25;obtain ⟨y271,hy271⟩ : ∃ y_ : List Int,y_ = (x4_1.take ((ji22) : Int).toNat):=⟨_,rfl⟩
                   replace H : (crucibleref14_Reached.l1 k1 x3_1 y271 (rd x4_1 (ji22)) 0 a0_0 a0_1 a0_2 a0_3 l0_4) = some r:=by first|(rw [hy271];with_reducible exact H)|(have H2_:=(Option.bind_some _ _).symm.trans H;rw [hy271];with_reducible exact H2_)|(have H2_:=(Option.bind_some _ _).symm.trans H;with_reducible exact H2_)|with_reducible exact H|(rw [hy271];exact H)|exact H
                   have Ny271:=Aside0.mk hy271
                   clear hy271;have H' := Aside0.mk H
                   clear H;obtain ⟨Ao26,co26,eo26⟩:=Kd.R_slice HO_4.out
                   subst eo26;have p270 : 0 ≤ ((ji22) : Int):=of_decide_eq_true (by first|(with_reducible assumption)|assumption)
                   have q270 : (ji22) < (x4_1.length : Int):=of_decide_eq_true (by first|(with_reducible assumption)|assumption)
                   obtain ⟨ad270,e270,hx270_0⟩:=Kd.at_int (Kd.R_reads' HO_4.out).2.2 (ji22) p270 q270
                   cases e270;replace p270:=eq_true p270
                   replace q270:=eq_true q270
                   have q27 : ((ji22) : Int) ≤ ((x4_1.length : Int) : Int):=of_decide_eq_true (by first|(with_reducible assumption)|assumption)
                   obtain ⟨i027,hi027,_,hsz27,_⟩:=info_parts info3
                   have hcut27:=cut_to (P:=Try.prog) 26 3 .i64 Try.underlying26 hi027 (some ad270) x4_1.length co26 (ji22) (of_decide_eq_true (by first|(with_reducible assumption)|assumption)) q27 (Kd.R_reads' HO_4.out).2.1
                   have hr27:=Kd.R_take (m:=((ji22) : Int).toNat) HO_4.out (by omega)
                   have hy27 : y271.length = ((ji22) : Int).toNat:=(by rw [Ny271.out,List.length_take];omega)
                   rw [← Ny271.out] at hr27;rw [← hy27] at hr27 hcut27;clear hy27 hi027 hsz27 HO_4;have HO273:=Aside0.mk hr27
                   clear hr27;replace q27:=eq_true q27
                   go_wp2
                   go_loopg [4,6] k1 (fun kq v4 v6 w' => ∃ (x3_2 : List Bool) (x4_2 : List Int) (x6_2 : Int),v6 = .int .i64 x6_2 ∧ Aside0 (crucibleref14_Reached.l1 kq x3_2 x4_2 (rd x4_1 (ji22)) x6_2 a0_0 a0_1 a0_2 a0_3 l0_4 = some r) ∧ Aside0 (kq ≤ k1) ∧ Aside0 (Kd.R Kd.bool 4 w' w.heap.size (fun _ => True) (.slice (some ⟨go11,0,none⟩) x3_1.length co11) x3_2) ∧ Aside0 (Kd.R (Kd.int .i64) 3 w' w.heap.size (fun _ => True) v4 x4_2) ∧ Aside0 (w'.heap[gb262]? = some (.cells #[.string a0_0,.int .i64 a0_1,.int .i64 a0_2,.int .i64 a0_3,(.slice A0_4 l0_4.length c0_4)] 24 (0,0))) ∧ Aside0 (Below w.heap.size w w'))
                   case atStart => exact ⟨(x3_1),(y271),(0),(by first|rfl|(simp;done)|(simp [*];done)),H',⟨Nat.le_refl _⟩,⟨by (try simp only [hl3_1]);(with_reducible repeat (first|apply Kd.R_alloc|apply Kd.R_drewN|apply Kd.R_drew));exact HO_3.out⟩,⟨by (try simp only [hl3_1]);(with_reducible repeat (first|apply Kd.R_alloc|apply Kd.R_drewN|apply Kd.R_drew));exact HO273.out⟩,⟨by (try simp only [hl3_1]);(with_reducible repeat (first|refine Z0 ?_ _|refine Z3 ?_|refine Z1 ?_ _));exact BK262.out⟩,⟨by repeat (first|(with_reducible first|exact HB.out|apply Z7|apply Z4|apply Z6|refine Z8 ?_ GE262.out)|exact HB.out)⟩⟩
                   case round =>
                    clear H';try clear c2
                    try clear c2b0
                    try clear c2b1
                    try clear c3
                    try clear c3b0
                    try clear c3b1
                    try clear c4
                    try clear c4b0
                    try clear c4b1
                    try clear c4b2
                    try clear c10
                    try clear c10b0
                    try clear c10b1
                    try clear p11
                    try clear q11
                    try clear qi11
                    try clear c21
                    try clear c21b0
                    try clear c21b1
                    try clear c23
                    try clear c23b0
                    try clear c24
                    try clear c24b0
                    try clear c25
                    try clear c25b0
                    try clear c25b1
                    try clear q27
                    try clear hcz13_0
                    try clear hcz13_1
                    try clear hcz13_2
                    try clear hcz13_3
                    try clear hcz13_4
                    try clear hcz16_0
                    try clear hcz16_1
                    try clear hcz16_2
                    try clear hcz16_3
                    try clear hcz16_4
                    try clear hfz13_0
                    try clear hfz13_1
                    try clear hfz13_2
                    try clear hfz13_3
                    try clear hfz13_4
                    try clear hfz16_0
                    try clear hfz16_1
                    try clear hfz16_2
                    try clear hfz16_3
                    try clear hfz16_4
                    try clear hx11_0
                    try clear hx270_0
                    try clear p11
                    try clear p270
                    try clear q11
                    try clear q27
                    try clear q270
                    obtain ⟨x3_2,x4_2,x6_2,rfl,HA,HK2,HO_3,HO_4,BK262,HB⟩:=hrel
                    have hl3_2:=(Kd.R_reads' HO_3.out).1
                    rw [hl3_2] at HO_3;(try simp only [hl3_2]);(try simp only [hl3_2] at BK262);(try simp only [hl3_2] at HO_4);cases gk with
                    | zero => exact absurd HA.out (by simp [crucibleref14_Reached.l1])
                    | succ k2 =>
                     have H:=HA.out
                     clear HA;simp only [crucibleref14_Reached.l1] at H;by_cases c28 : 0 ≤ (rd x4_1 (ji22))
                     · rw [if_pos c28] at H;have c28b0 : decide (0 ≤ (rd x4_1 (ji22))) = true:=decide_eq_true c28
                       clear c28;by_cases c29 : (rd x4_1 (ji22)) < (l0_4.length : Int)
                       · rw [if_pos c29] at H;have c29b0 : decide ((rd x4_1 (ji22)) < (l0_4.length : Int)) = true:=decide_eq_true c29
                         clear c29;by_cases c30 : x6_2 < (((rd_T45 l0_4 (rd x4_1 (ji22))).f3).length : Int)
                         · rw [if_pos c30] at H;have c30b0 : decide (x6_2 < (((rd_T45 l0_4 (rd x4_1 (ji22))).f3).length : Int)) = true:=decide_eq_true c30
                           clear c30;by_cases c31 : 0 ≤ x6_2
                           · rw [if_pos c31] at H;have c31b0 : decide (0 ≤ x6_2) = true:=decide_eq_true c31
                             clear c31;by_cases c32 : (rd ((rd_T45 l0_4 (rd x4_1 (ji22))).f3) x6_2) ≥ 0
                             · rw [if_pos c32] at H;have c32b0 : decide (0 ≤ (rd ((rd_T45 l0_4 (rd x4_1 (ji22))).f3) x6_2)) = true:=decide_eq_true c32
                               clear c32;by_cases c33 : (rd ((rd_T45 l0_4 (rd x4_1 (ji22))).f3) x6_2) < (l0_4.length : Int)
                               · rw [if_pos c33] at H;have c33b0 : decide ((rd ((rd_T45 l0_4 (rd x4_1 (ji22))).f3) x6_2) < (l0_4.length : Int)) = true:=decide_eq_true c33
                                 clear c33;by_cases c34 : 0 ≤ (rd ((rd_T45 l0_4 (rd x4_1 (ji22))).f3) x6_2)
                                 · rw [if_pos c34] at H;have c34b0 : decide (0 ≤ (rd ((rd_T45 l0_4 (rd x4_1 (ji22))).f3) x6_2)) = true:=decide_eq_true c34
                                   clear c34;by_cases c35 : (rd ((rd_T45 l0_4 (rd x4_1 (ji22))).f3) x6_2) < (x3_2.length : Int)
                                   · rw [if_pos c35] at H;have c35b0 : decide ((rd ((rd_T45 l0_4 (rd x4_1 (ji22))).f3) x6_2) < (x3_2.length : Int)) = true:=decide_eq_true c35
                                     clear c35;obtain ⟨bq36,hbq36⟩ : ∃ b_ : Bool,b_ = (rdOf false x3_2 (rd ((rd_T45 l0_4 (rd x4_1 (ji22))).f3) x6_2)):=⟨_,rfl⟩
                                     replace H : (if (bq36 = true) then (crucibleref14_Reached.l1 k2 x3_2 x4_2 (rd x4_1 (ji22)) (wrap64 (x6_2 + 1)) a0_0 a0_1 a0_2 a0_3 l0_4) else (if x4_2.length < 17592186044416 then (crucibleref14_Reached.l1 k2 (x3_2.set ((rd ((rd_T45 l0_4 (rd x4_1 (ji22))).f3) x6_2) : Int).toNat true) (x4_2 ++ [rd ((rd_T45 l0_4 (rd x4_1 (ji22))).f3) x6_2]) (rd x4_1 (ji22)) (wrap64 (x6_2 + 1)) a0_0 a0_1 a0_2 a0_3 l0_4) else (none))) = some r:=by rw [← hbq36] at H;exact H
                                     have Nbq36:=Aside0.mk hbq36
                                     clear hbq36;by_cases c37 : (bq36 = true)
                                     · subst c37;have H1 : (crucibleref14_Reached.l1 k2 x3_2 x4_2 (rd x4_1 (ji22)) (wrap64 (x6_2 + 1)) a0_0 a0_1 a0_2 a0_3 l0_4) = some r:=by rw [if_pos rfl] at H;exact H
                                       clear H;have H:=H1
                                       clear H1;have H' := Aside0.mk H
                                       clear H;have hcz38_0 : wr.cell? ⟨gb262,0,none⟩ = some (.string a0_0):=(Z5 BK262.out 0).trans rfl
                                       have hcz38_1 : wr.cell? ⟨gb262,1,none⟩ = some (.int .i64 a0_1):=(Z5 BK262.out 1).trans rfl
                                       have hcz38_2 : wr.cell? ⟨gb262,2,none⟩ = some (.int .i64 a0_2):=(Z5 BK262.out 2).trans rfl
                                       have hcz38_3 : wr.cell? ⟨gb262,3,none⟩ = some (.int .i64 a0_3):=(Z5 BK262.out 3).trans rfl
                                       have hcz38_4 : wr.cell? ⟨gb262,4,none⟩ = some (.slice A0_4 l0_4.length c0_4):=(Z5 BK262.out 4).trans rfl
                                       have hfz38_0:=Z2 BK262.out 0
                                       have hfz38_1:=Z2 BK262.out 1
                                       have hfz38_2:=Z2 BK262.out 2
                                       have hfz38_3:=Z2 BK262.out 3
                                       have hfz38_4:=Z2 BK262.out 4
                                       have p274 : 0 ≤ ((rd x4_1 (ji22)) : Int):=of_decide_eq_true (by first|(with_reducible assumption)|assumption)
                                       have q274 : (rd x4_1 (ji22)) < (l0_4.length : Int):=of_decide_eq_true (by first|(with_reducible assumption)|assumption)
                                       obtain ⟨ad274,A274_0,c274_0,A274_3,c274_3,e274,hx274_0,hx274_1,hx274_2,hx274_3,hl274_0,hi274_0,hl274_3,hi274_3⟩:=at_T45 HR0_4.out (rd x4_1 (ji22)) p274 q274
                                       cases e274;replace hx274_0:=(HB.out.cell (World.block_lt_of_cell? w _ hx274_0)).trans hx274_0
                                       replace hx274_1:=(HB.out.cell (World.block_lt_of_cell? w _ hx274_1)).trans hx274_1
                                       replace hx274_2:=(HB.out.cell (World.block_lt_of_cell? w _ hx274_2)).trans hx274_2
                                       replace hx274_3:=(HB.out.cell (World.block_lt_of_cell? w _ hx274_3)).trans hx274_3
                                       have HR274_0:=Aside0.mk hi274_0
                                       have HC274_0:=Aside0.mk hl274_0
                                       clear hi274_0 hl274_0;have HR274_3:=Aside0.mk hi274_3
                                       have HC274_3:=Aside0.mk hl274_3
                                       clear hi274_3 hl274_3;replace p274:=eq_true p274
                                       replace q274:=eq_true q274
                                       have p275 : 0 ≤ ((rd x4_1 (ji22)) : Int):=of_decide_eq_true (by first|(with_reducible assumption)|assumption)
                                       have q275 : (rd x4_1 (ji22)) < (l0_4.length : Int):=of_decide_eq_true (by first|(with_reducible assumption)|assumption)
                                       obtain ⟨ad275,A275_0,c275_0,A275_3,c275_3,e275,hx275_0,hx275_1,hx275_2,hx275_3,hl275_0,hi275_0,hl275_3,hi275_3⟩:=at_T45 HR0_4.out (rd x4_1 (ji22)) p275 q275
                                       obtain rfl : ad274 = ad275:=(by injection e275)
                                       replace hx275_0:=(HB.out.cell (World.block_lt_of_cell? w _ hx275_0)).trans hx275_0
                                       replace hx275_1:=(HB.out.cell (World.block_lt_of_cell? w _ hx275_1)).trans hx275_1
                                       replace hx275_2:=(HB.out.cell (World.block_lt_of_cell? w _ hx275_2)).trans hx275_2
                                       replace hx275_3:=(HB.out.cell (World.block_lt_of_cell? w _ hx275_3)).trans hx275_3
                                       have HR275_0:=Aside0.mk hi275_0
                                       have HC275_0:=Aside0.mk hl275_0
                                       clear hi275_0 hl275_0;have HR275_3:=Aside0.mk hi275_3
                                       have HC275_3:=Aside0.mk hl275_3
                                       clear hi275_3 hl275_3;replace p275:=eq_true p275
                                       replace q275:=eq_true q275
                                       have ea_:=Option.some.inj (hx274_0.symm.trans hx275_0)
                                       injection ea_ with ea_ en_ ec_
                                       subst ea_;subst ec_;clear en_;have ea_:=Option.some.inj (hx274_3.symm.trans hx275_3)
                                       injection ea_ with ea_ en_ ec_
                                       subst ea_;subst ec_;clear en_;have p276 : 0 ≤ (x6_2 : Int):=of_decide_eq_true (by first|(with_reducible assumption)|assumption)
                                       have q276 : x6_2 < (((rd_T45 l0_4 (rd x4_1 (ji22))).f3).length : Int):=of_decide_eq_true (by first|(with_reducible assumption)|assumption)
                                       obtain ⟨ad276,e276,hx276_0⟩:=Kd.at_int HR275_3.out x6_2 p276 q276
                                       cases e276;replace hx276_0:=(HB.out.cell (World.block_lt_of_cell? w _ hx276_0)).trans hx276_0
                                       replace p276:=eq_true p276
                                       replace q276:=eq_true q276
                                       have p277 : 0 ≤ ((rd ((rd_T45 l0_4 (rd x4_1 (ji22))).f3) x6_2) : Int):=of_decide_eq_true (by first|(with_reducible assumption)|assumption)
                                       have q277 : (rd ((rd_T45 l0_4 (rd x4_1 (ji22))).f3) x6_2) < (x3_2.length : Int):=of_decide_eq_true (by first|(with_reducible assumption)|assumption)
                                       obtain ⟨ad277,e277,hx277_0⟩:=Kd.at_bool (Kd.R_reads' HO_3.out).2.2 (rd ((rd_T45 l0_4 (rd x4_1 (ji22))).f3) x6_2) p277 q277
                                       (try rw [← Nbq36.out] at hx277_0);obtain rfl : (⟨go11,0,none⟩ : Addr) = ad277:=(by injection e277)
                                       (first|simp only [add_plain] at hx277_0|simp only [add_at] at hx277_0|simp only [Addr.add,Nat.zero_add] at hx277_0|skip);replace p277:=eq_true p277
                                       replace q277:=eq_true q277
                                       go_wp2
                                       (try simp only [← hl3_2]);go_roundg k2
                                       case measure => have:=HK1.out;have:=HK2.out;omega
                                       case rel => exact ⟨(x3_2),(x4_2),(wrap64 (x6_2 + 1)),(by first|rfl|(simp;done)|(simp [*];done)),H',⟨by have:=HK1.out;have:=HK2.out;omega⟩,⟨by (try simp only [hl3_1]);(try simp only [hl3_2]);(with_reducible repeat (first|apply Kd.R_alloc|apply Kd.R_drewN|apply Kd.R_drew));exact HO_3.out⟩,⟨by (try simp only [hl3_1]);(try simp only [hl3_2]);(with_reducible repeat (first|apply Kd.R_alloc|apply Kd.R_drewN|apply Kd.R_drew));exact HO_4.out⟩,⟨by (try simp only [hl3_1]);(try simp only [hl3_2]);(with_reducible repeat (first|refine Z0 ?_ _|refine Z3 ?_|refine Z1 ?_ _));exact BK262.out⟩,⟨by repeat (first|(with_reducible first|exact HB.out|apply Z7|apply Z4|apply Z6|refine Z8 ?_ GE262.out)|exact HB.out)⟩⟩
                                     · replace c37:=Bool.eq_false_iff.mpr c37
                                       subst c37;have H1 : (if x4_2.length < 17592186044416 then (crucibleref14_Reached.l1 k2 (x3_2.set ((rd ((rd_T45 l0_4 (rd x4_1 (ji22))).f3) x6_2) : Int).toNat true) (x4_2 ++ [rd ((rd_T45 l0_4 (rd x4_1 (ji22))).f3) x6_2]) (rd x4_1 (ji22)) (wrap64 (x6_2 + 1)) a0_0 a0_1 a0_2 a0_3 l0_4) else (none)) = some r:=by rw [if_neg (show ¬ (false = true) by decide)] at H;exact H
                                       clear H;have H:=H1
                                       clear H1;obtain ⟨y278,hy278⟩ : ∃ y_ : List Bool,y_ = (x3_2.set ((rd ((rd_T45 l0_4 (rd x4_1 (ji22))).f3) x6_2) : Int).toNat true):=⟨_,rfl⟩
                                       replace H : (if x4_2.length < 17592186044416 then (crucibleref14_Reached.l1 k2 y278 (x4_2 ++ [rd ((rd_T45 l0_4 (rd x4_1 (ji22))).f3) x6_2]) (rd x4_1 (ji22)) (wrap64 (x6_2 + 1)) a0_0 a0_1 a0_2 a0_3 l0_4) else (none)) = some r:=by first|(rw [hy278];with_reducible exact H)|(have H2_:=(Option.bind_some _ _).symm.trans H;rw [hy278];with_reducible exact H2_)|(have H2_:=(Option.bind_some _ _).symm.trans H;with_reducible exact H2_)|with_reducible exact H|(rw [hy278];exact H)|exact H
                                       have Ny278:=Aside0.mk hy278
                                       clear hy278;by_cases c40 : x4_2.length < 17592186044416
                                       · rw [if_pos c40] at H;have LMc40:=Aside0.mk c40
                                         clear c40;obtain ⟨y279,hy279⟩ : ∃ y_ : List Int,y_ = (x4_2 ++ [rd ((rd_T45 l0_4 (rd x4_1 (ji22))).f3) x6_2]):=⟨_,rfl⟩
                                         replace H : (crucibleref14_Reached.l1 k2 y278 y279 (rd x4_1 (ji22)) (wrap64 (x6_2 + 1)) a0_0 a0_1 a0_2 a0_3 l0_4) = some r:=by first|(rw [hy279];with_reducible exact H)|(have H2_:=(Option.bind_some _ _).symm.trans H;rw [hy279];with_reducible exact H2_)|(have H2_:=(Option.bind_some _ _).symm.trans H;with_reducible exact H2_)|with_reducible exact H|(rw [hy279];exact H)|exact H
                                         have Ny279:=Aside0.mk hy279
                                         clear hy279;have H' := Aside0.mk H
                                         clear H;have hcz41_0 : wr.cell? ⟨gb262,0,none⟩ = some (.string a0_0):=(Z5 BK262.out 0).trans rfl
                                         have hcz41_1 : wr.cell? ⟨gb262,1,none⟩ = some (.int .i64 a0_1):=(Z5 BK262.out 1).trans rfl
                                         have hcz41_2 : wr.cell? ⟨gb262,2,none⟩ = some (.int .i64 a0_2):=(Z5 BK262.out 2).trans rfl
                                         have hcz41_3 : wr.cell? ⟨gb262,3,none⟩ = some (.int .i64 a0_3):=(Z5 BK262.out 3).trans rfl
                                         have hcz41_4 : wr.cell? ⟨gb262,4,none⟩ = some (.slice A0_4 l0_4.length c0_4):=(Z5 BK262.out 4).trans rfl
                                         have hfz41_0:=Z2 BK262.out 0
                                         have hfz41_1:=Z2 BK262.out 1
                                         have hfz41_2:=Z2 BK262.out 2
                                         have hfz41_3:=Z2 BK262.out 3
                                         have hfz41_4:=Z2 BK262.out 4
                                         have p274 : 0 ≤ ((rd x4_1 (ji22)) : Int):=of_decide_eq_true (by first|(with_reducible assumption)|assumption)
                                         have q274 : (rd x4_1 (ji22)) < (l0_4.length : Int):=of_decide_eq_true (by first|(with_reducible assumption)|assumption)
                                         obtain ⟨ad274,A274_0,c274_0,A274_3,c274_3,e274,hx274_0,hx274_1,hx274_2,hx274_3,hl274_0,hi274_0,hl274_3,hi274_3⟩:=at_T45 HR0_4.out (rd x4_1 (ji22)) p274 q274
                                         cases e274;replace hx274_0:=(HB.out.cell (World.block_lt_of_cell? w _ hx274_0)).trans hx274_0
                                         replace hx274_1:=(HB.out.cell (World.block_lt_of_cell? w _ hx274_1)).trans hx274_1
                                         replace hx274_2:=(HB.out.cell (World.block_lt_of_cell? w _ hx274_2)).trans hx274_2
                                         replace hx274_3:=(HB.out.cell (World.block_lt_of_cell? w _ hx274_3)).trans hx274_3
                                         have HR274_0:=Aside0.mk hi274_0
                                         have HC274_0:=Aside0.mk hl274_0
                                         clear hi274_0 hl274_0;have HR274_3:=Aside0.mk hi274_3
                                         have HC274_3:=Aside0.mk hl274_3
                                         clear hi274_3 hl274_3;replace p274:=eq_true p274
                                         replace q274:=eq_true q274
                                         have p275 : 0 ≤ ((rd x4_1 (ji22)) : Int):=of_decide_eq_true (by first|(with_reducible assumption)|assumption)
                                         have q275 : (rd x4_1 (ji22)) < (l0_4.length : Int):=of_decide_eq_true (by first|(with_reducible assumption)|assumption)
                                         obtain ⟨ad275,A275_0,c275_0,A275_3,c275_3,e275,hx275_0,hx275_1,hx275_2,hx275_3,hl275_0,hi275_0,hl275_3,hi275_3⟩:=at_T45 HR0_4.out (rd x4_1 (ji22)) p275 q275
                                         obtain rfl : ad274 = ad275:=(by injection e275)
                                         replace hx275_0:=(HB.out.cell (World.block_lt_of_cell? w _ hx275_0)).trans hx275_0
                                         replace hx275_1:=(HB.out.cell (World.block_lt_of_cell? w _ hx275_1)).trans hx275_1
                                         replace hx275_2:=(HB.out.cell (World.block_lt_of_cell? w _ hx275_2)).trans hx275_2
                                         replace hx275_3:=(HB.out.cell (World.block_lt_of_cell? w _ hx275_3)).trans hx275_3
                                         have HR275_0:=Aside0.mk hi275_0
                                         have HC275_0:=Aside0.mk hl275_0
                                         clear hi275_0 hl275_0;have HR275_3:=Aside0.mk hi275_3
                                         have HC275_3:=Aside0.mk hl275_3
                                         clear hi275_3 hl275_3;replace p275:=eq_true p275
                                         replace q275:=eq_true q275
                                         have ea_:=Option.some.inj (hx274_0.symm.trans hx275_0)
                                         injection ea_ with ea_ en_ ec_
                                         subst ea_;subst ec_;clear en_;have ea_:=Option.some.inj (hx274_3.symm.trans hx275_3)
                                         injection ea_ with ea_ en_ ec_
                                         subst ea_;subst ec_;clear en_;have p276 : 0 ≤ (x6_2 : Int):=of_decide_eq_true (by first|(with_reducible assumption)|assumption)
                                         have q276 : x6_2 < (((rd_T45 l0_4 (rd x4_1 (ji22))).f3).length : Int):=of_decide_eq_true (by first|(with_reducible assumption)|assumption)
                                         obtain ⟨ad276,e276,hx276_0⟩:=Kd.at_int HR275_3.out x6_2 p276 q276
                                         cases e276;replace hx276_0:=(HB.out.cell (World.block_lt_of_cell? w _ hx276_0)).trans hx276_0
                                         replace p276:=eq_true p276
                                         replace q276:=eq_true q276
                                         have p277 : 0 ≤ ((rd ((rd_T45 l0_4 (rd x4_1 (ji22))).f3) x6_2) : Int):=of_decide_eq_true (by first|(with_reducible assumption)|assumption)
                                         have q277 : (rd ((rd_T45 l0_4 (rd x4_1 (ji22))).f3) x6_2) < (x3_2.length : Int):=of_decide_eq_true (by first|(with_reducible assumption)|assumption)
                                         obtain ⟨ad277,e277,hx277_0⟩:=Kd.at_bool (Kd.R_reads' HO_3.out).2.2 (rd ((rd_T45 l0_4 (rd x4_1 (ji22))).f3) x6_2) p277 q277
                                         (try rw [← Nbq36.out] at hx277_0);obtain rfl : (⟨go11,0,none⟩ : Addr) = ad277:=(by injection e277)
                                         (first|simp only [add_plain] at hx277_0|simp only [add_at] at hx277_0|simp only [Addr.add,Nat.zero_add] at hx277_0|skip);replace p277:=eq_true p277
                                         replace q277:=eq_true q277
                                         have p39 : 0 ≤ ((rd ((rd_T45 l0_4 (rd x4_1 (ji22))).f3) x6_2) : Int):=of_decide_eq_true (by first|(with_reducible assumption)|assumption)
                                         have q39 : ((rd ((rd_T45 l0_4 (rd x4_1 (ji22))).f3) x6_2) : Int) < ((x3_2.length : Int) : Int):=of_decide_eq_true (by first|(with_reducible assumption)|assumption)
                                         obtain ⟨hx39_0,hf39_0⟩:=Kd.R_celln false HO_3.out ((rd ((rd_T45 l0_4 (rd x4_1 (ji22))).f3) x6_2) : Int) p39 q39
                                         replace p39:=eq_true p39
                                         replace q39:=eq_true q39
                                         have HP42:=Kd.R_putg HO_3.out ((rd ((rd_T45 l0_4 (rd x4_1 (ji22))).f3) x6_2) : Int) true
                                         go_wp2_with (first|((with_reducible refine gate_store (t:=4) (p:=72) rfl ?_);refine store_event (t:=4) (p:=72) (v:=?vo_w43) (w1:=(wr.setCell ⟨go11,((rd ((rd_T45 l0_4 (rd x4_1 (ji22))).f3) x6_2) : Int).toNat,none⟩ (.bool true))) ?hg ?ho ?hn ?hr ?_;(case ho => rfl);(case hg => rfl);(case hn => rfl);(case hr => first|(go_simp;done)|(go_simp;rfl));intro w43 hw;have hg : wr.grownBy w43 (some go11):=(by rw [hw];exact HP42.2);have hp_ : Kd.R Kd.bool 4 w43 w.heap.size (fun _ => True) (.slice (some ⟨go11,0,none⟩) x3_2.length co11) y278:=(by rw [hw,Ny278.out];exact HP42.1);clear HP42;have n0_:=Aside0.mk (hp_);have n1_:=Aside0.mk (Kd.R_over' (v:=(.slice (some ⟨go11,0,none⟩) x3_2.length co11)) (by (with_reducible repeat (first|apply Kd.R_alloc|apply Kd.R_drewN|apply Kd.R_drew));exact HO_4.out) (Kd.R_typed HO_3.out) (by decide) hg);have n2_:=Aside0.mk (Z89 (g:=gb262) (o:=.cells #[.string a0_0,.int .i64 a0_1,.int .i64 a0_2,.int .i64 a0_3,.slice (some ad274) l0_4.length c0_4] 24 (0,0)) (by (with_reducible repeat (first|refine Z0 ?_ _|refine Z3 ?_|refine Z1 ?_ _));exact BK262.out) hg (Kd.R_ne HO_3.out BK262.out (by decide)));have n3_:=Aside0.mk ((by rw [hw];exact Z8 (HB.out) GB11.out : Below w.heap.size w w43));clear HO_3;clear HO_4;clear BK262;clear HB;have HO_3:=n0_;have HO_4:=n1_;have BK262:=n2_;have HB:=n3_;clear n0_ n1_ n2_ n3_;clear hg hw hp_)|((with_reducible refine Z69 (b:=.append) (xs:=#[.tmp 73,.tmp 75]) rfl ?_);(try (refine Z66 (by rfl) ?_;dsimp only));at_builtin;refine Kd.R_append (Kd.int .i64) (w0:=w) w.heap.size rfl (.tmp 73) (.tmp 75) 26 3 (.int .i64 0) 8 rfl Try.underlying26 info3 rfl (by decide) (by omega) u4 x4_2 (rd ((rd_T45 l0_4 (rd x4_1 (ji22))).f3) x6_2) [.int .i64 (rd ((rd_T45 l0_4 (rd x4_1 (ji22))).f3) x6_2)] (fun _ => True) (fun _ => False) rfl rfl ?aP (fun _ hk => hk.elim) ?aF ?aO ?aB ?aS ?aL ?_;(case aP => exact rfl);(case aB => exact (by repeat (first|(with_reducible first|exact HB.out|apply Z7|apply Z4|apply Z6|refine Z8 ?_ GE262.out)|exact HB.out)));(case aF => exact (fun _ _ => trivial));(case aO => exact (by (with_reducible repeat (first|apply Kd.R_alloc|apply Kd.R_drewN|apply Kd.R_drew));exact HO_4.out));(case aS => exact (Z27 (by repeat (first|(with_reducible first|exact HB.out|apply Z7|apply Z4|apply Z6|refine Z8 ?_ GE262.out)|exact HB.out))));(case aL => have:=LMc40.out;omega);intro v280 w44 ho hb hg hat;rw [← Ny279.out] at ho;have n0_:=Aside0.mk (Kd.R_over' (by (with_reducible repeat (first|apply Kd.R_alloc|apply Kd.R_drewN|apply Kd.R_drew));exact HO_3.out) (Kd.R_typed (by (with_reducible repeat (first|apply Kd.R_alloc|apply Kd.R_drewN|apply Kd.R_drew));exact HO_4.out)) (by decide) hg);have n1_:=Aside0.mk (Z89 (g:=gb262) (o:=.cells #[.string a0_0,.int .i64 a0_1,.int .i64 a0_2,.int .i64 a0_3,.slice (some ad274) l0_4.length c0_4] 24 (0,0)) (by (with_reducible repeat (first|refine Z0 ?_ _|refine Z3 ?_|refine Z1 ?_ _));exact BK262.out) hg (Kd.R_ne HO_4.out BK262.out (by decide)));have n2_:=Aside0.mk (hb);have n3_:=Aside0.mk (ho);clear HO_3;clear BK262;clear HB;clear HO_4;have HO_3:=n0_;have BK262:=n1_;have HB:=n2_;have HO281:=n3_;clear n0_ n1_ n2_ n3_;clear ho hb hg hat))
                                         (try simp only [← hl3_2]);go_roundg k2
                                         case measure => have:=HK1.out;have:=HK2.out;omega
                                         case rel => exact ⟨(y278),(y279),(wrap64 (x6_2 + 1)),(by first|rfl|(simp;done)|(simp [*];done)),H',⟨by have:=HK1.out;have:=HK2.out;omega⟩,⟨by (try simp only [hl3_1]);(try simp only [hl3_2]);(with_reducible repeat (first|apply Kd.R_alloc|apply Kd.R_drewN|apply Kd.R_drew));exact HO_3.out⟩,⟨by (try simp only [hl3_1]);(try simp only [hl3_2]);(with_reducible repeat (first|apply Kd.R_alloc|apply Kd.R_drewN|apply Kd.R_drew));exact HO281.out⟩,⟨by (try simp only [hl3_1]);(try simp only [hl3_2]);(with_reducible repeat (first|refine Z0 ?_ _|refine Z3 ?_|refine Z1 ?_ _));exact BK262.out⟩,⟨by repeat (first|(with_reducible first|exact HB.out|apply Z7|apply Z4|apply Z6|refine Z8 ?_ GE262.out)|exact HB.out)⟩⟩
                                       · rw [if_neg c40] at H;exact absurd H (by simp)
                                   · rw [if_neg c35] at H;exact absurd H (by simp)
                                 · rw [if_neg c34] at H;exact absurd H (by simp)
                               · rw [if_neg c33] at H;have c33b0 : decide ((rd ((rd_T45 l0_4 (rd x4_1 (ji22))).f3) x6_2) < (l0_4.length : Int)) = false:=decide_eq_false c33
                                 clear c33;have H' := Aside0.mk H
                                 clear H;have hcz45_0 : wr.cell? ⟨gb262,0,none⟩ = some (.string a0_0):=(Z5 BK262.out 0).trans rfl
                                 have hcz45_1 : wr.cell? ⟨gb262,1,none⟩ = some (.int .i64 a0_1):=(Z5 BK262.out 1).trans rfl
                                 have hcz45_2 : wr.cell? ⟨gb262,2,none⟩ = some (.int .i64 a0_2):=(Z5 BK262.out 2).trans rfl
                                 have hcz45_3 : wr.cell? ⟨gb262,3,none⟩ = some (.int .i64 a0_3):=(Z5 BK262.out 3).trans rfl
                                 have hcz45_4 : wr.cell? ⟨gb262,4,none⟩ = some (.slice A0_4 l0_4.length c0_4):=(Z5 BK262.out 4).trans rfl
                                 have hfz45_0:=Z2 BK262.out 0
                                 have hfz45_1:=Z2 BK262.out 1
                                 have hfz45_2:=Z2 BK262.out 2
                                 have hfz45_3:=Z2 BK262.out 3
                                 have hfz45_4:=Z2 BK262.out 4
                                 have p274 : 0 ≤ ((rd x4_1 (ji22)) : Int):=of_decide_eq_true (by first|(with_reducible assumption)|assumption)
                                 have q274 : (rd x4_1 (ji22)) < (l0_4.length : Int):=of_decide_eq_true (by first|(with_reducible assumption)|assumption)
                                 obtain ⟨ad274,A274_0,c274_0,A274_3,c274_3,e274,hx274_0,hx274_1,hx274_2,hx274_3,hl274_0,hi274_0,hl274_3,hi274_3⟩:=at_T45 HR0_4.out (rd x4_1 (ji22)) p274 q274
                                 cases e274;replace hx274_0:=(HB.out.cell (World.block_lt_of_cell? w _ hx274_0)).trans hx274_0
                                 replace hx274_1:=(HB.out.cell (World.block_lt_of_cell? w _ hx274_1)).trans hx274_1
                                 replace hx274_2:=(HB.out.cell (World.block_lt_of_cell? w _ hx274_2)).trans hx274_2
                                 replace hx274_3:=(HB.out.cell (World.block_lt_of_cell? w _ hx274_3)).trans hx274_3
                                 have HR274_0:=Aside0.mk hi274_0
                                 have HC274_0:=Aside0.mk hl274_0
                                 clear hi274_0 hl274_0;have HR274_3:=Aside0.mk hi274_3
                                 have HC274_3:=Aside0.mk hl274_3
                                 clear hi274_3 hl274_3;replace p274:=eq_true p274
                                 replace q274:=eq_true q274
                                 have p275 : 0 ≤ ((rd x4_1 (ji22)) : Int):=of_decide_eq_true (by first|(with_reducible assumption)|assumption)
                                 have q275 : (rd x4_1 (ji22)) < (l0_4.length : Int):=of_decide_eq_true (by first|(with_reducible assumption)|assumption)
                                 obtain ⟨ad275,A275_0,c275_0,A275_3,c275_3,e275,hx275_0,hx275_1,hx275_2,hx275_3,hl275_0,hi275_0,hl275_3,hi275_3⟩:=at_T45 HR0_4.out (rd x4_1 (ji22)) p275 q275
                                 obtain rfl : ad274 = ad275:=(by injection e275)
                                 replace hx275_0:=(HB.out.cell (World.block_lt_of_cell? w _ hx275_0)).trans hx275_0
                                 replace hx275_1:=(HB.out.cell (World.block_lt_of_cell? w _ hx275_1)).trans hx275_1
                                 replace hx275_2:=(HB.out.cell (World.block_lt_of_cell? w _ hx275_2)).trans hx275_2
                                 replace hx275_3:=(HB.out.cell (World.block_lt_of_cell? w _ hx275_3)).trans hx275_3
                                 have HR275_0:=Aside0.mk hi275_0
                                 have HC275_0:=Aside0.mk hl275_0
                                 clear hi275_0 hl275_0;have HR275_3:=Aside0.mk hi275_3
                                 have HC275_3:=Aside0.mk hl275_3
                                 clear hi275_3 hl275_3;replace p275:=eq_true p275
                                 replace q275:=eq_true q275
                                 have ea_:=Option.some.inj (hx274_0.symm.trans hx275_0)
                                 injection ea_ with ea_ en_ ec_
                                 subst ea_;subst ec_;clear en_;have ea_:=Option.some.inj (hx274_3.symm.trans hx275_3)
                                 injection ea_ with ea_ en_ ec_
                                 subst ea_;subst ec_;clear en_;have p276 : 0 ≤ (x6_2 : Int):=of_decide_eq_true (by first|(with_reducible assumption)|assumption)
                                 have q276 : x6_2 < (((rd_T45 l0_4 (rd x4_1 (ji22))).f3).length : Int):=of_decide_eq_true (by first|(with_reducible assumption)|assumption)
                                 obtain ⟨ad276,e276,hx276_0⟩:=Kd.at_int HR275_3.out x6_2 p276 q276
                                 cases e276;replace hx276_0:=(HB.out.cell (World.block_lt_of_cell? w _ hx276_0)).trans hx276_0
                                 replace p276:=eq_true p276
                                 replace q276:=eq_true q276
                                 go_wp2
                                 (try simp only [← hl3_2]);go_roundg k2
                                 case measure => have:=HK1.out;have:=HK2.out;omega
                                 case rel => exact ⟨(x3_2),(x4_2),(wrap64 (x6_2 + 1)),(by first|rfl|(simp;done)|(simp [*];done)),H',⟨by have:=HK1.out;have:=HK2.out;omega⟩,⟨by (try simp only [hl3_1]);(try simp only [hl3_2]);(with_reducible repeat (first|apply Kd.R_alloc|apply Kd.R_drewN|apply Kd.R_drew));exact HO_3.out⟩,⟨by (try simp only [hl3_1]);(try simp only [hl3_2]);(with_reducible repeat (first|apply Kd.R_alloc|apply Kd.R_drewN|apply Kd.R_drew));exact HO_4.out⟩,⟨by (try simp only [hl3_1]);(try simp only [hl3_2]);(with_reducible repeat (first|refine Z0 ?_ _|refine Z3 ?_|refine Z1 ?_ _));exact BK262.out⟩,⟨by repeat (first|(with_reducible first|exact HB.out|apply Z7|apply Z4|apply Z6|refine Z8 ?_ GE262.out)|exact HB.out)⟩⟩
                             · rw [if_neg c32] at H;have c32b0 : decide (0 ≤ (rd ((rd_T45 l0_4 (rd x4_1 (ji22))).f3) x6_2)) = false:=decide_eq_false c32
                               clear c32;have H' := Aside0.mk H
                               clear H;have hcz46_0 : wr.cell? ⟨gb262,0,none⟩ = some (.string a0_0):=(Z5 BK262.out 0).trans rfl
                               have hcz46_1 : wr.cell? ⟨gb262,1,none⟩ = some (.int .i64 a0_1):=(Z5 BK262.out 1).trans rfl
                               have hcz46_2 : wr.cell? ⟨gb262,2,none⟩ = some (.int .i64 a0_2):=(Z5 BK262.out 2).trans rfl
                               have hcz46_3 : wr.cell? ⟨gb262,3,none⟩ = some (.int .i64 a0_3):=(Z5 BK262.out 3).trans rfl
                               have hcz46_4 : wr.cell? ⟨gb262,4,none⟩ = some (.slice A0_4 l0_4.length c0_4):=(Z5 BK262.out 4).trans rfl
                               have hfz46_0:=Z2 BK262.out 0
                               have hfz46_1:=Z2 BK262.out 1
                               have hfz46_2:=Z2 BK262.out 2
                               have hfz46_3:=Z2 BK262.out 3
                               have hfz46_4:=Z2 BK262.out 4
                               have p274 : 0 ≤ ((rd x4_1 (ji22)) : Int):=of_decide_eq_true (by first|(with_reducible assumption)|assumption)
                               have q274 : (rd x4_1 (ji22)) < (l0_4.length : Int):=of_decide_eq_true (by first|(with_reducible assumption)|assumption)
                               obtain ⟨ad274,A274_0,c274_0,A274_3,c274_3,e274,hx274_0,hx274_1,hx274_2,hx274_3,hl274_0,hi274_0,hl274_3,hi274_3⟩:=at_T45 HR0_4.out (rd x4_1 (ji22)) p274 q274
                               cases e274;replace hx274_0:=(HB.out.cell (World.block_lt_of_cell? w _ hx274_0)).trans hx274_0
                               replace hx274_1:=(HB.out.cell (World.block_lt_of_cell? w _ hx274_1)).trans hx274_1
                               replace hx274_2:=(HB.out.cell (World.block_lt_of_cell? w _ hx274_2)).trans hx274_2
                               replace hx274_3:=(HB.out.cell (World.block_lt_of_cell? w _ hx274_3)).trans hx274_3
                               have HR274_0:=Aside0.mk hi274_0
                               have HC274_0:=Aside0.mk hl274_0
                               clear hi274_0 hl274_0;have HR274_3:=Aside0.mk hi274_3
                               have HC274_3:=Aside0.mk hl274_3
                               clear hi274_3 hl274_3;replace p274:=eq_true p274
                               replace q274:=eq_true q274
                               have p275 : 0 ≤ ((rd x4_1 (ji22)) : Int):=of_decide_eq_true (by first|(with_reducible assumption)|assumption)
                               have q275 : (rd x4_1 (ji22)) < (l0_4.length : Int):=of_decide_eq_true (by first|(with_reducible assumption)|assumption)
                               obtain ⟨ad275,A275_0,c275_0,A275_3,c275_3,e275,hx275_0,hx275_1,hx275_2,hx275_3,hl275_0,hi275_0,hl275_3,hi275_3⟩:=at_T45 HR0_4.out (rd x4_1 (ji22)) p275 q275
                               obtain rfl : ad274 = ad275:=(by injection e275)
                               replace hx275_0:=(HB.out.cell (World.block_lt_of_cell? w _ hx275_0)).trans hx275_0
                               replace hx275_1:=(HB.out.cell (World.block_lt_of_cell? w _ hx275_1)).trans hx275_1
                               replace hx275_2:=(HB.out.cell (World.block_lt_of_cell? w _ hx275_2)).trans hx275_2
                               replace hx275_3:=(HB.out.cell (World.block_lt_of_cell? w _ hx275_3)).trans hx275_3
                               have HR275_0:=Aside0.mk hi275_0
                               have HC275_0:=Aside0.mk hl275_0
                               clear hi275_0 hl275_0;have HR275_3:=Aside0.mk hi275_3
                               have HC275_3:=Aside0.mk hl275_3
                               clear hi275_3 hl275_3;replace p275:=eq_true p275
                               replace q275:=eq_true q275
                               have ea_:=Option.some.inj (hx274_0.symm.trans hx275_0)
                               injection ea_ with ea_ en_ ec_
                               subst ea_;subst ec_;clear en_;have ea_:=Option.some.inj (hx274_3.symm.trans hx275_3)
                               injection ea_ with ea_ en_ ec_
                               subst ea_;subst ec_;clear en_;have p276 : 0 ≤ (x6_2 : Int):=of_decide_eq_true (by first|(with_reducible assumption)|assumption)
                               have q276 : x6_2 < (((rd_T45 l0_4 (rd x4_1 (ji22))).f3).length : Int):=of_decide_eq_true (by first|(with_reducible assumption)|assumption)
                               obtain ⟨ad276,e276,hx276_0⟩:=Kd.at_int HR275_3.out x6_2 p276 q276
                               cases e276;replace hx276_0:=(HB.out.cell (World.block_lt_of_cell? w _ hx276_0)).trans hx276_0
                               replace p276:=eq_true p276
                               replace q276:=eq_true q276
                               go_wp2
                               (try simp only [← hl3_2]);go_roundg k2
                               case measure => have:=HK1.out;have:=HK2.out;omega
                               case rel => exact ⟨(x3_2),(x4_2),(wrap64 (x6_2 + 1)),(by first|rfl|(simp;done)|(simp [*];done)),H',⟨by have:=HK1.out;have:=HK2.out;omega⟩,⟨by (try simp only [hl3_1]);(try simp only [hl3_2]);(with_reducible repeat (first|apply Kd.R_alloc|apply Kd.R_drewN|apply Kd.R_drew));exact HO_3.out⟩,⟨by (try simp only [hl3_1]);(try simp only [hl3_2]);(with_reducible repeat (first|apply Kd.R_alloc|apply Kd.R_drewN|apply Kd.R_drew));exact HO_4.out⟩,⟨by (try simp only [hl3_1]);(try simp only [hl3_2]);(with_reducible repeat (first|refine Z0 ?_ _|refine Z3 ?_|refine Z1 ?_ _));exact BK262.out⟩,⟨by repeat (first|(with_reducible first|exact HB.out|apply Z7|apply Z4|apply Z6|refine Z8 ?_ GE262.out)|exact HB.out)⟩⟩
                           · rw [if_neg c31] at H;exact absurd H (by simp)
                         · rw [if_neg c30] at H;have c30b0 : decide (x6_2 < (((rd_T45 l0_4 (rd x4_1 (ji22))).f3).length : Int)) = false:=decide_eq_false c30
                           clear c30;have H' := Aside0.mk H
                           clear H;have hcz47_0 : wr.cell? ⟨gb262,0,none⟩ = some (.string a0_0):=(Z5 BK262.out 0).trans rfl
                           have hcz47_1 : wr.cell? ⟨gb262,1,none⟩ = some (.int .i64 a0_1):=(Z5 BK262.out 1).trans rfl
                           have hcz47_2 : wr.cell? ⟨gb262,2,none⟩ = some (.int .i64 a0_2):=(Z5 BK262.out 2).trans rfl
                           have hcz47_3 : wr.cell? ⟨gb262,3,none⟩ = some (.int .i64 a0_3):=(Z5 BK262.out 3).trans rfl
                           have hcz47_4 : wr.cell? ⟨gb262,4,none⟩ = some (.slice A0_4 l0_4.length c0_4):=(Z5 BK262.out 4).trans rfl
                           have hfz47_0:=Z2 BK262.out 0
                           have hfz47_1:=Z2 BK262.out 1
                           have hfz47_2:=Z2 BK262.out 2
                           have hfz47_3:=Z2 BK262.out 3
                           have hfz47_4:=Z2 BK262.out 4
                           have p274 : 0 ≤ ((rd x4_1 (ji22)) : Int):=of_decide_eq_true (by first|(with_reducible assumption)|assumption)
                           have q274 : (rd x4_1 (ji22)) < (l0_4.length : Int):=of_decide_eq_true (by first|(with_reducible assumption)|assumption)
                           obtain ⟨ad274,A274_0,c274_0,A274_3,c274_3,e274,hx274_0,hx274_1,hx274_2,hx274_3,hl274_0,hi274_0,hl274_3,hi274_3⟩:=at_T45 HR0_4.out (rd x4_1 (ji22)) p274 q274
                           cases e274;replace hx274_0:=(HB.out.cell (World.block_lt_of_cell? w _ hx274_0)).trans hx274_0
                           replace hx274_1:=(HB.out.cell (World.block_lt_of_cell? w _ hx274_1)).trans hx274_1
                           replace hx274_2:=(HB.out.cell (World.block_lt_of_cell? w _ hx274_2)).trans hx274_2
                           replace hx274_3:=(HB.out.cell (World.block_lt_of_cell? w _ hx274_3)).trans hx274_3
                           have HR274_0:=Aside0.mk hi274_0
                           have HC274_0:=Aside0.mk hl274_0
                           clear hi274_0 hl274_0;have HR274_3:=Aside0.mk hi274_3
                           have HC274_3:=Aside0.mk hl274_3
                           clear hi274_3 hl274_3;replace p274:=eq_true p274
                           replace q274:=eq_true q274
                           go_wp2
                           (try simp only [← hl3_1,← hl3_2]);go_roundg k2
                           case measure => have:=HK1.out;have:=HK2.out;omega
                           case rel => exact ⟨(x3_2),(x4_2),H',⟨by have:=HK1.out;have:=HK2.out;omega⟩,⟨by (try simp only [hl3_1]);(try simp only [hl3_2]);(with_reducible repeat (first|apply Kd.R_alloc|apply Kd.R_drewN|apply Kd.R_drew));exact HO_3.out⟩,⟨by (try simp only [hl3_1]);(try simp only [hl3_2]);(with_reducible repeat (first|apply Kd.R_alloc|apply Kd.R_drewN|apply Kd.R_drew));exact HO_4.out⟩,⟨by (try simp only [hl3_1]);(try simp only [hl3_2]);(with_reducible repeat (first|refine Z0 ?_ _|refine Z3 ?_|refine Z1 ?_ _));exact BK262.out⟩,⟨by repeat (first|(with_reducible first|exact HB.out|apply Z7|apply Z4|apply Z6|refine Z8 ?_ GE262.out)|exact HB.out)⟩⟩
                       · rw [if_neg c29] at H;exact absurd H (by simp)
                     · rw [if_neg c28] at H;exact absurd H (by simp)
                 · rw [if_neg c25] at H;exact absurd H (by simp)
               · rw [if_neg c24] at H;exact absurd H (by simp)
             · rw [if_neg c23] at H;exact absurd H (by simp)
           · rw [if_neg c21] at H;have c21b0 : decide (0 < (x4_1.length : Int)) = false:=decide_eq_false c21
             have c21b1 : decide (0 < x4_1.length) = false:=decide_eq_false (by omega)
             clear c21;obtain rfl:=Option.some.inj H
             obtain ⟨Ao48,co48,eo48⟩:=Kd.R_slice HO_4.out
             subst eo48;go_wp2
             go_ret
             exact ⟨_,by first|rfl|(simp [Z16,Z15] <;> rfl)|(simp [*,Z16,Z15] <;> rfl),by (with_reducible repeat (first|apply Kd.R_alloc|apply Kd.R_drewN|apply Kd.R_drew));exact HO_3.out,by repeat (first|(with_reducible first|exact HB.out|apply Z7|apply Z4|apply Z6|refine Z8 ?_ GE262.out)|exact HB.out)⟩
       · rw [if_neg c10] at H;exact absurd H (by simp)
   · rw [if_neg c3] at H;exact absurd H (by simp)
 · rw [if_neg c2] at H;exact absurd H (by simp)
end Go.Proofs.Ytbklmnieakefnaa.Q
namespace Go.Proofs.Ytbklmnieakefnaa.Q
open Go.RowKit Go.Proofs.YtbklmnieakefnaaW.PrintWords Go.Proofs.YtbklmnieakefnaaW.PrintLast Go.Proofs.YtbklmnieakefnaaW.PrintMore

set_option linter.unusedVariables false
set_option linter.unusedSimpArgs false
mutual
def cruciblelaw17_OrderTree.l0 : Nat → List Int → List Bool → Int → ByteArray → Int → Int → Int → List (S45) → Option (Bool)
 | 0,_,_,_,_,_,_,_,_ => none
 | k + 1,x3,x4,x5,x283000,x283001,x283002,x283003,x283004 => if x5 < (x3.length : Int) then (if 0 ≤ x5 then (if x5 = 0 then (cruciblelaw17_OrderTree.j1 k x3 x4 x5 ((decide ((rd x3 x5) < 0)) != true) x283000 x283001 x283002 x283003 x283004) else (if x5 < (x4.length : Int) then (cruciblelaw17_OrderTree.j1 k x3 x4 x5 ((decide ((rd x3 x5) < 0)) != (!(rdOf false x4 x5))) x283000 x283001 x283002 x283003 x283004) else (none))) else (none)) else ((cruciblelaw17_awake.f k).bind fun t298 => (some t298))
def cruciblelaw17_OrderTree.j1 : Nat → List Int → List Bool → Int → Bool → ByteArray → Int → Int → Int → List (S45) → Option (Bool)
 | 0,_,_,_,_,_,_,_,_,_ => none
 | k + 1,x3,x4,x5,x37,x283000,x283001,x283002,x283003,x283004 => if x37 = true then (some false) else (cruciblelaw17_OrderTree.l1 k x3 x4 x5 0 x283000 x283001 x283002 x283003 x283004)
def cruciblelaw17_OrderTree.l1 : Nat → List Int → List Bool → Int → Int → ByteArray → Int → Int → Int → List (S45) → Option (Bool)
 | 0,_,_,_,_,_,_,_,_,_ => none
 | k + 1,x3,x4,x5,x6,x283000,x283001,x283002,x283003,x283004 => if 0 ≤ x5 then (if x5 < (x3.length : Int) then (if (rd x3 x5) ≥ 0 then (cruciblelaw17_OrderTree.j3 k x3 x4 x5 x6 (decide (x6 < (x3.length : Int))) x283000 x283001 x283002 x283003 x283004) else (cruciblelaw17_OrderTree.j3 k x3 x4 x5 x6 false x283000 x283001 x283002 x283003 x283004)) else (none)) else (none)
def cruciblelaw17_OrderTree.j3 : Nat → List Int → List Bool → Int → Int → Bool → ByteArray → Int → Int → Int → List (S45) → Option (Bool)
 | 0,_,_,_,_,_,_,_,_,_,_ => none
 | k + 1,x3,x4,x5,x6,x48,x283000,x283001,x283002,x283003,x283004 => if x48 = true then ((order_Dominates.f k x283000 x283001 x283002 x283003 x283004 x6 x5).bind fun t302 => (if x6 = x5 then (if (t302 != true) = true then (some false) else (cruciblelaw17_OrderTree.l1 k x3 x4 x5 (wrap64 (x6 + 1)) x283000 x283001 x283002 x283003 x283004)) else (if 0 ≤ x5 then (if x5 < (x3.length : Int) then ((order_Dominates.f k x283000 x283001 x283002 x283003 x283004 x6 (rd x3 x5)).bind fun t304 => (if (t302 != t304) = true then (some false) else (cruciblelaw17_OrderTree.l1 k x3 x4 x5 (wrap64 (x6 + 1)) x283000 x283001 x283002 x283003 x283004))) else (none)) else (none)))) else (cruciblelaw17_OrderTree.l0 k x3 x4 (wrap64 (x5 + 1)) x283000 x283001 x283002 x283003 x283004)
end
def cruciblelaw17_OrderTree.f (k : Nat) (a0_0 : ByteArray) (a0_1 : Int) (a0_2 : Int) (a0_3 : Int) (l0_4 : List (S45)) : Option (Bool):=(cruciblelaw17_bare.f k a0_0 a0_1 a0_2 a0_3 l0_4).bind fun bt283 => ((cruciblelaw17_May.f k bt283.1 bt283.2.1 bt283.2.2.1 bt283.2.2.2.1 bt283.2.2.2.2).bind fun t290 => (if t290 = true then ((order_Doms.f k bt283.1 bt283.2.1 bt283.2.2.1 bt283.2.2.2.1 bt283.2.2.2.2).bind fun t292 => ((crucibleref14_Reached.f k bt283.1 bt283.2.1 bt283.2.2.1 bt283.2.2.2.1 bt283.2.2.2.2).bind fun t295 => (cruciblelaw17_OrderTree.l0 k t292 t295 0 bt283.1 bt283.2.1 bt283.2.2.1 bt283.2.2.2.1 bt283.2.2.2.2))) else ((cruciblelaw17_awake.f k).bind fun t291 => (some t291))))
def cruciblelaw17_OrderTree.T9 : Bool × List (List Nat × List Nat):=(true,[([],[]),([],[]),([0,1],[0,1]),([2],[2]),([3],[3]),([],[]),([5],[5]),([6],[6]),([7],[7]),([7],[7]),([8,9,7],[7,8,9]),([10,7],[7,10]),([11,7],[7,11]),([7,12],[7,12]),([4,13],[4,13])])
def cruciblelaw17_OrderTree.B9 : List Nat:=[0,0,3,7,15,0,32,96,224,224,992,2016,4064,8160,16383]
theorem cruciblelaw17_OrderTree.tab9 : rtab .any (opsOf Try.f5 9) = cruciblelaw17_OrderTree.T9:=by kernel_rfl
theorem cruciblelaw17_OrderTree.bits9 : waitsOk cruciblelaw17_OrderTree.T9.2 cruciblelaw17_OrderTree.B9 = true:=by kernel_rfl
def cruciblelaw17_OrderTree.T14 : Bool × List (List Nat × List Nat):=(true,[([],[]),([],[]),([],[]),([0,1,2],[0,1,2]),([],[]),([],[]),([4,5],[4,5]),([6,3],[6]),([7],[7]),([7],[7]),([7],[7]),([7],[7]),([10,11,7],[7,10,11]),([12,7],[7,12]),([8,9,13,7,7],[7,8,9,13]),([7,14],[7,14]),([3,15],[3,15])])
def cruciblelaw17_OrderTree.B14 : List Nat:=[0,0,0,7,0,0,48,127,255,255,255,255,3327,7423,16383,32767,65535]
theorem cruciblelaw17_OrderTree.tab14 : rtab .any (opsOf Try.f5 14) = cruciblelaw17_OrderTree.T14:=by kernel_rfl
theorem cruciblelaw17_OrderTree.bits14 : waitsOk cruciblelaw17_OrderTree.T14.2 cruciblelaw17_OrderTree.B14 = true:=by kernel_rfl
set_option maxHeartbeats 8000000 in
set_option maxRecDepth 100000 in
theorem cruciblelaw17_OrderTree.calls (k : Nat) (a0_0 : ByteArray) (a0_1 : Int) (a0_2 : Int) (a0_3 : Int) (A0_4 : Option Addr) (c0_4 : Nat) (l0_4 : List (S45)) (r : Bool) (w : World) (hr0_4 : Kd.C k45 w A0_4 l0_4.length l0_4) (hc0_4 : l0_4.length ≤ c0_4) (h : cruciblelaw17_OrderTree.f k a0_0 a0_1 a0_2 a0_3 l0_4 = some r) :
 Calls Try.prog 5 #[.agg #[.string a0_0,.int .i64 a0_1,.int .i64 a0_2,.int .i64 a0_3,.slice A0_4 l0_4.length c0_4]] w fun e w' => e = .returned (.bool r) ∧ Below w.heap.size w w' := by
 have hu24:=Try.underlying24
 have HR0_4:=Aside0.mk hr0_4
 have HC0_4:=Aside0.mk hc0_4
 clear hr0_4 hc0_4;have HB:=Aside0.mk (Below.refl w.heap.size w)
 have H : ((cruciblelaw17_bare.f k a0_0 a0_1 a0_2 a0_3 l0_4).bind fun bt283 => ((cruciblelaw17_May.f k bt283.1 bt283.2.1 bt283.2.2.1 bt283.2.2.2.1 bt283.2.2.2.2).bind fun t290 => (if t290 = true then ((order_Doms.f k bt283.1 bt283.2.1 bt283.2.2.1 bt283.2.2.2.1 bt283.2.2.2.2).bind fun t292 => ((crucibleref14_Reached.f k bt283.1 bt283.2.1 bt283.2.2.1 bt283.2.2.2.1 bt283.2.2.2.2).bind fun t295 => (cruciblelaw17_OrderTree.l0 k t292 t295 0 bt283.1 bt283.2.1 bt283.2.2.1 bt283.2.2.2.1 bt283.2.2.2.2))) else ((cruciblelaw17_awake.f k).bind fun t291 => (some t291))))) = some r:=h
 clear h;replace H:=Option.bind_eq_some_iff.mp H
 obtain ⟨⟨t283,t284,t285,t286,t287⟩,A20,H⟩:=H
 replace H : ((cruciblelaw17_May.f k t283 t284 t285 t286 t287).bind fun t290 => (if t290 = true then ((order_Doms.f k t283 t284 t285 t286 t287).bind fun t292 => ((crucibleref14_Reached.f k t283 t284 t285 t286 t287).bind fun t295 => (cruciblelaw17_OrderTree.l0 k t292 t295 0 t283 t284 t285 t286 t287))) else ((cruciblelaw17_awake.f k).bind fun t291 => (some t291)))) = some r:=H
 have A2:=Aside0.mk A20
 clear A20;replace H:=Option.bind_eq_some_iff.mp H
 obtain ⟨t290,A30,H⟩:=H
 replace H : (if t290 = true then ((order_Doms.f k t283 t284 t285 t286 t287).bind fun t292 => ((crucibleref14_Reached.f k t283 t284 t285 t286 t287).bind fun t295 => (cruciblelaw17_OrderTree.l0 k t292 t295 0 t283 t284 t285 t286 t287))) else ((cruciblelaw17_awake.f k).bind fun t291 => (some t291))) = some r:=H
 have A3:=Aside0.mk A30
 clear A30;by_cases c4 : t290 = true
 · subst c4;have H1 : ((order_Doms.f k t283 t284 t285 t286 t287).bind fun t292 => ((crucibleref14_Reached.f k t283 t284 t285 t286 t287).bind fun t295 => (cruciblelaw17_OrderTree.l0 k t292 t295 0 t283 t284 t285 t286 t287))) = some r:=by rw [if_pos rfl] at H;exact H
   clear H;have H:=H1
   clear H1;replace H:=Option.bind_eq_some_iff.mp H
   obtain ⟨t292,A50,H⟩:=H
   replace H : ((crucibleref14_Reached.f k t283 t284 t285 t286 t287).bind fun t295 => (cruciblelaw17_OrderTree.l0 k t292 t295 0 t283 t284 t285 t286 t287)) = some r:=H
   have A5:=Aside0.mk A50
   clear A50;replace H:=Option.bind_eq_some_iff.mp H
   obtain ⟨t295,A60,H⟩:=H
   replace H : (cruciblelaw17_OrderTree.l0 k t292 t295 0 t283 t284 t285 t286 t287) = some r:=H
   have A6:=Aside0.mk A60
   clear A60;have H' := Aside0.mk H
   clear H;go_enter Try.func5,Try.ntmps5
   go_wp2_with (first|((with_reducible refine Z52 (N:=1) rfl ?_);(try (refine Z66 (by rfl) ?_;dsimp only));refine Z51 ?hg (N:=1) ?hd (cs:=#[.string a0_0,.int .i64 a0_1,.int .i64 a0_2,.int .i64 a0_3,.slice A0_4 l0_4.length c0_4]) (t:=24) ?hr ?_;(case hd => rfl);(case hg => rfl);(case hr => first|(go_simp;done)|(go_simp;rfl));intro gb282 hg w7 hbox hb;have n0_:=Aside0.mk (Z25 (by repeat (first|(with_reducible first|exact HB.out|apply Z7|apply Z4|apply Z6)|exact HB.out)) hb);have n1_:=Aside0.mk (hbox);have n2_:=Aside0.mk ((by rw [hg];exact (Z27 (by repeat (first|(with_reducible first|exact HB.out|apply Z7|apply Z4|apply Z6)|exact HB.out))) : w.heap.size ≤ gb282));have n3_:=Aside0.mk ((by rw [hg];exact (Z27 (by repeat (first|(with_reducible first|exact HB.out|apply Z7|apply Z4|apply Z6)|exact HB.out))) : w.heap.size ≤ gb282));clear HB;have HB:=n0_;have BK282:=n1_;have GW282:=n2_;have GE282:=n3_;clear n0_ n1_ n2_ n3_;clear hb hbox hg;have hcz8_0 : w7.cell? ⟨gb282,0,none⟩ = some (.string a0_0):=(Z5 BK282.out 0).trans rfl;have hcz8_1 : w7.cell? ⟨gb282,1,none⟩ = some (.int .i64 a0_1):=(Z5 BK282.out 1).trans rfl;have hcz8_2 : w7.cell? ⟨gb282,2,none⟩ = some (.int .i64 a0_2):=(Z5 BK282.out 2).trans rfl;have hcz8_3 : w7.cell? ⟨gb282,3,none⟩ = some (.int .i64 a0_3):=(Z5 BK282.out 3).trans rfl;have hcz8_4 : w7.cell? ⟨gb282,4,none⟩ = some (.slice A0_4 l0_4.length c0_4):=(Z5 BK282.out 4).trans rfl)|((with_reducible refine Z14 (f:=9) rfl ?_);refine goesL_ (some 8) rfl rfl Try.func9 (by kernel_rfl) rfl #[.agg #[.string a0_0,.int .i64 a0_1,.int .i64 a0_2,.int .i64 a0_3,.slice A0_4 l0_4.length c0_4]] rfl (by (try simp only [List.map_toArray,List.map_cons,List.map_nil]);first|done|rfl|(simp only [List.length_drop,List.length_take];rfl)) ?_;(with_reducible refine (cruciblelaw17_bare.calls k a0_0 a0_1 a0_2 a0_3 (fun k_ => k_ < w.heap.size) _ _ l0_4 t283 t284 t285 t286 t287 _ ?side1 A2.out).mono ?_);(case side1 => exact Kd.V_mk HC0_4.out (Kd.F_below (Kd.C_F k45_heap HR0_4.out) (by repeat (first|(with_reducible first|exact HB.out|apply Z7|apply Z4|apply Z6|refine Z8 ?_ GE282.out)|exact HB.out))));rintro e w9 ⟨v288,rfl,ho0,hb⟩;refine ⟨_,rfl,?_⟩;have n0_:=Aside0.mk (Kd.N_lower (Kd.N_mono (ok' := fun k_ => k_ ≠ gb282) ho0 (fun k_ hk_ => Or.elim hk_ (fun hs_ => fun e_ => Nat.not_le.2 hs_ (by rw [e_];exact GW282.out)) (fun hn_ => (Kd.freshB (g:=gb282) (o:=.cells #[.string a0_0,.int .i64 a0_1,.int .i64 a0_2,.int .i64 a0_3,.slice A0_4 l0_4.length c0_4] 24 (0,0)) (by (with_reducible repeat (first|refine Z0 ?_ _|refine Z3 ?_|refine Z1 ?_ _));exact BK282.out) k_ hn_)))) (Z27 (by repeat (first|(with_reducible first|exact HB.out|apply Z7|apply Z4|apply Z6|refine Z8 ?_ GE282.out)|exact HB.out))));have n1_:=Aside0.mk (Z40 (g:=gb282) (o:=.cells #[.string a0_0,.int .i64 a0_1,.int .i64 a0_2,.int .i64 a0_3,.slice A0_4 l0_4.length c0_4] 24 (0,0)) (by (with_reducible repeat (first|refine Z0 ?_ _|refine Z3 ?_|refine Z1 ?_ _));exact BK282.out) hb);have n2_:=Aside0.mk (Z25 (by repeat (first|(with_reducible first|exact HB.out|apply Z7|apply Z4|apply Z6|refine Z8 ?_ GE282.out)|exact HB.out)) hb);clear BK282;clear HB;have HO289:=n0_;have BK282:=n1_;have HB:=n2_;clear n0_ n1_ n2_;(try clear hb);(try clear hb2);(try clear hk);(try clear hi);(try clear ho0);have hcz10_0 : w9.cell? ⟨gb282,0,none⟩ = some (.string a0_0):=(Z5 BK282.out 0).trans rfl;have hcz10_1 : w9.cell? ⟨gb282,1,none⟩ = some (.int .i64 a0_1):=(Z5 BK282.out 1).trans rfl;have hcz10_2 : w9.cell? ⟨gb282,2,none⟩ = some (.int .i64 a0_2):=(Z5 BK282.out 2).trans rfl;have hcz10_3 : w9.cell? ⟨gb282,3,none⟩ = some (.int .i64 a0_3):=(Z5 BK282.out 3).trans rfl;have hcz10_4 : w9.cell? ⟨gb282,4,none⟩ = some (.slice A0_4 l0_4.length c0_4):=(Z5 BK282.out 4).trans rfl;have hfz10_0:=Z2 BK282.out 0;have hfz10_1:=Z2 BK282.out 1;have hfz10_2:=Z2 BK282.out 2;have hfz10_3:=Z2 BK282.out 3;have hfz10_4:=Z2 BK282.out 4;obtain ⟨Ao11,co11,eo11⟩:=Kd.N_slice HO289.out;subst eo11)|((with_reducible refine Z14 (f:=11) rfl ?_);refine goesL_ (some 10) rfl rfl Try.func11 (by kernel_rfl) rfl #[.agg #[.string t283,.int .i64 t284,.int .i64 t285,.int .i64 t286,.slice Ao11 t287.length co11]] rfl (by (try simp only [List.map_toArray,List.map_cons,List.map_nil]);first|done|rfl|(simp only [List.length_drop,List.length_take];rfl)) ?_;(with_reducible refine (cruciblelaw17_May.calls k t283 t284 t285 t286 _ _ t287 true _ ?side1 ?side2 A3.out).mono ?_);(case side1 => refine (Kd.N_reads' (e:=45) (base:=w.heap.size) (ok:=fun k_ => k_ ≠ gb282) (n:=t287.length) (c:=co11) ?_).2.2;exact (by (with_reducible repeat (first|apply Kd.N_alloc|apply Kd.N_drewN|apply Kd.N_drew));exact (Kd.N_mono (Kd.N_far (p:=⟨gb282,4,none⟩) (Kd.N_far (p:=⟨gb282,3,none⟩) (Kd.N_far (p:=⟨gb282,2,none⟩) (Kd.N_far (p:=⟨gb282,1,none⟩) (Kd.N_far (p:=⟨gb282,0,none⟩) (Kd.N_mono HO289.out (fun k_ hk => (⟨hk,hk⟩ : _ ∧ k_ ≠ gb282))) (fun _ hk => hk.2) (.string t283)) (fun _ hk => hk.2) (.int .i64 t284)) (fun _ hk => hk.2) (.int .i64 t285)) (fun _ hk => hk.2) (.int .i64 t286)) (fun _ hk => hk.2) (.slice Ao11 t287.length co11)) (fun _ h_ => h_.1))));(case side2 => exact (Kd.N_reads' HO289.out).2.1);rintro e w12 ⟨rfl,hb⟩;refine ⟨_,rfl,?_⟩;have n0_:=Aside0.mk (Kd.N_below (by (with_reducible repeat (first|apply Kd.N_alloc|apply Kd.N_drewN|apply Kd.N_drew));exact (Kd.N_mono (Kd.N_far (p:=⟨gb282,4,none⟩) (Kd.N_far (p:=⟨gb282,3,none⟩) (Kd.N_far (p:=⟨gb282,2,none⟩) (Kd.N_far (p:=⟨gb282,1,none⟩) (Kd.N_far (p:=⟨gb282,0,none⟩) (Kd.N_mono HO289.out (fun k_ hk => (⟨hk,hk⟩ : _ ∧ k_ ≠ gb282))) (fun _ hk => hk.2) (.string t283)) (fun _ hk => hk.2) (.int .i64 t284)) (fun _ hk => hk.2) (.int .i64 t285)) (fun _ hk => hk.2) (.int .i64 t286)) (fun _ hk => hk.2) (.slice Ao11 t287.length co11)) (fun _ h_ => h_.1))) hb);have n1_:=Aside0.mk (Z40 (g:=gb282) (o:=.cells #[.string t283,.int .i64 t284,.int .i64 t285,.int .i64 t286,.slice Ao11 t287.length co11] 24 (0,0)) (by (with_reducible repeat (first|refine Z0 ?_ _|refine Z3 ?_|refine Z1 ?_ _));refine Z9 (cs:=#[.string t283,.int .i64 t284,.int .i64 t285,.int .i64 t286,.slice A0_4 l0_4.length c0_4]) ?_ 4 _ rfl;(with_reducible repeat (first|refine Z0 ?_ _|refine Z3 ?_|refine Z1 ?_ _));refine Z9 (cs:=#[.string t283,.int .i64 t284,.int .i64 t285,.int .i64 a0_3,.slice A0_4 l0_4.length c0_4]) ?_ 3 _ rfl;(with_reducible repeat (first|refine Z0 ?_ _|refine Z3 ?_|refine Z1 ?_ _));refine Z9 (cs:=#[.string t283,.int .i64 t284,.int .i64 a0_2,.int .i64 a0_3,.slice A0_4 l0_4.length c0_4]) ?_ 2 _ rfl;(with_reducible repeat (first|refine Z0 ?_ _|refine Z3 ?_|refine Z1 ?_ _));refine Z9 (cs:=#[.string t283,.int .i64 a0_1,.int .i64 a0_2,.int .i64 a0_3,.slice A0_4 l0_4.length c0_4]) ?_ 1 _ rfl;(with_reducible repeat (first|refine Z0 ?_ _|refine Z3 ?_|refine Z1 ?_ _));refine Z9 (cs:=#[.string a0_0,.int .i64 a0_1,.int .i64 a0_2,.int .i64 a0_3,.slice A0_4 l0_4.length c0_4]) ?_ 0 _ rfl;(with_reducible repeat (first|refine Z0 ?_ _|refine Z3 ?_|refine Z1 ?_ _));exact BK282.out) hb);have n2_:=Aside0.mk (Z25 (by repeat (first|(with_reducible first|exact HB.out|apply Z7|apply Z4|apply Z6|refine Z8 ?_ GE282.out)|exact HB.out)) hb);clear HO289;clear BK282;clear HB;have HO289:=n0_;have BK282:=n1_;have HB:=n2_;clear n0_ n1_ n2_;(try clear hb);(try clear hb2);(try clear hk);(try clear hi);have hcz13_0 : w12.cell? ⟨gb282,0,none⟩ = some (.string t283):=(Z5 BK282.out 0).trans rfl;have hcz13_1 : w12.cell? ⟨gb282,1,none⟩ = some (.int .i64 t284):=(Z5 BK282.out 1).trans rfl;have hcz13_2 : w12.cell? ⟨gb282,2,none⟩ = some (.int .i64 t285):=(Z5 BK282.out 2).trans rfl;have hcz13_3 : w12.cell? ⟨gb282,3,none⟩ = some (.int .i64 t286):=(Z5 BK282.out 3).trans rfl;have hcz13_4 : w12.cell? ⟨gb282,4,none⟩ = some (.slice Ao11 t287.length co11):=(Z5 BK282.out 4).trans rfl)|((with_reducible refine Z14 (f:=15) rfl ?_);refine goesL_ (some 14) rfl rfl Try.func15 (by kernel_rfl) rfl #[.agg #[.string t283,.int .i64 t284,.int .i64 t285,.int .i64 t286,.slice Ao11 t287.length co11]] rfl (by (try simp only [List.map_toArray,List.map_cons,List.map_nil]);first|done|rfl|(simp only [List.length_drop,List.length_take];rfl)) ?_;(with_reducible refine (order_Doms.calls k t283 t284 t285 t286 _ _ t287 t292 _ ?side1 ?side2 A5.out).mono ?_);(case side1 => repeat (first|exact (Kd.N_reads' HO289.out).2.2|(with_reducible refine Kd.C_alloc ?_ _)|(with_reducible refine Kd.C_drewN ?_ _)|(with_reducible refine Kd.C_drew ?_)));(case side2 => exact (Kd.N_reads' HO289.out).2.1);rintro e w14 ⟨v293,rfl,ho0,hb⟩;refine ⟨_,rfl,?_⟩;have n0_:=Aside0.mk (Kd.N_elder' (by (with_reducible repeat (first|apply Kd.N_alloc|apply Kd.N_drewN|apply Kd.N_drew));exact HO289.out) (Kd.R_base ho0) hb);have n1_:=Aside0.mk (Kd.R_lower ho0 (Z27 (by repeat (first|(with_reducible first|exact HB.out|apply Z7|apply Z4|apply Z6|refine Z8 ?_ GE282.out)|exact HB.out))));have n2_:=Aside0.mk (Z40 (g:=gb282) (o:=.cells #[.string t283,.int .i64 t284,.int .i64 t285,.int .i64 t286,.slice Ao11 t287.length co11] 24 (0,0)) (by (with_reducible repeat (first|refine Z0 ?_ _|refine Z3 ?_|refine Z1 ?_ _));exact BK282.out) hb);have n3_:=Aside0.mk (Z25 (by repeat (first|(with_reducible first|exact HB.out|apply Z7|apply Z4|apply Z6|refine Z8 ?_ GE282.out)|exact HB.out)) hb);clear HO289;clear BK282;clear HB;have HO289:=n0_;have HO294:=n1_;have BK282:=n2_;have HB:=n3_;clear n0_ n1_ n2_ n3_;(try clear hb);(try clear hb2);(try clear hk);(try clear hi);(try clear ho0);have hcz15_0 : w14.cell? ⟨gb282,0,none⟩ = some (.string t283):=(Z5 BK282.out 0).trans rfl;have hcz15_1 : w14.cell? ⟨gb282,1,none⟩ = some (.int .i64 t284):=(Z5 BK282.out 1).trans rfl;have hcz15_2 : w14.cell? ⟨gb282,2,none⟩ = some (.int .i64 t285):=(Z5 BK282.out 2).trans rfl;have hcz15_3 : w14.cell? ⟨gb282,3,none⟩ = some (.int .i64 t286):=(Z5 BK282.out 3).trans rfl;have hcz15_4 : w14.cell? ⟨gb282,4,none⟩ = some (.slice Ao11 t287.length co11):=(Z5 BK282.out 4).trans rfl)|((with_reducible refine Z14 (f:=19) rfl ?_);refine goesL_ (some 16) rfl rfl Try.func19 (by kernel_rfl) rfl #[.agg #[.string t283,.int .i64 t284,.int .i64 t285,.int .i64 t286,.slice Ao11 t287.length co11]] rfl (by (try simp only [List.map_toArray,List.map_cons,List.map_nil]);first|done|rfl|(simp only [List.length_drop,List.length_take];rfl)) ?_;(with_reducible refine (crucibleref14_Reached.calls k t283 t284 t285 t286 _ _ t287 t295 _ ?side1 ?side2 A6.out).mono ?_);(case side1 => repeat (first|exact (Kd.N_reads' HO289.out).2.2|(with_reducible refine Kd.C_alloc ?_ _)|(with_reducible refine Kd.C_drewN ?_ _)|(with_reducible refine Kd.C_drew ?_)));(case side2 => exact (Kd.N_reads' HO289.out).2.1);rintro e w16 ⟨v296,rfl,ho0,hb⟩;refine ⟨_,rfl,?_⟩;have n0_:=Aside0.mk (Kd.N_elder' (by (with_reducible repeat (first|apply Kd.N_alloc|apply Kd.N_drewN|apply Kd.N_drew));exact HO289.out) (Kd.R_base ho0) hb);have n1_:=Aside0.mk (Kd.R_below (by (with_reducible repeat (first|apply Kd.R_alloc|apply Kd.R_drewN|apply Kd.R_drew));exact HO294.out) hb);have n2_:=Aside0.mk (Kd.R_lower ho0 (Z27 (by repeat (first|(with_reducible first|exact HB.out|apply Z7|apply Z4|apply Z6|refine Z8 ?_ GE282.out)|exact HB.out))));have n3_:=Aside0.mk (Z40 (g:=gb282) (o:=.cells #[.string t283,.int .i64 t284,.int .i64 t285,.int .i64 t286,.slice Ao11 t287.length co11] 24 (0,0)) (by (with_reducible repeat (first|refine Z0 ?_ _|refine Z3 ?_|refine Z1 ?_ _));exact BK282.out) hb);have n4_:=Aside0.mk (Z25 (by repeat (first|(with_reducible first|exact HB.out|apply Z7|apply Z4|apply Z6|refine Z8 ?_ GE282.out)|exact HB.out)) hb);clear HO289;clear HO294;clear BK282;clear HB;have HO289:=n0_;have HO294:=n1_;have HO297:=n2_;have BK282:=n3_;have HB:=n4_;clear n0_ n1_ n2_ n3_ n4_;(try clear hb);(try clear hb2);(try clear hk);(try clear hi);(try clear ho0)))
   go_loopg [5] k (fun kq v5 w' => ∃ (x5_1 : Int),v5 = .int .i64 x5_1 ∧ Aside0 (cruciblelaw17_OrderTree.l0 kq t292 t295 x5_1 t283 t284 t285 t286 t287 = some r) ∧ Aside0 (kq ≤ k) ∧ Aside0 (Kd.R (Kd.int .i64) 3 w' w.heap.size (fun _ => True) v293 t292) ∧ Aside0 (Kd.R Kd.bool 4 w' w.heap.size (fun _ => True) v296 t295) ∧ Aside0 (Kd.N k45 45 w' w.heap.size (fun k_ => some k_ ≠ (v293 : Value).ownBlock ∧ some k_ ≠ (v296 : Value).ownBlock ∧ k_ ≠ gb282) (.slice Ao11 t287.length co11) t287) ∧ Aside0 (w'.heap[gb282]? = some (.cells #[.string t283,.int .i64 t284,.int .i64 t285,.int .i64 t286,(.slice Ao11 t287.length co11)] 24 (0,0))) ∧ Aside0 (Below w.heap.size w w'))
   case atStart => exact ⟨(0),(by first|rfl|(simp;done)|(simp [*];done)),H',⟨Nat.le_refl _⟩,⟨by (with_reducible repeat (first|apply Kd.R_alloc|apply Kd.R_drewN|apply Kd.R_drew));exact HO294.out⟩,⟨by (with_reducible repeat (first|apply Kd.R_alloc|apply Kd.R_drewN|apply Kd.R_drew));exact HO297.out⟩,⟨by (with_reducible repeat (first|apply Kd.N_alloc|apply Kd.N_drewN|apply Kd.N_drew));exact Kd.N_mono HO289.out (fun _ hk => ⟨hk.1.2,⟨hk.2,hk.1.1⟩⟩)⟩,⟨by (with_reducible repeat (first|refine Z0 ?_ _|refine Z3 ?_|refine Z1 ?_ _));exact BK282.out⟩,⟨by repeat (first|(with_reducible first|exact HB.out|apply Z7|apply Z4|apply Z6|refine Z8 ?_ GE282.out)|exact HB.out)⟩⟩
   case round =>
    clear H';try clear c4
    try clear hcz10_0
    try clear hcz10_1
    try clear hcz10_2
    try clear hcz10_3
    try clear hcz10_4
    try clear hcz13_0
    try clear hcz13_1
    try clear hcz13_2
    try clear hcz13_3
    try clear hcz13_4
    try clear hcz15_0
    try clear hcz15_1
    try clear hcz15_2
    try clear hcz15_3
    try clear hcz15_4
    try clear hcz8_0
    try clear hcz8_1
    try clear hcz8_2
    try clear hcz8_3
    try clear hcz8_4
    try clear hfz10_0
    try clear hfz10_1
    try clear hfz10_2
    try clear hfz10_3
    try clear hfz10_4
    obtain ⟨x5_1,rfl,HA,HK1,HO_3,HO_4,HO_283004,BK282,HB⟩:=hrel
    cases gk with
    | zero => exact absurd HA.out (by simp [cruciblelaw17_OrderTree.l0])
    | succ k1 =>
     have H:=HA.out
     clear HA;simp only [cruciblelaw17_OrderTree.l0] at H;by_cases c17 : x5_1 < (t292.length : Int)
     · rw [if_pos c17] at H;have c17b0 : decide (x5_1 < (t292.length : Int)) = true:=decide_eq_true c17
       clear c17;have HC18:=Aside0.mk H
       clear H;obtain ⟨Ao19,co19,eo19⟩:=Kd.R_slice HO_3.out
       subst eo19;go_upto_region 9 with (fail)
       go_cut [37] (fun v37 wc => ∃ (kq : Nat) (x37_17 : Bool),v37 = .bool x37_17 ∧ Aside0 (cruciblelaw17_OrderTree.j1 kq t292 t295 x5_1 x37_17 t283 t284 t285 t286 t287 = some r) ∧ Aside0 (kq ≤ k1) ∧ Aside0 (Kd.R (Kd.int .i64) 3 wc w.heap.size (fun _ => True) (.slice Ao19 t292.length co19) t292) ∧ Aside0 (Kd.R Kd.bool 4 wc w.heap.size (fun _ => True) v296 t295) ∧ Aside0 (Kd.N k45 45 wc w.heap.size (fun k_ => some k_ ≠ ((.slice Ao19 t292.length co19) : Value).ownBlock ∧ some k_ ≠ (v296 : Value).ownBlock ∧ k_ ≠ gb282) (.slice Ao11 t287.length co11) t287) ∧ Aside0 (wc.heap[gb282]? = some (.cells #[.string t283,.int .i64 t284,.int .i64 t285,.int .i64 t286,(.slice Ao11 t287.length co11)] 24 (0,0))) ∧ Aside0 (Below w.heap.size w wc))
       case first =>
        have H:=HC18.out
        clear HC18;by_cases c20 : 0 ≤ x5_1
        · rw [if_pos c20] at H;have c20b0 : decide (0 ≤ x5_1) = true:=decide_eq_true c20
          clear c20;(first|rw [c20b0]|(simp only [i64_w,i32_w];rw [c20b0])|skip);by_cases c21 : x5_1 = 0
          · rw [if_pos c21] at H;have c21b0 : (x5_1 == 0) = true:=beq_iff_eq.mpr c21
            clear c21;have H' := Aside0.mk H
            clear H;try go_wp2
            have n0_:=Aside0.mk (Kd.R_drew HO_3.out)
            have n1_:=Aside0.mk (Kd.R_drew HO_4.out)
            have n2_:=Aside0.mk (Kd.N_drew HO_283004.out)
            have n3_:=Aside0.mk (Z3 BK282.out)
            have n4_:=Aside0.mk (Z6 HB.out)
            clear HO_3;clear HO_4;clear HO_283004;clear BK282;clear HB;have HO_3:=n0_
            have HO_4:=n1_
            have HO_283004:=n2_
            have BK282:=n3_
            have HB:=n4_
            clear n0_ n1_ n2_ n3_ n4_;have p299 : 0 ≤ (x5_1 : Int):=of_decide_eq_true (by first|(with_reducible assumption)|assumption)
            have q299 : x5_1 < (t292.length : Int):=of_decide_eq_true (by first|(with_reducible assumption)|assumption)
            obtain ⟨ad299,e299,hx299_0⟩:=Kd.at_int (Kd.R_reads' HO_3.out).2.2 x5_1 p299 q299
            cases e299;replace p299:=eq_true p299
            replace q299:=eq_true q299
            refine start_ (n:=15) (S:=fun w' => w'.cell? (ad299.add (x5_1).toNat) = some (.int .i64 (rd t292 x5_1))) (ds:=[]) #[false,false,false,false,false,false,false,false,false,false,false,false,false,false,false] (by kernel_rfl) rfl rfl (hx299_0) (fun hHeld => ?_);refine Z74 cruciblelaw17_OrderTree.tab9 cruciblelaw17_OrderTree.bits9 (fun HT_ HW_ => ?_);generalize wr.drew = w22 at HO_3 HO_4 HO_283004 BK282 HB hx299_0 hHeld ⊢;refine pure_ (i:=0) (N:=some 23) (v:=?_) (a' := ?_) #[true,false,false,false,false,false,false,false,false,false,false,false,false,false,false] rfl rfl (any_of HT_.out (by kernel_rfl)) (fun _ _ _ h => h) (Or.inl ⟨by rfl,?_⟩) ?_ ?_;rotate_left
            · intro w';go_simp
              with_reducible rfl
            rotate_left
            · simp only [Act.put,List.setIfInBounds_toArray,List.set_cons_zero,List.set_cons_succ,i64_w,i32_w];rfl
            refine pure_ (i:=1) (N:=some 24) (v:=?_) (a' := ?_) #[true,true,false,false,false,false,false,false,false,false,false,false,false,false,false] rfl rfl (any_of HT_.out (by kernel_rfl)) (fun _ _ _ h => h) (Or.inl ⟨by rfl,?_⟩) ?_ ?_;rotate_left
            · intro w';go_simp
              with_reducible rfl
            rotate_left
            · simp only [Act.put,List.setIfInBounds_toArray,List.set_cons_zero,List.set_cons_succ,i64_w,i32_w];rfl
            refine pure_ (i:=2) (N:=some 25) (v:=?_) (a' := ?_) #[true,true,true,false,false,false,false,false,false,false,false,false,false,false,false] rfl rfl (any_of HT_.out (by kernel_rfl)) (fun _ _ _ h => h) (Or.inl ⟨by rfl,?_⟩) ?_ ?_;rotate_left
            · intro w';go_simp
              with_reducible rfl
            rotate_left
            · simp only [Act.put,List.setIfInBounds_toArray,List.set_cons_zero,List.set_cons_succ,i64_w,i32_w];rfl
            refine pure_ (i:=5) (N:=some 28) (v:=?_) (a' := ?_) #[true,true,true,false,false,true,false,false,false,false,false,false,false,false,false] rfl rfl (any_of HT_.out (by kernel_rfl)) (fun _ _ _ h => h) (Or.inl ⟨by rfl,?_⟩) ?_ ?_;rotate_left
            · intro w';go_simp
              with_reducible rfl
            rotate_left
            · simp only [Act.put,List.setIfInBounds_toArray,List.set_cons_zero,List.set_cons_succ,i64_w,i32_w];rfl
            refine pure_ (i:=6) (N:=some 29) (v:=?_) (a' := ?_) #[true,true,true,false,false,true,true,false,false,false,false,false,false,false,false] rfl rfl (any_of HT_.out (by kernel_rfl)) (fun _ _ _ h => h) (Or.inl ⟨by rfl,?_⟩) ?_ ?_;rotate_left
            · intro w';go_simp
              with_reducible rfl
            rotate_left
            · simp only [Act.put,List.setIfInBounds_toArray,List.set_cons_zero,List.set_cons_succ,i64_w,i32_w];rfl
            refine pure_ (i:=7) (N:=some 30) (v:=?_) (a' := ?_) #[true,true,true,false,false,true,true,true,false,false,false,false,false,false,false] rfl rfl (any_of HT_.out (by kernel_rfl)) (fun _ _ _ h => h) (Or.inl ⟨by rfl,?_⟩) ?_ ?_;rotate_left
            · intro w';go_simp
              with_reducible rfl
            rotate_left
            · simp only [Act.put,List.setIfInBounds_toArray,List.set_cons_zero,List.set_cons_succ,i64_w,i32_w];rfl
            refine pure_ (i:=8) (N:=some 31) (v:=undef) (a' := ?_) #[true,true,true,false,false,true,true,true,true,false,false,false,false,false,false] rfl rfl (any_of HT_.out (by kernel_rfl)) (fun _ _ _ h => h) (Or.inr ⟨by rfl,rfl⟩) ?_ ?_;rotate_left
            · simp only [Act.put,List.setIfInBounds_toArray,List.set_cons_zero,List.set_cons_succ,i64_w,i32_w];rfl
            refine pure_ (i:=9) (N:=some 32) (v:=undef) (a' := ?_) #[true,true,true,false,false,true,true,true,true,true,false,false,false,false,false] rfl rfl (any_of HT_.out (by kernel_rfl)) (fun _ _ _ h => h) (Or.inr ⟨by rfl,rfl⟩) ?_ ?_;rotate_left
            · simp only [Act.put,List.setIfInBounds_toArray,List.set_cons_zero,List.set_cons_succ,i64_w,i32_w];rfl
            refine pure_ (i:=10) (N:=some 33) (v:=undef) (a' := ?_) #[true,true,true,false,false,true,true,true,true,true,true,false,false,false,false] rfl rfl (any_of HT_.out (by kernel_rfl)) (fun _ _ _ h => h) (Or.inr ⟨by rfl,rfl⟩) ?_ ?_;rotate_left
            · simp only [Act.put,List.setIfInBounds_toArray,List.set_cons_zero,List.set_cons_succ,i64_w,i32_w];rfl
            refine pure_ (i:=11) (N:=some 34) (v:=undef) (a' := ?_) #[true,true,true,false,false,true,true,true,true,true,true,true,false,false,false] rfl rfl (any_of HT_.out (by kernel_rfl)) (fun _ _ _ h => h) (Or.inr ⟨by rfl,rfl⟩) ?_ ?_;rotate_left
            · simp only [Act.put,List.setIfInBounds_toArray,List.set_cons_zero,List.set_cons_succ,i64_w,i32_w];rfl
            refine pure_ (i:=12) (N:=some 35) (v:=undef) (a' := ?_) #[true,true,true,false,false,true,true,true,true,true,true,true,true,false,false] rfl rfl (any_of HT_.out (by kernel_rfl)) (fun _ _ _ h => h) (Or.inr ⟨by rfl,rfl⟩) ?_ ?_;rotate_left
            · simp only [Act.put,List.setIfInBounds_toArray,List.set_cons_zero,List.set_cons_succ,i64_w,i32_w];rfl
            refine pure_ (i:=13) (N:=some 36) (v:=?_) (a' := ?_) #[true,true,true,false,false,true,true,true,true,true,true,true,true,true,false] rfl rfl (any_of HT_.out (by kernel_rfl)) (fun _ _ _ h => h) (Or.inl ⟨by rfl,?_⟩) ?_ ?_;rotate_left
            · intro w';go_simp
              with_reducible rfl
            rotate_left
            · simp only [Act.put,List.setIfInBounds_toArray,List.set_cons_zero,List.set_cons_succ,i64_w,i32_w];rfl
            refine take_ (i:=3) (N:=some 26) (v:=?_) (a' := ?_) #[true,true,true,true,false,true,true,true,true,true,true,true,true,true,false] rfl rfl (Z67 HT_.out HW_.out (by kernel_rfl)) (fun _ _ _ h => h) (Or.inl ⟨by rfl,?_⟩) hHeld ?_ ?_;rotate_left
            · intro w' s0;go_simp
              with_reducible rfl
            rotate_left
            · simp only [Act.put,List.setIfInBounds_toArray,List.set_cons_zero,List.set_cons_succ,i64_w,i32_w];rfl
            refine pure_ (i:=4) (N:=some 27) (v:=?_) (a' := ?_) #[true,true,true,true,true,true,true,true,true,true,true,true,true,true,false] rfl rfl (any_of HT_.out (by kernel_rfl)) (fun _ _ _ h => h) (Or.inl ⟨by rfl,?_⟩) ?_ ?_;rotate_left
            · intro w';go_simp
              with_reducible rfl
            rotate_left
            · simp only [Act.put,List.setIfInBounds_toArray,List.set_cons_zero,List.set_cons_succ,i64_w,i32_w];rfl
            refine pure_ (i:=14) (N:=some 37) (v:=?_) (a' := ?_) #[true,true,true,true,true,true,true,true,true,true,true,true,true,true,true] rfl rfl (any_of HT_.out (by kernel_rfl)) (fun _ _ _ h => h) (Or.inl ⟨by rfl,?_⟩) ?_ ?_;rotate_left
            · intro w';go_simp
              with_reducible rfl
            rotate_left
            · simp only [Act.put,List.setIfInBounds_toArray,List.set_cons_zero,List.set_cons_succ,i64_w,i32_w];rfl
            refine done_ (Z83 HT_.out (by kernel_rfl)) ?_;try go_wp2
            go_meet
            case rel => exact ⟨_,(((decide ((rd t292 x5_1) < 0)) != true)),(by first|rfl|(simp;done)|(simp [*];done)),H',⟨by have:=HK1.out;first|omega|exact Nat.le_refl _⟩,⟨by (with_reducible repeat (first|apply Kd.R_alloc|apply Kd.R_drewN|apply Kd.R_drew));exact HO_3.out⟩,⟨by (with_reducible repeat (first|apply Kd.R_alloc|apply Kd.R_drewN|apply Kd.R_drew));exact HO_4.out⟩,⟨by (with_reducible repeat (first|apply Kd.N_alloc|apply Kd.N_drewN|apply Kd.N_drew));exact HO_283004.out⟩,⟨by (with_reducible repeat (first|refine Z0 ?_ _|refine Z3 ?_|refine Z1 ?_ _));exact BK282.out⟩,⟨by repeat (first|(with_reducible first|exact HB.out|apply Z7|apply Z4|apply Z6|refine Z8 ?_ GE282.out)|exact HB.out)⟩⟩
          · rw [if_neg c21] at H;have c21b0 : (x5_1 == 0) = false:=beq_eq_false_iff_ne.mpr c21
            by_cases c23 : x5_1 < (t295.length : Int)
            · rw [if_pos c23] at H;have c23b0 : decide (x5_1 < (t295.length : Int)) = true:=decide_eq_true c23
              clear c23;have H' := Aside0.mk H
              clear H;try go_wp2
              have n0_:=Aside0.mk (Kd.R_drew HO_3.out)
              have n1_:=Aside0.mk (Kd.R_drew HO_4.out)
              have n2_:=Aside0.mk (Kd.N_drew HO_283004.out)
              have n3_:=Aside0.mk (Z3 BK282.out)
              have n4_:=Aside0.mk (Z6 HB.out)
              clear HO_3;clear HO_4;clear HO_283004;clear BK282;clear HB;have HO_3:=n0_
              have HO_4:=n1_
              have HO_283004:=n2_
              have BK282:=n3_
              have HB:=n4_
              clear n0_ n1_ n2_ n3_ n4_;have p299 : 0 ≤ (x5_1 : Int):=of_decide_eq_true (by first|(with_reducible assumption)|assumption)
              have q299 : x5_1 < (t292.length : Int):=of_decide_eq_true (by first|(with_reducible assumption)|assumption)
              obtain ⟨ad299,e299,hx299_0⟩:=Kd.at_int (Kd.R_reads' HO_3.out).2.2 x5_1 p299 q299
              cases e299;replace p299:=eq_true p299
              replace q299:=eq_true q299
              obtain ⟨Ao25,co25,eo25⟩:=Kd.R_slice HO_4.out
              (first|subst eo25|(injection eo25 with f1_ f2_ f3_;have f4_:=f1_.symm;have f5_:=f3_.symm;clear f1_ f2_ f3_;subst f4_;subst f5_));have p300 : 0 ≤ (x5_1 : Int):=of_decide_eq_true (by first|(with_reducible assumption)|assumption)
              have q300 : x5_1 < (t295.length : Int):=of_decide_eq_true (by first|(with_reducible assumption)|assumption)
              obtain ⟨ad300,e300,hx300_0⟩:=Kd.at_bool (Kd.R_reads' HO_4.out).2.2 x5_1 p300 q300
              cases e300;replace p300:=eq_true p300
              replace q300:=eq_true q300
              refine start_ (n:=15) (S:=fun w' => w'.cell? (ad299.add (x5_1).toNat) = some (.int .i64 (rd t292 x5_1)) ∧ w'.cell? (ad300.add (x5_1).toNat) = some (.bool (rdOf false t295 x5_1))) (ds:=[]) #[false,false,false,false,false,false,false,false,false,false,false,false,false,false,false] (by kernel_rfl) rfl rfl ⟨hx299_0,hx300_0⟩ (fun hHeld => ?_);refine Z74 cruciblelaw17_OrderTree.tab9 cruciblelaw17_OrderTree.bits9 (fun HT_ HW_ => ?_);generalize wr.drew = w24 at HO_3 HO_4 HO_283004 BK282 HB hx299_0 hx300_0 hHeld ⊢;refine pure_ (i:=0) (N:=some 23) (v:=?_) (a' := ?_) #[true,false,false,false,false,false,false,false,false,false,false,false,false,false,false] rfl rfl (any_of HT_.out (by kernel_rfl)) (fun _ _ _ h => h) (Or.inl ⟨by rfl,?_⟩) ?_ ?_;rotate_left
              · intro w';go_simp
                with_reducible rfl
              rotate_left
              · simp only [Act.put,List.setIfInBounds_toArray,List.set_cons_zero,List.set_cons_succ,i64_w,i32_w];rfl
              refine pure_ (i:=1) (N:=some 24) (v:=?_) (a' := ?_) #[true,true,false,false,false,false,false,false,false,false,false,false,false,false,false] rfl rfl (any_of HT_.out (by kernel_rfl)) (fun _ _ _ h => h) (Or.inl ⟨by rfl,?_⟩) ?_ ?_;rotate_left
              · intro w';go_simp
                with_reducible rfl
              rotate_left
              · simp only [Act.put,List.setIfInBounds_toArray,List.set_cons_zero,List.set_cons_succ,i64_w,i32_w];rfl
              refine pure_ (i:=2) (N:=some 25) (v:=?_) (a' := ?_) #[true,true,true,false,false,false,false,false,false,false,false,false,false,false,false] rfl rfl (any_of HT_.out (by kernel_rfl)) (fun _ _ _ h => h) (Or.inl ⟨by rfl,?_⟩) ?_ ?_;rotate_left
              · intro w';go_simp
                with_reducible rfl
              rotate_left
              · simp only [Act.put,List.setIfInBounds_toArray,List.set_cons_zero,List.set_cons_succ,i64_w,i32_w];rfl
              refine pure_ (i:=5) (N:=some 28) (v:=?_) (a' := ?_) #[true,true,true,false,false,true,false,false,false,false,false,false,false,false,false] rfl rfl (any_of HT_.out (by kernel_rfl)) (fun _ _ _ h => h) (Or.inl ⟨by rfl,?_⟩) ?_ ?_;rotate_left
              · intro w';go_simp
                with_reducible rfl
              rotate_left
              · simp only [Act.put,List.setIfInBounds_toArray,List.set_cons_zero,List.set_cons_succ,i64_w,i32_w];rfl
              refine pure_ (i:=6) (N:=some 29) (v:=?_) (a' := ?_) #[true,true,true,false,false,true,true,false,false,false,false,false,false,false,false] rfl rfl (any_of HT_.out (by kernel_rfl)) (fun _ _ _ h => h) (Or.inl ⟨by rfl,?_⟩) ?_ ?_;rotate_left
              · intro w';go_simp
                with_reducible rfl
              rotate_left
              · simp only [Act.put,List.setIfInBounds_toArray,List.set_cons_zero,List.set_cons_succ,i64_w,i32_w];rfl
              refine pure_ (i:=7) (N:=some 30) (v:=?_) (a' := ?_) #[true,true,true,false,false,true,true,true,false,false,false,false,false,false,false] rfl rfl (any_of HT_.out (by kernel_rfl)) (fun _ _ _ h => h) (Or.inl ⟨by rfl,?_⟩) ?_ ?_;rotate_left
              · intro w';go_simp
                with_reducible rfl
              rotate_left
              · simp only [Act.put,List.setIfInBounds_toArray,List.set_cons_zero,List.set_cons_succ,i64_w,i32_w];rfl
              refine pure_ (i:=8) (N:=some 31) (v:=?_) (a' := ?_) #[true,true,true,false,false,true,true,true,true,false,false,false,false,false,false] rfl rfl (any_of HT_.out (by kernel_rfl)) (fun _ _ _ h => h) (Or.inl ⟨by rfl,?_⟩) ?_ ?_;rotate_left
              · intro w';go_simp
                with_reducible rfl
              rotate_left
              · simp only [Act.put,List.setIfInBounds_toArray,List.set_cons_zero,List.set_cons_succ,i64_w,i32_w];rfl
              refine pure_ (i:=9) (N:=some 32) (v:=?_) (a' := ?_) #[true,true,true,false,false,true,true,true,true,true,false,false,false,false,false] rfl rfl (any_of HT_.out (by kernel_rfl)) (fun _ _ _ h => h) (Or.inl ⟨by rfl,?_⟩) ?_ ?_;rotate_left
              · intro w';go_simp
                with_reducible rfl
              rotate_left
              · simp only [Act.put,List.setIfInBounds_toArray,List.set_cons_zero,List.set_cons_succ,i64_w,i32_w];rfl
              refine pure_ (i:=10) (N:=some 33) (v:=?_) (a' := ?_) #[true,true,true,false,false,true,true,true,true,true,true,false,false,false,false] rfl rfl (any_of HT_.out (by kernel_rfl)) (fun _ _ _ h => h) (Or.inl ⟨by rfl,?_⟩) ?_ ?_;rotate_left
              · intro w';go_simp
                with_reducible rfl
              rotate_left
              · simp only [Act.put,List.setIfInBounds_toArray,List.set_cons_zero,List.set_cons_succ,i64_w,i32_w];rfl
              refine take_ (i:=3) (N:=some 26) (v:=?_) (a' := ?_) #[true,true,true,true,false,true,true,true,true,true,true,false,false,false,false] rfl rfl (Z67 HT_.out HW_.out (by kernel_rfl)) (fun _ _ _ h => h) (Or.inl ⟨by rfl,?_⟩) hHeld ?_ ?_;rotate_left
              · rintro w' ⟨s0,s1⟩;go_simp
                with_reducible rfl
              rotate_left
              · simp only [Act.put,List.setIfInBounds_toArray,List.set_cons_zero,List.set_cons_succ,i64_w,i32_w];rfl
              refine pure_ (i:=4) (N:=some 27) (v:=?_) (a' := ?_) #[true,true,true,true,true,true,true,true,true,true,true,false,false,false,false] rfl rfl (any_of HT_.out (by kernel_rfl)) (fun _ _ _ h => h) (Or.inl ⟨by rfl,?_⟩) ?_ ?_;rotate_left
              · intro w';go_simp
                with_reducible rfl
              rotate_left
              · simp only [Act.put,List.setIfInBounds_toArray,List.set_cons_zero,List.set_cons_succ,i64_w,i32_w];rfl
              refine take_ (i:=11) (N:=some 34) (v:=?_) (a' := ?_) #[true,true,true,true,true,true,true,true,true,true,true,true,false,false,false] rfl rfl (Z67 HT_.out HW_.out (by kernel_rfl)) (fun _ _ _ h => h) (Or.inl ⟨by rfl,?_⟩) hHeld ?_ ?_;rotate_left
              · rintro w' ⟨s0,s1⟩;go_simp
                with_reducible rfl
              rotate_left
              · simp only [Act.put,List.setIfInBounds_toArray,List.set_cons_zero,List.set_cons_succ,i64_w,i32_w];rfl
              refine pure_ (i:=12) (N:=some 35) (v:=?_) (a' := ?_) #[true,true,true,true,true,true,true,true,true,true,true,true,true,false,false] rfl rfl (any_of HT_.out (by kernel_rfl)) (fun _ _ _ h => h) (Or.inl ⟨by rfl,?_⟩) ?_ ?_;rotate_left
              · intro w';go_simp
                with_reducible rfl
              rotate_left
              · simp only [Act.put,List.setIfInBounds_toArray,List.set_cons_zero,List.set_cons_succ,i64_w,i32_w];rfl
              refine pure_ (i:=13) (N:=some 36) (v:=?_) (a' := ?_) #[true,true,true,true,true,true,true,true,true,true,true,true,true,true,false] rfl rfl (any_of HT_.out (by kernel_rfl)) (fun _ _ _ h => h) (Or.inl ⟨by rfl,?_⟩) ?_ ?_;rotate_left
              · intro w';go_simp
                with_reducible rfl
              rotate_left
              · simp only [Act.put,List.setIfInBounds_toArray,List.set_cons_zero,List.set_cons_succ,i64_w,i32_w];rfl
              refine pure_ (i:=14) (N:=some 37) (v:=?_) (a' := ?_) #[true,true,true,true,true,true,true,true,true,true,true,true,true,true,true] rfl rfl (any_of HT_.out (by kernel_rfl)) (fun _ _ _ h => h) (Or.inl ⟨by rfl,?_⟩) ?_ ?_;rotate_left
              · intro w';go_simp
                with_reducible rfl
              rotate_left
              · simp only [Act.put,List.setIfInBounds_toArray,List.set_cons_zero,List.set_cons_succ,i64_w,i32_w];rfl
              refine done_ (Z83 HT_.out (by kernel_rfl)) ?_;try go_wp2
              go_meet
              case rel => exact ⟨_,(((decide ((rd t292 x5_1) < 0)) != (!(rdOf false t295 x5_1)))),(by first|rfl|(simp;done)|(simp [*];done)),H',⟨by have:=HK1.out;first|omega|exact Nat.le_refl _⟩,⟨by (with_reducible repeat (first|apply Kd.R_alloc|apply Kd.R_drewN|apply Kd.R_drew));exact HO_3.out⟩,⟨by (with_reducible repeat (first|apply Kd.R_alloc|apply Kd.R_drewN|apply Kd.R_drew));exact HO_4.out⟩,⟨by (with_reducible repeat (first|apply Kd.N_alloc|apply Kd.N_drewN|apply Kd.N_drew));exact HO_283004.out⟩,⟨by (with_reducible repeat (first|refine Z0 ?_ _|refine Z3 ?_|refine Z1 ?_ _));exact BK282.out⟩,⟨by repeat (first|(with_reducible first|exact HB.out|apply Z7|apply Z4|apply Z6|refine Z8 ?_ GE282.out)|exact HB.out)⟩⟩
            · rw [if_neg c23] at H;exact absurd H (by simp)
        · rw [if_neg c20] at H;exact absurd H (by simp)
       case rest =>
        clear HC18;try clear c4
        try clear c17
        try clear c17b0
        try clear hcz10_0
        try clear hcz10_1
        try clear hcz10_2
        try clear hcz10_3
        try clear hcz10_4
        try clear hcz13_0
        try clear hcz13_1
        try clear hcz13_2
        try clear hcz13_3
        try clear hcz13_4
        try clear hcz15_0
        try clear hcz15_1
        try clear hcz15_2
        try clear hcz15_3
        try clear hcz15_4
        try clear hcz8_0
        try clear hcz8_1
        try clear hcz8_2
        try clear hcz8_3
        try clear hcz8_4
        try clear hfz10_0
        try clear hfz10_1
        try clear hfz10_2
        try clear hfz10_3
        try clear hfz10_4
        obtain ⟨kq,x37_17,rfl,HA,HJ17,HO_3,HO_4,HO_283004,BK282,HB⟩:=hcut
        cases kq with
        | zero => exact absurd HA.out (by simp [cruciblelaw17_OrderTree.j1])
        | succ kj17 =>
         have H:=HA.out
         clear HA;simp only [cruciblelaw17_OrderTree.j1] at H;by_cases c26 : x37_17 = true
         · subst c26;have H1 : (some false) = some r:=by rw [if_pos rfl] at H;exact H
           clear H;have H:=H1
           clear H1;obtain rfl:=Option.some.inj H
           go_wp2
           go_ret
           exact ⟨by first|rfl|(simp [Z16,Z15] <;> rfl)|(simp [*,Z16,Z15] <;> rfl),by repeat (first|(with_reducible first|exact HB.out|apply Z7|apply Z4|apply Z6|refine Z8 ?_ GE282.out)|exact HB.out)⟩
         · replace c26:=Bool.eq_false_iff.mpr c26
           subst c26;have H1 : (cruciblelaw17_OrderTree.l1 kj17 t292 t295 x5_1 0 t283 t284 t285 t286 t287) = some r:=by rw [if_neg (show ¬ (false = true) by decide)] at H;exact H
           clear H;have H:=H1
           clear H1;have H' := Aside0.mk H
           clear H;go_wp2
           go_loopg [6] kj17 (fun kq v6 w' => ∃ (x6_3 : Int),v6 = .int .i64 x6_3 ∧ Aside0 (cruciblelaw17_OrderTree.l1 kq t292 t295 x5_1 x6_3 t283 t284 t285 t286 t287 = some r) ∧ Aside0 (kq ≤ kj17) ∧ Aside0 (Kd.R (Kd.int .i64) 3 w' w.heap.size (fun _ => True) (.slice Ao19 t292.length co19) t292) ∧ Aside0 (Kd.R Kd.bool 4 w' w.heap.size (fun _ => True) v296 t295) ∧ Aside0 (Kd.N k45 45 w' w.heap.size (fun k_ => some k_ ≠ ((.slice Ao19 t292.length co19) : Value).ownBlock ∧ some k_ ≠ (v296 : Value).ownBlock ∧ k_ ≠ gb282) (.slice Ao11 t287.length co11) t287) ∧ Aside0 (w'.heap[gb282]? = some (.cells #[.string t283,.int .i64 t284,.int .i64 t285,.int .i64 t286,(.slice Ao11 t287.length co11)] 24 (0,0))) ∧ Aside0 (Below w.heap.size w w'))
           case atStart => exact ⟨(0),(by first|rfl|(simp;done)|(simp [*];done)),H',⟨Nat.le_refl _⟩,⟨by (with_reducible repeat (first|apply Kd.R_alloc|apply Kd.R_drewN|apply Kd.R_drew));exact HO_3.out⟩,⟨by (with_reducible repeat (first|apply Kd.R_alloc|apply Kd.R_drewN|apply Kd.R_drew));exact HO_4.out⟩,⟨by (with_reducible repeat (first|apply Kd.N_alloc|apply Kd.N_drewN|apply Kd.N_drew));exact HO_283004.out⟩,⟨by (with_reducible repeat (first|refine Z0 ?_ _|refine Z3 ?_|refine Z1 ?_ _));exact BK282.out⟩,⟨by repeat (first|(with_reducible first|exact HB.out|apply Z7|apply Z4|apply Z6|refine Z8 ?_ GE282.out)|exact HB.out)⟩⟩
           case round =>
            clear H';try clear c4
            try clear c17
            try clear c17b0
            try clear c26
            try clear hcz10_0
            try clear hcz10_1
            try clear hcz10_2
            try clear hcz10_3
            try clear hcz10_4
            try clear hcz13_0
            try clear hcz13_1
            try clear hcz13_2
            try clear hcz13_3
            try clear hcz13_4
            try clear hcz15_0
            try clear hcz15_1
            try clear hcz15_2
            try clear hcz15_3
            try clear hcz15_4
            try clear hcz8_0
            try clear hcz8_1
            try clear hcz8_2
            try clear hcz8_3
            try clear hcz8_4
            try clear hfz10_0
            try clear hfz10_1
            try clear hfz10_2
            try clear hfz10_3
            try clear hfz10_4
            obtain ⟨x6_3,rfl,HA,HK3,HO_3,HO_4,HO_283004,BK282,HB⟩:=hrel
            cases gk with
            | zero => exact absurd HA.out (by simp [cruciblelaw17_OrderTree.l1])
            | succ k3 =>
             have H:=HA.out
             clear HA;simp only [cruciblelaw17_OrderTree.l1] at H;have HC27:=Aside0.mk H
             clear H;go_upto_region 12 with (fail)
             go_cut [48] (fun v48 wc => ∃ (kq : Nat) (x48_26 : Bool),v48 = .bool x48_26 ∧ Aside0 (cruciblelaw17_OrderTree.j3 kq t292 t295 x5_1 x6_3 x48_26 t283 t284 t285 t286 t287 = some r) ∧ Aside0 (kq ≤ k3) ∧ Aside0 (Kd.R (Kd.int .i64) 3 wc w.heap.size (fun _ => True) (.slice Ao19 t292.length co19) t292) ∧ Aside0 (Kd.R Kd.bool 4 wc w.heap.size (fun _ => True) v296 t295) ∧ Aside0 (Kd.N k45 45 wc w.heap.size (fun k_ => some k_ ≠ ((.slice Ao19 t292.length co19) : Value).ownBlock ∧ some k_ ≠ (v296 : Value).ownBlock ∧ k_ ≠ gb282) (.slice Ao11 t287.length co11) t287) ∧ Aside0 (wc.heap[gb282]? = some (.cells #[.string t283,.int .i64 t284,.int .i64 t285,.int .i64 t286,(.slice Ao11 t287.length co11)] 24 (0,0))) ∧ Aside0 (Below w.heap.size w wc))
             case first =>
              have H:=HC27.out
              clear HC27;by_cases c28 : 0 ≤ x5_1
              · rw [if_pos c28] at H;have c28b0 : decide (0 ≤ x5_1) = true:=decide_eq_true c28
                clear c28;(first|rw [c28b0]|(simp only [i64_w,i32_w];rw [c28b0])|skip);by_cases c29 : x5_1 < (t292.length : Int)
                · rw [if_pos c29] at H;have c29b0 : decide (x5_1 < (t292.length : Int)) = true:=decide_eq_true c29
                  clear c29;by_cases c30 : (rd t292 x5_1) ≥ 0
                  · rw [if_pos c30] at H;have c30b0 : decide (0 ≤ (rd t292 x5_1)) = true:=decide_eq_true c30
                    clear c30;have H' := Aside0.mk H
                    clear H;have p301 : 0 ≤ (x5_1 : Int):=of_decide_eq_true (by first|(with_reducible assumption)|assumption)
                    have q301 : x5_1 < (t292.length : Int):=of_decide_eq_true (by first|(with_reducible assumption)|assumption)
                    obtain ⟨ad301,e301,hx301_0⟩:=Kd.at_int (Kd.R_reads' HO_3.out).2.2 x5_1 p301 q301
                    cases e301;replace p301:=eq_true p301
                    replace q301:=eq_true q301
                    go_wp2
                    go_meet
                    case rel => exact ⟨_,(decide (x6_3 < (t292.length : Int))),(by first|rfl|(simp;done)|(simp [*];done)),H',⟨by have:=HK1.out;have:=HJ17.out;have:=HK3.out;first|omega|exact Nat.le_refl _⟩,⟨by (with_reducible repeat (first|apply Kd.R_alloc|apply Kd.R_drewN|apply Kd.R_drew));exact HO_3.out⟩,⟨by (with_reducible repeat (first|apply Kd.R_alloc|apply Kd.R_drewN|apply Kd.R_drew));exact HO_4.out⟩,⟨by (with_reducible repeat (first|apply Kd.N_alloc|apply Kd.N_drewN|apply Kd.N_drew));exact HO_283004.out⟩,⟨by (with_reducible repeat (first|refine Z0 ?_ _|refine Z3 ?_|refine Z1 ?_ _));exact BK282.out⟩,⟨by repeat (first|(with_reducible first|exact HB.out|apply Z7|apply Z4|apply Z6|refine Z8 ?_ GE282.out)|exact HB.out)⟩⟩
                  · rw [if_neg c30] at H;have c30b0 : decide (0 ≤ (rd t292 x5_1)) = false:=decide_eq_false c30
                    clear c30;have H' := Aside0.mk H
                    clear H;have p301 : 0 ≤ (x5_1 : Int):=of_decide_eq_true (by first|(with_reducible assumption)|assumption)
                    have q301 : x5_1 < (t292.length : Int):=of_decide_eq_true (by first|(with_reducible assumption)|assumption)
                    obtain ⟨ad301,e301,hx301_0⟩:=Kd.at_int (Kd.R_reads' HO_3.out).2.2 x5_1 p301 q301
                    cases e301;replace p301:=eq_true p301
                    replace q301:=eq_true q301
                    go_wp2
                    go_meet
                    case rel => exact ⟨_,(false),(by first|rfl|(simp;done)|(simp [*];done)),H',⟨by have:=HK1.out;have:=HJ17.out;have:=HK3.out;first|omega|exact Nat.le_refl _⟩,⟨by (with_reducible repeat (first|apply Kd.R_alloc|apply Kd.R_drewN|apply Kd.R_drew));exact HO_3.out⟩,⟨by (with_reducible repeat (first|apply Kd.R_alloc|apply Kd.R_drewN|apply Kd.R_drew));exact HO_4.out⟩,⟨by (with_reducible repeat (first|apply Kd.N_alloc|apply Kd.N_drewN|apply Kd.N_drew));exact HO_283004.out⟩,⟨by (with_reducible repeat (first|refine Z0 ?_ _|refine Z3 ?_|refine Z1 ?_ _));exact BK282.out⟩,⟨by repeat (first|(with_reducible first|exact HB.out|apply Z7|apply Z4|apply Z6|refine Z8 ?_ GE282.out)|exact HB.out)⟩⟩
                · rw [if_neg c29] at H;exact absurd H (by simp)
              · rw [if_neg c28] at H;exact absurd H (by simp)
             case rest =>
              clear HC27;try clear c4
              try clear c17
              try clear c17b0
              try clear c26
              try clear hcz10_0
              try clear hcz10_1
              try clear hcz10_2
              try clear hcz10_3
              try clear hcz10_4
              try clear hcz13_0
              try clear hcz13_1
              try clear hcz13_2
              try clear hcz13_3
              try clear hcz13_4
              try clear hcz15_0
              try clear hcz15_1
              try clear hcz15_2
              try clear hcz15_3
              try clear hcz15_4
              try clear hcz8_0
              try clear hcz8_1
              try clear hcz8_2
              try clear hcz8_3
              try clear hcz8_4
              try clear hfz10_0
              try clear hfz10_1
              try clear hfz10_2
              try clear hfz10_3
              try clear hfz10_4
              obtain ⟨kq,x48_26,rfl,HA,HJ26,HO_3,HO_4,HO_283004,BK282,HB⟩:=hcut
              cases kq with
              | zero => exact absurd HA.out (by simp [cruciblelaw17_OrderTree.j3])
              | succ kj26 =>
               have H:=HA.out
               clear HA;simp only [cruciblelaw17_OrderTree.j3] at H;by_cases c31 : x48_26 = true
               · subst c31;have H1 : ((order_Dominates.f kj26 t283 t284 t285 t286 t287 x6_3 x5_1).bind fun t302 => (if x6_3 = x5_1 then (if (t302 != true) = true then (some false) else (cruciblelaw17_OrderTree.l1 kj26 t292 t295 x5_1 (wrap64 (x6_3 + 1)) t283 t284 t285 t286 t287)) else (if 0 ≤ x5_1 then (if x5_1 < (t292.length : Int) then ((order_Dominates.f kj26 t283 t284 t285 t286 t287 x6_3 (rd t292 x5_1)).bind fun t304 => (if (t302 != t304) = true then (some false) else (cruciblelaw17_OrderTree.l1 kj26 t292 t295 x5_1 (wrap64 (x6_3 + 1)) t283 t284 t285 t286 t287))) else (none)) else (none)))) = some r:=by rw [if_pos rfl] at H;exact H
                 clear H;have H:=H1
                 clear H1;replace H:=Option.bind_eq_some_iff.mp H
                 obtain ⟨t302,A320,H⟩:=H
                 replace H : (if x6_3 = x5_1 then (if (t302 != true) = true then (some false) else (cruciblelaw17_OrderTree.l1 kj26 t292 t295 x5_1 (wrap64 (x6_3 + 1)) t283 t284 t285 t286 t287)) else (if 0 ≤ x5_1 then (if x5_1 < (t292.length : Int) then ((order_Dominates.f kj26 t283 t284 t285 t286 t287 x6_3 (rd t292 x5_1)).bind fun t304 => (if (t302 != t304) = true then (some false) else (cruciblelaw17_OrderTree.l1 kj26 t292 t295 x5_1 (wrap64 (x6_3 + 1)) t283 t284 t285 t286 t287))) else (none)) else (none))) = some r:=H
                 have A32:=Aside0.mk A320
                 clear A320;by_cases c33 : x6_3 = x5_1
                 · rw [if_pos c33] at H;have c33b0 : (x6_3 == x5_1) = true:=beq_iff_eq.mpr c33
                   clear c33;by_cases c34 : (t302 != true) = true
                   · rw [if_pos c34] at H;(try (have c34b1 : decide (t302 = true) = false:=by simpa using c34));(try (have c34b2 : (t302 == true) = false:=by simpa using c34));(try (have c34b3 : ¬ (t302 = true):=by simpa using c34));clear c34;obtain rfl:=Option.some.inj H
                     try go_wp2
                     have n0_:=Aside0.mk (Kd.R_drew HO_3.out)
                     have n1_:=Aside0.mk (Kd.R_drew HO_4.out)
                     have n2_:=Aside0.mk (Kd.N_drew HO_283004.out)
                     have n3_:=Aside0.mk (Z3 BK282.out)
                     have n4_:=Aside0.mk (Z6 HB.out)
                     clear HO_3;clear HO_4;clear HO_283004;clear BK282;clear HB;have HO_3:=n0_
                     have HO_4:=n1_
                     have HO_283004:=n2_
                     have BK282:=n3_
                     have HB:=n4_
                     clear n0_ n1_ n2_ n3_ n4_;refine start_ (n:=17) (S:=fun w' => w'.cell? ⟨gb282,0,none⟩ = some (.string t283) ∧ w'.cell? ⟨gb282,1,none⟩ = some (.int .i64 t284) ∧ w'.cell? ⟨gb282,2,none⟩ = some (.int .i64 t285) ∧ w'.cell? ⟨gb282,3,none⟩ = some (.int .i64 t286) ∧ w'.cell? ⟨gb282,4,none⟩ = some (.slice Ao11 t287.length co11)) (ds:=[]) #[false,false,false,false,false,false,false,false,false,false,false,false,false,false,false,false,false] (by kernel_rfl) rfl rfl ⟨(Z5 BK282.out 0).trans rfl,(Z5 BK282.out 1).trans rfl,(Z5 BK282.out 2).trans rfl,(Z5 BK282.out 3).trans rfl,(Z5 BK282.out 4).trans rfl⟩ (fun hHeld => ?_);refine Z74 cruciblelaw17_OrderTree.tab14 cruciblelaw17_OrderTree.bits14 (fun HT_ HW_ => ?_);generalize wc.drew = w35 at HO_3 HO_4 HO_283004 BK282 HB hHeld ⊢;refine pure_ (i:=1) (N:=some 52) (v:=?_) (a' := ?_) #[false,true,false,false,false,false,false,false,false,false,false,false,false,false,false,false,false] rfl rfl (any_of HT_.out (by kernel_rfl)) (fun _ _ _ h => h) (Or.inl ⟨by rfl,?_⟩) ?_ ?_;rotate_left
                     · intro w';go_simp
                       with_reducible rfl
                     rotate_left
                     · simp only [Act.put,List.setIfInBounds_toArray,List.set_cons_zero,List.set_cons_succ,i64_w,i32_w];rfl
                     refine pure_ (i:=2) (N:=some 53) (v:=?_) (a' := ?_) #[false,true,true,false,false,false,false,false,false,false,false,false,false,false,false,false,false] rfl rfl (any_of HT_.out (by kernel_rfl)) (fun _ _ _ h => h) (Or.inl ⟨by rfl,?_⟩) ?_ ?_;rotate_left
                     · intro w';go_simp
                       with_reducible rfl
                     rotate_left
                     · simp only [Act.put,List.setIfInBounds_toArray,List.set_cons_zero,List.set_cons_succ,i64_w,i32_w];rfl
                     refine pure_ (i:=4) (N:=some 55) (v:=?_) (a' := ?_) #[false,true,true,false,true,false,false,false,false,false,false,false,false,false,false,false,false] rfl rfl (any_of HT_.out (by kernel_rfl)) (fun _ _ _ h => h) (Or.inl ⟨by rfl,?_⟩) ?_ ?_;rotate_left
                     · intro w';go_simp
                       with_reducible rfl
                     rotate_left
                     · simp only [Act.put,List.setIfInBounds_toArray,List.set_cons_zero,List.set_cons_succ,i64_w,i32_w];rfl
                     refine pure_ (i:=5) (N:=some 56) (v:=?_) (a' := ?_) #[false,true,true,false,true,true,false,false,false,false,false,false,false,false,false,false,false] rfl rfl (any_of HT_.out (by kernel_rfl)) (fun _ _ _ h => h) (Or.inl ⟨by rfl,?_⟩) ?_ ?_;rotate_left
                     · intro w';go_simp
                       with_reducible rfl
                     rotate_left
                     · simp only [Act.put,List.setIfInBounds_toArray,List.set_cons_zero,List.set_cons_succ,i64_w,i32_w];rfl
                     refine pure_ (i:=6) (N:=some 57) (v:=?_) (a' := ?_) #[false,true,true,false,true,true,true,false,false,false,false,false,false,false,false,false,false] rfl rfl (any_of HT_.out (by kernel_rfl)) (fun _ _ _ h => h) (Or.inl ⟨by rfl,?_⟩) ?_ ?_;rotate_left
                     · intro w';go_simp
                       with_reducible rfl
                     rotate_left
                     · simp only [Act.put,List.setIfInBounds_toArray,List.set_cons_zero,List.set_cons_succ,i64_w,i32_w];rfl
                     refine take_ (i:=0) (N:=some 51) (v:=?_) (a' := ?_) #[true,true,true,false,true,true,true,false,false,false,false,false,false,false,false,false,false] rfl rfl (Z67 HT_.out HW_.out (by kernel_rfl)) (fun _ _ _ h => h) (Or.inl ⟨by rfl,?_⟩) hHeld ?_ ?_;rotate_left
                     · rintro w' ⟨s0,s1,s2,s3,s4⟩;go_simp
                       with_reducible rfl
                     rotate_left
                     · simp only [Act.put,List.setIfInBounds_toArray,List.set_cons_zero,List.set_cons_succ,i64_w,i32_w];rfl
                     refine one_ (i:=3) (N:=some 54) #[true,true,true,true,true,true,true,false,false,false,false,false,false,false,false,false,false] rfl rfl (one_of HT_.out (by kernel_rfl)) (by decide) (fun K hK => ?_);refine goes_ Try.func18 (by kernel_rfl) rfl #[.agg #[.string t283,.int .i64 t284,.int .i64 t285,.int .i64 t286,.slice Ao11 t287.length co11],.int .i64 x6_3,.int .i64 x5_1] (by rfl) rfl rfl (by (try simp only [List.map_toArray,List.map_cons,List.map_nil]);first|done|rfl|(simp only [List.length_drop,List.length_take];rfl)) ?_
                     with_reducible refine (order_Dominates.calls kj26 t283 t284 t285 t286 _ _ t287 x6_3 x5_1 t302 _ ?side1 ?side2 A32.out).mono ?_
                     (case side1 => repeat (first|exact (Kd.N_reads' HO_283004.out).2.2|(with_reducible refine Kd.C_alloc ?_ _)|(with_reducible refine Kd.C_drewN ?_ _)|(with_reducible refine Kd.C_drew ?_)));(case side2 => exact (Kd.N_reads' HO_283004.out).2.1);rintro e w36 ⟨rfl,hb⟩;refine ⟨_,rfl,?_⟩;have n0_:=Aside0.mk (Kd.R_below (by (with_reducible repeat (first|apply Kd.R_alloc|apply Kd.R_drewN|apply Kd.R_drew));exact HO_3.out) hb)
                     have n1_:=Aside0.mk (Kd.R_below (by (with_reducible repeat (first|apply Kd.R_alloc|apply Kd.R_drewN|apply Kd.R_drew));exact HO_4.out) hb)
                     have n2_:=Aside0.mk (Kd.N_below (by (with_reducible repeat (first|apply Kd.N_alloc|apply Kd.N_drewN|apply Kd.N_drew));exact HO_283004.out) hb)
                     have n3_:=Aside0.mk (Z40 (g:=gb282) (o:=.cells #[.string t283,.int .i64 t284,.int .i64 t285,.int .i64 t286,.slice Ao11 t287.length co11] 24 (0,0)) (by (with_reducible repeat (first|refine Z0 ?_ _|refine Z3 ?_|refine Z1 ?_ _));exact BK282.out) hb)
                     have n4_:=Aside0.mk (Z25 (by repeat (first|(with_reducible first|exact HB.out|apply Z7|apply Z4|apply Z6|refine Z8 ?_ GE282.out)|exact HB.out)) hb)
                     clear HO_3;clear HO_4;clear HO_283004;clear BK282;clear HB;have HO_3:=n0_
                     have HO_4:=n1_
                     have HO_283004:=n2_
                     have BK282:=n3_
                     have HB:=n4_
                     clear n0_ n1_ n2_ n3_ n4_;(try clear hb);(try clear hb2);(try clear hk);(try clear hi);refine hK.out _ _ ⟨(Z5 BK282.out 0).trans rfl,(Z5 BK282.out 1).trans rfl,(Z5 BK282.out 2).trans rfl,(Z5 BK282.out 3).trans rfl,(Z5 BK282.out 4).trans rfl⟩ (fun hHeld => ?_);clear hK K;refine norm_ (a' := ?_) ?_ ?_;rotate_left
                     · show Act.put _ (some 54) _ = _
                       simp only [Act.put,List.setIfInBounds_toArray,List.set_cons_zero,List.set_cons_succ,i64_w,i32_w];rfl
                     refine pure_ (i:=7) (N:=some 58) (v:=?_) (a' := ?_) #[true,true,true,true,true,true,true,true,false,false,false,false,false,false,false,false,false] rfl rfl (any_of HT_.out (by kernel_rfl)) (fun _ _ _ h => h) (Or.inl ⟨by rfl,?_⟩) ?_ ?_;rotate_left
                     · intro w';go_simp
                       with_reducible rfl
                     rotate_left
                     · simp only [Act.put,List.setIfInBounds_toArray,List.set_cons_zero,List.set_cons_succ,i64_w,i32_w];rfl
                     refine pure_ (i:=8) (N:=some 59) (v:=undef) (a' := ?_) #[true,true,true,true,true,true,true,true,true,false,false,false,false,false,false,false,false] rfl rfl (any_of HT_.out (by kernel_rfl)) (fun _ _ _ h => h) (Or.inr ⟨by rfl,rfl⟩) ?_ ?_;rotate_left
                     · simp only [Act.put,List.setIfInBounds_toArray,List.set_cons_zero,List.set_cons_succ,i64_w,i32_w];rfl
                     refine pure_ (i:=9) (N:=some 60) (v:=undef) (a' := ?_) #[true,true,true,true,true,true,true,true,true,true,false,false,false,false,false,false,false] rfl rfl (any_of HT_.out (by kernel_rfl)) (fun _ _ _ h => h) (Or.inr ⟨by rfl,rfl⟩) ?_ ?_;rotate_left
                     · simp only [Act.put,List.setIfInBounds_toArray,List.set_cons_zero,List.set_cons_succ,i64_w,i32_w];rfl
                     refine pure_ (i:=10) (N:=some 61) (v:=undef) (a' := ?_) #[true,true,true,true,true,true,true,true,true,true,true,false,false,false,false,false,false] rfl rfl (any_of HT_.out (by kernel_rfl)) (fun _ _ _ h => h) (Or.inr ⟨by rfl,rfl⟩) ?_ ?_;rotate_left
                     · simp only [Act.put,List.setIfInBounds_toArray,List.set_cons_zero,List.set_cons_succ,i64_w,i32_w];rfl
                     refine pure_ (i:=11) (N:=some 62) (v:=undef) (a' := ?_) #[true,true,true,true,true,true,true,true,true,true,true,true,false,false,false,false,false] rfl rfl (any_of HT_.out (by kernel_rfl)) (fun _ _ _ h => h) (Or.inr ⟨by rfl,rfl⟩) ?_ ?_;rotate_left
                     · simp only [Act.put,List.setIfInBounds_toArray,List.set_cons_zero,List.set_cons_succ,i64_w,i32_w];rfl
                     refine pure_ (i:=12) (N:=some 63) (v:=undef) (a' := ?_) #[true,true,true,true,true,true,true,true,true,true,true,true,true,false,false,false,false] rfl rfl (any_of HT_.out (by kernel_rfl)) (fun _ _ _ h => h) (Or.inr ⟨by rfl,rfl⟩) ?_ ?_;rotate_left
                     · simp only [Act.put,List.setIfInBounds_toArray,List.set_cons_zero,List.set_cons_succ,i64_w,i32_w];rfl
                     refine pure_ (i:=13) (N:=some 64) (v:=undef) (a' := ?_) #[true,true,true,true,true,true,true,true,true,true,true,true,true,true,false,false,false] rfl rfl (any_of HT_.out (by kernel_rfl)) (fun _ _ _ h => h) (Or.inr ⟨by rfl,rfl⟩) ?_ ?_;rotate_left
                     · simp only [Act.put,List.setIfInBounds_toArray,List.set_cons_zero,List.set_cons_succ,i64_w,i32_w];rfl
                     refine pure_ (i:=14) (N:=some 65) (v:=undef) (a' := ?_) #[true,true,true,true,true,true,true,true,true,true,true,true,true,true,true,false,false] rfl rfl (any_of HT_.out (by kernel_rfl)) (fun _ _ _ h => h) (Or.inr ⟨by rfl,rfl⟩) ?_ ?_;rotate_left
                     · simp only [Act.put,List.setIfInBounds_toArray,List.set_cons_zero,List.set_cons_succ,i64_w,i32_w];rfl
                     refine pure_ (i:=15) (N:=some 66) (v:=?_) (a' := ?_) #[true,true,true,true,true,true,true,true,true,true,true,true,true,true,true,true,false] rfl rfl (any_of HT_.out (by kernel_rfl)) (fun _ _ _ h => h) (Or.inl ⟨by rfl,?_⟩) ?_ ?_;rotate_left
                     · intro w';go_simp
                       with_reducible rfl
                     rotate_left
                     · simp only [Act.put,List.setIfInBounds_toArray,List.set_cons_zero,List.set_cons_succ,i64_w,i32_w];rfl
                     refine pure_ (i:=16) (N:=some 67) (v:=?_) (a' := ?_) #[true,true,true,true,true,true,true,true,true,true,true,true,true,true,true,true,true] rfl rfl (any_of HT_.out (by kernel_rfl)) (fun _ _ _ h => h) (Or.inl ⟨by rfl,?_⟩) ?_ ?_;rotate_left
                     · intro w';go_simp
                       with_reducible rfl
                     rotate_left
                     · simp only [Act.put,List.setIfInBounds_toArray,List.set_cons_zero,List.set_cons_succ,i64_w,i32_w];rfl
                     refine done_ (Z83 HT_.out (by kernel_rfl)) ?_;try go_wp2
                     go_ret
                     exact ⟨by first|rfl|(simp [Z16,Z15] <;> rfl)|(simp [*,Z16,Z15] <;> rfl),by repeat (first|(with_reducible first|exact HB.out|apply Z7|apply Z4|apply Z6|refine Z8 ?_ GE282.out)|exact HB.out)⟩
                   · rw [if_neg c34] at H;(try (have c34b1 : decide (t302 = true) = true:=by simpa using c34));(try (have c34b2 : (t302 == true) = true:=by simpa using c34));clear c34;have H' := Aside0.mk H
                     clear H;try go_wp2
                     have n0_:=Aside0.mk (Kd.R_drew HO_3.out)
                     have n1_:=Aside0.mk (Kd.R_drew HO_4.out)
                     have n2_:=Aside0.mk (Kd.N_drew HO_283004.out)
                     have n3_:=Aside0.mk (Z3 BK282.out)
                     have n4_:=Aside0.mk (Z6 HB.out)
                     clear HO_3;clear HO_4;clear HO_283004;clear BK282;clear HB;have HO_3:=n0_
                     have HO_4:=n1_
                     have HO_283004:=n2_
                     have BK282:=n3_
                     have HB:=n4_
                     clear n0_ n1_ n2_ n3_ n4_;refine start_ (n:=17) (S:=fun w' => w'.cell? ⟨gb282,0,none⟩ = some (.string t283) ∧ w'.cell? ⟨gb282,1,none⟩ = some (.int .i64 t284) ∧ w'.cell? ⟨gb282,2,none⟩ = some (.int .i64 t285) ∧ w'.cell? ⟨gb282,3,none⟩ = some (.int .i64 t286) ∧ w'.cell? ⟨gb282,4,none⟩ = some (.slice Ao11 t287.length co11)) (ds:=[]) #[false,false,false,false,false,false,false,false,false,false,false,false,false,false,false,false,false] (by kernel_rfl) rfl rfl ⟨(Z5 BK282.out 0).trans rfl,(Z5 BK282.out 1).trans rfl,(Z5 BK282.out 2).trans rfl,(Z5 BK282.out 3).trans rfl,(Z5 BK282.out 4).trans rfl⟩ (fun hHeld => ?_);refine Z74 cruciblelaw17_OrderTree.tab14 cruciblelaw17_OrderTree.bits14 (fun HT_ HW_ => ?_);generalize wc.drew = w37 at HO_3 HO_4 HO_283004 BK282 HB hHeld ⊢;refine pure_ (i:=1) (N:=some 52) (v:=?_) (a' := ?_) #[false,true,false,false,false,false,false,false,false,false,false,false,false,false,false,false,false] rfl rfl (any_of HT_.out (by kernel_rfl)) (fun _ _ _ h => h) (Or.inl ⟨by rfl,?_⟩) ?_ ?_;rotate_left
                     · intro w';go_simp
                       with_reducible rfl
                     rotate_left
                     · simp only [Act.put,List.setIfInBounds_toArray,List.set_cons_zero,List.set_cons_succ,i64_w,i32_w];rfl
                     refine pure_ (i:=2) (N:=some 53) (v:=?_) (a' := ?_) #[false,true,true,false,false,false,false,false,false,false,false,false,false,false,false,false,false] rfl rfl (any_of HT_.out (by kernel_rfl)) (fun _ _ _ h => h) (Or.inl ⟨by rfl,?_⟩) ?_ ?_;rotate_left
                     · intro w';go_simp
                       with_reducible rfl
                     rotate_left
                     · simp only [Act.put,List.setIfInBounds_toArray,List.set_cons_zero,List.set_cons_succ,i64_w,i32_w];rfl
                     refine pure_ (i:=4) (N:=some 55) (v:=?_) (a' := ?_) #[false,true,true,false,true,false,false,false,false,false,false,false,false,false,false,false,false] rfl rfl (any_of HT_.out (by kernel_rfl)) (fun _ _ _ h => h) (Or.inl ⟨by rfl,?_⟩) ?_ ?_;rotate_left
                     · intro w';go_simp
                       with_reducible rfl
                     rotate_left
                     · simp only [Act.put,List.setIfInBounds_toArray,List.set_cons_zero,List.set_cons_succ,i64_w,i32_w];rfl
                     refine pure_ (i:=5) (N:=some 56) (v:=?_) (a' := ?_) #[false,true,true,false,true,true,false,false,false,false,false,false,false,false,false,false,false] rfl rfl (any_of HT_.out (by kernel_rfl)) (fun _ _ _ h => h) (Or.inl ⟨by rfl,?_⟩) ?_ ?_;rotate_left
                     · intro w';go_simp
                       with_reducible rfl
                     rotate_left
                     · simp only [Act.put,List.setIfInBounds_toArray,List.set_cons_zero,List.set_cons_succ,i64_w,i32_w];rfl
                     refine pure_ (i:=6) (N:=some 57) (v:=?_) (a' := ?_) #[false,true,true,false,true,true,true,false,false,false,false,false,false,false,false,false,false] rfl rfl (any_of HT_.out (by kernel_rfl)) (fun _ _ _ h => h) (Or.inl ⟨by rfl,?_⟩) ?_ ?_;rotate_left
                     · intro w';go_simp
                       with_reducible rfl
                     rotate_left
                     · simp only [Act.put,List.setIfInBounds_toArray,List.set_cons_zero,List.set_cons_succ,i64_w,i32_w];rfl
                     refine take_ (i:=0) (N:=some 51) (v:=?_) (a' := ?_) #[true,true,true,false,true,true,true,false,false,false,false,false,false,false,false,false,false] rfl rfl (Z67 HT_.out HW_.out (by kernel_rfl)) (fun _ _ _ h => h) (Or.inl ⟨by rfl,?_⟩) hHeld ?_ ?_;rotate_left
                     · rintro w' ⟨s0,s1,s2,s3,s4⟩;go_simp
                       with_reducible rfl
                     rotate_left
                     · simp only [Act.put,List.setIfInBounds_toArray,List.set_cons_zero,List.set_cons_succ,i64_w,i32_w];rfl
                     refine one_ (i:=3) (N:=some 54) #[true,true,true,true,true,true,true,false,false,false,false,false,false,false,false,false,false] rfl rfl (one_of HT_.out (by kernel_rfl)) (by decide) (fun K hK => ?_);refine goes_ Try.func18 (by kernel_rfl) rfl #[.agg #[.string t283,.int .i64 t284,.int .i64 t285,.int .i64 t286,.slice Ao11 t287.length co11],.int .i64 x6_3,.int .i64 x5_1] (by rfl) rfl rfl (by (try simp only [List.map_toArray,List.map_cons,List.map_nil]);first|done|rfl|(simp only [List.length_drop,List.length_take];rfl)) ?_
                     with_reducible refine (order_Dominates.calls kj26 t283 t284 t285 t286 _ _ t287 x6_3 x5_1 t302 _ ?side1 ?side2 A32.out).mono ?_
                     (case side1 => repeat (first|exact (Kd.N_reads' HO_283004.out).2.2|(with_reducible refine Kd.C_alloc ?_ _)|(with_reducible refine Kd.C_drewN ?_ _)|(with_reducible refine Kd.C_drew ?_)));(case side2 => exact (Kd.N_reads' HO_283004.out).2.1);rintro e w38 ⟨rfl,hb⟩;refine ⟨_,rfl,?_⟩;have n0_:=Aside0.mk (Kd.R_below (by (with_reducible repeat (first|apply Kd.R_alloc|apply Kd.R_drewN|apply Kd.R_drew));exact HO_3.out) hb)
                     have n1_:=Aside0.mk (Kd.R_below (by (with_reducible repeat (first|apply Kd.R_alloc|apply Kd.R_drewN|apply Kd.R_drew));exact HO_4.out) hb)
                     have n2_:=Aside0.mk (Kd.N_below (by (with_reducible repeat (first|apply Kd.N_alloc|apply Kd.N_drewN|apply Kd.N_drew));exact HO_283004.out) hb)
                     have n3_:=Aside0.mk (Z40 (g:=gb282) (o:=.cells #[.string t283,.int .i64 t284,.int .i64 t285,.int .i64 t286,.slice Ao11 t287.length co11] 24 (0,0)) (by (with_reducible repeat (first|refine Z0 ?_ _|refine Z3 ?_|refine Z1 ?_ _));exact BK282.out) hb)
                     have n4_:=Aside0.mk (Z25 (by repeat (first|(with_reducible first|exact HB.out|apply Z7|apply Z4|apply Z6|refine Z8 ?_ GE282.out)|exact HB.out)) hb)
                     clear HO_3;clear HO_4;clear HO_283004;clear BK282;clear HB;have HO_3:=n0_
                     have HO_4:=n1_
                     have HO_283004:=n2_
                     have BK282:=n3_
                     have HB:=n4_
                     clear n0_ n1_ n2_ n3_ n4_;(try clear hb);(try clear hb2);(try clear hk);(try clear hi);refine hK.out _ _ ⟨(Z5 BK282.out 0).trans rfl,(Z5 BK282.out 1).trans rfl,(Z5 BK282.out 2).trans rfl,(Z5 BK282.out 3).trans rfl,(Z5 BK282.out 4).trans rfl⟩ (fun hHeld => ?_);clear hK K;refine norm_ (a' := ?_) ?_ ?_;rotate_left
                     · show Act.put _ (some 54) _ = _
                       simp only [Act.put,List.setIfInBounds_toArray,List.set_cons_zero,List.set_cons_succ,i64_w,i32_w];rfl
                     refine pure_ (i:=7) (N:=some 58) (v:=?_) (a' := ?_) #[true,true,true,true,true,true,true,true,false,false,false,false,false,false,false,false,false] rfl rfl (any_of HT_.out (by kernel_rfl)) (fun _ _ _ h => h) (Or.inl ⟨by rfl,?_⟩) ?_ ?_;rotate_left
                     · intro w';go_simp
                       with_reducible rfl
                     rotate_left
                     · simp only [Act.put,List.setIfInBounds_toArray,List.set_cons_zero,List.set_cons_succ,i64_w,i32_w];rfl
                     refine pure_ (i:=8) (N:=some 59) (v:=undef) (a' := ?_) #[true,true,true,true,true,true,true,true,true,false,false,false,false,false,false,false,false] rfl rfl (any_of HT_.out (by kernel_rfl)) (fun _ _ _ h => h) (Or.inr ⟨by rfl,rfl⟩) ?_ ?_;rotate_left
                     · simp only [Act.put,List.setIfInBounds_toArray,List.set_cons_zero,List.set_cons_succ,i64_w,i32_w];rfl
                     refine pure_ (i:=9) (N:=some 60) (v:=undef) (a' := ?_) #[true,true,true,true,true,true,true,true,true,true,false,false,false,false,false,false,false] rfl rfl (any_of HT_.out (by kernel_rfl)) (fun _ _ _ h => h) (Or.inr ⟨by rfl,rfl⟩) ?_ ?_;rotate_left
                     · simp only [Act.put,List.setIfInBounds_toArray,List.set_cons_zero,List.set_cons_succ,i64_w,i32_w];rfl
                     refine pure_ (i:=10) (N:=some 61) (v:=undef) (a' := ?_) #[true,true,true,true,true,true,true,true,true,true,true,false,false,false,false,false,false] rfl rfl (any_of HT_.out (by kernel_rfl)) (fun _ _ _ h => h) (Or.inr ⟨by rfl,rfl⟩) ?_ ?_;rotate_left
                     · simp only [Act.put,List.setIfInBounds_toArray,List.set_cons_zero,List.set_cons_succ,i64_w,i32_w];rfl
                     refine pure_ (i:=11) (N:=some 62) (v:=undef) (a' := ?_) #[true,true,true,true,true,true,true,true,true,true,true,true,false,false,false,false,false] rfl rfl (any_of HT_.out (by kernel_rfl)) (fun _ _ _ h => h) (Or.inr ⟨by rfl,rfl⟩) ?_ ?_;rotate_left
                     · simp only [Act.put,List.setIfInBounds_toArray,List.set_cons_zero,List.set_cons_succ,i64_w,i32_w];rfl
                     refine pure_ (i:=12) (N:=some 63) (v:=undef) (a' := ?_) #[true,true,true,true,true,true,true,true,true,true,true,true,true,false,false,false,false] rfl rfl (any_of HT_.out (by kernel_rfl)) (fun _ _ _ h => h) (Or.inr ⟨by rfl,rfl⟩) ?_ ?_;rotate_left
                     · simp only [Act.put,List.setIfInBounds_toArray,List.set_cons_zero,List.set_cons_succ,i64_w,i32_w];rfl
                     refine pure_ (i:=13) (N:=some 64) (v:=undef) (a' := ?_) #[true,true,true,true,true,true,true,true,true,true,true,true,true,true,false,false,false] rfl rfl (any_of HT_.out (by kernel_rfl)) (fun _ _ _ h => h) (Or.inr ⟨by rfl,rfl⟩) ?_ ?_;rotate_left
                     · simp only [Act.put,List.setIfInBounds_toArray,List.set_cons_zero,List.set_cons_succ,i64_w,i32_w];rfl
                     refine pure_ (i:=14) (N:=some 65) (v:=undef) (a' := ?_) #[true,true,true,true,true,true,true,true,true,true,true,true,true,true,true,false,false] rfl rfl (any_of HT_.out (by kernel_rfl)) (fun _ _ _ h => h) (Or.inr ⟨by rfl,rfl⟩) ?_ ?_;rotate_left
                     · simp only [Act.put,List.setIfInBounds_toArray,List.set_cons_zero,List.set_cons_succ,i64_w,i32_w];rfl
                     refine pure_ (i:=15) (N:=some 66) (v:=?_) (a' := ?_) #[true,true,true,true,true,true,true,true,true,true,true,true,true,true,true,true,false] rfl rfl (any_of HT_.out (by kernel_rfl)) (fun _ _ _ h => h) (Or.inl ⟨by rfl,?_⟩) ?_ ?_;rotate_left
                     · intro w';go_simp
                       with_reducible rfl
                     rotate_left
                     · simp only [Act.put,List.setIfInBounds_toArray,List.set_cons_zero,List.set_cons_succ,i64_w,i32_w];rfl
                     refine pure_ (i:=16) (N:=some 67) (v:=?_) (a' := ?_) #[true,true,true,true,true,true,true,true,true,true,true,true,true,true,true,true,true] rfl rfl (any_of HT_.out (by kernel_rfl)) (fun _ _ _ h => h) (Or.inl ⟨by rfl,?_⟩) ?_ ?_;rotate_left
                     · intro w';go_simp
                       with_reducible rfl
                     rotate_left
                     · simp only [Act.put,List.setIfInBounds_toArray,List.set_cons_zero,List.set_cons_succ,i64_w,i32_w];rfl
                     refine done_ (Z83 HT_.out (by kernel_rfl)) ?_;try go_wp2
                     go_roundg kj26
                     case measure => have:=HK1.out;have:=HJ17.out;have:=HK3.out;have:=HJ26.out;omega
                     case rel => exact ⟨(wrap64 (x6_3 + 1)),(by first|rfl|(simp;done)|(simp [*];done)),H',⟨by have:=HK1.out;have:=HJ17.out;have:=HK3.out;have:=HJ26.out;omega⟩,⟨by (with_reducible repeat (first|apply Kd.R_alloc|apply Kd.R_drewN|apply Kd.R_drew));exact HO_3.out⟩,⟨by (with_reducible repeat (first|apply Kd.R_alloc|apply Kd.R_drewN|apply Kd.R_drew));exact HO_4.out⟩,⟨by (with_reducible repeat (first|apply Kd.N_alloc|apply Kd.N_drewN|apply Kd.N_drew));exact HO_283004.out⟩,⟨by (with_reducible repeat (first|refine Z0 ?_ _|refine Z3 ?_|refine Z1 ?_ _));exact BK282.out⟩,⟨by repeat (first|(with_reducible first|exact HB.out|apply Z7|apply Z4|apply Z6|refine Z8 ?_ GE282.out)|exact HB.out)⟩⟩
                 · rw [if_neg c33] at H;have c33b0 : (x6_3 == x5_1) = false:=beq_eq_false_iff_ne.mpr c33
                   by_cases c39 : 0 ≤ x5_1
                   · rw [if_pos c39] at H;have c39b0 : decide (0 ≤ x5_1) = true:=decide_eq_true c39
                     clear c39;by_cases c40 : x5_1 < (t292.length : Int)
                     · rw [if_pos c40] at H;have c40b0 : decide (x5_1 < (t292.length : Int)) = true:=decide_eq_true c40
                       clear c40;replace H:=Option.bind_eq_some_iff.mp H
                       obtain ⟨t304,A410,H⟩:=H
                       replace H : (if (t302 != t304) = true then (some false) else (cruciblelaw17_OrderTree.l1 kj26 t292 t295 x5_1 (wrap64 (x6_3 + 1)) t283 t284 t285 t286 t287)) = some r:=H
                       have A41:=Aside0.mk A410
                       clear A410;by_cases c42 : (t302 != t304) = true
                       · rw [if_pos c42] at H;(try (have c42b1 : decide (t302 = t304) = false:=by simpa using c42));(try (have c42b2 : (t302 == t304) = false:=by simpa using c42));(try (have c42b3 : ¬ (t302 = t304):=by simpa using c42));clear c42;obtain rfl:=Option.some.inj H
                         try go_wp2
                         have n0_:=Aside0.mk (Kd.R_drew HO_3.out)
                         have n1_:=Aside0.mk (Kd.R_drew HO_4.out)
                         have n2_:=Aside0.mk (Kd.N_drew HO_283004.out)
                         have n3_:=Aside0.mk (Z3 BK282.out)
                         have n4_:=Aside0.mk (Z6 HB.out)
                         clear HO_3;clear HO_4;clear HO_283004;clear BK282;clear HB;have HO_3:=n0_
                         have HO_4:=n1_
                         have HO_283004:=n2_
                         have BK282:=n3_
                         have HB:=n4_
                         clear n0_ n1_ n2_ n3_ n4_;have p303 : 0 ≤ (x5_1 : Int):=of_decide_eq_true (by first|(with_reducible assumption)|assumption)
                         have q303 : x5_1 < (t292.length : Int):=of_decide_eq_true (by first|(with_reducible assumption)|assumption)
                         obtain ⟨ad303,e303,hx303_0⟩:=Kd.at_int (Kd.R_reads' HO_3.out).2.2 x5_1 p303 q303
                         cases e303;replace p303:=eq_true p303
                         replace q303:=eq_true q303
                         refine start_ (n:=17) (S:=fun w' => w'.cell? ⟨gb282,0,none⟩ = some (.string t283) ∧ w'.cell? ⟨gb282,1,none⟩ = some (.int .i64 t284) ∧ w'.cell? ⟨gb282,2,none⟩ = some (.int .i64 t285) ∧ w'.cell? ⟨gb282,3,none⟩ = some (.int .i64 t286) ∧ w'.cell? ⟨gb282,4,none⟩ = some (.slice Ao11 t287.length co11) ∧ w'.cell? (ad303.add (x5_1).toNat) = some (.int .i64 (rd t292 x5_1))) (ds:=[]) #[false,false,false,false,false,false,false,false,false,false,false,false,false,false,false,false,false] (by kernel_rfl) rfl rfl ⟨(Z5 BK282.out 0).trans rfl,(Z5 BK282.out 1).trans rfl,(Z5 BK282.out 2).trans rfl,(Z5 BK282.out 3).trans rfl,(Z5 BK282.out 4).trans rfl,hx303_0⟩ (fun hHeld => ?_);refine Z74 cruciblelaw17_OrderTree.tab14 cruciblelaw17_OrderTree.bits14 (fun HT_ HW_ => ?_);generalize wc.drew = w43 at HO_3 HO_4 HO_283004 BK282 HB hx303_0 hHeld ⊢;refine pure_ (i:=1) (N:=some 52) (v:=?_) (a' := ?_) #[false,true,false,false,false,false,false,false,false,false,false,false,false,false,false,false,false] rfl rfl (any_of HT_.out (by kernel_rfl)) (fun _ _ _ h => h) (Or.inl ⟨by rfl,?_⟩) ?_ ?_;rotate_left
                         · intro w';go_simp
                           with_reducible rfl
                         rotate_left
                         · simp only [Act.put,List.setIfInBounds_toArray,List.set_cons_zero,List.set_cons_succ,i64_w,i32_w];rfl
                         refine pure_ (i:=2) (N:=some 53) (v:=?_) (a' := ?_) #[false,true,true,false,false,false,false,false,false,false,false,false,false,false,false,false,false] rfl rfl (any_of HT_.out (by kernel_rfl)) (fun _ _ _ h => h) (Or.inl ⟨by rfl,?_⟩) ?_ ?_;rotate_left
                         · intro w';go_simp
                           with_reducible rfl
                         rotate_left
                         · simp only [Act.put,List.setIfInBounds_toArray,List.set_cons_zero,List.set_cons_succ,i64_w,i32_w];rfl
                         refine pure_ (i:=4) (N:=some 55) (v:=?_) (a' := ?_) #[false,true,true,false,true,false,false,false,false,false,false,false,false,false,false,false,false] rfl rfl (any_of HT_.out (by kernel_rfl)) (fun _ _ _ h => h) (Or.inl ⟨by rfl,?_⟩) ?_ ?_;rotate_left
                         · intro w';go_simp
                           with_reducible rfl
                         rotate_left
                         · simp only [Act.put,List.setIfInBounds_toArray,List.set_cons_zero,List.set_cons_succ,i64_w,i32_w];rfl
                         refine pure_ (i:=5) (N:=some 56) (v:=?_) (a' := ?_) #[false,true,true,false,true,true,false,false,false,false,false,false,false,false,false,false,false] rfl rfl (any_of HT_.out (by kernel_rfl)) (fun _ _ _ h => h) (Or.inl ⟨by rfl,?_⟩) ?_ ?_;rotate_left
                         · intro w';go_simp
                           with_reducible rfl
                         rotate_left
                         · simp only [Act.put,List.setIfInBounds_toArray,List.set_cons_zero,List.set_cons_succ,i64_w,i32_w];rfl
                         refine pure_ (i:=6) (N:=some 57) (v:=?_) (a' := ?_) #[false,true,true,false,true,true,true,false,false,false,false,false,false,false,false,false,false] rfl rfl (any_of HT_.out (by kernel_rfl)) (fun _ _ _ h => h) (Or.inl ⟨by rfl,?_⟩) ?_ ?_;rotate_left
                         · intro w';go_simp
                           with_reducible rfl
                         rotate_left
                         · simp only [Act.put,List.setIfInBounds_toArray,List.set_cons_zero,List.set_cons_succ,i64_w,i32_w];rfl
                         refine take_ (i:=0) (N:=some 51) (v:=?_) (a' := ?_) #[true,true,true,false,true,true,true,false,false,false,false,false,false,false,false,false,false] rfl rfl (Z67 HT_.out HW_.out (by kernel_rfl)) (fun _ _ _ h => h) (Or.inl ⟨by rfl,?_⟩) hHeld ?_ ?_;rotate_left
                         · rintro w' ⟨s0,s1,s2,s3,s4,s5⟩;go_simp
                           with_reducible rfl
                         rotate_left
                         · simp only [Act.put,List.setIfInBounds_toArray,List.set_cons_zero,List.set_cons_succ,i64_w,i32_w];rfl
                         refine one_ (i:=3) (N:=some 54) #[true,true,true,true,true,true,true,false,false,false,false,false,false,false,false,false,false] rfl rfl (one_of HT_.out (by kernel_rfl)) (by decide) (fun K hK => ?_);refine goes_ Try.func18 (by kernel_rfl) rfl #[.agg #[.string t283,.int .i64 t284,.int .i64 t285,.int .i64 t286,.slice Ao11 t287.length co11],.int .i64 x6_3,.int .i64 x5_1] (by rfl) rfl rfl (by (try simp only [List.map_toArray,List.map_cons,List.map_nil]);first|done|rfl|(simp only [List.length_drop,List.length_take];rfl)) ?_
                         with_reducible refine (order_Dominates.calls kj26 t283 t284 t285 t286 _ _ t287 x6_3 x5_1 t302 _ ?side1 ?side2 A32.out).mono ?_
                         (case side1 => repeat (first|exact (Kd.N_reads' HO_283004.out).2.2|(with_reducible refine Kd.C_alloc ?_ _)|(with_reducible refine Kd.C_drewN ?_ _)|(with_reducible refine Kd.C_drew ?_)));(case side2 => exact (Kd.N_reads' HO_283004.out).2.1);rintro e w44 ⟨rfl,hb⟩;have HS5_:=(hb.cell (World.block_lt_of_cell? _ _ (hHeld.2.2.2.2.2))).trans (hHeld.2.2.2.2.2)
                         refine ⟨_,rfl,?_⟩;have n0_:=Aside0.mk (Kd.R_below (by (with_reducible repeat (first|apply Kd.R_alloc|apply Kd.R_drewN|apply Kd.R_drew));exact HO_3.out) hb)
                         have n1_:=Aside0.mk (Kd.R_below (by (with_reducible repeat (first|apply Kd.R_alloc|apply Kd.R_drewN|apply Kd.R_drew));exact HO_4.out) hb)
                         have n2_:=Aside0.mk (Kd.N_below (by (with_reducible repeat (first|apply Kd.N_alloc|apply Kd.N_drewN|apply Kd.N_drew));exact HO_283004.out) hb)
                         have n3_:=Aside0.mk (Z40 (g:=gb282) (o:=.cells #[.string t283,.int .i64 t284,.int .i64 t285,.int .i64 t286,.slice Ao11 t287.length co11] 24 (0,0)) (by (with_reducible repeat (first|refine Z0 ?_ _|refine Z3 ?_|refine Z1 ?_ _));exact BK282.out) hb)
                         have n4_:=Aside0.mk (Z25 (by repeat (first|(with_reducible first|exact HB.out|apply Z7|apply Z4|apply Z6|refine Z8 ?_ GE282.out)|exact HB.out)) hb)
                         clear HO_3;clear HO_4;clear HO_283004;clear BK282;clear HB;have HO_3:=n0_
                         have HO_4:=n1_
                         have HO_283004:=n2_
                         have BK282:=n3_
                         have HB:=n4_
                         clear n0_ n1_ n2_ n3_ n4_;(try clear hb);(try clear hb2);(try clear hk);(try clear hi);refine hK.out _ _ ⟨(Z5 BK282.out 0).trans rfl,(Z5 BK282.out 1).trans rfl,(Z5 BK282.out 2).trans rfl,(Z5 BK282.out 3).trans rfl,(Z5 BK282.out 4).trans rfl,HS5_⟩ (fun hHeld => ?_);clear hK K;refine norm_ (a' := ?_) ?_ ?_;rotate_left
                         · show Act.put _ (some 54) _ = _
                           simp only [Act.put,List.setIfInBounds_toArray,List.set_cons_zero,List.set_cons_succ,i64_w,i32_w];rfl
                         refine pure_ (i:=7) (N:=some 58) (v:=?_) (a' := ?_) #[true,true,true,true,true,true,true,true,false,false,false,false,false,false,false,false,false] rfl rfl (any_of HT_.out (by kernel_rfl)) (fun _ _ _ h => h) (Or.inl ⟨by rfl,?_⟩) ?_ ?_;rotate_left
                         · intro w';go_simp
                           with_reducible rfl
                         rotate_left
                         · simp only [Act.put,List.setIfInBounds_toArray,List.set_cons_zero,List.set_cons_succ,i64_w,i32_w];rfl
                         refine pure_ (i:=9) (N:=some 60) (v:=?_) (a' := ?_) #[true,true,true,true,true,true,true,true,false,true,false,false,false,false,false,false,false] rfl rfl (any_of HT_.out (by kernel_rfl)) (fun _ _ _ h => h) (Or.inl ⟨by rfl,?_⟩) ?_ ?_;rotate_left
                         · intro w';go_simp
                           with_reducible rfl
                         rotate_left
                         · simp only [Act.put,List.setIfInBounds_toArray,List.set_cons_zero,List.set_cons_succ,i64_w,i32_w];rfl
                         refine pure_ (i:=10) (N:=some 61) (v:=?_) (a' := ?_) #[true,true,true,true,true,true,true,true,false,true,true,false,false,false,false,false,false] rfl rfl (any_of HT_.out (by kernel_rfl)) (fun _ _ _ h => h) (Or.inl ⟨by rfl,?_⟩) ?_ ?_;rotate_left
                         · intro w';go_simp
                           with_reducible rfl
                         rotate_left
                         · simp only [Act.put,List.setIfInBounds_toArray,List.set_cons_zero,List.set_cons_succ,i64_w,i32_w];rfl
                         refine pure_ (i:=11) (N:=some 62) (v:=?_) (a' := ?_) #[true,true,true,true,true,true,true,true,false,true,true,true,false,false,false,false,false] rfl rfl (any_of HT_.out (by kernel_rfl)) (fun _ _ _ h => h) (Or.inl ⟨by rfl,?_⟩) ?_ ?_;rotate_left
                         · intro w';go_simp
                           with_reducible rfl
                         rotate_left
                         · simp only [Act.put,List.setIfInBounds_toArray,List.set_cons_zero,List.set_cons_succ,i64_w,i32_w];rfl
                         refine pure_ (i:=12) (N:=some 63) (v:=?_) (a' := ?_) #[true,true,true,true,true,true,true,true,false,true,true,true,true,false,false,false,false] rfl rfl (any_of HT_.out (by kernel_rfl)) (fun _ _ _ h => h) (Or.inl ⟨by rfl,?_⟩) ?_ ?_;rotate_left
                         · intro w';go_simp
                           with_reducible rfl
                         rotate_left
                         · simp only [Act.put,List.setIfInBounds_toArray,List.set_cons_zero,List.set_cons_succ,i64_w,i32_w];rfl
                         refine take_ (i:=8) (N:=some 59) (v:=?_) (a' := ?_) #[true,true,true,true,true,true,true,true,true,true,true,true,true,false,false,false,false] rfl rfl (Z67 HT_.out HW_.out (by kernel_rfl)) (fun _ _ _ h => h) (Or.inl ⟨by rfl,?_⟩) hHeld ?_ ?_;rotate_left
                         · rintro w' ⟨s0,s1,s2,s3,s4,s5⟩;go_simp
                           with_reducible rfl
                         rotate_left
                         · simp only [Act.put,List.setIfInBounds_toArray,List.set_cons_zero,List.set_cons_succ,i64_w,i32_w];rfl
                         refine take_ (i:=13) (N:=some 64) (v:=?_) (a' := ?_) #[true,true,true,true,true,true,true,true,true,true,true,true,true,true,false,false,false] rfl rfl (Z67 HT_.out HW_.out (by kernel_rfl)) (fun _ _ _ h => h) (Or.inl ⟨by rfl,?_⟩) hHeld ?_ ?_;rotate_left
                         · rintro w' ⟨s0,s1,s2,s3,s4,s5⟩;go_simp
                           with_reducible rfl
                         rotate_left
                         · simp only [Act.put,List.setIfInBounds_toArray,List.set_cons_zero,List.set_cons_succ,i64_w,i32_w];rfl
                         refine one_ (i:=14) (N:=some 65) #[true,true,true,true,true,true,true,true,true,true,true,true,true,true,true,false,false] rfl rfl (one_of HT_.out (by kernel_rfl)) (by decide) (fun K hK => ?_);refine goes_ Try.func18 (by kernel_rfl) rfl #[.agg #[.string t283,.int .i64 t284,.int .i64 t285,.int .i64 t286,.slice Ao11 t287.length co11],.int .i64 x6_3,.int .i64 (rd t292 x5_1)] (by rfl) rfl rfl (by (try simp only [List.map_toArray,List.map_cons,List.map_nil]);first|done|rfl|(simp only [List.length_drop,List.length_take];rfl)) ?_
                         with_reducible refine (order_Dominates.calls kj26 t283 t284 t285 t286 _ _ t287 x6_3 (rd t292 x5_1) t304 _ ?side1 ?side2 A41.out).mono ?_
                         (case side1 => repeat (first|exact (Kd.N_reads' HO_283004.out).2.2|(with_reducible refine Kd.C_alloc ?_ _)|(with_reducible refine Kd.C_drewN ?_ _)|(with_reducible refine Kd.C_drew ?_)));(case side2 => exact (Kd.N_reads' HO_283004.out).2.1);rintro e w45 ⟨rfl,hb⟩;have HS5_:=(hb.cell (World.block_lt_of_cell? _ _ (hHeld.2.2.2.2.2))).trans (hHeld.2.2.2.2.2)
                         refine ⟨_,rfl,?_⟩;have n0_:=Aside0.mk (Kd.R_below (by (with_reducible repeat (first|apply Kd.R_alloc|apply Kd.R_drewN|apply Kd.R_drew));exact HO_3.out) hb)
                         have n1_:=Aside0.mk (Kd.R_below (by (with_reducible repeat (first|apply Kd.R_alloc|apply Kd.R_drewN|apply Kd.R_drew));exact HO_4.out) hb)
                         have n2_:=Aside0.mk (Kd.N_below (by (with_reducible repeat (first|apply Kd.N_alloc|apply Kd.N_drewN|apply Kd.N_drew));exact HO_283004.out) hb)
                         have n3_:=Aside0.mk (Z40 (g:=gb282) (o:=.cells #[.string t283,.int .i64 t284,.int .i64 t285,.int .i64 t286,.slice Ao11 t287.length co11] 24 (0,0)) (by (with_reducible repeat (first|refine Z0 ?_ _|refine Z3 ?_|refine Z1 ?_ _));exact BK282.out) hb)
                         have n4_:=Aside0.mk (Z25 (by repeat (first|(with_reducible first|exact HB.out|apply Z7|apply Z4|apply Z6|refine Z8 ?_ GE282.out)|exact HB.out)) hb)
                         clear HO_3;clear HO_4;clear HO_283004;clear BK282;clear HB;have HO_3:=n0_
                         have HO_4:=n1_
                         have HO_283004:=n2_
                         have BK282:=n3_
                         have HB:=n4_
                         clear n0_ n1_ n2_ n3_ n4_;(try clear hb);(try clear hb2);(try clear hk);(try clear hi);refine hK.out _ _ ⟨(Z5 BK282.out 0).trans rfl,(Z5 BK282.out 1).trans rfl,(Z5 BK282.out 2).trans rfl,(Z5 BK282.out 3).trans rfl,(Z5 BK282.out 4).trans rfl,HS5_⟩ (fun hHeld => ?_);clear hK K;refine norm_ (a' := ?_) ?_ ?_;rotate_left
                         · show Act.put _ (some 65) _ = _
                           simp only [Act.put,List.setIfInBounds_toArray,List.set_cons_zero,List.set_cons_succ,i64_w,i32_w];rfl
                         refine pure_ (i:=15) (N:=some 66) (v:=?_) (a' := ?_) #[true,true,true,true,true,true,true,true,true,true,true,true,true,true,true,true,false] rfl rfl (any_of HT_.out (by kernel_rfl)) (fun _ _ _ h => h) (Or.inl ⟨by rfl,?_⟩) ?_ ?_;rotate_left
                         · intro w';go_simp
                           with_reducible rfl
                         rotate_left
                         · simp only [Act.put,List.setIfInBounds_toArray,List.set_cons_zero,List.set_cons_succ,i64_w,i32_w];rfl
                         refine pure_ (i:=16) (N:=some 67) (v:=?_) (a' := ?_) #[true,true,true,true,true,true,true,true,true,true,true,true,true,true,true,true,true] rfl rfl (any_of HT_.out (by kernel_rfl)) (fun _ _ _ h => h) (Or.inl ⟨by rfl,?_⟩) ?_ ?_;rotate_left
                         · intro w';go_simp
                           with_reducible rfl
                         rotate_left
                         · simp only [Act.put,List.setIfInBounds_toArray,List.set_cons_zero,List.set_cons_succ,i64_w,i32_w];rfl
                         refine done_ (Z83 HT_.out (by kernel_rfl)) ?_;try go_wp2
                         go_ret
                         exact ⟨by first|rfl|(simp [Z16,Z15] <;> rfl)|(simp [*,Z16,Z15] <;> rfl),by repeat (first|(with_reducible first|exact HB.out|apply Z7|apply Z4|apply Z6|refine Z8 ?_ GE282.out)|exact HB.out)⟩
                       · rw [if_neg c42] at H;(try (have c42b1 : decide (t302 = t304) = true:=by simpa using c42));(try (have c42b2 : (t302 == t304) = true:=by simpa using c42));clear c42;have H' := Aside0.mk H
                         clear H;try go_wp2
                         have n0_:=Aside0.mk (Kd.R_drew HO_3.out)
                         have n1_:=Aside0.mk (Kd.R_drew HO_4.out)
                         have n2_:=Aside0.mk (Kd.N_drew HO_283004.out)
                         have n3_:=Aside0.mk (Z3 BK282.out)
                         have n4_:=Aside0.mk (Z6 HB.out)
                         clear HO_3;clear HO_4;clear HO_283004;clear BK282;clear HB;have HO_3:=n0_
                         have HO_4:=n1_
                         have HO_283004:=n2_
                         have BK282:=n3_
                         have HB:=n4_
                         clear n0_ n1_ n2_ n3_ n4_;have p303 : 0 ≤ (x5_1 : Int):=of_decide_eq_true (by first|(with_reducible assumption)|assumption)
                         have q303 : x5_1 < (t292.length : Int):=of_decide_eq_true (by first|(with_reducible assumption)|assumption)
                         obtain ⟨ad303,e303,hx303_0⟩:=Kd.at_int (Kd.R_reads' HO_3.out).2.2 x5_1 p303 q303
                         cases e303;replace p303:=eq_true p303
                         replace q303:=eq_true q303
                         refine start_ (n:=17) (S:=fun w' => w'.cell? ⟨gb282,0,none⟩ = some (.string t283) ∧ w'.cell? ⟨gb282,1,none⟩ = some (.int .i64 t284) ∧ w'.cell? ⟨gb282,2,none⟩ = some (.int .i64 t285) ∧ w'.cell? ⟨gb282,3,none⟩ = some (.int .i64 t286) ∧ w'.cell? ⟨gb282,4,none⟩ = some (.slice Ao11 t287.length co11) ∧ w'.cell? (ad303.add (x5_1).toNat) = some (.int .i64 (rd t292 x5_1))) (ds:=[]) #[false,false,false,false,false,false,false,false,false,false,false,false,false,false,false,false,false] (by kernel_rfl) rfl rfl ⟨(Z5 BK282.out 0).trans rfl,(Z5 BK282.out 1).trans rfl,(Z5 BK282.out 2).trans rfl,(Z5 BK282.out 3).trans rfl,(Z5 BK282.out 4).trans rfl,hx303_0⟩ (fun hHeld => ?_);refine Z74 cruciblelaw17_OrderTree.tab14 cruciblelaw17_OrderTree.bits14 (fun HT_ HW_ => ?_);generalize wc.drew = w46 at HO_3 HO_4 HO_283004 BK282 HB hx303_0 hHeld ⊢;refine pure_ (i:=1) (N:=some 52) (v:=?_) (a' := ?_) #[false,true,false,false,false,false,false,false,false,false,false,false,false,false,false,false,false] rfl rfl (any_of HT_.out (by kernel_rfl)) (fun _ _ _ h => h) (Or.inl ⟨by rfl,?_⟩) ?_ ?_;rotate_left
                         · intro w';go_simp
                           with_reducible rfl
                         rotate_left
                         · simp only [Act.put,List.setIfInBounds_toArray,List.set_cons_zero,List.set_cons_succ,i64_w,i32_w];rfl
                         refine pure_ (i:=2) (N:=some 53) (v:=?_) (a' := ?_) #[false,true,true,false,false,false,false,false,false,false,false,false,false,false,false,false,false] rfl rfl (any_of HT_.out (by kernel_rfl)) (fun _ _ _ h => h) (Or.inl ⟨by rfl,?_⟩) ?_ ?_;rotate_left
                         · intro w';go_simp
                           with_reducible rfl
                         rotate_left
                         · simp only [Act.put,List.setIfInBounds_toArray,List.set_cons_zero,List.set_cons_succ,i64_w,i32_w];rfl
                         refine pure_ (i:=4) (N:=some 55) (v:=?_) (a' := ?_) #[false,true,true,false,true,false,false,false,false,false,false,false,false,false,false,false,false] rfl rfl (any_of HT_.out (by kernel_rfl)) (fun _ _ _ h => h) (Or.inl ⟨by rfl,?_⟩) ?_ ?_;rotate_left
                         · intro w';go_simp
                           with_reducible rfl
                         rotate_left
                         · simp only [Act.put,List.setIfInBounds_toArray,List.set_cons_zero,List.set_cons_succ,i64_w,i32_w];rfl
                         refine pure_ (i:=5) (N:=some 56) (v:=?_) (a' := ?_) #[false,true,true,false,true,true,false,false,false,false,false,false,false,false,false,false,false] rfl rfl (any_of HT_.out (by kernel_rfl)) (fun _ _ _ h => h) (Or.inl ⟨by rfl,?_⟩) ?_ ?_;rotate_left
                         · intro w';go_simp
                           with_reducible rfl
                         rotate_left
                         · simp only [Act.put,List.setIfInBounds_toArray,List.set_cons_zero,List.set_cons_succ,i64_w,i32_w];rfl
                         refine pure_ (i:=6) (N:=some 57) (v:=?_) (a' := ?_) #[false,true,true,false,true,true,true,false,false,false,false,false,false,false,false,false,false] rfl rfl (any_of HT_.out (by kernel_rfl)) (fun _ _ _ h => h) (Or.inl ⟨by rfl,?_⟩) ?_ ?_;rotate_left
                         · intro w';go_simp
                           with_reducible rfl
                         rotate_left
                         · simp only [Act.put,List.setIfInBounds_toArray,List.set_cons_zero,List.set_cons_succ,i64_w,i32_w];rfl
                         refine take_ (i:=0) (N:=some 51) (v:=?_) (a' := ?_) #[true,true,true,false,true,true,true,false,false,false,false,false,false,false,false,false,false] rfl rfl (Z67 HT_.out HW_.out (by kernel_rfl)) (fun _ _ _ h => h) (Or.inl ⟨by rfl,?_⟩) hHeld ?_ ?_;rotate_left
                         · rintro w' ⟨s0,s1,s2,s3,s4,s5⟩;go_simp
                           with_reducible rfl
                         rotate_left
                         · simp only [Act.put,List.setIfInBounds_toArray,List.set_cons_zero,List.set_cons_succ,i64_w,i32_w];rfl
                         refine one_ (i:=3) (N:=some 54) #[true,true,true,true,true,true,true,false,false,false,false,false,false,false,false,false,false] rfl rfl (one_of HT_.out (by kernel_rfl)) (by decide) (fun K hK => ?_);refine goes_ Try.func18 (by kernel_rfl) rfl #[.agg #[.string t283,.int .i64 t284,.int .i64 t285,.int .i64 t286,.slice Ao11 t287.length co11],.int .i64 x6_3,.int .i64 x5_1] (by rfl) rfl rfl (by (try simp only [List.map_toArray,List.map_cons,List.map_nil]);first|done|rfl|(simp only [List.length_drop,List.length_take];rfl)) ?_
                         with_reducible refine (order_Dominates.calls kj26 t283 t284 t285 t286 _ _ t287 x6_3 x5_1 t302 _ ?side1 ?side2 A32.out).mono ?_
                         (case side1 => repeat (first|exact (Kd.N_reads' HO_283004.out).2.2|(with_reducible refine Kd.C_alloc ?_ _)|(with_reducible refine Kd.C_drewN ?_ _)|(with_reducible refine Kd.C_drew ?_)));(case side2 => exact (Kd.N_reads' HO_283004.out).2.1);rintro e w47 ⟨rfl,hb⟩;have HS5_:=(hb.cell (World.block_lt_of_cell? _ _ (hHeld.2.2.2.2.2))).trans (hHeld.2.2.2.2.2)
                         refine ⟨_,rfl,?_⟩;have n0_:=Aside0.mk (Kd.R_below (by (with_reducible repeat (first|apply Kd.R_alloc|apply Kd.R_drewN|apply Kd.R_drew));exact HO_3.out) hb)
                         have n1_:=Aside0.mk (Kd.R_below (by (with_reducible repeat (first|apply Kd.R_alloc|apply Kd.R_drewN|apply Kd.R_drew));exact HO_4.out) hb)
                         have n2_:=Aside0.mk (Kd.N_below (by (with_reducible repeat (first|apply Kd.N_alloc|apply Kd.N_drewN|apply Kd.N_drew));exact HO_283004.out) hb)
                         have n3_:=Aside0.mk (Z40 (g:=gb282) (o:=.cells #[.string t283,.int .i64 t284,.int .i64 t285,.int .i64 t286,.slice Ao11 t287.length co11] 24 (0,0)) (by (with_reducible repeat (first|refine Z0 ?_ _|refine Z3 ?_|refine Z1 ?_ _));exact BK282.out) hb)
                         have n4_:=Aside0.mk (Z25 (by repeat (first|(with_reducible first|exact HB.out|apply Z7|apply Z4|apply Z6|refine Z8 ?_ GE282.out)|exact HB.out)) hb)
                         clear HO_3;clear HO_4;clear HO_283004;clear BK282;clear HB;have HO_3:=n0_
                         have HO_4:=n1_
                         have HO_283004:=n2_
                         have BK282:=n3_
                         have HB:=n4_
                         clear n0_ n1_ n2_ n3_ n4_;(try clear hb);(try clear hb2);(try clear hk);(try clear hi);refine hK.out _ _ ⟨(Z5 BK282.out 0).trans rfl,(Z5 BK282.out 1).trans rfl,(Z5 BK282.out 2).trans rfl,(Z5 BK282.out 3).trans rfl,(Z5 BK282.out 4).trans rfl,HS5_⟩ (fun hHeld => ?_);clear hK K;refine norm_ (a' := ?_) ?_ ?_;rotate_left
                         · show Act.put _ (some 54) _ = _
                           simp only [Act.put,List.setIfInBounds_toArray,List.set_cons_zero,List.set_cons_succ,i64_w,i32_w];rfl
                         refine pure_ (i:=7) (N:=some 58) (v:=?_) (a' := ?_) #[true,true,true,true,true,true,true,true,false,false,false,false,false,false,false,false,false] rfl rfl (any_of HT_.out (by kernel_rfl)) (fun _ _ _ h => h) (Or.inl ⟨by rfl,?_⟩) ?_ ?_;rotate_left
                         · intro w';go_simp
                           with_reducible rfl
                         rotate_left
                         · simp only [Act.put,List.setIfInBounds_toArray,List.set_cons_zero,List.set_cons_succ,i64_w,i32_w];rfl
                         refine pure_ (i:=9) (N:=some 60) (v:=?_) (a' := ?_) #[true,true,true,true,true,true,true,true,false,true,false,false,false,false,false,false,false] rfl rfl (any_of HT_.out (by kernel_rfl)) (fun _ _ _ h => h) (Or.inl ⟨by rfl,?_⟩) ?_ ?_;rotate_left
                         · intro w';go_simp
                           with_reducible rfl
                         rotate_left
                         · simp only [Act.put,List.setIfInBounds_toArray,List.set_cons_zero,List.set_cons_succ,i64_w,i32_w];rfl
                         refine pure_ (i:=10) (N:=some 61) (v:=?_) (a' := ?_) #[true,true,true,true,true,true,true,true,false,true,true,false,false,false,false,false,false] rfl rfl (any_of HT_.out (by kernel_rfl)) (fun _ _ _ h => h) (Or.inl ⟨by rfl,?_⟩) ?_ ?_;rotate_left
                         · intro w';go_simp
                           with_reducible rfl
                         rotate_left
                         · simp only [Act.put,List.setIfInBounds_toArray,List.set_cons_zero,List.set_cons_succ,i64_w,i32_w];rfl
                         refine pure_ (i:=11) (N:=some 62) (v:=?_) (a' := ?_) #[true,true,true,true,true,true,true,true,false,true,true,true,false,false,false,false,false] rfl rfl (any_of HT_.out (by kernel_rfl)) (fun _ _ _ h => h) (Or.inl ⟨by rfl,?_⟩) ?_ ?_;rotate_left
                         · intro w';go_simp
                           with_reducible rfl
                         rotate_left
                         · simp only [Act.put,List.setIfInBounds_toArray,List.set_cons_zero,List.set_cons_succ,i64_w,i32_w];rfl
                         refine pure_ (i:=12) (N:=some 63) (v:=?_) (a' := ?_) #[true,true,true,true,true,true,true,true,false,true,true,true,true,false,false,false,false] rfl rfl (any_of HT_.out (by kernel_rfl)) (fun _ _ _ h => h) (Or.inl ⟨by rfl,?_⟩) ?_ ?_;rotate_left
                         · intro w';go_simp
                           with_reducible rfl
                         rotate_left
                         · simp only [Act.put,List.setIfInBounds_toArray,List.set_cons_zero,List.set_cons_succ,i64_w,i32_w];rfl
                         refine take_ (i:=8) (N:=some 59) (v:=?_) (a' := ?_) #[true,true,true,true,true,true,true,true,true,true,true,true,true,false,false,false,false] rfl rfl (Z67 HT_.out HW_.out (by kernel_rfl)) (fun _ _ _ h => h) (Or.inl ⟨by rfl,?_⟩) hHeld ?_ ?_;rotate_left
                         · rintro w' ⟨s0,s1,s2,s3,s4,s5⟩;go_simp
                           with_reducible rfl
                         rotate_left
                         · simp only [Act.put,List.setIfInBounds_toArray,List.set_cons_zero,List.set_cons_succ,i64_w,i32_w];rfl
                         refine take_ (i:=13) (N:=some 64) (v:=?_) (a' := ?_) #[true,true,true,true,true,true,true,true,true,true,true,true,true,true,false,false,false] rfl rfl (Z67 HT_.out HW_.out (by kernel_rfl)) (fun _ _ _ h => h) (Or.inl ⟨by rfl,?_⟩) hHeld ?_ ?_;rotate_left
                         · rintro w' ⟨s0,s1,s2,s3,s4,s5⟩;go_simp
                           with_reducible rfl
                         rotate_left
                         · simp only [Act.put,List.setIfInBounds_toArray,List.set_cons_zero,List.set_cons_succ,i64_w,i32_w];rfl
                         refine one_ (i:=14) (N:=some 65) #[true,true,true,true,true,true,true,true,true,true,true,true,true,true,true,false,false] rfl rfl (one_of HT_.out (by kernel_rfl)) (by decide) (fun K hK => ?_);refine goes_ Try.func18 (by kernel_rfl) rfl #[.agg #[.string t283,.int .i64 t284,.int .i64 t285,.int .i64 t286,.slice Ao11 t287.length co11],.int .i64 x6_3,.int .i64 (rd t292 x5_1)] (by rfl) rfl rfl (by (try simp only [List.map_toArray,List.map_cons,List.map_nil]);first|done|rfl|(simp only [List.length_drop,List.length_take];rfl)) ?_
                         with_reducible refine (order_Dominates.calls kj26 t283 t284 t285 t286 _ _ t287 x6_3 (rd t292 x5_1) t304 _ ?side1 ?side2 A41.out).mono ?_
                         (case side1 => repeat (first|exact (Kd.N_reads' HO_283004.out).2.2|(with_reducible refine Kd.C_alloc ?_ _)|(with_reducible refine Kd.C_drewN ?_ _)|(with_reducible refine Kd.C_drew ?_)));(case side2 => exact (Kd.N_reads' HO_283004.out).2.1);rintro e w48 ⟨rfl,hb⟩;have HS5_:=(hb.cell (World.block_lt_of_cell? _ _ (hHeld.2.2.2.2.2))).trans (hHeld.2.2.2.2.2)
                         refine ⟨_,rfl,?_⟩;have n0_:=Aside0.mk (Kd.R_below (by (with_reducible repeat (first|apply Kd.R_alloc|apply Kd.R_drewN|apply Kd.R_drew));exact HO_3.out) hb)
                         have n1_:=Aside0.mk (Kd.R_below (by (with_reducible repeat (first|apply Kd.R_alloc|apply Kd.R_drewN|apply Kd.R_drew));exact HO_4.out) hb)
                         have n2_:=Aside0.mk (Kd.N_below (by (with_reducible repeat (first|apply Kd.N_alloc|apply Kd.N_drewN|apply Kd.N_drew));exact HO_283004.out) hb)
                         have n3_:=Aside0.mk (Z40 (g:=gb282) (o:=.cells #[.string t283,.int .i64 t284,.int .i64 t285,.int .i64 t286,.slice Ao11 t287.length co11] 24 (0,0)) (by (with_reducible repeat (first|refine Z0 ?_ _|refine Z3 ?_|refine Z1 ?_ _));exact BK282.out) hb)
                         have n4_:=Aside0.mk (Z25 (by repeat (first|(with_reducible first|exact HB.out|apply Z7|apply Z4|apply Z6|refine Z8 ?_ GE282.out)|exact HB.out)) hb)
                         clear HO_3;clear HO_4;clear HO_283004;clear BK282;clear HB;have HO_3:=n0_
                         have HO_4:=n1_
                         have HO_283004:=n2_
                         have BK282:=n3_
                         have HB:=n4_
                         clear n0_ n1_ n2_ n3_ n4_;(try clear hb);(try clear hb2);(try clear hk);(try clear hi);refine hK.out _ _ ⟨(Z5 BK282.out 0).trans rfl,(Z5 BK282.out 1).trans rfl,(Z5 BK282.out 2).trans rfl,(Z5 BK282.out 3).trans rfl,(Z5 BK282.out 4).trans rfl,HS5_⟩ (fun hHeld => ?_);clear hK K;refine norm_ (a' := ?_) ?_ ?_;rotate_left
                         · show Act.put _ (some 65) _ = _
                           simp only [Act.put,List.setIfInBounds_toArray,List.set_cons_zero,List.set_cons_succ,i64_w,i32_w];rfl
                         refine pure_ (i:=15) (N:=some 66) (v:=?_) (a' := ?_) #[true,true,true,true,true,true,true,true,true,true,true,true,true,true,true,true,false] rfl rfl (any_of HT_.out (by kernel_rfl)) (fun _ _ _ h => h) (Or.inl ⟨by rfl,?_⟩) ?_ ?_;rotate_left
                         · intro w';go_simp
                           with_reducible rfl
                         rotate_left
                         · simp only [Act.put,List.setIfInBounds_toArray,List.set_cons_zero,List.set_cons_succ,i64_w,i32_w];rfl
                         refine pure_ (i:=16) (N:=some 67) (v:=?_) (a' := ?_) #[true,true,true,true,true,true,true,true,true,true,true,true,true,true,true,true,true] rfl rfl (any_of HT_.out (by kernel_rfl)) (fun _ _ _ h => h) (Or.inl ⟨by rfl,?_⟩) ?_ ?_;rotate_left
                         · intro w';go_simp
                           with_reducible rfl
                         rotate_left
                         · simp only [Act.put,List.setIfInBounds_toArray,List.set_cons_zero,List.set_cons_succ,i64_w,i32_w];rfl
                         refine done_ (Z83 HT_.out (by kernel_rfl)) ?_;try go_wp2
                         go_roundg kj26
                         case measure => have:=HK1.out;have:=HJ17.out;have:=HK3.out;have:=HJ26.out;omega
                         case rel => exact ⟨(wrap64 (x6_3 + 1)),(by first|rfl|(simp;done)|(simp [*];done)),H',⟨by have:=HK1.out;have:=HJ17.out;have:=HK3.out;have:=HJ26.out;omega⟩,⟨by (with_reducible repeat (first|apply Kd.R_alloc|apply Kd.R_drewN|apply Kd.R_drew));exact HO_3.out⟩,⟨by (with_reducible repeat (first|apply Kd.R_alloc|apply Kd.R_drewN|apply Kd.R_drew));exact HO_4.out⟩,⟨by (with_reducible repeat (first|apply Kd.N_alloc|apply Kd.N_drewN|apply Kd.N_drew));exact HO_283004.out⟩,⟨by (with_reducible repeat (first|refine Z0 ?_ _|refine Z3 ?_|refine Z1 ?_ _));exact BK282.out⟩,⟨by repeat (first|(with_reducible first|exact HB.out|apply Z7|apply Z4|apply Z6|refine Z8 ?_ GE282.out)|exact HB.out)⟩⟩
                     · rw [if_neg c40] at H;exact absurd H (by simp)
                   · rw [if_neg c39] at H;exact absurd H (by simp)
               · replace c31:=Bool.eq_false_iff.mpr c31
                 subst c31;have H1 : (cruciblelaw17_OrderTree.l0 kj26 t292 t295 (wrap64 (x5_1 + 1)) t283 t284 t285 t286 t287) = some r:=by rw [if_neg (show ¬ (false = true) by decide)] at H;exact H
                 clear H;have H:=H1
                 clear H1;have H' := Aside0.mk H
                 clear H;go_wp2
                 go_roundg kj26
                 case measure => have:=HK1.out;have:=HJ17.out;have:=HK3.out;have:=HJ26.out;omega
                 case rel => exact ⟨(wrap64 (x5_1 + 1)),(by first|rfl|(simp;done)|(simp [*];done)),H',⟨by have:=HK1.out;have:=HJ17.out;have:=HK3.out;have:=HJ26.out;omega⟩,⟨by (with_reducible repeat (first|apply Kd.R_alloc|apply Kd.R_drewN|apply Kd.R_drew));exact HO_3.out⟩,⟨by (with_reducible repeat (first|apply Kd.R_alloc|apply Kd.R_drewN|apply Kd.R_drew));exact HO_4.out⟩,⟨by (with_reducible repeat (first|apply Kd.N_alloc|apply Kd.N_drewN|apply Kd.N_drew));exact HO_283004.out⟩,⟨by (with_reducible repeat (first|refine Z0 ?_ _|refine Z3 ?_|refine Z1 ?_ _));exact BK282.out⟩,⟨by repeat (first|(with_reducible first|exact HB.out|apply Z7|apply Z4|apply Z6|refine Z8 ?_ GE282.out)|exact HB.out)⟩⟩
     · rw [if_neg c17] at H;have c17b0 : decide (x5_1 < (t292.length : Int)) = false:=decide_eq_false c17
       clear c17;replace H:=Option.bind_eq_some_iff.mp H
       obtain ⟨t298,A490,H⟩:=H
       replace H : (some t298) = some r:=H
       have A49:=Aside0.mk A490
       clear A490;obtain rfl:=Option.some.inj H
       obtain ⟨Ao50,co50,eo50⟩:=Kd.R_slice HO_3.out
       subst eo50;go_wp2_with (first|((with_reducible refine Z14 (f:=12) rfl ?_);refine goesL_ (some 68) rfl rfl Try.func12 (by kernel_rfl) rfl #[] rfl (by (try simp only [List.map_toArray,List.map_cons,List.map_nil]);first|done|rfl|(simp only [List.length_drop,List.length_take];rfl)) ?_;(with_reducible refine (cruciblelaw17_awake.calls k1  t298 _ A49.out).mono ?_);rintro e w51 ⟨rfl,hb⟩;refine ⟨_,rfl,?_⟩;have n0_:=Aside0.mk (Kd.R_below (by (with_reducible repeat (first|apply Kd.R_alloc|apply Kd.R_drewN|apply Kd.R_drew));exact HO_3.out) hb);have n1_:=Aside0.mk (Kd.R_below (by (with_reducible repeat (first|apply Kd.R_alloc|apply Kd.R_drewN|apply Kd.R_drew));exact HO_4.out) hb);have n2_:=Aside0.mk (Kd.N_below (by (with_reducible repeat (first|apply Kd.N_alloc|apply Kd.N_drewN|apply Kd.N_drew));exact HO_283004.out) hb);have n3_:=Aside0.mk (Z40 (g:=gb282) (o:=.cells #[.string t283,.int .i64 t284,.int .i64 t285,.int .i64 t286,.slice Ao11 t287.length co11] 24 (0,0)) (by (with_reducible repeat (first|refine Z0 ?_ _|refine Z3 ?_|refine Z1 ?_ _));exact BK282.out) hb);have n4_:=Aside0.mk (Z25 (by repeat (first|(with_reducible first|exact HB.out|apply Z7|apply Z4|apply Z6|refine Z8 ?_ GE282.out)|exact HB.out)) hb);clear HO_3;clear HO_4;clear HO_283004;clear BK282;clear HB;have HO_3:=n0_;have HO_4:=n1_;have HO_283004:=n2_;have BK282:=n3_;have HB:=n4_;clear n0_ n1_ n2_ n3_ n4_;(try clear hb);(try clear hb2);(try clear hk);(try clear hi)))
       go_ret
       exact ⟨by first|rfl|(simp [Z16,Z15] <;> rfl)|(simp [*,Z16,Z15] <;> rfl),by repeat (first|(with_reducible first|exact HB.out|apply Z7|apply Z4|apply Z6|refine Z8 ?_ GE282.out)|exact HB.out)⟩
 · replace c4:=Bool.eq_false_iff.mpr c4
   subst c4;have H1 : ((cruciblelaw17_awake.f k).bind fun t291 => (some t291)) = some r:=by rw [if_neg (show ¬ (false = true) by decide)] at H;exact H
   clear H;have H:=H1
   clear H1;replace H:=Option.bind_eq_some_iff.mp H
   obtain ⟨t291,A520,H⟩:=H
   replace H : (some t291) = some r:=H
   have A52:=Aside0.mk A520
   clear A520;obtain rfl:=Option.some.inj H
   go_enter Try.func5,Try.ntmps5
   go_wp2_with (first|((with_reducible refine Z52 (N:=1) rfl ?_);(try (refine Z66 (by rfl) ?_;dsimp only));refine Z51 ?hg (N:=1) ?hd (cs:=#[.string a0_0,.int .i64 a0_1,.int .i64 a0_2,.int .i64 a0_3,.slice A0_4 l0_4.length c0_4]) (t:=24) ?hr ?_;(case hd => rfl);(case hg => rfl);(case hr => first|(go_simp;done)|(go_simp;rfl));intro gb282 hg w53 hbox hb;have n0_:=Aside0.mk (Z25 (by repeat (first|(with_reducible first|exact HB.out|apply Z7|apply Z4|apply Z6)|exact HB.out)) hb);have n1_:=Aside0.mk (hbox);have n2_:=Aside0.mk ((by rw [hg];exact (Z27 (by repeat (first|(with_reducible first|exact HB.out|apply Z7|apply Z4|apply Z6)|exact HB.out))) : w.heap.size ≤ gb282));have n3_:=Aside0.mk ((by rw [hg];exact (Z27 (by repeat (first|(with_reducible first|exact HB.out|apply Z7|apply Z4|apply Z6)|exact HB.out))) : w.heap.size ≤ gb282));clear HB;have HB:=n0_;have BK282:=n1_;have GW282:=n2_;have GE282:=n3_;clear n0_ n1_ n2_ n3_;clear hb hbox hg;have hcz54_0 : w53.cell? ⟨gb282,0,none⟩ = some (.string a0_0):=(Z5 BK282.out 0).trans rfl;have hcz54_1 : w53.cell? ⟨gb282,1,none⟩ = some (.int .i64 a0_1):=(Z5 BK282.out 1).trans rfl;have hcz54_2 : w53.cell? ⟨gb282,2,none⟩ = some (.int .i64 a0_2):=(Z5 BK282.out 2).trans rfl;have hcz54_3 : w53.cell? ⟨gb282,3,none⟩ = some (.int .i64 a0_3):=(Z5 BK282.out 3).trans rfl;have hcz54_4 : w53.cell? ⟨gb282,4,none⟩ = some (.slice A0_4 l0_4.length c0_4):=(Z5 BK282.out 4).trans rfl)|((with_reducible refine Z14 (f:=9) rfl ?_);refine goesL_ (some 8) rfl rfl Try.func9 (by kernel_rfl) rfl #[.agg #[.string a0_0,.int .i64 a0_1,.int .i64 a0_2,.int .i64 a0_3,.slice A0_4 l0_4.length c0_4]] rfl (by (try simp only [List.map_toArray,List.map_cons,List.map_nil]);first|done|rfl|(simp only [List.length_drop,List.length_take];rfl)) ?_;(with_reducible refine (cruciblelaw17_bare.calls k a0_0 a0_1 a0_2 a0_3 (fun k_ => k_ < w.heap.size) _ _ l0_4 t283 t284 t285 t286 t287 _ ?side1 A2.out).mono ?_);(case side1 => exact Kd.V_mk HC0_4.out (Kd.F_below (Kd.C_F k45_heap HR0_4.out) (by repeat (first|(with_reducible first|exact HB.out|apply Z7|apply Z4|apply Z6|refine Z8 ?_ GE282.out)|exact HB.out))));rintro e w55 ⟨v288,rfl,ho0,hb⟩;refine ⟨_,rfl,?_⟩;have n0_:=Aside0.mk (Kd.N_lower (Kd.N_mono (ok' := fun k_ => k_ ≠ gb282) ho0 (fun k_ hk_ => Or.elim hk_ (fun hs_ => fun e_ => Nat.not_le.2 hs_ (by rw [e_];exact GW282.out)) (fun hn_ => (Kd.freshB (g:=gb282) (o:=.cells #[.string a0_0,.int .i64 a0_1,.int .i64 a0_2,.int .i64 a0_3,.slice A0_4 l0_4.length c0_4] 24 (0,0)) (by (with_reducible repeat (first|refine Z0 ?_ _|refine Z3 ?_|refine Z1 ?_ _));exact BK282.out) k_ hn_)))) (Z27 (by repeat (first|(with_reducible first|exact HB.out|apply Z7|apply Z4|apply Z6|refine Z8 ?_ GE282.out)|exact HB.out))));have n1_:=Aside0.mk (Z40 (g:=gb282) (o:=.cells #[.string a0_0,.int .i64 a0_1,.int .i64 a0_2,.int .i64 a0_3,.slice A0_4 l0_4.length c0_4] 24 (0,0)) (by (with_reducible repeat (first|refine Z0 ?_ _|refine Z3 ?_|refine Z1 ?_ _));exact BK282.out) hb);have n2_:=Aside0.mk (Z25 (by repeat (first|(with_reducible first|exact HB.out|apply Z7|apply Z4|apply Z6|refine Z8 ?_ GE282.out)|exact HB.out)) hb);clear BK282;clear HB;have HO289:=n0_;have BK282:=n1_;have HB:=n2_;clear n0_ n1_ n2_;(try clear hb);(try clear hb2);(try clear hk);(try clear hi);(try clear ho0);have hcz56_0 : w55.cell? ⟨gb282,0,none⟩ = some (.string a0_0):=(Z5 BK282.out 0).trans rfl;have hcz56_1 : w55.cell? ⟨gb282,1,none⟩ = some (.int .i64 a0_1):=(Z5 BK282.out 1).trans rfl;have hcz56_2 : w55.cell? ⟨gb282,2,none⟩ = some (.int .i64 a0_2):=(Z5 BK282.out 2).trans rfl;have hcz56_3 : w55.cell? ⟨gb282,3,none⟩ = some (.int .i64 a0_3):=(Z5 BK282.out 3).trans rfl;have hcz56_4 : w55.cell? ⟨gb282,4,none⟩ = some (.slice A0_4 l0_4.length c0_4):=(Z5 BK282.out 4).trans rfl;have hfz56_0:=Z2 BK282.out 0;have hfz56_1:=Z2 BK282.out 1;have hfz56_2:=Z2 BK282.out 2;have hfz56_3:=Z2 BK282.out 3;have hfz56_4:=Z2 BK282.out 4;obtain ⟨Ao57,co57,eo57⟩:=Kd.N_slice HO289.out;subst eo57)|((with_reducible refine Z14 (f:=11) rfl ?_);refine goesL_ (some 10) rfl rfl Try.func11 (by kernel_rfl) rfl #[.agg #[.string t283,.int .i64 t284,.int .i64 t285,.int .i64 t286,.slice Ao57 t287.length co57]] rfl (by (try simp only [List.map_toArray,List.map_cons,List.map_nil]);first|done|rfl|(simp only [List.length_drop,List.length_take];rfl)) ?_;(with_reducible refine (cruciblelaw17_May.calls k t283 t284 t285 t286 _ _ t287 false _ ?side1 ?side2 A3.out).mono ?_);(case side1 => refine (Kd.N_reads' (e:=45) (base:=w.heap.size) (ok:=fun k_ => k_ ≠ gb282) (n:=t287.length) (c:=co57) ?_).2.2;exact (by (with_reducible repeat (first|apply Kd.N_alloc|apply Kd.N_drewN|apply Kd.N_drew));exact (Kd.N_mono (Kd.N_far (p:=⟨gb282,4,none⟩) (Kd.N_far (p:=⟨gb282,3,none⟩) (Kd.N_far (p:=⟨gb282,2,none⟩) (Kd.N_far (p:=⟨gb282,1,none⟩) (Kd.N_far (p:=⟨gb282,0,none⟩) (Kd.N_mono HO289.out (fun k_ hk => (⟨hk,hk⟩ : _ ∧ k_ ≠ gb282))) (fun _ hk => hk.2) (.string t283)) (fun _ hk => hk.2) (.int .i64 t284)) (fun _ hk => hk.2) (.int .i64 t285)) (fun _ hk => hk.2) (.int .i64 t286)) (fun _ hk => hk.2) (.slice Ao57 t287.length co57)) (fun _ h_ => h_.1))));(case side2 => exact (Kd.N_reads' HO289.out).2.1);rintro e w58 ⟨rfl,hb⟩;refine ⟨_,rfl,?_⟩;have n0_:=Aside0.mk (Kd.N_below (by (with_reducible repeat (first|apply Kd.N_alloc|apply Kd.N_drewN|apply Kd.N_drew));exact (Kd.N_mono (Kd.N_far (p:=⟨gb282,4,none⟩) (Kd.N_far (p:=⟨gb282,3,none⟩) (Kd.N_far (p:=⟨gb282,2,none⟩) (Kd.N_far (p:=⟨gb282,1,none⟩) (Kd.N_far (p:=⟨gb282,0,none⟩) (Kd.N_mono HO289.out (fun k_ hk => (⟨hk,hk⟩ : _ ∧ k_ ≠ gb282))) (fun _ hk => hk.2) (.string t283)) (fun _ hk => hk.2) (.int .i64 t284)) (fun _ hk => hk.2) (.int .i64 t285)) (fun _ hk => hk.2) (.int .i64 t286)) (fun _ hk => hk.2) (.slice Ao57 t287.length co57)) (fun _ h_ => h_.1))) hb);have n1_:=Aside0.mk (Z40 (g:=gb282) (o:=.cells #[.string t283,.int .i64 t284,.int .i64 t285,.int .i64 t286,.slice Ao57 t287.length co57] 24 (0,0)) (by (with_reducible repeat (first|refine Z0 ?_ _|refine Z3 ?_|refine Z1 ?_ _));refine Z9 (cs:=#[.string t283,.int .i64 t284,.int .i64 t285,.int .i64 t286,.slice A0_4 l0_4.length c0_4]) ?_ 4 _ rfl;(with_reducible repeat (first|refine Z0 ?_ _|refine Z3 ?_|refine Z1 ?_ _));refine Z9 (cs:=#[.string t283,.int .i64 t284,.int .i64 t285,.int .i64 a0_3,.slice A0_4 l0_4.length c0_4]) ?_ 3 _ rfl;(with_reducible repeat (first|refine Z0 ?_ _|refine Z3 ?_|refine Z1 ?_ _));refine Z9 (cs:=#[.string t283,.int .i64 t284,.int .i64 a0_2,.int .i64 a0_3,.slice A0_4 l0_4.length c0_4]) ?_ 2 _ rfl;(with_reducible repeat (first|refine Z0 ?_ _|refine Z3 ?_|refine Z1 ?_ _));refine Z9 (cs:=#[.string t283,.int .i64 a0_1,.int .i64 a0_2,.int .i64 a0_3,.slice A0_4 l0_4.length c0_4]) ?_ 1 _ rfl;(with_reducible repeat (first|refine Z0 ?_ _|refine Z3 ?_|refine Z1 ?_ _));refine Z9 (cs:=#[.string a0_0,.int .i64 a0_1,.int .i64 a0_2,.int .i64 a0_3,.slice A0_4 l0_4.length c0_4]) ?_ 0 _ rfl;(with_reducible repeat (first|refine Z0 ?_ _|refine Z3 ?_|refine Z1 ?_ _));exact BK282.out) hb);have n2_:=Aside0.mk (Z25 (by repeat (first|(with_reducible first|exact HB.out|apply Z7|apply Z4|apply Z6|refine Z8 ?_ GE282.out)|exact HB.out)) hb);clear HO289;clear BK282;clear HB;have HO289:=n0_;have BK282:=n1_;have HB:=n2_;clear n0_ n1_ n2_;(try clear hb);(try clear hb2);(try clear hk);(try clear hi))|((with_reducible refine Z14 (f:=12) rfl ?_);refine goesL_ (some 12) rfl rfl Try.func12 (by kernel_rfl) rfl #[] rfl (by (try simp only [List.map_toArray,List.map_cons,List.map_nil]);first|done|rfl|(simp only [List.length_drop,List.length_take];rfl)) ?_;(with_reducible refine (cruciblelaw17_awake.calls k  t291 _ A52.out).mono ?_);rintro e w59 ⟨rfl,hb⟩;refine ⟨_,rfl,?_⟩;have n0_:=Aside0.mk (Kd.N_below (by (with_reducible repeat (first|apply Kd.N_alloc|apply Kd.N_drewN|apply Kd.N_drew));exact HO289.out) hb);have n1_:=Aside0.mk (Z40 (g:=gb282) (o:=.cells #[.string t283,.int .i64 t284,.int .i64 t285,.int .i64 t286,.slice Ao57 t287.length co57] 24 (0,0)) (by (with_reducible repeat (first|refine Z0 ?_ _|refine Z3 ?_|refine Z1 ?_ _));exact BK282.out) hb);have n2_:=Aside0.mk (Z25 (by repeat (first|(with_reducible first|exact HB.out|apply Z7|apply Z4|apply Z6|refine Z8 ?_ GE282.out)|exact HB.out)) hb);clear HO289;clear BK282;clear HB;have HO289:=n0_;have BK282:=n1_;have HB:=n2_;clear n0_ n1_ n2_;(try clear hb);(try clear hb2);(try clear hk);(try clear hi)))
   go_ret
   exact ⟨by first|rfl|(simp [Z16,Z15] <;> rfl)|(simp [*,Z16,Z15] <;> rfl),by repeat (first|(with_reducible first|exact HB.out|apply Z7|apply Z4|apply Z6|refine Z8 ?_ GE282.out)|exact HB.out)⟩
end Go.Proofs.Ytbklmnieakefnaa.Q
