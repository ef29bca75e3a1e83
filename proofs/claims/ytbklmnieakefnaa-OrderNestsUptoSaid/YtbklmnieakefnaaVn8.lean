/- A part of the proof, made small by a program: Qx15, Qx16, Qx17, Qx18. -/
import Derived.Test.YtbklmnieakefnaaVn1
import Derived.Test.YtbklmnieakefnaaVn5
import Derived.Test.YtbklmnieakefnaaVn7
namespace Go.Proofs.Ytbklmnieakefnaa.Q
open Go.RowKit Go.Proofs.YtbklmnieakefnaaW.PrintWords Go.Proofs.YtbklmnieakefnaaW.PrintLast Go.Proofs.YtbklmnieakefnaaW.PrintMore

set_option linter.unusedVariables false
set_option linter.unusedSimpArgs false
def cruciblelaw17_awake.f (k : Nat)  : Option (Bool):=(order_Doms.f k (⟨#[]⟩ : ByteArray) 0 0 0 (([(⟨([] : List (S59)),1,0,(([1] : List Int))⟩ : S45),(⟨([] : List (S59)),3,(-1),([] : List Int)⟩ : S45)] : List (S45)))).bind fun t225 => (if (t225.length : Int) = 2 then (if 0 < (t225.length : Int) then (if (rd t225 0) = (-1) then (if 1 < (t225.length : Int) then (some ((rd t225 1) == 0)) else (none)) else (some false)) else (none)) else (some false))
theorem cruciblelaw17_awake.mono : ∀ k,LeO (cruciblelaw17_awake.f k ) (cruciblelaw17_awake.f (k + 1) ):=by
 intro  k;unfold cruciblelaw17_awake.f
 repeat' first
  | (with_reducible exact order_Doms.mono _ _ _ _ _ _)
  | (with_reducible exact LeO.refl _)
  | (with_reducible exact LeO.none _)
  | (with_reducible refine LeO.ite ?_ ?_)
  | (with_reducible refine LeO.bind ?_ (fun _ => ?_))
  | exact order_Doms.mono _ _ _ _ _ _
  | exact LeO.none _
  | refine LeO.ite ?_ ?_
  | refine LeO.bind ?_ (fun _ => ?_)
set_option maxHeartbeats 8000000 in
set_option maxRecDepth 100000 in
theorem cruciblelaw17_awake.calls (k : Nat)  (r : Bool) (w : World) (h : cruciblelaw17_awake.f k  = some r) :
 Calls Try.prog 12 #[] w fun e w' => e = .returned (.bool r) ∧ Below w.heap.size w w' := by
 have hu45:=Try.underlying45
 have hu24:=Try.underlying24
 have HB:=Aside0.mk (Below.refl w.heap.size w)
 have H : ((order_Doms.f k (⟨#[]⟩ : ByteArray) 0 0 0 (([(⟨([] : List (S59)),1,0,(([1] : List Int))⟩ : S45),(⟨([] : List (S59)),3,(-1),([] : List Int)⟩ : S45)] : List (S45)))).bind fun t225 => (if (t225.length : Int) = 2 then (if 0 < (t225.length : Int) then (if (rd t225 0) = (-1) then (if 1 < (t225.length : Int) then (some ((rd t225 1) == 0)) else (none)) else (some false)) else (none)) else (some false))) = some r:=h
 clear h;obtain ⟨y218,hy218⟩ : ∃ y_ : List Int,y_ = (([1] : List Int)):=⟨_,rfl⟩
 replace H : ((order_Doms.f k (⟨#[]⟩ : ByteArray) 0 0 0 (([(⟨([] : List (S59)),1,0,y218⟩ : S45),(⟨([] : List (S59)),3,(-1),([] : List Int)⟩ : S45)] : List (S45)))).bind fun t225 => (if (t225.length : Int) = 2 then (if 0 < (t225.length : Int) then (if (rd t225 0) = (-1) then (if 1 < (t225.length : Int) then (some ((rd t225 1) == 0)) else (none)) else (some false)) else (none)) else (some false))) = some r:=by first|(rw [hy218];with_reducible exact H)|(have H2_:=(Option.bind_some _ _).symm.trans H;rw [hy218];with_reducible exact H2_)|(have H2_:=(Option.bind_some _ _).symm.trans H;with_reducible exact H2_)|with_reducible exact H|(rw [hy218];exact H)|exact H
 have Ny218:=Aside0.mk hy218
 clear hy218;obtain ⟨y221,hy221⟩ : ∃ y_ : List (S45),y_ = (([(⟨([] : List (S59)),1,0,y218⟩ : S45),(⟨([] : List (S59)),3,(-1),([] : List Int)⟩ : S45)] : List (S45))):=⟨_,rfl⟩
 replace H : ((order_Doms.f k (⟨#[]⟩ : ByteArray) 0 0 0 y221).bind fun t225 => (if (t225.length : Int) = 2 then (if 0 < (t225.length : Int) then (if (rd t225 0) = (-1) then (if 1 < (t225.length : Int) then (some ((rd t225 1) == 0)) else (none)) else (some false)) else (none)) else (some false))) = some r:=by first|(rw [hy221];with_reducible exact H)|(have H2_:=(Option.bind_some _ _).symm.trans H;rw [hy221];with_reducible exact H2_)|(have H2_:=(Option.bind_some _ _).symm.trans H;with_reducible exact H2_)|with_reducible exact H|(rw [hy221];exact H)|exact H
 have Ny221:=Aside0.mk hy221
 clear hy221;replace H:=Option.bind_eq_some_iff.mp H
 obtain ⟨t225,A10,H⟩:=H
 replace H : (if (t225.length : Int) = 2 then (if 0 < (t225.length : Int) then (if (rd t225 0) = (-1) then (if 1 < (t225.length : Int) then (some ((rd t225 1) == 0)) else (none)) else (some false)) else (none)) else (some false)) = some r:=H
 have A1:=Aside0.mk A10
 clear A10;by_cases c2 : (t225.length : Int) = 2
 · rw [if_pos c2] at H;have c2b0 : ((t225.length : Int) == 2) = true:=beq_iff_eq.mpr c2
   clear c2;by_cases c3 : 0 < (t225.length : Int)
   · rw [if_pos c3] at H;have c3b0 : decide (0 < (t225.length : Int)) = true:=decide_eq_true c3
     clear c3;by_cases c4 : (rd t225 0) = (-1)
     · rw [if_pos c4] at H;have c4b0 : ((rd t225 0) == (-1)) = true:=beq_iff_eq.mpr c4
       clear c4;by_cases c5 : 1 < (t225.length : Int)
       · rw [if_pos c5] at H;have c5b0 : decide (1 < (t225.length : Int)) = true:=decide_eq_true c5
         clear c5;obtain rfl:=Option.some.inj H
         go_enter Try.func12,Try.ntmps12
         go_wp2_with (first|((with_reducible refine Z52 (N:=3) rfl ?_);refine Kd.R_lit (Kd.int .i64) _ 3 ?hg (N:=3) ?hd (xs:=([1] : List Int)) (inner:=[.int .i64 1]) (ok:=fun _ => True) (okp:=fun _ => True) ?hr ?hp (fun _ hk => hk) trivial (Below.refl _ _) (Nat.le_refl _) (by simp) ?_;(case hd => rfl);(case hg => rfl);(case hr => first|(go_simp;done)|(go_simp;rfl));(case hp => exact (Reps.one (show Kd.M (Kd.int .i64) _ _ _ 1 [.int .i64 1] from rfl) (Reps.none _ _)));intro v219 w6 ho7 hb hg_ hnew_;clear hg_ hnew_;(first|rw [← Ny218.out] at ho7|(simp only [Int.reduceToNat] at ho7;rw [← Ny218.out] at ho7));have n0_:=Aside0.mk (Kd.R_lower ho7 (Z27 YH));have n1_:=Aside0.mk (Z25 YH hb);clear HB;have HO220:=n0_;have HB:=n1_;clear n0_ n1_;clear hb ho7;obtain ⟨Ao8,co8,eo8⟩:=Kd.R_slice HO220.out;subst eo8)|((with_reducible refine Z52 (N:=6) rfl ?_);refine Kd.N_lit k45 _ 45 ?hg (N' := 6) ?hd (xs:=([(⟨([] : List (S59)),1,0,y218⟩ : S45),(⟨([] : List (S59)),3,(-1),([] : List Int)⟩ : S45)] : List (S45))) (inner:=[.slice none 0 0,.int .i64 1,.int .i64 0,.slice Ao8 y218.length co8,.slice none 0 0,.int .i64 3,.int .i64 (-1),.slice none 0 0]) (ok:=(fun _ => True)) (okp:=(fun _ => True)) ?hr ?hp (fun _ hk => hk) ((show ∀ k_,w6.heap.size ≤ k_ → (fun _ => True) k_ from fun k_ hk => trivial) _ (Nat.le_refl _)) (Below.refl _ _) (Nat.le_refl _) (by simp) ?_;(case hd => rfl);(case hg => rfl);(case hr => first|(go_simp;done)|(go_simp;rfl));(case hp => exact (Reps.c4 (show Kd.FK k45 _ _ (⟨([] : List (S59)),1,0,y218⟩ : S45) [.slice none 0 0,.int .i64 1,.int .i64 0,.slice Ao8 y218.length co8] from (k45_mkF _ _ (⟨([] : List (S59)),1,0,y218⟩ : S45) (Nat.le_refl _) (Kd.F_nil _ _ _) (Kd.R_reads' (Kd.R_mono (ok' := (fun _ => True)) (HO220.out) (fun k_ hk => trivial))).2.1 (Kd.R_F (Kd.R_mono (ok' := (fun _ => True)) (HO220.out) (fun k_ hk => trivial))))) (Reps.c4 (show Kd.FK k45 _ _ (⟨([] : List (S59)),3,(-1),([] : List Int)⟩ : S45) [.slice none 0 0,.int .i64 3,.int .i64 (-1),.slice none 0 0] from (k45_mkF _ _ (⟨([] : List (S59)),3,(-1),([] : List Int)⟩ : S45) (Nat.le_refl _) (Kd.F_nil _ _ _) (Nat.le_refl _) (Kd.F_nil _ _ _))) (Reps.none _ _))));intro v222 w9 ho10 hb hg_ hnew_;clear hg_ hnew_;(first|rw [← Ny221.out] at ho10|(simp only [Int.reduceToNat] at ho10;rw [← Ny221.out] at ho10));have n0_:=Aside0.mk (Kd.N_lower ho10 (Z27 YH));have n1_:=Aside0.mk (Z25 YH hb);clear HB;clear HO220;have HO223:=n0_;have HB:=n1_;clear n0_ n1_;clear hb ho10;obtain ⟨Ao11,co11,eo11⟩:=Kd.N_slice HO223.out;subst eo11)|((with_reducible refine Z52 (N:=1) rfl ?_);refine Z51 ?hg (N:=1) ?hd (cs:=#[.string (⟨#[]⟩ : ByteArray),.int .i64 0,.int .i64 0,.int .i64 0,.slice none 0 0]) (t:=24) ?hr ?_;(case hd => rfl);(case hg => rfl);(case hr => first|(go_simp;done)|(go_simp;rfl));intro gb224 hg w12 hbox hb;have n0_:=Aside0.mk (Kd.N_below (Kd.N_elderB (YN HO223) gb224 (Nat.le_of_eq hg.symm)) hb);have n1_:=Aside0.mk (Z25 YH hb);have n2_:=Aside0.mk (hbox);have n3_:=Aside0.mk ((by rw [hg];exact (Z27 YH) : w.heap.size ≤ gb224));have n4_:=Aside0.mk ((by rw [hg];exact (Z27 YH) : w.heap.size ≤ gb224));clear HO223;clear HB;have HO223:=n0_;have HB:=n1_;have BK224:=n2_;have GW224:=n3_;have GE224:=n4_;clear n0_ n1_ n2_ n3_ n4_;clear hb hbox hg;have hcz13_0 : w12.cell? ⟨gb224,0,none⟩ = some (.string (⟨#[]⟩ : ByteArray)):=(Z5 BK224.out 0).trans rfl;have hcz13_1 : w12.cell? ⟨gb224,1,none⟩ = some (.int .i64 0):=(Z5 BK224.out 1).trans rfl;have hcz13_2 : w12.cell? ⟨gb224,2,none⟩ = some (.int .i64 0):=(Z5 BK224.out 2).trans rfl;have hcz13_3 : w12.cell? ⟨gb224,3,none⟩ = some (.int .i64 0):=(Z5 BK224.out 3).trans rfl;have hcz13_4 : w12.cell? ⟨gb224,4,none⟩ = some (.slice none 0 0):=(Z5 BK224.out 4).trans rfl;have hfz13_0:=Z2 BK224.out 0;have hfz13_1:=Z2 BK224.out 1;have hfz13_2:=Z2 BK224.out 2;have hfz13_3:=Z2 BK224.out 3;have hfz13_4:=Z2 BK224.out 4)|((with_reducible refine Z14 (f:=15) rfl ?_);refine goesL_ (some 9) rfl rfl Try.func15 (by kernel_rfl) rfl #[.agg #[.string (⟨#[]⟩ : ByteArray),.int .i64 0,.int .i64 0,.int .i64 0,.slice Ao11 y221.length co11]] rfl (by (try simp only [List.map_toArray,List.map_cons,List.map_nil]);first|done|rfl|(simp only [List.length_drop,List.length_take];rfl)) ?_;(with_reducible refine (order_Doms.calls k (⟨#[]⟩ : ByteArray) 0 0 0 _ _ y221 t225 _ ?side1 ?side2 A1.out).mono ?_);(case side1 => refine (Kd.N_reads' (e:=45) (base:=w.heap.size) (ok:=fun k_ => (True ∧ k_ ≠ gb224)) (n:=y221.length) (c:=co11) ?_).2.2;exact (by (with_reducible repeat (first|apply Kd.N_alloc|apply Kd.N_drewN|apply Kd.N_drew));exact (Kd.N_mono (Kd.N_far (p:=⟨gb224,4,none⟩) (Kd.N_far (p:=⟨gb224,3,none⟩) (Kd.N_far (p:=⟨gb224,2,none⟩) (Kd.N_far (p:=⟨gb224,1,none⟩) (Kd.N_far (p:=⟨gb224,0,none⟩) (Kd.N_mono HO223.out (fun k_ hk => (⟨hk,hk.2⟩ : _ ∧ k_ ≠ gb224))) (fun _ hk => hk.2) (.string (⟨#[]⟩ : ByteArray))) (fun _ hk => hk.2) (.int .i64 0)) (fun _ hk => hk.2) (.int .i64 0)) (fun _ hk => hk.2) (.int .i64 0)) (fun _ hk => hk.2) (.slice Ao11 y221.length co11)) (fun _ h_ => h_.1))));(case side2 => exact (Kd.N_reads' HO223.out).2.1);rintro e w14 ⟨v226,rfl,ho0,hb⟩;refine ⟨_,rfl,?_⟩;have n0_:=Aside0.mk (Kd.N_elder' (by (with_reducible repeat (first|apply Kd.N_alloc|apply Kd.N_drewN|apply Kd.N_drew));exact (Kd.N_mono (Kd.N_far (p:=⟨gb224,4,none⟩) (Kd.N_far (p:=⟨gb224,3,none⟩) (Kd.N_far (p:=⟨gb224,2,none⟩) (Kd.N_far (p:=⟨gb224,1,none⟩) (Kd.N_far (p:=⟨gb224,0,none⟩) (Kd.N_mono HO223.out (fun k_ hk => (⟨hk,hk.2⟩ : _ ∧ k_ ≠ gb224))) (fun _ hk => hk.2) (.string (⟨#[]⟩ : ByteArray))) (fun _ hk => hk.2) (.int .i64 0)) (fun _ hk => hk.2) (.int .i64 0)) (fun _ hk => hk.2) (.int .i64 0)) (fun _ hk => hk.2) (.slice Ao11 y221.length co11)) (fun _ h_ => h_.1))) (Kd.R_base ho0) hb);have n1_:=Aside0.mk (Kd.R_lower ho0 (Z27 YH));have n2_:=Aside0.mk (Z40 (g:=gb224) (o:=.cells #[.string (⟨#[]⟩ : ByteArray),.int .i64 0,.int .i64 0,.int .i64 0,.slice Ao11 y221.length co11] 24 (0,0)) (by (with_reducible repeat (first|refine Z0 ?_ _|refine Z3 ?_|refine Z1 ?_ _));refine Z9 (cs:=#[.string (⟨#[]⟩ : ByteArray),.int .i64 0,.int .i64 0,.int .i64 0,.slice none 0 0]) ?_ 4 _ rfl;(with_reducible repeat (first|refine Z0 ?_ _|refine Z3 ?_|refine Z1 ?_ _));refine Z9 (cs:=#[.string (⟨#[]⟩ : ByteArray),.int .i64 0,.int .i64 0,.int .i64 0,.slice none 0 0]) ?_ 3 _ rfl;(with_reducible repeat (first|refine Z0 ?_ _|refine Z3 ?_|refine Z1 ?_ _));refine Z9 (cs:=#[.string (⟨#[]⟩ : ByteArray),.int .i64 0,.int .i64 0,.int .i64 0,.slice none 0 0]) ?_ 2 _ rfl;(with_reducible repeat (first|refine Z0 ?_ _|refine Z3 ?_|refine Z1 ?_ _));refine Z9 (cs:=#[.string (⟨#[]⟩ : ByteArray),.int .i64 0,.int .i64 0,.int .i64 0,.slice none 0 0]) ?_ 1 _ rfl;(with_reducible repeat (first|refine Z0 ?_ _|refine Z3 ?_|refine Z1 ?_ _));refine Z9 (cs:=#[.string (⟨#[]⟩ : ByteArray),.int .i64 0,.int .i64 0,.int .i64 0,.slice none 0 0]) ?_ 0 _ rfl;(with_reducible repeat (first|refine Z0 ?_ _|refine Z3 ?_|refine Z1 ?_ _));exact BK224.out) hb);have n3_:=Aside0.mk (Z25 YH hb);clear HO223;clear BK224;clear HB;have HO223:=n0_;have HO227:=n1_;have BK224:=n2_;have HB:=n3_;clear n0_ n1_ n2_ n3_;(try clear hb);(try clear hb2);(try clear hk);(try clear hi);(try clear ho0);obtain ⟨Ao15,co15,eo15⟩:=Kd.R_slice HO227.out;subst eo15;have p228 : 0 ≤ (0 : Int):=(by omega);have q228 : 0 < (t225.length : Int):=YA;obtain ⟨ad228,e228,hx228_0⟩:=Kd.at_int (Kd.R_reads' HO227.out).2.2 0 p228 q228;cases e228;have qi228 : (0 < t225.length) = True:=eq_true (by omega);(try rw [show ((0 : Int)).toNat = 0 from rfl] at hx228_0);(try rw [Addr.add_zero'] at hx228_0);replace p228:=eq_true p228;replace q228:=eq_true q228;have p229 : 0 ≤ (1 : Int):=(by omega);have q229 : 1 < (t225.length : Int):=YA;obtain ⟨ad229,e229,hx229_0⟩:=Kd.at_int (Kd.R_reads' HO227.out).2.2 1 p229 q229;obtain rfl : ad228 = ad229:=(by injection e229);(try simp only [show (1 : Int).toNat = 1 from rfl,Nat.reduceMul,Nat.reduceEqDiff,Go.Addr.add,↓reduceIte] at hx229_0);(try rw [show ((1 : Int)).toNat = 1 from rfl] at hx229_0);replace p229:=eq_true p229;replace q229:=eq_true q229))
         go_ret
         exact ⟨by first|rfl|(simp [Z16,Z15] <;> rfl)|(simp [*,Z16,Z15] <;> rfl),by repeat (first|(with_reducible first|exact HB.out|apply Z7|apply Z4|apply Z6|refine Z8 ?_ GE224.out)|exact HB.out)⟩
       · rw [if_neg c5] at H;exact absurd H (by simp)
     · rw [if_neg c4] at H;have c4b0 : ((rd t225 0) == (-1)) = false:=beq_eq_false_iff_ne.mpr c4
       obtain rfl:=Option.some.inj H
       go_enter Try.func12,Try.ntmps12
       go_wp2_with (first|((with_reducible refine Z52 (N:=3) rfl ?_);refine Kd.R_lit (Kd.int .i64) _ 3 ?hg (N:=3) ?hd (xs:=([1] : List Int)) (inner:=[.int .i64 1]) (ok:=fun _ => True) (okp:=fun _ => True) ?hr ?hp (fun _ hk => hk) trivial (Below.refl _ _) (Nat.le_refl _) (by simp) ?_;(case hd => rfl);(case hg => rfl);(case hr => first|(go_simp;done)|(go_simp;rfl));(case hp => exact (Reps.one (show Kd.M (Kd.int .i64) _ _ _ 1 [.int .i64 1] from rfl) (Reps.none _ _)));intro v219 w16 ho17 hb hg_ hnew_;clear hg_ hnew_;(first|rw [← Ny218.out] at ho17|(simp only [Int.reduceToNat] at ho17;rw [← Ny218.out] at ho17));have n0_:=Aside0.mk (Kd.R_lower ho17 (Z27 YH));have n1_:=Aside0.mk (Z25 YH hb);clear HB;have HO220:=n0_;have HB:=n1_;clear n0_ n1_;clear hb ho17;obtain ⟨Ao18,co18,eo18⟩:=Kd.R_slice HO220.out;subst eo18)|((with_reducible refine Z52 (N:=6) rfl ?_);refine Kd.N_lit k45 _ 45 ?hg (N' := 6) ?hd (xs:=([(⟨([] : List (S59)),1,0,y218⟩ : S45),(⟨([] : List (S59)),3,(-1),([] : List Int)⟩ : S45)] : List (S45))) (inner:=[.slice none 0 0,.int .i64 1,.int .i64 0,.slice Ao18 y218.length co18,.slice none 0 0,.int .i64 3,.int .i64 (-1),.slice none 0 0]) (ok:=(fun _ => True)) (okp:=(fun _ => True)) ?hr ?hp (fun _ hk => hk) ((show ∀ k_,w16.heap.size ≤ k_ → (fun _ => True) k_ from fun k_ hk => trivial) _ (Nat.le_refl _)) (Below.refl _ _) (Nat.le_refl _) (by simp) ?_;(case hd => rfl);(case hg => rfl);(case hr => first|(go_simp;done)|(go_simp;rfl));(case hp => exact (Reps.c4 (show Kd.FK k45 _ _ (⟨([] : List (S59)),1,0,y218⟩ : S45) [.slice none 0 0,.int .i64 1,.int .i64 0,.slice Ao18 y218.length co18] from (k45_mkF _ _ (⟨([] : List (S59)),1,0,y218⟩ : S45) (Nat.le_refl _) (Kd.F_nil _ _ _) (Kd.R_reads' (Kd.R_mono (ok' := (fun _ => True)) (HO220.out) (fun k_ hk => trivial))).2.1 (Kd.R_F (Kd.R_mono (ok' := (fun _ => True)) (HO220.out) (fun k_ hk => trivial))))) (Reps.c4 (show Kd.FK k45 _ _ (⟨([] : List (S59)),3,(-1),([] : List Int)⟩ : S45) [.slice none 0 0,.int .i64 3,.int .i64 (-1),.slice none 0 0] from (k45_mkF _ _ (⟨([] : List (S59)),3,(-1),([] : List Int)⟩ : S45) (Nat.le_refl _) (Kd.F_nil _ _ _) (Nat.le_refl _) (Kd.F_nil _ _ _))) (Reps.none _ _))));intro v222 w19 ho20 hb hg_ hnew_;clear hg_ hnew_;(first|rw [← Ny221.out] at ho20|(simp only [Int.reduceToNat] at ho20;rw [← Ny221.out] at ho20));have n0_:=Aside0.mk (Kd.N_lower ho20 (Z27 YH));have n1_:=Aside0.mk (Z25 YH hb);clear HB;clear HO220;have HO223:=n0_;have HB:=n1_;clear n0_ n1_;clear hb ho20;obtain ⟨Ao21,co21,eo21⟩:=Kd.N_slice HO223.out;subst eo21)|((with_reducible refine Z52 (N:=1) rfl ?_);refine Z51 ?hg (N:=1) ?hd (cs:=#[.string (⟨#[]⟩ : ByteArray),.int .i64 0,.int .i64 0,.int .i64 0,.slice none 0 0]) (t:=24) ?hr ?_;(case hd => rfl);(case hg => rfl);(case hr => first|(go_simp;done)|(go_simp;rfl));intro gb224 hg w22 hbox hb;have n0_:=Aside0.mk (Kd.N_below (Kd.N_elderB (YN HO223) gb224 (Nat.le_of_eq hg.symm)) hb);have n1_:=Aside0.mk (Z25 YH hb);have n2_:=Aside0.mk (hbox);have n3_:=Aside0.mk ((by rw [hg];exact (Z27 YH) : w.heap.size ≤ gb224));have n4_:=Aside0.mk ((by rw [hg];exact (Z27 YH) : w.heap.size ≤ gb224));clear HO223;clear HB;have HO223:=n0_;have HB:=n1_;have BK224:=n2_;have GW224:=n3_;have GE224:=n4_;clear n0_ n1_ n2_ n3_ n4_;clear hb hbox hg;have hcz23_0 : w22.cell? ⟨gb224,0,none⟩ = some (.string (⟨#[]⟩ : ByteArray)):=(Z5 BK224.out 0).trans rfl;have hcz23_1 : w22.cell? ⟨gb224,1,none⟩ = some (.int .i64 0):=(Z5 BK224.out 1).trans rfl;have hcz23_2 : w22.cell? ⟨gb224,2,none⟩ = some (.int .i64 0):=(Z5 BK224.out 2).trans rfl;have hcz23_3 : w22.cell? ⟨gb224,3,none⟩ = some (.int .i64 0):=(Z5 BK224.out 3).trans rfl;have hcz23_4 : w22.cell? ⟨gb224,4,none⟩ = some (.slice none 0 0):=(Z5 BK224.out 4).trans rfl;have hfz23_0:=Z2 BK224.out 0;have hfz23_1:=Z2 BK224.out 1;have hfz23_2:=Z2 BK224.out 2;have hfz23_3:=Z2 BK224.out 3;have hfz23_4:=Z2 BK224.out 4)|((with_reducible refine Z14 (f:=15) rfl ?_);refine goesL_ (some 9) rfl rfl Try.func15 (by kernel_rfl) rfl #[.agg #[.string (⟨#[]⟩ : ByteArray),.int .i64 0,.int .i64 0,.int .i64 0,.slice Ao21 y221.length co21]] rfl (by (try simp only [List.map_toArray,List.map_cons,List.map_nil]);first|done|rfl|(simp only [List.length_drop,List.length_take];rfl)) ?_;(with_reducible refine (order_Doms.calls k (⟨#[]⟩ : ByteArray) 0 0 0 _ _ y221 t225 _ ?side1 ?side2 A1.out).mono ?_);(case side1 => refine (Kd.N_reads' (e:=45) (base:=w.heap.size) (ok:=fun k_ => (True ∧ k_ ≠ gb224)) (n:=y221.length) (c:=co21) ?_).2.2;exact (by (with_reducible repeat (first|apply Kd.N_alloc|apply Kd.N_drewN|apply Kd.N_drew));exact (Kd.N_mono (Kd.N_far (p:=⟨gb224,4,none⟩) (Kd.N_far (p:=⟨gb224,3,none⟩) (Kd.N_far (p:=⟨gb224,2,none⟩) (Kd.N_far (p:=⟨gb224,1,none⟩) (Kd.N_far (p:=⟨gb224,0,none⟩) (Kd.N_mono HO223.out (fun k_ hk => (⟨hk,hk.2⟩ : _ ∧ k_ ≠ gb224))) (fun _ hk => hk.2) (.string (⟨#[]⟩ : ByteArray))) (fun _ hk => hk.2) (.int .i64 0)) (fun _ hk => hk.2) (.int .i64 0)) (fun _ hk => hk.2) (.int .i64 0)) (fun _ hk => hk.2) (.slice Ao21 y221.length co21)) (fun _ h_ => h_.1))));(case side2 => exact (Kd.N_reads' HO223.out).2.1);rintro e w24 ⟨v226,rfl,ho0,hb⟩;refine ⟨_,rfl,?_⟩;have n0_:=Aside0.mk (Kd.N_elder' (by (with_reducible repeat (first|apply Kd.N_alloc|apply Kd.N_drewN|apply Kd.N_drew));exact (Kd.N_mono (Kd.N_far (p:=⟨gb224,4,none⟩) (Kd.N_far (p:=⟨gb224,3,none⟩) (Kd.N_far (p:=⟨gb224,2,none⟩) (Kd.N_far (p:=⟨gb224,1,none⟩) (Kd.N_far (p:=⟨gb224,0,none⟩) (Kd.N_mono HO223.out (fun k_ hk => (⟨hk,hk.2⟩ : _ ∧ k_ ≠ gb224))) (fun _ hk => hk.2) (.string (⟨#[]⟩ : ByteArray))) (fun _ hk => hk.2) (.int .i64 0)) (fun _ hk => hk.2) (.int .i64 0)) (fun _ hk => hk.2) (.int .i64 0)) (fun _ hk => hk.2) (.slice Ao21 y221.length co21)) (fun _ h_ => h_.1))) (Kd.R_base ho0) hb);have n1_:=Aside0.mk (Kd.R_lower ho0 (Z27 YH));have n2_:=Aside0.mk (Z40 (g:=gb224) (o:=.cells #[.string (⟨#[]⟩ : ByteArray),.int .i64 0,.int .i64 0,.int .i64 0,.slice Ao21 y221.length co21] 24 (0,0)) (by (with_reducible repeat (first|refine Z0 ?_ _|refine Z3 ?_|refine Z1 ?_ _));refine Z9 (cs:=#[.string (⟨#[]⟩ : ByteArray),.int .i64 0,.int .i64 0,.int .i64 0,.slice none 0 0]) ?_ 4 _ rfl;(with_reducible repeat (first|refine Z0 ?_ _|refine Z3 ?_|refine Z1 ?_ _));refine Z9 (cs:=#[.string (⟨#[]⟩ : ByteArray),.int .i64 0,.int .i64 0,.int .i64 0,.slice none 0 0]) ?_ 3 _ rfl;(with_reducible repeat (first|refine Z0 ?_ _|refine Z3 ?_|refine Z1 ?_ _));refine Z9 (cs:=#[.string (⟨#[]⟩ : ByteArray),.int .i64 0,.int .i64 0,.int .i64 0,.slice none 0 0]) ?_ 2 _ rfl;(with_reducible repeat (first|refine Z0 ?_ _|refine Z3 ?_|refine Z1 ?_ _));refine Z9 (cs:=#[.string (⟨#[]⟩ : ByteArray),.int .i64 0,.int .i64 0,.int .i64 0,.slice none 0 0]) ?_ 1 _ rfl;(with_reducible repeat (first|refine Z0 ?_ _|refine Z3 ?_|refine Z1 ?_ _));refine Z9 (cs:=#[.string (⟨#[]⟩ : ByteArray),.int .i64 0,.int .i64 0,.int .i64 0,.slice none 0 0]) ?_ 0 _ rfl;(with_reducible repeat (first|refine Z0 ?_ _|refine Z3 ?_|refine Z1 ?_ _));exact BK224.out) hb);have n3_:=Aside0.mk (Z25 YH hb);clear HO223;clear BK224;clear HB;have HO223:=n0_;have HO227:=n1_;have BK224:=n2_;have HB:=n3_;clear n0_ n1_ n2_ n3_;(try clear hb);(try clear hb2);(try clear hk);(try clear hi);(try clear ho0);obtain ⟨Ao25,co25,eo25⟩:=Kd.R_slice HO227.out;subst eo25;have p228 : 0 ≤ (0 : Int):=(by omega);have q228 : 0 < (t225.length : Int):=YA;obtain ⟨ad228,e228,hx228_0⟩:=Kd.at_int (Kd.R_reads' HO227.out).2.2 0 p228 q228;cases e228;have qi228 : (0 < t225.length) = True:=eq_true (by omega);(try rw [show ((0 : Int)).toNat = 0 from rfl] at hx228_0);(try rw [Addr.add_zero'] at hx228_0);replace p228:=eq_true p228;replace q228:=eq_true q228))
       go_ret
       exact ⟨by first|rfl|(simp [Z16,Z15] <;> rfl)|(simp [*,Z16,Z15] <;> rfl),by repeat (first|(with_reducible first|exact HB.out|apply Z7|apply Z4|apply Z6|refine Z8 ?_ GE224.out)|exact HB.out)⟩
   · rw [if_neg c3] at H;exact absurd H (by simp)
 · rw [if_neg c2] at H;have c2b0 : ((t225.length : Int) == 2) = false:=beq_eq_false_iff_ne.mpr c2
   obtain rfl:=Option.some.inj H
   go_enter Try.func12,Try.ntmps12
   go_wp2_with (first|((with_reducible refine Z52 (N:=3) rfl ?_);refine Kd.R_lit (Kd.int .i64) _ 3 ?hg (N:=3) ?hd (xs:=([1] : List Int)) (inner:=[.int .i64 1]) (ok:=fun _ => True) (okp:=fun _ => True) ?hr ?hp (fun _ hk => hk) trivial (Below.refl _ _) (Nat.le_refl _) (by simp) ?_;(case hd => rfl);(case hg => rfl);(case hr => first|(go_simp;done)|(go_simp;rfl));(case hp => exact (Reps.one (show Kd.M (Kd.int .i64) _ _ _ 1 [.int .i64 1] from rfl) (Reps.none _ _)));intro v219 w26 ho27 hb hg_ hnew_;clear hg_ hnew_;(first|rw [← Ny218.out] at ho27|(simp only [Int.reduceToNat] at ho27;rw [← Ny218.out] at ho27));have n0_:=Aside0.mk (Kd.R_lower ho27 (Z27 YH));have n1_:=Aside0.mk (Z25 YH hb);clear HB;have HO220:=n0_;have HB:=n1_;clear n0_ n1_;clear hb ho27;obtain ⟨Ao28,co28,eo28⟩:=Kd.R_slice HO220.out;subst eo28)|((with_reducible refine Z52 (N:=6) rfl ?_);refine Kd.N_lit k45 _ 45 ?hg (N' := 6) ?hd (xs:=([(⟨([] : List (S59)),1,0,y218⟩ : S45),(⟨([] : List (S59)),3,(-1),([] : List Int)⟩ : S45)] : List (S45))) (inner:=[.slice none 0 0,.int .i64 1,.int .i64 0,.slice Ao28 y218.length co28,.slice none 0 0,.int .i64 3,.int .i64 (-1),.slice none 0 0]) (ok:=(fun _ => True)) (okp:=(fun _ => True)) ?hr ?hp (fun _ hk => hk) ((show ∀ k_,w26.heap.size ≤ k_ → (fun _ => True) k_ from fun k_ hk => trivial) _ (Nat.le_refl _)) (Below.refl _ _) (Nat.le_refl _) (by simp) ?_;(case hd => rfl);(case hg => rfl);(case hr => first|(go_simp;done)|(go_simp;rfl));(case hp => exact (Reps.c4 (show Kd.FK k45 _ _ (⟨([] : List (S59)),1,0,y218⟩ : S45) [.slice none 0 0,.int .i64 1,.int .i64 0,.slice Ao28 y218.length co28] from (k45_mkF _ _ (⟨([] : List (S59)),1,0,y218⟩ : S45) (Nat.le_refl _) (Kd.F_nil _ _ _) (Kd.R_reads' (Kd.R_mono (ok' := (fun _ => True)) (HO220.out) (fun k_ hk => trivial))).2.1 (Kd.R_F (Kd.R_mono (ok' := (fun _ => True)) (HO220.out) (fun k_ hk => trivial))))) (Reps.c4 (show Kd.FK k45 _ _ (⟨([] : List (S59)),3,(-1),([] : List Int)⟩ : S45) [.slice none 0 0,.int .i64 3,.int .i64 (-1),.slice none 0 0] from (k45_mkF _ _ (⟨([] : List (S59)),3,(-1),([] : List Int)⟩ : S45) (Nat.le_refl _) (Kd.F_nil _ _ _) (Nat.le_refl _) (Kd.F_nil _ _ _))) (Reps.none _ _))));intro v222 w29 ho30 hb hg_ hnew_;clear hg_ hnew_;(first|rw [← Ny221.out] at ho30|(simp only [Int.reduceToNat] at ho30;rw [← Ny221.out] at ho30));have n0_:=Aside0.mk (Kd.N_lower ho30 (Z27 YH));have n1_:=Aside0.mk (Z25 YH hb);clear HB;clear HO220;have HO223:=n0_;have HB:=n1_;clear n0_ n1_;clear hb ho30;obtain ⟨Ao31,co31,eo31⟩:=Kd.N_slice HO223.out;subst eo31)|((with_reducible refine Z52 (N:=1) rfl ?_);refine Z51 ?hg (N:=1) ?hd (cs:=#[.string (⟨#[]⟩ : ByteArray),.int .i64 0,.int .i64 0,.int .i64 0,.slice none 0 0]) (t:=24) ?hr ?_;(case hd => rfl);(case hg => rfl);(case hr => first|(go_simp;done)|(go_simp;rfl));intro gb224 hg w32 hbox hb;have n0_:=Aside0.mk (Kd.N_below (Kd.N_elderB (YN HO223) gb224 (Nat.le_of_eq hg.symm)) hb);have n1_:=Aside0.mk (Z25 YH hb);have n2_:=Aside0.mk (hbox);have n3_:=Aside0.mk ((by rw [hg];exact (Z27 YH) : w.heap.size ≤ gb224));have n4_:=Aside0.mk ((by rw [hg];exact (Z27 YH) : w.heap.size ≤ gb224));clear HO223;clear HB;have HO223:=n0_;have HB:=n1_;have BK224:=n2_;have GW224:=n3_;have GE224:=n4_;clear n0_ n1_ n2_ n3_ n4_;clear hb hbox hg;have hcz33_0 : w32.cell? ⟨gb224,0,none⟩ = some (.string (⟨#[]⟩ : ByteArray)):=(Z5 BK224.out 0).trans rfl;have hcz33_1 : w32.cell? ⟨gb224,1,none⟩ = some (.int .i64 0):=(Z5 BK224.out 1).trans rfl;have hcz33_2 : w32.cell? ⟨gb224,2,none⟩ = some (.int .i64 0):=(Z5 BK224.out 2).trans rfl;have hcz33_3 : w32.cell? ⟨gb224,3,none⟩ = some (.int .i64 0):=(Z5 BK224.out 3).trans rfl;have hcz33_4 : w32.cell? ⟨gb224,4,none⟩ = some (.slice none 0 0):=(Z5 BK224.out 4).trans rfl;have hfz33_0:=Z2 BK224.out 0;have hfz33_1:=Z2 BK224.out 1;have hfz33_2:=Z2 BK224.out 2;have hfz33_3:=Z2 BK224.out 3;have hfz33_4:=Z2 BK224.out 4)|((with_reducible refine Z14 (f:=15) rfl ?_);refine goesL_ (some 9) rfl rfl Try.func15 (by kernel_rfl) rfl #[.agg #[.string (⟨#[]⟩ : ByteArray),.int .i64 0,.int .i64 0,.int .i64 0,.slice Ao31 y221.length co31]] rfl (by (try simp only [List.map_toArray,List.map_cons,List.map_nil]);first|done|rfl|(simp only [List.length_drop,List.length_take];rfl)) ?_;(with_reducible refine (order_Doms.calls k (⟨#[]⟩ : ByteArray) 0 0 0 _ _ y221 t225 _ ?side1 ?side2 A1.out).mono ?_);(case side1 => refine (Kd.N_reads' (e:=45) (base:=w.heap.size) (ok:=fun k_ => (True ∧ k_ ≠ gb224)) (n:=y221.length) (c:=co31) ?_).2.2;exact (by (with_reducible repeat (first|apply Kd.N_alloc|apply Kd.N_drewN|apply Kd.N_drew));exact (Kd.N_mono (Kd.N_far (p:=⟨gb224,4,none⟩) (Kd.N_far (p:=⟨gb224,3,none⟩) (Kd.N_far (p:=⟨gb224,2,none⟩) (Kd.N_far (p:=⟨gb224,1,none⟩) (Kd.N_far (p:=⟨gb224,0,none⟩) (Kd.N_mono HO223.out (fun k_ hk => (⟨hk,hk.2⟩ : _ ∧ k_ ≠ gb224))) (fun _ hk => hk.2) (.string (⟨#[]⟩ : ByteArray))) (fun _ hk => hk.2) (.int .i64 0)) (fun _ hk => hk.2) (.int .i64 0)) (fun _ hk => hk.2) (.int .i64 0)) (fun _ hk => hk.2) (.slice Ao31 y221.length co31)) (fun _ h_ => h_.1))));(case side2 => exact (Kd.N_reads' HO223.out).2.1);rintro e w34 ⟨v226,rfl,ho0,hb⟩;refine ⟨_,rfl,?_⟩;have n0_:=Aside0.mk (Kd.N_elder' (by (with_reducible repeat (first|apply Kd.N_alloc|apply Kd.N_drewN|apply Kd.N_drew));exact (Kd.N_mono (Kd.N_far (p:=⟨gb224,4,none⟩) (Kd.N_far (p:=⟨gb224,3,none⟩) (Kd.N_far (p:=⟨gb224,2,none⟩) (Kd.N_far (p:=⟨gb224,1,none⟩) (Kd.N_far (p:=⟨gb224,0,none⟩) (Kd.N_mono HO223.out (fun k_ hk => (⟨hk,hk.2⟩ : _ ∧ k_ ≠ gb224))) (fun _ hk => hk.2) (.string (⟨#[]⟩ : ByteArray))) (fun _ hk => hk.2) (.int .i64 0)) (fun _ hk => hk.2) (.int .i64 0)) (fun _ hk => hk.2) (.int .i64 0)) (fun _ hk => hk.2) (.slice Ao31 y221.length co31)) (fun _ h_ => h_.1))) (Kd.R_base ho0) hb);have n1_:=Aside0.mk (Kd.R_lower ho0 (Z27 YH));have n2_:=Aside0.mk (Z40 (g:=gb224) (o:=.cells #[.string (⟨#[]⟩ : ByteArray),.int .i64 0,.int .i64 0,.int .i64 0,.slice Ao31 y221.length co31] 24 (0,0)) (by (with_reducible repeat (first|refine Z0 ?_ _|refine Z3 ?_|refine Z1 ?_ _));refine Z9 (cs:=#[.string (⟨#[]⟩ : ByteArray),.int .i64 0,.int .i64 0,.int .i64 0,.slice none 0 0]) ?_ 4 _ rfl;(with_reducible repeat (first|refine Z0 ?_ _|refine Z3 ?_|refine Z1 ?_ _));refine Z9 (cs:=#[.string (⟨#[]⟩ : ByteArray),.int .i64 0,.int .i64 0,.int .i64 0,.slice none 0 0]) ?_ 3 _ rfl;(with_reducible repeat (first|refine Z0 ?_ _|refine Z3 ?_|refine Z1 ?_ _));refine Z9 (cs:=#[.string (⟨#[]⟩ : ByteArray),.int .i64 0,.int .i64 0,.int .i64 0,.slice none 0 0]) ?_ 2 _ rfl;(with_reducible repeat (first|refine Z0 ?_ _|refine Z3 ?_|refine Z1 ?_ _));refine Z9 (cs:=#[.string (⟨#[]⟩ : ByteArray),.int .i64 0,.int .i64 0,.int .i64 0,.slice none 0 0]) ?_ 1 _ rfl;(with_reducible repeat (first|refine Z0 ?_ _|refine Z3 ?_|refine Z1 ?_ _));refine Z9 (cs:=#[.string (⟨#[]⟩ : ByteArray),.int .i64 0,.int .i64 0,.int .i64 0,.slice none 0 0]) ?_ 0 _ rfl;(with_reducible repeat (first|refine Z0 ?_ _|refine Z3 ?_|refine Z1 ?_ _));exact BK224.out) hb);have n3_:=Aside0.mk (Z25 YH hb);clear HO223;clear BK224;clear HB;have HO223:=n0_;have HO227:=n1_;have BK224:=n2_;have HB:=n3_;clear n0_ n1_ n2_ n3_;(try clear hb);(try clear hb2);(try clear hk);(try clear hi);(try clear ho0);obtain ⟨Ao35,co35,eo35⟩:=Kd.R_slice HO227.out;subst eo35))
   go_ret
   exact ⟨by first|rfl|(simp [Z16,Z15] <;> rfl)|(simp [*,Z16,Z15] <;> rfl),by repeat (first|(with_reducible first|exact HB.out|apply Z7|apply Z4|apply Z6|refine Z8 ?_ GE224.out)|exact HB.out)⟩
end Go.Proofs.Ytbklmnieakefnaa.Q
namespace Go.Proofs.Ytbklmnieakefnaa.Q
open Go.RowKit Go.Proofs.YtbklmnieakefnaaW.PrintWords Go.Proofs.YtbklmnieakefnaaW.PrintLast Go.Proofs.YtbklmnieakefnaaW.PrintMore

set_option linter.unusedVariables false
set_option linter.unusedSimpArgs false
mutual
def ir_Reached.l0 : Nat → List Bool → List Int → ByteArray → Int → Int → Int → List (S45) → Option (List Bool)
 | 0,_,_,_,_,_,_,_ => none
 | k + 1,x3,x4,x231000,x231001,x231002,x231003,x231004 => if (x4.length : Int) > 0 then (if 0 ≤ (wrap64 ((x4.length : Int) - 1)) then (if (wrap64 ((x4.length : Int) - 1)) < (x4.length : Int) then (if 0 ≤ (rd x4 (wrap64 ((x4.length : Int) - 1))) then (if (rd x4 (wrap64 ((x4.length : Int) - 1))) < (x231004.length : Int) then (if (wrap64 ((x4.length : Int) - 1)) ≤ (x4.length : Int) then (ir_Reached.l1 k x3 (x4.take ((wrap64 ((x4.length : Int) - 1)) : Int).toNat) ((rd_T45 x231004 (rd x4 (wrap64 ((x4.length : Int) - 1)))).f3) (((rd_T45 x231004 (rd x4 (wrap64 ((x4.length : Int) - 1)))).f3).length : Int) 0 x231000 x231001 x231002 x231003 x231004) else (none)) else (none)) else (none)) else (none)) else (none)) else (some x3)
def ir_Reached.l1 : Nat → List Bool → List Int → List Int → Int → Int → ByteArray → Int → Int → Int → List (S45) → Option (List Bool)
 | 0,_,_,_,_,_,_,_,_,_,_ => none
 | k + 1,x3,x4,x38,x39,x40,x231000,x231001,x231002,x231003,x231004 => if x40 < x39 then (if 0 ≤ x40 then (if x40 < (x38.length : Int) then ((ir_within.f (rd x38 x40) 0 (wrap64 ((x3.length : Int) - 1))).bind fun t245 => (if t245 = true then (if 0 ≤ (rd x38 x40) then (if (rd x38 x40) < (x3.length : Int) then (if (rdOf false x3 (rd x38 x40) = true) then (ir_Reached.l1 k x3 x4 x38 x39 (wrap64 (x40 + 1)) x231000 x231001 x231002 x231003 x231004) else (if x4.length < 17592186044416 then (ir_Reached.l1 k (x3.set ((rd x38 x40) : Int).toNat true) (x4 ++ [rd x38 x40]) x38 x39 (wrap64 (x40 + 1)) x231000 x231001 x231002 x231003 x231004) else (none))) else (none)) else (none)) else (ir_Reached.l1 k x3 x4 x38 x39 (wrap64 (x40 + 1)) x231000 x231001 x231002 x231003 x231004))) else (none)) else (none)) else (ir_Reached.l0 k x3 x4 x231000 x231001 x231002 x231003 x231004)
end
def ir_Reached.f (k : Nat) (a0_0 : ByteArray) (a0_1 : Int) (a0_2 : Int) (a0_3 : Int) (l0_4 : List (S45)) : Option (List Bool):=if 0 ≤ (l0_4.length : Int) then (if ((l0_4.length : Int) : Int).toNat ≤ 281474976710656 then ((some (List.replicate ((l0_4.length : Int) : Int).toNat false : List Bool)).bind fun y231 => (if (y231.length : Int) = 0 then (some y231) else (if 0 < (y231.length : Int) then (ir_Reached.l0 k (y231.set (0 : Int).toNat true) (([0] : List Int)) a0_0 a0_1 a0_2 a0_3 l0_4) else (none)))) else (none)) else (none)
def ir_Reached.T7 : Bool × List (List Nat × List Nat):=(true,[([],[]),([0],[0]),([],[]),([],[]),([3],[3]),([4],[4]),([2,5],[2,5]),([6],[6]),([1,7],[1,7]),([8],[8]),([],[]),([10,9,0,1,2,3,4,5,6,7,8,9,10],[9,10])])
def ir_Reached.B7 : List Nat:=[0,1,0,0,8,24,60,124,255,511,0,2047]
theorem ir_Reached.tab7 : rtab .any (opsOf Try.f31 7) = ir_Reached.T7:=by kernel_rfl
theorem ir_Reached.bits7 : waitsOk ir_Reached.T7.2 ir_Reached.B7 = true:=by kernel_rfl
set_option maxHeartbeats 8000000 in
set_option maxRecDepth 100000 in
theorem ir_Reached.calls (k : Nat) (a0_0 : ByteArray) (a0_1 : Int) (a0_2 : Int) (a0_3 : Int) (A0_4 : Option Addr) (c0_4 : Nat) (l0_4 : List (S45)) (r : List Bool) (w : World) (hr0_4 : Kd.C k45 w A0_4 l0_4.length l0_4) (hc0_4 : l0_4.length ≤ c0_4) (h : ir_Reached.f k a0_0 a0_1 a0_2 a0_3 l0_4 = some r) :
 Calls Try.prog 31 #[.agg #[.string a0_0,.int .i64 a0_1,.int .i64 a0_2,.int .i64 a0_3,.slice A0_4 l0_4.length c0_4]] w fun e w' => ∃ v0_ : Value,e = .returned (v0_) ∧ Kd.R Kd.bool 4 w' w.heap.size (fun _ => True) v0_ r ∧ Below w.heap.size w w' := by
 have hu24:=Try.underlying24
 have hu45:=Try.underlying45
 have HR0_4:=Aside0.mk hr0_4
 clear hr0_4 hc0_4;have HB:=Aside0.mk (Below.refl w.heap.size w)
 have H : (if 0 ≤ (l0_4.length : Int) then (if ((l0_4.length : Int) : Int).toNat ≤ 281474976710656 then ((some (List.replicate ((l0_4.length : Int) : Int).toNat false : List Bool)).bind fun y231 => (if (y231.length : Int) = 0 then (some y231) else (if 0 < (y231.length : Int) then (ir_Reached.l0 k (y231.set (0 : Int).toNat true) (([0] : List Int)) a0_0 a0_1 a0_2 a0_3 l0_4) else (none)))) else (none)) else (none)) = some r:=h
 clear h;by_cases c2 : 0 ≤ (l0_4.length : Int)
 · rw [if_pos c2] at H;have c2b1 : decide (0 ≤ (l0_4.length : Int)) = true:=decide_eq_true c2
   clear c2;by_cases c3 : ((l0_4.length : Int) : Int).toNat ≤ 281474976710656
   · rw [if_pos c3] at H;have c3b1 : decide (((l0_4.length : Int) : Int).toNat ≤ 281474976710656) = true:=decide_eq_true c3
     clear c3;obtain ⟨y231,hy231⟩ : ∃ y_ : List Bool,y_ = (List.replicate ((l0_4.length : Int) : Int).toNat false):=⟨_,rfl⟩
     replace H : (if (y231.length : Int) = 0 then (some y231) else (if 0 < (y231.length : Int) then (ir_Reached.l0 k (y231.set (0 : Int).toNat true) (([0] : List Int)) a0_0 a0_1 a0_2 a0_3 l0_4) else (none))) = some r:=by first|(rw [hy231];with_reducible exact H)|(have H2_:=(Option.bind_some _ _).symm.trans H;rw [hy231];with_reducible exact H2_)|(have H2_:=(Option.bind_some _ _).symm.trans H;with_reducible exact H2_)|with_reducible exact H|(rw [hy231];exact H)|exact H
     have Ny231:=Aside0.mk hy231
     clear hy231;by_cases c4 : (y231.length : Int) = 0
     · rw [if_pos c4] at H;have c4b0 : ((y231.length : Int) == 0) = true:=beq_iff_eq.mpr c4
       clear c4;obtain rfl:=Option.some.inj H
       go_enter Try.func31,Try.ntmps31
       go_wp2_with (first|((with_reducible refine Z52 (N:=1) rfl ?_);refine Z51 ?hg (N:=1) ?hd (cs:=#[.string a0_0,.int .i64 a0_1,.int .i64 a0_2,.int .i64 a0_3,.slice A0_4 l0_4.length c0_4]) (t:=24) ?hr ?_;(case hd => rfl);(case hg => rfl);(case hr => first|(go_simp;done)|(go_simp;rfl));intro gb230 hg w5 hbox hb;have n0_:=Aside0.mk (Z25 YH hb);have n1_:=Aside0.mk (hbox);have n2_:=Aside0.mk ((by rw [hg];exact (Z27 YH) : w.heap.size ≤ gb230));have n3_:=Aside0.mk ((by rw [hg];exact (Z27 YH) : w.heap.size ≤ gb230));clear HB;have HB:=n0_;have BK230:=n1_;have GW230:=n2_;have GE230:=n3_;clear n0_ n1_ n2_ n3_;clear hb hbox hg;have hcz6_4 : w5.cell? ⟨gb230,4,none⟩ = some (.slice A0_4 l0_4.length c0_4):=(Z5 BK230.out 4).trans rfl)|((with_reducible refine Z52 (N:=11) rfl ?_);refine Kd.R_make Kd.bool _ 4 rfl (N:=11) rfl 34 _ _ rfl (l0_4.length : Int) rfl rfl Try.underlying34 (.bool false) 1 info4 rfl (by decide) (by omega) false (ok:=fun _ => True) (okp:=fun _ => True) rfl (fun _ hk => hk) trivial YA (Nat.le_trans (Nat.mul_le_mul_right _ (YA : (l0_4.length : Int).toNat ≤ 281474976710656)) (by omega)) (Below.refl _ _) (Nat.le_refl _) ?_;intro v232 w7 ho8 hb hg_ hnew_;clear hg_ hnew_;(first|rw [← Ny231.out] at ho8|(simp only [Int.reduceToNat] at ho8;rw [← Ny231.out] at ho8));have n0_:=Aside0.mk (Kd.R_lower ho8 (Z27 YH));have n1_:=Aside0.mk (Z40 (YK BK230) hb);have n2_:=Aside0.mk (Z25 YH hb);clear BK230;clear HB;have HO233:=n0_;have BK230:=n1_;have HB:=n2_;clear n0_ n1_ n2_;clear hb ho8;obtain ⟨Ao9,co9,eo9⟩:=Kd.R_slice HO233.out;subst eo9))
       go_ret
       exact ⟨_,by first|rfl|(simp [Z16,Z15] <;> rfl)|(simp [*,Z16,Z15] <;> rfl),by (with_reducible repeat (first|apply Kd.R_alloc|apply Kd.R_drewN|apply Kd.R_drew));exact HO233.out,by repeat (first|(with_reducible first|exact HB.out|apply Z7|apply Z4|apply Z6|refine Z8 ?_ GE230.out)|exact HB.out)⟩
     · rw [if_neg c4] at H;have c4b0 : ((y231.length : Int) == 0) = false:=beq_eq_false_iff_ne.mpr c4
       by_cases c10 : 0 < (y231.length : Int)
       · rw [if_pos c10] at H;have c10b0 : decide (0 < (y231.length : Int)) = true:=decide_eq_true c10
         clear c10;obtain ⟨y234,hy234⟩ : ∃ y_ : List Bool,y_ = (y231.set (0 : Int).toNat true):=⟨_,rfl⟩
         replace H : (ir_Reached.l0 k y234 (([0] : List Int)) a0_0 a0_1 a0_2 a0_3 l0_4) = some r:=by first|(rw [hy234];with_reducible exact H)|(have H2_:=(Option.bind_some _ _).symm.trans H;rw [hy234];with_reducible exact H2_)|(have H2_:=(Option.bind_some _ _).symm.trans H;with_reducible exact H2_)|with_reducible exact H|(rw [hy234];exact H)|exact H
         have Ny234:=Aside0.mk hy234
         clear hy234;obtain ⟨y235,hy235⟩ : ∃ y_ : List Int,y_ = (([0] : List Int)):=⟨_,rfl⟩
         replace H : (ir_Reached.l0 k y234 y235 a0_0 a0_1 a0_2 a0_3 l0_4) = some r:=by first|(rw [hy235];with_reducible exact H)|(have H2_:=(Option.bind_some _ _).symm.trans H;rw [hy235];with_reducible exact H2_)|(have H2_:=(Option.bind_some _ _).symm.trans H;with_reducible exact H2_)|with_reducible exact H|(rw [hy235];exact H)|exact H
         have Ny235:=Aside0.mk hy235
         clear hy235;have H' := Aside0.mk H
         clear H;go_enter Try.func31,Try.ntmps31
         go_wp2_with (first|((with_reducible refine Z52 (N:=1) rfl ?_);refine Z51 ?hg (N:=1) ?hd (cs:=#[.string a0_0,.int .i64 a0_1,.int .i64 a0_2,.int .i64 a0_3,.slice A0_4 l0_4.length c0_4]) (t:=24) ?hr ?_;(case hd => rfl);(case hg => rfl);(case hr => first|(go_simp;done)|(go_simp;rfl));intro gb230 hg w12 hbox hb;have n0_:=Aside0.mk (Z25 YH hb);have n1_:=Aside0.mk (hbox);have n2_:=Aside0.mk ((by rw [hg];exact (Z27 YH) : w.heap.size ≤ gb230));have n3_:=Aside0.mk ((by rw [hg];exact (Z27 YH) : w.heap.size ≤ gb230));clear HB;have HB:=n0_;have BK230:=n1_;have GW230:=n2_;have GE230:=n3_;clear n0_ n1_ n2_ n3_;clear hb hbox hg;have hcz13_4 : w12.cell? ⟨gb230,4,none⟩ = some (.slice A0_4 l0_4.length c0_4):=(Z5 BK230.out 4).trans rfl)|((with_reducible refine Z52 (N:=11) rfl ?_);refine Kd.R_make Kd.bool _ 4 rfl (N:=11) rfl 34 _ _ rfl (l0_4.length : Int) rfl rfl Try.underlying34 (.bool false) 1 info4 rfl (by decide) (by omega) false (ok:=fun _ => True) (okp:=fun _ => True) rfl (fun _ hk => hk) trivial YA (Nat.le_trans (Nat.mul_le_mul_right _ (YA : (l0_4.length : Int).toNat ≤ 281474976710656)) (by omega)) (Below.refl _ _) (Nat.le_refl _) ?_;intro v232 w14 ho15 hb hg_ hnew_;clear hg_ hnew_;(first|rw [← Ny231.out] at ho15|(simp only [Int.reduceToNat] at ho15;rw [← Ny231.out] at ho15));have n0_:=Aside0.mk (Kd.R_lower ho15 (Z27 YH));have n1_:=Aside0.mk (Z40 (YK BK230) hb);have n2_:=Aside0.mk (Z25 YH hb);clear BK230;clear HB;have HO233:=n0_;have BK230:=n1_;have HB:=n2_;clear n0_ n1_ n2_;clear hb ho15;obtain ⟨Ao16,co16,eo16⟩:=Kd.R_slice HO233.out;subst eo16;have p11 : 0 ≤ (0 : Int):=(by omega);have q11 : (0 : Int) < ((y231.length : Int) : Int):=YA;have qi11 : (0 < y231.length) = True:=eq_true (by omega);obtain ⟨go11,co11,eo11,gb11,gl11,cl11,HG11⟩:=Kd.R_form HO233.out (by omega);(first|cases eo11|(injection eo11 with ea_ en_ ec_;(first|subst ea_|(injection ea_ with ea_;subst ea_));subst ec_;clear en_));have GB11:=Aside0.mk gb11;have GG11:=Aside0.mk HG11;clear gb11 gl11 HG11;obtain ⟨hx11_0,hf11_0⟩:=Kd.R_celln false HO233.out (0 : Int) p11 q11;(try rw [show ((0 : Int)).toNat = 0 from rfl] at hx11_0);(try simp only [Nat.reduceMul,Nat.zero_mul,Nat.zero_add,Nat.reduceAdd] at hx11_0);(try rw [show ((0 : Int)).toNat = 0 from rfl] at hf11_0);(try simp only [Nat.reduceMul,Nat.zero_mul,Nat.zero_add,Nat.reduceAdd] at hf11_0);replace p11:=eq_true p11;replace q11:=eq_true q11;obtain ⟨hy17_,hz17_⟩:=Kd.R_celln false HO233.out (0 : Int) (by omega) YA;(try simp only [Int.reduceToNat,Int.toNat_zero,Int.toNat_ofNat,Nat.reduceMul,Nat.zero_mul,Nat.zero_add] at hy17_ hz17_);(try rw [show ((0 : Int)).toNat = 0 from rfl] at hy17_);(try rw [show ((0 : Int)).toNat = 0 from rfl] at hz17_);have HP17:=Kd.R_putg HO233.out (0 : Int) true)|((with_reducible refine gate_store (t:=4) (p:=17) rfl ?_);refine store_event (t:=4) (p:=17) (v:=?vo_w18) (w1:=(w14.setCell ⟨go11,(0 : Int).toNat,none⟩ (.bool true))) ?hg ?ho ?hn ?hr ?_;(case ho => rfl);(case hg => rfl);(case hn => rfl);(case hr => first|(go_simp;done)|(go_simp;rfl));intro w18 hw;have hg : w14.grownBy w18 (some go11):=(by rw [hw];exact HP17.2);have hp_ : Kd.R Kd.bool 4 w18 w.heap.size (fun _ => True) (.slice (some ⟨go11,0,none⟩) y231.length co16) y234:=(by rw [hw,Ny234.out];exact HP17.1);clear HP17;have n0_:=Aside0.mk (Z89 (YK BK230) hg (Kd.R_ne HO233.out BK230.out (by decide)));have n1_:=Aside0.mk (hp_);have n2_:=Aside0.mk ((by rw [hw];exact Z8 (HB.out) GB11.out : Below w.heap.size w w18));clear BK230;clear HO233;clear HB;have BK230:=n0_;have HO233:=n1_;have HB:=n2_;clear n0_ n1_ n2_;clear hg hw hp_)|((with_reducible refine Z52 (N:=18) rfl ?_);refine Kd.R_lit (Kd.int .i64) _ 3 ?hg (N:=18) ?hd (xs:=([0] : List Int)) (inner:=[.int .i64 0]) (ok:=fun _ => True) (okp:=fun _ => True) ?hr ?hp (fun _ hk => hk) trivial (Below.refl _ _) (Nat.le_refl _) (by simp) ?_;(case hd => rfl);(case hg => rfl);(case hr => first|(go_simp;done)|(go_simp;rfl));(case hp => exact (Reps.one (show Kd.M (Kd.int .i64) _ _ _ 0 [.int .i64 0] from rfl) (Reps.none _ _)));intro v236 w19 ho20 hb hg_ hnew_;clear hg_ hnew_;(first|rw [← Ny235.out] at ho20|(simp only [Int.reduceToNat] at ho20;rw [← Ny235.out] at ho20));have n0_:=Aside0.mk (Kd.R_below (YR HO233) hb);have n1_:=Aside0.mk (Kd.R_lower ho20 (Z27 YH));have n2_:=Aside0.mk (Z40 (YK BK230) hb);have n3_:=Aside0.mk (Z25 YH hb);clear HO233;clear BK230;clear HB;have HO233:=n0_;have HO237:=n1_;have BK230:=n2_;have HB:=n3_;clear n0_ n1_ n2_ n3_;clear hb ho20))
         go_loopg [4] k (fun kq v4 w' => ∃ (x3_1 : List Bool) (x4_1 : List Int),Aside0 (ir_Reached.l0 kq x3_1 x4_1 a0_0 a0_1 a0_2 a0_3 l0_4 = some r) ∧ Aside0 (kq ≤ k) ∧ Aside0 (Kd.R Kd.bool 4 w' w.heap.size (fun _ => True) (.slice (some ⟨go11,0,none⟩) y231.length co16) x3_1) ∧ Aside0 (Kd.R (Kd.int .i64) 3 w' w.heap.size (fun _ => True) v4 x4_1) ∧ Aside0 (w'.heap[gb230]? = some (.cells #[.string a0_0,.int .i64 a0_1,.int .i64 a0_2,.int .i64 a0_3,(.slice A0_4 l0_4.length c0_4)] 24 (0,0))) ∧ Aside0 (Below w.heap.size w w'))
         case atStart => exact ⟨(y234),(y235),H',⟨Nat.le_refl _⟩,⟨YR HO233⟩,⟨YR HO237⟩,⟨YK BK230⟩,⟨YH⟩⟩
         case round =>
          clear H';try clear c2
          try clear c2b1
          try clear c3
          try clear c3b1
          try clear c4
          try clear c4b0
          try clear c10
          try clear c10b0
          try clear p11
          try clear q11
          try clear qi11
          try clear hcz13_4
          try clear hx11_0
          try clear p11
          try clear q11
          obtain ⟨x3_1,x4_1,HA,HK1,HO_3,HO_4,BK230,HB⟩:=hrel
          have hl3_1:=(Kd.R_reads' HO_3.out).1
          rw [hl3_1] at HO_3;(try simp only [hl3_1]);(try simp only [hl3_1] at BK230);(try simp only [hl3_1] at HO_4);cases gk with
          | zero => exact absurd HA.out (by simp [ir_Reached.l0])
          | succ k1 =>
           have H:=HA.out
           clear HA;simp only [ir_Reached.l0] at H;by_cases c21 : (x4_1.length : Int) > 0
           · rw [if_pos c21] at H;have c21b1 : decide (0 < x4_1.length) = true:=decide_eq_true (by omega)
             clear c21;obtain ⟨ji22,hji22⟩ : ∃ j_ : Int,(wrap64 ((x4_1.length : Int) - 1)) = j_:=⟨_,rfl⟩
             replace H : (if 0 ≤ (ji22) then (if (ji22) < (x4_1.length : Int) then (if 0 ≤ (rd x4_1 (ji22)) then (if (rd x4_1 (ji22)) < (l0_4.length : Int) then (if (ji22) ≤ (x4_1.length : Int) then (ir_Reached.l1 k1 x3_1 (x4_1.take ((ji22) : Int).toNat) ((rd_T45 l0_4 (rd x4_1 (ji22))).f3) (((rd_T45 l0_4 (rd x4_1 (ji22))).f3).length : Int) 0 a0_0 a0_1 a0_2 a0_3 l0_4) else (none)) else (none)) else (none)) else (none)) else (none)) = some r:=by first|(rw [hji22] at H;exact H)|(simp only [hji22] at H ⊢;exact H)
             have hji22w : (IntKind.i64.wrap ((x4_1.length : Int) - 1)) = ji22:=(i64_w _).trans hji22
             by_cases c23 : 0 ≤ (ji22)
             · rw [if_pos c23] at H;have c23b0 : decide (0 ≤ (ji22)) = true:=decide_eq_true c23
               clear c23;by_cases c24 : (ji22) < (x4_1.length : Int)
               · rw [if_pos c24] at H;have c24b0 : decide ((ji22) < (x4_1.length : Int)) = true:=decide_eq_true c24
                 clear c24;by_cases c25 : 0 ≤ (rd x4_1 (ji22))
                 · rw [if_pos c25] at H;have c25b0 : decide (0 ≤ (rd x4_1 (ji22))) = true:=decide_eq_true c25
                   clear c25;by_cases c26 : (rd x4_1 (ji22)) < (l0_4.length : Int)
                   · rw [if_pos c26] at H;have c26b0 : decide ((rd x4_1 (ji22)) < (l0_4.length : Int)) = true:=decide_eq_true c26
                     clear c26;by_cases c27 : (ji22) ≤ (x4_1.length : Int)
                     · rw [if_pos c27] at H;have c27b1 : decide ((ji22) ≤ (x4_1.length : Int)) = true:=decide_eq_true c27
                       clear c27;obtain ⟨y241,hy241⟩ : ∃ y_ : List Int,y_ = (x4_1.take ((ji22) : Int).toNat):=⟨_,rfl⟩
                       replace H : (ir_Reached.l1 k1 x3_1 y241 ((rd_T45 l0_4 (rd x4_1 (ji22))).f3) (((rd_T45 l0_4 (rd x4_1 (ji22))).f3).length : Int) 0 a0_0 a0_1 a0_2 a0_3 l0_4) = some r:=by first|(rw [hy241];with_reducible exact H)|(have H2_:=(Option.bind_some _ _).symm.trans H;rw [hy241];with_reducible exact H2_)|(have H2_:=(Option.bind_some _ _).symm.trans H;with_reducible exact H2_)|with_reducible exact H|(rw [hy241];exact H)|exact H
                       have Ny241:=Aside0.mk hy241
                       clear hy241;have H' := Aside0.mk H
                       clear H;obtain ⟨Ao28,co28,eo28⟩:=Kd.R_slice HO_4.out
                       subst eo28;try go_wp2
                       have n0_:=Aside0.mk (Kd.R_drew HO_3.out)
                       have n1_:=Aside0.mk (Kd.R_drew HO_4.out)
                       have n2_:=Aside0.mk (Z3 BK230.out)
                       have n3_:=Aside0.mk (Z6 HB.out)
                       clear HO_3;clear HO_4;clear BK230;clear HB;have HO_3:=n0_
                       have HO_4:=n1_
                       have BK230:=n2_
                       have HB:=n3_
                       clear n0_ n1_ n2_ n3_;have p238 : 0 ≤ ((ji22) : Int):=YA
                       have q238 : (ji22) < (x4_1.length : Int):=YA
                       obtain ⟨ad238,e238,hx238_0⟩:=Kd.at_int (Kd.R_reads' HO_4.out).2.2 (ji22) p238 q238
                       cases e238;replace p238:=eq_true p238
                       replace q238:=eq_true q238
                       have p239 : 0 ≤ ((rd x4_1 (ji22)) : Int):=YA
                       have q239 : (rd x4_1 (ji22)) < (l0_4.length : Int):=YA
                       obtain ⟨ad239,A239_0,c239_0,A239_3,c239_3,e239,hx239_0,hx239_1,hx239_2,hx239_3,hl239_0,hi239_0,hl239_3,hi239_3⟩:=at_T45 HR0_4.out (rd x4_1 (ji22)) p239 q239
                       have hw239_3:=hx239_3
                       have hw239_2:=hx239_2
                       have hw239_1:=hx239_1
                       have hw239_0:=hx239_0
                       cases e239;replace hx239_0:=(HB.out.cell (World.block_lt_of_cell? w _ hx239_0)).trans hx239_0
                       replace hx239_1:=(HB.out.cell (World.block_lt_of_cell? w _ hx239_1)).trans hx239_1
                       replace hx239_2:=(HB.out.cell (World.block_lt_of_cell? w _ hx239_2)).trans hx239_2
                       replace hx239_3:=(HB.out.cell (World.block_lt_of_cell? w _ hx239_3)).trans hx239_3
                       clear hi239_0 hl239_0;have HR239_3:=Aside0.mk hi239_3
                       clear hi239_3 hl239_3;replace p239:=eq_true p239
                       replace q239:=eq_true q239
                       refine start_ (n:=12) (S:=fun w' => w'.cell? ⟨gb230,0,none⟩ = some (.string a0_0) ∧ w'.cell? ⟨gb230,1,none⟩ = some (.int .i64 a0_1) ∧ w'.cell? ⟨gb230,2,none⟩ = some (.int .i64 a0_2) ∧ w'.cell? ⟨gb230,3,none⟩ = some (.int .i64 a0_3) ∧ w'.cell? ⟨gb230,4,none⟩ = some (.slice (some ad239) l0_4.length c0_4) ∧ w'.cell? (ad238.add ((ji22)).toNat) = some (.int .i64 (rd x4_1 (ji22))) ∧ w'.cell? (ad239.add (((rd x4_1 (ji22))).toNat * 4)) = some (.slice A239_0 ((rd_T45 l0_4 (rd x4_1 (ji22))).f0).length c239_0) ∧ w'.cell? ⟨(ad239.add (((rd x4_1 (ji22))).toNat * 4)).block,(ad239.add (((rd x4_1 (ji22))).toNat * 4)).off + 1,none⟩ = some (.int .i64 ((rd_T45 l0_4 (rd x4_1 (ji22))).f1)) ∧ w'.cell? ⟨(ad239.add (((rd x4_1 (ji22))).toNat * 4)).block,(ad239.add (((rd x4_1 (ji22))).toNat * 4)).off + 2,none⟩ = some (.int .i64 ((rd_T45 l0_4 (rd x4_1 (ji22))).f2)) ∧ w'.cell? ⟨(ad239.add (((rd x4_1 (ji22))).toNat * 4)).block,(ad239.add (((rd x4_1 (ji22))).toNat * 4)).off + 3,none⟩ = some (.slice A239_3 ((rd_T45 l0_4 (rd x4_1 (ji22))).f3).length c239_3)) (ds:=[]) #[false,false,false,false,false,false,false,false,false,false,false,false] (by kernel_rfl) rfl rfl ⟨(Z5 BK230.out 0).trans rfl,(Z5 BK230.out 1).trans rfl,(Z5 BK230.out 2).trans rfl,(Z5 BK230.out 3).trans rfl,(Z5 BK230.out 4).trans rfl,hx238_0,((HB.out.cell (World.block_lt_of_cell? w _ hw239_0)).trans hw239_0),((HB.out.cell (World.block_lt_of_cell? w _ hw239_1)).trans hw239_1),((HB.out.cell (World.block_lt_of_cell? w _ hw239_2)).trans hw239_2),((HB.out.cell (World.block_lt_of_cell? w _ hw239_3)).trans hw239_3)⟩ (fun hHeld => ?_);refine Z74 ir_Reached.tab7 ir_Reached.bits7 (fun HT_ HW_ => ?_);generalize wr.drew = w29 at HO_3 HO_4 BK230 HB HR239_3 hx238_0 hx239_0 hx239_1 hx239_2 hx239_3 hHeld ⊢;refine pure_ (i:=0) (N:=some 22) (v:=?_) (a' := ?_) #[true,false,false,false,false,false,false,false,false,false,false,false] rfl rfl (any_of HT_.out (by kernel_rfl)) (fun _ _ _ h => h) (Or.inl ⟨by rfl,?_⟩) ?_ ?_;rotate_left
                       · intro w';go_simp
                         with_reducible rfl
                       rotate_left
                       · simp only [Act.put,List.setIfInBounds_toArray,List.set_cons_zero,List.set_cons_succ,i64_w,i32_w];rfl
                       refine pure_ (i:=2) (N:=some 24) (v:=?_) (a' := ?_) #[true,false,true,false,false,false,false,false,false,false,false,false] rfl rfl (any_of HT_.out (by kernel_rfl)) (fun _ _ _ h => h) (Or.inl ⟨by rfl,?_⟩) ?_ ?_;rotate_left
                       · intro w';go_simp
                         with_reducible rfl
                       rotate_left
                       · simp only [Act.put,List.setIfInBounds_toArray,List.set_cons_zero,List.set_cons_succ,i64_w,i32_w];rfl
                       refine pure_ (i:=3) (N:=some 25) (v:=?_) (a' := ?_) #[true,false,true,true,false,false,false,false,false,false,false,false] rfl rfl (any_of HT_.out (by kernel_rfl)) (fun _ _ _ h => h) (Or.inl ⟨by rfl,?_⟩) ?_ ?_;rotate_left
                       · intro w';go_simp
                         with_reducible rfl
                       rotate_left
                       · simp only [Act.put,List.setIfInBounds_toArray,List.set_cons_zero,List.set_cons_succ,i64_w,i32_w];rfl
                       refine pure_ (i:=4) (N:=some 26) (v:=?_) (a' := ?_) #[true,false,true,true,true,false,false,false,false,false,false,false] rfl rfl (any_of HT_.out (by kernel_rfl)) (fun _ _ _ h => h) (Or.inl ⟨by rfl,?_⟩) ?_ ?_;rotate_left
                       · intro w';go_simp
                         with_reducible rfl
                       rotate_left
                       · simp only [Act.put,List.setIfInBounds_toArray,List.set_cons_zero,List.set_cons_succ,i64_w,i32_w];rfl
                       refine pure_ (i:=5) (N:=some 27) (v:=?_) (a' := ?_) #[true,false,true,true,true,true,false,false,false,false,false,false] rfl rfl (any_of HT_.out (by kernel_rfl)) (fun _ _ _ h => h) (Or.inl ⟨by rfl,?_⟩) ?_ ?_;rotate_left
                       · intro w';go_simp
                         with_reducible rfl
                       rotate_left
                       · simp only [Act.put,List.setIfInBounds_toArray,List.set_cons_zero,List.set_cons_succ,i64_w,i32_w];rfl
                       refine pure_ (i:=6) (N:=some 28) (v:=?_) (a' := ?_) #[true,false,true,true,true,true,true,false,false,false,false,false] rfl rfl (any_of HT_.out (by kernel_rfl)) (fun _ _ _ h => h) (Or.inl ⟨by rfl,?_⟩) ?_ ?_;rotate_left
                       · intro w';go_simp
                         with_reducible rfl
                       rotate_left
                       · simp only [Act.put,List.setIfInBounds_toArray,List.set_cons_zero,List.set_cons_succ,i64_w,i32_w];rfl
                       refine take_ (i:=1) (N:=some 23) (v:=?_) (a' := ?_) #[true,true,true,true,true,true,true,false,false,false,false,false] rfl rfl (Z67 HT_.out HW_.out (by kernel_rfl)) (fun _ _ _ h => h) (Or.inl ⟨by rfl,?_⟩) hHeld ?_ ?_;rotate_left
                       · rintro w' ⟨s0,s1,s2,s3,s4,s5,s6,s7,s8,s9⟩;go_simp
                         with_reducible rfl
                       rotate_left
                       · simp only [Act.put,List.setIfInBounds_toArray,List.set_cons_zero,List.set_cons_succ,i64_w,i32_w];rfl
                       refine take_ (i:=7) (N:=some 29) (v:=?_) (a' := ?_) #[true,true,true,true,true,true,true,true,false,false,false,false] rfl rfl (Z67 HT_.out HW_.out (by kernel_rfl)) (fun _ _ _ h => h) (Or.inl ⟨by rfl,?_⟩) hHeld ?_ ?_;rotate_left
                       · rintro w' ⟨s0,s1,s2,s3,s4,s5,s6,s7,s8,s9⟩;go_simp
                         with_reducible rfl
                       rotate_left
                       · simp only [Act.put,List.setIfInBounds_toArray,List.set_cons_zero,List.set_cons_succ,i64_w,i32_w];rfl
                       refine pure_ (i:=8) (N:=some 30) (v:=?_) (a' := ?_) #[true,true,true,true,true,true,true,true,true,false,false,false] rfl rfl (any_of HT_.out (by kernel_rfl)) (fun _ _ _ h => h) (Or.inl ⟨by rfl,?_⟩) ?_ ?_;rotate_left
                       · intro w';go_simp
                         with_reducible rfl
                       rotate_left
                       · simp only [Act.put,List.setIfInBounds_toArray,List.set_cons_zero,List.set_cons_succ,i64_w,i32_w];rfl
                       refine take_ (i:=9) (N:=some 31) (v:=?_) (a' := ?_) #[true,true,true,true,true,true,true,true,true,true,false,false] rfl rfl (Z67 HT_.out HW_.out (by kernel_rfl)) (fun _ _ _ h => h) (Or.inl ⟨by rfl,?_⟩) hHeld ?_ ?_;rotate_left
                       · rintro w' ⟨s0,s1,s2,s3,s4,s5,s6,s7,s8,s9⟩;go_simp
                         with_reducible rfl
                       rotate_left
                       · simp only [Act.put,List.setIfInBounds_toArray,List.set_cons_zero,List.set_cons_succ,i64_w,i32_w];rfl
                       refine one_ (i:=10) (N:=some 5) #[true,true,true,true,true,true,true,true,true,true,true,false] rfl rfl (one_of HT_.out (by kernel_rfl)) (by decide) (fun K hK => ?_);refine box_step ?hg (N:=5) ?hd (cs:=#[.slice none 0 0,.int .i64 0,.int .i64 0,.slice none 0 0]) (t:=45) ?hr ?_;(case hd => rfl);(case hg => rfl);(case hr => first|(go_simp;done)|(go_simp;rfl));intro gb240 hg w30 hbox hb;have HS5_:=(hb.cell (World.block_lt_of_cell? _ _ (hHeld.2.2.2.2.2.1))).trans (hHeld.2.2.2.2.2.1)
                       have n0_:=Aside0.mk (Kd.R_below (YR HO_3) hb)
                       have n1_:=Aside0.mk (Kd.R_below (YR HO_4) hb)
                       have n2_:=Aside0.mk (Z40 (YK BK230) hb)
                       have n3_:=Aside0.mk (Z25 YH hb)
                       have n4_:=Aside0.mk (hbox)
                       have n5_:=Aside0.mk ((by rw [hg];exact (Z27 YH) : w.heap.size ≤ gb240))
                       have n6_:=Aside0.mk ((by rw [hg];exact (Z27 YH) : w.heap.size ≤ gb240))
                       have n7_:=Aside0.mk ((by rw [hg];exact Nat.ne_of_lt (blk_lt (YK BK230)) : gb230 ≠ gb240))
                       have n8_:=Aside0.mk ((by rw [hg];exact Nat.ne_of_gt (blk_lt (YK BK230)) : gb240 ≠ gb230))
                       clear HO_3;clear HO_4;clear BK230;clear HB;have HO_3:=n0_
                       have HO_4:=n1_
                       have BK230:=n2_
                       have HB:=n3_
                       have BK240:=n4_
                       have GW240:=n5_
                       have GE240:=n6_
                       have NB230_240:=n7_
                       have NB240_230:=n8_
                       clear n0_ n1_ n2_ n3_ n4_ n5_ n6_ n7_ n8_;clear hb hbox hg;refine hK.out _ _ ⟨(Z5 BK230.out 0).trans rfl,(Z5 BK230.out 1).trans rfl,(Z5 BK230.out 2).trans rfl,(Z5 BK230.out 3).trans rfl,(Z5 BK230.out 4).trans rfl,HS5_,((HB.out.cell (World.block_lt_of_cell? w _ hw239_0)).trans hw239_0),((HB.out.cell (World.block_lt_of_cell? w _ hw239_1)).trans hw239_1),((HB.out.cell (World.block_lt_of_cell? w _ hw239_2)).trans hw239_2),((HB.out.cell (World.block_lt_of_cell? w _ hw239_3)).trans hw239_3)⟩ (fun hHeld => ?_);clear hK K;refine norm_ (a' := ?_) ?_ ?_;rotate_left
                       · show Act.put _ (some 5) _ = _
                         simp only [Act.put,List.setIfInBounds_toArray,List.set_cons_zero,List.set_cons_succ,i64_w,i32_w];rfl
                       refine one_ (i:=11) (N:=none) #[true,true,true,true,true,true,true,true,true,true,true,true] rfl rfl (one_of HT_.out (by kernel_rfl)) (by decide) (fun K hK => ?_);have hs31 : w30.cell? ⟨gb240,0,none⟩ = some (.slice none 0 0):=(Z5 BK240.out 0).trans rfl
                       have hfs31:=Z2 BK240.out 0
                       have hns31_0:=NB230_240.out
                       have hms31_0:=NB240_230.out
                       have hs32 : w30.cell? ⟨gb240,1,none⟩ = some (.int .i64 0):=(Z5 BK240.out 1).trans rfl
                       have hfs32:=Z2 BK240.out 1
                       have hns32_0:=NB230_240.out
                       have hms32_0:=NB240_230.out
                       have hs33 : w30.cell? ⟨gb240,2,none⟩ = some (.int .i64 0):=(Z5 BK240.out 2).trans rfl
                       have hfs33:=Z2 BK240.out 2
                       have hns33_0:=NB230_240.out
                       have hms33_0:=NB240_230.out
                       have hs34 : w30.cell? ⟨gb240,3,none⟩ = some (.slice none 0 0):=(Z5 BK240.out 3).trans rfl
                       have hfs34:=Z2 BK240.out 3
                       have hns34_0:=NB230_240.out
                       have hms34_0:=NB240_230.out
                       refine skip_ (w1:=?_) (by rfl) rfl ?_ ?_;rotate_left
                       · go_simp;rfl
                       refine hK.out _ _ ⟨((Z11 (p:=⟨gb240,_,none⟩) NB230_240.out _).trans (((Z11 (p:=⟨gb240,_,none⟩) NB230_240.out _).trans (((Z11 (p:=⟨gb240,_,none⟩) NB230_240.out _).trans (((Z11 (p:=⟨gb240,_,none⟩) NB230_240.out _).trans (hHeld.1)))))))),((Z11 (p:=⟨gb240,_,none⟩) NB230_240.out _).trans (((Z11 (p:=⟨gb240,_,none⟩) NB230_240.out _).trans (((Z11 (p:=⟨gb240,_,none⟩) NB230_240.out _).trans (((Z11 (p:=⟨gb240,_,none⟩) NB230_240.out _).trans (hHeld.2.1)))))))),((Z11 (p:=⟨gb240,_,none⟩) NB230_240.out _).trans (((Z11 (p:=⟨gb240,_,none⟩) NB230_240.out _).trans (((Z11 (p:=⟨gb240,_,none⟩) NB230_240.out _).trans (((Z11 (p:=⟨gb240,_,none⟩) NB230_240.out _).trans (hHeld.2.2.1)))))))),((Z11 (p:=⟨gb240,_,none⟩) NB230_240.out _).trans (((Z11 (p:=⟨gb240,_,none⟩) NB230_240.out _).trans (((Z11 (p:=⟨gb240,_,none⟩) NB230_240.out _).trans (((Z11 (p:=⟨gb240,_,none⟩) NB230_240.out _).trans (hHeld.2.2.2.1)))))))),((Z11 (p:=⟨gb240,_,none⟩) NB230_240.out _).trans (((Z11 (p:=⟨gb240,_,none⟩) NB230_240.out _).trans (((Z11 (p:=⟨gb240,_,none⟩) NB230_240.out _).trans (((Z11 (p:=⟨gb240,_,none⟩) NB230_240.out _).trans (hHeld.2.2.2.2.1)))))))),((Z11 (p:=⟨gb240,_,none⟩) (by first|exact Kd.own_blk (Kd.R_ne HO_4.out BK240.out (by decide))|(rw [Z63];exact Kd.own_blk (Kd.R_ne HO_4.out BK240.out (by decide)))|(show (Addr.add _ _).block ≠ _;rw [Z63];exact Kd.own_blk (Kd.R_ne HO_4.out BK240.out (by decide)))|(dsimp only;exact Kd.own_blk (Kd.R_ne HO_4.out BK240.out (by decide)))) _).trans (((Z11 (p:=⟨gb240,_,none⟩) (by first|exact Kd.own_blk (Kd.R_ne HO_4.out BK240.out (by decide))|(rw [Z63];exact Kd.own_blk (Kd.R_ne HO_4.out BK240.out (by decide)))|(show (Addr.add _ _).block ≠ _;rw [Z63];exact Kd.own_blk (Kd.R_ne HO_4.out BK240.out (by decide)))|(dsimp only;exact Kd.own_blk (Kd.R_ne HO_4.out BK240.out (by decide)))) _).trans (((Z11 (p:=⟨gb240,_,none⟩) (by first|exact Kd.own_blk (Kd.R_ne HO_4.out BK240.out (by decide))|(rw [Z63];exact Kd.own_blk (Kd.R_ne HO_4.out BK240.out (by decide)))|(show (Addr.add _ _).block ≠ _;rw [Z63];exact Kd.own_blk (Kd.R_ne HO_4.out BK240.out (by decide)))|(dsimp only;exact Kd.own_blk (Kd.R_ne HO_4.out BK240.out (by decide)))) _).trans (((Z11 (p:=⟨gb240,_,none⟩) (by first|exact Kd.own_blk (Kd.R_ne HO_4.out BK240.out (by decide))|(rw [Z63];exact Kd.own_blk (Kd.R_ne HO_4.out BK240.out (by decide)))|(show (Addr.add _ _).block ≠ _;rw [Z63];exact Kd.own_blk (Kd.R_ne HO_4.out BK240.out (by decide)))|(dsimp only;exact Kd.own_blk (Kd.R_ne HO_4.out BK240.out (by decide)))) _).trans (hHeld.2.2.2.2.2.1)))))))),((Z11 (p:=⟨gb240,_,none⟩) (by first|exact Nat.ne_of_lt (Nat.lt_of_lt_of_le (by have:=World.block_lt_of_cell? _ _ hw239_0;first|rwa [Z63] at this|exact this) GW240.out)|(rw [Z63];exact Nat.ne_of_lt (Nat.lt_of_lt_of_le (by have:=World.block_lt_of_cell? _ _ hw239_0;first|rwa [Z63] at this|exact this) GW240.out))|(show (Addr.add _ _).block ≠ _;rw [Z63];exact Nat.ne_of_lt (Nat.lt_of_lt_of_le (by have:=World.block_lt_of_cell? _ _ hw239_0;first|rwa [Z63] at this|exact this) GW240.out))|(dsimp only;exact Nat.ne_of_lt (Nat.lt_of_lt_of_le (by have:=World.block_lt_of_cell? _ _ hw239_0;first|rwa [Z63] at this|exact this) GW240.out))) _).trans (((Z11 (p:=⟨gb240,_,none⟩) (by first|exact Nat.ne_of_lt (Nat.lt_of_lt_of_le (by have:=World.block_lt_of_cell? _ _ hw239_0;first|rwa [Z63] at this|exact this) GW240.out)|(rw [Z63];exact Nat.ne_of_lt (Nat.lt_of_lt_of_le (by have:=World.block_lt_of_cell? _ _ hw239_0;first|rwa [Z63] at this|exact this) GW240.out))|(show (Addr.add _ _).block ≠ _;rw [Z63];exact Nat.ne_of_lt (Nat.lt_of_lt_of_le (by have:=World.block_lt_of_cell? _ _ hw239_0;first|rwa [Z63] at this|exact this) GW240.out))|(dsimp only;exact Nat.ne_of_lt (Nat.lt_of_lt_of_le (by have:=World.block_lt_of_cell? _ _ hw239_0;first|rwa [Z63] at this|exact this) GW240.out))) _).trans (((Z11 (p:=⟨gb240,_,none⟩) (by first|exact Nat.ne_of_lt (Nat.lt_of_lt_of_le (by have:=World.block_lt_of_cell? _ _ hw239_0;first|rwa [Z63] at this|exact this) GW240.out)|(rw [Z63];exact Nat.ne_of_lt (Nat.lt_of_lt_of_le (by have:=World.block_lt_of_cell? _ _ hw239_0;first|rwa [Z63] at this|exact this) GW240.out))|(show (Addr.add _ _).block ≠ _;rw [Z63];exact Nat.ne_of_lt (Nat.lt_of_lt_of_le (by have:=World.block_lt_of_cell? _ _ hw239_0;first|rwa [Z63] at this|exact this) GW240.out))|(dsimp only;exact Nat.ne_of_lt (Nat.lt_of_lt_of_le (by have:=World.block_lt_of_cell? _ _ hw239_0;first|rwa [Z63] at this|exact this) GW240.out))) _).trans (((Z11 (p:=⟨gb240,_,none⟩) (by first|exact Nat.ne_of_lt (Nat.lt_of_lt_of_le (by have:=World.block_lt_of_cell? _ _ hw239_0;first|rwa [Z63] at this|exact this) GW240.out)|(rw [Z63];exact Nat.ne_of_lt (Nat.lt_of_lt_of_le (by have:=World.block_lt_of_cell? _ _ hw239_0;first|rwa [Z63] at this|exact this) GW240.out))|(show (Addr.add _ _).block ≠ _;rw [Z63];exact Nat.ne_of_lt (Nat.lt_of_lt_of_le (by have:=World.block_lt_of_cell? _ _ hw239_0;first|rwa [Z63] at this|exact this) GW240.out))|(dsimp only;exact Nat.ne_of_lt (Nat.lt_of_lt_of_le (by have:=World.block_lt_of_cell? _ _ hw239_0;first|rwa [Z63] at this|exact this) GW240.out))) _).trans (hHeld.2.2.2.2.2.2.1)))))))),((Z11 (p:=⟨gb240,_,none⟩) (by first|exact Nat.ne_of_lt (Nat.lt_of_lt_of_le (by have:=World.block_lt_of_cell? _ _ hw239_1;first|rwa [Z63] at this|exact this) GW240.out)|(rw [Z63];exact Nat.ne_of_lt (Nat.lt_of_lt_of_le (by have:=World.block_lt_of_cell? _ _ hw239_1;first|rwa [Z63] at this|exact this) GW240.out))|(show (Addr.add _ _).block ≠ _;rw [Z63];exact Nat.ne_of_lt (Nat.lt_of_lt_of_le (by have:=World.block_lt_of_cell? _ _ hw239_1;first|rwa [Z63] at this|exact this) GW240.out))|(dsimp only;exact Nat.ne_of_lt (Nat.lt_of_lt_of_le (by have:=World.block_lt_of_cell? _ _ hw239_1;first|rwa [Z63] at this|exact this) GW240.out))) _).trans (((Z11 (p:=⟨gb240,_,none⟩) (by first|exact Nat.ne_of_lt (Nat.lt_of_lt_of_le (by have:=World.block_lt_of_cell? _ _ hw239_1;first|rwa [Z63] at this|exact this) GW240.out)|(rw [Z63];exact Nat.ne_of_lt (Nat.lt_of_lt_of_le (by have:=World.block_lt_of_cell? _ _ hw239_1;first|rwa [Z63] at this|exact this) GW240.out))|(show (Addr.add _ _).block ≠ _;rw [Z63];exact Nat.ne_of_lt (Nat.lt_of_lt_of_le (by have:=World.block_lt_of_cell? _ _ hw239_1;first|rwa [Z63] at this|exact this) GW240.out))|(dsimp only;exact Nat.ne_of_lt (Nat.lt_of_lt_of_le (by have:=World.block_lt_of_cell? _ _ hw239_1;first|rwa [Z63] at this|exact this) GW240.out))) _).trans (((Z11 (p:=⟨gb240,_,none⟩) (by first|exact Nat.ne_of_lt (Nat.lt_of_lt_of_le (by have:=World.block_lt_of_cell? _ _ hw239_1;first|rwa [Z63] at this|exact this) GW240.out)|(rw [Z63];exact Nat.ne_of_lt (Nat.lt_of_lt_of_le (by have:=World.block_lt_of_cell? _ _ hw239_1;first|rwa [Z63] at this|exact this) GW240.out))|(show (Addr.add _ _).block ≠ _;rw [Z63];exact Nat.ne_of_lt (Nat.lt_of_lt_of_le (by have:=World.block_lt_of_cell? _ _ hw239_1;first|rwa [Z63] at this|exact this) GW240.out))|(dsimp only;exact Nat.ne_of_lt (Nat.lt_of_lt_of_le (by have:=World.block_lt_of_cell? _ _ hw239_1;first|rwa [Z63] at this|exact this) GW240.out))) _).trans (((Z11 (p:=⟨gb240,_,none⟩) (by first|exact Nat.ne_of_lt (Nat.lt_of_lt_of_le (by have:=World.block_lt_of_cell? _ _ hw239_1;first|rwa [Z63] at this|exact this) GW240.out)|(rw [Z63];exact Nat.ne_of_lt (Nat.lt_of_lt_of_le (by have:=World.block_lt_of_cell? _ _ hw239_1;first|rwa [Z63] at this|exact this) GW240.out))|(show (Addr.add _ _).block ≠ _;rw [Z63];exact Nat.ne_of_lt (Nat.lt_of_lt_of_le (by have:=World.block_lt_of_cell? _ _ hw239_1;first|rwa [Z63] at this|exact this) GW240.out))|(dsimp only;exact Nat.ne_of_lt (Nat.lt_of_lt_of_le (by have:=World.block_lt_of_cell? _ _ hw239_1;first|rwa [Z63] at this|exact this) GW240.out))) _).trans (hHeld.2.2.2.2.2.2.2.1)))))))),((Z11 (p:=⟨gb240,_,none⟩) (by first|exact Nat.ne_of_lt (Nat.lt_of_lt_of_le (by have:=World.block_lt_of_cell? _ _ hw239_2;first|rwa [Z63] at this|exact this) GW240.out)|(rw [Z63];exact Nat.ne_of_lt (Nat.lt_of_lt_of_le (by have:=World.block_lt_of_cell? _ _ hw239_2;first|rwa [Z63] at this|exact this) GW240.out))|(show (Addr.add _ _).block ≠ _;rw [Z63];exact Nat.ne_of_lt (Nat.lt_of_lt_of_le (by have:=World.block_lt_of_cell? _ _ hw239_2;first|rwa [Z63] at this|exact this) GW240.out))|(dsimp only;exact Nat.ne_of_lt (Nat.lt_of_lt_of_le (by have:=World.block_lt_of_cell? _ _ hw239_2;first|rwa [Z63] at this|exact this) GW240.out))) _).trans (((Z11 (p:=⟨gb240,_,none⟩) (by first|exact Nat.ne_of_lt (Nat.lt_of_lt_of_le (by have:=World.block_lt_of_cell? _ _ hw239_2;first|rwa [Z63] at this|exact this) GW240.out)|(rw [Z63];exact Nat.ne_of_lt (Nat.lt_of_lt_of_le (by have:=World.block_lt_of_cell? _ _ hw239_2;first|rwa [Z63] at this|exact this) GW240.out))|(show (Addr.add _ _).block ≠ _;rw [Z63];exact Nat.ne_of_lt (Nat.lt_of_lt_of_le (by have:=World.block_lt_of_cell? _ _ hw239_2;first|rwa [Z63] at this|exact this) GW240.out))|(dsimp only;exact Nat.ne_of_lt (Nat.lt_of_lt_of_le (by have:=World.block_lt_of_cell? _ _ hw239_2;first|rwa [Z63] at this|exact this) GW240.out))) _).trans (((Z11 (p:=⟨gb240,_,none⟩) (by first|exact Nat.ne_of_lt (Nat.lt_of_lt_of_le (by have:=World.block_lt_of_cell? _ _ hw239_2;first|rwa [Z63] at this|exact this) GW240.out)|(rw [Z63];exact Nat.ne_of_lt (Nat.lt_of_lt_of_le (by have:=World.block_lt_of_cell? _ _ hw239_2;first|rwa [Z63] at this|exact this) GW240.out))|(show (Addr.add _ _).block ≠ _;rw [Z63];exact Nat.ne_of_lt (Nat.lt_of_lt_of_le (by have:=World.block_lt_of_cell? _ _ hw239_2;first|rwa [Z63] at this|exact this) GW240.out))|(dsimp only;exact Nat.ne_of_lt (Nat.lt_of_lt_of_le (by have:=World.block_lt_of_cell? _ _ hw239_2;first|rwa [Z63] at this|exact this) GW240.out))) _).trans (((Z11 (p:=⟨gb240,_,none⟩) (by first|exact Nat.ne_of_lt (Nat.lt_of_lt_of_le (by have:=World.block_lt_of_cell? _ _ hw239_2;first|rwa [Z63] at this|exact this) GW240.out)|(rw [Z63];exact Nat.ne_of_lt (Nat.lt_of_lt_of_le (by have:=World.block_lt_of_cell? _ _ hw239_2;first|rwa [Z63] at this|exact this) GW240.out))|(show (Addr.add _ _).block ≠ _;rw [Z63];exact Nat.ne_of_lt (Nat.lt_of_lt_of_le (by have:=World.block_lt_of_cell? _ _ hw239_2;first|rwa [Z63] at this|exact this) GW240.out))|(dsimp only;exact Nat.ne_of_lt (Nat.lt_of_lt_of_le (by have:=World.block_lt_of_cell? _ _ hw239_2;first|rwa [Z63] at this|exact this) GW240.out))) _).trans (hHeld.2.2.2.2.2.2.2.2.1)))))))),((Z11 (p:=⟨gb240,_,none⟩) (by first|exact Nat.ne_of_lt (Nat.lt_of_lt_of_le (by have:=World.block_lt_of_cell? _ _ hw239_3;first|rwa [Z63] at this|exact this) GW240.out)|(rw [Z63];exact Nat.ne_of_lt (Nat.lt_of_lt_of_le (by have:=World.block_lt_of_cell? _ _ hw239_3;first|rwa [Z63] at this|exact this) GW240.out))|(show (Addr.add _ _).block ≠ _;rw [Z63];exact Nat.ne_of_lt (Nat.lt_of_lt_of_le (by have:=World.block_lt_of_cell? _ _ hw239_3;first|rwa [Z63] at this|exact this) GW240.out))|(dsimp only;exact Nat.ne_of_lt (Nat.lt_of_lt_of_le (by have:=World.block_lt_of_cell? _ _ hw239_3;first|rwa [Z63] at this|exact this) GW240.out))) _).trans (((Z11 (p:=⟨gb240,_,none⟩) (by first|exact Nat.ne_of_lt (Nat.lt_of_lt_of_le (by have:=World.block_lt_of_cell? _ _ hw239_3;first|rwa [Z63] at this|exact this) GW240.out)|(rw [Z63];exact Nat.ne_of_lt (Nat.lt_of_lt_of_le (by have:=World.block_lt_of_cell? _ _ hw239_3;first|rwa [Z63] at this|exact this) GW240.out))|(show (Addr.add _ _).block ≠ _;rw [Z63];exact Nat.ne_of_lt (Nat.lt_of_lt_of_le (by have:=World.block_lt_of_cell? _ _ hw239_3;first|rwa [Z63] at this|exact this) GW240.out))|(dsimp only;exact Nat.ne_of_lt (Nat.lt_of_lt_of_le (by have:=World.block_lt_of_cell? _ _ hw239_3;first|rwa [Z63] at this|exact this) GW240.out))) _).trans (((Z11 (p:=⟨gb240,_,none⟩) (by first|exact Nat.ne_of_lt (Nat.lt_of_lt_of_le (by have:=World.block_lt_of_cell? _ _ hw239_3;first|rwa [Z63] at this|exact this) GW240.out)|(rw [Z63];exact Nat.ne_of_lt (Nat.lt_of_lt_of_le (by have:=World.block_lt_of_cell? _ _ hw239_3;first|rwa [Z63] at this|exact this) GW240.out))|(show (Addr.add _ _).block ≠ _;rw [Z63];exact Nat.ne_of_lt (Nat.lt_of_lt_of_le (by have:=World.block_lt_of_cell? _ _ hw239_3;first|rwa [Z63] at this|exact this) GW240.out))|(dsimp only;exact Nat.ne_of_lt (Nat.lt_of_lt_of_le (by have:=World.block_lt_of_cell? _ _ hw239_3;first|rwa [Z63] at this|exact this) GW240.out))) _).trans (((Z11 (p:=⟨gb240,_,none⟩) (by first|exact Nat.ne_of_lt (Nat.lt_of_lt_of_le (by have:=World.block_lt_of_cell? _ _ hw239_3;first|rwa [Z63] at this|exact this) GW240.out)|(rw [Z63];exact Nat.ne_of_lt (Nat.lt_of_lt_of_le (by have:=World.block_lt_of_cell? _ _ hw239_3;first|rwa [Z63] at this|exact this) GW240.out))|(show (Addr.add _ _).block ≠ _;rw [Z63];exact Nat.ne_of_lt (Nat.lt_of_lt_of_le (by have:=World.block_lt_of_cell? _ _ hw239_3;first|rwa [Z63] at this|exact this) GW240.out))|(dsimp only;exact Nat.ne_of_lt (Nat.lt_of_lt_of_le (by have:=World.block_lt_of_cell? _ _ hw239_3;first|rwa [Z63] at this|exact this) GW240.out))) _).trans (hHeld.2.2.2.2.2.2.2.2.2))))))))⟩ (fun hHeld => ?_);clear hK K;refine done_ (Z83 HT_.out (by kernel_rfl)) ?_;have n0_ : Aside0 (Kd.R Kd.bool 4 ((((w30.setCell ⟨gb240,0,none⟩ (.slice A239_0 ((rd_T45 l0_4 (rd x4_1 (ji22))).f0).length c239_0)).setCell ⟨gb240,1,none⟩ (.int .i64 ((rd_T45 l0_4 (rd x4_1 (ji22))).f1))).setCell ⟨gb240,2,none⟩ (.int .i64 ((rd_T45 l0_4 (rd x4_1 (ji22))).f2))).setCell ⟨gb240,3,none⟩ (.slice A239_3 ((rd_T45 l0_4 (rd x4_1 (ji22))).f3).length c239_3)) w.heap.size (fun _ => True) (.slice (some ⟨go11,0,none⟩) x3_1.length co16) x3_1):=⟨by (with_reducible repeat (first|apply Kd.R_alloc|apply Kd.R_drewN|apply Kd.R_drew));exact Kd.R_mono (Kd.R_far (p:=⟨gb240,3,none⟩) (Kd.R_far (p:=⟨gb240,2,none⟩) (Kd.R_far (p:=⟨gb240,1,none⟩) (Kd.R_far (p:=⟨gb240,0,none⟩) (Kd.R_types HO_3.out BK240.out (by decide)) (fun _ hk => hk.2) (.slice A239_0 ((rd_T45 l0_4 (rd x4_1 (ji22))).f0).length c239_0)) (fun _ hk => hk.2) (.int .i64 ((rd_T45 l0_4 (rd x4_1 (ji22))).f1))) (fun _ hk => hk.2) (.int .i64 ((rd_T45 l0_4 (rd x4_1 (ji22))).f2))) (fun _ hk => hk.2) (.slice A239_3 ((rd_T45 l0_4 (rd x4_1 (ji22))).f3).length c239_3)) (fun _ hk => trivial)⟩
                       have n1_ : Aside0 (Kd.R (Kd.int .i64) 3 ((((w30.setCell ⟨gb240,0,none⟩ (.slice A239_0 ((rd_T45 l0_4 (rd x4_1 (ji22))).f0).length c239_0)).setCell ⟨gb240,1,none⟩ (.int .i64 ((rd_T45 l0_4 (rd x4_1 (ji22))).f1))).setCell ⟨gb240,2,none⟩ (.int .i64 ((rd_T45 l0_4 (rd x4_1 (ji22))).f2))).setCell ⟨gb240,3,none⟩ (.slice A239_3 ((rd_T45 l0_4 (rd x4_1 (ji22))).f3).length c239_3)) w.heap.size (fun _ => True) (.slice (some ad238) x4_1.length co28) x4_1):=⟨by (with_reducible repeat (first|apply Kd.R_alloc|apply Kd.R_drewN|apply Kd.R_drew));exact Kd.R_mono (Kd.R_far (p:=⟨gb240,3,none⟩) (Kd.R_far (p:=⟨gb240,2,none⟩) (Kd.R_far (p:=⟨gb240,1,none⟩) (Kd.R_far (p:=⟨gb240,0,none⟩) (Kd.R_types HO_4.out BK240.out (by decide)) (fun _ hk => hk.2) (.slice A239_0 ((rd_T45 l0_4 (rd x4_1 (ji22))).f0).length c239_0)) (fun _ hk => hk.2) (.int .i64 ((rd_T45 l0_4 (rd x4_1 (ji22))).f1))) (fun _ hk => hk.2) (.int .i64 ((rd_T45 l0_4 (rd x4_1 (ji22))).f2))) (fun _ hk => hk.2) (.slice A239_3 ((rd_T45 l0_4 (rd x4_1 (ji22))).f3).length c239_3)) (fun _ hk => trivial)⟩
                       have n2_ : Aside0 (((((w30.setCell ⟨gb240,0,none⟩ (.slice A239_0 ((rd_T45 l0_4 (rd x4_1 (ji22))).f0).length c239_0)).setCell ⟨gb240,1,none⟩ (.int .i64 ((rd_T45 l0_4 (rd x4_1 (ji22))).f1))).setCell ⟨gb240,2,none⟩ (.int .i64 ((rd_T45 l0_4 (rd x4_1 (ji22))).f2))).setCell ⟨gb240,3,none⟩ (.slice A239_3 ((rd_T45 l0_4 (rd x4_1 (ji22))).f3).length c239_3)).heap[gb230]? = some (.cells #[.string a0_0,.int .i64 a0_1,.int .i64 a0_2,.int .i64 a0_3,.slice (some ad239) l0_4.length c0_4] 24 (0,0))):=⟨by (with_reducible repeat (first|refine Z0 ?_ _|refine Z3 ?_|refine Z1 ?_ _));refine Z22 ?_ NB230_240.out _;(with_reducible repeat (first|refine Z0 ?_ _|refine Z3 ?_|refine Z1 ?_ _));refine Z22 ?_ NB230_240.out _;(with_reducible repeat (first|refine Z0 ?_ _|refine Z3 ?_|refine Z1 ?_ _));refine Z22 ?_ NB230_240.out _;(with_reducible repeat (first|refine Z0 ?_ _|refine Z3 ?_|refine Z1 ?_ _));refine Z22 ?_ NB230_240.out _;(with_reducible repeat (first|refine Z0 ?_ _|refine Z3 ?_|refine Z1 ?_ _));exact BK230.out⟩
                       have n3_ : Aside0 (((((w30.setCell ⟨gb240,0,none⟩ (.slice A239_0 ((rd_T45 l0_4 (rd x4_1 (ji22))).f0).length c239_0)).setCell ⟨gb240,1,none⟩ (.int .i64 ((rd_T45 l0_4 (rd x4_1 (ji22))).f1))).setCell ⟨gb240,2,none⟩ (.int .i64 ((rd_T45 l0_4 (rd x4_1 (ji22))).f2))).setCell ⟨gb240,3,none⟩ (.slice A239_3 ((rd_T45 l0_4 (rd x4_1 (ji22))).f3).length c239_3)).heap[gb240]? = some (.cells #[.slice A239_0 ((rd_T45 l0_4 (rd x4_1 (ji22))).f0).length c239_0,.int .i64 ((rd_T45 l0_4 (rd x4_1 (ji22))).f1),.int .i64 ((rd_T45 l0_4 (rd x4_1 (ji22))).f2),.slice A239_3 ((rd_T45 l0_4 (rd x4_1 (ji22))).f3).length c239_3] 45 (0,0))):=⟨by (with_reducible repeat (first|refine Z0 ?_ _|refine Z3 ?_|refine Z1 ?_ _));refine Z9 (cs:=#[.slice A239_0 ((rd_T45 l0_4 (rd x4_1 (ji22))).f0).length c239_0,.int .i64 ((rd_T45 l0_4 (rd x4_1 (ji22))).f1),.int .i64 ((rd_T45 l0_4 (rd x4_1 (ji22))).f2),.slice none 0 0]) ?_ 3 _ rfl;(with_reducible repeat (first|refine Z0 ?_ _|refine Z3 ?_|refine Z1 ?_ _));refine Z9 (cs:=#[.slice A239_0 ((rd_T45 l0_4 (rd x4_1 (ji22))).f0).length c239_0,.int .i64 ((rd_T45 l0_4 (rd x4_1 (ji22))).f1),.int .i64 0,.slice none 0 0]) ?_ 2 _ rfl;(with_reducible repeat (first|refine Z0 ?_ _|refine Z3 ?_|refine Z1 ?_ _));refine Z9 (cs:=#[.slice A239_0 ((rd_T45 l0_4 (rd x4_1 (ji22))).f0).length c239_0,.int .i64 0,.int .i64 0,.slice none 0 0]) ?_ 1 _ rfl;(with_reducible repeat (first|refine Z0 ?_ _|refine Z3 ?_|refine Z1 ?_ _));refine Z9 (cs:=#[.slice none 0 0,.int .i64 0,.int .i64 0,.slice none 0 0]) ?_ 0 _ rfl;(with_reducible repeat (first|refine Z0 ?_ _|refine Z3 ?_|refine Z1 ?_ _));exact BK240.out⟩
                       have n4_ : Aside0 (Below w.heap.size w ((((w30.setCell ⟨gb240,0,none⟩ (.slice A239_0 ((rd_T45 l0_4 (rd x4_1 (ji22))).f0).length c239_0)).setCell ⟨gb240,1,none⟩ (.int .i64 ((rd_T45 l0_4 (rd x4_1 (ji22))).f1))).setCell ⟨gb240,2,none⟩ (.int .i64 ((rd_T45 l0_4 (rd x4_1 (ji22))).f2))).setCell ⟨gb240,3,none⟩ (.slice A239_3 ((rd_T45 l0_4 (rd x4_1 (ji22))).f3).length c239_3))):=⟨YH⟩
                       (try clear HO_3);(try clear HO_4);(try clear BK230);(try clear BK240);(try clear HB);generalize ((((w30.setCell ⟨gb240,0,none⟩ (.slice A239_0 ((rd_T45 l0_4 (rd x4_1 (ji22))).f0).length c239_0)).setCell ⟨gb240,1,none⟩ (.int .i64 ((rd_T45 l0_4 (rd x4_1 (ji22))).f1))).setCell ⟨gb240,2,none⟩ (.int .i64 ((rd_T45 l0_4 (rd x4_1 (ji22))).f2))).setCell ⟨gb240,3,none⟩ (.slice A239_3 ((rd_T45 l0_4 (rd x4_1 (ji22))).f3).length c239_3)) = w35 at n0_ n1_ n2_ n3_ n4_ ⊢;have HO_3:=n0_
                       have HO_4:=n1_
                       have BK230:=n2_
                       have BK240:=n3_
                       have HB:=n4_
                       clear n0_ n1_ n2_ n3_ n4_;have q36 : ((ji22) : Int) ≤ ((x4_1.length : Int) : Int):=YA
                       obtain ⟨i036,hi036,_,hsz36,_⟩:=info_parts info3
                       have hcut36:=cut_to (P:=Try.prog) 26 3 .i64 Try.underlying26 hi036 (some ad238) x4_1.length co28 (ji22) YA q36 (Kd.R_reads' HO_4.out).2.1
                       have hr36:=Kd.R_take (m:=((ji22) : Int).toNat) HO_4.out (by omega)
                       have hy36 : y241.length = ((ji22) : Int).toNat:=(by rw [Ny241.out,List.length_take];omega)
                       rw [← Ny241.out] at hr36;rw [← hy36] at hr36 hcut36;clear hy36 hi036 hsz36 HO_4;have HO243:=Aside0.mk hr36
                       clear hr36;replace q36:=eq_true q36
                       have hnb37:=NB240_230.out
                       have hnc37:=NB230_240.out
                       have hcz38_3 : w35.cell? ⟨gb240,3,none⟩ = some (.slice A239_3 ((rd_T45 l0_4 (rd x4_1 (ji22))).f3).length c239_3):=(Z5 BK240.out 3).trans rfl
                       try go_wp2
                       go_loopg [4,40] k1 (fun kq v4 v40 w' => ∃ (x3_2 : List Bool) (x4_2 : List Int) (x40_2 : Int),v40 = .int .i64 x40_2 ∧ Aside0 (ir_Reached.l1 kq x3_2 x4_2 ((rd_T45 l0_4 (rd x4_1 (ji22))).f3) (((rd_T45 l0_4 (rd x4_1 (ji22))).f3).length : Int) x40_2 a0_0 a0_1 a0_2 a0_3 l0_4 = some r) ∧ Aside0 (kq ≤ k1) ∧ Aside0 (Kd.R Kd.bool 4 w' w.heap.size (fun _ => True) (.slice (some ⟨go11,0,none⟩) x3_1.length co16) x3_2) ∧ Aside0 (Kd.R (Kd.int .i64) 3 w' w.heap.size (fun _ => True) v4 x4_2) ∧ Aside0 (w'.heap[gb230]? = some (.cells #[.string a0_0,.int .i64 a0_1,.int .i64 a0_2,.int .i64 a0_3,(.slice (some ad239) l0_4.length c0_4)] 24 (0,0))) ∧ Aside0 (w'.heap[gb240]? = some (.cells #[(.slice A239_0 ((rd_T45 l0_4 (rd x4_1 (ji22))).f0).length c239_0),.int .i64 ((rd_T45 l0_4 (rd x4_1 (ji22))).f1),.int .i64 ((rd_T45 l0_4 (rd x4_1 (ji22))).f2),(.slice A239_3 ((rd_T45 l0_4 (rd x4_1 (ji22))).f3).length c239_3)] 45 (0,0))) ∧ Aside0 (Below w.heap.size w w'))
                       case atStart => exact ⟨(x3_1),(y241),(0),(by first|rfl|(simp;done)|(simp [*];done)),H',⟨Nat.le_refl _⟩,⟨by (try simp only [hl3_1]);(with_reducible repeat (first|apply Kd.R_alloc|apply Kd.R_drewN|apply Kd.R_drew));exact HO_3.out⟩,⟨by (try simp only [hl3_1]);(with_reducible repeat (first|apply Kd.R_alloc|apply Kd.R_drewN|apply Kd.R_drew));exact HO243.out⟩,⟨by (try simp only [hl3_1]);(with_reducible repeat (first|refine Z0 ?_ _|refine Z3 ?_|refine Z1 ?_ _));exact BK230.out⟩,⟨by (try simp only [hl3_1]);(with_reducible repeat (first|refine Z0 ?_ _|refine Z3 ?_|refine Z1 ?_ _));exact BK240.out⟩,⟨YH⟩⟩
                       case round =>
                        clear H';try clear c2
                        try clear c2b1
                        try clear c3
                        try clear c3b1
                        try clear c4
                        try clear c4b0
                        try clear c10
                        try clear c10b0
                        try clear p11
                        try clear q11
                        try clear qi11
                        try clear c21
                        try clear c21b1
                        try clear c23
                        try clear c23b0
                        try clear c24
                        try clear c24b0
                        try clear c25
                        try clear c25b0
                        try clear c26
                        try clear c26b0
                        try clear c27
                        try clear c27b1
                        try clear q36
                        try clear hcz13_4
                        try clear hcz38_3
                        try clear hx11_0
                        try clear hx238_0
                        try clear hx239_0
                        try clear hx239_1
                        try clear hx239_2
                        try clear hx239_3
                        try clear p11
                        try clear p238
                        try clear p239
                        try clear q11
                        try clear q238
                        try clear q239
                        try clear q36
                        obtain ⟨x3_2,x4_2,x40_2,rfl,HA,HK2,HO_3,HO_4,BK230,BK240,HB⟩:=hrel
                        have hl3_2:=(Kd.R_reads' HO_3.out).1
                        rw [hl3_2] at HO_3;(try simp only [hl3_2]);(try simp only [hl3_2] at BK230);(try simp only [hl3_2] at BK240);(try simp only [hl3_2] at HO_4);cases gk with
                        | zero => exact absurd HA.out (by simp [ir_Reached.l1])
                        | succ k2 =>
                         have H:=HA.out
                         clear HA;simp only [ir_Reached.l1] at H;by_cases c39 : x40_2 < (((rd_T45 l0_4 (rd x4_1 (ji22))).f3).length : Int)
                         · rw [if_pos c39] at H;have c39b0 : decide (x40_2 < (((rd_T45 l0_4 (rd x4_1 (ji22))).f3).length : Int)) = true:=decide_eq_true c39
                           clear c39;by_cases c40 : 0 ≤ x40_2
                           · rw [if_pos c40] at H;have c40b0 : decide (0 ≤ x40_2) = true:=decide_eq_true c40
                             clear c40;by_cases c41 : x40_2 < (((rd_T45 l0_4 (rd x4_1 (ji22))).f3).length : Int)
                             · rw [if_pos c41] at H;have c41b0 : decide (x40_2 < (((rd_T45 l0_4 (rd x4_1 (ji22))).f3).length : Int)) = true:=decide_eq_true c41
                               clear c41;replace H:=Option.bind_eq_some_iff.mp H
                               obtain ⟨t245,A420,H⟩:=H
                               replace H : (if t245 = true then (if 0 ≤ (rd ((rd_T45 l0_4 (rd x4_1 (ji22))).f3) x40_2) then (if (rd ((rd_T45 l0_4 (rd x4_1 (ji22))).f3) x40_2) < (x3_2.length : Int) then (if (rdOf false x3_2 (rd ((rd_T45 l0_4 (rd x4_1 (ji22))).f3) x40_2) = true) then (ir_Reached.l1 k2 x3_2 x4_2 ((rd_T45 l0_4 (rd x4_1 (ji22))).f3) (((rd_T45 l0_4 (rd x4_1 (ji22))).f3).length : Int) (wrap64 (x40_2 + 1)) a0_0 a0_1 a0_2 a0_3 l0_4) else (if x4_2.length < 17592186044416 then (ir_Reached.l1 k2 (x3_2.set ((rd ((rd_T45 l0_4 (rd x4_1 (ji22))).f3) x40_2) : Int).toNat true) (x4_2 ++ [rd ((rd_T45 l0_4 (rd x4_1 (ji22))).f3) x40_2]) ((rd_T45 l0_4 (rd x4_1 (ji22))).f3) (((rd_T45 l0_4 (rd x4_1 (ji22))).f3).length : Int) (wrap64 (x40_2 + 1)) a0_0 a0_1 a0_2 a0_3 l0_4) else (none))) else (none)) else (none)) else (ir_Reached.l1 k2 x3_2 x4_2 ((rd_T45 l0_4 (rd x4_1 (ji22))).f3) (((rd_T45 l0_4 (rd x4_1 (ji22))).f3).length : Int) (wrap64 (x40_2 + 1)) a0_0 a0_1 a0_2 a0_3 l0_4)) = some r:=H
                               have A42:=Aside0.mk A420
                               clear A420;by_cases c43 : t245 = true
                               · subst c43;have H1 : (if 0 ≤ (rd ((rd_T45 l0_4 (rd x4_1 (ji22))).f3) x40_2) then (if (rd ((rd_T45 l0_4 (rd x4_1 (ji22))).f3) x40_2) < (x3_2.length : Int) then (if (rdOf false x3_2 (rd ((rd_T45 l0_4 (rd x4_1 (ji22))).f3) x40_2) = true) then (ir_Reached.l1 k2 x3_2 x4_2 ((rd_T45 l0_4 (rd x4_1 (ji22))).f3) (((rd_T45 l0_4 (rd x4_1 (ji22))).f3).length : Int) (wrap64 (x40_2 + 1)) a0_0 a0_1 a0_2 a0_3 l0_4) else (if x4_2.length < 17592186044416 then (ir_Reached.l1 k2 (x3_2.set ((rd ((rd_T45 l0_4 (rd x4_1 (ji22))).f3) x40_2) : Int).toNat true) (x4_2 ++ [rd ((rd_T45 l0_4 (rd x4_1 (ji22))).f3) x40_2]) ((rd_T45 l0_4 (rd x4_1 (ji22))).f3) (((rd_T45 l0_4 (rd x4_1 (ji22))).f3).length : Int) (wrap64 (x40_2 + 1)) a0_0 a0_1 a0_2 a0_3 l0_4) else (none))) else (none)) else (none)) = some r:=by rw [if_pos rfl] at H;exact H
                                 clear H;have H:=H1
                                 clear H1;by_cases c44 : 0 ≤ (rd ((rd_T45 l0_4 (rd x4_1 (ji22))).f3) x40_2)
                                 · rw [if_pos c44] at H;have c44b0 : decide (0 ≤ (rd ((rd_T45 l0_4 (rd x4_1 (ji22))).f3) x40_2)) = true:=decide_eq_true c44
                                   clear c44;by_cases c45 : (rd ((rd_T45 l0_4 (rd x4_1 (ji22))).f3) x40_2) < (x3_2.length : Int)
                                   · rw [if_pos c45] at H;have c45b0 : decide ((rd ((rd_T45 l0_4 (rd x4_1 (ji22))).f3) x40_2) < (x3_2.length : Int)) = true:=decide_eq_true c45
                                     clear c45;obtain ⟨bq46,hbq46⟩ : ∃ b_ : Bool,b_ = (rdOf false x3_2 (rd ((rd_T45 l0_4 (rd x4_1 (ji22))).f3) x40_2)):=⟨_,rfl⟩
                                     replace H : (if (bq46 = true) then (ir_Reached.l1 k2 x3_2 x4_2 ((rd_T45 l0_4 (rd x4_1 (ji22))).f3) (((rd_T45 l0_4 (rd x4_1 (ji22))).f3).length : Int) (wrap64 (x40_2 + 1)) a0_0 a0_1 a0_2 a0_3 l0_4) else (if x4_2.length < 17592186044416 then (ir_Reached.l1 k2 (x3_2.set ((rd ((rd_T45 l0_4 (rd x4_1 (ji22))).f3) x40_2) : Int).toNat true) (x4_2 ++ [rd ((rd_T45 l0_4 (rd x4_1 (ji22))).f3) x40_2]) ((rd_T45 l0_4 (rd x4_1 (ji22))).f3) (((rd_T45 l0_4 (rd x4_1 (ji22))).f3).length : Int) (wrap64 (x40_2 + 1)) a0_0 a0_1 a0_2 a0_3 l0_4) else (none))) = some r:=by rw [← hbq46] at H;exact H
                                     have Nbq46:=Aside0.mk hbq46
                                     clear hbq46;by_cases c47 : (bq46 = true)
                                     · subst c47;have H1 : (ir_Reached.l1 k2 x3_2 x4_2 ((rd_T45 l0_4 (rd x4_1 (ji22))).f3) (((rd_T45 l0_4 (rd x4_1 (ji22))).f3).length : Int) (wrap64 (x40_2 + 1)) a0_0 a0_1 a0_2 a0_3 l0_4) = some r:=by rw [if_pos rfl] at H;exact H
                                       clear H;have H:=H1
                                       clear H1;have H' := Aside0.mk H
                                       clear H;have p244 : 0 ≤ (x40_2 : Int):=YA
                                       have q244 : x40_2 < (((rd_T45 l0_4 (rd x4_1 (ji22))).f3).length : Int):=YA
                                       obtain ⟨ad244,e244,hx244_0⟩:=Kd.at_int HR239_3.out x40_2 p244 q244
                                       cases e244;replace hx244_0:=(HB.out.cell (World.block_lt_of_cell? w _ hx244_0)).trans hx244_0
                                       replace p244:=eq_true p244
                                       replace q244:=eq_true q244
                                       go_wp2_with (first|((with_reducible refine Z14 (f:=36) rfl ?_);refine goesL_ (some 48) rfl rfl Try.func36 (by kernel_rfl) rfl #[.int .i64 (rd ((rd_T45 l0_4 (rd x4_1 (ji22))).f3) x40_2),.int .i64 0,.int .i64 (wrap64 ((x3_2.length : Int) - 1))] rfl (by (try simp only [List.map_toArray,List.map_cons,List.map_nil]);first|done|(simp only [hji22];rfl)|rfl|(simp only [List.length_drop,List.length_take];rfl)) ?_;(with_reducible refine (ir_within.calls (rd ((rd_T45 l0_4 (rd x4_1 (ji22))).f3) x40_2) 0 (wrap64 ((x3_2.length : Int) - 1)) true _ A42.out).mono ?_);rintro e w' ⟨rfl,⟨nd,rfl⟩⟩;refine ⟨_,rfl,?_⟩;have p246 : 0 ≤ ((rd ((rd_T45 l0_4 (rd x4_1 (ji22))).f3) x40_2) : Int):=YA;have q246 : (rd ((rd_T45 l0_4 (rd x4_1 (ji22))).f3) x40_2) < (x3_2.length : Int):=YA;obtain ⟨ad246,e246,hx246_0⟩:=Kd.at_bool (Kd.R_reads' HO_3.out).2.2 (rd ((rd_T45 l0_4 (rd x4_1 (ji22))).f3) x40_2) p246 q246;(try rw [← Nbq46.out] at hx246_0);obtain rfl : (⟨go11,0,none⟩ : Addr) = ad246:=(by injection e246);(first|simp only [add_plain] at hx246_0|simp only [add_at] at hx246_0|simp only [Addr.add,Nat.zero_add] at hx246_0|skip);replace p246:=eq_true p246;replace q246:=eq_true q246))
                                       (try simp only [← hl3_2]);go_roundg k2
                                       case measure => have:=HK1.out;have:=HK2.out;omega
                                       case rel => exact ⟨(x3_2),(x4_2),(wrap64 (x40_2 + 1)),(by first|rfl|(simp;done)|(simp [*];done)),H',⟨by have:=HK1.out;have:=HK2.out;omega⟩,⟨by (try simp only [hl3_1]);(try simp only [hl3_2]);(with_reducible repeat (first|apply Kd.R_alloc|apply Kd.R_drewN|apply Kd.R_drew));exact HO_3.out⟩,⟨by (try simp only [hl3_1]);(try simp only [hl3_2]);(with_reducible repeat (first|apply Kd.R_alloc|apply Kd.R_drewN|apply Kd.R_drew));exact HO_4.out⟩,⟨by (try simp only [hl3_1]);(try simp only [hl3_2]);(with_reducible repeat (first|refine Z0 ?_ _|refine Z3 ?_|refine Z1 ?_ _));exact BK230.out⟩,⟨by (try simp only [hl3_1]);(try simp only [hl3_2]);(with_reducible repeat (first|refine Z0 ?_ _|refine Z3 ?_|refine Z1 ?_ _));exact BK240.out⟩,⟨YH⟩⟩
                                     · replace c47:=Bool.eq_false_iff.mpr c47
                                       subst c47;have H1 : (if x4_2.length < 17592186044416 then (ir_Reached.l1 k2 (x3_2.set ((rd ((rd_T45 l0_4 (rd x4_1 (ji22))).f3) x40_2) : Int).toNat true) (x4_2 ++ [rd ((rd_T45 l0_4 (rd x4_1 (ji22))).f3) x40_2]) ((rd_T45 l0_4 (rd x4_1 (ji22))).f3) (((rd_T45 l0_4 (rd x4_1 (ji22))).f3).length : Int) (wrap64 (x40_2 + 1)) a0_0 a0_1 a0_2 a0_3 l0_4) else (none)) = some r:=by rw [if_neg (show ¬ (false = true) by decide)] at H;exact H
                                       clear H;have H:=H1
                                       clear H1;obtain ⟨y247,hy247⟩ : ∃ y_ : List Bool,y_ = (x3_2.set ((rd ((rd_T45 l0_4 (rd x4_1 (ji22))).f3) x40_2) : Int).toNat true):=⟨_,rfl⟩
                                       replace H : (if x4_2.length < 17592186044416 then (ir_Reached.l1 k2 y247 (x4_2 ++ [rd ((rd_T45 l0_4 (rd x4_1 (ji22))).f3) x40_2]) ((rd_T45 l0_4 (rd x4_1 (ji22))).f3) (((rd_T45 l0_4 (rd x4_1 (ji22))).f3).length : Int) (wrap64 (x40_2 + 1)) a0_0 a0_1 a0_2 a0_3 l0_4) else (none)) = some r:=by first|(rw [hy247];with_reducible exact H)|(have H2_:=(Option.bind_some _ _).symm.trans H;rw [hy247];with_reducible exact H2_)|(have H2_:=(Option.bind_some _ _).symm.trans H;with_reducible exact H2_)|with_reducible exact H|(rw [hy247];exact H)|exact H
                                       have Ny247:=Aside0.mk hy247
                                       clear hy247;by_cases c49 : x4_2.length < 17592186044416
                                       · rw [if_pos c49] at H;have LMc49:=Aside0.mk c49
                                         clear c49;obtain ⟨y248,hy248⟩ : ∃ y_ : List Int,y_ = (x4_2 ++ [rd ((rd_T45 l0_4 (rd x4_1 (ji22))).f3) x40_2]):=⟨_,rfl⟩
                                         replace H : (ir_Reached.l1 k2 y247 y248 ((rd_T45 l0_4 (rd x4_1 (ji22))).f3) (((rd_T45 l0_4 (rd x4_1 (ji22))).f3).length : Int) (wrap64 (x40_2 + 1)) a0_0 a0_1 a0_2 a0_3 l0_4) = some r:=by first|(rw [hy248];with_reducible exact H)|(have H2_:=(Option.bind_some _ _).symm.trans H;rw [hy248];with_reducible exact H2_)|(have H2_:=(Option.bind_some _ _).symm.trans H;with_reducible exact H2_)|with_reducible exact H|(rw [hy248];exact H)|exact H
                                         have Ny248:=Aside0.mk hy248
                                         clear hy248;have H' := Aside0.mk H
                                         clear H;have p244 : 0 ≤ (x40_2 : Int):=YA
                                         have q244 : x40_2 < (((rd_T45 l0_4 (rd x4_1 (ji22))).f3).length : Int):=YA
                                         obtain ⟨ad244,e244,hx244_0⟩:=Kd.at_int HR239_3.out x40_2 p244 q244
                                         cases e244;replace hx244_0:=(HB.out.cell (World.block_lt_of_cell? w _ hx244_0)).trans hx244_0
                                         replace p244:=eq_true p244
                                         replace q244:=eq_true q244
                                         go_wp2_with (first|((with_reducible refine Z14 (f:=36) rfl ?_);refine goesL_ (some 48) rfl rfl Try.func36 (by kernel_rfl) rfl #[.int .i64 (rd ((rd_T45 l0_4 (rd x4_1 (ji22))).f3) x40_2),.int .i64 0,.int .i64 (wrap64 ((x3_2.length : Int) - 1))] rfl (by (try simp only [List.map_toArray,List.map_cons,List.map_nil]);first|done|(simp only [hji22];rfl)|rfl|(simp only [List.length_drop,List.length_take];rfl)) ?_;(with_reducible refine (ir_within.calls (rd ((rd_T45 l0_4 (rd x4_1 (ji22))).f3) x40_2) 0 (wrap64 ((x3_2.length : Int) - 1)) true _ A42.out).mono ?_);rintro e w' ⟨rfl,⟨nd,rfl⟩⟩;refine ⟨_,rfl,?_⟩;(try (rw [Z43 wr];generalize hq_ : World.drewN wr _ = wr;have n0_ : Aside0 (Kd.R Kd.bool 4 wr w.heap.size (fun _ => True) (.slice (some ⟨go11,0,none⟩) x3_2.length co16) x3_2):=⟨by rw [← hq_];exact (YR HO_3)⟩;have n1_ : Aside0 (Kd.R (Kd.int .i64) 3 wr w.heap.size (fun _ => True) u4 x4_2):=⟨by rw [← hq_];exact (YR HO_4)⟩;have n2_ : Aside0 (wr.heap[gb230]? = some (.cells #[.string a0_0,.int .i64 a0_1,.int .i64 a0_2,.int .i64 a0_3,.slice (some ad239) l0_4.length c0_4] 24 (0,0))):=⟨by rw [← hq_];exact (YK BK230)⟩;have n3_ : Aside0 (wr.heap[gb240]? = some (.cells #[.slice A239_0 ((rd_T45 l0_4 (rd x4_1 (ji22))).f0).length c239_0,.int .i64 ((rd_T45 l0_4 (rd x4_1 (ji22))).f1),.int .i64 ((rd_T45 l0_4 (rd x4_1 (ji22))).f2),.slice (some ad244) ((rd_T45 l0_4 (rd x4_1 (ji22))).f3).length c239_3] 45 (0,0))):=⟨by rw [← hq_];exact (YK BK240)⟩;have n4_ : Aside0 (Below w.heap.size w wr):=⟨by rw [← hq_];exact YH⟩;clear HO_3 HO_4 BK230 BK240 HB hq_;have HO_3:=n0_;have HO_4:=n1_;have BK230:=n2_;have BK240:=n3_;have HB:=n4_;clear n0_ n1_ n2_ n3_ n4_));have p246 : 0 ≤ ((rd ((rd_T45 l0_4 (rd x4_1 (ji22))).f3) x40_2) : Int):=YA;have q246 : (rd ((rd_T45 l0_4 (rd x4_1 (ji22))).f3) x40_2) < (x3_2.length : Int):=YA;obtain ⟨ad246,e246,hx246_0⟩:=Kd.at_bool (Kd.R_reads' HO_3.out).2.2 (rd ((rd_T45 l0_4 (rd x4_1 (ji22))).f3) x40_2) p246 q246;(try rw [← Nbq46.out] at hx246_0);obtain rfl : (⟨go11,0,none⟩ : Addr) = ad246:=(by injection e246);(first|simp only [add_plain] at hx246_0|simp only [add_at] at hx246_0|simp only [Addr.add,Nat.zero_add] at hx246_0|skip);replace p246:=eq_true p246;replace q246:=eq_true q246;have p48 : 0 ≤ ((rd ((rd_T45 l0_4 (rd x4_1 (ji22))).f3) x40_2) : Int):=YA;have q48 : ((rd ((rd_T45 l0_4 (rd x4_1 (ji22))).f3) x40_2) : Int) < ((x3_2.length : Int) : Int):=YA;obtain ⟨hx48_0,hf48_0⟩:=Kd.R_celln false HO_3.out ((rd ((rd_T45 l0_4 (rd x4_1 (ji22))).f3) x40_2) : Int) p48 q48;replace p48:=eq_true p48;replace q48:=eq_true q48;obtain ⟨hy50_,hz50_⟩:=Kd.R_celln false HO_3.out ((rd ((rd_T45 l0_4 (rd x4_1 (ji22))).f3) x40_2) : Int) YA YA;have HP50:=Kd.R_putg HO_3.out ((rd ((rd_T45 l0_4 (rd x4_1 (ji22))).f3) x40_2) : Int) true)|((with_reducible refine gate_store (t:=4) (p:=58) rfl ?_);refine store_event (t:=4) (p:=58) (v:=?vo_w51) (w1:=(wr.setCell ⟨go11,((rd ((rd_T45 l0_4 (rd x4_1 (ji22))).f3) x40_2) : Int).toNat,none⟩ (.bool true))) ?hg ?ho ?hn ?hr ?_;(case ho => rfl);(case hg => rfl);(case hn => rfl);(case hr => first|(go_simp;done)|(go_simp;rfl));intro w51 hw;have hg : wr.grownBy w51 (some go11):=(by rw [hw];exact HP50.2);have hp_ : Kd.R Kd.bool 4 w51 w.heap.size (fun _ => True) (.slice (some ⟨go11,0,none⟩) x3_2.length co16) y247:=(by rw [hw,Ny247.out];exact HP50.1);clear HP50;have n0_:=Aside0.mk (hp_);have n1_:=Aside0.mk (Kd.R_over' (v:=(.slice (some ⟨go11,0,none⟩) x3_2.length co16)) (YR HO_4) (Kd.R_typed HO_3.out) (by decide) hg);have n2_:=Aside0.mk (Z89 (YK BK230) hg (Kd.R_ne HO_3.out BK230.out (by decide)));have n3_:=Aside0.mk (Z89 (YK BK240) hg (Kd.R_ne HO_3.out BK240.out (by decide)));have n4_:=Aside0.mk ((by rw [hw];exact Z8 (HB.out) GB11.out : Below w.heap.size w w51));clear HO_3;clear HO_4;clear BK230;clear BK240;clear HB;have HO_3:=n0_;have HO_4:=n1_;have BK230:=n2_;have BK240:=n3_;have HB:=n4_;clear n0_ n1_ n2_ n3_ n4_;clear hg hw hp_)|((with_reducible refine Z69 (b:=.append) (xs:=#[.tmp 59,.tmp 61]) rfl ?_);at_builtin;refine Kd.R_append (Kd.int .i64) (w0:=w) w.heap.size rfl (.tmp 59) (.tmp 61) 26 3 (.int .i64 0) 8 rfl Try.underlying26 info3 rfl (by decide) (by omega) u4 x4_2 (rd ((rd_T45 l0_4 (rd x4_1 (ji22))).f3) x40_2) [.int .i64 (rd ((rd_T45 l0_4 (rd x4_1 (ji22))).f3) x40_2)] (fun _ => True) (fun _ => False) rfl rfl ?aP (fun _ hk => hk.elim) ?aF ?aO ?aB ?aS ?aL ?_;(case aP => exact rfl);(case aB => exact YH);(case aF => exact (fun _ _ => trivial));(case aO => exact (YR HO_4));(case aS => exact (Z27 YH));(case aL => have:=LMc49.out;omega);intro v249 w52 ho hb hg hat;rw [← Ny248.out] at ho;have n0_:=Aside0.mk (Kd.R_over' (YR HO_3) (Kd.R_typed (YR HO_4)) (by decide) hg);have n1_:=Aside0.mk (Z89 (YK BK230) hg (Kd.R_ne HO_4.out BK230.out (by decide)));have n2_:=Aside0.mk (Z89 (YK BK240) hg (Kd.R_ne HO_4.out BK240.out (by decide)));have n3_:=Aside0.mk (hb);have n4_:=Aside0.mk (ho);clear HO_3;clear BK230;clear BK240;clear HB;clear HO_4;have HO_3:=n0_;have BK230:=n1_;have BK240:=n2_;have HB:=n3_;have HO250:=n4_;clear n0_ n1_ n2_ n3_ n4_;clear ho hb hg hat))
                                         (try simp only [← hl3_2]);go_roundg k2
                                         case measure => have:=HK1.out;have:=HK2.out;omega
                                         case rel => exact ⟨(y247),(y248),(wrap64 (x40_2 + 1)),(by first|rfl|(simp;done)|(simp [*];done)),H',⟨by have:=HK1.out;have:=HK2.out;omega⟩,⟨by (try simp only [hl3_1]);(try simp only [hl3_2]);(with_reducible repeat (first|apply Kd.R_alloc|apply Kd.R_drewN|apply Kd.R_drew));exact HO_3.out⟩,⟨by (try simp only [hl3_1]);(try simp only [hl3_2]);(with_reducible repeat (first|apply Kd.R_alloc|apply Kd.R_drewN|apply Kd.R_drew));exact HO250.out⟩,⟨by (try simp only [hl3_1]);(try simp only [hl3_2]);(with_reducible repeat (first|refine Z0 ?_ _|refine Z3 ?_|refine Z1 ?_ _));exact BK230.out⟩,⟨by (try simp only [hl3_1]);(try simp only [hl3_2]);(with_reducible repeat (first|refine Z0 ?_ _|refine Z3 ?_|refine Z1 ?_ _));exact BK240.out⟩,⟨YH⟩⟩
                                       · rw [if_neg c49] at H;exact absurd H (by simp)
                                   · rw [if_neg c45] at H;exact absurd H (by simp)
                                 · rw [if_neg c44] at H;exact absurd H (by simp)
                               · replace c43:=Bool.eq_false_iff.mpr c43
                                 subst c43;have H1 : (ir_Reached.l1 k2 x3_2 x4_2 ((rd_T45 l0_4 (rd x4_1 (ji22))).f3) (((rd_T45 l0_4 (rd x4_1 (ji22))).f3).length : Int) (wrap64 (x40_2 + 1)) a0_0 a0_1 a0_2 a0_3 l0_4) = some r:=by rw [if_neg (show ¬ (false = true) by decide)] at H;exact H
                                 clear H;have H:=H1
                                 clear H1;have H' := Aside0.mk H
                                 clear H;have p244 : 0 ≤ (x40_2 : Int):=YA
                                 have q244 : x40_2 < (((rd_T45 l0_4 (rd x4_1 (ji22))).f3).length : Int):=YA
                                 obtain ⟨ad244,e244,hx244_0⟩:=Kd.at_int HR239_3.out x40_2 p244 q244
                                 cases e244;replace hx244_0:=(HB.out.cell (World.block_lt_of_cell? w _ hx244_0)).trans hx244_0
                                 replace p244:=eq_true p244
                                 replace q244:=eq_true q244
                                 go_wp2_with (first|((with_reducible refine Z14 (f:=36) rfl ?_);refine goesL_ (some 48) rfl rfl Try.func36 (by kernel_rfl) rfl #[.int .i64 (rd ((rd_T45 l0_4 (rd x4_1 (ji22))).f3) x40_2),.int .i64 0,.int .i64 (wrap64 ((x3_2.length : Int) - 1))] rfl (by (try simp only [List.map_toArray,List.map_cons,List.map_nil]);first|done|(simp only [hji22];rfl)|rfl|(simp only [List.length_drop,List.length_take];rfl)) ?_;(with_reducible refine (ir_within.calls (rd ((rd_T45 l0_4 (rd x4_1 (ji22))).f3) x40_2) 0 (wrap64 ((x3_2.length : Int) - 1)) false _ A42.out).mono ?_);rintro e w' ⟨rfl,⟨nd,rfl⟩⟩;refine ⟨_,rfl,?_⟩))
                                 (try simp only [← hl3_2]);go_roundg k2
                                 case measure => have:=HK1.out;have:=HK2.out;omega
                                 case rel => exact ⟨(x3_2),(x4_2),(wrap64 (x40_2 + 1)),(by first|rfl|(simp;done)|(simp [*];done)),H',⟨by have:=HK1.out;have:=HK2.out;omega⟩,⟨by (try simp only [hl3_1]);(try simp only [hl3_2]);(with_reducible repeat (first|apply Kd.R_alloc|apply Kd.R_drewN|apply Kd.R_drew));exact HO_3.out⟩,⟨by (try simp only [hl3_1]);(try simp only [hl3_2]);(with_reducible repeat (first|apply Kd.R_alloc|apply Kd.R_drewN|apply Kd.R_drew));exact HO_4.out⟩,⟨by (try simp only [hl3_1]);(try simp only [hl3_2]);(with_reducible repeat (first|refine Z0 ?_ _|refine Z3 ?_|refine Z1 ?_ _));exact BK230.out⟩,⟨by (try simp only [hl3_1]);(try simp only [hl3_2]);(with_reducible repeat (first|refine Z0 ?_ _|refine Z3 ?_|refine Z1 ?_ _));exact BK240.out⟩,⟨YH⟩⟩
                             · rw [if_neg c41] at H;exact absurd H (by simp)
                           · rw [if_neg c40] at H;exact absurd H (by simp)
                         · rw [if_neg c39] at H;have c39b0 : decide (x40_2 < (((rd_T45 l0_4 (rd x4_1 (ji22))).f3).length : Int)) = false:=decide_eq_false c39
                           clear c39;have H' := Aside0.mk H
                           clear H;go_wp2
                           (try simp only [← hl3_1,← hl3_2]);go_roundg k2
                           case measure => have:=HK1.out;have:=HK2.out;omega
                           case rel => exact ⟨(x3_2),(x4_2),H',⟨by have:=HK1.out;have:=HK2.out;omega⟩,⟨by (try simp only [hl3_1]);(try simp only [hl3_2]);(with_reducible repeat (first|apply Kd.R_alloc|apply Kd.R_drewN|apply Kd.R_drew));exact HO_3.out⟩,⟨by (try simp only [hl3_1]);(try simp only [hl3_2]);(with_reducible repeat (first|apply Kd.R_alloc|apply Kd.R_drewN|apply Kd.R_drew));exact HO_4.out⟩,⟨by (try simp only [hl3_1]);(try simp only [hl3_2]);(with_reducible repeat (first|refine Z0 ?_ _|refine Z3 ?_|refine Z1 ?_ _));exact BK230.out⟩,⟨YH⟩⟩
                     · rw [if_neg c27] at H;exact absurd H (by simp)
                   · rw [if_neg c26] at H;exact absurd H (by simp)
                 · rw [if_neg c25] at H;exact absurd H (by simp)
               · rw [if_neg c24] at H;exact absurd H (by simp)
             · rw [if_neg c23] at H;exact absurd H (by simp)
           · rw [if_neg c21] at H;have c21b1 : decide (0 < x4_1.length) = false:=decide_eq_false (by omega)
             clear c21;obtain rfl:=Option.some.inj H
             obtain ⟨Ao53,co53,eo53⟩:=Kd.R_slice HO_4.out
             subst eo53;go_wp2
             go_ret
             exact ⟨_,by first|rfl|(simp [Z16,Z15] <;> rfl)|(simp [*,Z16,Z15] <;> rfl),by (with_reducible repeat (first|apply Kd.R_alloc|apply Kd.R_drewN|apply Kd.R_drew));exact HO_3.out,by repeat (first|(with_reducible first|exact HB.out|apply Z7|apply Z4|apply Z6|refine Z8 ?_ GE230.out)|exact HB.out)⟩
       · rw [if_neg c10] at H;exact absurd H (by simp)
   · rw [if_neg c3] at H;exact absurd H (by simp)
 · rw [if_neg c2] at H;exact absurd H (by simp)
end Go.Proofs.Ytbklmnieakefnaa.Q
namespace Go.Proofs.Ytbklmnieakefnaa.Q
open Go.RowKit Go.Proofs.YtbklmnieakefnaaW.PrintWords Go.Proofs.YtbklmnieakefnaaW.PrintLast Go.Proofs.YtbklmnieakefnaaW.PrintMore

set_option linter.unusedVariables false
set_option linter.unusedSimpArgs false
def order_above.l0 : Nat → List Int → Int → Int → Option (Bool)
 | 0,_,_,_ => none
 | k + 1,x0,x1,x2 => if x2 ≥ 0 then (if x1 = x2 then (some true) else (if 0 ≤ x2 then (if x2 < (x0.length : Int) then (order_above.l0 k x0 x1 (rd x0 x2)) else (none)) else (none))) else (some false)
def order_above.f (k : Nat) (l0 : List Int) (a1 : Int) (a2 : Int) : Option (Bool):=order_above.l0 k l0 a1 a2
set_option maxHeartbeats 8000000 in
set_option maxRecDepth 100000 in
theorem order_above.calls (k : Nat) (A0 : Option Addr) (c0 : Nat) (l0 : List Int) (a1 : Int) (a2 : Int) (r : Bool) (w : World) (hr0 : Kd.C (Kd.int .i64) w A0 l0.length l0) (hc0 : l0.length ≤ c0) (h : order_above.f k l0 a1 a2 = some r) :
 Calls Try.prog 32 #[.slice A0 l0.length c0,.int .i64 a1,.int .i64 a2] w fun e w' => e = .returned (.bool r) ∧ Drawn0 w w' := by
 have HR0:=Aside0.mk hr0
 clear hr0 hc0;have H : (order_above.l0 k l0 a1 a2) = some r:=h
 clear h;have H' := Aside0.mk H
 clear H;go_enter Try.func32,Try.ntmps32
 go_wp2
 go_loopg [2] k (fun kq v2 w' => ∃ (x2_1 : Int),v2 = .int .i64 x2_1 ∧ Aside0 (order_above.l0 kq l0 a1 x2_1 = some r) ∧ Aside0 (kq ≤ k) ∧ Drawn0 w w')
 case atStart => exact ⟨(a2),(by first|rfl|(simp;done)|(simp [*];done)),H',⟨Nat.le_refl _⟩,by repeat (first|exact Drawn0.refl _|apply Drawn0.step)⟩
 case round =>
  clear H';obtain ⟨x2_1,rfl,HA,HK1,⟨m1,rfl⟩⟩:=hrel
  cases gk with
  | zero => exact absurd HA.out (by simp [order_above.l0])
  | succ k1 =>
   have H:=HA.out
   clear HA;simp only [order_above.l0] at H;by_cases c4 : x2_1 ≥ 0
   · rw [if_pos c4] at H;have c4b0 : decide (0 ≤ x2_1) = true:=decide_eq_true c4
     clear c4;by_cases c5 : a1 = x2_1
     · rw [if_pos c5] at H;have c5b0 : (a1 == x2_1) = true:=beq_iff_eq.mpr c5
       clear c5;obtain rfl:=Option.some.inj H
       go_wp2
       go_ret
       exact ⟨by first|rfl|(simp;done)|(simp [*];done),by repeat (first|exact Drawn0.refl _|apply Drawn0.step)⟩
     · rw [if_neg c5] at H;have c5b0 : (a1 == x2_1) = false:=beq_eq_false_iff_ne.mpr c5
       by_cases c6 : 0 ≤ x2_1
       · rw [if_pos c6] at H;have c6b0 : decide (0 ≤ x2_1) = true:=decide_eq_true c6
         clear c6;by_cases c7 : x2_1 < (l0.length : Int)
         · rw [if_pos c7] at H;have c7b0 : decide (x2_1 < (l0.length : Int)) = true:=decide_eq_true c7
           clear c7;have H' := Aside0.mk H
           clear H;have p251 : 0 ≤ (x2_1 : Int):=YA
           have q251 : x2_1 < (l0.length : Int):=YA
           obtain ⟨ad251,e251,hx251_0⟩:=Kd.at_int HR0.out x2_1 p251 q251
           cases e251;replace p251:=eq_true p251
           replace q251:=eq_true q251
           go_wp2
           go_roundg k1
           case measure => have:=HK1.out;omega
           case rel => exact ⟨(rd l0 x2_1),(by first|rfl|(simp;done)|(simp [*];done)),H',⟨by have:=HK1.out;omega⟩,by repeat (first|exact Drawn0.refl _|apply Drawn0.step)⟩
         · rw [if_neg c7] at H;exact absurd H (by simp)
       · rw [if_neg c6] at H;exact absurd H (by simp)
   · rw [if_neg c4] at H;have c4b0 : decide (0 ≤ x2_1) = false:=decide_eq_false c4
     clear c4;obtain rfl:=Option.some.inj H
     go_wp2
     go_ret
     exact ⟨by first|rfl|(simp;done)|(simp [*];done),by repeat (first|exact Drawn0.refl _|apply Drawn0.step)⟩
end Go.Proofs.Ytbklmnieakefnaa.Q
namespace Go.Proofs.Ytbklmnieakefnaa.Q
open Go.RowKit Go.Proofs.YtbklmnieakefnaaW.PrintWords Go.Proofs.YtbklmnieakefnaaW.PrintLast Go.Proofs.YtbklmnieakefnaaW.PrintMore

set_option linter.unusedVariables false
set_option linter.unusedSimpArgs false
def order_Dominates.j0 : Nat → Int → Int → Bool → ByteArray → Int → Int → Int → List (S45) → Option (Bool)
 | 0,_,_,_,_,_,_,_,_ => none
 | k + 1,x1,x2,x41,x253000,x253001,x253002,x253003,x253004 => if x41 = true then (some false) else ((order_Doms.f k x253000 x253001 x253002 x253003 x253004).bind fun t258 => ((order_above.f k t258 x1 x2).bind fun t261 => (some t261)))
def order_Dominates.f (k : Nat) (a0_0 : ByteArray) (a0_1 : Int) (a0_2 : Int) (a0_3 : Int) (l0_4 : List (S45)) (a1 : Int) (a2 : Int) : Option (Bool):=(ir_Reached.f k a0_0 a0_1 a0_2 a0_3 l0_4).bind fun t253 => (if a1 < 0 then (order_Dominates.j0 k a1 a2 true a0_0 a0_1 a0_2 a0_3 l0_4) else (if a1 ≥ (t253.length : Int) then (order_Dominates.j0 k a1 a2 true a0_0 a0_1 a0_2 a0_3 l0_4) else (if a2 < 0 then (order_Dominates.j0 k a1 a2 true a0_0 a0_1 a0_2 a0_3 l0_4) else (if a2 ≥ (t253.length : Int) then (order_Dominates.j0 k a1 a2 true a0_0 a0_1 a0_2 a0_3 l0_4) else (if 0 ≤ a1 then (if a1 < (t253.length : Int) then (if rdOf false t253 a1 = true then (if 0 ≤ a2 then (if a2 < (t253.length : Int) then (order_Dominates.j0 k a1 a2 (!(rdOf false t253 a2)) a0_0 a0_1 a0_2 a0_3 l0_4) else (none)) else (none)) else (order_Dominates.j0 k a1 a2 true a0_0 a0_1 a0_2 a0_3 l0_4)) else (none)) else (none))))))
set_option maxHeartbeats 8000000 in
set_option maxRecDepth 100000 in
theorem order_Dominates.calls (k : Nat) (a0_0 : ByteArray) (a0_1 : Int) (a0_2 : Int) (a0_3 : Int) (A0_4 : Option Addr) (c0_4 : Nat) (l0_4 : List (S45)) (a1 : Int) (a2 : Int) (r : Bool) (w : World) (hr0_4 : Kd.C k45 w A0_4 l0_4.length l0_4) (hc0_4 : l0_4.length ≤ c0_4) (h : order_Dominates.f k a0_0 a0_1 a0_2 a0_3 l0_4 a1 a2 = some r) :
 Calls Try.prog 18 #[.agg #[.string a0_0,.int .i64 a0_1,.int .i64 a0_2,.int .i64 a0_3,.slice A0_4 l0_4.length c0_4],.int .i64 a1,.int .i64 a2] w fun e w' => e = .returned (.bool r) ∧ Below w.heap.size w w' := by
 have hu24:=Try.underlying24
 have HR0_4:=Aside0.mk hr0_4
 have HC0_4:=Aside0.mk hc0_4
 clear hr0_4 hc0_4;have HB:=Aside0.mk (Below.refl w.heap.size w)
 have H : ((ir_Reached.f k a0_0 a0_1 a0_2 a0_3 l0_4).bind fun t253 => (if a1 < 0 then (order_Dominates.j0 k a1 a2 true a0_0 a0_1 a0_2 a0_3 l0_4) else (if a1 ≥ (t253.length : Int) then (order_Dominates.j0 k a1 a2 true a0_0 a0_1 a0_2 a0_3 l0_4) else (if a2 < 0 then (order_Dominates.j0 k a1 a2 true a0_0 a0_1 a0_2 a0_3 l0_4) else (if a2 ≥ (t253.length : Int) then (order_Dominates.j0 k a1 a2 true a0_0 a0_1 a0_2 a0_3 l0_4) else (if 0 ≤ a1 then (if a1 < (t253.length : Int) then (if rdOf false t253 a1 = true then (if 0 ≤ a2 then (if a2 < (t253.length : Int) then (order_Dominates.j0 k a1 a2 (!(rdOf false t253 a2)) a0_0 a0_1 a0_2 a0_3 l0_4) else (none)) else (none)) else (order_Dominates.j0 k a1 a2 true a0_0 a0_1 a0_2 a0_3 l0_4)) else (none)) else (none))))))) = some r:=h
 clear h;replace H:=Option.bind_eq_some_iff.mp H
 obtain ⟨t253,A40,H⟩:=H
 replace H : (if a1 < 0 then (order_Dominates.j0 k a1 a2 true a0_0 a0_1 a0_2 a0_3 l0_4) else (if a1 ≥ (t253.length : Int) then (order_Dominates.j0 k a1 a2 true a0_0 a0_1 a0_2 a0_3 l0_4) else (if a2 < 0 then (order_Dominates.j0 k a1 a2 true a0_0 a0_1 a0_2 a0_3 l0_4) else (if a2 ≥ (t253.length : Int) then (order_Dominates.j0 k a1 a2 true a0_0 a0_1 a0_2 a0_3 l0_4) else (if 0 ≤ a1 then (if a1 < (t253.length : Int) then (if rdOf false t253 a1 = true then (if 0 ≤ a2 then (if a2 < (t253.length : Int) then (order_Dominates.j0 k a1 a2 (!(rdOf false t253 a2)) a0_0 a0_1 a0_2 a0_3 l0_4) else (none)) else (none)) else (order_Dominates.j0 k a1 a2 true a0_0 a0_1 a0_2 a0_3 l0_4)) else (none)) else (none)))))) = some r:=H
 have A4:=Aside0.mk A40
 clear A40;have HC5:=Aside0.mk H
 clear H;go_enter Try.func18,Try.ntmps18
 go_upto_region 2 with (first|((with_reducible refine Z52 (N:=3) rfl ?_);(try (refine Z66 (by rfl) ?_;dsimp only));refine Z51 ?hg (N:=3) ?hd (cs:=#[.string a0_0,.int .i64 a0_1,.int .i64 a0_2,.int .i64 a0_3,.slice A0_4 l0_4.length c0_4]) (t:=24) ?hr ?_;(case hd => rfl);(case hg => rfl);(case hr => first|(go_simp;done)|(go_simp;rfl));intro gb252 hg w6 hbox hb;have n0_:=Aside0.mk (Z25 YH hb);have n1_:=Aside0.mk (hbox);have n2_:=Aside0.mk ((by rw [hg];exact (Z27 YH) : w.heap.size ≤ gb252));have n3_:=Aside0.mk ((by rw [hg];exact (Z27 YH) : w.heap.size ≤ gb252));clear HB;have HB:=n0_;have BK252:=n1_;have GW252:=n2_;have GE252:=n3_;clear n0_ n1_ n2_ n3_;clear hb hbox hg;have hcz7_0 : w6.cell? ⟨gb252,0,none⟩ = some (.string a0_0):=(Z5 BK252.out 0).trans rfl;have hcz7_1 : w6.cell? ⟨gb252,1,none⟩ = some (.int .i64 a0_1):=(Z5 BK252.out 1).trans rfl;have hcz7_2 : w6.cell? ⟨gb252,2,none⟩ = some (.int .i64 a0_2):=(Z5 BK252.out 2).trans rfl;have hcz7_3 : w6.cell? ⟨gb252,3,none⟩ = some (.int .i64 a0_3):=(Z5 BK252.out 3).trans rfl;have hcz7_4 : w6.cell? ⟨gb252,4,none⟩ = some (.slice A0_4 l0_4.length c0_4):=(Z5 BK252.out 4).trans rfl)|((with_reducible refine Z14 (f:=31) rfl ?_);refine goesL_ (some 9) rfl rfl Try.func31 (by kernel_rfl) rfl #[.agg #[.string a0_0,.int .i64 a0_1,.int .i64 a0_2,.int .i64 a0_3,.slice A0_4 l0_4.length c0_4]] rfl (by (try simp only [List.map_toArray,List.map_cons,List.map_nil]);first|done|rfl|(simp only [List.length_drop,List.length_take];rfl)) ?_;(with_reducible refine (ir_Reached.calls k a0_0 a0_1 a0_2 a0_3 _ _ l0_4 t253 _ ?side1 ?side2 A4.out).mono ?_);(case side1 => repeat (first|exact (Kd.C_below HR0_4.out HB.out)|(with_reducible refine Kd.C_alloc ?_ _)|(with_reducible refine Kd.C_drewN ?_ _)|(with_reducible refine Kd.C_drew ?_)));(case side2 => exact HC0_4.out);rintro e w8 ⟨v254,rfl,ho0,hb⟩;refine ⟨_,rfl,?_⟩;have n0_:=Aside0.mk (Kd.R_lower ho0 (Z27 YH));have n1_:=Aside0.mk (Z40 (YK BK252) hb);have n2_:=Aside0.mk (Z25 YH hb);clear BK252;clear HB;have HO255:=n0_;have BK252:=n1_;have HB:=n2_;clear n0_ n1_ n2_;(try clear hb);(try clear hb2);(try clear hk);(try clear hi);(try clear ho0)))
 (try simp only [Act.put,List.setIfInBounds_toArray,List.set_cons_zero,List.set_cons_succ]);go_cut [41] (fun v41 wc => ∃ (kq : Nat) (x41_4 : Bool),v41 = .bool x41_4 ∧ Aside0 (order_Dominates.j0 kq a1 a2 x41_4 a0_0 a0_1 a0_2 a0_3 l0_4 = some r) ∧ Aside0 (kq ≤ k) ∧ Aside0 (wc.heap[gb252]? = some (.cells #[.string a0_0,.int .i64 a0_1,.int .i64 a0_2,.int .i64 a0_3,(.slice A0_4 l0_4.length c0_4)] 24 (0,0))) ∧ Aside0 (Below w.heap.size w wc))
 case first =>
  have H:=HC5.out
  clear HC5;by_cases c9 : a1 < 0
  · rw [if_pos c9] at H;have c9b0 : decide (a1 < 0) = true:=decide_eq_true c9
    clear c9;(first|rw [c9b0]|(simp only [i64_w,i32_w];rw [c9b0])|skip);have H' := Aside0.mk H
    clear H;go_wp2
    go_meet
    case rel => exact ⟨_,(true),(by first|rfl|(simp;done)|(simp [*];done)),H',⟨by first|omega|exact Nat.le_refl _⟩,⟨YK BK252⟩,⟨YH⟩⟩
  · rw [if_neg c9] at H;have c9b0 : decide (a1 < 0) = false:=decide_eq_false c9
    clear c9;(first|rw [c9b0]|(simp only [i64_w,i32_w];rw [c9b0])|skip);by_cases c10 : a1 ≥ (t253.length : Int)
    · rw [if_pos c10] at H;have c10b0 : decide ((t253.length : Int) ≤ a1) = true:=decide_eq_true c10
      clear c10;have H' := Aside0.mk H
      clear H;obtain ⟨Ao11,co11,eo11⟩:=Kd.R_slice HO255.out
      subst eo11;go_wp2
      go_meet
      case rel => exact ⟨_,(true),(by first|rfl|(simp;done)|(simp [*];done)),H',⟨by first|omega|exact Nat.le_refl _⟩,⟨YK BK252⟩,⟨YH⟩⟩
    · rw [if_neg c10] at H;have c10b0 : decide ((t253.length : Int) ≤ a1) = false:=decide_eq_false c10
      clear c10;by_cases c12 : a2 < 0
      · rw [if_pos c12] at H;have c12b0 : decide (a2 < 0) = true:=decide_eq_true c12
        clear c12;have H' := Aside0.mk H
        clear H;obtain ⟨Ao13,co13,eo13⟩:=Kd.R_slice HO255.out
        subst eo13;go_wp2
        go_meet
        case rel => exact ⟨_,(true),(by first|rfl|(simp;done)|(simp [*];done)),H',⟨by first|omega|exact Nat.le_refl _⟩,⟨YK BK252⟩,⟨YH⟩⟩
      · rw [if_neg c12] at H;have c12b0 : decide (a2 < 0) = false:=decide_eq_false c12
        clear c12;by_cases c14 : a2 ≥ (t253.length : Int)
        · rw [if_pos c14] at H;have c14b0 : decide ((t253.length : Int) ≤ a2) = true:=decide_eq_true c14
          clear c14;have H' := Aside0.mk H
          clear H;obtain ⟨Ao15,co15,eo15⟩:=Kd.R_slice HO255.out
          subst eo15;go_wp2
          go_meet
          case rel => exact ⟨_,(true),(by first|rfl|(simp;done)|(simp [*];done)),H',⟨by first|omega|exact Nat.le_refl _⟩,⟨YK BK252⟩,⟨YH⟩⟩
        · rw [if_neg c14] at H;have c14b0 : decide ((t253.length : Int) ≤ a2) = false:=decide_eq_false c14
          clear c14;by_cases c16 : 0 ≤ a1
          · rw [if_pos c16] at H;have c16b0 : decide (0 ≤ a1) = true:=decide_eq_true c16
            clear c16;by_cases c17 : a1 < (t253.length : Int)
            · rw [if_pos c17] at H;have c17b0 : decide (a1 < (t253.length : Int)) = true:=decide_eq_true c17
              clear c17;obtain ⟨bq18,hbq18⟩ : ∃ b_ : Bool,b_ = (rdOf false t253 a1):=⟨_,rfl⟩
              replace H : (if bq18 = true then (if 0 ≤ a2 then (if a2 < (t253.length : Int) then (order_Dominates.j0 k a1 a2 (!(rdOf false t253 a2)) a0_0 a0_1 a0_2 a0_3 l0_4) else (none)) else (none)) else (order_Dominates.j0 k a1 a2 true a0_0 a0_1 a0_2 a0_3 l0_4)) = some r:=by rw [← hbq18] at H;exact H
              have Nbq18:=Aside0.mk hbq18
              clear hbq18;by_cases c19 : bq18 = true
              · subst c19;have H1 : (if 0 ≤ a2 then (if a2 < (t253.length : Int) then (order_Dominates.j0 k a1 a2 (!(rdOf false t253 a2)) a0_0 a0_1 a0_2 a0_3 l0_4) else (none)) else (none)) = some r:=by rw [if_pos rfl] at H;exact H
                clear H;have H:=H1
                clear H1;by_cases c20 : 0 ≤ a2
                · rw [if_pos c20] at H;have c20b0 : decide (0 ≤ a2) = true:=decide_eq_true c20
                  clear c20;by_cases c21 : a2 < (t253.length : Int)
                  · rw [if_pos c21] at H;have c21b0 : decide (a2 < (t253.length : Int)) = true:=decide_eq_true c21
                    clear c21;have H' := Aside0.mk H
                    clear H;obtain ⟨Ao22,co22,eo22⟩:=Kd.R_slice HO255.out
                    subst eo22;have p256 : 0 ≤ (a1 : Int):=YA
                    have q256 : a1 < (t253.length : Int):=YA
                    obtain ⟨ad256,e256,hx256_0⟩:=Kd.at_bool (Kd.R_reads' HO255.out).2.2 a1 p256 q256
                    (try rw [← Nbq18.out] at hx256_0);cases e256;replace p256:=eq_true p256
                    replace q256:=eq_true q256
                    have p257 : 0 ≤ (a2 : Int):=YA
                    have q257 : a2 < (t253.length : Int):=YA
                    obtain ⟨ad257,e257,hx257_0⟩:=Kd.at_bool (Kd.R_reads' HO255.out).2.2 a2 p257 q257
                    (try rw [← Nbq18.out] at hx257_0);obtain rfl : ad256 = ad257:=(by injection e257)
                    replace p257:=eq_true p257
                    replace q257:=eq_true q257
                    go_wp2
                    go_meet
                    case rel => exact ⟨_,(!(rdOf false t253 a2)),(by first|rfl|(simp;done)|(simp [*];done)),H',⟨by first|omega|exact Nat.le_refl _⟩,⟨YK BK252⟩,⟨YH⟩⟩
                  · rw [if_neg c21] at H;exact absurd H (by simp)
                · rw [if_neg c20] at H;exact absurd H (by simp)
              · replace c19:=Bool.eq_false_iff.mpr c19
                subst c19;have H1 : (order_Dominates.j0 k a1 a2 true a0_0 a0_1 a0_2 a0_3 l0_4) = some r:=by rw [if_neg (show ¬ (false = true) by decide)] at H;exact H
                clear H;have H:=H1
                clear H1;have H' := Aside0.mk H
                clear H;obtain ⟨Ao23,co23,eo23⟩:=Kd.R_slice HO255.out
                subst eo23;have p256 : 0 ≤ (a1 : Int):=YA
                have q256 : a1 < (t253.length : Int):=YA
                obtain ⟨ad256,e256,hx256_0⟩:=Kd.at_bool (Kd.R_reads' HO255.out).2.2 a1 p256 q256
                (try rw [← Nbq18.out] at hx256_0);cases e256;replace p256:=eq_true p256
                replace q256:=eq_true q256
                go_wp2
                go_meet
                case rel => exact ⟨_,(true),(by first|rfl|(simp;done)|(simp [*];done)),H',⟨by first|omega|exact Nat.le_refl _⟩,⟨YK BK252⟩,⟨YH⟩⟩
            · rw [if_neg c17] at H;exact absurd H (by simp)
          · rw [if_neg c16] at H;exact absurd H (by simp)
 case rest =>
  clear HC5;try clear hcz7_0
  try clear hcz7_1
  try clear hcz7_2
  try clear hcz7_3
  try clear hcz7_4
  obtain ⟨kq,x41_4,rfl,HA,HJ4,BK252,HB⟩:=hcut
  cases kq with
  | zero => exact absurd HA.out (by simp [order_Dominates.j0])
  | succ kj4 =>
   have H:=HA.out
   clear HA;simp only [order_Dominates.j0] at H;by_cases c24 : x41_4 = true
   · subst c24;have H1 : (some false) = some r:=by rw [if_pos rfl] at H;exact H
     clear H;have H:=H1
     clear H1;obtain rfl:=Option.some.inj H
     go_wp2
     go_ret
     exact ⟨by first|rfl|(simp [Z16,Z15] <;> rfl)|(simp [*,Z16,Z15] <;> rfl),by repeat (first|(with_reducible first|exact HB.out|apply Z7|apply Z4|apply Z6|refine Z8 ?_ GE252.out)|exact HB.out)⟩
   · replace c24:=Bool.eq_false_iff.mpr c24
     subst c24;have H1 : ((order_Doms.f kj4 a0_0 a0_1 a0_2 a0_3 l0_4).bind fun t258 => ((order_above.f kj4 t258 a1 a2).bind fun t261 => (some t261))) = some r:=by rw [if_neg (show ¬ (false = true) by decide)] at H;exact H
     clear H;have H:=H1
     clear H1;replace H:=Option.bind_eq_some_iff.mp H
     obtain ⟨t258,A250,H⟩:=H
     replace H : ((order_above.f kj4 t258 a1 a2).bind fun t261 => (some t261)) = some r:=H
     have A25:=Aside0.mk A250
     clear A250;replace H:=Option.bind_eq_some_iff.mp H
     obtain ⟨t261,A260,H⟩:=H
     replace H : (some t261) = some r:=H
     have A26:=Aside0.mk A260
     clear A260;obtain rfl:=Option.some.inj H
     have hcz27_0 : wc.cell? ⟨gb252,0,none⟩ = some (.string a0_0):=(Z5 BK252.out 0).trans rfl
     have hcz27_1 : wc.cell? ⟨gb252,1,none⟩ = some (.int .i64 a0_1):=(Z5 BK252.out 1).trans rfl
     have hcz27_2 : wc.cell? ⟨gb252,2,none⟩ = some (.int .i64 a0_2):=(Z5 BK252.out 2).trans rfl
     have hcz27_3 : wc.cell? ⟨gb252,3,none⟩ = some (.int .i64 a0_3):=(Z5 BK252.out 3).trans rfl
     have hcz27_4 : wc.cell? ⟨gb252,4,none⟩ = some (.slice A0_4 l0_4.length c0_4):=(Z5 BK252.out 4).trans rfl
     go_wp2_with (first|((with_reducible refine Z14 (f:=15) rfl ?_);refine goesL_ (some 43) rfl rfl Try.func15 (by kernel_rfl) rfl #[.agg #[.string a0_0,.int .i64 a0_1,.int .i64 a0_2,.int .i64 a0_3,.slice A0_4 l0_4.length c0_4]] rfl (by (try simp only [List.map_toArray,List.map_cons,List.map_nil]);first|done|rfl|(simp only [List.length_drop,List.length_take];rfl)) ?_;(with_reducible refine (order_Doms.calls kj4 a0_0 a0_1 a0_2 a0_3 _ _ l0_4 t258 _ ?side1 ?side2 A25.out).mono ?_);(case side1 => repeat (first|exact (Kd.C_below HR0_4.out HB.out)|(with_reducible refine Kd.C_alloc ?_ _)|(with_reducible refine Kd.C_drewN ?_ _)|(with_reducible refine Kd.C_drew ?_)));(case side2 => exact HC0_4.out);rintro e w28 ⟨v259,rfl,ho0,hb⟩;refine ⟨_,rfl,?_⟩;have n0_:=Aside0.mk (Kd.R_lower ho0 (Z27 YH));have n1_:=Aside0.mk (Z40 (YK BK252) hb);have n2_:=Aside0.mk (Z25 YH hb);clear BK252;clear HB;have HO260:=n0_;have BK252:=n1_;have HB:=n2_;clear n0_ n1_ n2_;(try clear hb);(try clear hb2);(try clear hk);(try clear hi);(try clear ho0);obtain ⟨Ao29,co29,eo29⟩:=Kd.R_slice HO260.out;subst eo29)|((with_reducible refine Z14 (f:=32) rfl ?_);refine goesL_ (some 46) rfl rfl Try.func32 (by kernel_rfl) rfl #[.slice Ao29 t258.length co29,.int .i64 a1,.int .i64 a2] rfl (by (try simp only [List.map_toArray,List.map_cons,List.map_nil]);first|done|rfl|(simp only [List.length_drop,List.length_take];rfl)) ?_;(with_reducible refine (order_above.calls kj4 _ _ t258 a1 a2 t261 _ ?side1 ?side2 A26.out).mono ?_);(case side1 => repeat (first|exact (Kd.R_reads' HO260.out).2.2|(with_reducible refine Kd.C_alloc ?_ _)|(with_reducible refine Kd.C_drewN ?_ _)|(with_reducible refine Kd.C_drew ?_)));(case side2 => exact (Kd.R_reads' HO260.out).2.1);rintro e w' ⟨rfl,⟨nd,rfl⟩⟩;refine ⟨_,rfl,?_⟩))
     go_ret
     exact ⟨by first|rfl|(simp [Z16,Z15] <;> rfl)|(simp [*,Z16,Z15] <;> rfl),by repeat (first|(with_reducible first|exact HB.out|apply Z7|apply Z4|apply Z6|refine Z8 ?_ GE252.out)|exact HB.out)⟩
end Go.Proofs.Ytbklmnieakefnaa.Q
