/- A part of the proof, made small by a program: C1, D1, R23, R21, S3, Rg, H9, J1, J2, J3, J4, J5, L1, L2, L3, L4, L5, L6, Fn, L7. -/
import Derived.Test.YtboojhadfhpdeaaGreatDoorVc4
import Derived.Test.YtboojhadfhpdeaaGreatDoorVc5
import Derived.Test.YtboojhadfhpdeaaGreatDoorVc8
import Derived.Test.YtboojhadfhpdeaaGreatDoorVc11
import Derived.Test.YtboojhadfhpdeaaGreatDoorVc12
namespace Go.Proofs.YtboojhadfhpdeaaGreatDoor.Q
open Go.RowKit Go.Proofs.YtboojhadfhpdeaaGreatDoorW.PrintWords Go.Proofs.YtboojhadfhpdeaaGreatDoorW.PrintLast Go.Proofs.YtboojhadfhpdeaaGreatDoorW.PrintMore
attribute [local go_sem] max2_int min2_int max_two min_two max_three min_three max_four min_four
set_option linter.unusedVariables false
set_option linter.unusedSimpArgs false
def cruciblelaw08_AstSizes.f (k : Nat) (a0_0 : Int) (a0_1 : ByteArray) (a0_2 : Int) (a0_3 : Bool) (l0_4 : List (S25)) (a0_5 : Int) : Option (Bool):=(ast_Size.f k a0_0 a0_1 a0_2 a0_3 l0_4 a0_5).bind fun t126 => ((crucibleref08_Size.f k a0_0 a0_1 a0_2 a0_3 l0_4 a0_5).bind fun t127 => (if t126 = t127 then ((ast_Depth.f k a0_0 a0_1 a0_2 a0_3 l0_4 a0_5).bind fun t128 => ((crucibleref08_Depth.f k a0_0 a0_1 a0_2 a0_3 l0_4 a0_5).bind fun t129 => (if t128 = t129 then ((cruciblelaw08_awake.f).bind fun t130 => (some t130)) else (some false)))) else (some false)))
theorem cruciblelaw08_AstSizes.mono : ∀ a0 a1 a2 a3 a4 a5 k,LeO (cruciblelaw08_AstSizes.f k a0 a1 a2 a3 a4 a5) (cruciblelaw08_AstSizes.f (k + 1) a0 a1 a2 a3 a4 a5):=by
 intro a0 a1 a2 a3 a4 a5 k;unfold cruciblelaw08_AstSizes.f
 repeat' first
  | (with_reducible exact ast_Depth.mono _ _ _ _ _ _ _)
  | (with_reducible exact ast_Size.mono _ _ _ _ _ _ _)
  | (with_reducible exact crucibleref08_Depth.mono _ _ _ _ _ _ _)
  | (with_reducible exact crucibleref08_Size.mono _ _ _ _ _ _ _)
  | (with_reducible exact LeO.refl _)
  | (with_reducible exact LeO.none _)
  | (with_reducible refine LeO.ite ?_ ?_)
  | (with_reducible refine LeO.bind ?_ (fun _ => ?_))
  | exact ast_Depth.mono _ _ _ _ _ _ _
  | exact ast_Size.mono _ _ _ _ _ _ _
  | exact crucibleref08_Depth.mono _ _ _ _ _ _ _
  | exact crucibleref08_Size.mono _ _ _ _ _ _ _
  | exact LeO.none _
  | refine LeO.ite ?_ ?_
  | refine LeO.bind ?_ (fun _ => ?_)
def cruciblelaw08_AstSizes.T1 : Bool × List (List Nat × List Nat):=(true,[([],[]),([0],[0]),([],[]),([2,1],[2]),([1,3],[1,3]),([4,3],[4]),([5],[5]),([6,5,5],[5,6]),([5],[5]),([8,7,5],[5,8]),([7,9,5],[5,7,9]),([5,10],[5,10]),([11,9],[11]),([12,12],[12]),([12,13],[12,13]),([14,13,0,1,2,3,4,5,6,7,8,9,10,11,12,13,14],[14])])
def cruciblelaw08_AstSizes.B1 : List Nat:=[0,1,0,7,15,31,63,127,63,511,1023,2047,4095,8191,16383,32767]
theorem cruciblelaw08_AstSizes.tab1 : rtab .any (opsOf Tryz.f6 1) = cruciblelaw08_AstSizes.T1:=by kernel_rfl
theorem cruciblelaw08_AstSizes.bits1 : waitsOk cruciblelaw08_AstSizes.T1.2 cruciblelaw08_AstSizes.B1 = true:=by kernel_rfl
set_option maxHeartbeats 8000000 in
set_option maxRecDepth 100000 in
theorem cruciblelaw08_AstSizes.calls (k : Nat) (a0_0 : Int) (a0_1 : ByteArray) (a0_2 : Int) (a0_3 : Bool) (A0_4 : Option Addr) (c0_4 : Nat) (l0_4 : List (S25)) (a0_5 : Int) (r : Bool) (w : World) (hr0_4 : Kd.C k25 w A0_4 l0_4.length l0_4) (hc0_4 : l0_4.length ≤ c0_4) (hG : PremW w) (h : cruciblelaw08_AstSizes.f k a0_0 a0_1 a0_2 a0_3 l0_4 a0_5 = some r) :
 Calls Tryz.prog 6 #[.agg #[.int .i64 a0_0,.string a0_1,.int .u32 a0_2,.bool a0_3,.slice A0_4 l0_4.length c0_4,.int .i64 a0_5]] w fun e w' => e = .returned (.bool r) ∧ Below w.heap.size w w' := by
 have hu25:=Tryz.underlying25;have HR0_4:=Aside0.mk hr0_4;have HC0_4:=Aside0.mk hc0_4;clear hr0_4 hc0_4;have HG:=Aside0.mk hG;clear hG;have HB:=Aside0.mk (Below.refl w.heap.size w);have H : ((ast_Size.f k a0_0 a0_1 a0_2 a0_3 l0_4 a0_5).bind fun t126 => ((crucibleref08_Size.f k a0_0 a0_1 a0_2 a0_3 l0_4 a0_5).bind fun t127 => (if t126 = t127 then ((ast_Depth.f k a0_0 a0_1 a0_2 a0_3 l0_4 a0_5).bind fun t128 => ((crucibleref08_Depth.f k a0_0 a0_1 a0_2 a0_3 l0_4 a0_5).bind fun t129 => (if t128 = t129 then ((cruciblelaw08_awake.f).bind fun t130 => (some t130)) else (some false)))) else (some false)))) = some r:=h;clear h;replace H:=Option.bind_eq_some_iff.mp H;obtain ⟨t126,A20,H⟩:=H;replace H : ((crucibleref08_Size.f k a0_0 a0_1 a0_2 a0_3 l0_4 a0_5).bind fun t127 => (if t126 = t127 then ((ast_Depth.f k a0_0 a0_1 a0_2 a0_3 l0_4 a0_5).bind fun t128 => ((crucibleref08_Depth.f k a0_0 a0_1 a0_2 a0_3 l0_4 a0_5).bind fun t129 => (if t128 = t129 then ((cruciblelaw08_awake.f).bind fun t130 => (some t130)) else (some false)))) else (some false))) = some r:=H;have A2:=Aside0.mk A20;clear A20;replace H:=Option.bind_eq_some_iff.mp H;obtain ⟨t127,A30,H⟩:=H;replace H : (if t126 = t127 then ((ast_Depth.f k a0_0 a0_1 a0_2 a0_3 l0_4 a0_5).bind fun t128 => ((crucibleref08_Depth.f k a0_0 a0_1 a0_2 a0_3 l0_4 a0_5).bind fun t129 => (if t128 = t129 then ((cruciblelaw08_awake.f).bind fun t130 => (some t130)) else (some false)))) else (some false)) = some r:=H;have A3:=Aside0.mk A30;clear A30;by_cases c4 : t126 = t127
 · rw [if_pos c4] at H;have c4b0 : (t126 == t127) = true:=beq_iff_eq.mpr c4;have c4b1 : (t126 != t127) = false:=bne_eq_false_iff_eq.mpr c4;clear c4;replace H:=Option.bind_eq_some_iff.mp H;obtain ⟨t128,A50,H⟩:=H;replace H : ((crucibleref08_Depth.f k a0_0 a0_1 a0_2 a0_3 l0_4 a0_5).bind fun t129 => (if t128 = t129 then ((cruciblelaw08_awake.f).bind fun t130 => (some t130)) else (some false))) = some r:=H;have A5:=Aside0.mk A50;clear A50;replace H:=Option.bind_eq_some_iff.mp H;obtain ⟨t129,A60,H⟩:=H;replace H : (if t128 = t129 then ((cruciblelaw08_awake.f).bind fun t130 => (some t130)) else (some false)) = some r:=H;have A6:=Aside0.mk A60;clear A60;by_cases c7 : t128 = t129
   · rw [if_pos c7] at H;have c7b0 : (t128 == t129) = true:=beq_iff_eq.mpr c7;have c7b1 : (t128 != t129) = false:=bne_eq_false_iff_eq.mpr c7;clear c7;replace H:=Option.bind_eq_some_iff.mp H;obtain ⟨t130,A80,H⟩:=H;replace H : (some t130) = some r:=H;have A8:=Aside0.mk A80;clear A80;obtain rfl:=Option.some.inj H;go_enter Tryz.func6,Tryz.ntmps6
     try go_wp2_with (first|((with_reducible refine gate_dst (N:=1) rfl ?_);refine box_event ?hg (N:=1) ?hd (cs:=#[.int .i64 a0_0,.string a0_1,.int .u32 a0_2,.bool a0_3,.slice A0_4 l0_4.length c0_4,.int .i64 a0_5]) (t:=25) ?hr ?_;(case hd => rfl);(case hg => rfl);(case hr => first|(go_simp;done)|(go_simp;rfl));intro gb125 hg w9 hbox hb;have n0_:=Aside0.mk (below_step (by repeat (first|(with_reducible first|exact HB.out|apply below_alloc|apply pw_below_drewN|apply below_drew1)|exact HB.out)) hb);have n1_:=Aside0.mk (hbox);have n2_:=Aside0.mk ((by rw [hg];exact (below_size (by repeat (first|(with_reducible first|exact HB.out|apply below_alloc|apply pw_below_drewN|apply below_drew1)|exact HB.out))) : w.heap.size ≤ gb125));have n3_:=Aside0.mk ((by rw [hg];exact (below_size (by repeat (first|(with_reducible first|exact HB.out|apply below_alloc|apply pw_below_drewN|apply below_drew1)|exact HB.out))) : w.heap.size ≤ gb125));clear HB;have HB:=n0_;have BK125:=n1_;have GW125:=n2_;have GE125:=n3_;clear n0_ n1_ n2_ n3_;clear hb hbox hg))
     have n0_:=Aside0.mk (blk_drew BK125.out);have n1_:=Aside0.mk (below_drew1 HB.out);clear BK125;clear HB;have BK125:=n0_;have HB:=n1_;clear n0_ n1_;refine start_ (n:=16) (S:=fun w' => w'.cell? ⟨gb125,0,none⟩ = some (.int .i64 a0_0) ∧ w'.cell? ⟨gb125,1,none⟩ = some (.string a0_1) ∧ w'.cell? ⟨gb125,2,none⟩ = some (.int .u32 a0_2) ∧ w'.cell? ⟨gb125,3,none⟩ = some (.bool a0_3) ∧ w'.cell? ⟨gb125,4,none⟩ = some (.slice A0_4 l0_4.length c0_4) ∧ w'.cell? ⟨gb125,5,none⟩ = some (.int .i64 a0_5)) (ds:=[]) #[false,false,false,false,false,false,false,false,false,false,false,false,false,false,false,false] (by kernel_rfl) rfl rfl ⟨(blk_cell BK125.out 0).trans rfl,(blk_cell BK125.out 1).trans rfl,(blk_cell BK125.out 2).trans rfl,(blk_cell BK125.out 3).trans rfl,(blk_cell BK125.out 4).trans rfl,(blk_cell BK125.out 5).trans rfl⟩ (fun hHeld => ?_);refine with_tabW cruciblelaw08_AstSizes.tab1 cruciblelaw08_AstSizes.bits1 (fun HT_ HW_ => ?_);generalize w9.drew = w10 at BK125 HB hHeld ⊢;refine take_ (i:=0) (N:=some 3) (v:=?_) (a' := ?_) #[true,false,false,false,false,false,false,false,false,false,false,false,false,false,false,false] rfl rfl (take_ofW HT_.out HW_.out (by kernel_rfl)) (fun _ _ _ h => h) (Or.inl ⟨by rfl,?_⟩) hHeld ?_ ?_;rotate_left
     · rintro w' ⟨s0,s1,s2,s3,s4,s5⟩;go_simp
       with_reducible rfl
     rotate_left
     · simp only [Act.put,List.setIfInBounds_toArray,List.set_cons_zero,List.set_cons_succ,i64_w,i32_w];rfl
     refine take_ (i:=2) (N:=some 5) (v:=?_) (a' := ?_) #[true,false,true,false,false,false,false,false,false,false,false,false,false,false,false,false] rfl rfl (take_ofW HT_.out HW_.out (by kernel_rfl)) (fun _ _ _ h => h) (Or.inl ⟨by rfl,?_⟩) hHeld ?_ ?_;rotate_left
     · rintro w' ⟨s0,s1,s2,s3,s4,s5⟩;go_simp
       with_reducible rfl
     rotate_left
     · simp only [Act.put,List.setIfInBounds_toArray,List.set_cons_zero,List.set_cons_succ,i64_w,i32_w];rfl
     refine one_ (i:=1) (N:=some 4) #[true,true,true,false,false,false,false,false,false,false,false,false,false,false,false,false] rfl rfl (one_of HT_.out (by kernel_rfl)) (by decide) (fun K hK => ?_);refine goes_ Tryz.func16 (by kernel_rfl) rfl #[.agg #[.int .i64 a0_0,.string a0_1,.int .u32 a0_2,.bool a0_3,.slice A0_4 l0_4.length c0_4,.int .i64 a0_5]] (by rfl) rfl rfl (by (try simp only [List.map_toArray,List.map_cons,List.map_nil]);first|done|rfl|(simp only [List.length_drop,List.length_take];rfl)) ?_
     with_reducible refine (ast_Size.calls k a0_0 a0_1 a0_2 a0_3 _ _ l0_4 a0_5 t126 _ ?side1 ?side2 A2.out).mono ?_
     (case side1 => repeat (first|exact (Kd.C_below HR0_4.out HB.out)|(with_reducible refine Kd.C_alloc ?_ _)|(with_reducible refine Kd.C_drewN ?_ _)|(with_reducible refine Kd.C_drew ?_)));(case side2 => exact HC0_4.out);rintro e w11 ⟨rfl,hb⟩;refine ⟨_,rfl,?_⟩;have n0_:=Aside0.mk (blk_below (g:=gb125) (o:=.cells #[.int .i64 a0_0,.string a0_1,.int .u32 a0_2,.bool a0_3,.slice A0_4 l0_4.length c0_4,.int .i64 a0_5] 25 (0,0)) (by (with_reducible repeat (first|refine blk_drewN ?_ _|refine blk_drew ?_|refine blk_alloc ?_ _));exact BK125.out) hb);have n1_:=Aside0.mk (below_step (by repeat (first|(with_reducible first|exact HB.out|apply below_alloc|apply pw_below_drewN|apply below_drew1|refine below_set ?_ GE125.out)|exact HB.out)) hb);clear BK125;clear HB;have BK125:=n0_;have HB:=n1_;clear n0_ n1_;(try clear hb);(try clear hb2);(try clear hk);(try clear hi);refine hK.out _ _ ⟨(blk_cell BK125.out 0).trans rfl,(blk_cell BK125.out 1).trans rfl,(blk_cell BK125.out 2).trans rfl,(blk_cell BK125.out 3).trans rfl,(blk_cell BK125.out 4).trans rfl,(blk_cell BK125.out 5).trans rfl⟩ (fun hHeld => ?_);clear hK K;refine norm_ (a' := ?_) ?_ ?_;rotate_left
     · show Act.put _ (some 4) _ = _
       simp only [Act.put,List.setIfInBounds_toArray,List.set_cons_zero,List.set_cons_succ,i64_w,i32_w];rfl
     refine one_ (i:=3) (N:=some 6) #[true,true,true,true,false,false,false,false,false,false,false,false,false,false,false,false] rfl rfl (one_of HT_.out (by kernel_rfl)) (by decide) (fun K hK => ?_);refine goes_ Tryz.func13 (by kernel_rfl) rfl #[.agg #[.int .i64 a0_0,.string a0_1,.int .u32 a0_2,.bool a0_3,.slice A0_4 l0_4.length c0_4,.int .i64 a0_5]] (by rfl) rfl rfl (by (try simp only [List.map_toArray,List.map_cons,List.map_nil]);first|done|rfl|(simp only [List.length_drop,List.length_take];rfl)) ?_
     with_reducible refine (crucibleref08_Size.calls k a0_0 a0_1 a0_2 a0_3 _ _ l0_4 a0_5 t127 _ ?side1 ?side2 A3.out).mono ?_
     (case side1 => repeat (first|exact (Kd.C_below HR0_4.out HB.out)|(with_reducible refine Kd.C_alloc ?_ _)|(with_reducible refine Kd.C_drewN ?_ _)|(with_reducible refine Kd.C_drew ?_)));(case side2 => exact HC0_4.out);rintro e w12 ⟨rfl,hb⟩;refine ⟨_,rfl,?_⟩;have n0_:=Aside0.mk (blk_below (g:=gb125) (o:=.cells #[.int .i64 a0_0,.string a0_1,.int .u32 a0_2,.bool a0_3,.slice A0_4 l0_4.length c0_4,.int .i64 a0_5] 25 (0,0)) (by (with_reducible repeat (first|refine blk_drewN ?_ _|refine blk_drew ?_|refine blk_alloc ?_ _));exact BK125.out) hb);have n1_:=Aside0.mk (below_step (by repeat (first|(with_reducible first|exact HB.out|apply below_alloc|apply pw_below_drewN|apply below_drew1|refine below_set ?_ GE125.out)|exact HB.out)) hb);clear BK125;clear HB;have BK125:=n0_;have HB:=n1_;clear n0_ n1_;(try clear hb);(try clear hb2);(try clear hk);(try clear hi);refine hK.out _ _ ⟨(blk_cell BK125.out 0).trans rfl,(blk_cell BK125.out 1).trans rfl,(blk_cell BK125.out 2).trans rfl,(blk_cell BK125.out 3).trans rfl,(blk_cell BK125.out 4).trans rfl,(blk_cell BK125.out 5).trans rfl⟩ (fun hHeld => ?_);clear hK K;refine norm_ (a' := ?_) ?_ ?_;rotate_left
     · show Act.put _ (some 6) _ = _
       simp only [Act.put,List.setIfInBounds_toArray,List.set_cons_zero,List.set_cons_succ,i64_w,i32_w];rfl
     refine pure_ (i:=4) (N:=some 7) (v:=?_) (a' := ?_) #[true,true,true,true,true,false,false,false,false,false,false,false,false,false,false,false] rfl rfl (any_of HT_.out (by kernel_rfl)) (fun _ _ _ h => h) (Or.inl ⟨by rfl,?_⟩) ?_ ?_;rotate_left
     · intro w';go_simp
       with_reducible rfl
     rotate_left
     · simp only [Act.put,List.setIfInBounds_toArray,List.set_cons_zero,List.set_cons_succ,i64_w,i32_w];rfl
     refine pure_ (i:=5) (N:=some 8) (v:=?_) (a' := ?_) #[true,true,true,true,true,true,false,false,false,false,false,false,false,false,false,false] rfl rfl (any_of HT_.out (by kernel_rfl)) (fun _ _ _ h => h) (Or.inl ⟨by rfl,?_⟩) ?_ ?_;rotate_left
     · intro w';go_simp
       with_reducible rfl
     rotate_left
     · simp only [Act.put,List.setIfInBounds_toArray,List.set_cons_zero,List.set_cons_succ,i64_w,i32_w];rfl
     refine take_ (i:=6) (N:=some 9) (v:=?_) (a' := ?_) #[true,true,true,true,true,true,true,false,false,false,false,false,false,false,false,false] rfl rfl (take_ofW HT_.out HW_.out (by kernel_rfl)) (fun _ _ _ h => h) (Or.inl ⟨by rfl,?_⟩) hHeld ?_ ?_;rotate_left
     · rintro w' ⟨s0,s1,s2,s3,s4,s5⟩;go_simp
       with_reducible rfl
     rotate_left
     · simp only [Act.put,List.setIfInBounds_toArray,List.set_cons_zero,List.set_cons_succ,i64_w,i32_w];rfl
     refine take_ (i:=8) (N:=some 11) (v:=?_) (a' := ?_) #[true,true,true,true,true,true,true,false,true,false,false,false,false,false,false,false] rfl rfl (take_ofW HT_.out HW_.out (by kernel_rfl)) (fun _ _ _ h => h) (Or.inl ⟨by rfl,?_⟩) hHeld ?_ ?_;rotate_left
     · rintro w' ⟨s0,s1,s2,s3,s4,s5⟩;go_simp
       with_reducible rfl
     rotate_left
     · simp only [Act.put,List.setIfInBounds_toArray,List.set_cons_zero,List.set_cons_succ,i64_w,i32_w];rfl
     refine one_ (i:=7) (N:=some 10) #[true,true,true,true,true,true,true,true,true,false,false,false,false,false,false,false] rfl rfl (one_of HT_.out (by kernel_rfl)) (by decide) (fun K hK => ?_);refine goes_ Tryz.func17 (by kernel_rfl) rfl #[.agg #[.int .i64 a0_0,.string a0_1,.int .u32 a0_2,.bool a0_3,.slice A0_4 l0_4.length c0_4,.int .i64 a0_5]] (by rfl) rfl rfl (by (try simp only [List.map_toArray,List.map_cons,List.map_nil]);first|done|rfl|(simp only [List.length_drop,List.length_take];rfl)) ?_
     with_reducible refine (ast_Depth.calls k a0_0 a0_1 a0_2 a0_3 _ _ l0_4 a0_5 t128 _ ?side1 ?side2 A5.out).mono ?_
     (case side1 => repeat (first|exact (Kd.C_below HR0_4.out HB.out)|(with_reducible refine Kd.C_alloc ?_ _)|(with_reducible refine Kd.C_drewN ?_ _)|(with_reducible refine Kd.C_drew ?_)));(case side2 => exact HC0_4.out);rintro e w13 ⟨rfl,hb⟩;refine ⟨_,rfl,?_⟩;have n0_:=Aside0.mk (blk_below (g:=gb125) (o:=.cells #[.int .i64 a0_0,.string a0_1,.int .u32 a0_2,.bool a0_3,.slice A0_4 l0_4.length c0_4,.int .i64 a0_5] 25 (0,0)) (by (with_reducible repeat (first|refine blk_drewN ?_ _|refine blk_drew ?_|refine blk_alloc ?_ _));exact BK125.out) hb);have n1_:=Aside0.mk (below_step (by repeat (first|(with_reducible first|exact HB.out|apply below_alloc|apply pw_below_drewN|apply below_drew1|refine below_set ?_ GE125.out)|exact HB.out)) hb);clear BK125;clear HB;have BK125:=n0_;have HB:=n1_;clear n0_ n1_;(try clear hb);(try clear hb2);(try clear hk);(try clear hi);refine hK.out _ _ ⟨(blk_cell BK125.out 0).trans rfl,(blk_cell BK125.out 1).trans rfl,(blk_cell BK125.out 2).trans rfl,(blk_cell BK125.out 3).trans rfl,(blk_cell BK125.out 4).trans rfl,(blk_cell BK125.out 5).trans rfl⟩ (fun hHeld => ?_);clear hK K;refine norm_ (a' := ?_) ?_ ?_;rotate_left
     · show Act.put _ (some 10) _ = _
       simp only [Act.put,List.setIfInBounds_toArray,List.set_cons_zero,List.set_cons_succ,i64_w,i32_w];rfl
     refine one_ (i:=9) (N:=some 12) #[true,true,true,true,true,true,true,true,true,true,false,false,false,false,false,false] rfl rfl (one_of HT_.out (by kernel_rfl)) (by decide) (fun K hK => ?_);refine goes_ Tryz.func18 (by kernel_rfl) rfl #[.agg #[.int .i64 a0_0,.string a0_1,.int .u32 a0_2,.bool a0_3,.slice A0_4 l0_4.length c0_4,.int .i64 a0_5]] (by rfl) rfl rfl (by (try simp only [List.map_toArray,List.map_cons,List.map_nil]);first|done|rfl|(simp only [List.length_drop,List.length_take];rfl)) ?_
     with_reducible refine (crucibleref08_Depth.calls k a0_0 a0_1 a0_2 a0_3 _ _ l0_4 a0_5 t129 _ ?side1 ?side2 A6.out).mono ?_
     (case side1 => repeat (first|exact (Kd.C_below HR0_4.out HB.out)|(with_reducible refine Kd.C_alloc ?_ _)|(with_reducible refine Kd.C_drewN ?_ _)|(with_reducible refine Kd.C_drew ?_)));(case side2 => exact HC0_4.out);rintro e w14 ⟨rfl,hb⟩;refine ⟨_,rfl,?_⟩;have n0_:=Aside0.mk (blk_below (g:=gb125) (o:=.cells #[.int .i64 a0_0,.string a0_1,.int .u32 a0_2,.bool a0_3,.slice A0_4 l0_4.length c0_4,.int .i64 a0_5] 25 (0,0)) (by (with_reducible repeat (first|refine blk_drewN ?_ _|refine blk_drew ?_|refine blk_alloc ?_ _));exact BK125.out) hb);have n1_:=Aside0.mk (below_step (by repeat (first|(with_reducible first|exact HB.out|apply below_alloc|apply pw_below_drewN|apply below_drew1|refine below_set ?_ GE125.out)|exact HB.out)) hb);clear BK125;clear HB;have BK125:=n0_;have HB:=n1_;clear n0_ n1_;(try clear hb);(try clear hb2);(try clear hk);(try clear hi);refine hK.out _ _ ⟨(blk_cell BK125.out 0).trans rfl,(blk_cell BK125.out 1).trans rfl,(blk_cell BK125.out 2).trans rfl,(blk_cell BK125.out 3).trans rfl,(blk_cell BK125.out 4).trans rfl,(blk_cell BK125.out 5).trans rfl⟩ (fun hHeld => ?_);clear hK K;refine norm_ (a' := ?_) ?_ ?_;rotate_left
     · show Act.put _ (some 12) _ = _
       simp only [Act.put,List.setIfInBounds_toArray,List.set_cons_zero,List.set_cons_succ,i64_w,i32_w];rfl
     refine pure_ (i:=10) (N:=some 13) (v:=?_) (a' := ?_) #[true,true,true,true,true,true,true,true,true,true,true,false,false,false,false,false] rfl rfl (any_of HT_.out (by kernel_rfl)) (fun _ _ _ h => h) (Or.inl ⟨by rfl,?_⟩) ?_ ?_;rotate_left
     · intro w';go_simp
       with_reducible rfl
     rotate_left
     · simp only [Act.put,List.setIfInBounds_toArray,List.set_cons_zero,List.set_cons_succ,i64_w,i32_w];rfl
     refine pure_ (i:=11) (N:=some 14) (v:=?_) (a' := ?_) #[true,true,true,true,true,true,true,true,true,true,true,true,false,false,false,false] rfl rfl (any_of HT_.out (by kernel_rfl)) (fun _ _ _ h => h) (Or.inl ⟨by rfl,?_⟩) ?_ ?_;rotate_left
     · intro w';go_simp
       with_reducible rfl
     rotate_left
     · simp only [Act.put,List.setIfInBounds_toArray,List.set_cons_zero,List.set_cons_succ,i64_w,i32_w];rfl
     refine pure_ (i:=12) (N:=some 15) (v:=?_) (a' := ?_) #[true,true,true,true,true,true,true,true,true,true,true,true,true,false,false,false] rfl rfl (any_of HT_.out (by kernel_rfl)) (fun _ _ _ h => h) (Or.inl ⟨by rfl,?_⟩) ?_ ?_;rotate_left
     · intro w';go_simp
       with_reducible rfl
     rotate_left
     · simp only [Act.put,List.setIfInBounds_toArray,List.set_cons_zero,List.set_cons_succ,i64_w,i32_w];rfl
     refine one_ (i:=13) (N:=some 16) #[true,true,true,true,true,true,true,true,true,true,true,true,true,true,false,false] rfl rfl (one_of HT_.out (by kernel_rfl)) (by decide) (fun K hK => ?_);refine goes_ Tryz.func10 (by kernel_rfl) rfl #[] (by rfl) rfl rfl (by (try simp only [List.map_toArray,List.map_cons,List.map_nil]);first|done|rfl|(simp only [List.length_drop,List.length_take];rfl)) ?_
     with_reducible refine (cruciblelaw08_awake.calls  t130 _ ?side1 A8.out).mono ?_
     (case side1 => refine PremW.below HG.out ?_;repeat (first|(with_reducible first|exact HB.out|apply below_alloc|apply pw_below_drewN|apply below_drew1|refine below_set ?_ GE125.out)|exact HB.out));rintro e w15 ⟨rfl,hb⟩;refine ⟨_,rfl,?_⟩;have n0_:=Aside0.mk (blk_below (g:=gb125) (o:=.cells #[.int .i64 a0_0,.string a0_1,.int .u32 a0_2,.bool a0_3,.slice A0_4 l0_4.length c0_4,.int .i64 a0_5] 25 (0,0)) (by (with_reducible repeat (first|refine blk_drewN ?_ _|refine blk_drew ?_|refine blk_alloc ?_ _));exact BK125.out) hb);have n1_:=Aside0.mk (below_step (by repeat (first|(with_reducible first|exact HB.out|apply below_alloc|apply pw_below_drewN|apply below_drew1|refine below_set ?_ GE125.out)|exact HB.out)) hb);clear BK125;clear HB;have BK125:=n0_;have HB:=n1_;clear n0_ n1_;(try clear hb);(try clear hb2);(try clear hk);(try clear hi);refine hK.out _ _ ⟨(blk_cell BK125.out 0).trans rfl,(blk_cell BK125.out 1).trans rfl,(blk_cell BK125.out 2).trans rfl,(blk_cell BK125.out 3).trans rfl,(blk_cell BK125.out 4).trans rfl,(blk_cell BK125.out 5).trans rfl⟩ (fun hHeld => ?_);clear hK K;refine norm_ (a' := ?_) ?_ ?_;rotate_left
     · show Act.put _ (some 16) _ = _
       simp only [Act.put,List.setIfInBounds_toArray,List.set_cons_zero,List.set_cons_succ,i64_w,i32_w];rfl
     refine pure_ (i:=14) (N:=some 17) (v:=?_) (a' := ?_) #[true,true,true,true,true,true,true,true,true,true,true,true,true,true,true,false] rfl rfl (any_of HT_.out (by kernel_rfl)) (fun _ _ _ h => h) (Or.inl ⟨by rfl,?_⟩) ?_ ?_;rotate_left
     · intro w';go_simp
       with_reducible rfl
     rotate_left
     · simp only [Act.put,List.setIfInBounds_toArray,List.set_cons_zero,List.set_cons_succ,i64_w,i32_w];rfl
     refine pure_ (i:=15) (N:=some 2) (v:=?_) (a' := ?_) #[true,true,true,true,true,true,true,true,true,true,true,true,true,true,true,true] rfl rfl (any_of HT_.out (by kernel_rfl)) (fun _ _ _ h => h) (Or.inl ⟨by rfl,?_⟩) ?_ ?_;rotate_left
     · intro w';go_simp
       with_reducible rfl
     rotate_left
     · simp only [Act.put,List.setIfInBounds_toArray,List.set_cons_zero,List.set_cons_succ,i64_w,i32_w];rfl
     refine done_ (done_of HT_.out (by kernel_rfl)) ?_;try go_wp2
     go_ret
     exact ⟨by first|rfl|(simp [errW_none,errW_some] <;> rfl)|(simp [*,errW_none,errW_some] <;> rfl),by repeat (first|(with_reducible first|exact HB.out|apply below_alloc|apply pw_below_drewN|apply below_drew1|refine below_set ?_ GE125.out)|exact HB.out)⟩
   · rw [if_neg c7] at H;have c7b0 : (t128 == t129) = false:=beq_eq_false_iff_ne.mpr c7;have c7b1 : (t128 != t129) = true:=bne_iff_ne.mpr c7;obtain rfl:=Option.some.inj H;go_enter Tryz.func6,Tryz.ntmps6
     try go_wp2_with (first|((with_reducible refine gate_dst (N:=1) rfl ?_);refine box_event ?hg (N:=1) ?hd (cs:=#[.int .i64 a0_0,.string a0_1,.int .u32 a0_2,.bool a0_3,.slice A0_4 l0_4.length c0_4,.int .i64 a0_5]) (t:=25) ?hr ?_;(case hd => rfl);(case hg => rfl);(case hr => first|(go_simp;done)|(go_simp;rfl));intro gb125 hg w16 hbox hb;have n0_:=Aside0.mk (below_step (by repeat (first|(with_reducible first|exact HB.out|apply below_alloc|apply pw_below_drewN|apply below_drew1)|exact HB.out)) hb);have n1_:=Aside0.mk (hbox);have n2_:=Aside0.mk ((by rw [hg];exact (below_size (by repeat (first|(with_reducible first|exact HB.out|apply below_alloc|apply pw_below_drewN|apply below_drew1)|exact HB.out))) : w.heap.size ≤ gb125));have n3_:=Aside0.mk ((by rw [hg];exact (below_size (by repeat (first|(with_reducible first|exact HB.out|apply below_alloc|apply pw_below_drewN|apply below_drew1)|exact HB.out))) : w.heap.size ≤ gb125));clear HB;have HB:=n0_;have BK125:=n1_;have GW125:=n2_;have GE125:=n3_;clear n0_ n1_ n2_ n3_;clear hb hbox hg))
     have n0_:=Aside0.mk (blk_drew BK125.out);have n1_:=Aside0.mk (below_drew1 HB.out);clear BK125;clear HB;have BK125:=n0_;have HB:=n1_;clear n0_ n1_;refine start_ (n:=16) (S:=fun w' => w'.cell? ⟨gb125,0,none⟩ = some (.int .i64 a0_0) ∧ w'.cell? ⟨gb125,1,none⟩ = some (.string a0_1) ∧ w'.cell? ⟨gb125,2,none⟩ = some (.int .u32 a0_2) ∧ w'.cell? ⟨gb125,3,none⟩ = some (.bool a0_3) ∧ w'.cell? ⟨gb125,4,none⟩ = some (.slice A0_4 l0_4.length c0_4) ∧ w'.cell? ⟨gb125,5,none⟩ = some (.int .i64 a0_5)) (ds:=[]) #[false,false,false,false,false,false,false,false,false,false,false,false,false,false,false,false] (by kernel_rfl) rfl rfl ⟨(blk_cell BK125.out 0).trans rfl,(blk_cell BK125.out 1).trans rfl,(blk_cell BK125.out 2).trans rfl,(blk_cell BK125.out 3).trans rfl,(blk_cell BK125.out 4).trans rfl,(blk_cell BK125.out 5).trans rfl⟩ (fun hHeld => ?_);refine with_tabW cruciblelaw08_AstSizes.tab1 cruciblelaw08_AstSizes.bits1 (fun HT_ HW_ => ?_);generalize w16.drew = w17 at BK125 HB hHeld ⊢;refine take_ (i:=0) (N:=some 3) (v:=?_) (a' := ?_) #[true,false,false,false,false,false,false,false,false,false,false,false,false,false,false,false] rfl rfl (take_ofW HT_.out HW_.out (by kernel_rfl)) (fun _ _ _ h => h) (Or.inl ⟨by rfl,?_⟩) hHeld ?_ ?_;rotate_left
     · rintro w' ⟨s0,s1,s2,s3,s4,s5⟩;go_simp
       with_reducible rfl
     rotate_left
     · simp only [Act.put,List.setIfInBounds_toArray,List.set_cons_zero,List.set_cons_succ,i64_w,i32_w];rfl
     refine take_ (i:=2) (N:=some 5) (v:=?_) (a' := ?_) #[true,false,true,false,false,false,false,false,false,false,false,false,false,false,false,false] rfl rfl (take_ofW HT_.out HW_.out (by kernel_rfl)) (fun _ _ _ h => h) (Or.inl ⟨by rfl,?_⟩) hHeld ?_ ?_;rotate_left
     · rintro w' ⟨s0,s1,s2,s3,s4,s5⟩;go_simp
       with_reducible rfl
     rotate_left
     · simp only [Act.put,List.setIfInBounds_toArray,List.set_cons_zero,List.set_cons_succ,i64_w,i32_w];rfl
     refine one_ (i:=1) (N:=some 4) #[true,true,true,false,false,false,false,false,false,false,false,false,false,false,false,false] rfl rfl (one_of HT_.out (by kernel_rfl)) (by decide) (fun K hK => ?_);refine goes_ Tryz.func16 (by kernel_rfl) rfl #[.agg #[.int .i64 a0_0,.string a0_1,.int .u32 a0_2,.bool a0_3,.slice A0_4 l0_4.length c0_4,.int .i64 a0_5]] (by rfl) rfl rfl (by (try simp only [List.map_toArray,List.map_cons,List.map_nil]);first|done|rfl|(simp only [List.length_drop,List.length_take];rfl)) ?_
     with_reducible refine (ast_Size.calls k a0_0 a0_1 a0_2 a0_3 _ _ l0_4 a0_5 t126 _ ?side1 ?side2 A2.out).mono ?_
     (case side1 => repeat (first|exact (Kd.C_below HR0_4.out HB.out)|(with_reducible refine Kd.C_alloc ?_ _)|(with_reducible refine Kd.C_drewN ?_ _)|(with_reducible refine Kd.C_drew ?_)));(case side2 => exact HC0_4.out);rintro e w18 ⟨rfl,hb⟩;refine ⟨_,rfl,?_⟩;have n0_:=Aside0.mk (blk_below (g:=gb125) (o:=.cells #[.int .i64 a0_0,.string a0_1,.int .u32 a0_2,.bool a0_3,.slice A0_4 l0_4.length c0_4,.int .i64 a0_5] 25 (0,0)) (by (with_reducible repeat (first|refine blk_drewN ?_ _|refine blk_drew ?_|refine blk_alloc ?_ _));exact BK125.out) hb);have n1_:=Aside0.mk (below_step (by repeat (first|(with_reducible first|exact HB.out|apply below_alloc|apply pw_below_drewN|apply below_drew1|refine below_set ?_ GE125.out)|exact HB.out)) hb);clear BK125;clear HB;have BK125:=n0_;have HB:=n1_;clear n0_ n1_;(try clear hb);(try clear hb2);(try clear hk);(try clear hi);refine hK.out _ _ ⟨(blk_cell BK125.out 0).trans rfl,(blk_cell BK125.out 1).trans rfl,(blk_cell BK125.out 2).trans rfl,(blk_cell BK125.out 3).trans rfl,(blk_cell BK125.out 4).trans rfl,(blk_cell BK125.out 5).trans rfl⟩ (fun hHeld => ?_);clear hK K;refine norm_ (a' := ?_) ?_ ?_;rotate_left
     · show Act.put _ (some 4) _ = _
       simp only [Act.put,List.setIfInBounds_toArray,List.set_cons_zero,List.set_cons_succ,i64_w,i32_w];rfl
     refine one_ (i:=3) (N:=some 6) #[true,true,true,true,false,false,false,false,false,false,false,false,false,false,false,false] rfl rfl (one_of HT_.out (by kernel_rfl)) (by decide) (fun K hK => ?_);refine goes_ Tryz.func13 (by kernel_rfl) rfl #[.agg #[.int .i64 a0_0,.string a0_1,.int .u32 a0_2,.bool a0_3,.slice A0_4 l0_4.length c0_4,.int .i64 a0_5]] (by rfl) rfl rfl (by (try simp only [List.map_toArray,List.map_cons,List.map_nil]);first|done|rfl|(simp only [List.length_drop,List.length_take];rfl)) ?_
     with_reducible refine (crucibleref08_Size.calls k a0_0 a0_1 a0_2 a0_3 _ _ l0_4 a0_5 t127 _ ?side1 ?side2 A3.out).mono ?_
     (case side1 => repeat (first|exact (Kd.C_below HR0_4.out HB.out)|(with_reducible refine Kd.C_alloc ?_ _)|(with_reducible refine Kd.C_drewN ?_ _)|(with_reducible refine Kd.C_drew ?_)));(case side2 => exact HC0_4.out);rintro e w19 ⟨rfl,hb⟩;refine ⟨_,rfl,?_⟩;have n0_:=Aside0.mk (blk_below (g:=gb125) (o:=.cells #[.int .i64 a0_0,.string a0_1,.int .u32 a0_2,.bool a0_3,.slice A0_4 l0_4.length c0_4,.int .i64 a0_5] 25 (0,0)) (by (with_reducible repeat (first|refine blk_drewN ?_ _|refine blk_drew ?_|refine blk_alloc ?_ _));exact BK125.out) hb);have n1_:=Aside0.mk (below_step (by repeat (first|(with_reducible first|exact HB.out|apply below_alloc|apply pw_below_drewN|apply below_drew1|refine below_set ?_ GE125.out)|exact HB.out)) hb);clear BK125;clear HB;have BK125:=n0_;have HB:=n1_;clear n0_ n1_;(try clear hb);(try clear hb2);(try clear hk);(try clear hi);refine hK.out _ _ ⟨(blk_cell BK125.out 0).trans rfl,(blk_cell BK125.out 1).trans rfl,(blk_cell BK125.out 2).trans rfl,(blk_cell BK125.out 3).trans rfl,(blk_cell BK125.out 4).trans rfl,(blk_cell BK125.out 5).trans rfl⟩ (fun hHeld => ?_);clear hK K;refine norm_ (a' := ?_) ?_ ?_;rotate_left
     · show Act.put _ (some 6) _ = _
       simp only [Act.put,List.setIfInBounds_toArray,List.set_cons_zero,List.set_cons_succ,i64_w,i32_w];rfl
     refine pure_ (i:=4) (N:=some 7) (v:=?_) (a' := ?_) #[true,true,true,true,true,false,false,false,false,false,false,false,false,false,false,false] rfl rfl (any_of HT_.out (by kernel_rfl)) (fun _ _ _ h => h) (Or.inl ⟨by rfl,?_⟩) ?_ ?_;rotate_left
     · intro w';go_simp
       with_reducible rfl
     rotate_left
     · simp only [Act.put,List.setIfInBounds_toArray,List.set_cons_zero,List.set_cons_succ,i64_w,i32_w];rfl
     refine pure_ (i:=5) (N:=some 8) (v:=?_) (a' := ?_) #[true,true,true,true,true,true,false,false,false,false,false,false,false,false,false,false] rfl rfl (any_of HT_.out (by kernel_rfl)) (fun _ _ _ h => h) (Or.inl ⟨by rfl,?_⟩) ?_ ?_;rotate_left
     · intro w';go_simp
       with_reducible rfl
     rotate_left
     · simp only [Act.put,List.setIfInBounds_toArray,List.set_cons_zero,List.set_cons_succ,i64_w,i32_w];rfl
     refine take_ (i:=6) (N:=some 9) (v:=?_) (a' := ?_) #[true,true,true,true,true,true,true,false,false,false,false,false,false,false,false,false] rfl rfl (take_ofW HT_.out HW_.out (by kernel_rfl)) (fun _ _ _ h => h) (Or.inl ⟨by rfl,?_⟩) hHeld ?_ ?_;rotate_left
     · rintro w' ⟨s0,s1,s2,s3,s4,s5⟩;go_simp
       with_reducible rfl
     rotate_left
     · simp only [Act.put,List.setIfInBounds_toArray,List.set_cons_zero,List.set_cons_succ,i64_w,i32_w];rfl
     refine take_ (i:=8) (N:=some 11) (v:=?_) (a' := ?_) #[true,true,true,true,true,true,true,false,true,false,false,false,false,false,false,false] rfl rfl (take_ofW HT_.out HW_.out (by kernel_rfl)) (fun _ _ _ h => h) (Or.inl ⟨by rfl,?_⟩) hHeld ?_ ?_;rotate_left
     · rintro w' ⟨s0,s1,s2,s3,s4,s5⟩;go_simp
       with_reducible rfl
     rotate_left
     · simp only [Act.put,List.setIfInBounds_toArray,List.set_cons_zero,List.set_cons_succ,i64_w,i32_w];rfl
     refine one_ (i:=7) (N:=some 10) #[true,true,true,true,true,true,true,true,true,false,false,false,false,false,false,false] rfl rfl (one_of HT_.out (by kernel_rfl)) (by decide) (fun K hK => ?_);refine goes_ Tryz.func17 (by kernel_rfl) rfl #[.agg #[.int .i64 a0_0,.string a0_1,.int .u32 a0_2,.bool a0_3,.slice A0_4 l0_4.length c0_4,.int .i64 a0_5]] (by rfl) rfl rfl (by (try simp only [List.map_toArray,List.map_cons,List.map_nil]);first|done|rfl|(simp only [List.length_drop,List.length_take];rfl)) ?_
     with_reducible refine (ast_Depth.calls k a0_0 a0_1 a0_2 a0_3 _ _ l0_4 a0_5 t128 _ ?side1 ?side2 A5.out).mono ?_
     (case side1 => repeat (first|exact (Kd.C_below HR0_4.out HB.out)|(with_reducible refine Kd.C_alloc ?_ _)|(with_reducible refine Kd.C_drewN ?_ _)|(with_reducible refine Kd.C_drew ?_)));(case side2 => exact HC0_4.out);rintro e w20 ⟨rfl,hb⟩;refine ⟨_,rfl,?_⟩;have n0_:=Aside0.mk (blk_below (g:=gb125) (o:=.cells #[.int .i64 a0_0,.string a0_1,.int .u32 a0_2,.bool a0_3,.slice A0_4 l0_4.length c0_4,.int .i64 a0_5] 25 (0,0)) (by (with_reducible repeat (first|refine blk_drewN ?_ _|refine blk_drew ?_|refine blk_alloc ?_ _));exact BK125.out) hb);have n1_:=Aside0.mk (below_step (by repeat (first|(with_reducible first|exact HB.out|apply below_alloc|apply pw_below_drewN|apply below_drew1|refine below_set ?_ GE125.out)|exact HB.out)) hb);clear BK125;clear HB;have BK125:=n0_;have HB:=n1_;clear n0_ n1_;(try clear hb);(try clear hb2);(try clear hk);(try clear hi);refine hK.out _ _ ⟨(blk_cell BK125.out 0).trans rfl,(blk_cell BK125.out 1).trans rfl,(blk_cell BK125.out 2).trans rfl,(blk_cell BK125.out 3).trans rfl,(blk_cell BK125.out 4).trans rfl,(blk_cell BK125.out 5).trans rfl⟩ (fun hHeld => ?_);clear hK K;refine norm_ (a' := ?_) ?_ ?_;rotate_left
     · show Act.put _ (some 10) _ = _
       simp only [Act.put,List.setIfInBounds_toArray,List.set_cons_zero,List.set_cons_succ,i64_w,i32_w];rfl
     refine one_ (i:=9) (N:=some 12) #[true,true,true,true,true,true,true,true,true,true,false,false,false,false,false,false] rfl rfl (one_of HT_.out (by kernel_rfl)) (by decide) (fun K hK => ?_);refine goes_ Tryz.func18 (by kernel_rfl) rfl #[.agg #[.int .i64 a0_0,.string a0_1,.int .u32 a0_2,.bool a0_3,.slice A0_4 l0_4.length c0_4,.int .i64 a0_5]] (by rfl) rfl rfl (by (try simp only [List.map_toArray,List.map_cons,List.map_nil]);first|done|rfl|(simp only [List.length_drop,List.length_take];rfl)) ?_
     with_reducible refine (crucibleref08_Depth.calls k a0_0 a0_1 a0_2 a0_3 _ _ l0_4 a0_5 t129 _ ?side1 ?side2 A6.out).mono ?_
     (case side1 => repeat (first|exact (Kd.C_below HR0_4.out HB.out)|(with_reducible refine Kd.C_alloc ?_ _)|(with_reducible refine Kd.C_drewN ?_ _)|(with_reducible refine Kd.C_drew ?_)));(case side2 => exact HC0_4.out);rintro e w21 ⟨rfl,hb⟩;refine ⟨_,rfl,?_⟩;have n0_:=Aside0.mk (blk_below (g:=gb125) (o:=.cells #[.int .i64 a0_0,.string a0_1,.int .u32 a0_2,.bool a0_3,.slice A0_4 l0_4.length c0_4,.int .i64 a0_5] 25 (0,0)) (by (with_reducible repeat (first|refine blk_drewN ?_ _|refine blk_drew ?_|refine blk_alloc ?_ _));exact BK125.out) hb);have n1_:=Aside0.mk (below_step (by repeat (first|(with_reducible first|exact HB.out|apply below_alloc|apply pw_below_drewN|apply below_drew1|refine below_set ?_ GE125.out)|exact HB.out)) hb);clear BK125;clear HB;have BK125:=n0_;have HB:=n1_;clear n0_ n1_;(try clear hb);(try clear hb2);(try clear hk);(try clear hi);refine hK.out _ _ ⟨(blk_cell BK125.out 0).trans rfl,(blk_cell BK125.out 1).trans rfl,(blk_cell BK125.out 2).trans rfl,(blk_cell BK125.out 3).trans rfl,(blk_cell BK125.out 4).trans rfl,(blk_cell BK125.out 5).trans rfl⟩ (fun hHeld => ?_);clear hK K;refine norm_ (a' := ?_) ?_ ?_;rotate_left
     · show Act.put _ (some 12) _ = _
       simp only [Act.put,List.setIfInBounds_toArray,List.set_cons_zero,List.set_cons_succ,i64_w,i32_w];rfl
     refine pure_ (i:=10) (N:=some 13) (v:=?_) (a' := ?_) #[true,true,true,true,true,true,true,true,true,true,true,false,false,false,false,false] rfl rfl (any_of HT_.out (by kernel_rfl)) (fun _ _ _ h => h) (Or.inl ⟨by rfl,?_⟩) ?_ ?_;rotate_left
     · intro w';go_simp
       with_reducible rfl
     rotate_left
     · simp only [Act.put,List.setIfInBounds_toArray,List.set_cons_zero,List.set_cons_succ,i64_w,i32_w];rfl
     refine pure_ (i:=11) (N:=some 14) (v:=?_) (a' := ?_) #[true,true,true,true,true,true,true,true,true,true,true,true,false,false,false,false] rfl rfl (any_of HT_.out (by kernel_rfl)) (fun _ _ _ h => h) (Or.inl ⟨by rfl,?_⟩) ?_ ?_;rotate_left
     · intro w';go_simp
       with_reducible rfl
     rotate_left
     · simp only [Act.put,List.setIfInBounds_toArray,List.set_cons_zero,List.set_cons_succ,i64_w,i32_w];rfl
     refine pure_ (i:=12) (N:=some 15) (v:=?_) (a' := ?_) #[true,true,true,true,true,true,true,true,true,true,true,true,true,false,false,false] rfl rfl (any_of HT_.out (by kernel_rfl)) (fun _ _ _ h => h) (Or.inl ⟨by rfl,?_⟩) ?_ ?_;rotate_left
     · intro w';go_simp
       with_reducible rfl
     rotate_left
     · simp only [Act.put,List.setIfInBounds_toArray,List.set_cons_zero,List.set_cons_succ,i64_w,i32_w];rfl
     refine pure_ (i:=13) (N:=some 16) (v:=undef) (a' := ?_) #[true,true,true,true,true,true,true,true,true,true,true,true,true,true,false,false] rfl rfl (any_of HT_.out (by kernel_rfl)) (fun _ _ _ h => h) (Or.inr ⟨by rfl,rfl⟩) ?_ ?_;rotate_left
     · simp only [Act.put,List.setIfInBounds_toArray,List.set_cons_zero,List.set_cons_succ,i64_w,i32_w];rfl
     refine pure_ (i:=14) (N:=some 17) (v:=?_) (a' := ?_) #[true,true,true,true,true,true,true,true,true,true,true,true,true,true,true,false] rfl rfl (any_of HT_.out (by kernel_rfl)) (fun _ _ _ h => h) (Or.inl ⟨by rfl,?_⟩) ?_ ?_;rotate_left
     · intro w';go_simp
       with_reducible rfl
     rotate_left
     · simp only [Act.put,List.setIfInBounds_toArray,List.set_cons_zero,List.set_cons_succ,i64_w,i32_w];rfl
     refine pure_ (i:=15) (N:=some 2) (v:=?_) (a' := ?_) #[true,true,true,true,true,true,true,true,true,true,true,true,true,true,true,true] rfl rfl (any_of HT_.out (by kernel_rfl)) (fun _ _ _ h => h) (Or.inl ⟨by rfl,?_⟩) ?_ ?_;rotate_left
     · intro w';go_simp
       with_reducible rfl
     rotate_left
     · simp only [Act.put,List.setIfInBounds_toArray,List.set_cons_zero,List.set_cons_succ,i64_w,i32_w];rfl
     refine done_ (done_of HT_.out (by kernel_rfl)) ?_;try go_wp2
     go_ret
     exact ⟨by first|rfl|(simp [errW_none,errW_some] <;> rfl)|(simp [*,errW_none,errW_some] <;> rfl),by repeat (first|(with_reducible first|exact HB.out|apply below_alloc|apply pw_below_drewN|apply below_drew1|refine below_set ?_ GE125.out)|exact HB.out)⟩
 · rw [if_neg c4] at H;have c4b0 : (t126 == t127) = false:=beq_eq_false_iff_ne.mpr c4;have c4b1 : (t126 != t127) = true:=bne_iff_ne.mpr c4;obtain rfl:=Option.some.inj H;go_enter Tryz.func6,Tryz.ntmps6
   try go_wp2_with (first|((with_reducible refine gate_dst (N:=1) rfl ?_);refine box_event ?hg (N:=1) ?hd (cs:=#[.int .i64 a0_0,.string a0_1,.int .u32 a0_2,.bool a0_3,.slice A0_4 l0_4.length c0_4,.int .i64 a0_5]) (t:=25) ?hr ?_;(case hd => rfl);(case hg => rfl);(case hr => first|(go_simp;done)|(go_simp;rfl));intro gb125 hg w22 hbox hb;have n0_:=Aside0.mk (below_step (by repeat (first|(with_reducible first|exact HB.out|apply below_alloc|apply pw_below_drewN|apply below_drew1)|exact HB.out)) hb);have n1_:=Aside0.mk (hbox);have n2_:=Aside0.mk ((by rw [hg];exact (below_size (by repeat (first|(with_reducible first|exact HB.out|apply below_alloc|apply pw_below_drewN|apply below_drew1)|exact HB.out))) : w.heap.size ≤ gb125));have n3_:=Aside0.mk ((by rw [hg];exact (below_size (by repeat (first|(with_reducible first|exact HB.out|apply below_alloc|apply pw_below_drewN|apply below_drew1)|exact HB.out))) : w.heap.size ≤ gb125));clear HB;have HB:=n0_;have BK125:=n1_;have GW125:=n2_;have GE125:=n3_;clear n0_ n1_ n2_ n3_;clear hb hbox hg))
   have n0_:=Aside0.mk (blk_drew BK125.out);have n1_:=Aside0.mk (below_drew1 HB.out);clear BK125;clear HB;have BK125:=n0_;have HB:=n1_;clear n0_ n1_;refine start_ (n:=16) (S:=fun w' => w'.cell? ⟨gb125,0,none⟩ = some (.int .i64 a0_0) ∧ w'.cell? ⟨gb125,1,none⟩ = some (.string a0_1) ∧ w'.cell? ⟨gb125,2,none⟩ = some (.int .u32 a0_2) ∧ w'.cell? ⟨gb125,3,none⟩ = some (.bool a0_3) ∧ w'.cell? ⟨gb125,4,none⟩ = some (.slice A0_4 l0_4.length c0_4) ∧ w'.cell? ⟨gb125,5,none⟩ = some (.int .i64 a0_5)) (ds:=[]) #[false,false,false,false,false,false,false,false,false,false,false,false,false,false,false,false] (by kernel_rfl) rfl rfl ⟨(blk_cell BK125.out 0).trans rfl,(blk_cell BK125.out 1).trans rfl,(blk_cell BK125.out 2).trans rfl,(blk_cell BK125.out 3).trans rfl,(blk_cell BK125.out 4).trans rfl,(blk_cell BK125.out 5).trans rfl⟩ (fun hHeld => ?_);refine with_tabW cruciblelaw08_AstSizes.tab1 cruciblelaw08_AstSizes.bits1 (fun HT_ HW_ => ?_);generalize w22.drew = w23 at BK125 HB hHeld ⊢;refine take_ (i:=0) (N:=some 3) (v:=?_) (a' := ?_) #[true,false,false,false,false,false,false,false,false,false,false,false,false,false,false,false] rfl rfl (take_ofW HT_.out HW_.out (by kernel_rfl)) (fun _ _ _ h => h) (Or.inl ⟨by rfl,?_⟩) hHeld ?_ ?_;rotate_left
   · rintro w' ⟨s0,s1,s2,s3,s4,s5⟩;go_simp
     with_reducible rfl
   rotate_left
   · simp only [Act.put,List.setIfInBounds_toArray,List.set_cons_zero,List.set_cons_succ,i64_w,i32_w];rfl
   refine take_ (i:=2) (N:=some 5) (v:=?_) (a' := ?_) #[true,false,true,false,false,false,false,false,false,false,false,false,false,false,false,false] rfl rfl (take_ofW HT_.out HW_.out (by kernel_rfl)) (fun _ _ _ h => h) (Or.inl ⟨by rfl,?_⟩) hHeld ?_ ?_;rotate_left
   · rintro w' ⟨s0,s1,s2,s3,s4,s5⟩;go_simp
     with_reducible rfl
   rotate_left
   · simp only [Act.put,List.setIfInBounds_toArray,List.set_cons_zero,List.set_cons_succ,i64_w,i32_w];rfl
   refine one_ (i:=1) (N:=some 4) #[true,true,true,false,false,false,false,false,false,false,false,false,false,false,false,false] rfl rfl (one_of HT_.out (by kernel_rfl)) (by decide) (fun K hK => ?_);refine goes_ Tryz.func16 (by kernel_rfl) rfl #[.agg #[.int .i64 a0_0,.string a0_1,.int .u32 a0_2,.bool a0_3,.slice A0_4 l0_4.length c0_4,.int .i64 a0_5]] (by rfl) rfl rfl (by (try simp only [List.map_toArray,List.map_cons,List.map_nil]);first|done|rfl|(simp only [List.length_drop,List.length_take];rfl)) ?_
   with_reducible refine (ast_Size.calls k a0_0 a0_1 a0_2 a0_3 _ _ l0_4 a0_5 t126 _ ?side1 ?side2 A2.out).mono ?_
   (case side1 => repeat (first|exact (Kd.C_below HR0_4.out HB.out)|(with_reducible refine Kd.C_alloc ?_ _)|(with_reducible refine Kd.C_drewN ?_ _)|(with_reducible refine Kd.C_drew ?_)));(case side2 => exact HC0_4.out);rintro e w24 ⟨rfl,hb⟩;refine ⟨_,rfl,?_⟩;have n0_:=Aside0.mk (blk_below (g:=gb125) (o:=.cells #[.int .i64 a0_0,.string a0_1,.int .u32 a0_2,.bool a0_3,.slice A0_4 l0_4.length c0_4,.int .i64 a0_5] 25 (0,0)) (by (with_reducible repeat (first|refine blk_drewN ?_ _|refine blk_drew ?_|refine blk_alloc ?_ _));exact BK125.out) hb);have n1_:=Aside0.mk (below_step (by repeat (first|(with_reducible first|exact HB.out|apply below_alloc|apply pw_below_drewN|apply below_drew1|refine below_set ?_ GE125.out)|exact HB.out)) hb);clear BK125;clear HB;have BK125:=n0_;have HB:=n1_;clear n0_ n1_;(try clear hb);(try clear hb2);(try clear hk);(try clear hi);refine hK.out _ _ ⟨(blk_cell BK125.out 0).trans rfl,(blk_cell BK125.out 1).trans rfl,(blk_cell BK125.out 2).trans rfl,(blk_cell BK125.out 3).trans rfl,(blk_cell BK125.out 4).trans rfl,(blk_cell BK125.out 5).trans rfl⟩ (fun hHeld => ?_);clear hK K;refine norm_ (a' := ?_) ?_ ?_;rotate_left
   · show Act.put _ (some 4) _ = _
     simp only [Act.put,List.setIfInBounds_toArray,List.set_cons_zero,List.set_cons_succ,i64_w,i32_w];rfl
   refine one_ (i:=3) (N:=some 6) #[true,true,true,true,false,false,false,false,false,false,false,false,false,false,false,false] rfl rfl (one_of HT_.out (by kernel_rfl)) (by decide) (fun K hK => ?_);refine goes_ Tryz.func13 (by kernel_rfl) rfl #[.agg #[.int .i64 a0_0,.string a0_1,.int .u32 a0_2,.bool a0_3,.slice A0_4 l0_4.length c0_4,.int .i64 a0_5]] (by rfl) rfl rfl (by (try simp only [List.map_toArray,List.map_cons,List.map_nil]);first|done|rfl|(simp only [List.length_drop,List.length_take];rfl)) ?_
   with_reducible refine (crucibleref08_Size.calls k a0_0 a0_1 a0_2 a0_3 _ _ l0_4 a0_5 t127 _ ?side1 ?side2 A3.out).mono ?_
   (case side1 => repeat (first|exact (Kd.C_below HR0_4.out HB.out)|(with_reducible refine Kd.C_alloc ?_ _)|(with_reducible refine Kd.C_drewN ?_ _)|(with_reducible refine Kd.C_drew ?_)));(case side2 => exact HC0_4.out);rintro e w25 ⟨rfl,hb⟩;refine ⟨_,rfl,?_⟩;have n0_:=Aside0.mk (blk_below (g:=gb125) (o:=.cells #[.int .i64 a0_0,.string a0_1,.int .u32 a0_2,.bool a0_3,.slice A0_4 l0_4.length c0_4,.int .i64 a0_5] 25 (0,0)) (by (with_reducible repeat (first|refine blk_drewN ?_ _|refine blk_drew ?_|refine blk_alloc ?_ _));exact BK125.out) hb);have n1_:=Aside0.mk (below_step (by repeat (first|(with_reducible first|exact HB.out|apply below_alloc|apply pw_below_drewN|apply below_drew1|refine below_set ?_ GE125.out)|exact HB.out)) hb);clear BK125;clear HB;have BK125:=n0_;have HB:=n1_;clear n0_ n1_;(try clear hb);(try clear hb2);(try clear hk);(try clear hi);refine hK.out _ _ ⟨(blk_cell BK125.out 0).trans rfl,(blk_cell BK125.out 1).trans rfl,(blk_cell BK125.out 2).trans rfl,(blk_cell BK125.out 3).trans rfl,(blk_cell BK125.out 4).trans rfl,(blk_cell BK125.out 5).trans rfl⟩ (fun hHeld => ?_);clear hK K;refine norm_ (a' := ?_) ?_ ?_;rotate_left
   · show Act.put _ (some 6) _ = _
     simp only [Act.put,List.setIfInBounds_toArray,List.set_cons_zero,List.set_cons_succ,i64_w,i32_w];rfl
   refine pure_ (i:=4) (N:=some 7) (v:=?_) (a' := ?_) #[true,true,true,true,true,false,false,false,false,false,false,false,false,false,false,false] rfl rfl (any_of HT_.out (by kernel_rfl)) (fun _ _ _ h => h) (Or.inl ⟨by rfl,?_⟩) ?_ ?_;rotate_left
   · intro w';go_simp
     with_reducible rfl
   rotate_left
   · simp only [Act.put,List.setIfInBounds_toArray,List.set_cons_zero,List.set_cons_succ,i64_w,i32_w];rfl
   refine pure_ (i:=5) (N:=some 8) (v:=?_) (a' := ?_) #[true,true,true,true,true,true,false,false,false,false,false,false,false,false,false,false] rfl rfl (any_of HT_.out (by kernel_rfl)) (fun _ _ _ h => h) (Or.inl ⟨by rfl,?_⟩) ?_ ?_;rotate_left
   · intro w';go_simp
     with_reducible rfl
   rotate_left
   · simp only [Act.put,List.setIfInBounds_toArray,List.set_cons_zero,List.set_cons_succ,i64_w,i32_w];rfl
   refine pure_ (i:=6) (N:=some 9) (v:=undef) (a' := ?_) #[true,true,true,true,true,true,true,false,false,false,false,false,false,false,false,false] rfl rfl (any_of HT_.out (by kernel_rfl)) (fun _ _ _ h => h) (Or.inr ⟨by rfl,rfl⟩) ?_ ?_;rotate_left
   · simp only [Act.put,List.setIfInBounds_toArray,List.set_cons_zero,List.set_cons_succ,i64_w,i32_w];rfl
   refine pure_ (i:=7) (N:=some 10) (v:=undef) (a' := ?_) #[true,true,true,true,true,true,true,true,false,false,false,false,false,false,false,false] rfl rfl (any_of HT_.out (by kernel_rfl)) (fun _ _ _ h => h) (Or.inr ⟨by rfl,rfl⟩) ?_ ?_;rotate_left
   · simp only [Act.put,List.setIfInBounds_toArray,List.set_cons_zero,List.set_cons_succ,i64_w,i32_w];rfl
   refine pure_ (i:=8) (N:=some 11) (v:=undef) (a' := ?_) #[true,true,true,true,true,true,true,true,true,false,false,false,false,false,false,false] rfl rfl (any_of HT_.out (by kernel_rfl)) (fun _ _ _ h => h) (Or.inr ⟨by rfl,rfl⟩) ?_ ?_;rotate_left
   · simp only [Act.put,List.setIfInBounds_toArray,List.set_cons_zero,List.set_cons_succ,i64_w,i32_w];rfl
   refine pure_ (i:=9) (N:=some 12) (v:=undef) (a' := ?_) #[true,true,true,true,true,true,true,true,true,true,false,false,false,false,false,false] rfl rfl (any_of HT_.out (by kernel_rfl)) (fun _ _ _ h => h) (Or.inr ⟨by rfl,rfl⟩) ?_ ?_;rotate_left
   · simp only [Act.put,List.setIfInBounds_toArray,List.set_cons_zero,List.set_cons_succ,i64_w,i32_w];rfl
   refine pure_ (i:=10) (N:=some 13) (v:=undef) (a' := ?_) #[true,true,true,true,true,true,true,true,true,true,true,false,false,false,false,false] rfl rfl (any_of HT_.out (by kernel_rfl)) (fun _ _ _ h => h) (Or.inr ⟨by rfl,rfl⟩) ?_ ?_;rotate_left
   · simp only [Act.put,List.setIfInBounds_toArray,List.set_cons_zero,List.set_cons_succ,i64_w,i32_w];rfl
   refine pure_ (i:=11) (N:=some 14) (v:=?_) (a' := ?_) #[true,true,true,true,true,true,true,true,true,true,true,true,false,false,false,false] rfl rfl (any_of HT_.out (by kernel_rfl)) (fun _ _ _ h => h) (Or.inl ⟨by rfl,?_⟩) ?_ ?_;rotate_left
   · intro w';go_simp
     with_reducible rfl
   rotate_left
   · simp only [Act.put,List.setIfInBounds_toArray,List.set_cons_zero,List.set_cons_succ,i64_w,i32_w];rfl
   refine pure_ (i:=12) (N:=some 15) (v:=?_) (a' := ?_) #[true,true,true,true,true,true,true,true,true,true,true,true,true,false,false,false] rfl rfl (any_of HT_.out (by kernel_rfl)) (fun _ _ _ h => h) (Or.inl ⟨by rfl,?_⟩) ?_ ?_;rotate_left
   · intro w';go_simp
     with_reducible rfl
   rotate_left
   · simp only [Act.put,List.setIfInBounds_toArray,List.set_cons_zero,List.set_cons_succ,i64_w,i32_w];rfl
   refine pure_ (i:=13) (N:=some 16) (v:=undef) (a' := ?_) #[true,true,true,true,true,true,true,true,true,true,true,true,true,true,false,false] rfl rfl (any_of HT_.out (by kernel_rfl)) (fun _ _ _ h => h) (Or.inr ⟨by rfl,rfl⟩) ?_ ?_;rotate_left
   · simp only [Act.put,List.setIfInBounds_toArray,List.set_cons_zero,List.set_cons_succ,i64_w,i32_w];rfl
   refine pure_ (i:=14) (N:=some 17) (v:=?_) (a' := ?_) #[true,true,true,true,true,true,true,true,true,true,true,true,true,true,true,false] rfl rfl (any_of HT_.out (by kernel_rfl)) (fun _ _ _ h => h) (Or.inl ⟨by rfl,?_⟩) ?_ ?_;rotate_left
   · intro w';go_simp
     with_reducible rfl
   rotate_left
   · simp only [Act.put,List.setIfInBounds_toArray,List.set_cons_zero,List.set_cons_succ,i64_w,i32_w];rfl
   refine pure_ (i:=15) (N:=some 2) (v:=?_) (a' := ?_) #[true,true,true,true,true,true,true,true,true,true,true,true,true,true,true,true] rfl rfl (any_of HT_.out (by kernel_rfl)) (fun _ _ _ h => h) (Or.inl ⟨by rfl,?_⟩) ?_ ?_;rotate_left
   · intro w';go_simp
     with_reducible rfl
   rotate_left
   · simp only [Act.put,List.setIfInBounds_toArray,List.set_cons_zero,List.set_cons_succ,i64_w,i32_w];rfl
   refine done_ (done_of HT_.out (by kernel_rfl)) ?_;try go_wp2
   go_ret
   exact ⟨by first|rfl|(simp [errW_none,errW_some] <;> rfl)|(simp [*,errW_none,errW_some] <;> rfl),by repeat (first|(with_reducible first|exact HB.out|apply below_alloc|apply pw_below_drewN|apply below_drew1|refine below_set ?_ GE125.out)|exact HB.out)⟩
end Go.Proofs.YtboojhadfhpdeaaGreatDoor.Q
namespace Go.Proofs.YtboojhadfhpdeaaGreatDoor.Q
open Go.RowKit Go.Proofs.YtboojhadfhpdeaaGreatDoorW.PrintWords Go.Proofs.YtboojhadfhpdeaaGreatDoorW.PrintLast Go.Proofs.YtboojhadfhpdeaaGreatDoorW.PrintMore
theorem up_ {α : Type} {f : Nat → Option α} (h : ∀ k,LeO (f k) (f (k + 1))) {k k' : Nat} (hk : k ≤ k') {r : α} (e : f k = some r) : f k' = some r:=by
 induction hk with
 | refl => exact e
 | step _ ih => exact h _ _ ih
inductive Fit : S25 → Prop
 | mk (x : S25) (h : x.f4.length ≤ 9223372036854775807) (hk : ∀ y ∈ x.f4,Fit y) : Fit x
theorem rd_mem {xs : List S25} {i : Nat} (h : i < xs.length) : rd_T25 xs (i : Int) ∈ xs:=by
 have : rd_T25 xs (i : Int) = xs[i]:=by simp [rd_T25,h]
 rw [this];exact List.getElem_mem h
theorem w64 {i n : Nat} (h : i < n) (hn : n ≤ 9223372036854775807) : wrap64 ((i : Int) + 1) = ((i + 1 : Nat) : Int):=by unfold wrap64;omega
theorem w64' {a : Int} (h : 0 ≤ a) (hn : a ≤ 262144) : wrap64 (a + 1) = a + 1:=by unfold wrap64;omega
def Cnt (x : S25) : Prop:=∀ a : Int,0 ≤ a → a ≤ 262144 → ∃ k r,0 ≤ r ∧ r ≤ 262145 ∧ ast_count.f k x.f0 x.f1 x.f2 x.f3 x.f4 x.f5 a = some r ∧ crucibleref08_counted.f k x.f0 x.f1 x.f2 x.f3 x.f4 x.f5 a = some r
theorem count_loop (x : S25) (hl : x.f4.length ≤ 9223372036854775807) (hk : ∀ y ∈ x.f4,Cnt y) : ∀ (d i : Nat),i + d = x.f4.length → ∀ c : Int,0 ≤ c → c ≤ 262145 →
 ∃ k r,0 ≤ r ∧ r ≤ 262145 ∧ ast_count.l0 k c x.f4 x.f4.length i = some r ∧ crucibleref08_counted.l0 k c i x.f0 x.f1 x.f2 x.f3 x.f4 x.f5 = some r
 | 0,i,hd,c,h0,h1 => by
  refine ⟨1,c,h0,h1,?_,?_⟩
  · unfold ast_count.l0;rw [if_neg (by omega)]
  · unfold crucibleref08_counted.l0;rw [if_neg (by omega)]
 | d + 1,i,hd,c,h0,h1 => by
  have hi : i < x.f4.length:=by omega
  by_cases hc : c ≤ 262144
  · obtain ⟨k,r,r0,r1,e1,e2⟩:=hk _ (rd_mem hi) c h0 hc;obtain ⟨k',r',r0',r1',e1',e2'⟩:=count_loop x hl hk d (i + 1) (by omega) r r0 r1;refine ⟨max k k' + 1,r',r0',r1',?_,?_⟩
    · unfold ast_count.l0;rw [if_pos (by omega),if_pos (by omega),if_pos (by omega),if_neg (by omega),up_ (fun k => ast_count.mono _ _ _ _ _ _ _ k) (Nat.le_max_left k k') e1,Option.bind_some,w64 hi hl];exact up_ (fun k => (ast_count.mono_l k).2 _ _ _ _) (Nat.le_max_right k k') e1'
    · unfold crucibleref08_counted.l0;rw [if_pos (by omega),if_pos (by omega),if_pos (by omega),up_ (fun k => crucibleref08_counted.mono _ _ _ _ _ _ _ k) (Nat.le_max_left k k') e2,Option.bind_some,w64 hi hl];exact up_ (fun k => (crucibleref08_counted.mono_l k).2 _ _ _ _ _ _ _ _) (Nat.le_max_right k k') e2'
  · refine ⟨1,c,h0,h1,?_,?_⟩
    · unfold ast_count.l0;rw [if_pos (by omega),if_pos (by omega),if_pos (by omega),if_pos (by omega)]
    · unfold crucibleref08_counted.l0;rw [if_pos (by omega),if_neg (by omega)]
theorem count_all {x : S25} (h : Fit x) : Cnt x:=by
 induction h with
 | mk x hl _ ih =>
  intro a h0 h1;obtain ⟨k,r,r0,r1,e1,e2⟩:=count_loop x hl ih x.f4.length 0 (by omega) (a + 1) (by omega) (by omega);refine ⟨k + 1,r,r0,r1,?_,?_⟩
  · unfold ast_count.f;rw [w64' h0 h1];exact e1
  · unfold crucibleref08_counted.f;rw [w64' h0 h1];exact e2
theorem fit_of_K : ∀ (n : Nat) (x : S25),SizeOf.sizeOf x < n → ∀ {w : World} {cs : List Value},k25.K w x cs → Fit x
 | 0,x,hn,_,_,_ => absurd hn (Nat.not_lt_zero _)
 | n + 1,x,hn,w,cs,hK => by
  obtain ⟨A4,c4,_,_,hC⟩:=k25_open hK;refine Fit.mk x hC.2.1 (fun y hy => ?_);obtain ⟨j,hj,rfl⟩:=List.mem_iff_getElem.1 hy;obtain ⟨ad,_,hc⟩:=hC.2.2 (by omega);obtain ⟨c,_,hk,_⟩:=hc j _ (List.getElem?_eq_getElem hj);refine fit_of_K n _ ?_ hk;have h1:=List.sizeOf_lt_of_mem hy;have h2 : SizeOf.sizeOf x = 1 + SizeOf.sizeOf x.f0 + SizeOf.sizeOf x.f1 + SizeOf.sizeOf x.f2 + SizeOf.sizeOf x.f3 + SizeOf.sizeOf x.f4 + SizeOf.sizeOf x.f5:=by cases x;simp [S25.mk.sizeOf_spec]
  omega
theorem fit_of_C {w : World} {A : Option Addr} {x : S25} (h : Kd.C k25 w A x.f4.length x.f4) : Fit x:=by
 refine Fit.mk x h.2.1 (fun y hy => ?_);obtain ⟨j,hj,rfl⟩:=List.mem_iff_getElem.1 hy;obtain ⟨ad,_,hc⟩:=h.2.2 (by omega);obtain ⟨c,_,hk,_⟩:=hc j _ (List.getElem?_eq_getElem hj);exact fit_of_K _ _ (Nat.lt_succ_self _) hk
end Go.Proofs.YtboojhadfhpdeaaGreatDoor.Q
namespace Go.Proofs.YtboojhadfhpdeaaGreatDoor.Q
open Go.RowKit Go.Proofs.YtboojhadfhpdeaaGreatDoorW.PrintWords Go.Proofs.YtboojhadfhpdeaaGreatDoorW.PrintLast Go.Proofs.YtboojhadfhpdeaaGreatDoorW.PrintMore
attribute [local go_sem] max2_int min2_int max_two min_two max_three min_three max_four min_four
set_option linter.unusedVariables false
set_option linter.unusedSimpArgs false
def ast_open.f : Nat → Int → ByteArray → Int → Bool → List (S25) → Int → Option (Bool)
 | 0,_,_,_,_,_,_ => none
 | k + 1,a0_0,a0_1,a0_2,a0_3,l0_4,a0_5 => if a0_0 = 49 then (if (l0_4.length : Int) = 2 then (some true) else (if (l0_4.length : Int) > 0 then (if 0 ≤ (wrap64 ((l0_4.length : Int) - 1)) then (if (wrap64 ((l0_4.length : Int) - 1)) < (l0_4.length : Int) then ((ast_open.f k ((rd_T25 l0_4 (wrap64 ((l0_4.length : Int) - 1))).f0) ((rd_T25 l0_4 (wrap64 ((l0_4.length : Int) - 1))).f1) ((rd_T25 l0_4 (wrap64 ((l0_4.length : Int) - 1))).f2) ((rd_T25 l0_4 (wrap64 ((l0_4.length : Int) - 1))).f3) ((rd_T25 l0_4 (wrap64 ((l0_4.length : Int) - 1))).f4) ((rd_T25 l0_4 (wrap64 ((l0_4.length : Int) - 1))).f5)).bind fun t103 => (some t103)) else (none)) else (none)) else (some false))) else (if a0_0 = 50 then (if (l0_4.length : Int) > 0 then (if 0 ≤ (wrap64 ((l0_4.length : Int) - 1)) then (if (wrap64 ((l0_4.length : Int) - 1)) < (l0_4.length : Int) then ((ast_open.f k ((rd_T25 l0_4 (wrap64 ((l0_4.length : Int) - 1))).f0) ((rd_T25 l0_4 (wrap64 ((l0_4.length : Int) - 1))).f1) ((rd_T25 l0_4 (wrap64 ((l0_4.length : Int) - 1))).f2) ((rd_T25 l0_4 (wrap64 ((l0_4.length : Int) - 1))).f3) ((rd_T25 l0_4 (wrap64 ((l0_4.length : Int) - 1))).f4) ((rd_T25 l0_4 (wrap64 ((l0_4.length : Int) - 1))).f5)).bind fun t105 => (some t105)) else (none)) else (none)) else (some false)) else (if a0_0 = 52 then (if (l0_4.length : Int) > 0 then (if 0 ≤ (wrap64 ((l0_4.length : Int) - 1)) then (if (wrap64 ((l0_4.length : Int) - 1)) < (l0_4.length : Int) then ((ast_open.f k ((rd_T25 l0_4 (wrap64 ((l0_4.length : Int) - 1))).f0) ((rd_T25 l0_4 (wrap64 ((l0_4.length : Int) - 1))).f1) ((rd_T25 l0_4 (wrap64 ((l0_4.length : Int) - 1))).f2) ((rd_T25 l0_4 (wrap64 ((l0_4.length : Int) - 1))).f3) ((rd_T25 l0_4 (wrap64 ((l0_4.length : Int) - 1))).f4) ((rd_T25 l0_4 (wrap64 ((l0_4.length : Int) - 1))).f5)).bind fun t107 => (some t107)) else (none)) else (none)) else (some false)) else (some false)))
theorem ast_open.mono_l : ∀ k,(∀ y0 y1 y2 y3 y4 y5,LeO (ast_open.f k y0 y1 y2 y3 y4 y5) (ast_open.f (k + 1) y0 y1 y2 y3 y4 y5))
 | 0 => fun _ _ _ _ _ _ r h => by simp [ast_open.f] at h
 | k + 1 => by
  have ih0:=ast_open.mono_l k
  · intro y0 y1 y2 y3 y4 y5;unfold ast_open.f
    repeat' first
    | (with_reducible exact ih0 _ _ _ _ _ _)
    | (with_reducible exact LeO.refl _)
    | (with_reducible exact LeO.none _)
    | (with_reducible refine LeO.ite ?_ ?_)
    | (with_reducible refine LeO.bind ?_ (fun _ => ?_))
    | exact ih0 _ _ _ _ _ _
    | exact LeO.none _
    | refine LeO.ite ?_ ?_
    | refine LeO.bind ?_ (fun _ => ?_)
theorem ast_open.mono : ∀ a0 a1 a2 a3 a4 a5 k,LeO (ast_open.f k a0 a1 a2 a3 a4 a5) (ast_open.f (k + 1) a0 a1 a2 a3 a4 a5):=by
 intro a0 a1 a2 a3 a4 a5 k;have ih0:=ast_open.mono_l k;exact ih0 a0 a1 a2 a3 a4 a5
set_option maxHeartbeats 8000000 in
set_option maxRecDepth 100000 in
theorem ast_open.calls (k : Nat) : ∀ (a0_0 : Int) (a0_1 : ByteArray) (a0_2 : Int) (a0_3 : Bool) (A0_4 : Option Addr) (c0_4 : Nat) (l0_4 : List (S25)) (a0_5 : Int) (r : Bool) (w : World) (hr0_4 : Kd.C k25 w A0_4 l0_4.length l0_4) (hc0_4 : l0_4.length ≤ c0_4) (h : ast_open.f k a0_0 a0_1 a0_2 a0_3 l0_4 a0_5 = some r),
 Calls Tryz.prog 74 #[.agg #[.int .i64 a0_0,.string a0_1,.int .u32 a0_2,.bool a0_3,.slice A0_4 l0_4.length c0_4,.int .i64 a0_5]] w fun e w' => e = .returned (.bool r) ∧ Below w.heap.size w w' := by
 induction k using Nat.strongRecOn with
 | _ k ih =>
 intro a0_0 a0_1 a0_2 a0_3 A0_4 c0_4 l0_4 a0_5 r w hr0_4 hc0_4 h;cases k with
 | zero => exact absurd h (by simp [ast_open.f])
 | succ k =>
 simp only [ast_open.f] at h;have hu25:=Tryz.underlying25;have HR0_4:=Aside0.mk hr0_4;have HC0_4:=Aside0.mk hc0_4;clear hr0_4 hc0_4;have HB:=Aside0.mk (Below.refl w.heap.size w);have H : (if a0_0 = 49 then (if (l0_4.length : Int) = 2 then (some true) else (if (l0_4.length : Int) > 0 then (if 0 ≤ (wrap64 ((l0_4.length : Int) - 1)) then (if (wrap64 ((l0_4.length : Int) - 1)) < (l0_4.length : Int) then ((ast_open.f k ((rd_T25 l0_4 (wrap64 ((l0_4.length : Int) - 1))).f0) ((rd_T25 l0_4 (wrap64 ((l0_4.length : Int) - 1))).f1) ((rd_T25 l0_4 (wrap64 ((l0_4.length : Int) - 1))).f2) ((rd_T25 l0_4 (wrap64 ((l0_4.length : Int) - 1))).f3) ((rd_T25 l0_4 (wrap64 ((l0_4.length : Int) - 1))).f4) ((rd_T25 l0_4 (wrap64 ((l0_4.length : Int) - 1))).f5)).bind fun t103 => (some t103)) else (none)) else (none)) else (some false))) else (if a0_0 = 50 then (if (l0_4.length : Int) > 0 then (if 0 ≤ (wrap64 ((l0_4.length : Int) - 1)) then (if (wrap64 ((l0_4.length : Int) - 1)) < (l0_4.length : Int) then ((ast_open.f k ((rd_T25 l0_4 (wrap64 ((l0_4.length : Int) - 1))).f0) ((rd_T25 l0_4 (wrap64 ((l0_4.length : Int) - 1))).f1) ((rd_T25 l0_4 (wrap64 ((l0_4.length : Int) - 1))).f2) ((rd_T25 l0_4 (wrap64 ((l0_4.length : Int) - 1))).f3) ((rd_T25 l0_4 (wrap64 ((l0_4.length : Int) - 1))).f4) ((rd_T25 l0_4 (wrap64 ((l0_4.length : Int) - 1))).f5)).bind fun t105 => (some t105)) else (none)) else (none)) else (some false)) else (if a0_0 = 52 then (if (l0_4.length : Int) > 0 then (if 0 ≤ (wrap64 ((l0_4.length : Int) - 1)) then (if (wrap64 ((l0_4.length : Int) - 1)) < (l0_4.length : Int) then ((ast_open.f k ((rd_T25 l0_4 (wrap64 ((l0_4.length : Int) - 1))).f0) ((rd_T25 l0_4 (wrap64 ((l0_4.length : Int) - 1))).f1) ((rd_T25 l0_4 (wrap64 ((l0_4.length : Int) - 1))).f2) ((rd_T25 l0_4 (wrap64 ((l0_4.length : Int) - 1))).f3) ((rd_T25 l0_4 (wrap64 ((l0_4.length : Int) - 1))).f4) ((rd_T25 l0_4 (wrap64 ((l0_4.length : Int) - 1))).f5)).bind fun t107 => (some t107)) else (none)) else (none)) else (some false)) else (some false)))) = some r:=h;clear h;by_cases c2 : a0_0 = 49
 · rw [if_pos c2] at H;have c2b0 : (a0_0 == 49) = true:=beq_iff_eq.mpr c2;have c2b1 : (a0_0 != 49) = false:=bne_eq_false_iff_eq.mpr c2;clear c2;by_cases c3 : (l0_4.length : Int) = 2
   · rw [if_pos c3] at H;have c3b0 : ((l0_4.length : Int) == 2) = true:=beq_iff_eq.mpr c3;have c3b1 : ((l0_4.length : Int) != 2) = false:=bne_eq_false_iff_eq.mpr c3;clear c3;obtain rfl:=Option.some.inj H;go_enter Tryz.func74,Tryz.ntmps74
     go_wp2_with (first|((with_reducible refine gate_dst (N:=1) rfl ?_);(try (refine gate_guard (by rfl) ?_;dsimp only));refine box_event ?hg (N:=1) ?hd (cs:=#[.int .i64 a0_0,.string a0_1,.int .u32 a0_2,.bool a0_3,.slice A0_4 l0_4.length c0_4,.int .i64 a0_5]) (t:=25) ?hr ?_;(case hd => rfl);(case hg => rfl);(case hr => first|(go_simp;done)|(go_simp;rfl));intro gb101 hg w4 hbox hb;have n0_:=Aside0.mk (below_step (by repeat (first|(with_reducible first|exact HB.out|apply below_alloc|apply pw_below_drewN|apply below_drew1)|exact HB.out)) hb);have n1_:=Aside0.mk (hbox);have n2_:=Aside0.mk ((by rw [hg];exact (below_size (by repeat (first|(with_reducible first|exact HB.out|apply below_alloc|apply pw_below_drewN|apply below_drew1)|exact HB.out))) : w.heap.size ≤ gb101));have n3_:=Aside0.mk ((by rw [hg];exact (below_size (by repeat (first|(with_reducible first|exact HB.out|apply below_alloc|apply pw_below_drewN|apply below_drew1)|exact HB.out))) : w.heap.size ≤ gb101));clear HB;have HB:=n0_;have BK101:=n1_;have GW101:=n2_;have GE101:=n3_;clear n0_ n1_ n2_ n3_;clear hb hbox hg;have hcz5_0 : w4.cell? ⟨gb101,0,none⟩ = some (.int .i64 a0_0):=(blk_cell BK101.out 0).trans rfl;have hcz5_1 : w4.cell? ⟨gb101,1,none⟩ = some (.string a0_1):=(blk_cell BK101.out 1).trans rfl;have hcz5_2 : w4.cell? ⟨gb101,2,none⟩ = some (.int .u32 a0_2):=(blk_cell BK101.out 2).trans rfl;have hcz5_3 : w4.cell? ⟨gb101,3,none⟩ = some (.bool a0_3):=(blk_cell BK101.out 3).trans rfl;have hcz5_4 : w4.cell? ⟨gb101,4,none⟩ = some (.slice A0_4 l0_4.length c0_4):=(blk_cell BK101.out 4).trans rfl;have hcz5_5 : w4.cell? ⟨gb101,5,none⟩ = some (.int .i64 a0_5):=(blk_cell BK101.out 5).trans rfl;have hfz5_0:=blk_frozen BK101.out 0;have hfz5_1:=blk_frozen BK101.out 1;have hfz5_2:=blk_frozen BK101.out 2;have hfz5_3:=blk_frozen BK101.out 3;have hfz5_4:=blk_frozen BK101.out 4;have hfz5_5:=blk_frozen BK101.out 5))
     go_ret
     exact ⟨by first|rfl|(simp [errW_none,errW_some] <;> rfl)|(simp [*,errW_none,errW_some] <;> rfl),by repeat (first|(with_reducible first|exact HB.out|apply below_alloc|apply pw_below_drewN|apply below_drew1|refine below_set ?_ GE101.out)|exact HB.out)⟩
   · rw [if_neg c3] at H;have c3b0 : ((l0_4.length : Int) == 2) = false:=beq_eq_false_iff_ne.mpr c3;have c3b1 : ((l0_4.length : Int) != 2) = true:=bne_iff_ne.mpr c3;by_cases c6 : (l0_4.length : Int) > 0
     · rw [if_pos c6] at H;have c6b0 : decide (0 < (l0_4.length : Int)) = true:=decide_eq_true c6;have c6b1 : decide (0 < l0_4.length) = true:=decide_eq_true (by omega);clear c6;obtain ⟨ji7,hji7⟩ : ∃ j_ : Int,(wrap64 ((l0_4.length : Int) - 1)) = j_:=⟨_,rfl⟩
       replace H : (if 0 ≤ (ji7) then (if (ji7) < (l0_4.length : Int) then ((ast_open.f k ((rd_T25 l0_4 (ji7)).f0) ((rd_T25 l0_4 (ji7)).f1) ((rd_T25 l0_4 (ji7)).f2) ((rd_T25 l0_4 (ji7)).f3) ((rd_T25 l0_4 (ji7)).f4) ((rd_T25 l0_4 (ji7)).f5)).bind fun t103 => (some t103)) else (none)) else (none)) = some r:=by first|(rw [hji7] at H;exact H)|(simp only [hji7] at H ⊢;exact H)
       have hji7w : (IntKind.i64.wrap ((l0_4.length : Int) - 1)) = ji7:=(i64_w _).trans hji7;by_cases c8 : 0 ≤ (ji7)
       · rw [if_pos c8] at H;have c8b0 : decide (0 ≤ (ji7)) = true:=decide_eq_true c8;clear c8;by_cases c9 : (ji7) < (l0_4.length : Int)
         · rw [if_pos c9] at H;have c9b0 : decide ((ji7) < (l0_4.length : Int)) = true:=decide_eq_true c9;clear c9;replace H:=Option.bind_eq_some_iff.mp H;obtain ⟨t103,A100,H⟩:=H;replace H : (some t103) = some r:=H;have A10:=Aside0.mk A100;clear A100;obtain rfl:=Option.some.inj H;go_enter Tryz.func74,Tryz.ntmps74
           go_wp2_with (first|((with_reducible refine gate_dst (N:=1) rfl ?_);(try (refine gate_guard (by rfl) ?_;dsimp only));refine box_event ?hg (N:=1) ?hd (cs:=#[.int .i64 a0_0,.string a0_1,.int .u32 a0_2,.bool a0_3,.slice A0_4 l0_4.length c0_4,.int .i64 a0_5]) (t:=25) ?hr ?_;(case hd => rfl);(case hg => rfl);(case hr => first|(go_simp;done)|(go_simp;rfl));intro gb101 hg w11 hbox hb;have n0_:=Aside0.mk (below_step (by repeat (first|(with_reducible first|exact HB.out|apply below_alloc|apply pw_below_drewN|apply below_drew1)|exact HB.out)) hb);have n1_:=Aside0.mk (hbox);have n2_:=Aside0.mk ((by rw [hg];exact (below_size (by repeat (first|(with_reducible first|exact HB.out|apply below_alloc|apply pw_below_drewN|apply below_drew1)|exact HB.out))) : w.heap.size ≤ gb101));have n3_:=Aside0.mk ((by rw [hg];exact (below_size (by repeat (first|(with_reducible first|exact HB.out|apply below_alloc|apply pw_below_drewN|apply below_drew1)|exact HB.out))) : w.heap.size ≤ gb101));clear HB;have HB:=n0_;have BK101:=n1_;have GW101:=n2_;have GE101:=n3_;clear n0_ n1_ n2_ n3_;clear hb hbox hg;have hcz12_0 : w11.cell? ⟨gb101,0,none⟩ = some (.int .i64 a0_0):=(blk_cell BK101.out 0).trans rfl;have hcz12_1 : w11.cell? ⟨gb101,1,none⟩ = some (.string a0_1):=(blk_cell BK101.out 1).trans rfl;have hcz12_2 : w11.cell? ⟨gb101,2,none⟩ = some (.int .u32 a0_2):=(blk_cell BK101.out 2).trans rfl;have hcz12_3 : w11.cell? ⟨gb101,3,none⟩ = some (.bool a0_3):=(blk_cell BK101.out 3).trans rfl;have hcz12_4 : w11.cell? ⟨gb101,4,none⟩ = some (.slice A0_4 l0_4.length c0_4):=(blk_cell BK101.out 4).trans rfl;have hcz12_5 : w11.cell? ⟨gb101,5,none⟩ = some (.int .i64 a0_5):=(blk_cell BK101.out 5).trans rfl;have hfz12_0:=blk_frozen BK101.out 0;have hfz12_1:=blk_frozen BK101.out 1;have hfz12_2:=blk_frozen BK101.out 2;have hfz12_3:=blk_frozen BK101.out 3;have hfz12_4:=blk_frozen BK101.out 4;have hfz12_5:=blk_frozen BK101.out 5;have p102 : 0 ≤ ((ji7) : Int):=of_decide_eq_true (by first|(with_reducible assumption)|assumption);have q102 : (ji7) < (l0_4.length : Int):=of_decide_eq_true (by first|(with_reducible assumption)|assumption);obtain ⟨ad102,A102_4,c102_4,e102,hx102_0,hx102_1,hx102_2,hx102_3,hx102_4,hx102_5,hl102_4,hi102_4⟩:=at_T25 HR0_4.out (ji7) p102 q102;cases e102;replace hx102_0:=(HB.out.cell (World.block_lt_of_cell? w _ hx102_0)).trans hx102_0;replace hx102_1:=(HB.out.cell (World.block_lt_of_cell? w _ hx102_1)).trans hx102_1;replace hx102_2:=(HB.out.cell (World.block_lt_of_cell? w _ hx102_2)).trans hx102_2;replace hx102_3:=(HB.out.cell (World.block_lt_of_cell? w _ hx102_3)).trans hx102_3;replace hx102_4:=(HB.out.cell (World.block_lt_of_cell? w _ hx102_4)).trans hx102_4;replace hx102_5:=(HB.out.cell (World.block_lt_of_cell? w _ hx102_5)).trans hx102_5;have HR102_4:=Aside0.mk hi102_4;have HC102_4:=Aside0.mk hl102_4;clear hi102_4 hl102_4;replace p102:=eq_true p102;replace q102:=eq_true q102)|(go_at_call 74;(with_reducible refine (ih k (by omega) ((rd_T25 l0_4 (ji7)).f0) ((rd_T25 l0_4 (ji7)).f1) ((rd_T25 l0_4 (ji7)).f2) ((rd_T25 l0_4 (ji7)).f3) _ _ ((rd_T25 l0_4 (ji7)).f4) ((rd_T25 l0_4 (ji7)).f5) t103 _ ?side1 ?side2 A10.out).mono ?_);(case side1 => repeat (first|exact (Kd.C_below HR102_4.out HB.out)|(with_reducible refine Kd.C_alloc ?_ _)|(with_reducible refine Kd.C_drewN ?_ _)|(with_reducible refine Kd.C_drew ?_)));(case side2 => exact HC102_4.out);rintro e w13 ⟨rfl,hb⟩;have n0_:=Aside0.mk (blk_below (g:=gb101) (o:=.cells #[.int .i64 a0_0,.string a0_1,.int .u32 a0_2,.bool a0_3,.slice (some ad102) l0_4.length c0_4,.int .i64 a0_5] 25 (0,0)) (by (with_reducible repeat (first|refine blk_drewN ?_ _|refine blk_drew ?_|refine blk_alloc ?_ _));exact BK101.out) hb);have n1_:=Aside0.mk (below_step (by repeat (first|(with_reducible first|exact HB.out|apply below_alloc|apply pw_below_drewN|apply below_drew1|refine below_set ?_ GE101.out)|exact HB.out)) hb);clear BK101;clear HB;have BK101:=n0_;have HB:=n1_;clear n0_ n1_;(try clear hb);(try clear hb2);(try clear hk);(try clear hi)))
           go_ret
           exact ⟨by first|rfl|(simp [errW_none,errW_some] <;> rfl)|(simp only [← hji7];first|rfl|(simp [errW_none,errW_some] <;> rfl))|(simp [*,errW_none,errW_some] <;> rfl),by repeat (first|(with_reducible first|exact HB.out|apply below_alloc|apply pw_below_drewN|apply below_drew1|refine below_set ?_ GE101.out)|exact HB.out)⟩
         · rw [if_neg c9] at H;exact absurd H (by simp)
       · rw [if_neg c8] at H;exact absurd H (by simp)
     · rw [if_neg c6] at H;have c6b0 : decide (0 < (l0_4.length : Int)) = false:=decide_eq_false c6;have c6b1 : decide (0 < l0_4.length) = false:=decide_eq_false (by omega);clear c6;obtain rfl:=Option.some.inj H;go_enter Tryz.func74,Tryz.ntmps74
       go_wp2_with (first|((with_reducible refine gate_dst (N:=1) rfl ?_);(try (refine gate_guard (by rfl) ?_;dsimp only));refine box_event ?hg (N:=1) ?hd (cs:=#[.int .i64 a0_0,.string a0_1,.int .u32 a0_2,.bool a0_3,.slice A0_4 l0_4.length c0_4,.int .i64 a0_5]) (t:=25) ?hr ?_;(case hd => rfl);(case hg => rfl);(case hr => first|(go_simp;done)|(go_simp;rfl));intro gb101 hg w14 hbox hb;have n0_:=Aside0.mk (below_step (by repeat (first|(with_reducible first|exact HB.out|apply below_alloc|apply pw_below_drewN|apply below_drew1)|exact HB.out)) hb);have n1_:=Aside0.mk (hbox);have n2_:=Aside0.mk ((by rw [hg];exact (below_size (by repeat (first|(with_reducible first|exact HB.out|apply below_alloc|apply pw_below_drewN|apply below_drew1)|exact HB.out))) : w.heap.size ≤ gb101));have n3_:=Aside0.mk ((by rw [hg];exact (below_size (by repeat (first|(with_reducible first|exact HB.out|apply below_alloc|apply pw_below_drewN|apply below_drew1)|exact HB.out))) : w.heap.size ≤ gb101));clear HB;have HB:=n0_;have BK101:=n1_;have GW101:=n2_;have GE101:=n3_;clear n0_ n1_ n2_ n3_;clear hb hbox hg;have hcz15_0 : w14.cell? ⟨gb101,0,none⟩ = some (.int .i64 a0_0):=(blk_cell BK101.out 0).trans rfl;have hcz15_1 : w14.cell? ⟨gb101,1,none⟩ = some (.string a0_1):=(blk_cell BK101.out 1).trans rfl;have hcz15_2 : w14.cell? ⟨gb101,2,none⟩ = some (.int .u32 a0_2):=(blk_cell BK101.out 2).trans rfl;have hcz15_3 : w14.cell? ⟨gb101,3,none⟩ = some (.bool a0_3):=(blk_cell BK101.out 3).trans rfl;have hcz15_4 : w14.cell? ⟨gb101,4,none⟩ = some (.slice A0_4 l0_4.length c0_4):=(blk_cell BK101.out 4).trans rfl;have hcz15_5 : w14.cell? ⟨gb101,5,none⟩ = some (.int .i64 a0_5):=(blk_cell BK101.out 5).trans rfl;have hfz15_0:=blk_frozen BK101.out 0;have hfz15_1:=blk_frozen BK101.out 1;have hfz15_2:=blk_frozen BK101.out 2;have hfz15_3:=blk_frozen BK101.out 3;have hfz15_4:=blk_frozen BK101.out 4;have hfz15_5:=blk_frozen BK101.out 5))
       go_ret
       exact ⟨by first|rfl|(simp [errW_none,errW_some] <;> rfl)|(simp [*,errW_none,errW_some] <;> rfl),by repeat (first|(with_reducible first|exact HB.out|apply below_alloc|apply pw_below_drewN|apply below_drew1|refine below_set ?_ GE101.out)|exact HB.out)⟩
 · rw [if_neg c2] at H;have c2b0 : (a0_0 == 49) = false:=beq_eq_false_iff_ne.mpr c2;have c2b1 : (a0_0 != 49) = true:=bne_iff_ne.mpr c2;by_cases c16 : a0_0 = 50
   · rw [if_pos c16] at H;have c16b0 : (a0_0 == 50) = true:=beq_iff_eq.mpr c16;have c16b1 : (a0_0 != 50) = false:=bne_eq_false_iff_eq.mpr c16;clear c16;by_cases c17 : (l0_4.length : Int) > 0
     · rw [if_pos c17] at H;have c17b0 : decide (0 < (l0_4.length : Int)) = true:=decide_eq_true c17;have c17b1 : decide (0 < l0_4.length) = true:=decide_eq_true (by omega);clear c17;obtain ⟨ji18,hji18⟩ : ∃ j_ : Int,(wrap64 ((l0_4.length : Int) - 1)) = j_:=⟨_,rfl⟩
       replace H : (if 0 ≤ (ji18) then (if (ji18) < (l0_4.length : Int) then ((ast_open.f k ((rd_T25 l0_4 (ji18)).f0) ((rd_T25 l0_4 (ji18)).f1) ((rd_T25 l0_4 (ji18)).f2) ((rd_T25 l0_4 (ji18)).f3) ((rd_T25 l0_4 (ji18)).f4) ((rd_T25 l0_4 (ji18)).f5)).bind fun t105 => (some t105)) else (none)) else (none)) = some r:=by first|(rw [hji18] at H;exact H)|(simp only [hji18] at H ⊢;exact H)
       have hji18w : (IntKind.i64.wrap ((l0_4.length : Int) - 1)) = ji18:=(i64_w _).trans hji18;by_cases c19 : 0 ≤ (ji18)
       · rw [if_pos c19] at H;have c19b0 : decide (0 ≤ (ji18)) = true:=decide_eq_true c19;clear c19;by_cases c20 : (ji18) < (l0_4.length : Int)
         · rw [if_pos c20] at H;have c20b0 : decide ((ji18) < (l0_4.length : Int)) = true:=decide_eq_true c20;clear c20;replace H:=Option.bind_eq_some_iff.mp H;obtain ⟨t105,A210,H⟩:=H;replace H : (some t105) = some r:=H;have A21:=Aside0.mk A210;clear A210;obtain rfl:=Option.some.inj H;go_enter Tryz.func74,Tryz.ntmps74
           go_wp2_with (first|((with_reducible refine gate_dst (N:=1) rfl ?_);(try (refine gate_guard (by rfl) ?_;dsimp only));refine box_event ?hg (N:=1) ?hd (cs:=#[.int .i64 a0_0,.string a0_1,.int .u32 a0_2,.bool a0_3,.slice A0_4 l0_4.length c0_4,.int .i64 a0_5]) (t:=25) ?hr ?_;(case hd => rfl);(case hg => rfl);(case hr => first|(go_simp;done)|(go_simp;rfl));intro gb101 hg w22 hbox hb;have n0_:=Aside0.mk (below_step (by repeat (first|(with_reducible first|exact HB.out|apply below_alloc|apply pw_below_drewN|apply below_drew1)|exact HB.out)) hb);have n1_:=Aside0.mk (hbox);have n2_:=Aside0.mk ((by rw [hg];exact (below_size (by repeat (first|(with_reducible first|exact HB.out|apply below_alloc|apply pw_below_drewN|apply below_drew1)|exact HB.out))) : w.heap.size ≤ gb101));have n3_:=Aside0.mk ((by rw [hg];exact (below_size (by repeat (first|(with_reducible first|exact HB.out|apply below_alloc|apply pw_below_drewN|apply below_drew1)|exact HB.out))) : w.heap.size ≤ gb101));clear HB;have HB:=n0_;have BK101:=n1_;have GW101:=n2_;have GE101:=n3_;clear n0_ n1_ n2_ n3_;clear hb hbox hg;have hcz23_0 : w22.cell? ⟨gb101,0,none⟩ = some (.int .i64 a0_0):=(blk_cell BK101.out 0).trans rfl;have hcz23_1 : w22.cell? ⟨gb101,1,none⟩ = some (.string a0_1):=(blk_cell BK101.out 1).trans rfl;have hcz23_2 : w22.cell? ⟨gb101,2,none⟩ = some (.int .u32 a0_2):=(blk_cell BK101.out 2).trans rfl;have hcz23_3 : w22.cell? ⟨gb101,3,none⟩ = some (.bool a0_3):=(blk_cell BK101.out 3).trans rfl;have hcz23_4 : w22.cell? ⟨gb101,4,none⟩ = some (.slice A0_4 l0_4.length c0_4):=(blk_cell BK101.out 4).trans rfl;have hcz23_5 : w22.cell? ⟨gb101,5,none⟩ = some (.int .i64 a0_5):=(blk_cell BK101.out 5).trans rfl;have hfz23_0:=blk_frozen BK101.out 0;have hfz23_1:=blk_frozen BK101.out 1;have hfz23_2:=blk_frozen BK101.out 2;have hfz23_3:=blk_frozen BK101.out 3;have hfz23_4:=blk_frozen BK101.out 4;have hfz23_5:=blk_frozen BK101.out 5;have p104 : 0 ≤ ((ji18) : Int):=of_decide_eq_true (by first|(with_reducible assumption)|assumption);have q104 : (ji18) < (l0_4.length : Int):=of_decide_eq_true (by first|(with_reducible assumption)|assumption);obtain ⟨ad104,A104_4,c104_4,e104,hx104_0,hx104_1,hx104_2,hx104_3,hx104_4,hx104_5,hl104_4,hi104_4⟩:=at_T25 HR0_4.out (ji18) p104 q104;cases e104;replace hx104_0:=(HB.out.cell (World.block_lt_of_cell? w _ hx104_0)).trans hx104_0;replace hx104_1:=(HB.out.cell (World.block_lt_of_cell? w _ hx104_1)).trans hx104_1;replace hx104_2:=(HB.out.cell (World.block_lt_of_cell? w _ hx104_2)).trans hx104_2;replace hx104_3:=(HB.out.cell (World.block_lt_of_cell? w _ hx104_3)).trans hx104_3;replace hx104_4:=(HB.out.cell (World.block_lt_of_cell? w _ hx104_4)).trans hx104_4;replace hx104_5:=(HB.out.cell (World.block_lt_of_cell? w _ hx104_5)).trans hx104_5;have HR104_4:=Aside0.mk hi104_4;have HC104_4:=Aside0.mk hl104_4;clear hi104_4 hl104_4;replace p104:=eq_true p104;replace q104:=eq_true q104)|(go_at_call 74;(with_reducible refine (ih k (by omega) ((rd_T25 l0_4 (ji18)).f0) ((rd_T25 l0_4 (ji18)).f1) ((rd_T25 l0_4 (ji18)).f2) ((rd_T25 l0_4 (ji18)).f3) _ _ ((rd_T25 l0_4 (ji18)).f4) ((rd_T25 l0_4 (ji18)).f5) t105 _ ?side1 ?side2 A21.out).mono ?_);(case side1 => repeat (first|exact (Kd.C_below HR104_4.out HB.out)|(with_reducible refine Kd.C_alloc ?_ _)|(with_reducible refine Kd.C_drewN ?_ _)|(with_reducible refine Kd.C_drew ?_)));(case side2 => exact HC104_4.out);rintro e w24 ⟨rfl,hb⟩;have n0_:=Aside0.mk (blk_below (g:=gb101) (o:=.cells #[.int .i64 a0_0,.string a0_1,.int .u32 a0_2,.bool a0_3,.slice (some ad104) l0_4.length c0_4,.int .i64 a0_5] 25 (0,0)) (by (with_reducible repeat (first|refine blk_drewN ?_ _|refine blk_drew ?_|refine blk_alloc ?_ _));exact BK101.out) hb);have n1_:=Aside0.mk (below_step (by repeat (first|(with_reducible first|exact HB.out|apply below_alloc|apply pw_below_drewN|apply below_drew1|refine below_set ?_ GE101.out)|exact HB.out)) hb);clear BK101;clear HB;have BK101:=n0_;have HB:=n1_;clear n0_ n1_;(try clear hb);(try clear hb2);(try clear hk);(try clear hi)))
           go_ret
           exact ⟨by first|rfl|(simp [errW_none,errW_some] <;> rfl)|(simp only [← hji18];first|rfl|(simp [errW_none,errW_some] <;> rfl))|(simp [*,errW_none,errW_some] <;> rfl),by repeat (first|(with_reducible first|exact HB.out|apply below_alloc|apply pw_below_drewN|apply below_drew1|refine below_set ?_ GE101.out)|exact HB.out)⟩
         · rw [if_neg c20] at H;exact absurd H (by simp)
       · rw [if_neg c19] at H;exact absurd H (by simp)
     · rw [if_neg c17] at H;have c17b0 : decide (0 < (l0_4.length : Int)) = false:=decide_eq_false c17;have c17b1 : decide (0 < l0_4.length) = false:=decide_eq_false (by omega);clear c17;obtain rfl:=Option.some.inj H;go_enter Tryz.func74,Tryz.ntmps74
       go_wp2_with (first|((with_reducible refine gate_dst (N:=1) rfl ?_);(try (refine gate_guard (by rfl) ?_;dsimp only));refine box_event ?hg (N:=1) ?hd (cs:=#[.int .i64 a0_0,.string a0_1,.int .u32 a0_2,.bool a0_3,.slice A0_4 l0_4.length c0_4,.int .i64 a0_5]) (t:=25) ?hr ?_;(case hd => rfl);(case hg => rfl);(case hr => first|(go_simp;done)|(go_simp;rfl));intro gb101 hg w25 hbox hb;have n0_:=Aside0.mk (below_step (by repeat (first|(with_reducible first|exact HB.out|apply below_alloc|apply pw_below_drewN|apply below_drew1)|exact HB.out)) hb);have n1_:=Aside0.mk (hbox);have n2_:=Aside0.mk ((by rw [hg];exact (below_size (by repeat (first|(with_reducible first|exact HB.out|apply below_alloc|apply pw_below_drewN|apply below_drew1)|exact HB.out))) : w.heap.size ≤ gb101));have n3_:=Aside0.mk ((by rw [hg];exact (below_size (by repeat (first|(with_reducible first|exact HB.out|apply below_alloc|apply pw_below_drewN|apply below_drew1)|exact HB.out))) : w.heap.size ≤ gb101));clear HB;have HB:=n0_;have BK101:=n1_;have GW101:=n2_;have GE101:=n3_;clear n0_ n1_ n2_ n3_;clear hb hbox hg;have hcz26_0 : w25.cell? ⟨gb101,0,none⟩ = some (.int .i64 a0_0):=(blk_cell BK101.out 0).trans rfl;have hcz26_1 : w25.cell? ⟨gb101,1,none⟩ = some (.string a0_1):=(blk_cell BK101.out 1).trans rfl;have hcz26_2 : w25.cell? ⟨gb101,2,none⟩ = some (.int .u32 a0_2):=(blk_cell BK101.out 2).trans rfl;have hcz26_3 : w25.cell? ⟨gb101,3,none⟩ = some (.bool a0_3):=(blk_cell BK101.out 3).trans rfl;have hcz26_4 : w25.cell? ⟨gb101,4,none⟩ = some (.slice A0_4 l0_4.length c0_4):=(blk_cell BK101.out 4).trans rfl;have hcz26_5 : w25.cell? ⟨gb101,5,none⟩ = some (.int .i64 a0_5):=(blk_cell BK101.out 5).trans rfl;have hfz26_0:=blk_frozen BK101.out 0;have hfz26_1:=blk_frozen BK101.out 1;have hfz26_2:=blk_frozen BK101.out 2;have hfz26_3:=blk_frozen BK101.out 3;have hfz26_4:=blk_frozen BK101.out 4;have hfz26_5:=blk_frozen BK101.out 5))
       go_ret
       exact ⟨by first|rfl|(simp [errW_none,errW_some] <;> rfl)|(simp [*,errW_none,errW_some] <;> rfl),by repeat (first|(with_reducible first|exact HB.out|apply below_alloc|apply pw_below_drewN|apply below_drew1|refine below_set ?_ GE101.out)|exact HB.out)⟩
   · rw [if_neg c16] at H;have c16b0 : (a0_0 == 50) = false:=beq_eq_false_iff_ne.mpr c16;have c16b1 : (a0_0 != 50) = true:=bne_iff_ne.mpr c16;by_cases c27 : a0_0 = 52
     · rw [if_pos c27] at H;have c27b0 : (a0_0 == 52) = true:=beq_iff_eq.mpr c27;have c27b1 : (a0_0 != 52) = false:=bne_eq_false_iff_eq.mpr c27;clear c27;by_cases c28 : (l0_4.length : Int) > 0
       · rw [if_pos c28] at H;have c28b0 : decide (0 < (l0_4.length : Int)) = true:=decide_eq_true c28;have c28b1 : decide (0 < l0_4.length) = true:=decide_eq_true (by omega);clear c28;obtain ⟨ji29,hji29⟩ : ∃ j_ : Int,(wrap64 ((l0_4.length : Int) - 1)) = j_:=⟨_,rfl⟩
         replace H : (if 0 ≤ (ji29) then (if (ji29) < (l0_4.length : Int) then ((ast_open.f k ((rd_T25 l0_4 (ji29)).f0) ((rd_T25 l0_4 (ji29)).f1) ((rd_T25 l0_4 (ji29)).f2) ((rd_T25 l0_4 (ji29)).f3) ((rd_T25 l0_4 (ji29)).f4) ((rd_T25 l0_4 (ji29)).f5)).bind fun t107 => (some t107)) else (none)) else (none)) = some r:=by first|(rw [hji29] at H;exact H)|(simp only [hji29] at H ⊢;exact H)
         have hji29w : (IntKind.i64.wrap ((l0_4.length : Int) - 1)) = ji29:=(i64_w _).trans hji29;by_cases c30 : 0 ≤ (ji29)
         · rw [if_pos c30] at H;have c30b0 : decide (0 ≤ (ji29)) = true:=decide_eq_true c30;clear c30;by_cases c31 : (ji29) < (l0_4.length : Int)
           · rw [if_pos c31] at H;have c31b0 : decide ((ji29) < (l0_4.length : Int)) = true:=decide_eq_true c31;clear c31;replace H:=Option.bind_eq_some_iff.mp H;obtain ⟨t107,A320,H⟩:=H;replace H : (some t107) = some r:=H;have A32:=Aside0.mk A320;clear A320;obtain rfl:=Option.some.inj H;go_enter Tryz.func74,Tryz.ntmps74
             go_wp2_with (first|((with_reducible refine gate_dst (N:=1) rfl ?_);(try (refine gate_guard (by rfl) ?_;dsimp only));refine box_event ?hg (N:=1) ?hd (cs:=#[.int .i64 a0_0,.string a0_1,.int .u32 a0_2,.bool a0_3,.slice A0_4 l0_4.length c0_4,.int .i64 a0_5]) (t:=25) ?hr ?_;(case hd => rfl);(case hg => rfl);(case hr => first|(go_simp;done)|(go_simp;rfl));intro gb101 hg w33 hbox hb;have n0_:=Aside0.mk (below_step (by repeat (first|(with_reducible first|exact HB.out|apply below_alloc|apply pw_below_drewN|apply below_drew1)|exact HB.out)) hb);have n1_:=Aside0.mk (hbox);have n2_:=Aside0.mk ((by rw [hg];exact (below_size (by repeat (first|(with_reducible first|exact HB.out|apply below_alloc|apply pw_below_drewN|apply below_drew1)|exact HB.out))) : w.heap.size ≤ gb101));have n3_:=Aside0.mk ((by rw [hg];exact (below_size (by repeat (first|(with_reducible first|exact HB.out|apply below_alloc|apply pw_below_drewN|apply below_drew1)|exact HB.out))) : w.heap.size ≤ gb101));clear HB;have HB:=n0_;have BK101:=n1_;have GW101:=n2_;have GE101:=n3_;clear n0_ n1_ n2_ n3_;clear hb hbox hg;have hcz34_0 : w33.cell? ⟨gb101,0,none⟩ = some (.int .i64 a0_0):=(blk_cell BK101.out 0).trans rfl;have hcz34_1 : w33.cell? ⟨gb101,1,none⟩ = some (.string a0_1):=(blk_cell BK101.out 1).trans rfl;have hcz34_2 : w33.cell? ⟨gb101,2,none⟩ = some (.int .u32 a0_2):=(blk_cell BK101.out 2).trans rfl;have hcz34_3 : w33.cell? ⟨gb101,3,none⟩ = some (.bool a0_3):=(blk_cell BK101.out 3).trans rfl;have hcz34_4 : w33.cell? ⟨gb101,4,none⟩ = some (.slice A0_4 l0_4.length c0_4):=(blk_cell BK101.out 4).trans rfl;have hcz34_5 : w33.cell? ⟨gb101,5,none⟩ = some (.int .i64 a0_5):=(blk_cell BK101.out 5).trans rfl;have hfz34_0:=blk_frozen BK101.out 0;have hfz34_1:=blk_frozen BK101.out 1;have hfz34_2:=blk_frozen BK101.out 2;have hfz34_3:=blk_frozen BK101.out 3;have hfz34_4:=blk_frozen BK101.out 4;have hfz34_5:=blk_frozen BK101.out 5;have p106 : 0 ≤ ((ji29) : Int):=of_decide_eq_true (by first|(with_reducible assumption)|assumption);have q106 : (ji29) < (l0_4.length : Int):=of_decide_eq_true (by first|(with_reducible assumption)|assumption);obtain ⟨ad106,A106_4,c106_4,e106,hx106_0,hx106_1,hx106_2,hx106_3,hx106_4,hx106_5,hl106_4,hi106_4⟩:=at_T25 HR0_4.out (ji29) p106 q106;cases e106;replace hx106_0:=(HB.out.cell (World.block_lt_of_cell? w _ hx106_0)).trans hx106_0;replace hx106_1:=(HB.out.cell (World.block_lt_of_cell? w _ hx106_1)).trans hx106_1;replace hx106_2:=(HB.out.cell (World.block_lt_of_cell? w _ hx106_2)).trans hx106_2;replace hx106_3:=(HB.out.cell (World.block_lt_of_cell? w _ hx106_3)).trans hx106_3;replace hx106_4:=(HB.out.cell (World.block_lt_of_cell? w _ hx106_4)).trans hx106_4;replace hx106_5:=(HB.out.cell (World.block_lt_of_cell? w _ hx106_5)).trans hx106_5;have HR106_4:=Aside0.mk hi106_4;have HC106_4:=Aside0.mk hl106_4;clear hi106_4 hl106_4;replace p106:=eq_true p106;replace q106:=eq_true q106)|(go_at_call 74;(with_reducible refine (ih k (by omega) ((rd_T25 l0_4 (ji29)).f0) ((rd_T25 l0_4 (ji29)).f1) ((rd_T25 l0_4 (ji29)).f2) ((rd_T25 l0_4 (ji29)).f3) _ _ ((rd_T25 l0_4 (ji29)).f4) ((rd_T25 l0_4 (ji29)).f5) t107 _ ?side1 ?side2 A32.out).mono ?_);(case side1 => repeat (first|exact (Kd.C_below HR106_4.out HB.out)|(with_reducible refine Kd.C_alloc ?_ _)|(with_reducible refine Kd.C_drewN ?_ _)|(with_reducible refine Kd.C_drew ?_)));(case side2 => exact HC106_4.out);rintro e w35 ⟨rfl,hb⟩;have n0_:=Aside0.mk (blk_below (g:=gb101) (o:=.cells #[.int .i64 a0_0,.string a0_1,.int .u32 a0_2,.bool a0_3,.slice (some ad106) l0_4.length c0_4,.int .i64 a0_5] 25 (0,0)) (by (with_reducible repeat (first|refine blk_drewN ?_ _|refine blk_drew ?_|refine blk_alloc ?_ _));exact BK101.out) hb);have n1_:=Aside0.mk (below_step (by repeat (first|(with_reducible first|exact HB.out|apply below_alloc|apply pw_below_drewN|apply below_drew1|refine below_set ?_ GE101.out)|exact HB.out)) hb);clear BK101;clear HB;have BK101:=n0_;have HB:=n1_;clear n0_ n1_;(try clear hb);(try clear hb2);(try clear hk);(try clear hi)))
             go_ret
             exact ⟨by first|rfl|(simp [errW_none,errW_some] <;> rfl)|(simp only [← hji29];first|rfl|(simp [errW_none,errW_some] <;> rfl))|(simp [*,errW_none,errW_some] <;> rfl),by repeat (first|(with_reducible first|exact HB.out|apply below_alloc|apply pw_below_drewN|apply below_drew1|refine below_set ?_ GE101.out)|exact HB.out)⟩
           · rw [if_neg c31] at H;exact absurd H (by simp)
         · rw [if_neg c30] at H;exact absurd H (by simp)
       · rw [if_neg c28] at H;have c28b0 : decide (0 < (l0_4.length : Int)) = false:=decide_eq_false c28;have c28b1 : decide (0 < l0_4.length) = false:=decide_eq_false (by omega);clear c28;obtain rfl:=Option.some.inj H;go_enter Tryz.func74,Tryz.ntmps74
         go_wp2_with (first|((with_reducible refine gate_dst (N:=1) rfl ?_);(try (refine gate_guard (by rfl) ?_;dsimp only));refine box_event ?hg (N:=1) ?hd (cs:=#[.int .i64 a0_0,.string a0_1,.int .u32 a0_2,.bool a0_3,.slice A0_4 l0_4.length c0_4,.int .i64 a0_5]) (t:=25) ?hr ?_;(case hd => rfl);(case hg => rfl);(case hr => first|(go_simp;done)|(go_simp;rfl));intro gb101 hg w36 hbox hb;have n0_:=Aside0.mk (below_step (by repeat (first|(with_reducible first|exact HB.out|apply below_alloc|apply pw_below_drewN|apply below_drew1)|exact HB.out)) hb);have n1_:=Aside0.mk (hbox);have n2_:=Aside0.mk ((by rw [hg];exact (below_size (by repeat (first|(with_reducible first|exact HB.out|apply below_alloc|apply pw_below_drewN|apply below_drew1)|exact HB.out))) : w.heap.size ≤ gb101));have n3_:=Aside0.mk ((by rw [hg];exact (below_size (by repeat (first|(with_reducible first|exact HB.out|apply below_alloc|apply pw_below_drewN|apply below_drew1)|exact HB.out))) : w.heap.size ≤ gb101));clear HB;have HB:=n0_;have BK101:=n1_;have GW101:=n2_;have GE101:=n3_;clear n0_ n1_ n2_ n3_;clear hb hbox hg;have hcz37_0 : w36.cell? ⟨gb101,0,none⟩ = some (.int .i64 a0_0):=(blk_cell BK101.out 0).trans rfl;have hcz37_1 : w36.cell? ⟨gb101,1,none⟩ = some (.string a0_1):=(blk_cell BK101.out 1).trans rfl;have hcz37_2 : w36.cell? ⟨gb101,2,none⟩ = some (.int .u32 a0_2):=(blk_cell BK101.out 2).trans rfl;have hcz37_3 : w36.cell? ⟨gb101,3,none⟩ = some (.bool a0_3):=(blk_cell BK101.out 3).trans rfl;have hcz37_4 : w36.cell? ⟨gb101,4,none⟩ = some (.slice A0_4 l0_4.length c0_4):=(blk_cell BK101.out 4).trans rfl;have hcz37_5 : w36.cell? ⟨gb101,5,none⟩ = some (.int .i64 a0_5):=(blk_cell BK101.out 5).trans rfl;have hfz37_0:=blk_frozen BK101.out 0;have hfz37_1:=blk_frozen BK101.out 1;have hfz37_2:=blk_frozen BK101.out 2;have hfz37_3:=blk_frozen BK101.out 3;have hfz37_4:=blk_frozen BK101.out 4;have hfz37_5:=blk_frozen BK101.out 5))
         go_ret
         exact ⟨by first|rfl|(simp [errW_none,errW_some] <;> rfl)|(simp [*,errW_none,errW_some] <;> rfl),by repeat (first|(with_reducible first|exact HB.out|apply below_alloc|apply pw_below_drewN|apply below_drew1|refine below_set ?_ GE101.out)|exact HB.out)⟩
     · rw [if_neg c27] at H;have c27b0 : (a0_0 == 52) = false:=beq_eq_false_iff_ne.mpr c27;have c27b1 : (a0_0 != 52) = true:=bne_iff_ne.mpr c27;obtain rfl:=Option.some.inj H;go_enter Tryz.func74,Tryz.ntmps74
       go_wp2_with (first|((with_reducible refine gate_dst (N:=1) rfl ?_);(try (refine gate_guard (by rfl) ?_;dsimp only));refine box_event ?hg (N:=1) ?hd (cs:=#[.int .i64 a0_0,.string a0_1,.int .u32 a0_2,.bool a0_3,.slice A0_4 l0_4.length c0_4,.int .i64 a0_5]) (t:=25) ?hr ?_;(case hd => rfl);(case hg => rfl);(case hr => first|(go_simp;done)|(go_simp;rfl));intro gb101 hg w38 hbox hb;have n0_:=Aside0.mk (below_step (by repeat (first|(with_reducible first|exact HB.out|apply below_alloc|apply pw_below_drewN|apply below_drew1)|exact HB.out)) hb);have n1_:=Aside0.mk (hbox);have n2_:=Aside0.mk ((by rw [hg];exact (below_size (by repeat (first|(with_reducible first|exact HB.out|apply below_alloc|apply pw_below_drewN|apply below_drew1)|exact HB.out))) : w.heap.size ≤ gb101));have n3_:=Aside0.mk ((by rw [hg];exact (below_size (by repeat (first|(with_reducible first|exact HB.out|apply below_alloc|apply pw_below_drewN|apply below_drew1)|exact HB.out))) : w.heap.size ≤ gb101));clear HB;have HB:=n0_;have BK101:=n1_;have GW101:=n2_;have GE101:=n3_;clear n0_ n1_ n2_ n3_;clear hb hbox hg;have hcz39_0 : w38.cell? ⟨gb101,0,none⟩ = some (.int .i64 a0_0):=(blk_cell BK101.out 0).trans rfl;have hcz39_1 : w38.cell? ⟨gb101,1,none⟩ = some (.string a0_1):=(blk_cell BK101.out 1).trans rfl;have hcz39_2 : w38.cell? ⟨gb101,2,none⟩ = some (.int .u32 a0_2):=(blk_cell BK101.out 2).trans rfl;have hcz39_3 : w38.cell? ⟨gb101,3,none⟩ = some (.bool a0_3):=(blk_cell BK101.out 3).trans rfl;have hcz39_4 : w38.cell? ⟨gb101,4,none⟩ = some (.slice A0_4 l0_4.length c0_4):=(blk_cell BK101.out 4).trans rfl;have hcz39_5 : w38.cell? ⟨gb101,5,none⟩ = some (.int .i64 a0_5):=(blk_cell BK101.out 5).trans rfl;have hfz39_0:=blk_frozen BK101.out 0;have hfz39_1:=blk_frozen BK101.out 1;have hfz39_2:=blk_frozen BK101.out 2;have hfz39_3:=blk_frozen BK101.out 3;have hfz39_4:=blk_frozen BK101.out 4;have hfz39_5:=blk_frozen BK101.out 5))
       go_ret
       exact ⟨by first|rfl|(simp [errW_none,errW_some] <;> rfl)|(simp [*,errW_none,errW_some] <;> rfl),by repeat (first|(with_reducible first|exact HB.out|apply below_alloc|apply pw_below_drewN|apply below_drew1|refine below_set ?_ GE101.out)|exact HB.out)⟩
end Go.Proofs.YtboojhadfhpdeaaGreatDoor.Q
namespace Go.Proofs.YtboojhadfhpdeaaGreatDoor.Q
open Go.RowKit Go.Proofs.YtboojhadfhpdeaaGreatDoorW.PrintWords Go.Proofs.YtboojhadfhpdeaaGreatDoorW.PrintLast Go.Proofs.YtboojhadfhpdeaaGreatDoorW.PrintMore
attribute [local go_sem] max2_int min2_int max_two min_two max_three min_three max_four min_four
set_option linter.unusedVariables false
set_option linter.unusedSimpArgs false
def crucibleref08_open.f : Nat → Int → ByteArray → Int → Bool → List (S25) → Int → Option (Bool)
 | 0,_,_,_,_,_,_ => none
 | k + 1,a0_0,a0_1,a0_2,a0_3,l0_4,a0_5 => if a0_0 = 49 then (if (l0_4.length : Int) = 2 then (some true) else (if (l0_4.length : Int) = 3 then (if 2 < (l0_4.length : Int) then ((crucibleref08_open.f k ((rd_T25 l0_4 2).f0) ((rd_T25 l0_4 2).f1) ((rd_T25 l0_4 2).f2) ((rd_T25 l0_4 2).f3) ((rd_T25 l0_4 2).f4) ((rd_T25 l0_4 2).f5)).bind fun t106 => (some t106)) else (none)) else (some false))) else (if a0_0 = 50 then (if (l0_4.length : Int) > 0 then (if 0 ≤ (wrap64 ((l0_4.length : Int) - 1)) then (if (wrap64 ((l0_4.length : Int) - 1)) < (l0_4.length : Int) then ((crucibleref08_open.f k ((rd_T25 l0_4 (wrap64 ((l0_4.length : Int) - 1))).f0) ((rd_T25 l0_4 (wrap64 ((l0_4.length : Int) - 1))).f1) ((rd_T25 l0_4 (wrap64 ((l0_4.length : Int) - 1))).f2) ((rd_T25 l0_4 (wrap64 ((l0_4.length : Int) - 1))).f3) ((rd_T25 l0_4 (wrap64 ((l0_4.length : Int) - 1))).f4) ((rd_T25 l0_4 (wrap64 ((l0_4.length : Int) - 1))).f5)).bind fun t108 => (some t108)) else (none)) else (none)) else (some false)) else (if a0_0 = 52 then (if (l0_4.length : Int) > 0 then (if 0 ≤ (wrap64 ((l0_4.length : Int) - 1)) then (if (wrap64 ((l0_4.length : Int) - 1)) < (l0_4.length : Int) then ((crucibleref08_open.f k ((rd_T25 l0_4 (wrap64 ((l0_4.length : Int) - 1))).f0) ((rd_T25 l0_4 (wrap64 ((l0_4.length : Int) - 1))).f1) ((rd_T25 l0_4 (wrap64 ((l0_4.length : Int) - 1))).f2) ((rd_T25 l0_4 (wrap64 ((l0_4.length : Int) - 1))).f3) ((rd_T25 l0_4 (wrap64 ((l0_4.length : Int) - 1))).f4) ((rd_T25 l0_4 (wrap64 ((l0_4.length : Int) - 1))).f5)).bind fun t110 => (some t110)) else (none)) else (none)) else (some false)) else (some false)))
theorem crucibleref08_open.mono_l : ∀ k,(∀ y0 y1 y2 y3 y4 y5,LeO (crucibleref08_open.f k y0 y1 y2 y3 y4 y5) (crucibleref08_open.f (k + 1) y0 y1 y2 y3 y4 y5))
 | 0 => fun _ _ _ _ _ _ r h => by simp [crucibleref08_open.f] at h
 | k + 1 => by
  have ih0:=crucibleref08_open.mono_l k
  · intro y0 y1 y2 y3 y4 y5;unfold crucibleref08_open.f
    repeat' first
    | (with_reducible exact ih0 _ _ _ _ _ _)
    | (with_reducible exact LeO.refl _)
    | (with_reducible exact LeO.none _)
    | (with_reducible refine LeO.ite ?_ ?_)
    | (with_reducible refine LeO.bind ?_ (fun _ => ?_))
    | exact ih0 _ _ _ _ _ _
    | exact LeO.none _
    | refine LeO.ite ?_ ?_
    | refine LeO.bind ?_ (fun _ => ?_)
theorem crucibleref08_open.mono : ∀ a0 a1 a2 a3 a4 a5 k,LeO (crucibleref08_open.f k a0 a1 a2 a3 a4 a5) (crucibleref08_open.f (k + 1) a0 a1 a2 a3 a4 a5):=by
 intro a0 a1 a2 a3 a4 a5 k;have ih0:=crucibleref08_open.mono_l k;exact ih0 a0 a1 a2 a3 a4 a5
set_option maxHeartbeats 8000000 in
set_option maxRecDepth 100000 in
theorem crucibleref08_open.calls (k : Nat) : ∀ (a0_0 : Int) (a0_1 : ByteArray) (a0_2 : Int) (a0_3 : Bool) (A0_4 : Option Addr) (c0_4 : Nat) (l0_4 : List (S25)) (a0_5 : Int) (r : Bool) (w : World) (hr0_4 : Kd.C k25 w A0_4 l0_4.length l0_4) (hc0_4 : l0_4.length ≤ c0_4) (h : crucibleref08_open.f k a0_0 a0_1 a0_2 a0_3 l0_4 a0_5 = some r),
 Calls Tryz.prog 84 #[.agg #[.int .i64 a0_0,.string a0_1,.int .u32 a0_2,.bool a0_3,.slice A0_4 l0_4.length c0_4,.int .i64 a0_5]] w fun e w' => e = .returned (.bool r) ∧ Below w.heap.size w w' := by
 induction k using Nat.strongRecOn with
 | _ k ih =>
 intro a0_0 a0_1 a0_2 a0_3 A0_4 c0_4 l0_4 a0_5 r w hr0_4 hc0_4 h;cases k with
 | zero => exact absurd h (by simp [crucibleref08_open.f])
 | succ k =>
 simp only [crucibleref08_open.f] at h;have hu25:=Tryz.underlying25;have HR0_4:=Aside0.mk hr0_4;have HC0_4:=Aside0.mk hc0_4;clear hr0_4 hc0_4;have HB:=Aside0.mk (Below.refl w.heap.size w);have H : (if a0_0 = 49 then (if (l0_4.length : Int) = 2 then (some true) else (if (l0_4.length : Int) = 3 then (if 2 < (l0_4.length : Int) then ((crucibleref08_open.f k ((rd_T25 l0_4 2).f0) ((rd_T25 l0_4 2).f1) ((rd_T25 l0_4 2).f2) ((rd_T25 l0_4 2).f3) ((rd_T25 l0_4 2).f4) ((rd_T25 l0_4 2).f5)).bind fun t106 => (some t106)) else (none)) else (some false))) else (if a0_0 = 50 then (if (l0_4.length : Int) > 0 then (if 0 ≤ (wrap64 ((l0_4.length : Int) - 1)) then (if (wrap64 ((l0_4.length : Int) - 1)) < (l0_4.length : Int) then ((crucibleref08_open.f k ((rd_T25 l0_4 (wrap64 ((l0_4.length : Int) - 1))).f0) ((rd_T25 l0_4 (wrap64 ((l0_4.length : Int) - 1))).f1) ((rd_T25 l0_4 (wrap64 ((l0_4.length : Int) - 1))).f2) ((rd_T25 l0_4 (wrap64 ((l0_4.length : Int) - 1))).f3) ((rd_T25 l0_4 (wrap64 ((l0_4.length : Int) - 1))).f4) ((rd_T25 l0_4 (wrap64 ((l0_4.length : Int) - 1))).f5)).bind fun t108 => (some t108)) else (none)) else (none)) else (some false)) else (if a0_0 = 52 then (if (l0_4.length : Int) > 0 then (if 0 ≤ (wrap64 ((l0_4.length : Int) - 1)) then (if (wrap64 ((l0_4.length : Int) - 1)) < (l0_4.length : Int) then ((crucibleref08_open.f k ((rd_T25 l0_4 (wrap64 ((l0_4.length : Int) - 1))).f0) ((rd_T25 l0_4 (wrap64 ((l0_4.length : Int) - 1))).f1) ((rd_T25 l0_4 (wrap64 ((l0_4.length : Int) - 1))).f2) ((rd_T25 l0_4 (wrap64 ((l0_4.length : Int) - 1))).f3) ((rd_T25 l0_4 (wrap64 ((l0_4.length : Int) - 1))).f4) ((rd_T25 l0_4 (wrap64 ((l0_4.length : Int) - 1))).f5)).bind fun t110 => (some t110)) else (none)) else (none)) else (some false)) else (some false)))) = some r:=h;clear h;by_cases c2 : a0_0 = 49
 · rw [if_pos c2] at H;have c2b0 : (a0_0 == 49) = true:=beq_iff_eq.mpr c2;have c2b1 : (a0_0 != 49) = false:=bne_eq_false_iff_eq.mpr c2;clear c2;by_cases c3 : (l0_4.length : Int) = 2
   · rw [if_pos c3] at H;have c3b0 : ((l0_4.length : Int) == 2) = true:=beq_iff_eq.mpr c3;have c3b1 : ((l0_4.length : Int) != 2) = false:=bne_eq_false_iff_eq.mpr c3;clear c3;obtain rfl:=Option.some.inj H;go_enter Tryz.func84,Tryz.ntmps84
     go_wp2_with (first|((with_reducible refine gate_dst (N:=1) rfl ?_);(try (refine gate_guard (by rfl) ?_;dsimp only));refine box_event ?hg (N:=1) ?hd (cs:=#[.int .i64 a0_0,.string a0_1,.int .u32 a0_2,.bool a0_3,.slice A0_4 l0_4.length c0_4,.int .i64 a0_5]) (t:=25) ?hr ?_;(case hd => rfl);(case hg => rfl);(case hr => first|(go_simp;done)|(go_simp;rfl));intro gb104 hg w4 hbox hb;have n0_:=Aside0.mk (below_step (by repeat (first|(with_reducible first|exact HB.out|apply below_alloc|apply pw_below_drewN|apply below_drew1)|exact HB.out)) hb);have n1_:=Aside0.mk (hbox);have n2_:=Aside0.mk ((by rw [hg];exact (below_size (by repeat (first|(with_reducible first|exact HB.out|apply below_alloc|apply pw_below_drewN|apply below_drew1)|exact HB.out))) : w.heap.size ≤ gb104));have n3_:=Aside0.mk ((by rw [hg];exact (below_size (by repeat (first|(with_reducible first|exact HB.out|apply below_alloc|apply pw_below_drewN|apply below_drew1)|exact HB.out))) : w.heap.size ≤ gb104));clear HB;have HB:=n0_;have BK104:=n1_;have GW104:=n2_;have GE104:=n3_;clear n0_ n1_ n2_ n3_;clear hb hbox hg;have hcz5_0 : w4.cell? ⟨gb104,0,none⟩ = some (.int .i64 a0_0):=(blk_cell BK104.out 0).trans rfl;have hcz5_1 : w4.cell? ⟨gb104,1,none⟩ = some (.string a0_1):=(blk_cell BK104.out 1).trans rfl;have hcz5_2 : w4.cell? ⟨gb104,2,none⟩ = some (.int .u32 a0_2):=(blk_cell BK104.out 2).trans rfl;have hcz5_3 : w4.cell? ⟨gb104,3,none⟩ = some (.bool a0_3):=(blk_cell BK104.out 3).trans rfl;have hcz5_4 : w4.cell? ⟨gb104,4,none⟩ = some (.slice A0_4 l0_4.length c0_4):=(blk_cell BK104.out 4).trans rfl;have hcz5_5 : w4.cell? ⟨gb104,5,none⟩ = some (.int .i64 a0_5):=(blk_cell BK104.out 5).trans rfl;have hfz5_0:=blk_frozen BK104.out 0;have hfz5_1:=blk_frozen BK104.out 1;have hfz5_2:=blk_frozen BK104.out 2;have hfz5_3:=blk_frozen BK104.out 3;have hfz5_4:=blk_frozen BK104.out 4;have hfz5_5:=blk_frozen BK104.out 5))
     go_ret
     exact ⟨by first|rfl|(simp [errW_none,errW_some] <;> rfl)|(simp [*,errW_none,errW_some] <;> rfl),by repeat (first|(with_reducible first|exact HB.out|apply below_alloc|apply pw_below_drewN|apply below_drew1|refine below_set ?_ GE104.out)|exact HB.out)⟩
   · rw [if_neg c3] at H;have c3b0 : ((l0_4.length : Int) == 2) = false:=beq_eq_false_iff_ne.mpr c3;have c3b1 : ((l0_4.length : Int) != 2) = true:=bne_iff_ne.mpr c3;by_cases c6 : (l0_4.length : Int) = 3
     · rw [if_pos c6] at H;have c6b0 : ((l0_4.length : Int) == 3) = true:=beq_iff_eq.mpr c6;have c6b1 : ((l0_4.length : Int) != 3) = false:=bne_eq_false_iff_eq.mpr c6;clear c6;by_cases c7 : 2 < (l0_4.length : Int)
       · rw [if_pos c7] at H;have c7b0 : decide (2 < (l0_4.length : Int)) = true:=decide_eq_true c7;have c7b1 : decide (2 < l0_4.length) = true:=decide_eq_true (by omega);clear c7;replace H:=Option.bind_eq_some_iff.mp H;obtain ⟨t106,A80,H⟩:=H;replace H : (some t106) = some r:=H;have A8:=Aside0.mk A80;clear A80;obtain rfl:=Option.some.inj H;go_enter Tryz.func84,Tryz.ntmps84
         go_wp2_with (first|((with_reducible refine gate_dst (N:=1) rfl ?_);(try (refine gate_guard (by rfl) ?_;dsimp only));refine box_event ?hg (N:=1) ?hd (cs:=#[.int .i64 a0_0,.string a0_1,.int .u32 a0_2,.bool a0_3,.slice A0_4 l0_4.length c0_4,.int .i64 a0_5]) (t:=25) ?hr ?_;(case hd => rfl);(case hg => rfl);(case hr => first|(go_simp;done)|(go_simp;rfl));intro gb104 hg w9 hbox hb;have n0_:=Aside0.mk (below_step (by repeat (first|(with_reducible first|exact HB.out|apply below_alloc|apply pw_below_drewN|apply below_drew1)|exact HB.out)) hb);have n1_:=Aside0.mk (hbox);have n2_:=Aside0.mk ((by rw [hg];exact (below_size (by repeat (first|(with_reducible first|exact HB.out|apply below_alloc|apply pw_below_drewN|apply below_drew1)|exact HB.out))) : w.heap.size ≤ gb104));have n3_:=Aside0.mk ((by rw [hg];exact (below_size (by repeat (first|(with_reducible first|exact HB.out|apply below_alloc|apply pw_below_drewN|apply below_drew1)|exact HB.out))) : w.heap.size ≤ gb104));clear HB;have HB:=n0_;have BK104:=n1_;have GW104:=n2_;have GE104:=n3_;clear n0_ n1_ n2_ n3_;clear hb hbox hg;have hcz10_0 : w9.cell? ⟨gb104,0,none⟩ = some (.int .i64 a0_0):=(blk_cell BK104.out 0).trans rfl;have hcz10_1 : w9.cell? ⟨gb104,1,none⟩ = some (.string a0_1):=(blk_cell BK104.out 1).trans rfl;have hcz10_2 : w9.cell? ⟨gb104,2,none⟩ = some (.int .u32 a0_2):=(blk_cell BK104.out 2).trans rfl;have hcz10_3 : w9.cell? ⟨gb104,3,none⟩ = some (.bool a0_3):=(blk_cell BK104.out 3).trans rfl;have hcz10_4 : w9.cell? ⟨gb104,4,none⟩ = some (.slice A0_4 l0_4.length c0_4):=(blk_cell BK104.out 4).trans rfl;have hcz10_5 : w9.cell? ⟨gb104,5,none⟩ = some (.int .i64 a0_5):=(blk_cell BK104.out 5).trans rfl;have hfz10_0:=blk_frozen BK104.out 0;have hfz10_1:=blk_frozen BK104.out 1;have hfz10_2:=blk_frozen BK104.out 2;have hfz10_3:=blk_frozen BK104.out 3;have hfz10_4:=blk_frozen BK104.out 4;have hfz10_5:=blk_frozen BK104.out 5;have p105 : 0 ≤ (2 : Int):=(by omega);have q105 : 2 < (l0_4.length : Int):=of_decide_eq_true (by first|(with_reducible assumption)|assumption);obtain ⟨ad105,A105_4,c105_4,e105,hx105_0,hx105_1,hx105_2,hx105_3,hx105_4,hx105_5,hl105_4,hi105_4⟩:=at_T25 HR0_4.out 2 p105 q105;cases e105;(try simp only [show (2 : Int).toNat = 2 from rfl,Nat.reduceMul,Nat.reduceEqDiff,Go.Addr.add,↓reduceIte] at hx105_0);(try simp only [show (2 : Int).toNat = 2 from rfl,Nat.reduceMul,Nat.reduceEqDiff,Go.Addr.add,↓reduceIte] at hx105_1);(try simp only [show (2 : Int).toNat = 2 from rfl,Nat.reduceMul,Nat.reduceEqDiff,Go.Addr.add,↓reduceIte] at hx105_2);(try simp only [show (2 : Int).toNat = 2 from rfl,Nat.reduceMul,Nat.reduceEqDiff,Go.Addr.add,↓reduceIte] at hx105_3);(try simp only [show (2 : Int).toNat = 2 from rfl,Nat.reduceMul,Nat.reduceEqDiff,Go.Addr.add,↓reduceIte] at hx105_4);(try simp only [show (2 : Int).toNat = 2 from rfl,Nat.reduceMul,Nat.reduceEqDiff,Go.Addr.add,↓reduceIte] at hx105_5);have qi105 : (2 < l0_4.length) = True:=eq_true (by omega);(try rw [show ((2 : Int)).toNat = 2 from rfl] at hx105_0);(try rw [show 2 * 6 = 12 from rfl] at hx105_0);(try rw [show ((2 : Int)).toNat = 2 from rfl] at hx105_1);(try rw [show 2 * 6 = 12 from rfl] at hx105_1);(try rw [show ((2 : Int)).toNat = 2 from rfl] at hx105_2);(try rw [show 2 * 6 = 12 from rfl] at hx105_2);(try rw [show ((2 : Int)).toNat = 2 from rfl] at hx105_3);(try rw [show 2 * 6 = 12 from rfl] at hx105_3);(try rw [show ((2 : Int)).toNat = 2 from rfl] at hx105_4);(try rw [show 2 * 6 = 12 from rfl] at hx105_4);(try rw [show ((2 : Int)).toNat = 2 from rfl] at hx105_5);(try rw [show 2 * 6 = 12 from rfl] at hx105_5);replace hx105_0:=(HB.out.cell (World.block_lt_of_cell? w _ hx105_0)).trans hx105_0;replace hx105_1:=(HB.out.cell (World.block_lt_of_cell? w _ hx105_1)).trans hx105_1;replace hx105_2:=(HB.out.cell (World.block_lt_of_cell? w _ hx105_2)).trans hx105_2;replace hx105_3:=(HB.out.cell (World.block_lt_of_cell? w _ hx105_3)).trans hx105_3;replace hx105_4:=(HB.out.cell (World.block_lt_of_cell? w _ hx105_4)).trans hx105_4;replace hx105_5:=(HB.out.cell (World.block_lt_of_cell? w _ hx105_5)).trans hx105_5;have HR105_4:=Aside0.mk hi105_4;have HC105_4:=Aside0.mk hl105_4;clear hi105_4 hl105_4;replace p105:=eq_true p105;replace q105:=eq_true q105)|(go_at_call 84;(with_reducible refine (ih k (by omega) ((rd_T25 l0_4 2).f0) ((rd_T25 l0_4 2).f1) ((rd_T25 l0_4 2).f2) ((rd_T25 l0_4 2).f3) _ _ ((rd_T25 l0_4 2).f4) ((rd_T25 l0_4 2).f5) t106 _ ?side1 ?side2 A8.out).mono ?_);(case side1 => repeat (first|exact (Kd.C_below HR105_4.out HB.out)|(with_reducible refine Kd.C_alloc ?_ _)|(with_reducible refine Kd.C_drewN ?_ _)|(with_reducible refine Kd.C_drew ?_)));(case side2 => exact HC105_4.out);rintro e w11 ⟨rfl,hb⟩;have n0_:=Aside0.mk (blk_below (g:=gb104) (o:=.cells #[.int .i64 a0_0,.string a0_1,.int .u32 a0_2,.bool a0_3,.slice (some ad105) l0_4.length c0_4,.int .i64 a0_5] 25 (0,0)) (by (with_reducible repeat (first|refine blk_drewN ?_ _|refine blk_drew ?_|refine blk_alloc ?_ _));exact BK104.out) hb);have n1_:=Aside0.mk (below_step (by repeat (first|(with_reducible first|exact HB.out|apply below_alloc|apply pw_below_drewN|apply below_drew1|refine below_set ?_ GE104.out)|exact HB.out)) hb);clear BK104;clear HB;have BK104:=n0_;have HB:=n1_;clear n0_ n1_;(try clear hb);(try clear hb2);(try clear hk);(try clear hi)))
         go_ret
         exact ⟨by first|rfl|(simp [errW_none,errW_some] <;> rfl)|(simp [*,errW_none,errW_some] <;> rfl),by repeat (first|(with_reducible first|exact HB.out|apply below_alloc|apply pw_below_drewN|apply below_drew1|refine below_set ?_ GE104.out)|exact HB.out)⟩
       · rw [if_neg c7] at H;exact absurd H (by simp)
     · rw [if_neg c6] at H;have c6b0 : ((l0_4.length : Int) == 3) = false:=beq_eq_false_iff_ne.mpr c6;have c6b1 : ((l0_4.length : Int) != 3) = true:=bne_iff_ne.mpr c6;obtain rfl:=Option.some.inj H;go_enter Tryz.func84,Tryz.ntmps84
       go_wp2_with (first|((with_reducible refine gate_dst (N:=1) rfl ?_);(try (refine gate_guard (by rfl) ?_;dsimp only));refine box_event ?hg (N:=1) ?hd (cs:=#[.int .i64 a0_0,.string a0_1,.int .u32 a0_2,.bool a0_3,.slice A0_4 l0_4.length c0_4,.int .i64 a0_5]) (t:=25) ?hr ?_;(case hd => rfl);(case hg => rfl);(case hr => first|(go_simp;done)|(go_simp;rfl));intro gb104 hg w12 hbox hb;have n0_:=Aside0.mk (below_step (by repeat (first|(with_reducible first|exact HB.out|apply below_alloc|apply pw_below_drewN|apply below_drew1)|exact HB.out)) hb);have n1_:=Aside0.mk (hbox);have n2_:=Aside0.mk ((by rw [hg];exact (below_size (by repeat (first|(with_reducible first|exact HB.out|apply below_alloc|apply pw_below_drewN|apply below_drew1)|exact HB.out))) : w.heap.size ≤ gb104));have n3_:=Aside0.mk ((by rw [hg];exact (below_size (by repeat (first|(with_reducible first|exact HB.out|apply below_alloc|apply pw_below_drewN|apply below_drew1)|exact HB.out))) : w.heap.size ≤ gb104));clear HB;have HB:=n0_;have BK104:=n1_;have GW104:=n2_;have GE104:=n3_;clear n0_ n1_ n2_ n3_;clear hb hbox hg;have hcz13_0 : w12.cell? ⟨gb104,0,none⟩ = some (.int .i64 a0_0):=(blk_cell BK104.out 0).trans rfl;have hcz13_1 : w12.cell? ⟨gb104,1,none⟩ = some (.string a0_1):=(blk_cell BK104.out 1).trans rfl;have hcz13_2 : w12.cell? ⟨gb104,2,none⟩ = some (.int .u32 a0_2):=(blk_cell BK104.out 2).trans rfl;have hcz13_3 : w12.cell? ⟨gb104,3,none⟩ = some (.bool a0_3):=(blk_cell BK104.out 3).trans rfl;have hcz13_4 : w12.cell? ⟨gb104,4,none⟩ = some (.slice A0_4 l0_4.length c0_4):=(blk_cell BK104.out 4).trans rfl;have hcz13_5 : w12.cell? ⟨gb104,5,none⟩ = some (.int .i64 a0_5):=(blk_cell BK104.out 5).trans rfl;have hfz13_0:=blk_frozen BK104.out 0;have hfz13_1:=blk_frozen BK104.out 1;have hfz13_2:=blk_frozen BK104.out 2;have hfz13_3:=blk_frozen BK104.out 3;have hfz13_4:=blk_frozen BK104.out 4;have hfz13_5:=blk_frozen BK104.out 5))
       go_ret
       exact ⟨by first|rfl|(simp [errW_none,errW_some] <;> rfl)|(simp [*,errW_none,errW_some] <;> rfl),by repeat (first|(with_reducible first|exact HB.out|apply below_alloc|apply pw_below_drewN|apply below_drew1|refine below_set ?_ GE104.out)|exact HB.out)⟩
 · rw [if_neg c2] at H;have c2b0 : (a0_0 == 49) = false:=beq_eq_false_iff_ne.mpr c2;have c2b1 : (a0_0 != 49) = true:=bne_iff_ne.mpr c2;by_cases c14 : a0_0 = 50
   · rw [if_pos c14] at H;have c14b0 : (a0_0 == 50) = true:=beq_iff_eq.mpr c14;have c14b1 : (a0_0 != 50) = false:=bne_eq_false_iff_eq.mpr c14;clear c14;by_cases c15 : (l0_4.length : Int) > 0
     · rw [if_pos c15] at H;have c15b0 : decide (0 < (l0_4.length : Int)) = true:=decide_eq_true c15;have c15b1 : decide (0 < l0_4.length) = true:=decide_eq_true (by omega);clear c15;obtain ⟨ji16,hji16⟩ : ∃ j_ : Int,(wrap64 ((l0_4.length : Int) - 1)) = j_:=⟨_,rfl⟩
       replace H : (if 0 ≤ (ji16) then (if (ji16) < (l0_4.length : Int) then ((crucibleref08_open.f k ((rd_T25 l0_4 (ji16)).f0) ((rd_T25 l0_4 (ji16)).f1) ((rd_T25 l0_4 (ji16)).f2) ((rd_T25 l0_4 (ji16)).f3) ((rd_T25 l0_4 (ji16)).f4) ((rd_T25 l0_4 (ji16)).f5)).bind fun t108 => (some t108)) else (none)) else (none)) = some r:=by first|(rw [hji16] at H;exact H)|(simp only [hji16] at H ⊢;exact H)
       have hji16w : (IntKind.i64.wrap ((l0_4.length : Int) - 1)) = ji16:=(i64_w _).trans hji16;by_cases c17 : 0 ≤ (ji16)
       · rw [if_pos c17] at H;have c17b0 : decide (0 ≤ (ji16)) = true:=decide_eq_true c17;clear c17;by_cases c18 : (ji16) < (l0_4.length : Int)
         · rw [if_pos c18] at H;have c18b0 : decide ((ji16) < (l0_4.length : Int)) = true:=decide_eq_true c18;clear c18;replace H:=Option.bind_eq_some_iff.mp H;obtain ⟨t108,A190,H⟩:=H;replace H : (some t108) = some r:=H;have A19:=Aside0.mk A190;clear A190;obtain rfl:=Option.some.inj H;go_enter Tryz.func84,Tryz.ntmps84
           go_wp2_with (first|((with_reducible refine gate_dst (N:=1) rfl ?_);(try (refine gate_guard (by rfl) ?_;dsimp only));refine box_event ?hg (N:=1) ?hd (cs:=#[.int .i64 a0_0,.string a0_1,.int .u32 a0_2,.bool a0_3,.slice A0_4 l0_4.length c0_4,.int .i64 a0_5]) (t:=25) ?hr ?_;(case hd => rfl);(case hg => rfl);(case hr => first|(go_simp;done)|(go_simp;rfl));intro gb104 hg w20 hbox hb;have n0_:=Aside0.mk (below_step (by repeat (first|(with_reducible first|exact HB.out|apply below_alloc|apply pw_below_drewN|apply below_drew1)|exact HB.out)) hb);have n1_:=Aside0.mk (hbox);have n2_:=Aside0.mk ((by rw [hg];exact (below_size (by repeat (first|(with_reducible first|exact HB.out|apply below_alloc|apply pw_below_drewN|apply below_drew1)|exact HB.out))) : w.heap.size ≤ gb104));have n3_:=Aside0.mk ((by rw [hg];exact (below_size (by repeat (first|(with_reducible first|exact HB.out|apply below_alloc|apply pw_below_drewN|apply below_drew1)|exact HB.out))) : w.heap.size ≤ gb104));clear HB;have HB:=n0_;have BK104:=n1_;have GW104:=n2_;have GE104:=n3_;clear n0_ n1_ n2_ n3_;clear hb hbox hg;have hcz21_0 : w20.cell? ⟨gb104,0,none⟩ = some (.int .i64 a0_0):=(blk_cell BK104.out 0).trans rfl;have hcz21_1 : w20.cell? ⟨gb104,1,none⟩ = some (.string a0_1):=(blk_cell BK104.out 1).trans rfl;have hcz21_2 : w20.cell? ⟨gb104,2,none⟩ = some (.int .u32 a0_2):=(blk_cell BK104.out 2).trans rfl;have hcz21_3 : w20.cell? ⟨gb104,3,none⟩ = some (.bool a0_3):=(blk_cell BK104.out 3).trans rfl;have hcz21_4 : w20.cell? ⟨gb104,4,none⟩ = some (.slice A0_4 l0_4.length c0_4):=(blk_cell BK104.out 4).trans rfl;have hcz21_5 : w20.cell? ⟨gb104,5,none⟩ = some (.int .i64 a0_5):=(blk_cell BK104.out 5).trans rfl;have hfz21_0:=blk_frozen BK104.out 0;have hfz21_1:=blk_frozen BK104.out 1;have hfz21_2:=blk_frozen BK104.out 2;have hfz21_3:=blk_frozen BK104.out 3;have hfz21_4:=blk_frozen BK104.out 4;have hfz21_5:=blk_frozen BK104.out 5;have p107 : 0 ≤ ((ji16) : Int):=of_decide_eq_true (by first|(with_reducible assumption)|assumption);have q107 : (ji16) < (l0_4.length : Int):=of_decide_eq_true (by first|(with_reducible assumption)|assumption);obtain ⟨ad107,A107_4,c107_4,e107,hx107_0,hx107_1,hx107_2,hx107_3,hx107_4,hx107_5,hl107_4,hi107_4⟩:=at_T25 HR0_4.out (ji16) p107 q107;cases e107;replace hx107_0:=(HB.out.cell (World.block_lt_of_cell? w _ hx107_0)).trans hx107_0;replace hx107_1:=(HB.out.cell (World.block_lt_of_cell? w _ hx107_1)).trans hx107_1;replace hx107_2:=(HB.out.cell (World.block_lt_of_cell? w _ hx107_2)).trans hx107_2;replace hx107_3:=(HB.out.cell (World.block_lt_of_cell? w _ hx107_3)).trans hx107_3;replace hx107_4:=(HB.out.cell (World.block_lt_of_cell? w _ hx107_4)).trans hx107_4;replace hx107_5:=(HB.out.cell (World.block_lt_of_cell? w _ hx107_5)).trans hx107_5;have HR107_4:=Aside0.mk hi107_4;have HC107_4:=Aside0.mk hl107_4;clear hi107_4 hl107_4;replace p107:=eq_true p107;replace q107:=eq_true q107)|(go_at_call 84;(with_reducible refine (ih k (by omega) ((rd_T25 l0_4 (ji16)).f0) ((rd_T25 l0_4 (ji16)).f1) ((rd_T25 l0_4 (ji16)).f2) ((rd_T25 l0_4 (ji16)).f3) _ _ ((rd_T25 l0_4 (ji16)).f4) ((rd_T25 l0_4 (ji16)).f5) t108 _ ?side1 ?side2 A19.out).mono ?_);(case side1 => repeat (first|exact (Kd.C_below HR107_4.out HB.out)|(with_reducible refine Kd.C_alloc ?_ _)|(with_reducible refine Kd.C_drewN ?_ _)|(with_reducible refine Kd.C_drew ?_)));(case side2 => exact HC107_4.out);rintro e w22 ⟨rfl,hb⟩;have n0_:=Aside0.mk (blk_below (g:=gb104) (o:=.cells #[.int .i64 a0_0,.string a0_1,.int .u32 a0_2,.bool a0_3,.slice (some ad107) l0_4.length c0_4,.int .i64 a0_5] 25 (0,0)) (by (with_reducible repeat (first|refine blk_drewN ?_ _|refine blk_drew ?_|refine blk_alloc ?_ _));exact BK104.out) hb);have n1_:=Aside0.mk (below_step (by repeat (first|(with_reducible first|exact HB.out|apply below_alloc|apply pw_below_drewN|apply below_drew1|refine below_set ?_ GE104.out)|exact HB.out)) hb);clear BK104;clear HB;have BK104:=n0_;have HB:=n1_;clear n0_ n1_;(try clear hb);(try clear hb2);(try clear hk);(try clear hi)))
           go_ret
           exact ⟨by first|rfl|(simp [errW_none,errW_some] <;> rfl)|(simp only [← hji16];first|rfl|(simp [errW_none,errW_some] <;> rfl))|(simp [*,errW_none,errW_some] <;> rfl),by repeat (first|(with_reducible first|exact HB.out|apply below_alloc|apply pw_below_drewN|apply below_drew1|refine below_set ?_ GE104.out)|exact HB.out)⟩
         · rw [if_neg c18] at H;exact absurd H (by simp)
       · rw [if_neg c17] at H;exact absurd H (by simp)
     · rw [if_neg c15] at H;have c15b0 : decide (0 < (l0_4.length : Int)) = false:=decide_eq_false c15;have c15b1 : decide (0 < l0_4.length) = false:=decide_eq_false (by omega);clear c15;obtain rfl:=Option.some.inj H;go_enter Tryz.func84,Tryz.ntmps84
       go_wp2_with (first|((with_reducible refine gate_dst (N:=1) rfl ?_);(try (refine gate_guard (by rfl) ?_;dsimp only));refine box_event ?hg (N:=1) ?hd (cs:=#[.int .i64 a0_0,.string a0_1,.int .u32 a0_2,.bool a0_3,.slice A0_4 l0_4.length c0_4,.int .i64 a0_5]) (t:=25) ?hr ?_;(case hd => rfl);(case hg => rfl);(case hr => first|(go_simp;done)|(go_simp;rfl));intro gb104 hg w23 hbox hb;have n0_:=Aside0.mk (below_step (by repeat (first|(with_reducible first|exact HB.out|apply below_alloc|apply pw_below_drewN|apply below_drew1)|exact HB.out)) hb);have n1_:=Aside0.mk (hbox);have n2_:=Aside0.mk ((by rw [hg];exact (below_size (by repeat (first|(with_reducible first|exact HB.out|apply below_alloc|apply pw_below_drewN|apply below_drew1)|exact HB.out))) : w.heap.size ≤ gb104));have n3_:=Aside0.mk ((by rw [hg];exact (below_size (by repeat (first|(with_reducible first|exact HB.out|apply below_alloc|apply pw_below_drewN|apply below_drew1)|exact HB.out))) : w.heap.size ≤ gb104));clear HB;have HB:=n0_;have BK104:=n1_;have GW104:=n2_;have GE104:=n3_;clear n0_ n1_ n2_ n3_;clear hb hbox hg;have hcz24_0 : w23.cell? ⟨gb104,0,none⟩ = some (.int .i64 a0_0):=(blk_cell BK104.out 0).trans rfl;have hcz24_1 : w23.cell? ⟨gb104,1,none⟩ = some (.string a0_1):=(blk_cell BK104.out 1).trans rfl;have hcz24_2 : w23.cell? ⟨gb104,2,none⟩ = some (.int .u32 a0_2):=(blk_cell BK104.out 2).trans rfl;have hcz24_3 : w23.cell? ⟨gb104,3,none⟩ = some (.bool a0_3):=(blk_cell BK104.out 3).trans rfl;have hcz24_4 : w23.cell? ⟨gb104,4,none⟩ = some (.slice A0_4 l0_4.length c0_4):=(blk_cell BK104.out 4).trans rfl;have hcz24_5 : w23.cell? ⟨gb104,5,none⟩ = some (.int .i64 a0_5):=(blk_cell BK104.out 5).trans rfl;have hfz24_0:=blk_frozen BK104.out 0;have hfz24_1:=blk_frozen BK104.out 1;have hfz24_2:=blk_frozen BK104.out 2;have hfz24_3:=blk_frozen BK104.out 3;have hfz24_4:=blk_frozen BK104.out 4;have hfz24_5:=blk_frozen BK104.out 5))
       go_ret
       exact ⟨by first|rfl|(simp [errW_none,errW_some] <;> rfl)|(simp [*,errW_none,errW_some] <;> rfl),by repeat (first|(with_reducible first|exact HB.out|apply below_alloc|apply pw_below_drewN|apply below_drew1|refine below_set ?_ GE104.out)|exact HB.out)⟩
   · rw [if_neg c14] at H;have c14b0 : (a0_0 == 50) = false:=beq_eq_false_iff_ne.mpr c14;have c14b1 : (a0_0 != 50) = true:=bne_iff_ne.mpr c14;by_cases c25 : a0_0 = 52
     · rw [if_pos c25] at H;have c25b0 : (a0_0 == 52) = true:=beq_iff_eq.mpr c25;have c25b1 : (a0_0 != 52) = false:=bne_eq_false_iff_eq.mpr c25;clear c25;by_cases c26 : (l0_4.length : Int) > 0
       · rw [if_pos c26] at H;have c26b0 : decide (0 < (l0_4.length : Int)) = true:=decide_eq_true c26;have c26b1 : decide (0 < l0_4.length) = true:=decide_eq_true (by omega);clear c26;obtain ⟨ji27,hji27⟩ : ∃ j_ : Int,(wrap64 ((l0_4.length : Int) - 1)) = j_:=⟨_,rfl⟩
         replace H : (if 0 ≤ (ji27) then (if (ji27) < (l0_4.length : Int) then ((crucibleref08_open.f k ((rd_T25 l0_4 (ji27)).f0) ((rd_T25 l0_4 (ji27)).f1) ((rd_T25 l0_4 (ji27)).f2) ((rd_T25 l0_4 (ji27)).f3) ((rd_T25 l0_4 (ji27)).f4) ((rd_T25 l0_4 (ji27)).f5)).bind fun t110 => (some t110)) else (none)) else (none)) = some r:=by first|(rw [hji27] at H;exact H)|(simp only [hji27] at H ⊢;exact H)
         have hji27w : (IntKind.i64.wrap ((l0_4.length : Int) - 1)) = ji27:=(i64_w _).trans hji27;by_cases c28 : 0 ≤ (ji27)
         · rw [if_pos c28] at H;have c28b0 : decide (0 ≤ (ji27)) = true:=decide_eq_true c28;clear c28;by_cases c29 : (ji27) < (l0_4.length : Int)
           · rw [if_pos c29] at H;have c29b0 : decide ((ji27) < (l0_4.length : Int)) = true:=decide_eq_true c29;clear c29;replace H:=Option.bind_eq_some_iff.mp H;obtain ⟨t110,A300,H⟩:=H;replace H : (some t110) = some r:=H;have A30:=Aside0.mk A300;clear A300;obtain rfl:=Option.some.inj H;go_enter Tryz.func84,Tryz.ntmps84
             go_wp2_with (first|((with_reducible refine gate_dst (N:=1) rfl ?_);(try (refine gate_guard (by rfl) ?_;dsimp only));refine box_event ?hg (N:=1) ?hd (cs:=#[.int .i64 a0_0,.string a0_1,.int .u32 a0_2,.bool a0_3,.slice A0_4 l0_4.length c0_4,.int .i64 a0_5]) (t:=25) ?hr ?_;(case hd => rfl);(case hg => rfl);(case hr => first|(go_simp;done)|(go_simp;rfl));intro gb104 hg w31 hbox hb;have n0_:=Aside0.mk (below_step (by repeat (first|(with_reducible first|exact HB.out|apply below_alloc|apply pw_below_drewN|apply below_drew1)|exact HB.out)) hb);have n1_:=Aside0.mk (hbox);have n2_:=Aside0.mk ((by rw [hg];exact (below_size (by repeat (first|(with_reducible first|exact HB.out|apply below_alloc|apply pw_below_drewN|apply below_drew1)|exact HB.out))) : w.heap.size ≤ gb104));have n3_:=Aside0.mk ((by rw [hg];exact (below_size (by repeat (first|(with_reducible first|exact HB.out|apply below_alloc|apply pw_below_drewN|apply below_drew1)|exact HB.out))) : w.heap.size ≤ gb104));clear HB;have HB:=n0_;have BK104:=n1_;have GW104:=n2_;have GE104:=n3_;clear n0_ n1_ n2_ n3_;clear hb hbox hg;have hcz32_0 : w31.cell? ⟨gb104,0,none⟩ = some (.int .i64 a0_0):=(blk_cell BK104.out 0).trans rfl;have hcz32_1 : w31.cell? ⟨gb104,1,none⟩ = some (.string a0_1):=(blk_cell BK104.out 1).trans rfl;have hcz32_2 : w31.cell? ⟨gb104,2,none⟩ = some (.int .u32 a0_2):=(blk_cell BK104.out 2).trans rfl;have hcz32_3 : w31.cell? ⟨gb104,3,none⟩ = some (.bool a0_3):=(blk_cell BK104.out 3).trans rfl;have hcz32_4 : w31.cell? ⟨gb104,4,none⟩ = some (.slice A0_4 l0_4.length c0_4):=(blk_cell BK104.out 4).trans rfl;have hcz32_5 : w31.cell? ⟨gb104,5,none⟩ = some (.int .i64 a0_5):=(blk_cell BK104.out 5).trans rfl;have hfz32_0:=blk_frozen BK104.out 0;have hfz32_1:=blk_frozen BK104.out 1;have hfz32_2:=blk_frozen BK104.out 2;have hfz32_3:=blk_frozen BK104.out 3;have hfz32_4:=blk_frozen BK104.out 4;have hfz32_5:=blk_frozen BK104.out 5;have p109 : 0 ≤ ((ji27) : Int):=of_decide_eq_true (by first|(with_reducible assumption)|assumption);have q109 : (ji27) < (l0_4.length : Int):=of_decide_eq_true (by first|(with_reducible assumption)|assumption);obtain ⟨ad109,A109_4,c109_4,e109,hx109_0,hx109_1,hx109_2,hx109_3,hx109_4,hx109_5,hl109_4,hi109_4⟩:=at_T25 HR0_4.out (ji27) p109 q109;cases e109;replace hx109_0:=(HB.out.cell (World.block_lt_of_cell? w _ hx109_0)).trans hx109_0;replace hx109_1:=(HB.out.cell (World.block_lt_of_cell? w _ hx109_1)).trans hx109_1;replace hx109_2:=(HB.out.cell (World.block_lt_of_cell? w _ hx109_2)).trans hx109_2;replace hx109_3:=(HB.out.cell (World.block_lt_of_cell? w _ hx109_3)).trans hx109_3;replace hx109_4:=(HB.out.cell (World.block_lt_of_cell? w _ hx109_4)).trans hx109_4;replace hx109_5:=(HB.out.cell (World.block_lt_of_cell? w _ hx109_5)).trans hx109_5;have HR109_4:=Aside0.mk hi109_4;have HC109_4:=Aside0.mk hl109_4;clear hi109_4 hl109_4;replace p109:=eq_true p109;replace q109:=eq_true q109)|(go_at_call 84;(with_reducible refine (ih k (by omega) ((rd_T25 l0_4 (ji27)).f0) ((rd_T25 l0_4 (ji27)).f1) ((rd_T25 l0_4 (ji27)).f2) ((rd_T25 l0_4 (ji27)).f3) _ _ ((rd_T25 l0_4 (ji27)).f4) ((rd_T25 l0_4 (ji27)).f5) t110 _ ?side1 ?side2 A30.out).mono ?_);(case side1 => repeat (first|exact (Kd.C_below HR109_4.out HB.out)|(with_reducible refine Kd.C_alloc ?_ _)|(with_reducible refine Kd.C_drewN ?_ _)|(with_reducible refine Kd.C_drew ?_)));(case side2 => exact HC109_4.out);rintro e w33 ⟨rfl,hb⟩;have n0_:=Aside0.mk (blk_below (g:=gb104) (o:=.cells #[.int .i64 a0_0,.string a0_1,.int .u32 a0_2,.bool a0_3,.slice (some ad109) l0_4.length c0_4,.int .i64 a0_5] 25 (0,0)) (by (with_reducible repeat (first|refine blk_drewN ?_ _|refine blk_drew ?_|refine blk_alloc ?_ _));exact BK104.out) hb);have n1_:=Aside0.mk (below_step (by repeat (first|(with_reducible first|exact HB.out|apply below_alloc|apply pw_below_drewN|apply below_drew1|refine below_set ?_ GE104.out)|exact HB.out)) hb);clear BK104;clear HB;have BK104:=n0_;have HB:=n1_;clear n0_ n1_;(try clear hb);(try clear hb2);(try clear hk);(try clear hi)))
             go_ret
             exact ⟨by first|rfl|(simp [errW_none,errW_some] <;> rfl)|(simp only [← hji27];first|rfl|(simp [errW_none,errW_some] <;> rfl))|(simp [*,errW_none,errW_some] <;> rfl),by repeat (first|(with_reducible first|exact HB.out|apply below_alloc|apply pw_below_drewN|apply below_drew1|refine below_set ?_ GE104.out)|exact HB.out)⟩
           · rw [if_neg c29] at H;exact absurd H (by simp)
         · rw [if_neg c28] at H;exact absurd H (by simp)
       · rw [if_neg c26] at H;have c26b0 : decide (0 < (l0_4.length : Int)) = false:=decide_eq_false c26;have c26b1 : decide (0 < l0_4.length) = false:=decide_eq_false (by omega);clear c26;obtain rfl:=Option.some.inj H;go_enter Tryz.func84,Tryz.ntmps84
         go_wp2_with (first|((with_reducible refine gate_dst (N:=1) rfl ?_);(try (refine gate_guard (by rfl) ?_;dsimp only));refine box_event ?hg (N:=1) ?hd (cs:=#[.int .i64 a0_0,.string a0_1,.int .u32 a0_2,.bool a0_3,.slice A0_4 l0_4.length c0_4,.int .i64 a0_5]) (t:=25) ?hr ?_;(case hd => rfl);(case hg => rfl);(case hr => first|(go_simp;done)|(go_simp;rfl));intro gb104 hg w34 hbox hb;have n0_:=Aside0.mk (below_step (by repeat (first|(with_reducible first|exact HB.out|apply below_alloc|apply pw_below_drewN|apply below_drew1)|exact HB.out)) hb);have n1_:=Aside0.mk (hbox);have n2_:=Aside0.mk ((by rw [hg];exact (below_size (by repeat (first|(with_reducible first|exact HB.out|apply below_alloc|apply pw_below_drewN|apply below_drew1)|exact HB.out))) : w.heap.size ≤ gb104));have n3_:=Aside0.mk ((by rw [hg];exact (below_size (by repeat (first|(with_reducible first|exact HB.out|apply below_alloc|apply pw_below_drewN|apply below_drew1)|exact HB.out))) : w.heap.size ≤ gb104));clear HB;have HB:=n0_;have BK104:=n1_;have GW104:=n2_;have GE104:=n3_;clear n0_ n1_ n2_ n3_;clear hb hbox hg;have hcz35_0 : w34.cell? ⟨gb104,0,none⟩ = some (.int .i64 a0_0):=(blk_cell BK104.out 0).trans rfl;have hcz35_1 : w34.cell? ⟨gb104,1,none⟩ = some (.string a0_1):=(blk_cell BK104.out 1).trans rfl;have hcz35_2 : w34.cell? ⟨gb104,2,none⟩ = some (.int .u32 a0_2):=(blk_cell BK104.out 2).trans rfl;have hcz35_3 : w34.cell? ⟨gb104,3,none⟩ = some (.bool a0_3):=(blk_cell BK104.out 3).trans rfl;have hcz35_4 : w34.cell? ⟨gb104,4,none⟩ = some (.slice A0_4 l0_4.length c0_4):=(blk_cell BK104.out 4).trans rfl;have hcz35_5 : w34.cell? ⟨gb104,5,none⟩ = some (.int .i64 a0_5):=(blk_cell BK104.out 5).trans rfl;have hfz35_0:=blk_frozen BK104.out 0;have hfz35_1:=blk_frozen BK104.out 1;have hfz35_2:=blk_frozen BK104.out 2;have hfz35_3:=blk_frozen BK104.out 3;have hfz35_4:=blk_frozen BK104.out 4;have hfz35_5:=blk_frozen BK104.out 5))
         go_ret
         exact ⟨by first|rfl|(simp [errW_none,errW_some] <;> rfl)|(simp [*,errW_none,errW_some] <;> rfl),by repeat (first|(with_reducible first|exact HB.out|apply below_alloc|apply pw_below_drewN|apply below_drew1|refine below_set ?_ GE104.out)|exact HB.out)⟩
     · rw [if_neg c25] at H;have c25b0 : (a0_0 == 52) = false:=beq_eq_false_iff_ne.mpr c25;have c25b1 : (a0_0 != 52) = true:=bne_iff_ne.mpr c25;obtain rfl:=Option.some.inj H;go_enter Tryz.func84,Tryz.ntmps84
       go_wp2_with (first|((with_reducible refine gate_dst (N:=1) rfl ?_);(try (refine gate_guard (by rfl) ?_;dsimp only));refine box_event ?hg (N:=1) ?hd (cs:=#[.int .i64 a0_0,.string a0_1,.int .u32 a0_2,.bool a0_3,.slice A0_4 l0_4.length c0_4,.int .i64 a0_5]) (t:=25) ?hr ?_;(case hd => rfl);(case hg => rfl);(case hr => first|(go_simp;done)|(go_simp;rfl));intro gb104 hg w36 hbox hb;have n0_:=Aside0.mk (below_step (by repeat (first|(with_reducible first|exact HB.out|apply below_alloc|apply pw_below_drewN|apply below_drew1)|exact HB.out)) hb);have n1_:=Aside0.mk (hbox);have n2_:=Aside0.mk ((by rw [hg];exact (below_size (by repeat (first|(with_reducible first|exact HB.out|apply below_alloc|apply pw_below_drewN|apply below_drew1)|exact HB.out))) : w.heap.size ≤ gb104));have n3_:=Aside0.mk ((by rw [hg];exact (below_size (by repeat (first|(with_reducible first|exact HB.out|apply below_alloc|apply pw_below_drewN|apply below_drew1)|exact HB.out))) : w.heap.size ≤ gb104));clear HB;have HB:=n0_;have BK104:=n1_;have GW104:=n2_;have GE104:=n3_;clear n0_ n1_ n2_ n3_;clear hb hbox hg;have hcz37_0 : w36.cell? ⟨gb104,0,none⟩ = some (.int .i64 a0_0):=(blk_cell BK104.out 0).trans rfl;have hcz37_1 : w36.cell? ⟨gb104,1,none⟩ = some (.string a0_1):=(blk_cell BK104.out 1).trans rfl;have hcz37_2 : w36.cell? ⟨gb104,2,none⟩ = some (.int .u32 a0_2):=(blk_cell BK104.out 2).trans rfl;have hcz37_3 : w36.cell? ⟨gb104,3,none⟩ = some (.bool a0_3):=(blk_cell BK104.out 3).trans rfl;have hcz37_4 : w36.cell? ⟨gb104,4,none⟩ = some (.slice A0_4 l0_4.length c0_4):=(blk_cell BK104.out 4).trans rfl;have hcz37_5 : w36.cell? ⟨gb104,5,none⟩ = some (.int .i64 a0_5):=(blk_cell BK104.out 5).trans rfl;have hfz37_0:=blk_frozen BK104.out 0;have hfz37_1:=blk_frozen BK104.out 1;have hfz37_2:=blk_frozen BK104.out 2;have hfz37_3:=blk_frozen BK104.out 3;have hfz37_4:=blk_frozen BK104.out 4;have hfz37_5:=blk_frozen BK104.out 5))
       go_ret
       exact ⟨by first|rfl|(simp [errW_none,errW_some] <;> rfl)|(simp [*,errW_none,errW_some] <;> rfl),by repeat (first|(with_reducible first|exact HB.out|apply below_alloc|apply pw_below_drewN|apply below_drew1|refine below_set ?_ GE104.out)|exact HB.out)⟩
end Go.Proofs.YtboojhadfhpdeaaGreatDoor.Q
namespace Go.Proofs.YtboojhadfhpdeaaGreatDoor.Q
open Go.RowKit Go.Proofs.YtboojhadfhpdeaaGreatDoorW.PrintWords Go.Proofs.YtboojhadfhpdeaaGreatDoorW.PrintLast Go.Proofs.YtboojhadfhpdeaaGreatDoorW.PrintMore
set_option linter.unusedVariables false
set_option linter.unusedSimpArgs false
theorem Fit.len {x : S25} (h : Fit x) : x.f4.length ≤ 9223372036854775807:=by cases h;assumption
theorem Fit.kid {x y : S25} (h : Fit x) (hy : y ∈ x.f4) : Fit y:=by
 cases h with
 | mk _ _ hk => exact hk y hy
theorem rd_nd (l : List S25) (i : Nat) : rd_T25 l (i : Int) = nd l i:=by simp [rd_T25,nd]
theorem size_kid {x y : S25} (hy : y ∈ x.f4) : SizeOf.sizeOf y < SizeOf.sizeOf x:=by
 have h1:=List.sizeOf_lt_of_mem hy;have h2 : SizeOf.sizeOf x = 1 + SizeOf.sizeOf x.f0 + SizeOf.sizeOf x.f1 + SizeOf.sizeOf x.f2 + SizeOf.sizeOf x.f3 + SizeOf.sizeOf x.f4 + SizeOf.sizeOf x.f5:=by cases x;simp [S25.mk.sizeOf_spec]
 omega
theorem wrap_last {n : Nat} (h0 : 0 < n) (h : n ≤ 9223372036854775807) : wrap64 ((n : Int) - 1) = ((n - 1 : Nat) : Int):=by unfold wrap64;omega
def openN : Nat → S25 → Bool
 | 0,_ => false
 | n + 1,x => if x.f0 = 49 then (if x.f4.length = 2 then true else if x.f4.length = 0 then false else openN n (nd x.f4 (x.f4.length - 1))) else if x.f0 = 50 ∨ x.f0 = 52 then (if x.f4.length = 0 then false else openN n (nd x.f4 (x.f4.length - 1))) else false
def openM : Nat → S25 → Bool
 | 0,_ => false
 | n + 1,x => if x.f0 = 49 then (if x.f4.length = 2 then true else if x.f4.length = 3 then openM n (nd x.f4 2) else false) else if x.f0 = 50 ∨ x.f0 = 52 then (if x.f4.length = 0 then false else openM n (nd x.f4 (x.f4.length - 1))) else false
theorem nd_last {x : S25} (h : x.f4.length ≠ 0) : nd x.f4 (x.f4.length - 1) ∈ x.f4:=nd_mem (by omega)
theorem open_ast : ∀ (n : Nat) (x : S25),Fit x → SizeOf.sizeOf x < n → ast_open.f n x.f0 x.f1 x.f2 x.f3 x.f4 x.f5 = some (openN n x)
 | 0,x,_,h => absurd h (Nat.not_lt_zero _)
 | n + 1,x,hf,h => by
  have hl:=hf.len;have last (h0 : ¬ x.f4.length = 0) : (if (x.f4.length : Int) > 0 then (if 0 ≤ (wrap64 ((x.f4.length : Int) - 1)) then (if (wrap64 ((x.f4.length : Int) - 1)) < (x.f4.length : Int) then ((ast_open.f n ((rd_T25 x.f4 (wrap64 ((x.f4.length : Int) - 1))).f0) ((rd_T25 x.f4 (wrap64 ((x.f4.length : Int) - 1))).f1) ((rd_T25 x.f4 (wrap64 ((x.f4.length : Int) - 1))).f2) ((rd_T25 x.f4 (wrap64 ((x.f4.length : Int) - 1))).f3) ((rd_T25 x.f4 (wrap64 ((x.f4.length : Int) - 1))).f4) ((rd_T25 x.f4 (wrap64 ((x.f4.length : Int) - 1))).f5)).bind fun t103 => (some t103)) else (none)) else (none)) else (some false)) = some (openN n (nd x.f4 (x.f4.length - 1))):=by
   have hk:=nd_last h0;have hs:=size_kid hk;rw [wrap_last (by omega) hl,rd_nd,if_pos (by omega),if_pos (by omega),if_pos (by omega),open_ast n _ (hf.kid hk) (by omega)];rfl
  have none_ (h0 : x.f4.length = 0) {a : Option Bool} : (if (x.f4.length : Int) > 0 then a else (some false)) = some false:=by rw [if_neg (by omega)]
  unfold ast_open.f openN;by_cases h49 : x.f0 = 49
  · rw [if_pos h49,if_pos h49];by_cases h2 : x.f4.length = 2
    · rw [if_pos h2,if_pos (by omega)]
    · rw [if_neg h2,if_neg (by omega)];by_cases h0 : x.f4.length = 0
      · rw [if_pos h0,none_ h0]
      · rw [if_neg h0,last h0]
  · rw [if_neg h49,if_neg h49];by_cases h50 : x.f0 = 50
    · rw [if_pos h50,if_pos (Or.inl h50)];by_cases h0 : x.f4.length = 0
      · rw [if_pos h0,none_ h0]
      · rw [if_neg h0,last h0]
    · rw [if_neg h50];by_cases h52 : x.f0 = 52
      · rw [if_pos h52,if_pos (Or.inr h52)];by_cases h0 : x.f4.length = 0
        · rw [if_pos h0,none_ h0]
        · rw [if_neg h0,last h0]
      · rw [if_neg h52,if_neg (by omega)]
theorem open_ref : ∀ (n : Nat) (x : S25),Fit x → SizeOf.sizeOf x < n → crucibleref08_open.f n x.f0 x.f1 x.f2 x.f3 x.f4 x.f5 = some (openM n x)
 | 0,x,_,h => absurd h (Nat.not_lt_zero _)
 | n + 1,x,hf,h => by
  have hl:=hf.len;have last (h0 : ¬ x.f4.length = 0) : (if (x.f4.length : Int) > 0 then (if 0 ≤ (wrap64 ((x.f4.length : Int) - 1)) then (if (wrap64 ((x.f4.length : Int) - 1)) < (x.f4.length : Int) then ((crucibleref08_open.f n ((rd_T25 x.f4 (wrap64 ((x.f4.length : Int) - 1))).f0) ((rd_T25 x.f4 (wrap64 ((x.f4.length : Int) - 1))).f1) ((rd_T25 x.f4 (wrap64 ((x.f4.length : Int) - 1))).f2) ((rd_T25 x.f4 (wrap64 ((x.f4.length : Int) - 1))).f3) ((rd_T25 x.f4 (wrap64 ((x.f4.length : Int) - 1))).f4) ((rd_T25 x.f4 (wrap64 ((x.f4.length : Int) - 1))).f5)).bind fun t103 => (some t103)) else (none)) else (none)) else (some false)) = some (openM n (nd x.f4 (x.f4.length - 1))):=by
   have hk:=nd_last h0;have hs:=size_kid hk;rw [wrap_last (by omega) hl,rd_nd,if_pos (by omega),if_pos (by omega),if_pos (by omega),open_ref n _ (hf.kid hk) (by omega)];rfl
  have none_ (h0 : x.f4.length = 0) {a : Option Bool} : (if (x.f4.length : Int) > 0 then a else (some false)) = some false:=by rw [if_neg (by omega)]
  unfold crucibleref08_open.f openM;by_cases h49 : x.f0 = 49
  · rw [if_pos h49,if_pos h49];by_cases h2 : x.f4.length = 2
    · rw [if_pos h2,if_pos (by omega)]
    · rw [if_neg h2,if_neg (by omega)];by_cases h3 : x.f4.length = 3
      · have hk : nd x.f4 2 ∈ x.f4:=nd_mem (by omega);have hs:=size_kid hk;rw [if_pos h3,if_pos (by omega),if_pos (by omega),show rd_T25 x.f4 2 = nd x.f4 2 from rd_nd _ 2,open_ref n _ (hf.kid hk) (by omega)];rfl
      · rw [if_neg h3,if_neg (by omega)]
  · rw [if_neg h49,if_neg h49];by_cases h50 : x.f0 = 50
    · rw [if_pos h50,if_pos (Or.inl h50)];by_cases h0 : x.f4.length = 0
      · rw [if_pos h0,none_ h0]
      · rw [if_neg h0,last h0]
    · rw [if_neg h50];by_cases h52 : x.f0 = 52
      · rw [if_pos h52,if_pos (Or.inr h52)];by_cases h0 : x.f4.length = 0
        · rw [if_pos h0,none_ h0]
        · rw [if_neg h0,last h0]
      · rw [if_neg h52,if_neg (by omega)]
noncomputable def openA (x : S25) : Bool:=openN (SizeOf.sizeOf x + 1) x
noncomputable def openR (x : S25) : Bool:=openM (SizeOf.sizeOf x + 1) x
def varB (x : S25) : Bool:=if x.f3 = true then !decide (x.f4.length = 0) && isN (nd x.f4 0) && (decide (x.f4.length = 1) || (decide (x.f4.length = 2) && (isE (nd x.f4 1) || decide ((nd x.f4 1).f0 = 44)))) else decide (x.f4.length = 0) || (decide (x.f4.length = 1) && isE (nd x.f4 0))
theorem var_ast (x : S25) : ast_variable.f x.f0 x.f1 x.f2 x.f3 x.f4 x.f5 = some (varB x):=by
 have r0 : rd_T25 x.f4 0 = nd x.f4 0:=rd_nd _ 0;have r1 : rd_T25 (x.f4.drop 1) 0 = nd x.f4 1:=by simp [rd_T25,nd]
 unfold ast_variable.f varB;rw [r0];by_cases h3 : x.f3 = true
 · rw [if_pos h3,if_pos h3];by_cases h0 : x.f4.length = 0
   · rw [if_pos (by omega),decide_eq_true h0];rfl
   · rw [if_neg (by omega),if_pos (by omega),isN_f,decide_eq_false h0,Option.bind_some];cases isN (nd x.f4 0) with
     | false => rfl
     | true =>
      rw [if_pos rfl,if_pos (by omega),Option.bind_some,r1,isE_f];have hd : (x.f4.drop 1).length = x.f4.length - 1:=List.length_drop;by_cases h1 : x.f4.length = 1
      · rw [if_pos (by omega),decide_eq_true h1];rfl
      · rw [if_neg (by omega),decide_eq_false h1];by_cases h2 : x.f4.length = 2
        · rw [if_pos (by omega),if_pos (by omega),decide_eq_true h2,Option.bind_some];cases isE (nd x.f4 1) with
          | true => rfl
          | false => rfl
        · rw [if_neg (by omega),decide_eq_false h2];rfl
 · rw [if_neg h3,if_neg h3];by_cases h0 : x.f4.length = 0
   · rw [if_pos (by omega),decide_eq_true h0];rfl
   · rw [if_neg (by omega),decide_eq_false h0];by_cases h1 : x.f4.length = 1
     · rw [if_pos (by omega),if_pos (by omega),isE_f,decide_eq_true h1,Option.bind_some];cases isE (nd x.f4 0) <;> rfl
     · rw [if_neg (by omega),decide_eq_false h1];rfl
section
variable {x : S25} {A : Option Addr} {c : Nat} {w : World}
theorem open.all (hn : ND w x A c) : Calls Tryz.prog 74 #[val x A c] w (AllP (openA x) w) :=
 ast_open.calls _ _ _ _ _ A c _ _ _ w hn.C hn.le (open_ast _ x (fit_of_C hn.C) (Nat.lt_succ_self _))
theorem variable.all (hn : ND w x A c) : Calls Tryz.prog 78 #[val x A c] w (AllP (varB x) w):=variable.of x _ (var_ast x) A c w hn
theorem shape.first (k : Int) (gp : List (FuncId × (S25 → Bool))) (hg : ∀ z ∈ gp,Gen z) (xs : List S25) (A : Option Addr) (c : Nat) (w : World) (hC : Kd.C k25 w A xs.length xs) (q cap p : Nat) (h4 : gp.length ≤ 6)
 (hp : w.heap[p]? = some (.cells #[.int .i64 k] 3 (0,0)))
 (hq : w.heap[q]? = some (.cells (Value.func (.func 94) #[] #[.pointer (some ⟨p,0,none⟩)] :: gp.map fun z => Value.func (.func z.1) #[] #[]).toArray 29 (0,0))) :
 Calls Tryz.prog 67 #[.slice A xs.length c,.slice (some ⟨q,0,none⟩) (gp.length + 1) cap] w (AllP (shapeB ((fun x => decide (x.f0 = k)) :: gp.map (·.2)) xs) w):=by
 have e:=shape.calls xs A c w hC q cap (Value.func (.func 94) #[] #[.pointer (some ⟨p,0,none⟩)] :: gp.map fun z => Value.func (.func z.1) #[] #[]) ((fun x => decide (x.f0 = k)) :: gp.map (·.2)) (by simp) (by simp;omega) hq (fun i f hf hi => by
  cases i with
  | zero =>
   obtain rfl:=Option.some.inj (show some _ = some f from hf);exact ⟨94,#[.pointer (some ⟨p,0,none⟩)],rfl,enters_of Tryz.func94 (by kernel_rfl) rfl,fun W A c hW hn => of1.all k p (blk_below hp hW)⟩
  | succ i =>
   rw [List.getElem?_cons_succ,List.getElem?_map] at hf;cases hz : gp[i]? with
   | none => rw [hz] at hf;cases hf
   | some z =>
    rw [hz] at hf;obtain rfl:=Option.some.inj hf;obtain ⟨h1,h2⟩:=hg z (List.mem_of_getElem? hz);refine ⟨z.1,#[],rfl,h1,fun W A c _ hn => ?_⟩;rw [Array.append_empty];have e : pnth ((fun x => decide (x.f0 = k)) :: gp.map (·.2)) (i + 1) = z.2:=by
     unfold pnth;rw [List.getD_eq_getElem?_getD,List.getElem?_cons_succ,List.getElem?_map,hz];rfl
    rw [e];exact h2 hn)
 rwa [List.length_cons,List.length_map] at e
theorem shape.t (xs : List S25) (A : Option Addr) (c : Nat) (w : World) (hC : Kd.C k25 w A xs.length xs) (q cap p : Nat)
 (hp : w.heap[p]? = some (.cells #[.int .i64 16] 3 (0,0))) (hq : w.heap[q]? = some (.cells #[Value.func (.func 94) #[] #[.pointer (some ⟨p,0,none⟩)]] 29 (0,0))) :
 Calls Tryz.prog 67 #[.slice A xs.length c,.slice (some ⟨q,0,none⟩) 1 cap] w (AllP (shapeB [fun x => decide (x.f0 = 16)] xs) w):=shape.first 16 [] (fun z hz => by cases hz) xs A c w hC q cap p (by decide) hp hq
theorem shape.te (xs : List S25) (A : Option Addr) (c : Nat) (w : World) (hC : Kd.C k25 w A xs.length xs) (q cap p : Nat)
 (hp : w.heap[p]? = some (.cells #[.int .i64 16] 3 (0,0))) (hq : w.heap[q]? = some (.cells #[Value.func (.func 94) #[] #[.pointer (some ⟨p,0,none⟩)],Value.func (.func 40) #[] #[]] 29 (0,0))) :
 Calls Tryz.prog 67 #[.slice A xs.length c,.slice (some ⟨q,0,none⟩) 2 cap] w (AllP (shapeB [fun x => decide (x.f0 = 16),isE] xs) w):=shape.first 16 gE ok_gE xs A c w hC q cap p (by decide) hp hq
end
end Go.Proofs.YtboojhadfhpdeaaGreatDoor.Q
namespace Go.Proofs.YtboojhadfhpdeaaGreatDoor.Q
open Go.RowKit Go.Proofs.YtboojhadfhpdeaaGreatDoorW.PrintWords Go.Proofs.YtboojhadfhpdeaaGreatDoorW.PrintLast Go.Proofs.YtboojhadfhpdeaaGreatDoorW.PrintMore
set_option linter.unusedVariables false
section
variable {ops : Array Oper} {T : Bool × List (List Nat × List Nat)} {Q : Exit → Act → World → Prop} {S : World → Prop} {oi : Oper} {v : Value} {fuel : Nat} {l : Array Bool} {a a' : Act} {w : World}
theorem rp (i : Nat) (N : Tmp) (HT : Aside0 (rtab .any ops = T)) (hi : ops[i]? = some oi:=by rfl) (hN : oi.dst = some N:=by rfl) (hc : anyT T l.toList (l.setIfInBounds i true).toList i = true:=by kernel_rfl)
 (hQ : ∀ c a w,Q (.panic c) (a.put oi.dst v) w → Q (.panic c) a w:=by exact fun _ _ _ h => h) (hw : Region.wanted oi (yielded ops a.tmps) = true:=by rfl)
 (hy : ∀ w,(execOp a.eval oi).run Tryz.prog w = .ok (.value v) w:=by (intro w';go_simp;with_reducible rfl))
 (ha : a.put (some N) v = a' := by (simp only [Act.put,List.setIfInBounds_toArray,List.set_cons_zero,List.set_cons_succ,i64_w,i32_w];rfl))
 (h : wpAnyLast Tryz.prog .any ops Q S [] fuel (l.setIfInBounds i true) a' w) : wpAnyLast Tryz.prog .any ops Q S [] (fuel + 1) l a w:=pure_ _ hi hN (any_of HT.out hc) hQ (Or.inl ⟨hw,hy⟩) ha h
theorem ro (i : Nat) (N : Tmp) (HT : Aside0 (rtab .any ops = T)) (hi : ops[i]? = some oi:=by rfl) (hN : oi.dst = some N:=by rfl) (hc : anyT T l.toList (l.setIfInBounds i true).toList i = true:=by kernel_rfl)
 (hQ : ∀ c a w,Q (.panic c) (a.put oi.dst undef) w → Q (.panic c) a w:=by exact fun _ _ _ h => h) (hw : Region.wanted oi (yielded ops a.tmps) = false:=by rfl)
 (ha : a.put (some N) undef = a' := by (simp only [Act.put,List.setIfInBounds_toArray,List.set_cons_zero,List.set_cons_succ,i64_w,i32_w];rfl))
 (h : wpAnyLast Tryz.prog .any ops Q S [] fuel (l.setIfInBounds i true) a' w) : wpAnyLast Tryz.prog .any ops Q S [] (fuel + 1) l a w:=pure_ _ hi hN (any_of HT.out hc) hQ (Or.inr ⟨hw,rfl⟩) ha h
theorem rt (i : Nat) (N : Tmp) (HT : Aside0 (rtab .any ops = T)) (hS : S w) (hi : ops[i]? = some oi:=by rfl) (hN : oi.dst = some N:=by rfl) (hc : takeT T [] l.toList (l.setIfInBounds i true).toList i = true:=by kernel_rfl)
 (hQ : ∀ c a w,Q (.panic c) (a.put oi.dst v) w → Q (.panic c) a w:=by exact fun _ _ _ h => h) (hw : Region.wanted oi (yielded ops a.tmps) = true:=by rfl)
 (hy : ∀ w,S w → (execOp a.eval oi).run Tryz.prog w = .ok (.value v) w:=by (intro w' s0_;obtain ⟨s0,s1,s2⟩:=s0_;go_simp;with_reducible rfl))
 (ha : a.put (some N) v = a' := by (simp only [Act.put,List.setIfInBounds_toArray,List.set_cons_zero,List.set_cons_succ,i64_w,i32_w];rfl))
 (h : wpAnyLast Tryz.prog .any ops Q S [] fuel (l.setIfInBounds i true) a' w) : wpAnyLast Tryz.prog .any ops Q S [] (fuel + 1) l a w:=take_ _ hi hN (take_of HT.out hc) hQ (Or.inl ⟨hw,hy⟩) hS ha h
theorem rc (i : Nat) (N : Tmp) (HT : Aside0 (rtab .any ops = T)) (hi : ops[i]? = some oi:=by rfl) (hN : oi.dst = some N:=by rfl) (hc : (readyT T.2 l.toList == [i] && l.toList.set i true == (l.setIfInBounds i true).toList) = true:=by kernel_rfl)
 (h : ∀ K : Act → World → Prop,Shut (∀ a' w',S w' → (S w' → wpAnyLast Tryz.prog .any ops Q S [] fuel (l.setIfInBounds i true) a' w') → K a' w') → if Region.wanted oi (yielded ops a.tmps) = true then Oper.wp Tryz.prog oi a w K Q else K (a.put (some N) undef) w) :
 wpAnyLast Tryz.prog .any ops Q S [] (fuel + 1) l a w:=one_ _ hi hN (one_of HT.out hc) (by simp) h
theorem rn (h : wpAnyLast Tryz.prog .any ops Q S [] fuel l a' w) (ha : a = a' := by (simp only [Act.put,List.setIfInBounds_toArray,List.set_cons_zero,List.set_cons_succ,i64_w,i32_w];rfl)) : wpAnyLast Tryz.prog .any ops Q S [] fuel l a w:=norm_ ha h
theorem rd_ {n : Nat} (HT : Aside0 (rtab .any ops = T)) (h : Q .normal a w) (hc : (readyT T.2 l.toList == []) = true:=by kernel_rfl) : wpAnyLast Tryz.prog .any ops Q S [] n l a w:=done_ (done_of HT.out hc) h
end
end Go.Proofs.YtboojhadfhpdeaaGreatDoor.Q
namespace Go.Proofs.YtboojhadfhpdeaaGreatDoor.Q
open Go.RowKit Go.Proofs.YtboojhadfhpdeaaGreatDoorW.PrintWords Go.Proofs.YtboojhadfhpdeaaGreatDoorW.PrintLast Go.Proofs.YtboojhadfhpdeaaGreatDoorW.PrintMore
set_option linter.unusedVariables false
set_option linter.unusedSimpArgs false
def e14 (x : S25) : Bool:=(x.f1.toList == ([] : List UInt8)) && (x.f2 == 0) && shapeB [fun x => decide (x.f0 = 16),isE] x.f4
set_option maxHeartbeats 8000000 in
set_option maxRecDepth 100000 in
theorem cast.a {x : S25} {A : Option Addr} {c : Nat} {w : World} (hk : x.f0 = 14) (h0 : (x.f1.toList == ([] : List UInt8)) = false) (hG : PremW w) (hn : ND w x A c) : Calls Tryz.prog 41 #[val x A c] w (AllP (e14 x) w):=by
 have b1 : (x.f0 == 1) = false:=by rw [hk];rfl
 have b2 : (x.f0 == 2) = false:=by rw [hk];rfl
 have b3 : (x.f0 == 3) = false:=by rw [hk];rfl
 have b4 : (x.f0 == 4) = false:=by rw [hk];rfl
 have b5 : (x.f0 == 5) = false:=by rw [hk];rfl
 have b6 : (x.f0 == 6) = false:=by rw [hk];rfl
 have b7 : (x.f0 == 7) = false:=by rw [hk];rfl
 have b8 : (x.f0 == 8) = false:=by rw [hk];rfl
 have b9 : (x.f0 == 9) = false:=by rw [hk];rfl
 have b10 : (x.f0 == 10) = false:=by rw [hk];rfl
 have b11 : (x.f0 == 11) = false:=by rw [hk];rfl
 have b12 : (x.f0 == 12) = false:=by rw [hk];rfl
 have b13 : (x.f0 == 13) = false:=by rw [hk];rfl
 have b14 : (x.f0 == 14) = true:=by rw [hk];rfl
 have e0 : (x.f1.toList == ([] : List UInt8)) = false:=h0;have e1 : (x.f1.toList != ([] : List UInt8)) = true:=by rw [bne,h0];rfl
 have HH:=Aside0.mk (show e14 x = false from by unfold e14;rw [h0];rfl);clear h0;have E:=Env.start hG hn;clear hk hn hG;go_enter Tryz.func41,Tryz.ntmps41
 go_wp2
 replace E:=Aside0.mk (E.out.step (W1:=(w.alloc (.cells #[.int .i64 x.f0,.string x.f1,.int .u32 x.f2,.bool x.f3,.slice A x.f4.length c,.int .i64 x.f5] 25 (0,0))).drew) (below_drew1 (Below.refl _ _)));refine start_ (n:=9) (S:=fun w' => w'.cell? ⟨w.heap.size,4,none⟩ = some (.slice A x.f4.length c) ∧ True ∧ True) (ds:=[]) (Array.replicate 9 false) (by kernel_rfl) rfl rfl ⟨E.out.cells.2.2.2.2.1,trivial,trivial⟩ (fun hHeld => ?_);refine with_tab (T:=rtab .any (opsOf Tryz.f41 29)) (by kernel_rfl) (fun HT_ => ?_);generalize (w.alloc (.cells #[.int .i64 x.f0,.string x.f1,.int .u32 x.f2,.bool x.f3,.slice A x.f4.length c,.int .i64 x.f5] 25 (0,0))).drew = w7 at E hHeld ⊢;refine rp 0 203 HT_ (h:=?_);refine rp 1 204 HT_ (h:=?_);refine ro 2 205 HT_ (h:=?_);refine ro 3 206 HT_ (h:=?_);refine ro 4 207 HT_ (h:=?_);refine ro 5 208 HT_ (h:=?_);refine ro 6 209 HT_ (h:=?_);refine rp 7 210 HT_ (h:=?_);refine rp 8 2 HT_ (h:=?_);refine rd_ HT_ ?_;try go_wp2
 go_ret
 exact ⟨by rw [HH.out];rfl,E.out.b⟩
set_option maxHeartbeats 8000000 in
set_option maxRecDepth 100000 in
theorem cast.b {x : S25} {A : Option Addr} {c : Nat} {w : World} (hk : x.f0 = 14) (h0 : (x.f1.toList == ([] : List UInt8)) = true) (h1 : (x.f2 == 0) = false) (hG : PremW w) (hn : ND w x A c) : Calls Tryz.prog 41 #[val x A c] w (AllP (e14 x) w):=by
 have b1 : (x.f0 == 1) = false:=by rw [hk];rfl
 have b2 : (x.f0 == 2) = false:=by rw [hk];rfl
 have b3 : (x.f0 == 3) = false:=by rw [hk];rfl
 have b4 : (x.f0 == 4) = false:=by rw [hk];rfl
 have b5 : (x.f0 == 5) = false:=by rw [hk];rfl
 have b6 : (x.f0 == 6) = false:=by rw [hk];rfl
 have b7 : (x.f0 == 7) = false:=by rw [hk];rfl
 have b8 : (x.f0 == 8) = false:=by rw [hk];rfl
 have b9 : (x.f0 == 9) = false:=by rw [hk];rfl
 have b10 : (x.f0 == 10) = false:=by rw [hk];rfl
 have b11 : (x.f0 == 11) = false:=by rw [hk];rfl
 have b12 : (x.f0 == 12) = false:=by rw [hk];rfl
 have b13 : (x.f0 == 13) = false:=by rw [hk];rfl
 have b14 : (x.f0 == 14) = true:=by rw [hk];rfl
 have e0 : (x.f1.toList == ([] : List UInt8)) = true:=h0;have e1 : (x.f1.toList != ([] : List UInt8)) = false:=by rw [bne,h0];rfl
 have e2 : (x.f2 == 0) = false:=h1;have HH:=Aside0.mk (show e14 x = false from by unfold e14;rw [h0,h1];rfl);clear h0 h1;have E:=Env.start hG hn;clear hk hn hG;go_enter Tryz.func41,Tryz.ntmps41
 go_wp2
 replace E:=Aside0.mk (E.out.step (W1:=(w.alloc (.cells #[.int .i64 x.f0,.string x.f1,.int .u32 x.f2,.bool x.f3,.slice A x.f4.length c,.int .i64 x.f5] 25 (0,0))).drew) (below_drew1 (Below.refl _ _)));refine start_ (n:=9) (S:=fun w' => w'.cell? ⟨w.heap.size,4,none⟩ = some (.slice A x.f4.length c) ∧ True ∧ True) (ds:=[]) (Array.replicate 9 false) (by kernel_rfl) rfl rfl ⟨E.out.cells.2.2.2.2.1,trivial,trivial⟩ (fun hHeld => ?_);refine with_tab (T:=rtab .any (opsOf Tryz.f41 29)) (by kernel_rfl) (fun HT_ => ?_);generalize (w.alloc (.cells #[.int .i64 x.f0,.string x.f1,.int .u32 x.f2,.bool x.f3,.slice A x.f4.length c,.int .i64 x.f5] 25 (0,0))).drew = w7 at E hHeld ⊢;refine rp 0 203 HT_ (h:=?_);refine rp 1 204 HT_ (h:=?_);refine ro 2 205 HT_ (h:=?_);refine ro 3 206 HT_ (h:=?_);refine ro 4 207 HT_ (h:=?_);refine ro 5 208 HT_ (h:=?_);refine ro 6 209 HT_ (h:=?_);refine rp 7 210 HT_ (h:=?_);refine rp 8 2 HT_ (h:=?_);refine rd_ HT_ ?_;try go_wp2
 go_ret
 exact ⟨by rw [HH.out];rfl,E.out.b⟩
set_option maxHeartbeats 8000000 in
set_option maxRecDepth 100000 in
theorem cast.c {x : S25} {A : Option Addr} {c : Nat} {w : World} (hk : x.f0 = 14) (h0 : (x.f1.toList == ([] : List UInt8)) = true) (h1 : (x.f2 == 0) = true) (hG : PremW w) (hn : ND w x A c) : Calls Tryz.prog 41 #[val x A c] w (AllP (e14 x) w):=by
 have b1 : (x.f0 == 1) = false:=by rw [hk];rfl
 have b2 : (x.f0 == 2) = false:=by rw [hk];rfl
 have b3 : (x.f0 == 3) = false:=by rw [hk];rfl
 have b4 : (x.f0 == 4) = false:=by rw [hk];rfl
 have b5 : (x.f0 == 5) = false:=by rw [hk];rfl
 have b6 : (x.f0 == 6) = false:=by rw [hk];rfl
 have b7 : (x.f0 == 7) = false:=by rw [hk];rfl
 have b8 : (x.f0 == 8) = false:=by rw [hk];rfl
 have b9 : (x.f0 == 9) = false:=by rw [hk];rfl
 have b10 : (x.f0 == 10) = false:=by rw [hk];rfl
 have b11 : (x.f0 == 11) = false:=by rw [hk];rfl
 have b12 : (x.f0 == 12) = false:=by rw [hk];rfl
 have b13 : (x.f0 == 13) = false:=by rw [hk];rfl
 have b14 : (x.f0 == 14) = true:=by rw [hk];rfl
 have e0 : (x.f1.toList == ([] : List UInt8)) = true:=h0;have e1 : (x.f1.toList != ([] : List UInt8)) = false:=by rw [bne,h0];rfl
 have e2 : (x.f2 == 0) = true:=h1;have HH:=Aside0.mk (show e14 x = shapeB [fun x => decide (x.f0 = 16),isE] x.f4 from by unfold e14;rw [h0,h1];rfl);clear h0 h1;have E:=Env.start hG hn;clear hk hn hG;go_enter Tryz.func41,Tryz.ntmps41
 go_wp2
 replace E:=Aside0.mk (E.out.step (W1:=(w.alloc (.cells #[.int .i64 x.f0,.string x.f1,.int .u32 x.f2,.bool x.f3,.slice A x.f4.length c,.int .i64 x.f5] 25 (0,0))).drew) (below_drew1 (Below.refl _ _)));refine start_ (n:=9) (S:=fun w' => w'.cell? ⟨w.heap.size,4,none⟩ = some (.slice A x.f4.length c) ∧ True ∧ True) (ds:=[]) (Array.replicate 9 false) (by kernel_rfl) rfl rfl ⟨E.out.cells.2.2.2.2.1,trivial,trivial⟩ (fun hHeld => ?_);refine with_tab (T:=rtab .any (opsOf Tryz.f41 29)) (by kernel_rfl) (fun HT_ => ?_);generalize (w.alloc (.cells #[.int .i64 x.f0,.string x.f1,.int .u32 x.f2,.bool x.f3,.slice A x.f4.length c,.int .i64 x.f5] 25 (0,0))).drew = w7 at E hHeld ⊢;refine rp 0 203 HT_ (h:=?_);refine rp 1 204 HT_ (h:=?_);refine rp 2 205 HT_ (h:=?_);refine rt 3 206 HT_ hHeld (h:=?_);refine rc 4 207 HT_ (h:=fun K hK => ?_);refine goes_ Tryz.func70 (by kernel_rfl) rfl #[.int .i64 16] (by rfl) rfl rfl (by (try simp only [List.map_toArray,List.map_cons,List.map_nil]);first|done|rfl) ((of.all 16 _).mono ?_);rintro e w8 ⟨q,rfl,hq,hB⟩;refine ⟨_,rfl,?_⟩;have HQ:=Aside0.mk hq;clear hq;replace E:=Aside0.mk (E.out.step hB);clear hB;refine hK.out _ _ ⟨E.out.cells.2.2.2.2.1,trivial,trivial⟩ (fun hHeld => rn ?_);clear hK K;refine rc 5 208 HT_ (h:=fun K hK => ?_);go_simp;replace HQ:=Aside0.mk (blk_below HQ.out (below_alloc (Below.refl _ _) (.cells #[Value.func (.func 94) #[] #[.pointer (some ⟨q,0,none⟩)],Value.func (.func 40) #[] #[]] 29 (0,0))));have HF:=Aside0.mk (blk_new w8 (.cells #[Value.func (.func 94) #[] #[.pointer (some ⟨q,0,none⟩)],Value.func (.func 40) #[] #[]] 29 (0,0)));replace E:=Aside0.mk (E.out.alloc (.cells #[Value.func (.func 94) #[] #[.pointer (some ⟨q,0,none⟩)],Value.func (.func 40) #[] #[]] 29 (0,0)));refine hK.out _ _ ⟨E.out.cells.2.2.2.2.1,trivial,trivial⟩ (fun hHeld => ?_);clear hK K;refine rc 6 209 HT_ (h:=fun K hK => ?_);refine goes_ Tryz.func67 (by kernel_rfl) rfl #[.slice A x.f4.length c,.slice (some ⟨w8.heap.size,0,none⟩) 2 2] (by rfl) rfl rfl (by (try simp only [List.map_toArray,List.map_cons,List.map_nil]);first|done|rfl) ((shape.te x.f4 A c _ E.out.kids _ _ q HQ.out HF.out).mono ?_);rintro e w9 ⟨rfl,hB⟩;refine ⟨_,rfl,?_⟩;replace E:=Aside0.mk (E.out.step hB);clear hB;refine hK.out _ _ ⟨E.out.cells.2.2.2.2.1,trivial,trivial⟩ (fun hHeld => rn ?_);clear hK K;refine rp 7 210 HT_ (h:=?_);refine rp 8 2 HT_ (h:=?_);refine rd_ HT_ ?_;try go_wp2
 go_ret
 exact ⟨by rw [HH.out];rfl,E.out.b⟩
theorem expressions.k14 {x : S25} {A : Option Addr} {c : Nat} {w : World} (hk : x.f0 = 14) (hG : PremW w) (hn : ND w x A c) : Calls Tryz.prog 41 #[val x A c] w (AllP (e14 x) w):=by
 cases h0 : (x.f1.toList == ([] : List UInt8)) with
 | false => exact cast.a hk h0 hG hn
 | true =>
  cases h1 : (x.f2 == 0) with
  | false => exact cast.b hk h0 h1 hG hn
  | true => exact cast.c hk h0 h1 hG hn
end Go.Proofs.YtboojhadfhpdeaaGreatDoor.Q
namespace Go.Proofs.YtboojhadfhpdeaaGreatDoor.Q
open Go.RowKit Go.Proofs.YtboojhadfhpdeaaGreatDoorW.PrintWords Go.Proofs.YtboojhadfhpdeaaGreatDoorW.PrintLast Go.Proofs.YtboojhadfhpdeaaGreatDoorW.PrintMore
set_option linter.unusedVariables false
set_option linter.unusedSimpArgs false
def s47 (x : S25) : Bool:=((x.f1.toList == ([] : List UInt8)) && (x.f2 == 0) && (x.f4.all (fun x => isS x || decide (x.f0 = 42))))
set_option maxHeartbeats 8000000 in
set_option maxRecDepth 100000 in
theorem statements.n47 {x : S25} {A : Option Addr} {c : Nat} {w : World} (hk : x.f0 = 47) (hG : PremW w) (hn : ND w x A c) : Calls Tryz.prog 43 #[val x A c] w (AllP (s47 x) w):=by
 have E:=Env.start hG hn;clear hn hG;have b47 : (x.f0 == 47) = true:=by rw [hk];rfl
 have HK:=Aside0.mk hk;clear hk;cases h0 : (x.f1.toList == ([] : List UInt8));rotate_left 1;cases h1 : (x.f2 == 0);rotate_right 1
 rotate_left 2;cases h2 : (x.f4.all (fun x => isS x || decide (x.f0 = 42)));rotate_right 2
 all_goals
  try have h0m0 : (x.f1.toList != ([] : List UInt8)) = false:=by rw [bne,h0];rfl
  try have h0m0 : (x.f1.toList != ([] : List UInt8)) = true:=by rw [bne,h0];rfl
  try have h1m0 : (x.f2 != 0) = false:=by rw [bne,h1];rfl
  try have h1m0 : (x.f2 != 0) = true:=by rw [bne,h1];rfl
  try (have HC2:=Aside0.mk h2;clear h2)
  go_enter Tryz.func43,Tryz.ntmps43
  go_wp2_with (first
   | (go_at_call 33;(try clear c0 c1 c2 c3 c4 c5);(with_reducible refine Env.call E E.out HC2.out (every.calls x.f4 A c _ E.out.kids 73 #[] (fun x => isS x || decide (x.f0 = 42)) (enters_of Tryz.func73 (by kernel_rfl) rfl) (asks_all statements1.all)) (fun w1 E c0 c1 c2 c3 c4 c5 => ?_)))
   | fail)
  go_ret
  exact ⟨by unfold s47;(try rw [h0]);(try rw [h1]);(try rw [HC2.out]);first|done|rfl,fin_⟩
def s48 (x : S25) : Bool:=((x.f1.toList == ([] : List UInt8)) && (x.f2 == 0) && (shapeB (gE.map (·.2)) x.f4))
set_option maxHeartbeats 8000000 in
set_option maxRecDepth 100000 in
theorem statements.n48 {x : S25} {A : Option Addr} {c : Nat} {w : World} (hk : x.f0 = 48) (hG : PremW w) (hn : ND w x A c) : Calls Tryz.prog 43 #[val x A c] w (AllP (s48 x) w):=by
 have E:=Env.start hG hn;clear hn hG;have b47 : (x.f0 == 47) = false:=by rw [hk];rfl
 have b48 : (x.f0 == 48) = true:=by rw [hk];rfl
 have HK:=Aside0.mk hk;clear hk;cases h0 : (x.f1.toList == ([] : List UInt8));rotate_left 1;cases h1 : (x.f2 == 0);rotate_right 1
 rotate_left 2;cases h2 : (shapeB (gE.map (·.2)) x.f4);rotate_right 2
 all_goals
  try have h0m0 : (x.f1.toList != ([] : List UInt8)) = false:=by rw [bne,h0];rfl
  try have h0m0 : (x.f1.toList != ([] : List UInt8)) = true:=by rw [bne,h0];rfl
  try have h1m0 : (x.f2 != 0) = false:=by rw [bne,h1];rfl
  try have h1m0 : (x.f2 != 0) = true:=by rw [bne,h1];rfl
  try (have HC2:=Aside0.mk h2;clear h2)
  have tk2 : True:=trivial;go_enter Tryz.func43,Tryz.ntmps43
  go_wp2_with (first
   | (go_at_call 67;have t_:=tk2;clear t_ tk2;(try clear c0 c1 c2 c3 c4 c5);(refine Env.call E (E.out.alloc _) HC2.out (shape.at 1 gE rfl ok_gE x.f4 A c _ (E.out.alloc _).kids _ _ (by decide) (by first|exact blk_new _ _|exact blk_new1 _ _ _)) (fun w1 E c0 c1 c2 c3 c4 c5 => ?_)))
   | fail)
  go_ret
  exact ⟨by unfold s48;(try rw [h0]);(try rw [h1]);(try rw [HC2.out]);first|done|rfl,fin_⟩
end Go.Proofs.YtboojhadfhpdeaaGreatDoor.Q
namespace Go.Proofs.YtboojhadfhpdeaaGreatDoor.Q
open Go.RowKit Go.Proofs.YtboojhadfhpdeaaGreatDoorW.PrintWords Go.Proofs.YtboojhadfhpdeaaGreatDoorW.PrintLast Go.Proofs.YtboojhadfhpdeaaGreatDoorW.PrintMore
set_option linter.unusedVariables false
set_option linter.unusedSimpArgs false
def s50 (x : S25) : Bool:=((x.f1.toList == ([] : List UInt8)) && (x.f2 == 0) && (shapeB (gES.map (·.2)) x.f4))
set_option maxHeartbeats 8000000 in
set_option maxRecDepth 100000 in
theorem statements.n50 {x : S25} {A : Option Addr} {c : Nat} {w : World} (hk : x.f0 = 50) (hG : PremW w) (hn : ND w x A c) : Calls Tryz.prog 43 #[val x A c] w (AllP (s50 x) w):=by
 have E:=Env.start hG hn;clear hn hG;have b47 : (x.f0 == 47) = false:=by rw [hk];rfl
 have b48 : (x.f0 == 48) = false:=by rw [hk];rfl
 have b49 : (x.f0 == 49) = false:=by rw [hk];rfl
 have b50 : (x.f0 == 50) = true:=by rw [hk];rfl
 have HK:=Aside0.mk hk;clear hk;cases h0 : (x.f1.toList == ([] : List UInt8));rotate_left 1;cases h1 : (x.f2 == 0);rotate_right 1
 rotate_left 2;cases h2 : (shapeB (gES.map (·.2)) x.f4);rotate_right 2
 all_goals
  try have h0m0 : (x.f1.toList != ([] : List UInt8)) = false:=by rw [bne,h0];rfl
  try have h0m0 : (x.f1.toList != ([] : List UInt8)) = true:=by rw [bne,h0];rfl
  try have h1m0 : (x.f2 != 0) = false:=by rw [bne,h1];rfl
  try have h1m0 : (x.f2 != 0) = true:=by rw [bne,h1];rfl
  try (have HC2:=Aside0.mk h2;clear h2)
  have tk2 : True:=trivial;go_enter Tryz.func43,Tryz.ntmps43
  go_wp2_with (first
   | (go_at_call 67;have t_:=tk2;clear t_ tk2;(try clear c0 c1 c2 c3 c4 c5);(refine Env.call E (E.out.alloc _) HC2.out (shape.at 2 gES rfl ok_gES x.f4 A c _ (E.out.alloc _).kids _ _ (by decide) (by first|exact blk_new _ _|exact blk_new1 _ _ _)) (fun w1 E c0 c1 c2 c3 c4 c5 => ?_)))
   | fail)
  go_ret
  exact ⟨by unfold s50;(try rw [h0]);(try rw [h1]);(try rw [HC2.out]);first|done|rfl,fin_⟩
def s51 (x : S25) : Bool:=((x.f1.toList == ([] : List UInt8)) && (x.f2 == 0) && (shapeB (gSE.map (·.2)) x.f4))
set_option maxHeartbeats 8000000 in
set_option maxRecDepth 100000 in
theorem statements.n51 {x : S25} {A : Option Addr} {c : Nat} {w : World} (hk : x.f0 = 51) (hG : PremW w) (hn : ND w x A c) : Calls Tryz.prog 43 #[val x A c] w (AllP (s51 x) w):=by
 have E:=Env.start hG hn;clear hn hG;have b47 : (x.f0 == 47) = false:=by rw [hk];rfl
 have b48 : (x.f0 == 48) = false:=by rw [hk];rfl
 have b49 : (x.f0 == 49) = false:=by rw [hk];rfl
 have b50 : (x.f0 == 50) = false:=by rw [hk];rfl
 have b51 : (x.f0 == 51) = true:=by rw [hk];rfl
 have HK:=Aside0.mk hk;clear hk;cases h0 : (x.f1.toList == ([] : List UInt8));rotate_left 1;cases h1 : (x.f2 == 0);rotate_right 1
 rotate_left 2;cases h2 : (shapeB (gSE.map (·.2)) x.f4);rotate_right 2
 all_goals
  try have h0m0 : (x.f1.toList != ([] : List UInt8)) = false:=by rw [bne,h0];rfl
  try have h0m0 : (x.f1.toList != ([] : List UInt8)) = true:=by rw [bne,h0];rfl
  try have h1m0 : (x.f2 != 0) = false:=by rw [bne,h1];rfl
  try have h1m0 : (x.f2 != 0) = true:=by rw [bne,h1];rfl
  try (have HC2:=Aside0.mk h2;clear h2)
  have tk2 : True:=trivial;go_enter Tryz.func43,Tryz.ntmps43
  go_wp2_with (first
   | (go_at_call 67;have t_:=tk2;clear t_ tk2;(try clear c0 c1 c2 c3 c4 c5);(refine Env.call E (E.out.alloc _) HC2.out (shape.at 2 gSE rfl ok_gSE x.f4 A c _ (E.out.alloc _).kids _ _ (by decide) (by first|exact blk_new _ _|exact blk_new1 _ _ _)) (fun w1 E c0 c1 c2 c3 c4 c5 => ?_)))
   | fail)
  go_ret
  exact ⟨by unfold s51;(try rw [h0]);(try rw [h1]);(try rw [HC2.out]);first|done|rfl,fin_⟩
end Go.Proofs.YtboojhadfhpdeaaGreatDoor.Q
namespace Go.Proofs.YtboojhadfhpdeaaGreatDoor.Q
open Go.RowKit Go.Proofs.YtboojhadfhpdeaaGreatDoorW.PrintWords Go.Proofs.YtboojhadfhpdeaaGreatDoorW.PrintLast Go.Proofs.YtboojhadfhpdeaaGreatDoorW.PrintMore
set_option linter.unusedVariables false
set_option linter.unusedSimpArgs false
def s52 (x : S25) : Bool:=((x.f1.toList == ([] : List UInt8)) && (x.f2 == 0) && (shapeB (gNNNS.map (·.2)) x.f4))
set_option maxHeartbeats 8000000 in
set_option maxRecDepth 100000 in
theorem statements.n52 {x : S25} {A : Option Addr} {c : Nat} {w : World} (hk : x.f0 = 52) (hG : PremW w) (hn : ND w x A c) : Calls Tryz.prog 43 #[val x A c] w (AllP (s52 x) w):=by
 have E:=Env.start hG hn;clear hn hG;have b47 : (x.f0 == 47) = false:=by rw [hk];rfl
 have b48 : (x.f0 == 48) = false:=by rw [hk];rfl
 have b49 : (x.f0 == 49) = false:=by rw [hk];rfl
 have b50 : (x.f0 == 50) = false:=by rw [hk];rfl
 have b51 : (x.f0 == 51) = false:=by rw [hk];rfl
 have b52 : (x.f0 == 52) = true:=by rw [hk];rfl
 have HK:=Aside0.mk hk;clear hk;cases h0 : (x.f1.toList == ([] : List UInt8));rotate_left 1;cases h1 : (x.f2 == 0);rotate_right 1
 rotate_left 2;cases h2 : (shapeB (gNNNS.map (·.2)) x.f4);rotate_right 2
 all_goals
  try have h0m0 : (x.f1.toList != ([] : List UInt8)) = false:=by rw [bne,h0];rfl
  try have h0m0 : (x.f1.toList != ([] : List UInt8)) = true:=by rw [bne,h0];rfl
  try have h1m0 : (x.f2 != 0) = false:=by rw [bne,h1];rfl
  try have h1m0 : (x.f2 != 0) = true:=by rw [bne,h1];rfl
  try (have HC2:=Aside0.mk h2;clear h2)
  have tk2 : True:=trivial;go_enter Tryz.func43,Tryz.ntmps43
  go_wp2_with (first
   | (go_at_call 67;have t_:=tk2;clear t_ tk2;(try clear c0 c1 c2 c3 c4 c5);(refine Env.call E (E.out.alloc _) HC2.out (shape.at 4 gNNNS rfl ok_gNNNS x.f4 A c _ (E.out.alloc _).kids _ _ (by decide) (by first|exact blk_new _ _|exact blk_new1 _ _ _)) (fun w1 E c0 c1 c2 c3 c4 c5 => ?_)))
   | fail)
  go_ret
  exact ⟨by unfold s52;(try rw [h0]);(try rw [h1]);(try rw [HC2.out]);first|done|rfl,fin_⟩
end Go.Proofs.YtboojhadfhpdeaaGreatDoor.Q
namespace Go.Proofs.YtboojhadfhpdeaaGreatDoor.Q
open Go.RowKit Go.Proofs.YtboojhadfhpdeaaGreatDoorW.PrintWords Go.Proofs.YtboojhadfhpdeaaGreatDoorW.PrintLast Go.Proofs.YtboojhadfhpdeaaGreatDoorW.PrintMore
set_option linter.unusedVariables false
set_option linter.unusedSimpArgs false
theorem shape_len {gp : List (FuncId × (S25 → Bool))} {l : List S25} (h : shapeB (gp.map (·.2)) l = true) : l.length = gp.length:=by
 unfold shapeB at h;rw [Bool.and_eq_true,decide_eq_true_eq,List.length_map] at h;exact h.1
theorem node_at1 {w : World} {A : Option Addr} {n : Nat} {xs : List S25} (h : Kd.C k25 w A n xs) (hi : 1 < n) :
 ∃ ad A' c',A = some ad ∧ ND w (nd xs 1) A' c' ∧ w.cell? ⟨ad.block,ad.off + 6,none⟩ = some (.int .i64 (nd xs 1).f0) ∧ w.cell? ⟨ad.block,ad.off + 6 + 1,none⟩ = some (.string (nd xs 1).f1) ∧ w.cell? ⟨ad.block,ad.off + 6 + 2,none⟩ = some (.int .u32 (nd xs 1).f2) ∧ w.cell? ⟨ad.block,ad.off + 6 + 3,none⟩ = some (.bool (nd xs 1).f3) ∧ w.cell? ⟨ad.block,ad.off + 6 + 4,none⟩ = some (.slice A' (nd xs 1).f4.length c') ∧ w.cell? ⟨ad.block,ad.off + 6 + 5,none⟩ = some (.int .i64 (nd xs 1).f5):=by
 obtain ⟨ad,A',c',e,hn,k0,k1,k2,k3,k4,k5⟩:=node_at h 1 hi;exact ⟨ad,A',c',e,hn,k0,k1,k2,k3,k4,k5⟩
noncomputable def s49 (x : S25) : Bool:=((x.f1.toList == ([] : List UInt8)) && (x.f2 == 0) && ((shapeB (gES.map (·.2)) x.f4) || ((shapeB (gESS.map (·.2)) x.f4) && (!(openA (nd x.f4 1))))))
set_option maxHeartbeats 8000000 in
set_option maxRecDepth 100000 in
theorem statements.n49 {x : S25} {A : Option Addr} {c : Nat} {w : World} (hk : x.f0 = 49) (hG : PremW w) (hn : ND w x A c) : Calls Tryz.prog 43 #[val x A c] w (AllP (s49 x) w):=by
 have E:=Env.start hG hn;clear hn hG;have b47 : (x.f0 == 47) = false:=by rw [hk];rfl
 have b48 : (x.f0 == 48) = false:=by rw [hk];rfl
 have b49 : (x.f0 == 49) = true:=by rw [hk];rfl
 have HK:=Aside0.mk hk;clear hk;cases h0 : (x.f1.toList == ([] : List UInt8));rotate_left 1;cases h1 : (x.f2 == 0);rotate_right 1
 rotate_left 2;cases h2 : (shapeB (gES.map (·.2)) x.f4);rotate_right 2
 rotate_left 2;cases h3 : (shapeB (gESS.map (·.2)) x.f4);rotate_right 2
 rotate_left 3;cases h4 : (openA (nd x.f4 1));rotate_right 3
 all_goals
  try have h0m0 : (x.f1.toList != ([] : List UInt8)) = false:=by rw [bne,h0];rfl
  try have h0m0 : (x.f1.toList != ([] : List UInt8)) = true:=by rw [bne,h0];rfl
  try have h1m0 : (x.f2 != 0) = false:=by rw [bne,h1];rfl
  try have h1m0 : (x.f2 != 0) = true:=by rw [bne,h1];rfl
  try (have HC2:=Aside0.mk h2;clear h2)
  have tk2 : True:=trivial;try (have HC3:=Aside0.mk h3;clear h3)
  have tk3 : True:=trivial;try (have HC4:=Aside0.mk h4;clear h4)
  go_enter Tryz.func43,Tryz.ntmps43
  go_wp2_with (first
   | (go_at_call 67;have t_:=tk2;clear t_ tk2;(try clear c0 c1 c2 c3 c4 c5);(refine Env.call E (E.out.alloc _) HC2.out (shape.at 2 gES rfl ok_gES x.f4 A c _ (E.out.alloc _).kids _ _ (by decide) (by first|exact blk_new _ _|exact blk_new1 _ _ _)) (fun w1 E c0 c1 c2 c3 c4 c5 => ?_)))
   | (go_at_call 67;have t_:=tk3;clear t_ tk3;(try clear c0 c1 c2 c3 c4 c5);(refine Env.call E (E.out.alloc _) HC3.out (shape.at 3 gESS rfl ok_gESS x.f4 A c _ (E.out.alloc _).kids _ _ (by decide) (by first|exact blk_new _ _|exact blk_new1 _ _ _)) (fun w1 E c0 c1 c2 c3 c4 c5 => ?_));(try (obtain ⟨ad,A1,c1_,rfl,hnd,k0,k1,k2,k3,k4,k5⟩:=node_at1 E.out.kids (by rw [shape_len HC3.out];decide);have HND:=Aside0.mk hnd;clear hnd;have q1 : (1 : Int) < (x.f4.length : Int):=by (rw [shape_len HC3.out];decide))))
   | (go_at_call 74;(try clear c0 c1 c2 c3 c4 c5);(with_reducible refine Env.call E E.out HC4.out (open.all HND.out) (fun w1 E c0 c1 c2 c3 c4 c5 => ?_)))
   | fail)
  go_ret
  exact ⟨by unfold s49;(try rw [h0]);(try rw [h1]);(try rw [HC2.out]);(try rw [HC3.out]);(try rw [HC4.out]);first|done|rfl,fin_⟩
end Go.Proofs.YtboojhadfhpdeaaGreatDoor.Q
namespace Go.Proofs.YtboojhadfhpdeaaGreatDoor.Q
open Go.RowKit Go.Proofs.YtboojhadfhpdeaaGreatDoorW.PrintWords Go.Proofs.YtboojhadfhpdeaaGreatDoorW.PrintLast Go.Proofs.YtboojhadfhpdeaaGreatDoorW.PrintMore
set_option linter.unusedVariables false
set_option linter.unusedSimpArgs false
def s55 (x : S25) : Bool:=((x.f1.toList == ([] : List UInt8)) && (x.f2 == 0) && ((decide ((x.f4.length : Int) ≤ 1)) && (x.f4.all isE)))
set_option maxHeartbeats 8000000 in
set_option maxRecDepth 100000 in
theorem statements.n55 {x : S25} {A : Option Addr} {c : Nat} {w : World} (hk : x.f0 = 55) (hG : PremW w) (hn : ND w x A c) : Calls Tryz.prog 43 #[val x A c] w (AllP (s55 x) w):=by
 have E:=Env.start hG hn;clear hn hG;have b47 : (x.f0 == 47) = false:=by rw [hk];rfl
 have b48 : (x.f0 == 48) = false:=by rw [hk];rfl
 have b49 : (x.f0 == 49) = false:=by rw [hk];rfl
 have b50 : (x.f0 == 50) = false:=by rw [hk];rfl
 have b51 : (x.f0 == 51) = false:=by rw [hk];rfl
 have b52 : (x.f0 == 52) = false:=by rw [hk];rfl
 have b55 : (x.f0 == 55) = true:=by rw [hk];rfl
 have HK:=Aside0.mk hk;clear hk;cases h0 : (x.f1.toList == ([] : List UInt8));rotate_left 1;cases h1 : (x.f2 == 0);rotate_right 1
 rotate_left 2;cases h2 : (decide ((x.f4.length : Int) ≤ 1));rotate_right 2
 rotate_left 3;cases h3 : (x.f4.all isE);rotate_right 3
 all_goals
  try have h0m0 : (x.f1.toList != ([] : List UInt8)) = false:=by rw [bne,h0];rfl
  try have h0m0 : (x.f1.toList != ([] : List UInt8)) = true:=by rw [bne,h0];rfl
  try have h1m0 : (x.f2 != 0) = false:=by rw [bne,h1];rfl
  try have h1m0 : (x.f2 != 0) = true:=by rw [bne,h1];rfl
  try (have HC3:=Aside0.mk h3;clear h3)
  go_enter Tryz.func43,Tryz.ntmps43
  go_wp2_with (first
   | (go_at_call 33;(try clear c0 c1 c2 c3 c4 c5);(with_reducible refine Env.call E E.out HC3.out (every.calls x.f4 A c _ E.out.kids 40 #[] isE (enters_of Tryz.func40 (by kernel_rfl) rfl) (asks_all expression.all)) (fun w1 E c0 c1 c2 c3 c4 c5 => ?_)))
   | fail)
  go_ret
  exact ⟨by unfold s55;(try rw [h0]);(try rw [h1]);(try rw [h2]);(try rw [HC3.out]);first|done|rfl,fin_⟩
def s0 (x : S25) : Bool:=((x.f1.toList == ([] : List UInt8)) && (x.f2 == 0) && ((x.f4.length : Int) == 0))
set_option maxHeartbeats 8000000 in
set_option maxRecDepth 100000 in
theorem statements.n0 {x : S25} {A : Option Addr} {c : Nat} {w : World} (h47 : x.f0 ≠ 47) (h48 : x.f0 ≠ 48) (h49 : x.f0 ≠ 49) (h50 : x.f0 ≠ 50) (h51 : x.f0 ≠ 51) (h52 : x.f0 ≠ 52) (h55 : x.f0 ≠ 55) (hG : PremW w) (hn : ND w x A c) : Calls Tryz.prog 43 #[val x A c] w (AllP (s0 x) w):=by
 have E:=Env.start hG hn;clear hn hG;have b47 : (x.f0 == 47) = false:=beq_eq_false_iff_ne.2 h47;have b48 : (x.f0 == 48) = false:=beq_eq_false_iff_ne.2 h48;have b49 : (x.f0 == 49) = false:=beq_eq_false_iff_ne.2 h49;have b50 : (x.f0 == 50) = false:=beq_eq_false_iff_ne.2 h50;have b51 : (x.f0 == 51) = false:=beq_eq_false_iff_ne.2 h51;have b52 : (x.f0 == 52) = false:=beq_eq_false_iff_ne.2 h52;have b55 : (x.f0 == 55) = false:=beq_eq_false_iff_ne.2 h55;clear h47 h48 h49 h50 h51 h52 h55;cases h0 : (x.f1.toList == ([] : List UInt8));rotate_left 1;cases h1 : (x.f2 == 0);rotate_right 1
 rotate_left 2;cases h2 : ((x.f4.length : Int) == 0);rotate_right 2
 all_goals
  try have h0m0 : (x.f1.toList != ([] : List UInt8)) = false:=by rw [bne,h0];rfl
  try have h0m0 : (x.f1.toList != ([] : List UInt8)) = true:=by rw [bne,h0];rfl
  try have h1m0 : (x.f2 != 0) = false:=by rw [bne,h1];rfl
  try have h1m0 : (x.f2 != 0) = true:=by rw [bne,h1];rfl
  go_enter Tryz.func43,Tryz.ntmps43
  go_wp2
  go_ret
  exact ⟨by unfold s0;(try rw [h0]);(try rw [h1]);(try rw [h2]);first|done|rfl,fin_⟩
end Go.Proofs.YtboojhadfhpdeaaGreatDoor.Q
namespace Go.Proofs.YtboojhadfhpdeaaGreatDoor.Q
open Go.RowKit Go.Proofs.YtboojhadfhpdeaaGreatDoorW.PrintWords Go.Proofs.YtboojhadfhpdeaaGreatDoorW.PrintLast Go.Proofs.YtboojhadfhpdeaaGreatDoorW.PrintMore
set_option linter.unusedVariables false
set_option linter.unusedSimpArgs false
def d40 (x : S25) : Bool:=((x.f1.toList == ([] : List UInt8)) && (x.f2 == 0) && (x.f4.all (fun x => decide (x.f0 = 41) || decide (x.f0 = 42) || decide (x.f0 = 45))))
set_option maxHeartbeats 8000000 in
set_option maxRecDepth 100000 in
theorem declarations.n40 {x : S25} {A : Option Addr} {c : Nat} {w : World} (hk : x.f0 = 40) (hs : Sml x.f1) (hG : PremW w) (hn : ND w x A c) : Calls Tryz.prog 44 #[val x A c] w (AllP (d40 x) w):=by
 have E:=Env.start hG hn;clear hn hG;have b40 : (x.f0 == 40) = true:=by rw [hk];rfl
 have HK:=Aside0.mk hk;clear hk;have HS:=Aside0.mk hs;clear hs;cases h0 : (nmB x.f1);cases h1 : (x.f1.toList == ([] : List UInt8));rotate_left 1;cases h2 : (x.f2 == 0);rotate_right 1
 rotate_left 2;cases h3 : (x.f4.all (fun x => decide (x.f0 = 41) || decide (x.f0 = 42) || decide (x.f0 = 45)));rotate_right 2
 rotate_left 4;cases h1 : (x.f1.toList == ([] : List UInt8));rotate_right 4
 rotate_left 5;cases h2 : (x.f2 == 0);rotate_right 5
 rotate_left 6;cases h3 : (x.f4.all (fun x => decide (x.f0 = 41) || decide (x.f0 = 42) || decide (x.f0 = 45)));rotate_right 6
 all_goals
  try (have HC0:=Aside0.mk h0;clear h0)
  try have h1m0 : (x.f1.toList != ([] : List UInt8)) = false:=by rw [bne,h1];rfl
  try have h1m0 : (x.f1.toList != ([] : List UInt8)) = true:=by rw [bne,h1];rfl
  try have h2m0 : (x.f2 != 0) = false:=by rw [bne,h2];rfl
  try have h2m0 : (x.f2 != 0) = true:=by rw [bne,h2];rfl
  try (have HC3:=Aside0.mk h3;clear h3)
  go_enter Tryz.func44,Tryz.ntmps44
  go_wp2_with (first
   | (go_at_call 66;(try clear c0 c1 c2 c3 c4 c5);(with_reducible refine Env.call E E.out HC0.out (name.all HS.out E.out.prem) (fun w1 E c0 c1 c2 c3 c4 c5 => ?_)))
   | (go_at_call 33;(try clear c0 c1 c2 c3 c4 c5);(with_reducible refine Env.call E E.out HC3.out (every.calls x.f4 A c _ E.out.kids 76 #[] (fun x => decide (x.f0 = 41) || decide (x.f0 = 42) || decide (x.f0 = 45)) (enters_of Tryz.func76 (by kernel_rfl) rfl) (asks_all declarations1.all)) (fun w1 E c0 c1 c2 c3 c4 c5 => ?_)))
   | fail)
  go_ret
  exact ⟨by unfold d40;(try rw [h1]);(try rw [h2]);(try rw [HC3.out]);first|done|rfl,fin_⟩
end Go.Proofs.YtboojhadfhpdeaaGreatDoor.Q
namespace Go.Proofs.YtboojhadfhpdeaaGreatDoor.Q
open Go.RowKit Go.Proofs.YtboojhadfhpdeaaGreatDoorW.PrintWords Go.Proofs.YtboojhadfhpdeaaGreatDoorW.PrintLast Go.Proofs.YtboojhadfhpdeaaGreatDoorW.PrintMore
set_option linter.unusedVariables false
set_option linter.unusedSimpArgs false
def d41 (x : S25) : Bool:=((nmB x.f1) && (x.f2 == 0) && (x.f4.all bareB))
set_option maxHeartbeats 8000000 in
set_option maxRecDepth 100000 in
theorem declarations.n41 {x : S25} {A : Option Addr} {c : Nat} {w : World} (hk : x.f0 = 41) (hs : Sml x.f1) (hG : PremW w) (hn : ND w x A c) : Calls Tryz.prog 44 #[val x A c] w (AllP (d41 x) w):=by
 have E:=Env.start hG hn;clear hn hG;have b40 : (x.f0 == 40) = false:=by rw [hk];rfl
 have b41 : (x.f0 == 41) = true:=by rw [hk];rfl
 have HK:=Aside0.mk hk;clear hk;have HS:=Aside0.mk hs;clear hs;cases h0 : (nmB x.f1);rotate_left 1;cases h1 : (x.f2 == 0);rotate_right 1
 rotate_left 2;cases h2 : (x.f4.all bareB);rotate_right 2
 all_goals
  try (have HC0:=Aside0.mk h0;clear h0)
  try have h1m0 : (x.f2 != 0) = false:=by rw [bne,h1];rfl
  try have h1m0 : (x.f2 != 0) = true:=by rw [bne,h1];rfl
  try (have HC2:=Aside0.mk h2;clear h2)
  go_enter Tryz.func44,Tryz.ntmps44
  go_wp2_with (first
   | (go_at_call 66;(try clear c0 c1 c2 c3 c4 c5);(with_reducible refine Env.call E E.out HC0.out (name.all HS.out E.out.prem) (fun w1 E c0 c1 c2 c3 c4 c5 => ?_)))
   | (go_at_call 33;(try clear c0 c1 c2 c3 c4 c5);(with_reducible refine Env.call E E.out HC2.out (every.calls x.f4 A c _ E.out.kids 77 #[] bareB (enters_of Tryz.func77 (by kernel_rfl) rfl) (asks_all bare.all)) (fun w1 E c0 c1 c2 c3 c4 c5 => ?_)))
   | fail)
  go_ret
  exact ⟨by unfold d41;(try rw [HC0.out]);(try rw [h1]);(try rw [HC2.out]);first|done|rfl,fin_⟩
end Go.Proofs.YtboojhadfhpdeaaGreatDoor.Q
namespace Go.Proofs.YtboojhadfhpdeaaGreatDoor.Q
open Go.RowKit Go.Proofs.YtboojhadfhpdeaaGreatDoorW.PrintWords Go.Proofs.YtboojhadfhpdeaaGreatDoorW.PrintLast Go.Proofs.YtboojhadfhpdeaaGreatDoorW.PrintMore
set_option linter.unusedVariables false
set_option linter.unusedSimpArgs false
def d43 (x : S25) : Bool:=((nmB x.f1) && (x.f2 == 0) && (varB x))
set_option maxHeartbeats 8000000 in
set_option maxRecDepth 100000 in
theorem declarations.n43 {x : S25} {A : Option Addr} {c : Nat} {w : World} (hk : x.f0 = 43) (hs : Sml x.f1) (hG : PremW w) (hn : ND w x A c) : Calls Tryz.prog 44 #[val x A c] w (AllP (d43 x) w):=by
 have E:=Env.start hG hn;clear hn hG;have b40 : (x.f0 == 40) = false:=by rw [hk];rfl
 have b41 : (x.f0 == 41) = false:=by rw [hk];rfl
 have b42 : (x.f0 == 42) = false:=by rw [hk];rfl
 have b43 : (x.f0 == 43) = true:=by rw [hk];rfl
 have HK:=Aside0.mk hk;clear hk;have HS:=Aside0.mk hs;clear hs;cases h0 : (nmB x.f1);rotate_left 1;cases h1 : (x.f2 == 0);rotate_right 1
 rotate_left 2;cases h2 : (varB x);rotate_right 2
 all_goals
  try (have HC0:=Aside0.mk h0;clear h0)
  try have h1m0 : (x.f2 != 0) = false:=by rw [bne,h1];rfl
  try have h1m0 : (x.f2 != 0) = true:=by rw [bne,h1];rfl
  try (have HC2:=Aside0.mk h2;clear h2)
  go_enter Tryz.func44,Tryz.ntmps44
  go_wp2_with (first
   | (go_at_call 66;(try clear c0 c1 c2 c3 c4 c5);(with_reducible refine Env.call E E.out HC0.out (name.all HS.out E.out.prem) (fun w1 E c0 c1 c2 c3 c4 c5 => ?_)))
   | (go_at_call 78;(try clear c0 c1 c2 c3 c4 c5);(with_reducible refine Env.call E E.out HC2.out (variable.all E.out.nd) (fun w1 E c0 c1 c2 c3 c4 c5 => ?_)))
   | fail)
  go_ret
  exact ⟨by unfold d43;(try rw [HC0.out]);(try rw [h1]);(try rw [HC2.out]);first|done|rfl,fin_⟩
end Go.Proofs.YtboojhadfhpdeaaGreatDoor.Q
namespace Go.Proofs.YtboojhadfhpdeaaGreatDoor.Q
open Go.RowKit Go.Proofs.YtboojhadfhpdeaaGreatDoorW.PrintWords Go.Proofs.YtboojhadfhpdeaaGreatDoorW.PrintLast Go.Proofs.YtboojhadfhpdeaaGreatDoorW.PrintMore
set_option linter.unusedVariables false
set_option linter.unusedSimpArgs false
def d44 (x : S25) : Bool:=((x.f1.toList == ([] : List UInt8)) && (x.f2 == 0) && (decide ((x.f4.length : Int) > 0)) && (x.f4.all isE))
set_option maxHeartbeats 8000000 in
set_option maxRecDepth 100000 in
theorem declarations.n44 {x : S25} {A : Option Addr} {c : Nat} {w : World} (hk : x.f0 = 44) (hs : Sml x.f1) (hG : PremW w) (hn : ND w x A c) : Calls Tryz.prog 44 #[val x A c] w (AllP (d44 x) w):=by
 have E:=Env.start hG hn;clear hn hG;have b40 : (x.f0 == 40) = false:=by rw [hk];rfl
 have b41 : (x.f0 == 41) = false:=by rw [hk];rfl
 have b42 : (x.f0 == 42) = false:=by rw [hk];rfl
 have b43 : (x.f0 == 43) = false:=by rw [hk];rfl
 have b44 : (x.f0 == 44) = true:=by rw [hk];rfl
 have HK:=Aside0.mk hk;clear hk;have HS:=Aside0.mk hs;clear hs;cases h0 : (nmB x.f1);cases h1 : (x.f1.toList == ([] : List UInt8));rotate_left 1;cases h2 : (x.f2 == 0);rotate_right 1
 rotate_left 2;cases h3 : (decide ((x.f4.length : Int) > 0));rotate_right 2
 rotate_left 3;cases h4 : (x.f4.all isE);rotate_right 3
 rotate_left 5;cases h1 : (x.f1.toList == ([] : List UInt8));rotate_right 5
 rotate_left 6;cases h2 : (x.f2 == 0);rotate_right 6
 rotate_left 7;cases h3 : (decide ((x.f4.length : Int) > 0));rotate_right 7
 rotate_left 8;cases h4 : (x.f4.all isE);rotate_right 8
 all_goals
  try (have HC0:=Aside0.mk h0;clear h0)
  try have h1m0 : (x.f1.toList != ([] : List UInt8)) = false:=by rw [bne,h1];rfl
  try have h1m0 : (x.f1.toList != ([] : List UInt8)) = true:=by rw [bne,h1];rfl
  try have h2m0 : (x.f2 != 0) = false:=by rw [bne,h2];rfl
  try have h2m0 : (x.f2 != 0) = true:=by rw [bne,h2];rfl
  try have h3m0 : decide (0 < (x.f4.length : Int)) = true:=h3
  try have h3m0 : decide (0 < (x.f4.length : Int)) = false:=h3
  try have h3m1 : decide (0 < x.f4.length) = true:=by rw [← h3];simp
  try have h3m1 : decide (0 < x.f4.length) = false:=by rw [← h3];simp
  try (have HC4:=Aside0.mk h4;clear h4)
  go_enter Tryz.func44,Tryz.ntmps44
  go_wp2_with (first
   | (go_at_call 66;(try clear c0 c1 c2 c3 c4 c5);(with_reducible refine Env.call E E.out HC0.out (name.all HS.out E.out.prem) (fun w1 E c0 c1 c2 c3 c4 c5 => ?_)))
   | (go_at_call 33;(try clear c0 c1 c2 c3 c4 c5);(with_reducible refine Env.call E E.out HC4.out (every.calls x.f4 A c _ E.out.kids 40 #[] isE (enters_of Tryz.func40 (by kernel_rfl) rfl) (asks_all expression.all)) (fun w1 E c0 c1 c2 c3 c4 c5 => ?_)))
   | fail)
  go_ret
  exact ⟨by unfold d44;(try rw [h1]);(try rw [h2]);(try rw [h3]);(try rw [HC4.out]);first|done|rfl,fin_⟩
end Go.Proofs.YtboojhadfhpdeaaGreatDoor.Q
namespace Go.Proofs.YtboojhadfhpdeaaGreatDoor.Q
open Go.RowKit Go.Proofs.YtboojhadfhpdeaaGreatDoorW.PrintWords Go.Proofs.YtboojhadfhpdeaaGreatDoorW.PrintLast Go.Proofs.YtboojhadfhpdeaaGreatDoorW.PrintMore
set_option linter.unusedVariables false
set_option linter.unusedSimpArgs false
def d46 (x : S25) : Bool:=((nmB x.f1) && (decide (x.f2 ≤ 1)) && (!((x.f3) && (x.f2 == 1))) && (shapeB [fun x => decide (x.f0 = 16)] x.f4))
set_option maxHeartbeats 8000000 in
set_option maxRecDepth 100000 in
theorem declarations.n46 {x : S25} {A : Option Addr} {c : Nat} {w : World} (hk : x.f0 = 46) (hs : Sml x.f1) (hG : PremW w) (hn : ND w x A c) : Calls Tryz.prog 44 #[val x A c] w (AllP (d46 x) w):=by
 have E:=Env.start hG hn;clear hn hG;have b40 : (x.f0 == 40) = false:=by rw [hk];rfl
 have b41 : (x.f0 == 41) = false:=by rw [hk];rfl
 have b42 : (x.f0 == 42) = false:=by rw [hk];rfl
 have b43 : (x.f0 == 43) = false:=by rw [hk];rfl
 have b44 : (x.f0 == 44) = false:=by rw [hk];rfl
 have b45 : (x.f0 == 45) = false:=by rw [hk];rfl
 have b46 : (x.f0 == 46) = true:=by rw [hk];rfl
 have HK:=Aside0.mk hk;clear hk;have HS:=Aside0.mk hs;clear hs;cases h0 : (nmB x.f1);rotate_left 1;cases h1 : (decide (x.f2 ≤ 1));rotate_right 1
 rotate_left 2;cases h2 : (x.f3);rotate_right 2
 rotate_left 2;cases h5 : (shapeB [fun x => decide (x.f0 = 16)] x.f4);rotate_right 2
 rotate_left 4;cases h3 : (x.f2 == 1);rotate_right 4
 rotate_left 4;cases h5 : (shapeB [fun x => decide (x.f0 = 16)] x.f4);rotate_right 4
 all_goals
  try (have HC0:=Aside0.mk h0;clear h0)
  try (have HC2:=Aside0.mk h2;clear h2)
  try (have HC5:=Aside0.mk h5;clear h5)
  have tk5 : True:=trivial;go_enter Tryz.func44,Tryz.ntmps44
  go_wp2_with (first
   | (go_at_call 66;(try clear c0 c1 c2 c3 c4 c5);(with_reducible refine Env.call E E.out HC0.out (name.all HS.out E.out.prem) (fun w1 E c0 c1 c2 c3 c4 c5 => ?_));(try have h2:=HC2.out))
   | (go_at_call 70;(try clear c0 c1 c2 c3 c4 c5);(with_reducible refine (of.all _ _).mono ?_);rintro e w1 ⟨q,rfl,hq,hB⟩;replace E:=Aside0.mk (E.out.step hB);clear hB;obtain ⟨c0,c1,c2,c3,c4,c5⟩:=E.out.cells;have HQ:=Aside0.mk hq;clear hq)
   | (go_at_call 67;have t_:=tk5;clear t_ tk5;(try clear c0 c1 c2 c3 c4 c5);(refine Env.call E (E.out.alloc _) HC5.out (shape.t x.f4 A c _ (E.out.alloc _).kids _ _ q (blk_below HQ.out (below_alloc (Below.refl _ _) _)) (by first|exact blk_new _ _|exact blk_new1 _ _ _)) (fun w1 E c0 c1 c2 c3 c4 c5 => ?_)))
   | fail)
  go_ret
  exact ⟨by unfold d46;(try rw [HC0.out]);(try rw [h1]);(try rw [HC2.out]);(try rw [h3]);(try rw [HC5.out]);first|done|rfl,fin_⟩
end Go.Proofs.YtboojhadfhpdeaaGreatDoor.Q
namespace Go.Proofs.YtboojhadfhpdeaaGreatDoor.Q
open Go.RowKit Go.Proofs.YtboojhadfhpdeaaGreatDoorW.PrintWords Go.Proofs.YtboojhadfhpdeaaGreatDoorW.PrintLast Go.Proofs.YtboojhadfhpdeaaGreatDoorW.PrintMore
set_option linter.unusedVariables false
set_option linter.unusedSimpArgs false
def d0 (x : S25) : Bool:=false
set_option maxHeartbeats 8000000 in
set_option maxRecDepth 100000 in
theorem declarations.n0 {x : S25} {A : Option Addr} {c : Nat} {w : World} (h40 : x.f0 ≠ 40) (h41 : x.f0 ≠ 41) (h42 : x.f0 ≠ 42) (h43 : x.f0 ≠ 43) (h44 : x.f0 ≠ 44) (h45 : x.f0 ≠ 45) (h46 : x.f0 ≠ 46) (hs : Sml x.f1) (hG : PremW w) (hn : ND w x A c) : Calls Tryz.prog 44 #[val x A c] w (AllP (d0 x) w):=by
 have E:=Env.start hG hn;clear hn hG;have b40 : (x.f0 == 40) = false:=beq_eq_false_iff_ne.2 h40;have b41 : (x.f0 == 41) = false:=beq_eq_false_iff_ne.2 h41;have b42 : (x.f0 == 42) = false:=beq_eq_false_iff_ne.2 h42;have b43 : (x.f0 == 43) = false:=beq_eq_false_iff_ne.2 h43;have b44 : (x.f0 == 44) = false:=beq_eq_false_iff_ne.2 h44;have b45 : (x.f0 == 45) = false:=beq_eq_false_iff_ne.2 h45;have b46 : (x.f0 == 46) = false:=beq_eq_false_iff_ne.2 h46;clear h40 h41 h42 h43 h44 h45 h46;have HS:=Aside0.mk hs;clear hs;cases h0 : (nmB x.f1);all_goals
  try (have HC0:=Aside0.mk h0;clear h0)
  go_enter Tryz.func44,Tryz.ntmps44
  go_wp2_with (first
   | (go_at_call 66;(try clear c0 c1 c2 c3 c4 c5);(with_reducible refine Env.call E E.out HC0.out (name.all HS.out E.out.prem) (fun w1 E c0 c1 c2 c3 c4 c5 => ?_)))
   | fail)
  go_ret
  exact ⟨by unfold d0;first|done|rfl,fin_⟩
end Go.Proofs.YtboojhadfhpdeaaGreatDoor.Q
namespace Go.Proofs.YtboojhadfhpdeaaGreatDoor.Q
open Go.RowKit Go.Proofs.YtboojhadfhpdeaaGreatDoorW.PrintWords Go.Proofs.YtboojhadfhpdeaaGreatDoorW.PrintLast Go.Proofs.YtboojhadfhpdeaaGreatDoorW.PrintMore
set_option linter.unusedVariables false
set_option linter.unusedSimpArgs false
theorem of1.any {xs : List S25} (k : Int) (q : Nat) (w : World) (hq : w.heap[q]? = some (.cells #[.int .i64 k] 3 (0,0))) : Asks 94 #[.pointer (some ⟨q,0,none⟩)] (fun x => decide (x.f0 = k)) xs w :=
 fun x _ W A c hW _ => of1.all k q (blk_below hq hW)
theorem every.at (n : Nat) (xs : List S25) (e : xs.length = n) (A : Option Addr) (c : Nat) (w : World) (hC : Kd.C k25 w A xs.length xs) (g : FuncId) (caps : Array Value) (p : S25 → Bool) (hent : Enters Tryz.prog g) (h : Asks g caps p xs w) :
 Calls Tryz.prog 33 #[.slice A n c,.func (.func g) #[] caps] w (AllP (xs.all p) w):=by
 subst e;exact every.calls xs A c w hC g caps p hent h
def funB (l : List S25) : Bool:=decide (2 ≤ l.length) && decide ((nd l 0).f0 = 16) && decide ((nd l (l.length - 1)).f0 = 47) && ((l.take (l.length - 1)).tail).all (fun x => decide (x.f0 = 46))
set_option maxHeartbeats 8000000 in
set_option maxRecDepth 100000 in
theorem function.e (xs : List S25) (A : Option Addr) (c : Nat) (w : World) (hC : Kd.C k25 w A xs.length xs) (hle : xs.length ≤ c) (h2 : 2 ≤ xs.length) (h16 : (nd xs 0).f0 = 16) (h47 : (nd xs (xs.length - 1)).f0 = 47) : Calls Tryz.prog 79 #[.slice A xs.length c] w (AllP (funB xs) w):=by
 have hmax:=hC.2.1;obtain ⟨m,hm⟩ : ∃ m,m + 1 = xs.length:=⟨xs.length - 1,by omega⟩
 have hw : IntKind.i64.wrap ((xs.length : Int) - 1) = (m : Int):=(i64_w _).trans (by unfold wrap64;omega);have hw2 : wrap64 ((xs.length : Int) - 1) = (m : Int):=by unfold wrap64;omega
 obtain ⟨ad,A1,c1,rfl,_,k0,_⟩:=node_at hC 0 (by omega);rw [Nat.zero_mul,add_zero_] at k0;obtain ⟨ad2,A2,c2,e2,_,c0,_⟩:=node_at hC m (by omega);obtain rfl:=Option.some.inj e2;clear e2;have p1 : (0 : Int) ≤ (m : Int):=by omega
 have q1 : (m : Int) < (xs.length : Int):=by omega
 have q0 : 0 < xs.length:=by omega
 have e1 : decide ((m : Int) ≥ 1) = true:=decide_eq_true (by omega);have e1b : decide (1 ≤ (m : Int)) = true:=decide_eq_true (by omega);have e1c : (1 : Int) ≤ (m : Int):=by omega
 have hcc : ¬ c = 1:=by omega
 have q2 : m ≤ c:=by omega
 have HLN:=Aside0.mk (show ((xs.take m).tail).length = m - 1 from by rw [List.length_tail,List.length_take];omega);have HS:=Aside0.mk (show Kd.C k25 w (some ⟨ad.block,ad.off + 6,none⟩) ((xs.take m).tail).length ((xs.take m).tail) from by
  have h1:=Kd.C_mid (lo:=1) (hi:=m) hC (by omega) (by omega) hle;rw [if_neg hcc,List.drop_one] at h1;exact h1)
 have t16 : ((nd xs 0).f0 == 16) = true:=by rw [h16];rfl
 have t47 : ((nd xs m).f0 == 47) = true:=by rw [show m = xs.length - 1 by omega,h47];rfl
 have HH:=Aside0.mk (show funB xs = ((xs.take m).tail).all (fun x => decide (x.f0 = 46)) from by unfold funB;rw [decide_eq_true h2,decide_eq_true h16,decide_eq_true h47,show xs.length - 1 = m by omega];rfl);clear h2 h16 h47;have HM:=Aside0.mk hm;have HX:=Aside0.mk hC;have HL:=Aside0.mk hle;clear hm hC hle hmax;go_enter Tryz.func79,Tryz.ntmps79
 go_wp2
 have HB:=Aside0.mk (below_drew1 (Below.refl w.heap.size w));refine start_ (n:=25) (S:=fun w' => w'.cell? ad = some (.int .i64 (nd xs 0).f0) ∧ w'.cell? (ad.add (m * 6)) = some (.int .i64 (nd xs m).f0) ∧ True) (ds:=[]) (Array.replicate 25 false) (by kernel_rfl) rfl rfl ⟨pw_cell_below HB.out k0,pw_cell_below HB.out c0,trivial⟩ (fun hHeld => ?_);refine with_tab (T:=rtab .any (opsOf Tryz.f79 2)) (by kernel_rfl) (fun HT_ => ?_);generalize w.drew = w7 at HB hHeld ⊢;refine rp 0 7 HT_ (h:=?_);refine rp 1 8 HT_ (h:=?_);refine rp 2 9 HT_ (h:=?_);refine rp 3 10 HT_ (h:=?_);refine rp 4 11 HT_ (h:=?_);refine rp 5 12 HT_ (h:=?_);refine rt 6 13 HT_ hHeld (h:=?_);refine rp 7 14 HT_ (h:=?_);refine rp 8 15 HT_ (h:=?_);refine rp 9 16 HT_ (h:=?_);refine rp 10 17 HT_ (h:=?_);refine rp 11 18 HT_ (h:=?_);refine rp 12 19 HT_ (h:=?_);refine rp 13 20 HT_ (h:=?_);refine rt 14 21 HT_ hHeld (h:=?_);refine rp 15 22 HT_ (h:=?_);refine rp 16 23 HT_ (h:=?_);refine rp 17 24 HT_ (h:=?_);refine rp 18 25 HT_ (h:=?_);refine rp 19 26 HT_ (h:=?_);refine rp 20 27 HT_ (h:=?_);refine rc 21 28 HT_ (h:=fun K hK => ?_);refine goes_ Tryz.func70 (by kernel_rfl) rfl #[.int .i64 46] (by rfl) rfl rfl (by (try simp only [List.map_toArray,List.map_cons,List.map_nil]);first|done|rfl) ((of.all 46 _).mono ?_);rintro e w8 ⟨q,rfl,hq,hB⟩;refine ⟨_,rfl,?_⟩;have HQ:=Aside0.mk hq;replace HB:=Aside0.mk (below_step HB.out hB);clear hB hq;refine hK.out _ _ ⟨pw_cell_below HB.out k0,pw_cell_below HB.out c0,trivial⟩ (fun hHeld => rn ?_);clear hK K;refine rc 22 29 HT_ (h:=fun K hK => ?_);refine goes_ Tryz.func33 (by kernel_rfl) rfl #[.slice (some ⟨ad.block,ad.off + 6,none⟩) (m - 1) (c - 1),.func (.func 94) #[] #[.pointer (some ⟨q,0,none⟩)]] (by rfl) rfl rfl (by (try simp only [List.map_toArray,List.map_cons,List.map_nil]);first|done|rfl) ((every.at (m - 1) ((xs.take m).tail) HLN.out (some ⟨ad.block,ad.off + 6,none⟩) _ _ (Kd.C_below HS.out HB.out) 94 #[.pointer (some ⟨q,0,none⟩)] (fun x => decide (x.f0 = 46)) (enters_of Tryz.func94 (by kernel_rfl) rfl) (of1.any 46 q _ HQ.out)).mono ?_);rintro e w9 ⟨rfl,hB⟩;refine ⟨_,rfl,?_⟩;replace HB:=Aside0.mk (below_step HB.out hB);clear hB;refine hK.out _ _ ⟨pw_cell_below HB.out k0,pw_cell_below HB.out c0,trivial⟩ (fun hHeld => rn ?_);clear hK K;refine rp 23 30 HT_ (h:=?_);refine rp 24 2 HT_ (h:=?_);refine rd_ HT_ ?_;try go_wp2
 go_ret
 exact ⟨by rw [HH.out];rfl,HB.out⟩
set_option maxHeartbeats 8000000 in
set_option maxRecDepth 100000 in
theorem function.d (xs : List S25) (A : Option Addr) (c : Nat) (w : World) (hC : Kd.C k25 w A xs.length xs) (hle : xs.length ≤ c) (h2 : 2 ≤ xs.length) (h16 : (nd xs 0).f0 = 16) (h47 : (nd xs (xs.length - 1)).f0 ≠ 47) : Calls Tryz.prog 79 #[.slice A xs.length c] w (AllP (funB xs) w):=by
 have hmax:=hC.2.1;obtain ⟨m,hm⟩ : ∃ m,m + 1 = xs.length:=⟨xs.length - 1,by omega⟩
 have hw : IntKind.i64.wrap ((xs.length : Int) - 1) = (m : Int):=(i64_w _).trans (by unfold wrap64;omega);have hw2 : wrap64 ((xs.length : Int) - 1) = (m : Int):=by unfold wrap64;omega
 obtain ⟨ad,A1,c1,rfl,_,k0,_⟩:=node_at hC 0 (by omega);rw [Nat.zero_mul,add_zero_] at k0;obtain ⟨ad2,A2,c2,e2,_,c0,_⟩:=node_at hC m (by omega);obtain rfl:=Option.some.inj e2;clear e2;have p1 : (0 : Int) ≤ (m : Int):=by omega
 have q1 : (m : Int) < (xs.length : Int):=by omega
 have q0 : 0 < xs.length:=by omega
 have e1 : decide ((m : Int) ≥ 1) = true:=decide_eq_true (by omega);have e1b : decide (1 ≤ (m : Int)) = true:=decide_eq_true (by omega);have e1c : (1 : Int) ≤ (m : Int):=by omega
 have t16 : ((nd xs 0).f0 == 16) = true:=by rw [h16];rfl
 have t47 : ((nd xs m).f0 == 47) = false:=by rw [show m = xs.length - 1 by omega];exact beq_eq_false_iff_ne.2 h47
 have HH:=Aside0.mk (show funB xs = false from by unfold funB;rw [decide_eq_false h47,Bool.and_false];rfl);clear h2 h16 h47;have HM:=Aside0.mk hm;have HX:=Aside0.mk hC;have HL:=Aside0.mk hle;clear hm hC hle hmax;go_enter Tryz.func79,Tryz.ntmps79
 go_wp2
 have HB:=Aside0.mk (below_drew1 (Below.refl w.heap.size w));refine start_ (n:=25) (S:=fun w' => w'.cell? ad = some (.int .i64 (nd xs 0).f0) ∧ w'.cell? (ad.add (m * 6)) = some (.int .i64 (nd xs m).f0) ∧ True) (ds:=[]) (Array.replicate 25 false) (by kernel_rfl) rfl rfl ⟨pw_cell_below HB.out k0,pw_cell_below HB.out c0,trivial⟩ (fun hHeld => ?_);refine with_tab (T:=rtab .any (opsOf Tryz.f79 2)) (by kernel_rfl) (fun HT_ => ?_);generalize w.drew = w7 at HB hHeld ⊢;refine rp 0 7 HT_ (h:=?_);refine rp 1 8 HT_ (h:=?_);refine rp 2 9 HT_ (h:=?_);refine rp 3 10 HT_ (h:=?_);refine rp 4 11 HT_ (h:=?_);refine rp 5 12 HT_ (h:=?_);refine rt 6 13 HT_ hHeld (h:=?_);refine rp 7 14 HT_ (h:=?_);refine rp 8 15 HT_ (h:=?_);refine rp 9 16 HT_ (h:=?_);refine rp 10 17 HT_ (h:=?_);refine rp 11 18 HT_ (h:=?_);refine rp 12 19 HT_ (h:=?_);refine rp 13 20 HT_ (h:=?_);refine rt 14 21 HT_ hHeld (h:=?_);refine rp 15 22 HT_ (h:=?_);refine rp 16 23 HT_ (h:=?_);refine rp 17 24 HT_ (h:=?_);refine ro 18 25 HT_ (h:=?_);refine ro 19 26 HT_ (h:=?_);refine ro 20 27 HT_ (h:=?_);refine ro 21 28 HT_ (h:=?_);refine ro 22 29 HT_ (h:=?_);refine rp 23 30 HT_ (h:=?_);refine rp 24 2 HT_ (h:=?_);refine rd_ HT_ ?_;try go_wp2
 go_ret
 exact ⟨by rw [HH.out];rfl,HB.out⟩
set_option maxHeartbeats 8000000 in
set_option maxRecDepth 100000 in
theorem function.c (xs : List S25) (A : Option Addr) (c : Nat) (w : World) (hC : Kd.C k25 w A xs.length xs) (hle : xs.length ≤ c) (h2 : 2 ≤ xs.length) (h16 : (nd xs 0).f0 ≠ 16) : Calls Tryz.prog 79 #[.slice A xs.length c] w (AllP (funB xs) w):=by
 have hmax:=hC.2.1;obtain ⟨m,hm⟩ : ∃ m,m + 1 = xs.length:=⟨xs.length - 1,by omega⟩
 have hw : IntKind.i64.wrap ((xs.length : Int) - 1) = (m : Int):=(i64_w _).trans (by unfold wrap64;omega);have hw2 : wrap64 ((xs.length : Int) - 1) = (m : Int):=by unfold wrap64;omega
 obtain ⟨ad,A1,c1,rfl,_,k0,_⟩:=node_at hC 0 (by omega);rw [Nat.zero_mul,add_zero_] at k0;obtain ⟨ad2,A2,c2,e2,_,c0,_⟩:=node_at hC m (by omega);obtain rfl:=Option.some.inj e2;clear e2;have p1 : (0 : Int) ≤ (m : Int):=by omega
 have q1 : (m : Int) < (xs.length : Int):=by omega
 have q0 : 0 < xs.length:=by omega
 have e1 : decide ((m : Int) ≥ 1) = true:=decide_eq_true (by omega);have e1b : decide (1 ≤ (m : Int)) = true:=decide_eq_true (by omega);have e1c : (1 : Int) ≤ (m : Int):=by omega
 have t16 : ((nd xs 0).f0 == 16) = false:=beq_eq_false_iff_ne.2 h16;have HH:=Aside0.mk (show funB xs = false from by unfold funB;rw [decide_eq_false h16,Bool.and_false];rfl);clear h2 h16;have HM:=Aside0.mk hm;have HX:=Aside0.mk hC;have HL:=Aside0.mk hle;clear hm hC hle hmax;go_enter Tryz.func79,Tryz.ntmps79
 go_wp2
 have HB:=Aside0.mk (below_drew1 (Below.refl w.heap.size w));refine start_ (n:=25) (S:=fun w' => w'.cell? ad = some (.int .i64 (nd xs 0).f0) ∧ w'.cell? (ad.add (m * 6)) = some (.int .i64 (nd xs m).f0) ∧ True) (ds:=[]) (Array.replicate 25 false) (by kernel_rfl) rfl rfl ⟨pw_cell_below HB.out k0,pw_cell_below HB.out c0,trivial⟩ (fun hHeld => ?_);refine with_tab (T:=rtab .any (opsOf Tryz.f79 2)) (by kernel_rfl) (fun HT_ => ?_);generalize w.drew = w7 at HB hHeld ⊢;refine rp 0 7 HT_ (h:=?_);refine rp 1 8 HT_ (h:=?_);refine rp 2 9 HT_ (h:=?_);refine rp 3 10 HT_ (h:=?_);refine rp 4 11 HT_ (h:=?_);refine rp 5 12 HT_ (h:=?_);refine rt 6 13 HT_ hHeld (h:=?_);refine rp 7 14 HT_ (h:=?_);refine rp 8 15 HT_ (h:=?_);refine rp 9 16 HT_ (h:=?_);refine ro 10 17 HT_ (h:=?_);refine ro 11 18 HT_ (h:=?_);refine ro 12 19 HT_ (h:=?_);refine ro 13 20 HT_ (h:=?_);refine ro 14 21 HT_ (h:=?_);refine ro 15 22 HT_ (h:=?_);refine rp 16 23 HT_ (h:=?_);refine rp 17 24 HT_ (h:=?_);refine ro 18 25 HT_ (h:=?_);refine ro 19 26 HT_ (h:=?_);refine ro 20 27 HT_ (h:=?_);refine ro 21 28 HT_ (h:=?_);refine ro 22 29 HT_ (h:=?_);refine rp 23 30 HT_ (h:=?_);refine rp 24 2 HT_ (h:=?_);refine rd_ HT_ ?_;try go_wp2
 go_ret
 exact ⟨by rw [HH.out];rfl,HB.out⟩
set_option maxHeartbeats 8000000 in
set_option maxRecDepth 100000 in
theorem function.b (xs : List S25) (A : Option Addr) (c : Nat) (w : World) (hC : Kd.C k25 w A xs.length xs) (hle : xs.length ≤ c) (h1 : xs.length = 1) : Calls Tryz.prog 79 #[.slice A xs.length c] w (AllP (funB xs) w):=by
 have hw : IntKind.i64.wrap ((xs.length : Int) - 1) = 0:=by rw [h1];rfl
 have hw2 : wrap64 ((xs.length : Int) - 1) = 0:=by unfold wrap64;omega
 have HH:=Aside0.mk (show funB xs = false from by unfold funB;rw [h1];rfl);clear h1 hC hle;go_enter Tryz.func79,Tryz.ntmps79
 go_wp2
 have HB:=Aside0.mk (below_drew1 (Below.refl w.heap.size w));refine start_ (n:=25) (S:=fun _ => True) (ds:=[]) (Array.replicate 25 false) (by kernel_rfl) rfl rfl trivial (fun hHeld => ?_);refine with_tab (T:=rtab .any (opsOf Tryz.f79 2)) (by kernel_rfl) (fun HT_ => ?_);generalize w.drew = w7 at HB hHeld ⊢;refine rp 0 7 HT_ (h:=?_);refine rp 1 8 HT_ (h:=?_);refine rp 2 9 HT_ (h:=?_);refine ro 3 10 HT_ (h:=?_);refine ro 4 11 HT_ (h:=?_);refine ro 5 12 HT_ (h:=?_);refine ro 6 13 HT_ (h:=?_);refine ro 7 14 HT_ (h:=?_);refine rp 8 15 HT_ (h:=?_);refine rp 9 16 HT_ (h:=?_);refine ro 10 17 HT_ (h:=?_);refine ro 11 18 HT_ (h:=?_);refine ro 12 19 HT_ (h:=?_);refine ro 13 20 HT_ (h:=?_);refine ro 14 21 HT_ (h:=?_);refine ro 15 22 HT_ (h:=?_);refine rp 16 23 HT_ (h:=?_);refine rp 17 24 HT_ (h:=?_);refine ro 18 25 HT_ (h:=?_);refine ro 19 26 HT_ (h:=?_);refine ro 20 27 HT_ (h:=?_);refine ro 21 28 HT_ (h:=?_);refine ro 22 29 HT_ (h:=?_);refine rp 23 30 HT_ (h:=?_);refine rp 24 2 HT_ (h:=?_);refine rd_ HT_ ?_;try go_wp2
 go_ret
 exact ⟨by rw [HH.out];rfl,HB.out⟩
set_option maxHeartbeats 8000000 in
set_option maxRecDepth 100000 in
theorem function.a (xs : List S25) (A : Option Addr) (c : Nat) (w : World) (hC : Kd.C k25 w A xs.length xs) (hle : xs.length ≤ c) (h1 : xs.length = 0) : Calls Tryz.prog 79 #[.slice A xs.length c] w (AllP (funB xs) w):=by
 have hw : IntKind.i64.wrap ((xs.length : Int) - 1) = -1:=by rw [h1];rfl
 have hw2 : wrap64 ((xs.length : Int) - 1) = -1:=by unfold wrap64;omega
 have HH:=Aside0.mk (show funB xs = false from by unfold funB;rw [h1];rfl);clear h1 hC hle;go_enter Tryz.func79,Tryz.ntmps79
 go_wp2
 have HB:=Aside0.mk (below_drew1 (Below.refl w.heap.size w));refine start_ (n:=25) (S:=fun _ => True) (ds:=[]) (Array.replicate 25 false) (by kernel_rfl) rfl rfl trivial (fun hHeld => ?_);refine with_tab (T:=rtab .any (opsOf Tryz.f79 2)) (by kernel_rfl) (fun HT_ => ?_);generalize w.drew = w7 at HB hHeld ⊢;refine rp 0 7 HT_ (h:=?_);refine rp 1 8 HT_ (h:=?_);refine rp 2 9 HT_ (h:=?_);refine ro 3 10 HT_ (h:=?_);refine ro 4 11 HT_ (h:=?_);refine ro 5 12 HT_ (h:=?_);refine ro 6 13 HT_ (h:=?_);refine ro 7 14 HT_ (h:=?_);refine rp 8 15 HT_ (h:=?_);refine rp 9 16 HT_ (h:=?_);refine ro 10 17 HT_ (h:=?_);refine ro 11 18 HT_ (h:=?_);refine ro 12 19 HT_ (h:=?_);refine ro 13 20 HT_ (h:=?_);refine ro 14 21 HT_ (h:=?_);refine ro 15 22 HT_ (h:=?_);refine rp 16 23 HT_ (h:=?_);refine rp 17 24 HT_ (h:=?_);refine ro 18 25 HT_ (h:=?_);refine ro 19 26 HT_ (h:=?_);refine ro 20 27 HT_ (h:=?_);refine ro 21 28 HT_ (h:=?_);refine ro 22 29 HT_ (h:=?_);refine rp 23 30 HT_ (h:=?_);refine rp 24 2 HT_ (h:=?_);refine rd_ HT_ ?_;try go_wp2
 go_ret
 exact ⟨by rw [HH.out];rfl,HB.out⟩
theorem function.all {xs : List S25} {A : Option Addr} {c : Nat} {w : World} (hC : Kd.C k25 w A xs.length xs) (hle : xs.length ≤ c) : Calls Tryz.prog 79 #[.slice A xs.length c] w (AllP (funB xs) w):=by
 by_cases h0 : xs.length = 0
 · exact function.a xs A c w hC hle h0
 · by_cases h1 : xs.length = 1
   · exact function.b xs A c w hC hle h1
   · by_cases h16 : (nd xs 0).f0 = 16
     · by_cases h47 : (nd xs (xs.length - 1)).f0 = 47
       · exact function.e xs A c w hC hle (by omega) h16 h47
       · exact function.d xs A c w hC hle (by omega) h16 h47
     · exact function.c xs A c w hC hle (by omega) h16
end Go.Proofs.YtboojhadfhpdeaaGreatDoor.Q
namespace Go.Proofs.YtboojhadfhpdeaaGreatDoor.Q
open Go.RowKit Go.Proofs.YtboojhadfhpdeaaGreatDoorW.PrintWords Go.Proofs.YtboojhadfhpdeaaGreatDoorW.PrintLast Go.Proofs.YtboojhadfhpdeaaGreatDoorW.PrintMore
set_option linter.unusedVariables false
set_option linter.unusedSimpArgs false
def d45 (x : S25) : Bool:=((nmB x.f1) && (x.f2 == 0) && (funB x.f4))
set_option maxHeartbeats 8000000 in
set_option maxRecDepth 100000 in
theorem declarations.n45 {x : S25} {A : Option Addr} {c : Nat} {w : World} (hk : x.f0 = 45) (hs : Sml x.f1) (hG : PremW w) (hn : ND w x A c) : Calls Tryz.prog 44 #[val x A c] w (AllP (d45 x) w):=by
 have E:=Env.start hG hn;clear hn hG;have b40 : (x.f0 == 40) = false:=by rw [hk];rfl
 have b41 : (x.f0 == 41) = false:=by rw [hk];rfl
 have b42 : (x.f0 == 42) = false:=by rw [hk];rfl
 have b43 : (x.f0 == 43) = false:=by rw [hk];rfl
 have b44 : (x.f0 == 44) = false:=by rw [hk];rfl
 have b45 : (x.f0 == 45) = true:=by rw [hk];rfl
 have HK:=Aside0.mk hk;clear hk;have HS:=Aside0.mk hs;clear hs;cases h0 : (nmB x.f1);rotate_left 1;cases h1 : (x.f2 == 0);rotate_right 1
 rotate_left 2;cases h2 : (funB x.f4);rotate_right 2
 all_goals
  try (have HC0:=Aside0.mk h0;clear h0)
  try have h1m0 : (x.f2 != 0) = false:=by rw [bne,h1];rfl
  try have h1m0 : (x.f2 != 0) = true:=by rw [bne,h1];rfl
  try (have HC2:=Aside0.mk h2;clear h2)
  go_enter Tryz.func44,Tryz.ntmps44
  go_wp2_with (first
   | (go_at_call 66;(try clear c0 c1 c2 c3 c4 c5);(with_reducible refine Env.call E E.out HC0.out (name.all HS.out E.out.prem) (fun w1 E c0 c1 c2 c3 c4 c5 => ?_)))
   | (go_at_call 79;(try clear c0 c1 c2 c3 c4 c5);(with_reducible refine Env.call E E.out HC2.out (function.all E.out.kids E.out.k.le) (fun w1 E c0 c1 c2 c3 c4 c5 => ?_)))
   | fail)
  go_ret
  exact ⟨by unfold d45;(try rw [HC0.out]);(try rw [h1]);(try rw [HC2.out]);first|done|rfl,fin_⟩
end Go.Proofs.YtboojhadfhpdeaaGreatDoor.Q
