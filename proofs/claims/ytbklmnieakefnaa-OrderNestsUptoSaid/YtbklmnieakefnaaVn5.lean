/- A part of the proof, made small by a program: Qx12, Qx13. -/
import Derived.Test.YtbklmnieakefnaaVn1
import Derived.Test.YtbklmnieakefnaaVn4
namespace Go.Proofs.Ytbklmnieakefnaa.Q
open Go.RowKit Go.Proofs.YtbklmnieakefnaaW.PrintWords Go.Proofs.YtbklmnieakefnaaW.PrintLast Go.Proofs.YtbklmnieakefnaaW.PrintMore

set_option linter.unusedVariables false
set_option linter.unusedSimpArgs false
mutual
def order_Postorder.l0 : Nat → Int → List Int → List Int → List Bool → List Int → Int → ByteArray → Int → Int → Int → List (S45) → Option (List Int)
 | 0,_,_,_,_,_,_,_,_,_,_,_ => none
 | k + 1,x3,x4,x5,x6,x7,x8,x171000,x171001,x171002,x171003,x171004 => if 0 ≤ x8 then (if x8 < (x6.length : Int) then (if x5.length < 17592186044416 then (order_Postorder.l1 k x3 x4 (x5 ++ [x8]) (x6.set (x8 : Int).toNat true) x7 x171000 x171001 x171002 x171003 x171004) else (none)) else (none)) else (none)
def order_Postorder.l1 : Nat → Int → List Int → List Int → List Bool → List Int → ByteArray → Int → Int → Int → List (S45) → Option (List Int)
 | 0,_,_,_,_,_,_,_,_,_,_ => none
 | k + 1,x3,x4,x5,x6,x7,x171000,x171001,x171002,x171003,x171004 => if 0 ≤ (wrap64 ((x5.length : Int) - 1)) then (if (wrap64 ((x5.length : Int) - 1)) < (x5.length : Int) then (order_Postorder.l2 k x3 x4 x5 x6 x7 (rd x5 (wrap64 ((x5.length : Int) - 1))) x171000 x171001 x171002 x171003 x171004) else (none)) else (none)
def order_Postorder.l2 : Nat → Int → List Int → List Int → List Bool → List Int → Int → ByteArray → Int → Int → Int → List (S45) → Option (List Int)
 | 0,_,_,_,_,_,_,_,_,_,_,_ => none
 | k + 1,x3,x4,x5,x6,x7,x8,x171000,x171001,x171002,x171003,x171004 => if 0 ≤ x8 then (if x8 < (x7.length : Int) then (if x8 < (x171004.length : Int) then (if (rd x7 x8) < (((rd_T45 x171004 x8).f3).length : Int) then (if 0 ≤ (rd x7 x8) then ((some (x7.set (x8 : Int).toNat (wrap64 ((rd x7 x8) + 1)) : List Int)).bind fun y188 => (if (rd ((rd_T45 x171004 x8).f3) (rd x7 x8)) ≥ 0 then (if (rd ((rd_T45 x171004 x8).f3) (rd x7 x8)) < x3 then (if 0 ≤ (rd ((rd_T45 x171004 x8).f3) (rd x7 x8)) then (if (rd ((rd_T45 x171004 x8).f3) (rd x7 x8)) < (x6.length : Int) then (if (rdOf false x6 (rd ((rd_T45 x171004 x8).f3) (rd x7 x8)) = true) then (order_Postorder.l2 k x3 x4 x5 x6 y188 x8 x171000 x171001 x171002 x171003 x171004) else (order_Postorder.l0 k x3 x4 x5 x6 y188 (rd ((rd_T45 x171004 x8).f3) (rd x7 x8)) x171000 x171001 x171002 x171003 x171004)) else (none)) else (none)) else (order_Postorder.l2 k x3 x4 x5 x6 y188 x8 x171000 x171001 x171002 x171003 x171004)) else (order_Postorder.l2 k x3 x4 x5 x6 y188 x8 x171000 x171001 x171002 x171003 x171004))) else (none)) else (if x4.length < 17592186044416 then ((some (x4 ++ [x8] : List Int)).bind fun y190 => (if 0 ≤ (wrap64 ((x5.length : Int) - 1)) then (if (wrap64 ((x5.length : Int) - 1)) ≤ (x5.length : Int) then ((some (x5.take ((wrap64 ((x5.length : Int) - 1)) : Int).toNat : List Int)).bind fun y193 => (if (y193.length : Int) > 0 then (order_Postorder.l1 k x3 y190 y193 x6 x7 x171000 x171001 x171002 x171003 x171004) else (some y190))) else (none)) else (none))) else (none))) else (none)) else (none)) else (none)
end
def order_Postorder.f (k : Nat) (a0_0 : ByteArray) (a0_1 : Int) (a0_2 : Int) (a0_3 : Int) (l0_4 : List (S45)) : Option (List Int):=if 0 ≤ (l0_4.length : Int) then (if ((l0_4.length : Int) : Int).toNat ≤ 281474976710656 then (if ((l0_4.length : Int) : Int).toNat ≤ 35184372088832 then (if (l0_4.length : Int) = 0 then (some ([] : List Int)) else (order_Postorder.l0 k (l0_4.length : Int) ([] : List Int) ([] : List Int) (List.replicate ((l0_4.length : Int) : Int).toNat false) (List.replicate ((l0_4.length : Int) : Int).toNat 0) 0 a0_0 a0_1 a0_2 a0_3 l0_4)) else (none)) else (none)) else (none)
theorem order_Postorder.mono_l : ∀ k,(∀ y0 y1 y2 y3 y4 y5 y6 y7 y8 y9 y10,LeO (order_Postorder.l0 k y0 y1 y2 y3 y4 y5 y6 y7 y8 y9 y10) (order_Postorder.l0 (k + 1) y0 y1 y2 y3 y4 y5 y6 y7 y8 y9 y10)) ∧ (∀ y0 y1 y2 y3 y4 y5 y6 y7 y8 y9,LeO (order_Postorder.l1 k y0 y1 y2 y3 y4 y5 y6 y7 y8 y9) (order_Postorder.l1 (k + 1) y0 y1 y2 y3 y4 y5 y6 y7 y8 y9)) ∧ (∀ y0 y1 y2 y3 y4 y5 y6 y7 y8 y9 y10,LeO (order_Postorder.l2 k y0 y1 y2 y3 y4 y5 y6 y7 y8 y9 y10) (order_Postorder.l2 (k + 1) y0 y1 y2 y3 y4 y5 y6 y7 y8 y9 y10))
 | 0 => ⟨fun _ _ _ _ _ _ _ _ _ _ _ r h => by simp [order_Postorder.l0] at h,fun _ _ _ _ _ _ _ _ _ _ r h => by simp [order_Postorder.l1] at h,fun _ _ _ _ _ _ _ _ _ _ _ r h => by simp [order_Postorder.l2] at h⟩
 | k + 1 => by
  obtain ⟨ih0,ih1,ih2⟩:=order_Postorder.mono_l k
  refine ⟨?_,?_,?_⟩
  · intro y0 y1 y2 y3 y4 y5 y6 y7 y8 y9 y10;unfold order_Postorder.l0
    repeat' first
    | (with_reducible exact ih0 _ _ _ _ _ _ _ _ _ _ _)
    | (with_reducible exact ih1 _ _ _ _ _ _ _ _ _ _)
    | (with_reducible exact ih2 _ _ _ _ _ _ _ _ _ _ _)
    | (with_reducible exact LeO.refl _)
    | (with_reducible exact LeO.none _)
    | (with_reducible refine LeO.ite ?_ ?_)
    | (with_reducible refine LeO.bind ?_ (fun _ => ?_))
    | exact ih0 _ _ _ _ _ _ _ _ _ _ _
    | exact ih1 _ _ _ _ _ _ _ _ _ _
    | exact ih2 _ _ _ _ _ _ _ _ _ _ _
    | exact LeO.none _
    | refine LeO.ite ?_ ?_
    | refine LeO.bind ?_ (fun _ => ?_)
  · intro y0 y1 y2 y3 y4 y5 y6 y7 y8 y9;unfold order_Postorder.l1
    repeat' first
    | (with_reducible exact ih0 _ _ _ _ _ _ _ _ _ _ _)
    | (with_reducible exact ih1 _ _ _ _ _ _ _ _ _ _)
    | (with_reducible exact ih2 _ _ _ _ _ _ _ _ _ _ _)
    | (with_reducible exact LeO.refl _)
    | (with_reducible exact LeO.none _)
    | (with_reducible refine LeO.ite ?_ ?_)
    | (with_reducible refine LeO.bind ?_ (fun _ => ?_))
    | exact ih0 _ _ _ _ _ _ _ _ _ _ _
    | exact ih1 _ _ _ _ _ _ _ _ _ _
    | exact ih2 _ _ _ _ _ _ _ _ _ _ _
    | exact LeO.none _
    | refine LeO.ite ?_ ?_
    | refine LeO.bind ?_ (fun _ => ?_)
  · intro y0 y1 y2 y3 y4 y5 y6 y7 y8 y9 y10;unfold order_Postorder.l2
    repeat' first
    | (with_reducible exact ih0 _ _ _ _ _ _ _ _ _ _ _)
    | (with_reducible exact ih1 _ _ _ _ _ _ _ _ _ _)
    | (with_reducible exact ih2 _ _ _ _ _ _ _ _ _ _ _)
    | (with_reducible exact LeO.refl _)
    | (with_reducible exact LeO.none _)
    | (with_reducible refine LeO.ite ?_ ?_)
    | (with_reducible refine LeO.bind ?_ (fun _ => ?_))
    | exact ih0 _ _ _ _ _ _ _ _ _ _ _
    | exact ih1 _ _ _ _ _ _ _ _ _ _
    | exact ih2 _ _ _ _ _ _ _ _ _ _ _
    | exact LeO.none _
    | refine LeO.ite ?_ ?_
    | refine LeO.bind ?_ (fun _ => ?_)
theorem order_Postorder.mono : ∀ a0 a1 a2 a3 a4 k,LeO (order_Postorder.f k a0 a1 a2 a3 a4) (order_Postorder.f (k + 1) a0 a1 a2 a3 a4):=by
 intro a0 a1 a2 a3 a4 k;obtain ⟨ih0,ih1,ih2⟩:=order_Postorder.mono_l k
 unfold order_Postorder.f
 repeat' first
  | (with_reducible exact ih0 _ _ _ _ _ _ _ _ _ _ _)
  | (with_reducible exact ih1 _ _ _ _ _ _ _ _ _ _)
  | (with_reducible exact ih2 _ _ _ _ _ _ _ _ _ _ _)
  | (with_reducible exact LeO.refl _)
  | (with_reducible exact LeO.none _)
  | (with_reducible refine LeO.ite ?_ ?_)
  | (with_reducible refine LeO.bind ?_ (fun _ => ?_))
  | exact ih0 _ _ _ _ _ _ _ _ _ _ _
  | exact ih1 _ _ _ _ _ _ _ _ _ _
  | exact ih2 _ _ _ _ _ _ _ _ _ _ _
  | exact LeO.none _
  | refine LeO.ite ?_ ?_
  | refine LeO.bind ?_ (fun _ => ?_)
set_option maxHeartbeats 8000000 in
set_option maxRecDepth 100000 in
theorem order_Postorder.calls (k : Nat) (a0_0 : ByteArray) (a0_1 : Int) (a0_2 : Int) (a0_3 : Int) (A0_4 : Option Addr) (c0_4 : Nat) (l0_4 : List (S45)) (r : List Int) (w : World) (hr0_4 : Kd.C k45 w A0_4 l0_4.length l0_4) (hc0_4 : l0_4.length ≤ c0_4) (h : order_Postorder.f k a0_0 a0_1 a0_2 a0_3 l0_4 = some r) :
 Calls Try.prog 10 #[.agg #[.string a0_0,.int .i64 a0_1,.int .i64 a0_2,.int .i64 a0_3,.slice A0_4 l0_4.length c0_4]] w fun e w' => ∃ v0_ : Value,e = .returned (v0_) ∧ Kd.R (Kd.int .i64) 3 w' w.heap.size (fun _ => True) v0_ r ∧ Below w.heap.size w w' := by
 have hu24:=Try.underlying24
 have HR0_4:=Aside0.mk hr0_4
 clear hr0_4 hc0_4;have HB:=Aside0.mk (Below.refl w.heap.size w)
 have H : (if 0 ≤ (l0_4.length : Int) then (if ((l0_4.length : Int) : Int).toNat ≤ 281474976710656 then (if ((l0_4.length : Int) : Int).toNat ≤ 35184372088832 then (if (l0_4.length : Int) = 0 then (some ([] : List Int)) else (order_Postorder.l0 k (l0_4.length : Int) ([] : List Int) ([] : List Int) (List.replicate ((l0_4.length : Int) : Int).toNat false) (List.replicate ((l0_4.length : Int) : Int).toNat 0) 0 a0_0 a0_1 a0_2 a0_3 l0_4)) else (none)) else (none)) else (none)) = some r:=h
 clear h;by_cases c2 : 0 ≤ (l0_4.length : Int)
 · rw [if_pos c2] at H;have c2b1 : decide (0 ≤ (l0_4.length : Int)) = true:=decide_eq_true c2
   clear c2;by_cases c3 : ((l0_4.length : Int) : Int).toNat ≤ 281474976710656
   · rw [if_pos c3] at H;have c3b1 : decide (((l0_4.length : Int) : Int).toNat ≤ 281474976710656) = true:=decide_eq_true c3
     clear c3;obtain ⟨y171,hy171⟩ : ∃ y_ : List Bool,y_ = (List.replicate ((l0_4.length : Int) : Int).toNat false):=⟨_,rfl⟩
     replace H : (if ((l0_4.length : Int) : Int).toNat ≤ 35184372088832 then (if (l0_4.length : Int) = 0 then (some ([] : List Int)) else (order_Postorder.l0 k (l0_4.length : Int) ([] : List Int) ([] : List Int) y171 (List.replicate ((l0_4.length : Int) : Int).toNat 0) 0 a0_0 a0_1 a0_2 a0_3 l0_4)) else (none)) = some r:=by first|(rw [hy171];with_reducible exact H)|(have H2_:=(Option.bind_some _ _).symm.trans H;rw [hy171];with_reducible exact H2_)|(have H2_:=(Option.bind_some _ _).symm.trans H;with_reducible exact H2_)|with_reducible exact H|(rw [hy171];exact H)|exact H
     have Ny171:=Aside0.mk hy171
     clear hy171;by_cases c4 : ((l0_4.length : Int) : Int).toNat ≤ 35184372088832
     · rw [if_pos c4] at H;have c4b1 : decide (((l0_4.length : Int) : Int).toNat ≤ 35184372088832) = true:=decide_eq_true c4
       clear c4;obtain ⟨y174,hy174⟩ : ∃ y_ : List Int,y_ = (List.replicate ((l0_4.length : Int) : Int).toNat 0):=⟨_,rfl⟩
       replace H : (if (l0_4.length : Int) = 0 then (some ([] : List Int)) else (order_Postorder.l0 k (l0_4.length : Int) ([] : List Int) ([] : List Int) y171 y174 0 a0_0 a0_1 a0_2 a0_3 l0_4)) = some r:=by first|(rw [hy174];with_reducible exact H)|(have H2_:=(Option.bind_some _ _).symm.trans H;rw [hy174];with_reducible exact H2_)|(have H2_:=(Option.bind_some _ _).symm.trans H;with_reducible exact H2_)|with_reducible exact H|(rw [hy174];exact H)|exact H
       have Ny174:=Aside0.mk hy174
       clear hy174;by_cases c5 : (l0_4.length : Int) = 0
       · rw [if_pos c5] at H;have c5b0 : ((l0_4.length : Int) == 0) = true:=beq_iff_eq.mpr c5
         clear c5;obtain rfl:=Option.some.inj H
         go_enter Try.func10,Try.ntmps10
         go_wp2_with (first|((with_reducible refine Z52 (N:=1) rfl ?_);refine Z51 ?hg (N:=1) ?hd (cs:=#[.string a0_0,.int .i64 a0_1,.int .i64 a0_2,.int .i64 a0_3,.slice A0_4 l0_4.length c0_4]) (t:=24) ?hr ?_;(case hd => rfl);(case hg => rfl);(case hr => first|(go_simp;done)|(go_simp;rfl));intro gb170 hg w6 hbox hb;have n0_:=Aside0.mk (Z25 YH hb);have n1_:=Aside0.mk (hbox);have n2_:=Aside0.mk ((by rw [hg];exact (Z27 YH) : w.heap.size ≤ gb170));have n3_:=Aside0.mk ((by rw [hg];exact (Z27 YH) : w.heap.size ≤ gb170));clear HB;have HB:=n0_;have BK170:=n1_;have GW170:=n2_;have GE170:=n3_;clear n0_ n1_ n2_ n3_;clear hb hbox hg;have hcz7_4 : w6.cell? ⟨gb170,4,none⟩ = some (.slice A0_4 l0_4.length c0_4):=(Z5 BK170.out 4).trans rfl)|((with_reducible refine Z52 (N:=14) rfl ?_);refine Kd.R_make Kd.bool _ 4 rfl (N:=14) rfl 34 _ _ rfl (l0_4.length : Int) rfl rfl Try.underlying34 (.bool false) 1 info4 rfl (by decide) (by omega) false (ok:=fun _ => True) (okp:=fun _ => True) rfl (fun _ hk => hk) trivial YA (Nat.le_trans (Nat.mul_le_mul_right _ (YA : (l0_4.length : Int).toNat ≤ 281474976710656)) (by omega)) (Below.refl _ _) (Nat.le_refl _) ?_;intro v172 w8 ho9 hb hg_ hnew_;clear hg_ hnew_;(first|rw [← Ny171.out] at ho9|(simp only [Int.reduceToNat] at ho9;rw [← Ny171.out] at ho9));have n0_:=Aside0.mk (Kd.R_lower ho9 (Z27 YH));have n1_:=Aside0.mk (Z40 (YK BK170) hb);have n2_:=Aside0.mk (Z25 YH hb);clear BK170;clear HB;have HO173:=n0_;have BK170:=n1_;have HB:=n2_;clear n0_ n1_ n2_;clear hb ho9)|((with_reducible refine Z52 (N:=16) rfl ?_);refine Kd.R_make (Kd.int .i64) _ 3 rfl (N:=16) rfl 26 _ _ rfl (l0_4.length : Int) rfl rfl Try.underlying26 (.int .i64 0) 8 info3 rfl (by decide) (by omega) 0 (ok:=fun _ => True) (okp:=fun _ => True) rfl (fun _ hk => hk) trivial YA (Nat.le_trans (Nat.mul_le_mul_right _ (YA : (l0_4.length : Int).toNat ≤ 35184372088832)) (by omega)) (Below.refl _ _) (Nat.le_refl _) ?_;intro v175 w10 ho11 hb hg_ hnew_;clear hg_ hnew_;(first|rw [← Ny174.out] at ho11|(simp only [Int.reduceToNat] at ho11;rw [← Ny174.out] at ho11));have n0_:=Aside0.mk (Kd.R_below (YR HO173) hb);have n1_:=Aside0.mk (Kd.R_lower ho11 (Z27 YH));have n2_:=Aside0.mk (Z40 (YK BK170) hb);have n3_:=Aside0.mk (Z25 YH hb);clear HO173;clear BK170;clear HB;have HO173:=n0_;have HO176:=n1_;have BK170:=n2_;have HB:=n3_;clear n0_ n1_ n2_ n3_;clear hb ho11))
         refine wp_scope_straight ?_;go_wp2_with (first|((with_reducible refine Z52 (N:=1) rfl ?_);refine Z51 ?hg (N:=1) ?hd (cs:=#[.string a0_0,.int .i64 a0_1,.int .i64 a0_2,.int .i64 a0_3,.slice A0_4 l0_4.length c0_4]) (t:=24) ?hr ?_;(case hd => rfl);(case hg => rfl);(case hr => first|(go_simp;done)|(go_simp;rfl));intro gb170 hg w6 hbox hb;have n0_:=Aside0.mk (Z25 YH hb);have n1_:=Aside0.mk (hbox);have n2_:=Aside0.mk ((by rw [hg];exact (Z27 YH) : w.heap.size ≤ gb170));have n3_:=Aside0.mk ((by rw [hg];exact (Z27 YH) : w.heap.size ≤ gb170));clear HB;have HB:=n0_;have BK170:=n1_;have GW170:=n2_;have GE170:=n3_;clear n0_ n1_ n2_ n3_;clear hb hbox hg;have hcz7_4 : w6.cell? ⟨gb170,4,none⟩ = some (.slice A0_4 l0_4.length c0_4):=(Z5 BK170.out 4).trans rfl)|((with_reducible refine Z52 (N:=14) rfl ?_);refine Kd.R_make Kd.bool _ 4 rfl (N:=14) rfl 34 _ _ rfl (l0_4.length : Int) rfl rfl Try.underlying34 (.bool false) 1 info4 rfl (by decide) (by omega) false (ok:=fun _ => True) (okp:=fun _ => True) rfl (fun _ hk => hk) trivial YA (Nat.le_trans (Nat.mul_le_mul_right _ (YA : (l0_4.length : Int).toNat ≤ 281474976710656)) (by omega)) (Below.refl _ _) (Nat.le_refl _) ?_;intro v172 w8 ho9 hb hg_ hnew_;clear hg_ hnew_;(first|rw [← Ny171.out] at ho9|(simp only [Int.reduceToNat] at ho9;rw [← Ny171.out] at ho9));have n0_:=Aside0.mk (Kd.R_lower ho9 (Z27 YH));have n1_:=Aside0.mk (Z40 (YK BK170) hb);have n2_:=Aside0.mk (Z25 YH hb);clear BK170;clear HB;have HO173:=n0_;have BK170:=n1_;have HB:=n2_;clear n0_ n1_ n2_;clear hb ho9)|((with_reducible refine Z52 (N:=16) rfl ?_);refine Kd.R_make (Kd.int .i64) _ 3 rfl (N:=16) rfl 26 _ _ rfl (l0_4.length : Int) rfl rfl Try.underlying26 (.int .i64 0) 8 info3 rfl (by decide) (by omega) 0 (ok:=fun _ => True) (okp:=fun _ => True) rfl (fun _ hk => hk) trivial YA (Nat.le_trans (Nat.mul_le_mul_right _ (YA : (l0_4.length : Int).toNat ≤ 35184372088832)) (by omega)) (Below.refl _ _) (Nat.le_refl _) ?_;intro v175 w10 ho11 hb hg_ hnew_;clear hg_ hnew_;(first|rw [← Ny174.out] at ho11|(simp only [Int.reduceToNat] at ho11;rw [← Ny174.out] at ho11));have n0_:=Aside0.mk (Kd.R_below (YR HO173) hb);have n1_:=Aside0.mk (Kd.R_lower ho11 (Z27 YH));have n2_:=Aside0.mk (Z40 (YK BK170) hb);have n3_:=Aside0.mk (Z25 YH hb);clear HO173;clear BK170;clear HB;have HO173:=n0_;have HO176:=n1_;have BK170:=n2_;have HB:=n3_;clear n0_ n1_ n2_ n3_;clear hb ho11))
         repeat (go_quiet (first|((with_reducible refine Z52 (N:=1) rfl ?_);refine Z51 ?hg (N:=1) ?hd (cs:=#[.string a0_0,.int .i64 a0_1,.int .i64 a0_2,.int .i64 a0_3,.slice A0_4 l0_4.length c0_4]) (t:=24) ?hr ?_;(case hd => rfl);(case hg => rfl);(case hr => first|(go_simp;done)|(go_simp;rfl));intro gb170 hg w6 hbox hb;have n0_:=Aside0.mk (Z25 YH hb);have n1_:=Aside0.mk (hbox);have n2_:=Aside0.mk ((by rw [hg];exact (Z27 YH) : w.heap.size ≤ gb170));have n3_:=Aside0.mk ((by rw [hg];exact (Z27 YH) : w.heap.size ≤ gb170));clear HB;have HB:=n0_;have BK170:=n1_;have GW170:=n2_;have GE170:=n3_;clear n0_ n1_ n2_ n3_;clear hb hbox hg;have hcz7_4 : w6.cell? ⟨gb170,4,none⟩ = some (.slice A0_4 l0_4.length c0_4):=(Z5 BK170.out 4).trans rfl)|((with_reducible refine Z52 (N:=14) rfl ?_);refine Kd.R_make Kd.bool _ 4 rfl (N:=14) rfl 34 _ _ rfl (l0_4.length : Int) rfl rfl Try.underlying34 (.bool false) 1 info4 rfl (by decide) (by omega) false (ok:=fun _ => True) (okp:=fun _ => True) rfl (fun _ hk => hk) trivial YA (Nat.le_trans (Nat.mul_le_mul_right _ (YA : (l0_4.length : Int).toNat ≤ 281474976710656)) (by omega)) (Below.refl _ _) (Nat.le_refl _) ?_;intro v172 w8 ho9 hb hg_ hnew_;clear hg_ hnew_;(first|rw [← Ny171.out] at ho9|(simp only [Int.reduceToNat] at ho9;rw [← Ny171.out] at ho9));have n0_:=Aside0.mk (Kd.R_lower ho9 (Z27 YH));have n1_:=Aside0.mk (Z40 (YK BK170) hb);have n2_:=Aside0.mk (Z25 YH hb);clear BK170;clear HB;have HO173:=n0_;have BK170:=n1_;have HB:=n2_;clear n0_ n1_ n2_;clear hb ho9)|((with_reducible refine Z52 (N:=16) rfl ?_);refine Kd.R_make (Kd.int .i64) _ 3 rfl (N:=16) rfl 26 _ _ rfl (l0_4.length : Int) rfl rfl Try.underlying26 (.int .i64 0) 8 info3 rfl (by decide) (by omega) 0 (ok:=fun _ => True) (okp:=fun _ => True) rfl (fun _ hk => hk) trivial YA (Nat.le_trans (Nat.mul_le_mul_right _ (YA : (l0_4.length : Int).toNat ≤ 35184372088832)) (by omega)) (Below.refl _ _) (Nat.le_refl _) ?_;intro v175 w10 ho11 hb hg_ hnew_;clear hg_ hnew_;(first|rw [← Ny174.out] at ho11|(simp only [Int.reduceToNat] at ho11;rw [← Ny174.out] at ho11));have n0_:=Aside0.mk (Kd.R_below (YR HO173) hb);have n1_:=Aside0.mk (Kd.R_lower ho11 (Z27 YH));have n2_:=Aside0.mk (Z40 (YK BK170) hb);have n3_:=Aside0.mk (Z25 YH hb);clear HO173;clear BK170;clear HB;have HO173:=n0_;have HO176:=n1_;have BK170:=n2_;have HB:=n3_;clear n0_ n1_ n2_ n3_;clear hb ho11));try go_wp2_with (first|((with_reducible refine Z52 (N:=1) rfl ?_);refine Z51 ?hg (N:=1) ?hd (cs:=#[.string a0_0,.int .i64 a0_1,.int .i64 a0_2,.int .i64 a0_3,.slice A0_4 l0_4.length c0_4]) (t:=24) ?hr ?_;(case hd => rfl);(case hg => rfl);(case hr => first|(go_simp;done)|(go_simp;rfl));intro gb170 hg w6 hbox hb;have n0_:=Aside0.mk (Z25 YH hb);have n1_:=Aside0.mk (hbox);have n2_:=Aside0.mk ((by rw [hg];exact (Z27 YH) : w.heap.size ≤ gb170));have n3_:=Aside0.mk ((by rw [hg];exact (Z27 YH) : w.heap.size ≤ gb170));clear HB;have HB:=n0_;have BK170:=n1_;have GW170:=n2_;have GE170:=n3_;clear n0_ n1_ n2_ n3_;clear hb hbox hg;have hcz7_4 : w6.cell? ⟨gb170,4,none⟩ = some (.slice A0_4 l0_4.length c0_4):=(Z5 BK170.out 4).trans rfl)|((with_reducible refine Z52 (N:=14) rfl ?_);refine Kd.R_make Kd.bool _ 4 rfl (N:=14) rfl 34 _ _ rfl (l0_4.length : Int) rfl rfl Try.underlying34 (.bool false) 1 info4 rfl (by decide) (by omega) false (ok:=fun _ => True) (okp:=fun _ => True) rfl (fun _ hk => hk) trivial YA (Nat.le_trans (Nat.mul_le_mul_right _ (YA : (l0_4.length : Int).toNat ≤ 281474976710656)) (by omega)) (Below.refl _ _) (Nat.le_refl _) ?_;intro v172 w8 ho9 hb hg_ hnew_;clear hg_ hnew_;(first|rw [← Ny171.out] at ho9|(simp only [Int.reduceToNat] at ho9;rw [← Ny171.out] at ho9));have n0_:=Aside0.mk (Kd.R_lower ho9 (Z27 YH));have n1_:=Aside0.mk (Z40 (YK BK170) hb);have n2_:=Aside0.mk (Z25 YH hb);clear BK170;clear HB;have HO173:=n0_;have BK170:=n1_;have HB:=n2_;clear n0_ n1_ n2_;clear hb ho9)|((with_reducible refine Z52 (N:=16) rfl ?_);refine Kd.R_make (Kd.int .i64) _ 3 rfl (N:=16) rfl 26 _ _ rfl (l0_4.length : Int) rfl rfl Try.underlying26 (.int .i64 0) 8 info3 rfl (by decide) (by omega) 0 (ok:=fun _ => True) (okp:=fun _ => True) rfl (fun _ hk => hk) trivial YA (Nat.le_trans (Nat.mul_le_mul_right _ (YA : (l0_4.length : Int).toNat ≤ 35184372088832)) (by omega)) (Below.refl _ _) (Nat.le_refl _) ?_;intro v175 w10 ho11 hb hg_ hnew_;clear hg_ hnew_;(first|rw [← Ny174.out] at ho11|(simp only [Int.reduceToNat] at ho11;rw [← Ny174.out] at ho11));have n0_:=Aside0.mk (Kd.R_below (YR HO173) hb);have n1_:=Aside0.mk (Kd.R_lower ho11 (Z27 YH));have n2_:=Aside0.mk (Z40 (YK BK170) hb);have n3_:=Aside0.mk (Z25 YH hb);clear HO173;clear BK170;clear HB;have HO173:=n0_;have HO176:=n1_;have BK170:=n2_;have HB:=n3_;clear n0_ n1_ n2_ n3_;clear hb ho11)))
         (try simp only [Exit.noGoto]);go_step
         go_ret
         exact ⟨_,by first|rfl|(simp [Z16,Z15] <;> rfl)|(simp [*,Z16,Z15] <;> rfl),by first|exact Kd.R_nil _ _ _ _ _|exact Kd.N_nil _ _ _ _ _|exact Kd.V_nil _ _ _ _ _|exact Kd.Q_nil _ _ _ _ _|exact Kd.S_nil _ _ _ _ _,by repeat (first|(with_reducible first|exact HB.out|apply Z7|apply Z4|apply Z6|refine Z8 ?_ GE170.out)|exact HB.out)⟩
       · rw [if_neg c5] at H;have c5b0 : ((l0_4.length : Int) == 0) = false:=beq_eq_false_iff_ne.mpr c5
         have H' := Aside0.mk H
         clear H;go_enter Try.func10,Try.ntmps10
         go_wp2_with (first|((with_reducible refine Z52 (N:=1) rfl ?_);refine Z51 ?hg (N:=1) ?hd (cs:=#[.string a0_0,.int .i64 a0_1,.int .i64 a0_2,.int .i64 a0_3,.slice A0_4 l0_4.length c0_4]) (t:=24) ?hr ?_;(case hd => rfl);(case hg => rfl);(case hr => first|(go_simp;done)|(go_simp;rfl));intro gb170 hg w12 hbox hb;have n0_:=Aside0.mk (Z25 YH hb);have n1_:=Aside0.mk (hbox);have n2_:=Aside0.mk ((by rw [hg];exact (Z27 YH) : w.heap.size ≤ gb170));have n3_:=Aside0.mk ((by rw [hg];exact (Z27 YH) : w.heap.size ≤ gb170));clear HB;have HB:=n0_;have BK170:=n1_;have GW170:=n2_;have GE170:=n3_;clear n0_ n1_ n2_ n3_;clear hb hbox hg;have hcz13_4 : w12.cell? ⟨gb170,4,none⟩ = some (.slice A0_4 l0_4.length c0_4):=(Z5 BK170.out 4).trans rfl)|((with_reducible refine Z52 (N:=14) rfl ?_);refine Kd.R_make Kd.bool _ 4 rfl (N:=14) rfl 34 _ _ rfl (l0_4.length : Int) rfl rfl Try.underlying34 (.bool false) 1 info4 rfl (by decide) (by omega) false (ok:=fun _ => True) (okp:=fun _ => True) rfl (fun _ hk => hk) trivial YA (Nat.le_trans (Nat.mul_le_mul_right _ (YA : (l0_4.length : Int).toNat ≤ 281474976710656)) (by omega)) (Below.refl _ _) (Nat.le_refl _) ?_;intro v172 w14 ho15 hb hg_ hnew_;clear hg_ hnew_;(first|rw [← Ny171.out] at ho15|(simp only [Int.reduceToNat] at ho15;rw [← Ny171.out] at ho15));have n0_:=Aside0.mk (Kd.R_lower ho15 (Z27 YH));have n1_:=Aside0.mk (Z40 (YK BK170) hb);have n2_:=Aside0.mk (Z25 YH hb);clear BK170;clear HB;have HO173:=n0_;have BK170:=n1_;have HB:=n2_;clear n0_ n1_ n2_;clear hb ho15)|((with_reducible refine Z52 (N:=16) rfl ?_);refine Kd.R_make (Kd.int .i64) _ 3 rfl (N:=16) rfl 26 _ _ rfl (l0_4.length : Int) rfl rfl Try.underlying26 (.int .i64 0) 8 info3 rfl (by decide) (by omega) 0 (ok:=fun _ => True) (okp:=fun _ => True) rfl (fun _ hk => hk) trivial YA (Nat.le_trans (Nat.mul_le_mul_right _ (YA : (l0_4.length : Int).toNat ≤ 35184372088832)) (by omega)) (Below.refl _ _) (Nat.le_refl _) ?_;intro v175 w16 ho17 hb hg_ hnew_;clear hg_ hnew_;(first|rw [← Ny174.out] at ho17|(simp only [Int.reduceToNat] at ho17;rw [← Ny174.out] at ho17));have n0_:=Aside0.mk (Kd.R_below (YR HO173) hb);have n1_:=Aside0.mk (Kd.R_lower ho17 (Z27 YH));have n2_:=Aside0.mk (Z40 (YK BK170) hb);have n3_:=Aside0.mk (Z25 YH hb);clear HO173;clear BK170;clear HB;have HO173:=n0_;have HO176:=n1_;have BK170:=n2_;have HB:=n3_;clear n0_ n1_ n2_ n3_;clear hb ho17))
         refine wp_scope_two (P:=Try.prog) (by exact rfl) (by exact rfl)
          (fun kq a_ w' => ∃ (v172 v175 v4 v5 v8 u0 u2 u9 u10 u11 u12 u13 u14 u15 u16 u17 u18 u19 u20 u21 u22 u23 u24 u25 u26 u27 u28 u29 u30 u31 u32 u33 u34 u35 u36 u37 u38 u39 u40 u41 u42 u43 u44 u45 u46 u47 u48 u49 u50 u51 u52 u53 u54 u55 u56 u57 u58 u59 u60 u61 u62 u63 u64 u65 u66 u67 u68 u69 u70 u71 u72 u73 u74 u75 u76 u77 u78 u79 u80 u81 u82 u83 u84 u85 u86 u87 u88 u89 : Value),(∃ (x4_1 : List Int) (x5_1 : List Int) (x6_1 : List Bool) (x7_1 : List Int) (x8_1 : Int),v8 = .int .i64 x8_1 ∧ Aside0 (order_Postorder.l0 kq (l0_4.length : Int) x4_1 x5_1 x6_1 x7_1 x8_1 a0_0 a0_1 a0_2 a0_3 l0_4 = some r) ∧ Aside0 (kq ≤ k) ∧ Aside0 (Kd.R (Kd.int .i64) 3 w' w.heap.size (fun k_ => some k_ ≠ (v5 : Value).ownBlock ∧ some k_ ≠ (v175 : Value).ownBlock) v4 x4_1) ∧ Aside0 (Kd.R (Kd.int .i64) 3 w' w.heap.size (fun k_ => some k_ ≠ (v4 : Value).ownBlock ∧ some k_ ≠ (v175 : Value).ownBlock) v5 x5_1) ∧ Aside0 (Kd.R Kd.bool 4 w' w.heap.size (fun _ => True) v172 x6_1) ∧ Aside0 (Kd.R (Kd.int .i64) 3 w' w.heap.size (fun k_ => some k_ ≠ (v4 : Value).ownBlock ∧ some k_ ≠ (v5 : Value).ownBlock) v175 x7_1) ∧ Aside0 (w'.heap[gb170]? = some (.cells #[.string a0_0,.int .i64 a0_1,.int .i64 a0_2,.int .i64 a0_3,(.slice A0_4 l0_4.length c0_4)] 24 (0,0))) ∧ Aside0 (Below w.heap.size w w')) ∧ a_ = ⟨([u0,.pointer (some ⟨gb170,0,none⟩),u2,.int .i64 (l0_4.length : Int),v4,v5,v172,v175,v8,u9,u10,u11,u12,u13,u14,u15,u16,u17,u18,u19,u20,u21,u22,u23,u24,u25,u26,u27,u28,u29,u30,u31,u32,u33,u34,u35,u36,u37,u38,u39,u40,u41,u42,u43,u44,u45,u46,u47,u48,u49,u50,u51,u52,u53,u54,u55,u56,u57,u58,u59,u60,u61,u62,u63,u64,u65,u66,u67,u68,u69,u70,u71,u72,u73,u74,u75,u76,u77,u78,u79,u80,u81,u82,u83,u84,u85,u86,u87,u88,u89]).toArray,[]⟩)
          (fun kq a_ w' => ∃ (v172 v175 v4 v5 u0 u2 u8 u9 u10 u11 u12 u13 u14 u15 u16 u17 u18 u19 u20 u21 u22 u23 u24 u25 u26 u27 u28 u29 u30 u31 u32 u33 u34 u35 u36 u37 u38 u39 u40 u41 u42 u43 u44 u45 u46 u47 u48 u49 u50 u51 u52 u53 u54 u55 u56 u57 u58 u59 u60 u61 u62 u63 u64 u65 u66 u67 u68 u69 u70 u71 u72 u73 u74 u75 u76 u77 u78 u79 u80 u81 u82 u83 u84 u85 u86 u87 u88 u89 : Value),(∃ (x4_2 : List Int) (x5_2 : List Int) (y177 : List Bool) (x7_2 : List Int),Aside0 (order_Postorder.l1 kq (l0_4.length : Int) x4_2 x5_2 y177 x7_2 a0_0 a0_1 a0_2 a0_3 l0_4 = some r) ∧ Aside0 (kq ≤ k) ∧ Aside0 (Kd.R (Kd.int .i64) 3 w' w.heap.size (fun k_ => some k_ ≠ (v5 : Value).ownBlock ∧ some k_ ≠ (v175 : Value).ownBlock) v4 x4_2) ∧ Aside0 (Kd.R (Kd.int .i64) 3 w' w.heap.size (fun k_ => some k_ ≠ (v4 : Value).ownBlock ∧ some k_ ≠ (v175 : Value).ownBlock) v5 x5_2) ∧ Aside0 (Kd.R Kd.bool 4 w' w.heap.size (fun _ => True) v172 y177) ∧ Aside0 (Kd.R (Kd.int .i64) 3 w' w.heap.size (fun k_ => some k_ ≠ (v4 : Value).ownBlock ∧ some k_ ≠ (v5 : Value).ownBlock) v175 x7_2) ∧ Aside0 (w'.heap[gb170]? = some (.cells #[.string a0_0,.int .i64 a0_1,.int .i64 a0_2,.int .i64 a0_3,(.slice A0_4 l0_4.length c0_4)] 24 (0,0))) ∧ Aside0 (Below w.heap.size w w') ∧ Aside0 (0 < y177.length)) ∧ a_ = ⟨([u0,.pointer (some ⟨gb170,0,none⟩),u2,.int .i64 (l0_4.length : Int),v4,v5,v172,v175,u8,u9,u10,u11,u12,u13,u14,u15,u16,u17,u18,u19,u20,u21,u22,u23,u24,u25,u26,u27,u28,u29,u30,u31,u32,u33,u34,u35,u36,u37,u38,u39,u40,u41,u42,u43,u44,u45,u46,u47,u48,u49,u50,u51,u52,u53,u54,u55,u56,u57,u58,u59,u60,u61,u62,u63,u64,u65,u66,u67,u68,u69,u70,u71,u72,u73,u74,u75,u76,u77,u78,u79,u80,u81,u82,u83,u84,u85,u86,u87,u88,u89]).toArray,[]⟩) ?p1 ?p0 ?first
         case p1 =>
          try clear c2
          try clear c2b1
          try clear c3
          try clear c3b1
          try clear c4
          try clear c4b1
          try clear c5
          try clear c5b0
          try clear hcz13_4
          clear BK170 HB H';intro gk a_ wr hJ K0 K1 hK0 hK1;obtain ⟨v172,hJ⟩:=hJ
          obtain ⟨v175,hJ⟩:=hJ
          obtain ⟨u4,hJ⟩:=hJ
          obtain ⟨u5,hJ⟩:=hJ
          obtain ⟨u0,hJ⟩:=hJ
          obtain ⟨u2,hJ⟩:=hJ
          obtain ⟨u8,hJ⟩:=hJ
          obtain ⟨u9,hJ⟩:=hJ
          obtain ⟨u10,hJ⟩:=hJ
          obtain ⟨u11,hJ⟩:=hJ
          obtain ⟨u12,hJ⟩:=hJ
          obtain ⟨u13,hJ⟩:=hJ
          obtain ⟨u14,hJ⟩:=hJ
          obtain ⟨u15,hJ⟩:=hJ
          obtain ⟨u16,hJ⟩:=hJ
          obtain ⟨u17,hJ⟩:=hJ
          obtain ⟨u18,hJ⟩:=hJ
          obtain ⟨u19,hJ⟩:=hJ
          obtain ⟨u20,hJ⟩:=hJ
          obtain ⟨u21,hJ⟩:=hJ
          obtain ⟨u22,hJ⟩:=hJ
          obtain ⟨u23,hJ⟩:=hJ
          obtain ⟨u24,hJ⟩:=hJ
          obtain ⟨u25,hJ⟩:=hJ
          obtain ⟨u26,hJ⟩:=hJ
          obtain ⟨u27,hJ⟩:=hJ
          obtain ⟨u28,hJ⟩:=hJ
          obtain ⟨u29,hJ⟩:=hJ
          obtain ⟨u30,hJ⟩:=hJ
          obtain ⟨u31,hJ⟩:=hJ
          obtain ⟨u32,hJ⟩:=hJ
          obtain ⟨u33,hJ⟩:=hJ
          obtain ⟨u34,hJ⟩:=hJ
          obtain ⟨u35,hJ⟩:=hJ
          obtain ⟨u36,hJ⟩:=hJ
          obtain ⟨u37,hJ⟩:=hJ
          obtain ⟨u38,hJ⟩:=hJ
          obtain ⟨u39,hJ⟩:=hJ
          obtain ⟨u40,hJ⟩:=hJ
          obtain ⟨u41,hJ⟩:=hJ
          obtain ⟨u42,hJ⟩:=hJ
          obtain ⟨u43,hJ⟩:=hJ
          obtain ⟨u44,hJ⟩:=hJ
          obtain ⟨u45,hJ⟩:=hJ
          obtain ⟨u46,hJ⟩:=hJ
          obtain ⟨u47,hJ⟩:=hJ
          obtain ⟨u48,hJ⟩:=hJ
          obtain ⟨u49,hJ⟩:=hJ
          obtain ⟨u50,hJ⟩:=hJ
          obtain ⟨u51,hJ⟩:=hJ
          obtain ⟨u52,hJ⟩:=hJ
          obtain ⟨u53,hJ⟩:=hJ
          obtain ⟨u54,hJ⟩:=hJ
          obtain ⟨u55,hJ⟩:=hJ
          obtain ⟨u56,hJ⟩:=hJ
          obtain ⟨u57,hJ⟩:=hJ
          obtain ⟨u58,hJ⟩:=hJ
          obtain ⟨u59,hJ⟩:=hJ
          obtain ⟨u60,hJ⟩:=hJ
          obtain ⟨u61,hJ⟩:=hJ
          obtain ⟨u62,hJ⟩:=hJ
          obtain ⟨u63,hJ⟩:=hJ
          obtain ⟨u64,hJ⟩:=hJ
          obtain ⟨u65,hJ⟩:=hJ
          obtain ⟨u66,hJ⟩:=hJ
          obtain ⟨u67,hJ⟩:=hJ
          obtain ⟨u68,hJ⟩:=hJ
          obtain ⟨u69,hJ⟩:=hJ
          obtain ⟨u70,hJ⟩:=hJ
          obtain ⟨u71,hJ⟩:=hJ
          obtain ⟨u72,hJ⟩:=hJ
          obtain ⟨u73,hJ⟩:=hJ
          obtain ⟨u74,hJ⟩:=hJ
          obtain ⟨u75,hJ⟩:=hJ
          obtain ⟨u76,hJ⟩:=hJ
          obtain ⟨u77,hJ⟩:=hJ
          obtain ⟨u78,hJ⟩:=hJ
          obtain ⟨u79,hJ⟩:=hJ
          obtain ⟨u80,hJ⟩:=hJ
          obtain ⟨u81,hJ⟩:=hJ
          obtain ⟨u82,hJ⟩:=hJ
          obtain ⟨u83,hJ⟩:=hJ
          obtain ⟨u84,hJ⟩:=hJ
          obtain ⟨u85,hJ⟩:=hJ
          obtain ⟨u86,hJ⟩:=hJ
          obtain ⟨u87,hJ⟩:=hJ
          obtain ⟨u88,hJ⟩:=hJ
          obtain ⟨u89,hJ⟩:=hJ
          obtain ⟨hJ,ha_⟩:=hJ
          subst ha_;obtain ⟨x4_2,x5_2,y177,x7_2,HA,HK2,HO_4,HO_5,HO_6,HO_7,BK170,HB,L6⟩:=hJ
          have AK0:=Aside0.mk hK0
          have AK1:=Aside0.mk hK1
          clear hK0 hK1;obtain ⟨go20,co20,eo20,gb20,gl20,cl20,HG20⟩:=Kd.R_form HO_6.out L6.out
          (first|cases eo20|(injection eo20 with ea_ en_ ec_;(first|subst ea_|(injection ea_ with ea_;subst ea_));subst ec_;clear en_));have GB20:=Aside0.mk gb20
          have GG20:=Aside0.mk HG20
          clear gb20 gl20 HG20;cases gk with
          | zero => exact absurd HA.out (by simp [order_Postorder.l1])
          | succ k2 =>
           have H:=HA.out
           clear HA;simp only [order_Postorder.l1] at H;obtain ⟨ji25,hji25⟩ : ∃ j_ : Int,(wrap64 ((x5_2.length : Int) - 1)) = j_:=⟨_,rfl⟩
           replace H : (if 0 ≤ (ji25) then (if (ji25) < (x5_2.length : Int) then (order_Postorder.l2 k2 (l0_4.length : Int) x4_2 x5_2 y177 x7_2 (rd x5_2 (ji25)) a0_0 a0_1 a0_2 a0_3 l0_4) else (none)) else (none)) = some r:=by first|(rw [hji25] at H;exact H)|(simp only [hji25] at H ⊢;exact H)
           have hji25w : (IntKind.i64.wrap ((x5_2.length : Int) - 1)) = ji25:=(i64_w _).trans hji25
           by_cases c26 : 0 ≤ (ji25)
           · rw [if_pos c26] at H;have c26b0 : decide (0 ≤ (ji25)) = true:=decide_eq_true c26
             clear c26;by_cases c27 : (ji25) < (x5_2.length : Int)
             · rw [if_pos c27] at H;have c27b0 : decide ((ji25) < (x5_2.length : Int)) = true:=decide_eq_true c27
               clear c27;have H' := Aside0.mk H
               clear H;obtain ⟨Ao28,co28,eo28⟩:=Kd.R_slice HO_5.out
               subst eo28;have p181 : 0 ≤ ((ji25) : Int):=YA
               have q181 : (ji25) < (x5_2.length : Int):=YA
               obtain ⟨ad181,e181,hx181_0⟩:=Kd.at_int (Kd.R_reads' HO_5.out).2.2 (ji25) p181 q181
               cases e181;replace p181:=eq_true p181
               replace q181:=eq_true q181
               go_wp2
               repeat (go_quiet (fail);try go_wp2)
               go_loopg [8] k2 (fun kq v8 w' => ∃ (x7_3 : List Int) (x8_3 : Int),v8 = .int .i64 x8_3 ∧ Aside0 (order_Postorder.l2 kq (l0_4.length : Int) x4_2 x5_2 y177 x7_3 x8_3 a0_0 a0_1 a0_2 a0_3 l0_4 = some r) ∧ Aside0 (kq ≤ k2) ∧ Aside0 (Kd.R (Kd.int .i64) 3 w' w.heap.size (fun k_ => some k_ ≠ ((.slice (some ad181) x5_2.length co28) : Value).ownBlock ∧ some k_ ≠ (v175 : Value).ownBlock) u4 x4_2) ∧ Aside0 (Kd.R (Kd.int .i64) 3 w' w.heap.size (fun k_ => some k_ ≠ (u4 : Value).ownBlock ∧ some k_ ≠ (v175 : Value).ownBlock) (.slice (some ad181) x5_2.length co28) x5_2) ∧ Aside0 (Kd.R Kd.bool 4 w' w.heap.size (fun _ => True) (.slice (some ⟨go20,0,none⟩) y177.length co20) y177) ∧ Aside0 (Kd.R (Kd.int .i64) 3 w' w.heap.size (fun k_ => some k_ ≠ (u4 : Value).ownBlock ∧ some k_ ≠ ((.slice (some ad181) x5_2.length co28) : Value).ownBlock) v175 x7_3) ∧ Aside0 (w'.heap[gb170]? = some (.cells #[.string a0_0,.int .i64 a0_1,.int .i64 a0_2,.int .i64 a0_3,(.slice A0_4 l0_4.length c0_4)] 24 (0,0))) ∧ Aside0 (Below w.heap.size w w'))
               case atStart => exact ⟨(x7_2),(rd x5_2 (ji25)),(by first|rfl|(simp;done)|(simp only [← hji25] <;> (first|rfl|simp))|(simp [*];done)),H',⟨Nat.le_refl _⟩,⟨YR HO_4⟩,⟨YR HO_5⟩,⟨YR HO_6⟩,⟨YR HO_7⟩,⟨YK BK170⟩,⟨YH⟩⟩
               case round =>
                clear H';try clear p1
                try clear c2
                try clear c2b1
                try clear c3
                try clear c3b1
                try clear c4
                try clear c4b1
                try clear c5
                try clear c5b0
                try clear c26
                try clear c26b0
                try clear c27
                try clear c27b0
                try clear hcz13_4
                try clear hx181_0
                try clear p181
                try clear q181
                obtain ⟨x7_3,x8_3,rfl,HA,HK3,HO_4,HO_5,HO_6,HO_7,BK170,HB⟩:=hrel
                cases gk with
                | zero => exact absurd HA.out (by simp [order_Postorder.l2])
                | succ k3 =>
                 have H:=HA.out
                 clear HA;simp only [order_Postorder.l2] at H;by_cases c29 : 0 ≤ x8_3
                 · rw [if_pos c29] at H;have c29b0 : decide (0 ≤ x8_3) = true:=decide_eq_true c29
                   clear c29;by_cases c30 : x8_3 < (x7_3.length : Int)
                   · rw [if_pos c30] at H;have c30b0 : decide (x8_3 < (x7_3.length : Int)) = true:=decide_eq_true c30
                     clear c30;by_cases c31 : x8_3 < (l0_4.length : Int)
                     · rw [if_pos c31] at H;have c31b0 : decide (x8_3 < (l0_4.length : Int)) = true:=decide_eq_true c31
                       clear c31;by_cases c32 : (rd x7_3 x8_3) < (((rd_T45 l0_4 x8_3).f3).length : Int)
                       · rw [if_pos c32] at H;have c32b0 : decide ((rd x7_3 x8_3) < (((rd_T45 l0_4 x8_3).f3).length : Int)) = true:=decide_eq_true c32
                         clear c32;by_cases c33 : 0 ≤ (rd x7_3 x8_3)
                         · rw [if_pos c33] at H;have c33b0 : decide (0 ≤ (rd x7_3 x8_3)) = true:=decide_eq_true c33
                           clear c33;obtain ⟨y188,hy188⟩ : ∃ y_ : List Int,y_ = (x7_3.set (x8_3 : Int).toNat (wrap64 ((rd x7_3 x8_3) + 1))):=⟨_,rfl⟩
                           replace H : (if (rd ((rd_T45 l0_4 x8_3).f3) (rd x7_3 x8_3)) ≥ 0 then (if (rd ((rd_T45 l0_4 x8_3).f3) (rd x7_3 x8_3)) < (l0_4.length : Int) then (if 0 ≤ (rd ((rd_T45 l0_4 x8_3).f3) (rd x7_3 x8_3)) then (if (rd ((rd_T45 l0_4 x8_3).f3) (rd x7_3 x8_3)) < (y177.length : Int) then (if (rdOf false y177 (rd ((rd_T45 l0_4 x8_3).f3) (rd x7_3 x8_3)) = true) then (order_Postorder.l2 k3 (l0_4.length : Int) x4_2 x5_2 y177 y188 x8_3 a0_0 a0_1 a0_2 a0_3 l0_4) else (order_Postorder.l0 k3 (l0_4.length : Int) x4_2 x5_2 y177 y188 (rd ((rd_T45 l0_4 x8_3).f3) (rd x7_3 x8_3)) a0_0 a0_1 a0_2 a0_3 l0_4)) else (none)) else (none)) else (order_Postorder.l2 k3 (l0_4.length : Int) x4_2 x5_2 y177 y188 x8_3 a0_0 a0_1 a0_2 a0_3 l0_4)) else (order_Postorder.l2 k3 (l0_4.length : Int) x4_2 x5_2 y177 y188 x8_3 a0_0 a0_1 a0_2 a0_3 l0_4)) = some r:=by first|(rw [hy188];with_reducible exact H)|(have H2_:=(Option.bind_some _ _).symm.trans H;rw [hy188];with_reducible exact H2_)|(have H2_:=(Option.bind_some _ _).symm.trans H;with_reducible exact H2_)|with_reducible exact H|(rw [hy188];exact H)|exact H
                           have Ny188:=Aside0.mk hy188
                           clear hy188;by_cases c35 : (rd ((rd_T45 l0_4 x8_3).f3) (rd x7_3 x8_3)) ≥ 0
                           · rw [if_pos c35] at H;have c35b0 : decide (0 ≤ (rd ((rd_T45 l0_4 x8_3).f3) (rd x7_3 x8_3))) = true:=decide_eq_true c35
                             clear c35;by_cases c36 : (rd ((rd_T45 l0_4 x8_3).f3) (rd x7_3 x8_3)) < (l0_4.length : Int)
                             · rw [if_pos c36] at H;have c36b0 : decide ((rd ((rd_T45 l0_4 x8_3).f3) (rd x7_3 x8_3)) < (l0_4.length : Int)) = true:=decide_eq_true c36
                               clear c36;by_cases c37 : 0 ≤ (rd ((rd_T45 l0_4 x8_3).f3) (rd x7_3 x8_3))
                               · rw [if_pos c37] at H;have c37b0 : decide (0 ≤ (rd ((rd_T45 l0_4 x8_3).f3) (rd x7_3 x8_3))) = true:=decide_eq_true c37
                                 clear c37;by_cases c38 : (rd ((rd_T45 l0_4 x8_3).f3) (rd x7_3 x8_3)) < (y177.length : Int)
                                 · rw [if_pos c38] at H;have c38b0 : decide ((rd ((rd_T45 l0_4 x8_3).f3) (rd x7_3 x8_3)) < (y177.length : Int)) = true:=decide_eq_true c38
                                   clear c38;obtain ⟨bq39,hbq39⟩ : ∃ b_ : Bool,b_ = (rdOf false y177 (rd ((rd_T45 l0_4 x8_3).f3) (rd x7_3 x8_3))):=⟨_,rfl⟩
                                   replace H : (if (bq39 = true) then (order_Postorder.l2 k3 (l0_4.length : Int) x4_2 x5_2 y177 y188 x8_3 a0_0 a0_1 a0_2 a0_3 l0_4) else (order_Postorder.l0 k3 (l0_4.length : Int) x4_2 x5_2 y177 y188 (rd ((rd_T45 l0_4 x8_3).f3) (rd x7_3 x8_3)) a0_0 a0_1 a0_2 a0_3 l0_4)) = some r:=by rw [← hbq39] at H;exact H
                                   have Nbq39:=Aside0.mk hbq39
                                   clear hbq39;by_cases c40 : (bq39 = true)
                                   · subst c40;have H1 : (order_Postorder.l2 k3 (l0_4.length : Int) x4_2 x5_2 y177 y188 x8_3 a0_0 a0_1 a0_2 a0_3 l0_4) = some r:=by rw [if_pos rfl] at H;exact H
                                     clear H;have H:=H1
                                     clear H1;have H' := Aside0.mk H
                                     clear H;obtain ⟨Ao41,co41,eo41⟩:=Kd.R_slice HO_7.out
                                     subst eo41;have p182 : 0 ≤ (x8_3 : Int):=YA
                                     have q182 : x8_3 < (x7_3.length : Int):=YA
                                     obtain ⟨ad182,e182,hx182_0⟩:=Kd.at_int (Kd.R_reads' HO_7.out).2.2 x8_3 p182 q182
                                     cases e182;replace p182:=eq_true p182
                                     replace q182:=eq_true q182
                                     have hcz42_4 : wr.cell? ⟨gb170,4,none⟩ = some (.slice A0_4 l0_4.length c0_4):=(Z5 BK170.out 4).trans rfl
                                     have p183 : 0 ≤ (x8_3 : Int):=YA
                                     have q183 : x8_3 < (l0_4.length : Int):=YA
                                     obtain ⟨ad183,A183_0,c183_0,A183_3,c183_3,e183,hx183_0,hx183_1,hx183_2,hx183_3,hl183_0,hi183_0,hl183_3,hi183_3⟩:=at_T45 HR0_4.out x8_3 p183 q183
                                     cases e183;replace hx183_0:=(HB.out.cell (World.block_lt_of_cell? w _ hx183_0)).trans hx183_0
                                     replace hx183_1:=(HB.out.cell (World.block_lt_of_cell? w _ hx183_1)).trans hx183_1
                                     replace hx183_2:=(HB.out.cell (World.block_lt_of_cell? w _ hx183_2)).trans hx183_2
                                     replace hx183_3:=(HB.out.cell (World.block_lt_of_cell? w _ hx183_3)).trans hx183_3
                                     clear hi183_0 hl183_0;have HR183_3:=Aside0.mk hi183_3
                                     clear hi183_3 hl183_3;replace p183:=eq_true p183
                                     replace q183:=eq_true q183
                                     have p184 : 0 ≤ (x8_3 : Int):=YA
                                     have q184 : x8_3 < (l0_4.length : Int):=YA
                                     obtain ⟨ad184,A184_0,c184_0,A184_3,c184_3,e184,hx184_0,hx184_1,hx184_2,hx184_3,hl184_0,hi184_0,hl184_3,hi184_3⟩:=at_T45 HR0_4.out x8_3 p184 q184
                                     obtain rfl : ad183 = ad184:=(by injection e184)
                                     replace hx184_0:=(HB.out.cell (World.block_lt_of_cell? w _ hx184_0)).trans hx184_0
                                     replace hx184_1:=(HB.out.cell (World.block_lt_of_cell? w _ hx184_1)).trans hx184_1
                                     replace hx184_2:=(HB.out.cell (World.block_lt_of_cell? w _ hx184_2)).trans hx184_2
                                     replace hx184_3:=(HB.out.cell (World.block_lt_of_cell? w _ hx184_3)).trans hx184_3
                                     have HR184_0:=Aside0.mk hi184_0
                                     have HC184_0:=Aside0.mk hl184_0
                                     clear hi184_0 hl184_0;have HR184_3:=Aside0.mk hi184_3
                                     have HC184_3:=Aside0.mk hl184_3
                                     clear hi184_3 hl184_3;replace p184:=eq_true p184
                                     replace q184:=eq_true q184
                                     have ea_:=Option.some.inj (hx183_0.symm.trans hx184_0)
                                     injection ea_ with ea_ en_ ec_
                                     subst ea_;subst ec_;clear en_;have ea_:=Option.some.inj (hx183_3.symm.trans hx184_3)
                                     injection ea_ with ea_ en_ ec_
                                     subst ea_;subst ec_;clear en_;have p185 : 0 ≤ (x8_3 : Int):=YA
                                     have q185 : x8_3 < (x7_3.length : Int):=YA
                                     obtain ⟨ad185,e185,hx185_0⟩:=Kd.at_int (Kd.R_reads' HO_7.out).2.2 x8_3 p185 q185
                                     obtain rfl : ad182 = ad185:=(by injection e185)
                                     replace p185:=eq_true p185
                                     replace q185:=eq_true q185
                                     have p186 : 0 ≤ ((rd x7_3 x8_3) : Int):=YA
                                     have q186 : (rd x7_3 x8_3) < (((rd_T45 l0_4 x8_3).f3).length : Int):=YA
                                     obtain ⟨ad186,e186,hx186_0⟩:=Kd.at_int HR184_3.out (rd x7_3 x8_3) p186 q186
                                     cases e186;replace hx186_0:=(HB.out.cell (World.block_lt_of_cell? w _ hx186_0)).trans hx186_0
                                     replace p186:=eq_true p186
                                     replace q186:=eq_true q186
                                     have p187 : 0 ≤ (x8_3 : Int):=YA
                                     have q187 : x8_3 < (x7_3.length : Int):=YA
                                     obtain ⟨ad187,e187,hx187_0⟩:=Kd.at_int (Kd.R_reads' HO_7.out).2.2 x8_3 p187 q187
                                     obtain rfl : ad182 = ad187:=(by injection e187)
                                     replace p187:=eq_true p187
                                     replace q187:=eq_true q187
                                     have p34 : 0 ≤ (x8_3 : Int):=YA
                                     have q34 : (x8_3 : Int) < ((x7_3.length : Int) : Int):=YA
                                     obtain ⟨go34,co34,eo34,gb34,gl34,cl34,HG34⟩:=Kd.R_form HO_7.out (by omega)
                                     (first|cases eo34|(injection eo34 with ea_ en_ ec_;(first|subst ea_|(injection ea_ with ea_;subst ea_));subst ec_;clear en_));have GB34:=Aside0.mk gb34
                                     have GG34:=Aside0.mk HG34
                                     clear gb34 gl34 HG34;(first|simp only [add_plain] at hx182_0|skip);(first|simp only [add_plain] at hx185_0|skip);(first|simp only [add_plain] at hx187_0|skip);obtain ⟨hx34_0,hf34_0⟩:=Kd.R_celln 0 HO_7.out (x8_3 : Int) p34 q34
                                     replace p34:=eq_true p34
                                     replace q34:=eq_true q34
                                     have HP43:=Kd.R_putg HO_7.out (x8_3 : Int) (wrap64 ((rd x7_3 x8_3) + 1))
                                     go_wp2_with (first|((with_reducible refine gate_store (t:=3) (p:=61) rfl ?_);(try (rw [Z43 wr];generalize hq_ : World.drewN wr _ = wr;have n0_:=Aside0.mk (Kd.R_at hq_ HO_4.out);have n1_:=Aside0.mk (Kd.R_at hq_ HO_5.out);have n2_:=Aside0.mk (Kd.R_at hq_ HO_6.out);have n3_:=Aside0.mk (Kd.R_at hq_ HO_7.out);have n4_:=Aside0.mk (blk_at hq_ BK170.out);have n5_:=Aside0.mk (below_at hq_ HB.out);(try (replace hx184_0:=Eq.trans (congrArg (fun w_ : World => w_.cell? _) hq_.symm) hx184_0));(try (replace hx184_1:=Eq.trans (congrArg (fun w_ : World => w_.cell? _) hq_.symm) hx184_1));(try (replace hx184_2:=Eq.trans (congrArg (fun w_ : World => w_.cell? _) hq_.symm) hx184_2));(try (replace hx184_3:=Eq.trans (congrArg (fun w_ : World => w_.cell? _) hq_.symm) hx184_3));(try (replace hx183_0:=Eq.trans (congrArg (fun w_ : World => w_.cell? _) hq_.symm) hx183_0));(try (replace hx183_3:=Eq.trans (congrArg (fun w_ : World => w_.cell? _) hq_.symm) hx183_3));(try (replace hx185_0:=Eq.trans (congrArg (fun w_ : World => w_.cell? _) hq_.symm) hx185_0));(try (replace hx186_0:=Eq.trans (congrArg (fun w_ : World => w_.cell? _) hq_.symm) hx186_0));(try (replace hx187_0:=Eq.trans (congrArg (fun w_ : World => w_.cell? _) hq_.symm) hx187_0));(try (replace hx182_0:=Eq.trans (congrArg (fun w_ : World => w_.cell? _) hq_.symm) hx182_0));(try (replace hx34_0:=Eq.trans (congrArg (fun w_ : World => w_.cell? _) hq_.symm) hx34_0));(try (replace hf34_0:=Eq.trans (congrArg (fun w_ : World => w_.frozen? _) hq_.symm) hf34_0));clear hq_ HO_4 HO_5 HO_6 HO_7 BK170 HB;have HO_4:=n0_;have HO_5:=n1_;have HO_6:=n2_;have HO_7:=n3_;have BK170:=n4_;have HB:=n5_;clear n0_ n1_ n2_ n3_ n4_ n5_;(try (have HP43:=Kd.R_putg HO_7.out (x8_3 : Int) (wrap64 ((rd x7_3 x8_3) + 1))))));refine store_event (t:=3) (p:=61) (v:=?vo_w44) (w1:=(wr.setCell ⟨go34,(x8_3 : Int).toNat,none⟩ (.int .i64 (wrap64 ((rd x7_3 x8_3) + 1))))) ?hg ?ho ?hn ?hr ?_;(case ho => rfl);(case hg => rfl);(case hn => rfl);(case hr => first|(go_simp;done)|(go_simp;rfl));intro w44 hw;have hg : wr.grownBy w44 (some go34):=(by rw [hw];exact HP43.2);have hp_ : Kd.R (Kd.int .i64) 3 w44 w.heap.size (fun k_ => some k_ ≠ (u4 : Value).ownBlock ∧ some k_ ≠ (.slice (some ad181) x5_2.length co28 : Value).ownBlock) (.slice (some ⟨go34,0,none⟩) x7_3.length co41) y188:=(by rw [hw,Ny188.out];exact HP43.1);clear HP43;have n0_:=Aside0.mk (Kd.R_after (v:=(.slice (some ⟨go34,0,none⟩) x7_3.length co41)) (v1:=(.slice (some ⟨go34,0,none⟩) x7_3.length co41)) (ok:=(fun k_ => some k_ ≠ (.slice (some ad181) x5_2.length co28 : Value).ownBlock)) (YR HO_4) hg (.inl rfl));have n1_:=Aside0.mk (Kd.R_after (v:=(.slice (some ⟨go34,0,none⟩) x7_3.length co41)) (v1:=(.slice (some ⟨go34,0,none⟩) x7_3.length co41)) (ok:=(fun k_ => some k_ ≠ (u4 : Value).ownBlock)) (YR HO_5) hg (.inl rfl));have n2_:=Aside0.mk (Kd.R_over' (v:=(.slice (some ⟨go34,0,none⟩) x7_3.length co41)) (YR HO_6) (Kd.R_typed HO_7.out) (by decide) hg);have n3_:=Aside0.mk (hp_);have n4_:=Aside0.mk (Z89 (YK BK170) hg (Kd.R_ne HO_7.out BK170.out (by decide)));have n5_:=Aside0.mk ((by rw [hw];exact Z8 (HB.out) GB34.out : Below w.heap.size w w44));clear HO_4;clear HO_5;clear HO_6;clear HO_7;clear BK170;clear HB;have HO_4:=n0_;have HO_5:=n1_;have HO_6:=n2_;have HO_7:=n3_;have BK170:=n4_;have HB:=n5_;clear n0_ n1_ n2_ n3_ n4_ n5_;clear hg hw hp_;have p189 : 0 ≤ ((rd ((rd_T45 l0_4 x8_3).f3) (rd x7_3 x8_3)) : Int):=YA;have q189 : (rd ((rd_T45 l0_4 x8_3).f3) (rd x7_3 x8_3)) < (y177.length : Int):=YA;obtain ⟨ad189,e189,hx189_0⟩:=Kd.at_bool (Kd.R_reads' HO_6.out).2.2 (rd ((rd_T45 l0_4 x8_3).f3) (rd x7_3 x8_3)) p189 q189;(try rw [← Nbq39.out] at hx189_0);obtain rfl : (⟨go20,0,none⟩ : Addr) = ad189:=(by injection e189);(first|simp only [add_plain] at hx189_0|simp only [add_at] at hx189_0|simp only [Addr.add,Nat.zero_add] at hx189_0|skip);replace p189:=eq_true p189;replace q189:=eq_true q189))
                                     repeat (go_quiet (first|((with_reducible refine gate_store (t:=3) (p:=61) rfl ?_);(try (rw [Z43 wr];generalize hq_ : World.drewN wr _ = wr;have n0_:=Aside0.mk (Kd.R_at hq_ HO_4.out);have n1_:=Aside0.mk (Kd.R_at hq_ HO_5.out);have n2_:=Aside0.mk (Kd.R_at hq_ HO_6.out);have n3_:=Aside0.mk (Kd.R_at hq_ HO_7.out);have n4_:=Aside0.mk (blk_at hq_ BK170.out);have n5_:=Aside0.mk (below_at hq_ HB.out);(try (replace hx184_0:=Eq.trans (congrArg (fun w_ : World => w_.cell? _) hq_.symm) hx184_0));(try (replace hx184_1:=Eq.trans (congrArg (fun w_ : World => w_.cell? _) hq_.symm) hx184_1));(try (replace hx184_2:=Eq.trans (congrArg (fun w_ : World => w_.cell? _) hq_.symm) hx184_2));(try (replace hx184_3:=Eq.trans (congrArg (fun w_ : World => w_.cell? _) hq_.symm) hx184_3));(try (replace hx183_0:=Eq.trans (congrArg (fun w_ : World => w_.cell? _) hq_.symm) hx183_0));(try (replace hx183_3:=Eq.trans (congrArg (fun w_ : World => w_.cell? _) hq_.symm) hx183_3));(try (replace hx185_0:=Eq.trans (congrArg (fun w_ : World => w_.cell? _) hq_.symm) hx185_0));(try (replace hx186_0:=Eq.trans (congrArg (fun w_ : World => w_.cell? _) hq_.symm) hx186_0));(try (replace hx187_0:=Eq.trans (congrArg (fun w_ : World => w_.cell? _) hq_.symm) hx187_0));(try (replace hx182_0:=Eq.trans (congrArg (fun w_ : World => w_.cell? _) hq_.symm) hx182_0));(try (replace hx34_0:=Eq.trans (congrArg (fun w_ : World => w_.cell? _) hq_.symm) hx34_0));(try (replace hf34_0:=Eq.trans (congrArg (fun w_ : World => w_.frozen? _) hq_.symm) hf34_0));(try (replace hx189_0:=Eq.trans (congrArg (fun w_ : World => w_.cell? _) hq_.symm) hx189_0));clear hq_ HO_4 HO_5 HO_6 HO_7 BK170 HB;have HO_4:=n0_;have HO_5:=n1_;have HO_6:=n2_;have HO_7:=n3_;have BK170:=n4_;have HB:=n5_;clear n0_ n1_ n2_ n3_ n4_ n5_;(try (have HP43:=Kd.R_putg HO_7.out (x8_3 : Int) (wrap64 ((rd x7_3 x8_3) + 1))))));refine store_event (t:=3) (p:=61) (v:=?vo_w44) (w1:=(wr.setCell ⟨go34,(x8_3 : Int).toNat,none⟩ (.int .i64 (wrap64 ((rd x7_3 x8_3) + 1))))) ?hg ?ho ?hn ?hr ?_;(case ho => rfl);(case hg => rfl);(case hn => rfl);(case hr => first|(go_simp;done)|(go_simp;rfl));intro w44 hw;have hg : wr.grownBy w44 (some go34):=(by rw [hw];exact HP43.2);have hp_ : Kd.R (Kd.int .i64) 3 w44 w.heap.size (fun k_ => some k_ ≠ (u4 : Value).ownBlock ∧ some k_ ≠ (.slice (some ad181) x5_2.length co28 : Value).ownBlock) (.slice (some ⟨go34,0,none⟩) x7_3.length co41) y188:=(by rw [hw,Ny188.out];exact HP43.1);clear HP43;have n0_:=Aside0.mk (Kd.R_after (v:=(.slice (some ⟨go34,0,none⟩) x7_3.length co41)) (v1:=(.slice (some ⟨go34,0,none⟩) x7_3.length co41)) (ok:=(fun k_ => some k_ ≠ (.slice (some ad181) x5_2.length co28 : Value).ownBlock)) (YR HO_4) hg (.inl rfl));have n1_:=Aside0.mk (Kd.R_after (v:=(.slice (some ⟨go34,0,none⟩) x7_3.length co41)) (v1:=(.slice (some ⟨go34,0,none⟩) x7_3.length co41)) (ok:=(fun k_ => some k_ ≠ (u4 : Value).ownBlock)) (YR HO_5) hg (.inl rfl));have n2_:=Aside0.mk (Kd.R_over' (v:=(.slice (some ⟨go34,0,none⟩) x7_3.length co41)) (YR HO_6) (Kd.R_typed HO_7.out) (by decide) hg);have n3_:=Aside0.mk (hp_);have n4_:=Aside0.mk (Z89 (YK BK170) hg (Kd.R_ne HO_7.out BK170.out (by decide)));have n5_:=Aside0.mk ((by rw [hw];exact Z8 (HB.out) GB34.out : Below w.heap.size w w44));clear HO_4;clear HO_5;clear HO_6;clear HO_7;clear BK170;clear HB;have HO_4:=n0_;have HO_5:=n1_;have HO_6:=n2_;have HO_7:=n3_;have BK170:=n4_;have HB:=n5_;clear n0_ n1_ n2_ n3_ n4_ n5_;clear hg hw hp_;have p189 : 0 ≤ ((rd ((rd_T45 l0_4 x8_3).f3) (rd x7_3 x8_3)) : Int):=YA;have q189 : (rd ((rd_T45 l0_4 x8_3).f3) (rd x7_3 x8_3)) < (y177.length : Int):=YA;obtain ⟨ad189,e189,hx189_0⟩:=Kd.at_bool (Kd.R_reads' HO_6.out).2.2 (rd ((rd_T45 l0_4 x8_3).f3) (rd x7_3 x8_3)) p189 q189;(try rw [← Nbq39.out] at hx189_0);obtain rfl : (⟨go20,0,none⟩ : Addr) = ad189:=(by injection e189);(first|simp only [add_plain] at hx189_0|simp only [add_at] at hx189_0|simp only [Addr.add,Nat.zero_add] at hx189_0|skip);replace p189:=eq_true p189;replace q189:=eq_true q189));try go_wp2_with (first|((with_reducible refine gate_store (t:=3) (p:=61) rfl ?_);(try (rw [Z43 wr];generalize hq_ : World.drewN wr _ = wr;have n0_:=Aside0.mk (Kd.R_at hq_ HO_4.out);have n1_:=Aside0.mk (Kd.R_at hq_ HO_5.out);have n2_:=Aside0.mk (Kd.R_at hq_ HO_6.out);have n3_:=Aside0.mk (Kd.R_at hq_ HO_7.out);have n4_:=Aside0.mk (blk_at hq_ BK170.out);have n5_:=Aside0.mk (below_at hq_ HB.out);(try (replace hx184_0:=Eq.trans (congrArg (fun w_ : World => w_.cell? _) hq_.symm) hx184_0));(try (replace hx184_1:=Eq.trans (congrArg (fun w_ : World => w_.cell? _) hq_.symm) hx184_1));(try (replace hx184_2:=Eq.trans (congrArg (fun w_ : World => w_.cell? _) hq_.symm) hx184_2));(try (replace hx184_3:=Eq.trans (congrArg (fun w_ : World => w_.cell? _) hq_.symm) hx184_3));(try (replace hx183_0:=Eq.trans (congrArg (fun w_ : World => w_.cell? _) hq_.symm) hx183_0));(try (replace hx183_3:=Eq.trans (congrArg (fun w_ : World => w_.cell? _) hq_.symm) hx183_3));(try (replace hx185_0:=Eq.trans (congrArg (fun w_ : World => w_.cell? _) hq_.symm) hx185_0));(try (replace hx186_0:=Eq.trans (congrArg (fun w_ : World => w_.cell? _) hq_.symm) hx186_0));(try (replace hx187_0:=Eq.trans (congrArg (fun w_ : World => w_.cell? _) hq_.symm) hx187_0));(try (replace hx182_0:=Eq.trans (congrArg (fun w_ : World => w_.cell? _) hq_.symm) hx182_0));(try (replace hx34_0:=Eq.trans (congrArg (fun w_ : World => w_.cell? _) hq_.symm) hx34_0));(try (replace hf34_0:=Eq.trans (congrArg (fun w_ : World => w_.frozen? _) hq_.symm) hf34_0));(try (replace hx189_0:=Eq.trans (congrArg (fun w_ : World => w_.cell? _) hq_.symm) hx189_0));clear hq_ HO_4 HO_5 HO_6 HO_7 BK170 HB;have HO_4:=n0_;have HO_5:=n1_;have HO_6:=n2_;have HO_7:=n3_;have BK170:=n4_;have HB:=n5_;clear n0_ n1_ n2_ n3_ n4_ n5_;(try (have HP43:=Kd.R_putg HO_7.out (x8_3 : Int) (wrap64 ((rd x7_3 x8_3) + 1))))));refine store_event (t:=3) (p:=61) (v:=?vo_w44) (w1:=(wr.setCell ⟨go34,(x8_3 : Int).toNat,none⟩ (.int .i64 (wrap64 ((rd x7_3 x8_3) + 1))))) ?hg ?ho ?hn ?hr ?_;(case ho => rfl);(case hg => rfl);(case hn => rfl);(case hr => first|(go_simp;done)|(go_simp;rfl));intro w44 hw;have hg : wr.grownBy w44 (some go34):=(by rw [hw];exact HP43.2);have hp_ : Kd.R (Kd.int .i64) 3 w44 w.heap.size (fun k_ => some k_ ≠ (u4 : Value).ownBlock ∧ some k_ ≠ (.slice (some ad181) x5_2.length co28 : Value).ownBlock) (.slice (some ⟨go34,0,none⟩) x7_3.length co41) y188:=(by rw [hw,Ny188.out];exact HP43.1);clear HP43;have n0_:=Aside0.mk (Kd.R_after (v:=(.slice (some ⟨go34,0,none⟩) x7_3.length co41)) (v1:=(.slice (some ⟨go34,0,none⟩) x7_3.length co41)) (ok:=(fun k_ => some k_ ≠ (.slice (some ad181) x5_2.length co28 : Value).ownBlock)) (YR HO_4) hg (.inl rfl));have n1_:=Aside0.mk (Kd.R_after (v:=(.slice (some ⟨go34,0,none⟩) x7_3.length co41)) (v1:=(.slice (some ⟨go34,0,none⟩) x7_3.length co41)) (ok:=(fun k_ => some k_ ≠ (u4 : Value).ownBlock)) (YR HO_5) hg (.inl rfl));have n2_:=Aside0.mk (Kd.R_over' (v:=(.slice (some ⟨go34,0,none⟩) x7_3.length co41)) (YR HO_6) (Kd.R_typed HO_7.out) (by decide) hg);have n3_:=Aside0.mk (hp_);have n4_:=Aside0.mk (Z89 (YK BK170) hg (Kd.R_ne HO_7.out BK170.out (by decide)));have n5_:=Aside0.mk ((by rw [hw];exact Z8 (HB.out) GB34.out : Below w.heap.size w w44));clear HO_4;clear HO_5;clear HO_6;clear HO_7;clear BK170;clear HB;have HO_4:=n0_;have HO_5:=n1_;have HO_6:=n2_;have HO_7:=n3_;have BK170:=n4_;have HB:=n5_;clear n0_ n1_ n2_ n3_ n4_ n5_;clear hg hw hp_;have p189 : 0 ≤ ((rd ((rd_T45 l0_4 x8_3).f3) (rd x7_3 x8_3)) : Int):=YA;have q189 : (rd ((rd_T45 l0_4 x8_3).f3) (rd x7_3 x8_3)) < (y177.length : Int):=YA;obtain ⟨ad189,e189,hx189_0⟩:=Kd.at_bool (Kd.R_reads' HO_6.out).2.2 (rd ((rd_T45 l0_4 x8_3).f3) (rd x7_3 x8_3)) p189 q189;(try rw [← Nbq39.out] at hx189_0);obtain rfl : (⟨go20,0,none⟩ : Addr) = ad189:=(by injection e189);(first|simp only [add_plain] at hx189_0|simp only [add_at] at hx189_0|simp only [Addr.add,Nat.zero_add] at hx189_0|skip);replace p189:=eq_true p189;replace q189:=eq_true q189)))
                                     go_roundg k3
                                     case measure => have:=HK2.out;have:=HK3.out;omega
                                     case rel => exact ⟨(y188),(x8_3),(by first|rfl|(simp;done)|(simp [*];done)),H',⟨by have:=HK2.out;have:=HK3.out;omega⟩,⟨YR HO_4⟩,⟨YR HO_5⟩,⟨YR HO_6⟩,⟨YR HO_7⟩,⟨YK BK170⟩,⟨YH⟩⟩
                                   · replace c40:=Bool.eq_false_iff.mpr c40
                                     subst c40;have H1 : (order_Postorder.l0 k3 (l0_4.length : Int) x4_2 x5_2 y177 y188 (rd ((rd_T45 l0_4 x8_3).f3) (rd x7_3 x8_3)) a0_0 a0_1 a0_2 a0_3 l0_4) = some r:=by rw [if_neg (show ¬ (false = true) by decide)] at H;exact H
                                     clear H;have H:=H1
                                     clear H1;have H' := Aside0.mk H
                                     clear H;obtain ⟨Ao45,co45,eo45⟩:=Kd.R_slice HO_7.out
                                     subst eo45;have p182 : 0 ≤ (x8_3 : Int):=YA
                                     have q182 : x8_3 < (x7_3.length : Int):=YA
                                     obtain ⟨ad182,e182,hx182_0⟩:=Kd.at_int (Kd.R_reads' HO_7.out).2.2 x8_3 p182 q182
                                     cases e182;replace p182:=eq_true p182
                                     replace q182:=eq_true q182
                                     have hcz46_4 : wr.cell? ⟨gb170,4,none⟩ = some (.slice A0_4 l0_4.length c0_4):=(Z5 BK170.out 4).trans rfl
                                     have p183 : 0 ≤ (x8_3 : Int):=YA
                                     have q183 : x8_3 < (l0_4.length : Int):=YA
                                     obtain ⟨ad183,A183_0,c183_0,A183_3,c183_3,e183,hx183_0,hx183_1,hx183_2,hx183_3,hl183_0,hi183_0,hl183_3,hi183_3⟩:=at_T45 HR0_4.out x8_3 p183 q183
                                     cases e183;replace hx183_0:=(HB.out.cell (World.block_lt_of_cell? w _ hx183_0)).trans hx183_0
                                     replace hx183_1:=(HB.out.cell (World.block_lt_of_cell? w _ hx183_1)).trans hx183_1
                                     replace hx183_2:=(HB.out.cell (World.block_lt_of_cell? w _ hx183_2)).trans hx183_2
                                     replace hx183_3:=(HB.out.cell (World.block_lt_of_cell? w _ hx183_3)).trans hx183_3
                                     clear hi183_0 hl183_0;have HR183_3:=Aside0.mk hi183_3
                                     clear hi183_3 hl183_3;replace p183:=eq_true p183
                                     replace q183:=eq_true q183
                                     have p184 : 0 ≤ (x8_3 : Int):=YA
                                     have q184 : x8_3 < (l0_4.length : Int):=YA
                                     obtain ⟨ad184,A184_0,c184_0,A184_3,c184_3,e184,hx184_0,hx184_1,hx184_2,hx184_3,hl184_0,hi184_0,hl184_3,hi184_3⟩:=at_T45 HR0_4.out x8_3 p184 q184
                                     obtain rfl : ad183 = ad184:=(by injection e184)
                                     replace hx184_0:=(HB.out.cell (World.block_lt_of_cell? w _ hx184_0)).trans hx184_0
                                     replace hx184_1:=(HB.out.cell (World.block_lt_of_cell? w _ hx184_1)).trans hx184_1
                                     replace hx184_2:=(HB.out.cell (World.block_lt_of_cell? w _ hx184_2)).trans hx184_2
                                     replace hx184_3:=(HB.out.cell (World.block_lt_of_cell? w _ hx184_3)).trans hx184_3
                                     have HR184_0:=Aside0.mk hi184_0
                                     have HC184_0:=Aside0.mk hl184_0
                                     clear hi184_0 hl184_0;have HR184_3:=Aside0.mk hi184_3
                                     have HC184_3:=Aside0.mk hl184_3
                                     clear hi184_3 hl184_3;replace p184:=eq_true p184
                                     replace q184:=eq_true q184
                                     have ea_:=Option.some.inj (hx183_0.symm.trans hx184_0)
                                     injection ea_ with ea_ en_ ec_
                                     subst ea_;subst ec_;clear en_;have ea_:=Option.some.inj (hx183_3.symm.trans hx184_3)
                                     injection ea_ with ea_ en_ ec_
                                     subst ea_;subst ec_;clear en_;have p185 : 0 ≤ (x8_3 : Int):=YA
                                     have q185 : x8_3 < (x7_3.length : Int):=YA
                                     obtain ⟨ad185,e185,hx185_0⟩:=Kd.at_int (Kd.R_reads' HO_7.out).2.2 x8_3 p185 q185
                                     obtain rfl : ad182 = ad185:=(by injection e185)
                                     replace p185:=eq_true p185
                                     replace q185:=eq_true q185
                                     have p186 : 0 ≤ ((rd x7_3 x8_3) : Int):=YA
                                     have q186 : (rd x7_3 x8_3) < (((rd_T45 l0_4 x8_3).f3).length : Int):=YA
                                     obtain ⟨ad186,e186,hx186_0⟩:=Kd.at_int HR184_3.out (rd x7_3 x8_3) p186 q186
                                     cases e186;replace hx186_0:=(HB.out.cell (World.block_lt_of_cell? w _ hx186_0)).trans hx186_0
                                     replace p186:=eq_true p186
                                     replace q186:=eq_true q186
                                     have p187 : 0 ≤ (x8_3 : Int):=YA
                                     have q187 : x8_3 < (x7_3.length : Int):=YA
                                     obtain ⟨ad187,e187,hx187_0⟩:=Kd.at_int (Kd.R_reads' HO_7.out).2.2 x8_3 p187 q187
                                     obtain rfl : ad182 = ad187:=(by injection e187)
                                     replace p187:=eq_true p187
                                     replace q187:=eq_true q187
                                     have p34 : 0 ≤ (x8_3 : Int):=YA
                                     have q34 : (x8_3 : Int) < ((x7_3.length : Int) : Int):=YA
                                     obtain ⟨go34,co34,eo34,gb34,gl34,cl34,HG34⟩:=Kd.R_form HO_7.out (by omega)
                                     (first|cases eo34|(injection eo34 with ea_ en_ ec_;(first|subst ea_|(injection ea_ with ea_;subst ea_));subst ec_;clear en_));have GB34:=Aside0.mk gb34
                                     have GG34:=Aside0.mk HG34
                                     clear gb34 gl34 HG34;(first|simp only [add_plain] at hx182_0|skip);(first|simp only [add_plain] at hx185_0|skip);(first|simp only [add_plain] at hx187_0|skip);obtain ⟨hx34_0,hf34_0⟩:=Kd.R_celln 0 HO_7.out (x8_3 : Int) p34 q34
                                     replace p34:=eq_true p34
                                     replace q34:=eq_true q34
                                     have HP47:=Kd.R_putg HO_7.out (x8_3 : Int) (wrap64 ((rd x7_3 x8_3) + 1))
                                     go_wp2_with (first|((with_reducible refine gate_store (t:=3) (p:=61) rfl ?_);(try (rw [Z43 wr];generalize hq_ : World.drewN wr _ = wr;have n0_:=Aside0.mk (Kd.R_at hq_ HO_4.out);have n1_:=Aside0.mk (Kd.R_at hq_ HO_5.out);have n2_:=Aside0.mk (Kd.R_at hq_ HO_6.out);have n3_:=Aside0.mk (Kd.R_at hq_ HO_7.out);have n4_:=Aside0.mk (blk_at hq_ BK170.out);have n5_:=Aside0.mk (below_at hq_ HB.out);(try (replace hx184_0:=Eq.trans (congrArg (fun w_ : World => w_.cell? _) hq_.symm) hx184_0));(try (replace hx184_1:=Eq.trans (congrArg (fun w_ : World => w_.cell? _) hq_.symm) hx184_1));(try (replace hx184_2:=Eq.trans (congrArg (fun w_ : World => w_.cell? _) hq_.symm) hx184_2));(try (replace hx184_3:=Eq.trans (congrArg (fun w_ : World => w_.cell? _) hq_.symm) hx184_3));(try (replace hx183_0:=Eq.trans (congrArg (fun w_ : World => w_.cell? _) hq_.symm) hx183_0));(try (replace hx183_3:=Eq.trans (congrArg (fun w_ : World => w_.cell? _) hq_.symm) hx183_3));(try (replace hx185_0:=Eq.trans (congrArg (fun w_ : World => w_.cell? _) hq_.symm) hx185_0));(try (replace hx186_0:=Eq.trans (congrArg (fun w_ : World => w_.cell? _) hq_.symm) hx186_0));(try (replace hx187_0:=Eq.trans (congrArg (fun w_ : World => w_.cell? _) hq_.symm) hx187_0));(try (replace hx182_0:=Eq.trans (congrArg (fun w_ : World => w_.cell? _) hq_.symm) hx182_0));(try (replace hx34_0:=Eq.trans (congrArg (fun w_ : World => w_.cell? _) hq_.symm) hx34_0));(try (replace hf34_0:=Eq.trans (congrArg (fun w_ : World => w_.frozen? _) hq_.symm) hf34_0));clear hq_ HO_4 HO_5 HO_6 HO_7 BK170 HB;have HO_4:=n0_;have HO_5:=n1_;have HO_6:=n2_;have HO_7:=n3_;have BK170:=n4_;have HB:=n5_;clear n0_ n1_ n2_ n3_ n4_ n5_;(try (have HP47:=Kd.R_putg HO_7.out (x8_3 : Int) (wrap64 ((rd x7_3 x8_3) + 1))))));refine store_event (t:=3) (p:=61) (v:=?vo_w48) (w1:=(wr.setCell ⟨go34,(x8_3 : Int).toNat,none⟩ (.int .i64 (wrap64 ((rd x7_3 x8_3) + 1))))) ?hg ?ho ?hn ?hr ?_;(case ho => rfl);(case hg => rfl);(case hn => rfl);(case hr => first|(go_simp;done)|(go_simp;rfl));intro w48 hw;have hg : wr.grownBy w48 (some go34):=(by rw [hw];exact HP47.2);have hp_ : Kd.R (Kd.int .i64) 3 w48 w.heap.size (fun k_ => some k_ ≠ (u4 : Value).ownBlock ∧ some k_ ≠ (.slice (some ad181) x5_2.length co28 : Value).ownBlock) (.slice (some ⟨go34,0,none⟩) x7_3.length co45) y188:=(by rw [hw,Ny188.out];exact HP47.1);clear HP47;have n0_:=Aside0.mk (Kd.R_after (v:=(.slice (some ⟨go34,0,none⟩) x7_3.length co45)) (v1:=(.slice (some ⟨go34,0,none⟩) x7_3.length co45)) (ok:=(fun k_ => some k_ ≠ (.slice (some ad181) x5_2.length co28 : Value).ownBlock)) (YR HO_4) hg (.inl rfl));have n1_:=Aside0.mk (Kd.R_after (v:=(.slice (some ⟨go34,0,none⟩) x7_3.length co45)) (v1:=(.slice (some ⟨go34,0,none⟩) x7_3.length co45)) (ok:=(fun k_ => some k_ ≠ (u4 : Value).ownBlock)) (YR HO_5) hg (.inl rfl));have n2_:=Aside0.mk (Kd.R_over' (v:=(.slice (some ⟨go34,0,none⟩) x7_3.length co45)) (YR HO_6) (Kd.R_typed HO_7.out) (by decide) hg);have n3_:=Aside0.mk (hp_);have n4_:=Aside0.mk (Z89 (YK BK170) hg (Kd.R_ne HO_7.out BK170.out (by decide)));have n5_:=Aside0.mk ((by rw [hw];exact Z8 (HB.out) GB34.out : Below w.heap.size w w48));clear HO_4;clear HO_5;clear HO_6;clear HO_7;clear BK170;clear HB;have HO_4:=n0_;have HO_5:=n1_;have HO_6:=n2_;have HO_7:=n3_;have BK170:=n4_;have HB:=n5_;clear n0_ n1_ n2_ n3_ n4_ n5_;clear hg hw hp_;have p189 : 0 ≤ ((rd ((rd_T45 l0_4 x8_3).f3) (rd x7_3 x8_3)) : Int):=YA;have q189 : (rd ((rd_T45 l0_4 x8_3).f3) (rd x7_3 x8_3)) < (y177.length : Int):=YA;obtain ⟨ad189,e189,hx189_0⟩:=Kd.at_bool (Kd.R_reads' HO_6.out).2.2 (rd ((rd_T45 l0_4 x8_3).f3) (rd x7_3 x8_3)) p189 q189;(try rw [← Nbq39.out] at hx189_0);obtain rfl : (⟨go20,0,none⟩ : Addr) = ad189:=(by injection e189);(first|simp only [add_plain] at hx189_0|simp only [add_at] at hx189_0|simp only [Addr.add,Nat.zero_add] at hx189_0|skip);replace p189:=eq_true p189;replace q189:=eq_true q189))
                                     repeat (go_quiet (first|((with_reducible refine gate_store (t:=3) (p:=61) rfl ?_);(try (rw [Z43 wr];generalize hq_ : World.drewN wr _ = wr;have n0_:=Aside0.mk (Kd.R_at hq_ HO_4.out);have n1_:=Aside0.mk (Kd.R_at hq_ HO_5.out);have n2_:=Aside0.mk (Kd.R_at hq_ HO_6.out);have n3_:=Aside0.mk (Kd.R_at hq_ HO_7.out);have n4_:=Aside0.mk (blk_at hq_ BK170.out);have n5_:=Aside0.mk (below_at hq_ HB.out);(try (replace hx184_0:=Eq.trans (congrArg (fun w_ : World => w_.cell? _) hq_.symm) hx184_0));(try (replace hx184_1:=Eq.trans (congrArg (fun w_ : World => w_.cell? _) hq_.symm) hx184_1));(try (replace hx184_2:=Eq.trans (congrArg (fun w_ : World => w_.cell? _) hq_.symm) hx184_2));(try (replace hx184_3:=Eq.trans (congrArg (fun w_ : World => w_.cell? _) hq_.symm) hx184_3));(try (replace hx183_0:=Eq.trans (congrArg (fun w_ : World => w_.cell? _) hq_.symm) hx183_0));(try (replace hx183_3:=Eq.trans (congrArg (fun w_ : World => w_.cell? _) hq_.symm) hx183_3));(try (replace hx185_0:=Eq.trans (congrArg (fun w_ : World => w_.cell? _) hq_.symm) hx185_0));(try (replace hx186_0:=Eq.trans (congrArg (fun w_ : World => w_.cell? _) hq_.symm) hx186_0));(try (replace hx187_0:=Eq.trans (congrArg (fun w_ : World => w_.cell? _) hq_.symm) hx187_0));(try (replace hx182_0:=Eq.trans (congrArg (fun w_ : World => w_.cell? _) hq_.symm) hx182_0));(try (replace hx34_0:=Eq.trans (congrArg (fun w_ : World => w_.cell? _) hq_.symm) hx34_0));(try (replace hf34_0:=Eq.trans (congrArg (fun w_ : World => w_.frozen? _) hq_.symm) hf34_0));(try (replace hx189_0:=Eq.trans (congrArg (fun w_ : World => w_.cell? _) hq_.symm) hx189_0));clear hq_ HO_4 HO_5 HO_6 HO_7 BK170 HB;have HO_4:=n0_;have HO_5:=n1_;have HO_6:=n2_;have HO_7:=n3_;have BK170:=n4_;have HB:=n5_;clear n0_ n1_ n2_ n3_ n4_ n5_;(try (have HP47:=Kd.R_putg HO_7.out (x8_3 : Int) (wrap64 ((rd x7_3 x8_3) + 1))))));refine store_event (t:=3) (p:=61) (v:=?vo_w48) (w1:=(wr.setCell ⟨go34,(x8_3 : Int).toNat,none⟩ (.int .i64 (wrap64 ((rd x7_3 x8_3) + 1))))) ?hg ?ho ?hn ?hr ?_;(case ho => rfl);(case hg => rfl);(case hn => rfl);(case hr => first|(go_simp;done)|(go_simp;rfl));intro w48 hw;have hg : wr.grownBy w48 (some go34):=(by rw [hw];exact HP47.2);have hp_ : Kd.R (Kd.int .i64) 3 w48 w.heap.size (fun k_ => some k_ ≠ (u4 : Value).ownBlock ∧ some k_ ≠ (.slice (some ad181) x5_2.length co28 : Value).ownBlock) (.slice (some ⟨go34,0,none⟩) x7_3.length co45) y188:=(by rw [hw,Ny188.out];exact HP47.1);clear HP47;have n0_:=Aside0.mk (Kd.R_after (v:=(.slice (some ⟨go34,0,none⟩) x7_3.length co45)) (v1:=(.slice (some ⟨go34,0,none⟩) x7_3.length co45)) (ok:=(fun k_ => some k_ ≠ (.slice (some ad181) x5_2.length co28 : Value).ownBlock)) (YR HO_4) hg (.inl rfl));have n1_:=Aside0.mk (Kd.R_after (v:=(.slice (some ⟨go34,0,none⟩) x7_3.length co45)) (v1:=(.slice (some ⟨go34,0,none⟩) x7_3.length co45)) (ok:=(fun k_ => some k_ ≠ (u4 : Value).ownBlock)) (YR HO_5) hg (.inl rfl));have n2_:=Aside0.mk (Kd.R_over' (v:=(.slice (some ⟨go34,0,none⟩) x7_3.length co45)) (YR HO_6) (Kd.R_typed HO_7.out) (by decide) hg);have n3_:=Aside0.mk (hp_);have n4_:=Aside0.mk (Z89 (YK BK170) hg (Kd.R_ne HO_7.out BK170.out (by decide)));have n5_:=Aside0.mk ((by rw [hw];exact Z8 (HB.out) GB34.out : Below w.heap.size w w48));clear HO_4;clear HO_5;clear HO_6;clear HO_7;clear BK170;clear HB;have HO_4:=n0_;have HO_5:=n1_;have HO_6:=n2_;have HO_7:=n3_;have BK170:=n4_;have HB:=n5_;clear n0_ n1_ n2_ n3_ n4_ n5_;clear hg hw hp_;have p189 : 0 ≤ ((rd ((rd_T45 l0_4 x8_3).f3) (rd x7_3 x8_3)) : Int):=YA;have q189 : (rd ((rd_T45 l0_4 x8_3).f3) (rd x7_3 x8_3)) < (y177.length : Int):=YA;obtain ⟨ad189,e189,hx189_0⟩:=Kd.at_bool (Kd.R_reads' HO_6.out).2.2 (rd ((rd_T45 l0_4 x8_3).f3) (rd x7_3 x8_3)) p189 q189;(try rw [← Nbq39.out] at hx189_0);obtain rfl : (⟨go20,0,none⟩ : Addr) = ad189:=(by injection e189);(first|simp only [add_plain] at hx189_0|simp only [add_at] at hx189_0|simp only [Addr.add,Nat.zero_add] at hx189_0|skip);replace p189:=eq_true p189;replace q189:=eq_true q189));try go_wp2_with (first|((with_reducible refine gate_store (t:=3) (p:=61) rfl ?_);(try (rw [Z43 wr];generalize hq_ : World.drewN wr _ = wr;have n0_:=Aside0.mk (Kd.R_at hq_ HO_4.out);have n1_:=Aside0.mk (Kd.R_at hq_ HO_5.out);have n2_:=Aside0.mk (Kd.R_at hq_ HO_6.out);have n3_:=Aside0.mk (Kd.R_at hq_ HO_7.out);have n4_:=Aside0.mk (blk_at hq_ BK170.out);have n5_:=Aside0.mk (below_at hq_ HB.out);(try (replace hx184_0:=Eq.trans (congrArg (fun w_ : World => w_.cell? _) hq_.symm) hx184_0));(try (replace hx184_1:=Eq.trans (congrArg (fun w_ : World => w_.cell? _) hq_.symm) hx184_1));(try (replace hx184_2:=Eq.trans (congrArg (fun w_ : World => w_.cell? _) hq_.symm) hx184_2));(try (replace hx184_3:=Eq.trans (congrArg (fun w_ : World => w_.cell? _) hq_.symm) hx184_3));(try (replace hx183_0:=Eq.trans (congrArg (fun w_ : World => w_.cell? _) hq_.symm) hx183_0));(try (replace hx183_3:=Eq.trans (congrArg (fun w_ : World => w_.cell? _) hq_.symm) hx183_3));(try (replace hx185_0:=Eq.trans (congrArg (fun w_ : World => w_.cell? _) hq_.symm) hx185_0));(try (replace hx186_0:=Eq.trans (congrArg (fun w_ : World => w_.cell? _) hq_.symm) hx186_0));(try (replace hx187_0:=Eq.trans (congrArg (fun w_ : World => w_.cell? _) hq_.symm) hx187_0));(try (replace hx182_0:=Eq.trans (congrArg (fun w_ : World => w_.cell? _) hq_.symm) hx182_0));(try (replace hx34_0:=Eq.trans (congrArg (fun w_ : World => w_.cell? _) hq_.symm) hx34_0));(try (replace hf34_0:=Eq.trans (congrArg (fun w_ : World => w_.frozen? _) hq_.symm) hf34_0));(try (replace hx189_0:=Eq.trans (congrArg (fun w_ : World => w_.cell? _) hq_.symm) hx189_0));clear hq_ HO_4 HO_5 HO_6 HO_7 BK170 HB;have HO_4:=n0_;have HO_5:=n1_;have HO_6:=n2_;have HO_7:=n3_;have BK170:=n4_;have HB:=n5_;clear n0_ n1_ n2_ n3_ n4_ n5_;(try (have HP47:=Kd.R_putg HO_7.out (x8_3 : Int) (wrap64 ((rd x7_3 x8_3) + 1))))));refine store_event (t:=3) (p:=61) (v:=?vo_w48) (w1:=(wr.setCell ⟨go34,(x8_3 : Int).toNat,none⟩ (.int .i64 (wrap64 ((rd x7_3 x8_3) + 1))))) ?hg ?ho ?hn ?hr ?_;(case ho => rfl);(case hg => rfl);(case hn => rfl);(case hr => first|(go_simp;done)|(go_simp;rfl));intro w48 hw;have hg : wr.grownBy w48 (some go34):=(by rw [hw];exact HP47.2);have hp_ : Kd.R (Kd.int .i64) 3 w48 w.heap.size (fun k_ => some k_ ≠ (u4 : Value).ownBlock ∧ some k_ ≠ (.slice (some ad181) x5_2.length co28 : Value).ownBlock) (.slice (some ⟨go34,0,none⟩) x7_3.length co45) y188:=(by rw [hw,Ny188.out];exact HP47.1);clear HP47;have n0_:=Aside0.mk (Kd.R_after (v:=(.slice (some ⟨go34,0,none⟩) x7_3.length co45)) (v1:=(.slice (some ⟨go34,0,none⟩) x7_3.length co45)) (ok:=(fun k_ => some k_ ≠ (.slice (some ad181) x5_2.length co28 : Value).ownBlock)) (YR HO_4) hg (.inl rfl));have n1_:=Aside0.mk (Kd.R_after (v:=(.slice (some ⟨go34,0,none⟩) x7_3.length co45)) (v1:=(.slice (some ⟨go34,0,none⟩) x7_3.length co45)) (ok:=(fun k_ => some k_ ≠ (u4 : Value).ownBlock)) (YR HO_5) hg (.inl rfl));have n2_:=Aside0.mk (Kd.R_over' (v:=(.slice (some ⟨go34,0,none⟩) x7_3.length co45)) (YR HO_6) (Kd.R_typed HO_7.out) (by decide) hg);have n3_:=Aside0.mk (hp_);have n4_:=Aside0.mk (Z89 (YK BK170) hg (Kd.R_ne HO_7.out BK170.out (by decide)));have n5_:=Aside0.mk ((by rw [hw];exact Z8 (HB.out) GB34.out : Below w.heap.size w w48));clear HO_4;clear HO_5;clear HO_6;clear HO_7;clear BK170;clear HB;have HO_4:=n0_;have HO_5:=n1_;have HO_6:=n2_;have HO_7:=n3_;have BK170:=n4_;have HB:=n5_;clear n0_ n1_ n2_ n3_ n4_ n5_;clear hg hw hp_;have p189 : 0 ≤ ((rd ((rd_T45 l0_4 x8_3).f3) (rd x7_3 x8_3)) : Int):=YA;have q189 : (rd ((rd_T45 l0_4 x8_3).f3) (rd x7_3 x8_3)) < (y177.length : Int):=YA;obtain ⟨ad189,e189,hx189_0⟩:=Kd.at_bool (Kd.R_reads' HO_6.out).2.2 (rd ((rd_T45 l0_4 x8_3).f3) (rd x7_3 x8_3)) p189 q189;(try rw [← Nbq39.out] at hx189_0);obtain rfl : (⟨go20,0,none⟩ : Addr) = ad189:=(by injection e189);(first|simp only [add_plain] at hx189_0|simp only [add_at] at hx189_0|simp only [Addr.add,Nat.zero_add] at hx189_0|skip);replace p189:=eq_true p189;replace q189:=eq_true q189)))
                                     (try (refine wp_goto ?_));(try simp only [Exit.inBlock,Exit.then,two_goto0,two_goto1]);refine AK0.out k3 _ _ ?measure ?_;rotate_left;(repeat apply Exists.intro);refine ⟨?rel,rfl⟩;case measure => have:=HK2.out;have:=HK3.out;omega
                                     case rel => exact ⟨(x4_2),(x5_2),(y177),(y188),(rd ((rd_T45 l0_4 x8_3).f3) (rd x7_3 x8_3)),(by first|rfl|(simp;done)|(simp [*];done)),H',⟨by have:=HK2.out;have:=HK3.out;omega⟩,⟨YR HO_4⟩,⟨YR HO_5⟩,⟨YR HO_6⟩,⟨YR HO_7⟩,⟨YK BK170⟩,⟨YH⟩⟩
                                 · rw [if_neg c38] at H;exact absurd H (by simp)
                               · rw [if_neg c37] at H;exact absurd H (by simp)
                             · rw [if_neg c36] at H;have c36b0 : decide ((rd ((rd_T45 l0_4 x8_3).f3) (rd x7_3 x8_3)) < (l0_4.length : Int)) = false:=decide_eq_false c36
                               clear c36;have H' := Aside0.mk H
                               clear H;obtain ⟨Ao49,co49,eo49⟩:=Kd.R_slice HO_7.out
                               subst eo49;have p182 : 0 ≤ (x8_3 : Int):=YA
                               have q182 : x8_3 < (x7_3.length : Int):=YA
                               obtain ⟨ad182,e182,hx182_0⟩:=Kd.at_int (Kd.R_reads' HO_7.out).2.2 x8_3 p182 q182
                               cases e182;replace p182:=eq_true p182
                               replace q182:=eq_true q182
                               have hcz50_4 : wr.cell? ⟨gb170,4,none⟩ = some (.slice A0_4 l0_4.length c0_4):=(Z5 BK170.out 4).trans rfl
                               have p183 : 0 ≤ (x8_3 : Int):=YA
                               have q183 : x8_3 < (l0_4.length : Int):=YA
                               obtain ⟨ad183,A183_0,c183_0,A183_3,c183_3,e183,hx183_0,hx183_1,hx183_2,hx183_3,hl183_0,hi183_0,hl183_3,hi183_3⟩:=at_T45 HR0_4.out x8_3 p183 q183
                               cases e183;replace hx183_0:=(HB.out.cell (World.block_lt_of_cell? w _ hx183_0)).trans hx183_0
                               replace hx183_1:=(HB.out.cell (World.block_lt_of_cell? w _ hx183_1)).trans hx183_1
                               replace hx183_2:=(HB.out.cell (World.block_lt_of_cell? w _ hx183_2)).trans hx183_2
                               replace hx183_3:=(HB.out.cell (World.block_lt_of_cell? w _ hx183_3)).trans hx183_3
                               clear hi183_0 hl183_0;have HR183_3:=Aside0.mk hi183_3
                               clear hi183_3 hl183_3;replace p183:=eq_true p183
                               replace q183:=eq_true q183
                               have p184 : 0 ≤ (x8_3 : Int):=YA
                               have q184 : x8_3 < (l0_4.length : Int):=YA
                               obtain ⟨ad184,A184_0,c184_0,A184_3,c184_3,e184,hx184_0,hx184_1,hx184_2,hx184_3,hl184_0,hi184_0,hl184_3,hi184_3⟩:=at_T45 HR0_4.out x8_3 p184 q184
                               obtain rfl : ad183 = ad184:=(by injection e184)
                               replace hx184_0:=(HB.out.cell (World.block_lt_of_cell? w _ hx184_0)).trans hx184_0
                               replace hx184_1:=(HB.out.cell (World.block_lt_of_cell? w _ hx184_1)).trans hx184_1
                               replace hx184_2:=(HB.out.cell (World.block_lt_of_cell? w _ hx184_2)).trans hx184_2
                               replace hx184_3:=(HB.out.cell (World.block_lt_of_cell? w _ hx184_3)).trans hx184_3
                               have HR184_0:=Aside0.mk hi184_0
                               have HC184_0:=Aside0.mk hl184_0
                               clear hi184_0 hl184_0;have HR184_3:=Aside0.mk hi184_3
                               have HC184_3:=Aside0.mk hl184_3
                               clear hi184_3 hl184_3;replace p184:=eq_true p184
                               replace q184:=eq_true q184
                               have ea_:=Option.some.inj (hx183_0.symm.trans hx184_0)
                               injection ea_ with ea_ en_ ec_
                               subst ea_;subst ec_;clear en_;have ea_:=Option.some.inj (hx183_3.symm.trans hx184_3)
                               injection ea_ with ea_ en_ ec_
                               subst ea_;subst ec_;clear en_;have p185 : 0 ≤ (x8_3 : Int):=YA
                               have q185 : x8_3 < (x7_3.length : Int):=YA
                               obtain ⟨ad185,e185,hx185_0⟩:=Kd.at_int (Kd.R_reads' HO_7.out).2.2 x8_3 p185 q185
                               obtain rfl : ad182 = ad185:=(by injection e185)
                               replace p185:=eq_true p185
                               replace q185:=eq_true q185
                               have p186 : 0 ≤ ((rd x7_3 x8_3) : Int):=YA
                               have q186 : (rd x7_3 x8_3) < (((rd_T45 l0_4 x8_3).f3).length : Int):=YA
                               obtain ⟨ad186,e186,hx186_0⟩:=Kd.at_int HR184_3.out (rd x7_3 x8_3) p186 q186
                               cases e186;replace hx186_0:=(HB.out.cell (World.block_lt_of_cell? w _ hx186_0)).trans hx186_0
                               replace p186:=eq_true p186
                               replace q186:=eq_true q186
                               have p187 : 0 ≤ (x8_3 : Int):=YA
                               have q187 : x8_3 < (x7_3.length : Int):=YA
                               obtain ⟨ad187,e187,hx187_0⟩:=Kd.at_int (Kd.R_reads' HO_7.out).2.2 x8_3 p187 q187
                               obtain rfl : ad182 = ad187:=(by injection e187)
                               replace p187:=eq_true p187
                               replace q187:=eq_true q187
                               have p34 : 0 ≤ (x8_3 : Int):=YA
                               have q34 : (x8_3 : Int) < ((x7_3.length : Int) : Int):=YA
                               obtain ⟨go34,co34,eo34,gb34,gl34,cl34,HG34⟩:=Kd.R_form HO_7.out (by omega)
                               (first|cases eo34|(injection eo34 with ea_ en_ ec_;(first|subst ea_|(injection ea_ with ea_;subst ea_));subst ec_;clear en_));have GB34:=Aside0.mk gb34
                               have GG34:=Aside0.mk HG34
                               clear gb34 gl34 HG34;(first|simp only [add_plain] at hx182_0|skip);(first|simp only [add_plain] at hx185_0|skip);(first|simp only [add_plain] at hx187_0|skip);obtain ⟨hx34_0,hf34_0⟩:=Kd.R_celln 0 HO_7.out (x8_3 : Int) p34 q34
                               replace p34:=eq_true p34
                               replace q34:=eq_true q34
                               have HP51:=Kd.R_putg HO_7.out (x8_3 : Int) (wrap64 ((rd x7_3 x8_3) + 1))
                               go_wp2_with (first|((with_reducible refine gate_store (t:=3) (p:=61) rfl ?_);(try (rw [Z43 wr];generalize hq_ : World.drewN wr _ = wr;have n0_:=Aside0.mk (Kd.R_at hq_ HO_4.out);have n1_:=Aside0.mk (Kd.R_at hq_ HO_5.out);have n2_:=Aside0.mk (Kd.R_at hq_ HO_6.out);have n3_:=Aside0.mk (Kd.R_at hq_ HO_7.out);have n4_:=Aside0.mk (blk_at hq_ BK170.out);have n5_:=Aside0.mk (below_at hq_ HB.out);(try (replace hx184_0:=Eq.trans (congrArg (fun w_ : World => w_.cell? _) hq_.symm) hx184_0));(try (replace hx184_1:=Eq.trans (congrArg (fun w_ : World => w_.cell? _) hq_.symm) hx184_1));(try (replace hx184_2:=Eq.trans (congrArg (fun w_ : World => w_.cell? _) hq_.symm) hx184_2));(try (replace hx184_3:=Eq.trans (congrArg (fun w_ : World => w_.cell? _) hq_.symm) hx184_3));(try (replace hx183_0:=Eq.trans (congrArg (fun w_ : World => w_.cell? _) hq_.symm) hx183_0));(try (replace hx183_3:=Eq.trans (congrArg (fun w_ : World => w_.cell? _) hq_.symm) hx183_3));(try (replace hx185_0:=Eq.trans (congrArg (fun w_ : World => w_.cell? _) hq_.symm) hx185_0));(try (replace hx186_0:=Eq.trans (congrArg (fun w_ : World => w_.cell? _) hq_.symm) hx186_0));(try (replace hx187_0:=Eq.trans (congrArg (fun w_ : World => w_.cell? _) hq_.symm) hx187_0));(try (replace hx182_0:=Eq.trans (congrArg (fun w_ : World => w_.cell? _) hq_.symm) hx182_0));(try (replace hx34_0:=Eq.trans (congrArg (fun w_ : World => w_.cell? _) hq_.symm) hx34_0));(try (replace hf34_0:=Eq.trans (congrArg (fun w_ : World => w_.frozen? _) hq_.symm) hf34_0));clear hq_ HO_4 HO_5 HO_6 HO_7 BK170 HB;have HO_4:=n0_;have HO_5:=n1_;have HO_6:=n2_;have HO_7:=n3_;have BK170:=n4_;have HB:=n5_;clear n0_ n1_ n2_ n3_ n4_ n5_;(try (have HP51:=Kd.R_putg HO_7.out (x8_3 : Int) (wrap64 ((rd x7_3 x8_3) + 1))))));refine store_event (t:=3) (p:=61) (v:=?vo_w52) (w1:=(wr.setCell ⟨go34,(x8_3 : Int).toNat,none⟩ (.int .i64 (wrap64 ((rd x7_3 x8_3) + 1))))) ?hg ?ho ?hn ?hr ?_;(case ho => rfl);(case hg => rfl);(case hn => rfl);(case hr => first|(go_simp;done)|(go_simp;rfl));intro w52 hw;have hg : wr.grownBy w52 (some go34):=(by rw [hw];exact HP51.2);have hp_ : Kd.R (Kd.int .i64) 3 w52 w.heap.size (fun k_ => some k_ ≠ (u4 : Value).ownBlock ∧ some k_ ≠ (.slice (some ad181) x5_2.length co28 : Value).ownBlock) (.slice (some ⟨go34,0,none⟩) x7_3.length co49) y188:=(by rw [hw,Ny188.out];exact HP51.1);clear HP51;have n0_:=Aside0.mk (Kd.R_after (v:=(.slice (some ⟨go34,0,none⟩) x7_3.length co49)) (v1:=(.slice (some ⟨go34,0,none⟩) x7_3.length co49)) (ok:=(fun k_ => some k_ ≠ (.slice (some ad181) x5_2.length co28 : Value).ownBlock)) (YR HO_4) hg (.inl rfl));have n1_:=Aside0.mk (Kd.R_after (v:=(.slice (some ⟨go34,0,none⟩) x7_3.length co49)) (v1:=(.slice (some ⟨go34,0,none⟩) x7_3.length co49)) (ok:=(fun k_ => some k_ ≠ (u4 : Value).ownBlock)) (YR HO_5) hg (.inl rfl));have n2_:=Aside0.mk (Kd.R_over' (v:=(.slice (some ⟨go34,0,none⟩) x7_3.length co49)) (YR HO_6) (Kd.R_typed HO_7.out) (by decide) hg);have n3_:=Aside0.mk (hp_);have n4_:=Aside0.mk (Z89 (YK BK170) hg (Kd.R_ne HO_7.out BK170.out (by decide)));have n5_:=Aside0.mk ((by rw [hw];exact Z8 (HB.out) GB34.out : Below w.heap.size w w52));clear HO_4;clear HO_5;clear HO_6;clear HO_7;clear BK170;clear HB;have HO_4:=n0_;have HO_5:=n1_;have HO_6:=n2_;have HO_7:=n3_;have BK170:=n4_;have HB:=n5_;clear n0_ n1_ n2_ n3_ n4_ n5_;clear hg hw hp_))
                               repeat (go_quiet (first|((with_reducible refine gate_store (t:=3) (p:=61) rfl ?_);(try (rw [Z43 wr];generalize hq_ : World.drewN wr _ = wr;have n0_:=Aside0.mk (Kd.R_at hq_ HO_4.out);have n1_:=Aside0.mk (Kd.R_at hq_ HO_5.out);have n2_:=Aside0.mk (Kd.R_at hq_ HO_6.out);have n3_:=Aside0.mk (Kd.R_at hq_ HO_7.out);have n4_:=Aside0.mk (blk_at hq_ BK170.out);have n5_:=Aside0.mk (below_at hq_ HB.out);(try (replace hx184_0:=Eq.trans (congrArg (fun w_ : World => w_.cell? _) hq_.symm) hx184_0));(try (replace hx184_1:=Eq.trans (congrArg (fun w_ : World => w_.cell? _) hq_.symm) hx184_1));(try (replace hx184_2:=Eq.trans (congrArg (fun w_ : World => w_.cell? _) hq_.symm) hx184_2));(try (replace hx184_3:=Eq.trans (congrArg (fun w_ : World => w_.cell? _) hq_.symm) hx184_3));(try (replace hx183_0:=Eq.trans (congrArg (fun w_ : World => w_.cell? _) hq_.symm) hx183_0));(try (replace hx183_3:=Eq.trans (congrArg (fun w_ : World => w_.cell? _) hq_.symm) hx183_3));(try (replace hx185_0:=Eq.trans (congrArg (fun w_ : World => w_.cell? _) hq_.symm) hx185_0));(try (replace hx186_0:=Eq.trans (congrArg (fun w_ : World => w_.cell? _) hq_.symm) hx186_0));(try (replace hx187_0:=Eq.trans (congrArg (fun w_ : World => w_.cell? _) hq_.symm) hx187_0));(try (replace hx182_0:=Eq.trans (congrArg (fun w_ : World => w_.cell? _) hq_.symm) hx182_0));(try (replace hx34_0:=Eq.trans (congrArg (fun w_ : World => w_.cell? _) hq_.symm) hx34_0));(try (replace hf34_0:=Eq.trans (congrArg (fun w_ : World => w_.frozen? _) hq_.symm) hf34_0));clear hq_ HO_4 HO_5 HO_6 HO_7 BK170 HB;have HO_4:=n0_;have HO_5:=n1_;have HO_6:=n2_;have HO_7:=n3_;have BK170:=n4_;have HB:=n5_;clear n0_ n1_ n2_ n3_ n4_ n5_;(try (have HP51:=Kd.R_putg HO_7.out (x8_3 : Int) (wrap64 ((rd x7_3 x8_3) + 1))))));refine store_event (t:=3) (p:=61) (v:=?vo_w52) (w1:=(wr.setCell ⟨go34,(x8_3 : Int).toNat,none⟩ (.int .i64 (wrap64 ((rd x7_3 x8_3) + 1))))) ?hg ?ho ?hn ?hr ?_;(case ho => rfl);(case hg => rfl);(case hn => rfl);(case hr => first|(go_simp;done)|(go_simp;rfl));intro w52 hw;have hg : wr.grownBy w52 (some go34):=(by rw [hw];exact HP51.2);have hp_ : Kd.R (Kd.int .i64) 3 w52 w.heap.size (fun k_ => some k_ ≠ (u4 : Value).ownBlock ∧ some k_ ≠ (.slice (some ad181) x5_2.length co28 : Value).ownBlock) (.slice (some ⟨go34,0,none⟩) x7_3.length co49) y188:=(by rw [hw,Ny188.out];exact HP51.1);clear HP51;have n0_:=Aside0.mk (Kd.R_after (v:=(.slice (some ⟨go34,0,none⟩) x7_3.length co49)) (v1:=(.slice (some ⟨go34,0,none⟩) x7_3.length co49)) (ok:=(fun k_ => some k_ ≠ (.slice (some ad181) x5_2.length co28 : Value).ownBlock)) (YR HO_4) hg (.inl rfl));have n1_:=Aside0.mk (Kd.R_after (v:=(.slice (some ⟨go34,0,none⟩) x7_3.length co49)) (v1:=(.slice (some ⟨go34,0,none⟩) x7_3.length co49)) (ok:=(fun k_ => some k_ ≠ (u4 : Value).ownBlock)) (YR HO_5) hg (.inl rfl));have n2_:=Aside0.mk (Kd.R_over' (v:=(.slice (some ⟨go34,0,none⟩) x7_3.length co49)) (YR HO_6) (Kd.R_typed HO_7.out) (by decide) hg);have n3_:=Aside0.mk (hp_);have n4_:=Aside0.mk (Z89 (YK BK170) hg (Kd.R_ne HO_7.out BK170.out (by decide)));have n5_:=Aside0.mk ((by rw [hw];exact Z8 (HB.out) GB34.out : Below w.heap.size w w52));clear HO_4;clear HO_5;clear HO_6;clear HO_7;clear BK170;clear HB;have HO_4:=n0_;have HO_5:=n1_;have HO_6:=n2_;have HO_7:=n3_;have BK170:=n4_;have HB:=n5_;clear n0_ n1_ n2_ n3_ n4_ n5_;clear hg hw hp_));try go_wp2_with (first|((with_reducible refine gate_store (t:=3) (p:=61) rfl ?_);(try (rw [Z43 wr];generalize hq_ : World.drewN wr _ = wr;have n0_:=Aside0.mk (Kd.R_at hq_ HO_4.out);have n1_:=Aside0.mk (Kd.R_at hq_ HO_5.out);have n2_:=Aside0.mk (Kd.R_at hq_ HO_6.out);have n3_:=Aside0.mk (Kd.R_at hq_ HO_7.out);have n4_:=Aside0.mk (blk_at hq_ BK170.out);have n5_:=Aside0.mk (below_at hq_ HB.out);(try (replace hx184_0:=Eq.trans (congrArg (fun w_ : World => w_.cell? _) hq_.symm) hx184_0));(try (replace hx184_1:=Eq.trans (congrArg (fun w_ : World => w_.cell? _) hq_.symm) hx184_1));(try (replace hx184_2:=Eq.trans (congrArg (fun w_ : World => w_.cell? _) hq_.symm) hx184_2));(try (replace hx184_3:=Eq.trans (congrArg (fun w_ : World => w_.cell? _) hq_.symm) hx184_3));(try (replace hx183_0:=Eq.trans (congrArg (fun w_ : World => w_.cell? _) hq_.symm) hx183_0));(try (replace hx183_3:=Eq.trans (congrArg (fun w_ : World => w_.cell? _) hq_.symm) hx183_3));(try (replace hx185_0:=Eq.trans (congrArg (fun w_ : World => w_.cell? _) hq_.symm) hx185_0));(try (replace hx186_0:=Eq.trans (congrArg (fun w_ : World => w_.cell? _) hq_.symm) hx186_0));(try (replace hx187_0:=Eq.trans (congrArg (fun w_ : World => w_.cell? _) hq_.symm) hx187_0));(try (replace hx182_0:=Eq.trans (congrArg (fun w_ : World => w_.cell? _) hq_.symm) hx182_0));(try (replace hx34_0:=Eq.trans (congrArg (fun w_ : World => w_.cell? _) hq_.symm) hx34_0));(try (replace hf34_0:=Eq.trans (congrArg (fun w_ : World => w_.frozen? _) hq_.symm) hf34_0));clear hq_ HO_4 HO_5 HO_6 HO_7 BK170 HB;have HO_4:=n0_;have HO_5:=n1_;have HO_6:=n2_;have HO_7:=n3_;have BK170:=n4_;have HB:=n5_;clear n0_ n1_ n2_ n3_ n4_ n5_;(try (have HP51:=Kd.R_putg HO_7.out (x8_3 : Int) (wrap64 ((rd x7_3 x8_3) + 1))))));refine store_event (t:=3) (p:=61) (v:=?vo_w52) (w1:=(wr.setCell ⟨go34,(x8_3 : Int).toNat,none⟩ (.int .i64 (wrap64 ((rd x7_3 x8_3) + 1))))) ?hg ?ho ?hn ?hr ?_;(case ho => rfl);(case hg => rfl);(case hn => rfl);(case hr => first|(go_simp;done)|(go_simp;rfl));intro w52 hw;have hg : wr.grownBy w52 (some go34):=(by rw [hw];exact HP51.2);have hp_ : Kd.R (Kd.int .i64) 3 w52 w.heap.size (fun k_ => some k_ ≠ (u4 : Value).ownBlock ∧ some k_ ≠ (.slice (some ad181) x5_2.length co28 : Value).ownBlock) (.slice (some ⟨go34,0,none⟩) x7_3.length co49) y188:=(by rw [hw,Ny188.out];exact HP51.1);clear HP51;have n0_:=Aside0.mk (Kd.R_after (v:=(.slice (some ⟨go34,0,none⟩) x7_3.length co49)) (v1:=(.slice (some ⟨go34,0,none⟩) x7_3.length co49)) (ok:=(fun k_ => some k_ ≠ (.slice (some ad181) x5_2.length co28 : Value).ownBlock)) (YR HO_4) hg (.inl rfl));have n1_:=Aside0.mk (Kd.R_after (v:=(.slice (some ⟨go34,0,none⟩) x7_3.length co49)) (v1:=(.slice (some ⟨go34,0,none⟩) x7_3.length co49)) (ok:=(fun k_ => some k_ ≠ (u4 : Value).ownBlock)) (YR HO_5) hg (.inl rfl));have n2_:=Aside0.mk (Kd.R_over' (v:=(.slice (some ⟨go34,0,none⟩) x7_3.length co49)) (YR HO_6) (Kd.R_typed HO_7.out) (by decide) hg);have n3_:=Aside0.mk (hp_);have n4_:=Aside0.mk (Z89 (YK BK170) hg (Kd.R_ne HO_7.out BK170.out (by decide)));have n5_:=Aside0.mk ((by rw [hw];exact Z8 (HB.out) GB34.out : Below w.heap.size w w52));clear HO_4;clear HO_5;clear HO_6;clear HO_7;clear BK170;clear HB;have HO_4:=n0_;have HO_5:=n1_;have HO_6:=n2_;have HO_7:=n3_;have BK170:=n4_;have HB:=n5_;clear n0_ n1_ n2_ n3_ n4_ n5_;clear hg hw hp_)))
                               go_roundg k3
                               case measure => have:=HK2.out;have:=HK3.out;omega
                               case rel => exact ⟨(y188),(x8_3),(by first|rfl|(simp;done)|(simp [*];done)),H',⟨by have:=HK2.out;have:=HK3.out;omega⟩,⟨YR HO_4⟩,⟨YR HO_5⟩,⟨YR HO_6⟩,⟨YR HO_7⟩,⟨YK BK170⟩,⟨YH⟩⟩
                           · rw [if_neg c35] at H;have c35b0 : decide (0 ≤ (rd ((rd_T45 l0_4 x8_3).f3) (rd x7_3 x8_3))) = false:=decide_eq_false c35
                             clear c35;have H' := Aside0.mk H
                             clear H;obtain ⟨Ao53,co53,eo53⟩:=Kd.R_slice HO_7.out
                             subst eo53;have p182 : 0 ≤ (x8_3 : Int):=YA
                             have q182 : x8_3 < (x7_3.length : Int):=YA
                             obtain ⟨ad182,e182,hx182_0⟩:=Kd.at_int (Kd.R_reads' HO_7.out).2.2 x8_3 p182 q182
                             cases e182;replace p182:=eq_true p182
                             replace q182:=eq_true q182
                             have hcz54_4 : wr.cell? ⟨gb170,4,none⟩ = some (.slice A0_4 l0_4.length c0_4):=(Z5 BK170.out 4).trans rfl
                             have p183 : 0 ≤ (x8_3 : Int):=YA
                             have q183 : x8_3 < (l0_4.length : Int):=YA
                             obtain ⟨ad183,A183_0,c183_0,A183_3,c183_3,e183,hx183_0,hx183_1,hx183_2,hx183_3,hl183_0,hi183_0,hl183_3,hi183_3⟩:=at_T45 HR0_4.out x8_3 p183 q183
                             cases e183;replace hx183_0:=(HB.out.cell (World.block_lt_of_cell? w _ hx183_0)).trans hx183_0
                             replace hx183_1:=(HB.out.cell (World.block_lt_of_cell? w _ hx183_1)).trans hx183_1
                             replace hx183_2:=(HB.out.cell (World.block_lt_of_cell? w _ hx183_2)).trans hx183_2
                             replace hx183_3:=(HB.out.cell (World.block_lt_of_cell? w _ hx183_3)).trans hx183_3
                             clear hi183_0 hl183_0;have HR183_3:=Aside0.mk hi183_3
                             clear hi183_3 hl183_3;replace p183:=eq_true p183
                             replace q183:=eq_true q183
                             have p184 : 0 ≤ (x8_3 : Int):=YA
                             have q184 : x8_3 < (l0_4.length : Int):=YA
                             obtain ⟨ad184,A184_0,c184_0,A184_3,c184_3,e184,hx184_0,hx184_1,hx184_2,hx184_3,hl184_0,hi184_0,hl184_3,hi184_3⟩:=at_T45 HR0_4.out x8_3 p184 q184
                             obtain rfl : ad183 = ad184:=(by injection e184)
                             replace hx184_0:=(HB.out.cell (World.block_lt_of_cell? w _ hx184_0)).trans hx184_0
                             replace hx184_1:=(HB.out.cell (World.block_lt_of_cell? w _ hx184_1)).trans hx184_1
                             replace hx184_2:=(HB.out.cell (World.block_lt_of_cell? w _ hx184_2)).trans hx184_2
                             replace hx184_3:=(HB.out.cell (World.block_lt_of_cell? w _ hx184_3)).trans hx184_3
                             have HR184_0:=Aside0.mk hi184_0
                             have HC184_0:=Aside0.mk hl184_0
                             clear hi184_0 hl184_0;have HR184_3:=Aside0.mk hi184_3
                             have HC184_3:=Aside0.mk hl184_3
                             clear hi184_3 hl184_3;replace p184:=eq_true p184
                             replace q184:=eq_true q184
                             have ea_:=Option.some.inj (hx183_0.symm.trans hx184_0)
                             injection ea_ with ea_ en_ ec_
                             subst ea_;subst ec_;clear en_;have ea_:=Option.some.inj (hx183_3.symm.trans hx184_3)
                             injection ea_ with ea_ en_ ec_
                             subst ea_;subst ec_;clear en_;have p185 : 0 ≤ (x8_3 : Int):=YA
                             have q185 : x8_3 < (x7_3.length : Int):=YA
                             obtain ⟨ad185,e185,hx185_0⟩:=Kd.at_int (Kd.R_reads' HO_7.out).2.2 x8_3 p185 q185
                             obtain rfl : ad182 = ad185:=(by injection e185)
                             replace p185:=eq_true p185
                             replace q185:=eq_true q185
                             have p186 : 0 ≤ ((rd x7_3 x8_3) : Int):=YA
                             have q186 : (rd x7_3 x8_3) < (((rd_T45 l0_4 x8_3).f3).length : Int):=YA
                             obtain ⟨ad186,e186,hx186_0⟩:=Kd.at_int HR184_3.out (rd x7_3 x8_3) p186 q186
                             cases e186;replace hx186_0:=(HB.out.cell (World.block_lt_of_cell? w _ hx186_0)).trans hx186_0
                             replace p186:=eq_true p186
                             replace q186:=eq_true q186
                             have p187 : 0 ≤ (x8_3 : Int):=YA
                             have q187 : x8_3 < (x7_3.length : Int):=YA
                             obtain ⟨ad187,e187,hx187_0⟩:=Kd.at_int (Kd.R_reads' HO_7.out).2.2 x8_3 p187 q187
                             obtain rfl : ad182 = ad187:=(by injection e187)
                             replace p187:=eq_true p187
                             replace q187:=eq_true q187
                             have p34 : 0 ≤ (x8_3 : Int):=YA
                             have q34 : (x8_3 : Int) < ((x7_3.length : Int) : Int):=YA
                             obtain ⟨go34,co34,eo34,gb34,gl34,cl34,HG34⟩:=Kd.R_form HO_7.out (by omega)
                             (first|cases eo34|(injection eo34 with ea_ en_ ec_;(first|subst ea_|(injection ea_ with ea_;subst ea_));subst ec_;clear en_));have GB34:=Aside0.mk gb34
                             have GG34:=Aside0.mk HG34
                             clear gb34 gl34 HG34;(first|simp only [add_plain] at hx182_0|skip);(first|simp only [add_plain] at hx185_0|skip);(first|simp only [add_plain] at hx187_0|skip);obtain ⟨hx34_0,hf34_0⟩:=Kd.R_celln 0 HO_7.out (x8_3 : Int) p34 q34
                             replace p34:=eq_true p34
                             replace q34:=eq_true q34
                             have HP55:=Kd.R_putg HO_7.out (x8_3 : Int) (wrap64 ((rd x7_3 x8_3) + 1))
                             go_wp2_with (first|((with_reducible refine gate_store (t:=3) (p:=61) rfl ?_);(try (rw [Z43 wr];generalize hq_ : World.drewN wr _ = wr;have n0_:=Aside0.mk (Kd.R_at hq_ HO_4.out);have n1_:=Aside0.mk (Kd.R_at hq_ HO_5.out);have n2_:=Aside0.mk (Kd.R_at hq_ HO_6.out);have n3_:=Aside0.mk (Kd.R_at hq_ HO_7.out);have n4_:=Aside0.mk (blk_at hq_ BK170.out);have n5_:=Aside0.mk (below_at hq_ HB.out);(try (replace hx184_0:=Eq.trans (congrArg (fun w_ : World => w_.cell? _) hq_.symm) hx184_0));(try (replace hx184_1:=Eq.trans (congrArg (fun w_ : World => w_.cell? _) hq_.symm) hx184_1));(try (replace hx184_2:=Eq.trans (congrArg (fun w_ : World => w_.cell? _) hq_.symm) hx184_2));(try (replace hx184_3:=Eq.trans (congrArg (fun w_ : World => w_.cell? _) hq_.symm) hx184_3));(try (replace hx183_0:=Eq.trans (congrArg (fun w_ : World => w_.cell? _) hq_.symm) hx183_0));(try (replace hx183_3:=Eq.trans (congrArg (fun w_ : World => w_.cell? _) hq_.symm) hx183_3));(try (replace hx185_0:=Eq.trans (congrArg (fun w_ : World => w_.cell? _) hq_.symm) hx185_0));(try (replace hx186_0:=Eq.trans (congrArg (fun w_ : World => w_.cell? _) hq_.symm) hx186_0));(try (replace hx187_0:=Eq.trans (congrArg (fun w_ : World => w_.cell? _) hq_.symm) hx187_0));(try (replace hx182_0:=Eq.trans (congrArg (fun w_ : World => w_.cell? _) hq_.symm) hx182_0));(try (replace hx34_0:=Eq.trans (congrArg (fun w_ : World => w_.cell? _) hq_.symm) hx34_0));(try (replace hf34_0:=Eq.trans (congrArg (fun w_ : World => w_.frozen? _) hq_.symm) hf34_0));clear hq_ HO_4 HO_5 HO_6 HO_7 BK170 HB;have HO_4:=n0_;have HO_5:=n1_;have HO_6:=n2_;have HO_7:=n3_;have BK170:=n4_;have HB:=n5_;clear n0_ n1_ n2_ n3_ n4_ n5_;(try (have HP55:=Kd.R_putg HO_7.out (x8_3 : Int) (wrap64 ((rd x7_3 x8_3) + 1))))));refine store_event (t:=3) (p:=61) (v:=?vo_w56) (w1:=(wr.setCell ⟨go34,(x8_3 : Int).toNat,none⟩ (.int .i64 (wrap64 ((rd x7_3 x8_3) + 1))))) ?hg ?ho ?hn ?hr ?_;(case ho => rfl);(case hg => rfl);(case hn => rfl);(case hr => first|(go_simp;done)|(go_simp;rfl));intro w56 hw;have hg : wr.grownBy w56 (some go34):=(by rw [hw];exact HP55.2);have hp_ : Kd.R (Kd.int .i64) 3 w56 w.heap.size (fun k_ => some k_ ≠ (u4 : Value).ownBlock ∧ some k_ ≠ (.slice (some ad181) x5_2.length co28 : Value).ownBlock) (.slice (some ⟨go34,0,none⟩) x7_3.length co53) y188:=(by rw [hw,Ny188.out];exact HP55.1);clear HP55;have n0_:=Aside0.mk (Kd.R_after (v:=(.slice (some ⟨go34,0,none⟩) x7_3.length co53)) (v1:=(.slice (some ⟨go34,0,none⟩) x7_3.length co53)) (ok:=(fun k_ => some k_ ≠ (.slice (some ad181) x5_2.length co28 : Value).ownBlock)) (YR HO_4) hg (.inl rfl));have n1_:=Aside0.mk (Kd.R_after (v:=(.slice (some ⟨go34,0,none⟩) x7_3.length co53)) (v1:=(.slice (some ⟨go34,0,none⟩) x7_3.length co53)) (ok:=(fun k_ => some k_ ≠ (u4 : Value).ownBlock)) (YR HO_5) hg (.inl rfl));have n2_:=Aside0.mk (Kd.R_over' (v:=(.slice (some ⟨go34,0,none⟩) x7_3.length co53)) (YR HO_6) (Kd.R_typed HO_7.out) (by decide) hg);have n3_:=Aside0.mk (hp_);have n4_:=Aside0.mk (Z89 (YK BK170) hg (Kd.R_ne HO_7.out BK170.out (by decide)));have n5_:=Aside0.mk ((by rw [hw];exact Z8 (HB.out) GB34.out : Below w.heap.size w w56));clear HO_4;clear HO_5;clear HO_6;clear HO_7;clear BK170;clear HB;have HO_4:=n0_;have HO_5:=n1_;have HO_6:=n2_;have HO_7:=n3_;have BK170:=n4_;have HB:=n5_;clear n0_ n1_ n2_ n3_ n4_ n5_;clear hg hw hp_))
                             repeat (go_quiet (first|((with_reducible refine gate_store (t:=3) (p:=61) rfl ?_);(try (rw [Z43 wr];generalize hq_ : World.drewN wr _ = wr;have n0_:=Aside0.mk (Kd.R_at hq_ HO_4.out);have n1_:=Aside0.mk (Kd.R_at hq_ HO_5.out);have n2_:=Aside0.mk (Kd.R_at hq_ HO_6.out);have n3_:=Aside0.mk (Kd.R_at hq_ HO_7.out);have n4_:=Aside0.mk (blk_at hq_ BK170.out);have n5_:=Aside0.mk (below_at hq_ HB.out);(try (replace hx184_0:=Eq.trans (congrArg (fun w_ : World => w_.cell? _) hq_.symm) hx184_0));(try (replace hx184_1:=Eq.trans (congrArg (fun w_ : World => w_.cell? _) hq_.symm) hx184_1));(try (replace hx184_2:=Eq.trans (congrArg (fun w_ : World => w_.cell? _) hq_.symm) hx184_2));(try (replace hx184_3:=Eq.trans (congrArg (fun w_ : World => w_.cell? _) hq_.symm) hx184_3));(try (replace hx183_0:=Eq.trans (congrArg (fun w_ : World => w_.cell? _) hq_.symm) hx183_0));(try (replace hx183_3:=Eq.trans (congrArg (fun w_ : World => w_.cell? _) hq_.symm) hx183_3));(try (replace hx185_0:=Eq.trans (congrArg (fun w_ : World => w_.cell? _) hq_.symm) hx185_0));(try (replace hx186_0:=Eq.trans (congrArg (fun w_ : World => w_.cell? _) hq_.symm) hx186_0));(try (replace hx187_0:=Eq.trans (congrArg (fun w_ : World => w_.cell? _) hq_.symm) hx187_0));(try (replace hx182_0:=Eq.trans (congrArg (fun w_ : World => w_.cell? _) hq_.symm) hx182_0));(try (replace hx34_0:=Eq.trans (congrArg (fun w_ : World => w_.cell? _) hq_.symm) hx34_0));(try (replace hf34_0:=Eq.trans (congrArg (fun w_ : World => w_.frozen? _) hq_.symm) hf34_0));clear hq_ HO_4 HO_5 HO_6 HO_7 BK170 HB;have HO_4:=n0_;have HO_5:=n1_;have HO_6:=n2_;have HO_7:=n3_;have BK170:=n4_;have HB:=n5_;clear n0_ n1_ n2_ n3_ n4_ n5_;(try (have HP55:=Kd.R_putg HO_7.out (x8_3 : Int) (wrap64 ((rd x7_3 x8_3) + 1))))));refine store_event (t:=3) (p:=61) (v:=?vo_w56) (w1:=(wr.setCell ⟨go34,(x8_3 : Int).toNat,none⟩ (.int .i64 (wrap64 ((rd x7_3 x8_3) + 1))))) ?hg ?ho ?hn ?hr ?_;(case ho => rfl);(case hg => rfl);(case hn => rfl);(case hr => first|(go_simp;done)|(go_simp;rfl));intro w56 hw;have hg : wr.grownBy w56 (some go34):=(by rw [hw];exact HP55.2);have hp_ : Kd.R (Kd.int .i64) 3 w56 w.heap.size (fun k_ => some k_ ≠ (u4 : Value).ownBlock ∧ some k_ ≠ (.slice (some ad181) x5_2.length co28 : Value).ownBlock) (.slice (some ⟨go34,0,none⟩) x7_3.length co53) y188:=(by rw [hw,Ny188.out];exact HP55.1);clear HP55;have n0_:=Aside0.mk (Kd.R_after (v:=(.slice (some ⟨go34,0,none⟩) x7_3.length co53)) (v1:=(.slice (some ⟨go34,0,none⟩) x7_3.length co53)) (ok:=(fun k_ => some k_ ≠ (.slice (some ad181) x5_2.length co28 : Value).ownBlock)) (YR HO_4) hg (.inl rfl));have n1_:=Aside0.mk (Kd.R_after (v:=(.slice (some ⟨go34,0,none⟩) x7_3.length co53)) (v1:=(.slice (some ⟨go34,0,none⟩) x7_3.length co53)) (ok:=(fun k_ => some k_ ≠ (u4 : Value).ownBlock)) (YR HO_5) hg (.inl rfl));have n2_:=Aside0.mk (Kd.R_over' (v:=(.slice (some ⟨go34,0,none⟩) x7_3.length co53)) (YR HO_6) (Kd.R_typed HO_7.out) (by decide) hg);have n3_:=Aside0.mk (hp_);have n4_:=Aside0.mk (Z89 (YK BK170) hg (Kd.R_ne HO_7.out BK170.out (by decide)));have n5_:=Aside0.mk ((by rw [hw];exact Z8 (HB.out) GB34.out : Below w.heap.size w w56));clear HO_4;clear HO_5;clear HO_6;clear HO_7;clear BK170;clear HB;have HO_4:=n0_;have HO_5:=n1_;have HO_6:=n2_;have HO_7:=n3_;have BK170:=n4_;have HB:=n5_;clear n0_ n1_ n2_ n3_ n4_ n5_;clear hg hw hp_));try go_wp2_with (first|((with_reducible refine gate_store (t:=3) (p:=61) rfl ?_);(try (rw [Z43 wr];generalize hq_ : World.drewN wr _ = wr;have n0_:=Aside0.mk (Kd.R_at hq_ HO_4.out);have n1_:=Aside0.mk (Kd.R_at hq_ HO_5.out);have n2_:=Aside0.mk (Kd.R_at hq_ HO_6.out);have n3_:=Aside0.mk (Kd.R_at hq_ HO_7.out);have n4_:=Aside0.mk (blk_at hq_ BK170.out);have n5_:=Aside0.mk (below_at hq_ HB.out);(try (replace hx184_0:=Eq.trans (congrArg (fun w_ : World => w_.cell? _) hq_.symm) hx184_0));(try (replace hx184_1:=Eq.trans (congrArg (fun w_ : World => w_.cell? _) hq_.symm) hx184_1));(try (replace hx184_2:=Eq.trans (congrArg (fun w_ : World => w_.cell? _) hq_.symm) hx184_2));(try (replace hx184_3:=Eq.trans (congrArg (fun w_ : World => w_.cell? _) hq_.symm) hx184_3));(try (replace hx183_0:=Eq.trans (congrArg (fun w_ : World => w_.cell? _) hq_.symm) hx183_0));(try (replace hx183_3:=Eq.trans (congrArg (fun w_ : World => w_.cell? _) hq_.symm) hx183_3));(try (replace hx185_0:=Eq.trans (congrArg (fun w_ : World => w_.cell? _) hq_.symm) hx185_0));(try (replace hx186_0:=Eq.trans (congrArg (fun w_ : World => w_.cell? _) hq_.symm) hx186_0));(try (replace hx187_0:=Eq.trans (congrArg (fun w_ : World => w_.cell? _) hq_.symm) hx187_0));(try (replace hx182_0:=Eq.trans (congrArg (fun w_ : World => w_.cell? _) hq_.symm) hx182_0));(try (replace hx34_0:=Eq.trans (congrArg (fun w_ : World => w_.cell? _) hq_.symm) hx34_0));(try (replace hf34_0:=Eq.trans (congrArg (fun w_ : World => w_.frozen? _) hq_.symm) hf34_0));clear hq_ HO_4 HO_5 HO_6 HO_7 BK170 HB;have HO_4:=n0_;have HO_5:=n1_;have HO_6:=n2_;have HO_7:=n3_;have BK170:=n4_;have HB:=n5_;clear n0_ n1_ n2_ n3_ n4_ n5_;(try (have HP55:=Kd.R_putg HO_7.out (x8_3 : Int) (wrap64 ((rd x7_3 x8_3) + 1))))));refine store_event (t:=3) (p:=61) (v:=?vo_w56) (w1:=(wr.setCell ⟨go34,(x8_3 : Int).toNat,none⟩ (.int .i64 (wrap64 ((rd x7_3 x8_3) + 1))))) ?hg ?ho ?hn ?hr ?_;(case ho => rfl);(case hg => rfl);(case hn => rfl);(case hr => first|(go_simp;done)|(go_simp;rfl));intro w56 hw;have hg : wr.grownBy w56 (some go34):=(by rw [hw];exact HP55.2);have hp_ : Kd.R (Kd.int .i64) 3 w56 w.heap.size (fun k_ => some k_ ≠ (u4 : Value).ownBlock ∧ some k_ ≠ (.slice (some ad181) x5_2.length co28 : Value).ownBlock) (.slice (some ⟨go34,0,none⟩) x7_3.length co53) y188:=(by rw [hw,Ny188.out];exact HP55.1);clear HP55;have n0_:=Aside0.mk (Kd.R_after (v:=(.slice (some ⟨go34,0,none⟩) x7_3.length co53)) (v1:=(.slice (some ⟨go34,0,none⟩) x7_3.length co53)) (ok:=(fun k_ => some k_ ≠ (.slice (some ad181) x5_2.length co28 : Value).ownBlock)) (YR HO_4) hg (.inl rfl));have n1_:=Aside0.mk (Kd.R_after (v:=(.slice (some ⟨go34,0,none⟩) x7_3.length co53)) (v1:=(.slice (some ⟨go34,0,none⟩) x7_3.length co53)) (ok:=(fun k_ => some k_ ≠ (u4 : Value).ownBlock)) (YR HO_5) hg (.inl rfl));have n2_:=Aside0.mk (Kd.R_over' (v:=(.slice (some ⟨go34,0,none⟩) x7_3.length co53)) (YR HO_6) (Kd.R_typed HO_7.out) (by decide) hg);have n3_:=Aside0.mk (hp_);have n4_:=Aside0.mk (Z89 (YK BK170) hg (Kd.R_ne HO_7.out BK170.out (by decide)));have n5_:=Aside0.mk ((by rw [hw];exact Z8 (HB.out) GB34.out : Below w.heap.size w w56));clear HO_4;clear HO_5;clear HO_6;clear HO_7;clear BK170;clear HB;have HO_4:=n0_;have HO_5:=n1_;have HO_6:=n2_;have HO_7:=n3_;have BK170:=n4_;have HB:=n5_;clear n0_ n1_ n2_ n3_ n4_ n5_;clear hg hw hp_)))
                             go_roundg k3
                             case measure => have:=HK2.out;have:=HK3.out;omega
                             case rel => exact ⟨(y188),(x8_3),(by first|rfl|(simp;done)|(simp [*];done)),H',⟨by have:=HK2.out;have:=HK3.out;omega⟩,⟨YR HO_4⟩,⟨YR HO_5⟩,⟨YR HO_6⟩,⟨YR HO_7⟩,⟨YK BK170⟩,⟨YH⟩⟩
                         · rw [if_neg c33] at H;exact absurd H (by simp)
                       · rw [if_neg c32] at H;have c32b0 : decide ((rd x7_3 x8_3) < (((rd_T45 l0_4 x8_3).f3).length : Int)) = false:=decide_eq_false c32
                         clear c32;by_cases c57 : x4_2.length < 17592186044416
                         · rw [if_pos c57] at H;have LMc57:=Aside0.mk c57
                           clear c57;obtain ⟨y190,hy190⟩ : ∃ y_ : List Int,y_ = (x4_2 ++ [x8_3]):=⟨_,rfl⟩
                           replace H : (if 0 ≤ (wrap64 ((x5_2.length : Int) - 1)) then (if (wrap64 ((x5_2.length : Int) - 1)) ≤ (x5_2.length : Int) then ((some (x5_2.take ((wrap64 ((x5_2.length : Int) - 1)) : Int).toNat : List Int)).bind fun y193 => (if (y193.length : Int) > 0 then (order_Postorder.l1 k3 (l0_4.length : Int) y190 y193 y177 x7_3 a0_0 a0_1 a0_2 a0_3 l0_4) else (some y190))) else (none)) else (none)) = some r:=by first|(rw [hy190];with_reducible exact H)|(have H2_:=(Option.bind_some _ _).symm.trans H;rw [hy190];with_reducible exact H2_)|(have H2_:=(Option.bind_some _ _).symm.trans H;with_reducible exact H2_)|with_reducible exact H|(rw [hy190];exact H)|exact H
                           have Ny190:=Aside0.mk hy190
                           clear hy190;replace H : (if 0 ≤ (ji25) then (if (ji25) ≤ (x5_2.length : Int) then ((some (x5_2.take ((ji25) : Int).toNat : List Int)).bind fun y193 => (if (y193.length : Int) > 0 then (order_Postorder.l1 k3 (l0_4.length : Int) y190 y193 y177 x7_3 a0_0 a0_1 a0_2 a0_3 l0_4) else (some y190))) else (none)) else (none)) = some r:=by first|(rw [hji25] at H;exact H)|(simp only [hji25] at H ⊢;exact H)
                           by_cases c59 : 0 ≤ (ji25)
                           · rw [if_pos c59] at H;have c59b1 : decide (0 ≤ (ji25)) = true:=decide_eq_true c59
                             clear c59;by_cases c60 : (ji25) ≤ (x5_2.length : Int)
                             · rw [if_pos c60] at H;have c60b1 : decide ((ji25) ≤ (x5_2.length : Int)) = true:=decide_eq_true c60
                               clear c60;obtain ⟨y193,hy193⟩ : ∃ y_ : List Int,y_ = (x5_2.take ((ji25) : Int).toNat):=⟨_,rfl⟩
                               replace H : (if (y193.length : Int) > 0 then (order_Postorder.l1 k3 (l0_4.length : Int) y190 y193 y177 x7_3 a0_0 a0_1 a0_2 a0_3 l0_4) else (some y190)) = some r:=by first|(rw [hy193];with_reducible exact H)|(have H2_:=(Option.bind_some _ _).symm.trans H;rw [hy193];with_reducible exact H2_)|(have H2_:=(Option.bind_some _ _).symm.trans H;with_reducible exact H2_)|with_reducible exact H|(rw [hy193];exact H)|exact H
                               have Ny193:=Aside0.mk hy193
                               clear hy193;by_cases c61 : (y193.length : Int) > 0
                               · rw [if_pos c61] at H;have c61b1 : decide (0 < y193.length) = true:=decide_eq_true (by omega)
                                 clear c61;have H' := Aside0.mk H
                                 clear H;obtain ⟨Ao62,co62,eo62⟩:=Kd.R_slice HO_7.out
                                 subst eo62;have p182 : 0 ≤ (x8_3 : Int):=YA
                                 have q182 : x8_3 < (x7_3.length : Int):=YA
                                 obtain ⟨ad182,e182,hx182_0⟩:=Kd.at_int (Kd.R_reads' HO_7.out).2.2 x8_3 p182 q182
                                 cases e182;replace p182:=eq_true p182
                                 replace q182:=eq_true q182
                                 have hcz63_4 : wr.cell? ⟨gb170,4,none⟩ = some (.slice A0_4 l0_4.length c0_4):=(Z5 BK170.out 4).trans rfl
                                 have p183 : 0 ≤ (x8_3 : Int):=YA
                                 have q183 : x8_3 < (l0_4.length : Int):=YA
                                 obtain ⟨ad183,A183_0,c183_0,A183_3,c183_3,e183,hx183_0,hx183_1,hx183_2,hx183_3,hl183_0,hi183_0,hl183_3,hi183_3⟩:=at_T45 HR0_4.out x8_3 p183 q183
                                 cases e183;replace hx183_0:=(HB.out.cell (World.block_lt_of_cell? w _ hx183_0)).trans hx183_0
                                 replace hx183_1:=(HB.out.cell (World.block_lt_of_cell? w _ hx183_1)).trans hx183_1
                                 replace hx183_2:=(HB.out.cell (World.block_lt_of_cell? w _ hx183_2)).trans hx183_2
                                 replace hx183_3:=(HB.out.cell (World.block_lt_of_cell? w _ hx183_3)).trans hx183_3
                                 clear hi183_0 hl183_0;have HR183_3:=Aside0.mk hi183_3
                                 clear hi183_3 hl183_3;replace p183:=eq_true p183
                                 replace q183:=eq_true q183
                                 go_wp2_with (first|((with_reducible refine Z69 (b:=.append) (xs:=#[.tmp 77,.tmp 79]) rfl ?_);at_builtin;refine Kd.R_append (Kd.int .i64) (w0:=w) w.heap.size rfl (.tmp 77) (.tmp 79) 26 3 (.int .i64 0) 8 rfl Try.underlying26 info3 rfl (by decide) (by omega) u4 x4_2 x8_3 [.int .i64 x8_3] (fun k_ => some k_ ≠ (.slice (some ad181) x5_2.length co28 : Value).ownBlock ∧ some k_ ≠ (.slice (some ad182) x7_3.length co62 : Value).ownBlock) (fun _ => False) rfl rfl ?aP (fun _ hk => hk.elim) ?aF ?aO ?aB ?aS ?aL ?_;(case aP => exact rfl);(case aB => exact YH);(case aF => exact (fun k_ hk => ⟨Kd.fresh' (Kd.R_lt (YR HO_5)) k_ hk,Kd.fresh' (Kd.R_lt (YR HO_7)) k_ hk⟩));(case aO => exact (YR HO_4));(case aS => exact (Z27 YH));(case aL => have:=LMc57.out;omega);intro v191 w64 ho hb hg hat;rw [← Ny190.out] at ho;have n0_:=Aside0.mk (Kd.R_after (ok:=(fun k_ => some k_ ≠ (.slice (some ad182) x7_3.length co62 : Value).ownBlock)) (by (with_reducible repeat (first|apply Kd.R_alloc|apply Kd.R_drewN|apply Kd.R_drew));exact Kd.R_mono HO_5.out (fun _ hk => ⟨hk.2,hk.1⟩)) hg hat);have n1_:=Aside0.mk (Kd.R_over' (YR HO_6) (Kd.R_typed (YR HO_4)) (by decide) hg);have n2_:=Aside0.mk (Kd.R_after (ok:=(fun k_ => some k_ ≠ (.slice (some ad181) x5_2.length co28 : Value).ownBlock)) (by (with_reducible repeat (first|apply Kd.R_alloc|apply Kd.R_drewN|apply Kd.R_drew));exact Kd.R_mono HO_7.out (fun _ hk => ⟨hk.2,hk.1⟩)) hg hat);have n3_:=Aside0.mk (Z89 (YK BK170) hg (Kd.R_ne HO_4.out BK170.out (by decide)));have n4_:=Aside0.mk (hb);have n5_:=Aside0.mk (ho);clear HO_5;clear HO_6;clear HO_7;clear BK170;clear HB;clear HO_4;have HO_5:=n0_;have HO_6:=n1_;have HO_7:=n2_;have BK170:=n3_;have HB:=n4_;have HO192:=n5_;clear n0_ n1_ n2_ n3_ n4_ n5_;clear ho hb hg hat;have q65 : ((ji25) : Int) ≤ ((x5_2.length : Int) : Int):=YA;obtain ⟨i065,hi065,_,hsz65,_⟩:=info_parts info3;have hcut65:=cut_to (P:=Try.prog) 26 3 .i64 Try.underlying26 hi065 (some ad181) x5_2.length co28 (ji25) YA q65 (Kd.R_reads' HO_5.out).2.1;have hr65:=Kd.R_take (m:=((ji25) : Int).toNat) HO_5.out (by omega);have hy65 : y193.length = ((ji25) : Int).toNat:=(by rw [Ny193.out,List.length_take];omega);rw [← Ny193.out] at hr65;rw [← hy65] at hr65 hcut65;clear hy65 hi065 hsz65 HO_5;have HO195:=Aside0.mk hr65;clear hr65;replace q65:=eq_true q65))
                                 repeat (go_quiet (first|((with_reducible refine Z69 (b:=.append) (xs:=#[.tmp 77,.tmp 79]) rfl ?_);at_builtin;refine Kd.R_append (Kd.int .i64) (w0:=w) w.heap.size rfl (.tmp 77) (.tmp 79) 26 3 (.int .i64 0) 8 rfl Try.underlying26 info3 rfl (by decide) (by omega) u4 x4_2 x8_3 [.int .i64 x8_3] (fun k_ => some k_ ≠ (.slice (some ad181) x5_2.length co28 : Value).ownBlock ∧ some k_ ≠ (.slice (some ad182) x7_3.length co62 : Value).ownBlock) (fun _ => False) rfl rfl ?aP (fun _ hk => hk.elim) ?aF ?aO ?aB ?aS ?aL ?_;(case aP => exact rfl);(case aB => exact YH);(case aF => exact (fun k_ hk => ⟨Kd.fresh' (Kd.R_lt (YR HO_5)) k_ hk,Kd.fresh' (Kd.R_lt (YR HO_7)) k_ hk⟩));(case aO => exact (YR HO_4));(case aS => exact (Z27 YH));(case aL => have:=LMc57.out;omega);intro v191 w64 ho hb hg hat;rw [← Ny190.out] at ho;have n0_:=Aside0.mk (Kd.R_after (ok:=(fun k_ => some k_ ≠ (.slice (some ad182) x7_3.length co62 : Value).ownBlock)) (by (with_reducible repeat (first|apply Kd.R_alloc|apply Kd.R_drewN|apply Kd.R_drew));exact Kd.R_mono HO_5.out (fun _ hk => ⟨hk.2,hk.1⟩)) hg hat);have n1_:=Aside0.mk (Kd.R_over' (YR HO_6) (Kd.R_typed (YR HO_4)) (by decide) hg);have n2_:=Aside0.mk (Kd.R_after (ok:=(fun k_ => some k_ ≠ (.slice (some ad181) x5_2.length co28 : Value).ownBlock)) (by (with_reducible repeat (first|apply Kd.R_alloc|apply Kd.R_drewN|apply Kd.R_drew));exact Kd.R_mono HO_7.out (fun _ hk => ⟨hk.2,hk.1⟩)) hg hat);have n3_:=Aside0.mk (Z89 (YK BK170) hg (Kd.R_ne HO_4.out BK170.out (by decide)));have n4_:=Aside0.mk (hb);have n5_:=Aside0.mk (ho);clear HO_5;clear HO_6;clear HO_7;clear BK170;clear HB;clear HO_4;have HO_5:=n0_;have HO_6:=n1_;have HO_7:=n2_;have BK170:=n3_;have HB:=n4_;have HO192:=n5_;clear n0_ n1_ n2_ n3_ n4_ n5_;clear ho hb hg hat;have q65 : ((ji25) : Int) ≤ ((x5_2.length : Int) : Int):=YA;obtain ⟨i065,hi065,_,hsz65,_⟩:=info_parts info3;have hcut65:=cut_to (P:=Try.prog) 26 3 .i64 Try.underlying26 hi065 (some ad181) x5_2.length co28 (ji25) YA q65 (Kd.R_reads' HO_5.out).2.1;have hr65:=Kd.R_take (m:=((ji25) : Int).toNat) HO_5.out (by omega);have hy65 : y193.length = ((ji25) : Int).toNat:=(by rw [Ny193.out,List.length_take];omega);rw [← Ny193.out] at hr65;rw [← hy65] at hr65 hcut65;clear hy65 hi065 hsz65 HO_5;have HO195:=Aside0.mk hr65;clear hr65;replace q65:=eq_true q65));try go_wp2_with (first|((with_reducible refine Z69 (b:=.append) (xs:=#[.tmp 77,.tmp 79]) rfl ?_);at_builtin;refine Kd.R_append (Kd.int .i64) (w0:=w) w.heap.size rfl (.tmp 77) (.tmp 79) 26 3 (.int .i64 0) 8 rfl Try.underlying26 info3 rfl (by decide) (by omega) u4 x4_2 x8_3 [.int .i64 x8_3] (fun k_ => some k_ ≠ (.slice (some ad181) x5_2.length co28 : Value).ownBlock ∧ some k_ ≠ (.slice (some ad182) x7_3.length co62 : Value).ownBlock) (fun _ => False) rfl rfl ?aP (fun _ hk => hk.elim) ?aF ?aO ?aB ?aS ?aL ?_;(case aP => exact rfl);(case aB => exact YH);(case aF => exact (fun k_ hk => ⟨Kd.fresh' (Kd.R_lt (YR HO_5)) k_ hk,Kd.fresh' (Kd.R_lt (YR HO_7)) k_ hk⟩));(case aO => exact (YR HO_4));(case aS => exact (Z27 YH));(case aL => have:=LMc57.out;omega);intro v191 w64 ho hb hg hat;rw [← Ny190.out] at ho;have n0_:=Aside0.mk (Kd.R_after (ok:=(fun k_ => some k_ ≠ (.slice (some ad182) x7_3.length co62 : Value).ownBlock)) (by (with_reducible repeat (first|apply Kd.R_alloc|apply Kd.R_drewN|apply Kd.R_drew));exact Kd.R_mono HO_5.out (fun _ hk => ⟨hk.2,hk.1⟩)) hg hat);have n1_:=Aside0.mk (Kd.R_over' (YR HO_6) (Kd.R_typed (YR HO_4)) (by decide) hg);have n2_:=Aside0.mk (Kd.R_after (ok:=(fun k_ => some k_ ≠ (.slice (some ad181) x5_2.length co28 : Value).ownBlock)) (by (with_reducible repeat (first|apply Kd.R_alloc|apply Kd.R_drewN|apply Kd.R_drew));exact Kd.R_mono HO_7.out (fun _ hk => ⟨hk.2,hk.1⟩)) hg hat);have n3_:=Aside0.mk (Z89 (YK BK170) hg (Kd.R_ne HO_4.out BK170.out (by decide)));have n4_:=Aside0.mk (hb);have n5_:=Aside0.mk (ho);clear HO_5;clear HO_6;clear HO_7;clear BK170;clear HB;clear HO_4;have HO_5:=n0_;have HO_6:=n1_;have HO_7:=n2_;have BK170:=n3_;have HB:=n4_;have HO192:=n5_;clear n0_ n1_ n2_ n3_ n4_ n5_;clear ho hb hg hat;have q65 : ((ji25) : Int) ≤ ((x5_2.length : Int) : Int):=YA;obtain ⟨i065,hi065,_,hsz65,_⟩:=info_parts info3;have hcut65:=cut_to (P:=Try.prog) 26 3 .i64 Try.underlying26 hi065 (some ad181) x5_2.length co28 (ji25) YA q65 (Kd.R_reads' HO_5.out).2.1;have hr65:=Kd.R_take (m:=((ji25) : Int).toNat) HO_5.out (by omega);have hy65 : y193.length = ((ji25) : Int).toNat:=(by rw [Ny193.out,List.length_take];omega);rw [← Ny193.out] at hr65;rw [← hy65] at hr65 hcut65;clear hy65 hi065 hsz65 HO_5;have HO195:=Aside0.mk hr65;clear hr65;replace q65:=eq_true q65)))
                                 (try (refine wp_goto ?_));(try simp only [Exit.inBlock,Exit.then,two_goto0,two_goto1]);refine AK1.out k3 _ _ ?measure ?_;rotate_left;(repeat apply Exists.intro);refine ⟨?rel,rfl⟩;case measure => have:=HK2.out;have:=HK3.out;omega
                                 case rel => exact ⟨(y190),(y193),(y177),(x7_3),H',⟨by have:=HK2.out;have:=HK3.out;omega⟩,⟨YR HO192⟩,⟨by (with_reducible repeat (first|apply Kd.R_alloc|apply Kd.R_drewN|apply Kd.R_drew));exact Kd.R_mono HO195.out (fun _ hk => ⟨hk.2,hk.1⟩)⟩,⟨YR HO_6⟩,⟨by (with_reducible repeat (first|apply Kd.R_alloc|apply Kd.R_drewN|apply Kd.R_drew));exact Kd.R_mono HO_7.out (fun _ hk => ⟨hk.2,hk.1⟩)⟩,⟨YK BK170⟩,⟨YH⟩,L6⟩
                               · rw [if_neg c61] at H;have c61b1 : decide (0 < y193.length) = false:=decide_eq_false (by omega)
                                 clear c61;obtain rfl:=Option.some.inj H
                                 obtain ⟨Ao66,co66,eo66⟩:=Kd.R_slice HO_7.out
                                 subst eo66;have p182 : 0 ≤ (x8_3 : Int):=YA
                                 have q182 : x8_3 < (x7_3.length : Int):=YA
                                 obtain ⟨ad182,e182,hx182_0⟩:=Kd.at_int (Kd.R_reads' HO_7.out).2.2 x8_3 p182 q182
                                 cases e182;replace p182:=eq_true p182
                                 replace q182:=eq_true q182
                                 have hcz67_4 : wr.cell? ⟨gb170,4,none⟩ = some (.slice A0_4 l0_4.length c0_4):=(Z5 BK170.out 4).trans rfl
                                 have p183 : 0 ≤ (x8_3 : Int):=YA
                                 have q183 : x8_3 < (l0_4.length : Int):=YA
                                 obtain ⟨ad183,A183_0,c183_0,A183_3,c183_3,e183,hx183_0,hx183_1,hx183_2,hx183_3,hl183_0,hi183_0,hl183_3,hi183_3⟩:=at_T45 HR0_4.out x8_3 p183 q183
                                 cases e183;replace hx183_0:=(HB.out.cell (World.block_lt_of_cell? w _ hx183_0)).trans hx183_0
                                 replace hx183_1:=(HB.out.cell (World.block_lt_of_cell? w _ hx183_1)).trans hx183_1
                                 replace hx183_2:=(HB.out.cell (World.block_lt_of_cell? w _ hx183_2)).trans hx183_2
                                 replace hx183_3:=(HB.out.cell (World.block_lt_of_cell? w _ hx183_3)).trans hx183_3
                                 clear hi183_0 hl183_0;have HR183_3:=Aside0.mk hi183_3
                                 clear hi183_3 hl183_3;replace p183:=eq_true p183
                                 replace q183:=eq_true q183
                                 go_wp2_with (first|((with_reducible refine Z69 (b:=.append) (xs:=#[.tmp 77,.tmp 79]) rfl ?_);at_builtin;refine Kd.R_append (Kd.int .i64) (w0:=w) w.heap.size rfl (.tmp 77) (.tmp 79) 26 3 (.int .i64 0) 8 rfl Try.underlying26 info3 rfl (by decide) (by omega) u4 x4_2 x8_3 [.int .i64 x8_3] (fun k_ => some k_ ≠ (.slice (some ad181) x5_2.length co28 : Value).ownBlock ∧ some k_ ≠ (.slice (some ad182) x7_3.length co66 : Value).ownBlock) (fun _ => False) rfl rfl ?aP (fun _ hk => hk.elim) ?aF ?aO ?aB ?aS ?aL ?_;(case aP => exact rfl);(case aB => exact YH);(case aF => exact (fun k_ hk => ⟨Kd.fresh' (Kd.R_lt (YR HO_5)) k_ hk,Kd.fresh' (Kd.R_lt (YR HO_7)) k_ hk⟩));(case aO => exact (YR HO_4));(case aS => exact (Z27 YH));(case aL => have:=LMc57.out;omega);intro v191 w68 ho hb hg hat;rw [← Ny190.out] at ho;have n0_:=Aside0.mk (Kd.R_after (ok:=(fun k_ => some k_ ≠ (.slice (some ad182) x7_3.length co66 : Value).ownBlock)) (by (with_reducible repeat (first|apply Kd.R_alloc|apply Kd.R_drewN|apply Kd.R_drew));exact Kd.R_mono HO_5.out (fun _ hk => ⟨hk.2,hk.1⟩)) hg hat);have n1_:=Aside0.mk (Kd.R_over' (YR HO_6) (Kd.R_typed (YR HO_4)) (by decide) hg);have n2_:=Aside0.mk (Kd.R_after (ok:=(fun k_ => some k_ ≠ (.slice (some ad181) x5_2.length co28 : Value).ownBlock)) (by (with_reducible repeat (first|apply Kd.R_alloc|apply Kd.R_drewN|apply Kd.R_drew));exact Kd.R_mono HO_7.out (fun _ hk => ⟨hk.2,hk.1⟩)) hg hat);have n3_:=Aside0.mk (Z89 (YK BK170) hg (Kd.R_ne HO_4.out BK170.out (by decide)));have n4_:=Aside0.mk (hb);have n5_:=Aside0.mk (ho);clear HO_5;clear HO_6;clear HO_7;clear BK170;clear HB;clear HO_4;have HO_5:=n0_;have HO_6:=n1_;have HO_7:=n2_;have BK170:=n3_;have HB:=n4_;have HO192:=n5_;clear n0_ n1_ n2_ n3_ n4_ n5_;clear ho hb hg hat;have q69 : ((ji25) : Int) ≤ ((x5_2.length : Int) : Int):=YA;obtain ⟨i069,hi069,_,hsz69,_⟩:=info_parts info3;have hcut69:=cut_to (P:=Try.prog) 26 3 .i64 Try.underlying26 hi069 (some ad181) x5_2.length co28 (ji25) YA q69 (Kd.R_reads' HO_5.out).2.1;have hr69:=Kd.R_take (m:=((ji25) : Int).toNat) HO_5.out (by omega);have hy69 : y193.length = ((ji25) : Int).toNat:=(by rw [Ny193.out,List.length_take];omega);rw [← Ny193.out] at hr69;rw [← hy69] at hr69 hcut69;clear hy69 hi069 hsz69 HO_5;have HO195:=Aside0.mk hr69;clear hr69;replace q69:=eq_true q69))
                                 repeat (go_quiet (first|((with_reducible refine Z69 (b:=.append) (xs:=#[.tmp 77,.tmp 79]) rfl ?_);at_builtin;refine Kd.R_append (Kd.int .i64) (w0:=w) w.heap.size rfl (.tmp 77) (.tmp 79) 26 3 (.int .i64 0) 8 rfl Try.underlying26 info3 rfl (by decide) (by omega) u4 x4_2 x8_3 [.int .i64 x8_3] (fun k_ => some k_ ≠ (.slice (some ad181) x5_2.length co28 : Value).ownBlock ∧ some k_ ≠ (.slice (some ad182) x7_3.length co66 : Value).ownBlock) (fun _ => False) rfl rfl ?aP (fun _ hk => hk.elim) ?aF ?aO ?aB ?aS ?aL ?_;(case aP => exact rfl);(case aB => exact YH);(case aF => exact (fun k_ hk => ⟨Kd.fresh' (Kd.R_lt (YR HO_5)) k_ hk,Kd.fresh' (Kd.R_lt (YR HO_7)) k_ hk⟩));(case aO => exact (YR HO_4));(case aS => exact (Z27 YH));(case aL => have:=LMc57.out;omega);intro v191 w68 ho hb hg hat;rw [← Ny190.out] at ho;have n0_:=Aside0.mk (Kd.R_after (ok:=(fun k_ => some k_ ≠ (.slice (some ad182) x7_3.length co66 : Value).ownBlock)) (by (with_reducible repeat (first|apply Kd.R_alloc|apply Kd.R_drewN|apply Kd.R_drew));exact Kd.R_mono HO_5.out (fun _ hk => ⟨hk.2,hk.1⟩)) hg hat);have n1_:=Aside0.mk (Kd.R_over' (YR HO_6) (Kd.R_typed (YR HO_4)) (by decide) hg);have n2_:=Aside0.mk (Kd.R_after (ok:=(fun k_ => some k_ ≠ (.slice (some ad181) x5_2.length co28 : Value).ownBlock)) (by (with_reducible repeat (first|apply Kd.R_alloc|apply Kd.R_drewN|apply Kd.R_drew));exact Kd.R_mono HO_7.out (fun _ hk => ⟨hk.2,hk.1⟩)) hg hat);have n3_:=Aside0.mk (Z89 (YK BK170) hg (Kd.R_ne HO_4.out BK170.out (by decide)));have n4_:=Aside0.mk (hb);have n5_:=Aside0.mk (ho);clear HO_5;clear HO_6;clear HO_7;clear BK170;clear HB;clear HO_4;have HO_5:=n0_;have HO_6:=n1_;have HO_7:=n2_;have BK170:=n3_;have HB:=n4_;have HO192:=n5_;clear n0_ n1_ n2_ n3_ n4_ n5_;clear ho hb hg hat;have q69 : ((ji25) : Int) ≤ ((x5_2.length : Int) : Int):=YA;obtain ⟨i069,hi069,_,hsz69,_⟩:=info_parts info3;have hcut69:=cut_to (P:=Try.prog) 26 3 .i64 Try.underlying26 hi069 (some ad181) x5_2.length co28 (ji25) YA q69 (Kd.R_reads' HO_5.out).2.1;have hr69:=Kd.R_take (m:=((ji25) : Int).toNat) HO_5.out (by omega);have hy69 : y193.length = ((ji25) : Int).toNat:=(by rw [Ny193.out,List.length_take];omega);rw [← Ny193.out] at hr69;rw [← hy69] at hr69 hcut69;clear hy69 hi069 hsz69 HO_5;have HO195:=Aside0.mk hr69;clear hr69;replace q69:=eq_true q69));try go_wp2_with (first|((with_reducible refine Z69 (b:=.append) (xs:=#[.tmp 77,.tmp 79]) rfl ?_);at_builtin;refine Kd.R_append (Kd.int .i64) (w0:=w) w.heap.size rfl (.tmp 77) (.tmp 79) 26 3 (.int .i64 0) 8 rfl Try.underlying26 info3 rfl (by decide) (by omega) u4 x4_2 x8_3 [.int .i64 x8_3] (fun k_ => some k_ ≠ (.slice (some ad181) x5_2.length co28 : Value).ownBlock ∧ some k_ ≠ (.slice (some ad182) x7_3.length co66 : Value).ownBlock) (fun _ => False) rfl rfl ?aP (fun _ hk => hk.elim) ?aF ?aO ?aB ?aS ?aL ?_;(case aP => exact rfl);(case aB => exact YH);(case aF => exact (fun k_ hk => ⟨Kd.fresh' (Kd.R_lt (YR HO_5)) k_ hk,Kd.fresh' (Kd.R_lt (YR HO_7)) k_ hk⟩));(case aO => exact (YR HO_4));(case aS => exact (Z27 YH));(case aL => have:=LMc57.out;omega);intro v191 w68 ho hb hg hat;rw [← Ny190.out] at ho;have n0_:=Aside0.mk (Kd.R_after (ok:=(fun k_ => some k_ ≠ (.slice (some ad182) x7_3.length co66 : Value).ownBlock)) (by (with_reducible repeat (first|apply Kd.R_alloc|apply Kd.R_drewN|apply Kd.R_drew));exact Kd.R_mono HO_5.out (fun _ hk => ⟨hk.2,hk.1⟩)) hg hat);have n1_:=Aside0.mk (Kd.R_over' (YR HO_6) (Kd.R_typed (YR HO_4)) (by decide) hg);have n2_:=Aside0.mk (Kd.R_after (ok:=(fun k_ => some k_ ≠ (.slice (some ad181) x5_2.length co28 : Value).ownBlock)) (by (with_reducible repeat (first|apply Kd.R_alloc|apply Kd.R_drewN|apply Kd.R_drew));exact Kd.R_mono HO_7.out (fun _ hk => ⟨hk.2,hk.1⟩)) hg hat);have n3_:=Aside0.mk (Z89 (YK BK170) hg (Kd.R_ne HO_4.out BK170.out (by decide)));have n4_:=Aside0.mk (hb);have n5_:=Aside0.mk (ho);clear HO_5;clear HO_6;clear HO_7;clear BK170;clear HB;clear HO_4;have HO_5:=n0_;have HO_6:=n1_;have HO_7:=n2_;have BK170:=n3_;have HB:=n4_;have HO192:=n5_;clear n0_ n1_ n2_ n3_ n4_ n5_;clear ho hb hg hat;have q69 : ((ji25) : Int) ≤ ((x5_2.length : Int) : Int):=YA;obtain ⟨i069,hi069,_,hsz69,_⟩:=info_parts info3;have hcut69:=cut_to (P:=Try.prog) 26 3 .i64 Try.underlying26 hi069 (some ad181) x5_2.length co28 (ji25) YA q69 (Kd.R_reads' HO_5.out).2.1;have hr69:=Kd.R_take (m:=((ji25) : Int).toNat) HO_5.out (by omega);have hy69 : y193.length = ((ji25) : Int).toNat:=(by rw [Ny193.out,List.length_take];omega);rw [← Ny193.out] at hr69;rw [← hy69] at hr69 hcut69;clear hy69 hi069 hsz69 HO_5;have HO195:=Aside0.mk hr69;clear hr69;replace q69:=eq_true q69)))
                                 (try simp only [two]);go_step
                                 go_ret
                                 exact ⟨_,by first|rfl|(simp [Z16,Z15] <;> rfl)|(simp only [← hji25,← hji25];first|rfl|(simp [Z16,Z15] <;> rfl))|(simp [*,Z16,Z15] <;> rfl),by (with_reducible repeat (first|apply Kd.R_alloc|apply Kd.R_drewN|apply Kd.R_drew));exact Kd.R_mono HO192.out (fun _ hk => trivial),by repeat (first|(with_reducible first|exact HB.out|apply Z7|apply Z4|apply Z6|refine Z8 ?_ GE170.out)|exact HB.out)⟩
                             · rw [if_neg c60] at H;exact absurd H (by simp)
                           · rw [if_neg c59] at H;exact absurd H (by simp)
                         · rw [if_neg c57] at H;exact absurd H (by simp)
                     · rw [if_neg c31] at H;exact absurd H (by simp)
                   · rw [if_neg c30] at H;exact absurd H (by simp)
                 · rw [if_neg c29] at H;exact absurd H (by simp)
             · rw [if_neg c27] at H;exact absurd H (by simp)
           · rw [if_neg c26] at H;exact absurd H (by simp)
         case p0 =>
          try clear c2
          try clear c2b1
          try clear c3
          try clear c3b1
          try clear c4
          try clear c4b1
          try clear c5
          try clear c5b0
          try clear hcz13_4
          clear BK170 HB H';intro gk a_ wr hJ K0 K1 hK0 hK1 hL;obtain ⟨v172,hJ⟩:=hJ
          obtain ⟨v175,hJ⟩:=hJ
          obtain ⟨u4,hJ⟩:=hJ
          obtain ⟨u5,hJ⟩:=hJ
          obtain ⟨v8,hJ⟩:=hJ
          obtain ⟨u0,hJ⟩:=hJ
          obtain ⟨u2,hJ⟩:=hJ
          obtain ⟨u9,hJ⟩:=hJ
          obtain ⟨u10,hJ⟩:=hJ
          obtain ⟨u11,hJ⟩:=hJ
          obtain ⟨u12,hJ⟩:=hJ
          obtain ⟨u13,hJ⟩:=hJ
          obtain ⟨u14,hJ⟩:=hJ
          obtain ⟨u15,hJ⟩:=hJ
          obtain ⟨u16,hJ⟩:=hJ
          obtain ⟨u17,hJ⟩:=hJ
          obtain ⟨u18,hJ⟩:=hJ
          obtain ⟨u19,hJ⟩:=hJ
          obtain ⟨u20,hJ⟩:=hJ
          obtain ⟨u21,hJ⟩:=hJ
          obtain ⟨u22,hJ⟩:=hJ
          obtain ⟨u23,hJ⟩:=hJ
          obtain ⟨u24,hJ⟩:=hJ
          obtain ⟨u25,hJ⟩:=hJ
          obtain ⟨u26,hJ⟩:=hJ
          obtain ⟨u27,hJ⟩:=hJ
          obtain ⟨u28,hJ⟩:=hJ
          obtain ⟨u29,hJ⟩:=hJ
          obtain ⟨u30,hJ⟩:=hJ
          obtain ⟨u31,hJ⟩:=hJ
          obtain ⟨u32,hJ⟩:=hJ
          obtain ⟨u33,hJ⟩:=hJ
          obtain ⟨u34,hJ⟩:=hJ
          obtain ⟨u35,hJ⟩:=hJ
          obtain ⟨u36,hJ⟩:=hJ
          obtain ⟨u37,hJ⟩:=hJ
          obtain ⟨u38,hJ⟩:=hJ
          obtain ⟨u39,hJ⟩:=hJ
          obtain ⟨u40,hJ⟩:=hJ
          obtain ⟨u41,hJ⟩:=hJ
          obtain ⟨u42,hJ⟩:=hJ
          obtain ⟨u43,hJ⟩:=hJ
          obtain ⟨u44,hJ⟩:=hJ
          obtain ⟨u45,hJ⟩:=hJ
          obtain ⟨u46,hJ⟩:=hJ
          obtain ⟨u47,hJ⟩:=hJ
          obtain ⟨u48,hJ⟩:=hJ
          obtain ⟨u49,hJ⟩:=hJ
          obtain ⟨u50,hJ⟩:=hJ
          obtain ⟨u51,hJ⟩:=hJ
          obtain ⟨u52,hJ⟩:=hJ
          obtain ⟨u53,hJ⟩:=hJ
          obtain ⟨u54,hJ⟩:=hJ
          obtain ⟨u55,hJ⟩:=hJ
          obtain ⟨u56,hJ⟩:=hJ
          obtain ⟨u57,hJ⟩:=hJ
          obtain ⟨u58,hJ⟩:=hJ
          obtain ⟨u59,hJ⟩:=hJ
          obtain ⟨u60,hJ⟩:=hJ
          obtain ⟨u61,hJ⟩:=hJ
          obtain ⟨u62,hJ⟩:=hJ
          obtain ⟨u63,hJ⟩:=hJ
          obtain ⟨u64,hJ⟩:=hJ
          obtain ⟨u65,hJ⟩:=hJ
          obtain ⟨u66,hJ⟩:=hJ
          obtain ⟨u67,hJ⟩:=hJ
          obtain ⟨u68,hJ⟩:=hJ
          obtain ⟨u69,hJ⟩:=hJ
          obtain ⟨u70,hJ⟩:=hJ
          obtain ⟨u71,hJ⟩:=hJ
          obtain ⟨u72,hJ⟩:=hJ
          obtain ⟨u73,hJ⟩:=hJ
          obtain ⟨u74,hJ⟩:=hJ
          obtain ⟨u75,hJ⟩:=hJ
          obtain ⟨u76,hJ⟩:=hJ
          obtain ⟨u77,hJ⟩:=hJ
          obtain ⟨u78,hJ⟩:=hJ
          obtain ⟨u79,hJ⟩:=hJ
          obtain ⟨u80,hJ⟩:=hJ
          obtain ⟨u81,hJ⟩:=hJ
          obtain ⟨u82,hJ⟩:=hJ
          obtain ⟨u83,hJ⟩:=hJ
          obtain ⟨u84,hJ⟩:=hJ
          obtain ⟨u85,hJ⟩:=hJ
          obtain ⟨u86,hJ⟩:=hJ
          obtain ⟨u87,hJ⟩:=hJ
          obtain ⟨u88,hJ⟩:=hJ
          obtain ⟨u89,hJ⟩:=hJ
          obtain ⟨hJ,ha_⟩:=hJ
          subst ha_;obtain ⟨x4_1,x5_1,x6_1,x7_1,x8_1,rfl,HA,HK1,HO_4,HO_5,HO_6,HO_7,BK170,HB⟩:=hJ
          have AL:=Aside0.mk hL
          clear hK0 hK1 hL;cases gk with
          | zero => exact absurd HA.out (by simp [order_Postorder.l0])
          | succ k1 =>
           have H:=HA.out
           clear HA;simp only [order_Postorder.l0] at H;by_cases c18 : 0 ≤ x8_1
           · rw [if_pos c18] at H;have c18b0 : decide (0 ≤ x8_1) = true:=decide_eq_true c18
             clear c18;by_cases c19 : x8_1 < (x6_1.length : Int)
             · rw [if_pos c19] at H;have c19b0 : decide (x8_1 < (x6_1.length : Int)) = true:=decide_eq_true c19
               clear c19;obtain ⟨y177,hy177⟩ : ∃ y_ : List Bool,y_ = (x6_1.set (x8_1 : Int).toNat true):=⟨_,rfl⟩
               replace H : (if x5_1.length < 17592186044416 then (order_Postorder.l1 k1 (l0_4.length : Int) x4_1 (x5_1 ++ [x8_1]) y177 x7_1 a0_0 a0_1 a0_2 a0_3 l0_4) else (none)) = some r:=by first|(rw [hy177];with_reducible exact H)|(have H2_:=(Option.bind_some _ _).symm.trans H;rw [hy177];with_reducible exact H2_)|(have H2_:=(Option.bind_some _ _).symm.trans H;with_reducible exact H2_)|with_reducible exact H|(rw [hy177];exact H)|exact H
               have Ny177:=Aside0.mk hy177
               clear hy177;by_cases c21 : x5_1.length < 17592186044416
               · rw [if_pos c21] at H;have LMc21:=Aside0.mk c21
                 clear c21;obtain ⟨y178,hy178⟩ : ∃ y_ : List Int,y_ = (x5_1 ++ [x8_1]):=⟨_,rfl⟩
                 replace H : (order_Postorder.l1 k1 (l0_4.length : Int) x4_1 y178 y177 x7_1 a0_0 a0_1 a0_2 a0_3 l0_4) = some r:=by first|(rw [hy178];with_reducible exact H)|(have H2_:=(Option.bind_some _ _).symm.trans H;rw [hy178];with_reducible exact H2_)|(have H2_:=(Option.bind_some _ _).symm.trans H;with_reducible exact H2_)|with_reducible exact H|(rw [hy178];exact H)|exact H
                 have Ny178:=Aside0.mk hy178
                 clear hy178;have H' := Aside0.mk H
                 clear H;have p20 : 0 ≤ (x8_1 : Int):=YA
                 have q20 : (x8_1 : Int) < ((x6_1.length : Int) : Int):=YA
                 obtain ⟨go20,co20,eo20,gb20,gl20,cl20,HG20⟩:=Kd.R_form HO_6.out (by omega)
                 (first|cases eo20|(injection eo20 with ea_ en_ ec_;(first|subst ea_|(injection ea_ with ea_;subst ea_));subst ec_;clear en_));have GB20:=Aside0.mk gb20
                 have GG20:=Aside0.mk HG20
                 clear gb20 gl20 HG20;obtain ⟨hx20_0,hf20_0⟩:=Kd.R_celln false HO_6.out (x8_1 : Int) p20 q20
                 replace p20:=eq_true p20
                 replace q20:=eq_true q20
                 have HP22:=Kd.R_putg HO_6.out (x8_1 : Int) true
                 go_wp2_with (first|((with_reducible refine gate_store (t:=4) (p:=21) rfl ?_);(try (rw [Z43 wr];generalize hq_ : World.drewN wr _ = wr;have n0_:=Aside0.mk (Kd.R_at hq_ HO_4.out);have n1_:=Aside0.mk (Kd.R_at hq_ HO_5.out);have n2_:=Aside0.mk (Kd.R_at hq_ HO_6.out);have n3_:=Aside0.mk (Kd.R_at hq_ HO_7.out);have n4_:=Aside0.mk (blk_at hq_ BK170.out);have n5_:=Aside0.mk (below_at hq_ HB.out);(try (replace hx20_0:=Eq.trans (congrArg (fun w_ : World => w_.cell? _) hq_.symm) hx20_0));(try (replace hf20_0:=Eq.trans (congrArg (fun w_ : World => w_.frozen? _) hq_.symm) hf20_0));clear hq_ HO_4 HO_5 HO_6 HO_7 BK170 HB;have HO_4:=n0_;have HO_5:=n1_;have HO_6:=n2_;have HO_7:=n3_;have BK170:=n4_;have HB:=n5_;clear n0_ n1_ n2_ n3_ n4_ n5_;(try (have HP22:=Kd.R_putg HO_6.out (x8_1 : Int) true))));refine store_event (t:=4) (p:=21) (v:=?vo_w23) (w1:=(wr.setCell ⟨go20,(x8_1 : Int).toNat,none⟩ (.bool true))) ?hg ?ho ?hn ?hr ?_;(case ho => rfl);(case hg => rfl);(case hn => rfl);(case hr => first|(go_simp;done)|(go_simp;rfl));intro w23 hw;have hg : wr.grownBy w23 (some go20):=(by rw [hw];exact HP22.2);have hp_ : Kd.R Kd.bool 4 w23 w.heap.size (fun _ => True) (.slice (some ⟨go20,0,none⟩) x6_1.length co20) y177:=(by rw [hw,Ny177.out];exact HP22.1);clear HP22;have n0_:=Aside0.mk (Kd.R_over' (v:=(.slice (some ⟨go20,0,none⟩) x6_1.length co20)) (YR HO_4) (Kd.R_typed HO_6.out) (by decide) hg);have n1_:=Aside0.mk (Kd.R_over' (v:=(.slice (some ⟨go20,0,none⟩) x6_1.length co20)) (YR HO_5) (Kd.R_typed HO_6.out) (by decide) hg);have n2_:=Aside0.mk (hp_);have n3_:=Aside0.mk (Kd.R_over' (v:=(.slice (some ⟨go20,0,none⟩) x6_1.length co20)) (YR HO_7) (Kd.R_typed HO_6.out) (by decide) hg);have n4_:=Aside0.mk (Z89 (YK BK170) hg (Kd.R_ne HO_6.out BK170.out (by decide)));have n5_:=Aside0.mk ((by rw [hw];exact Z8 (HB.out) GB20.out : Below w.heap.size w w23));clear HO_4;clear HO_5;clear HO_6;clear HO_7;clear BK170;clear HB;have HO_4:=n0_;have HO_5:=n1_;have HO_6:=n2_;have HO_7:=n3_;have BK170:=n4_;have HB:=n5_;clear n0_ n1_ n2_ n3_ n4_ n5_;clear hg hw hp_)|((with_reducible refine Z69 (b:=.append) (xs:=#[.tmp 22,.tmp 24]) rfl ?_);at_builtin;refine Kd.R_append (Kd.int .i64) (w0:=w) w.heap.size rfl (.tmp 22) (.tmp 24) 26 3 (.int .i64 0) 8 rfl Try.underlying26 info3 rfl (by decide) (by omega) u5 x5_1 x8_1 [.int .i64 x8_1] (fun k_ => some k_ ≠ (u4 : Value).ownBlock ∧ some k_ ≠ (v175 : Value).ownBlock) (fun _ => False) rfl rfl ?aP (fun _ hk => hk.elim) ?aF ?aO ?aB ?aS ?aL ?_;(case aP => exact rfl);(case aB => exact YH);(case aF => exact (fun k_ hk => ⟨Kd.fresh' (Kd.R_lt (YR HO_4)) k_ hk,Kd.fresh' (Kd.R_lt (YR HO_7)) k_ hk⟩));(case aO => exact (YR HO_5));(case aS => exact (Z27 YH));(case aL => have:=LMc21.out;omega);intro v179 w24 ho hb hg hat;rw [← Ny178.out] at ho;have n0_:=Aside0.mk (Kd.R_after (ok:=(fun k_ => some k_ ≠ (v175 : Value).ownBlock)) (by (with_reducible repeat (first|apply Kd.R_alloc|apply Kd.R_drewN|apply Kd.R_drew));exact Kd.R_mono HO_4.out (fun _ hk => ⟨hk.2,hk.1⟩)) hg hat);have n1_:=Aside0.mk (Kd.R_over' (YR HO_6) (Kd.R_typed (YR HO_5)) (by decide) hg);have n2_:=Aside0.mk (Kd.R_after (ok:=(fun k_ => some k_ ≠ (u4 : Value).ownBlock)) (YR HO_7) hg hat);have n3_:=Aside0.mk (Z89 (YK BK170) hg (Kd.R_ne HO_5.out BK170.out (by decide)));have n4_:=Aside0.mk (hb);have n5_:=Aside0.mk (ho);clear HO_4;clear HO_6;clear HO_7;clear BK170;clear HB;clear HO_5;have HO_4:=n0_;have HO_6:=n1_;have HO_7:=n2_;have BK170:=n3_;have HB:=n4_;have HO180:=n5_;clear n0_ n1_ n2_ n3_ n4_ n5_;clear ho hb hg hat))
                 repeat (go_quiet (first|((with_reducible refine gate_store (t:=4) (p:=21) rfl ?_);(try (rw [Z43 wr];generalize hq_ : World.drewN wr _ = wr;have n0_:=Aside0.mk (Kd.R_at hq_ HO_4.out);have n1_:=Aside0.mk (Kd.R_at hq_ HO_5.out);have n2_:=Aside0.mk (Kd.R_at hq_ HO_6.out);have n3_:=Aside0.mk (Kd.R_at hq_ HO_7.out);have n4_:=Aside0.mk (blk_at hq_ BK170.out);have n5_:=Aside0.mk (below_at hq_ HB.out);(try (replace hx20_0:=Eq.trans (congrArg (fun w_ : World => w_.cell? _) hq_.symm) hx20_0));(try (replace hf20_0:=Eq.trans (congrArg (fun w_ : World => w_.frozen? _) hq_.symm) hf20_0));clear hq_ HO_4 HO_5 HO_6 HO_7 BK170 HB;have HO_4:=n0_;have HO_5:=n1_;have HO_6:=n2_;have HO_7:=n3_;have BK170:=n4_;have HB:=n5_;clear n0_ n1_ n2_ n3_ n4_ n5_;(try (have HP22:=Kd.R_putg HO_6.out (x8_1 : Int) true))));refine store_event (t:=4) (p:=21) (v:=?vo_w23) (w1:=(wr.setCell ⟨go20,(x8_1 : Int).toNat,none⟩ (.bool true))) ?hg ?ho ?hn ?hr ?_;(case ho => rfl);(case hg => rfl);(case hn => rfl);(case hr => first|(go_simp;done)|(go_simp;rfl));intro w23 hw;have hg : wr.grownBy w23 (some go20):=(by rw [hw];exact HP22.2);have hp_ : Kd.R Kd.bool 4 w23 w.heap.size (fun _ => True) (.slice (some ⟨go20,0,none⟩) x6_1.length co20) y177:=(by rw [hw,Ny177.out];exact HP22.1);clear HP22;have n0_:=Aside0.mk (Kd.R_over' (v:=(.slice (some ⟨go20,0,none⟩) x6_1.length co20)) (YR HO_4) (Kd.R_typed HO_6.out) (by decide) hg);have n1_:=Aside0.mk (Kd.R_over' (v:=(.slice (some ⟨go20,0,none⟩) x6_1.length co20)) (YR HO_5) (Kd.R_typed HO_6.out) (by decide) hg);have n2_:=Aside0.mk (hp_);have n3_:=Aside0.mk (Kd.R_over' (v:=(.slice (some ⟨go20,0,none⟩) x6_1.length co20)) (YR HO_7) (Kd.R_typed HO_6.out) (by decide) hg);have n4_:=Aside0.mk (Z89 (YK BK170) hg (Kd.R_ne HO_6.out BK170.out (by decide)));have n5_:=Aside0.mk ((by rw [hw];exact Z8 (HB.out) GB20.out : Below w.heap.size w w23));clear HO_4;clear HO_5;clear HO_6;clear HO_7;clear BK170;clear HB;have HO_4:=n0_;have HO_5:=n1_;have HO_6:=n2_;have HO_7:=n3_;have BK170:=n4_;have HB:=n5_;clear n0_ n1_ n2_ n3_ n4_ n5_;clear hg hw hp_)|((with_reducible refine Z69 (b:=.append) (xs:=#[.tmp 22,.tmp 24]) rfl ?_);at_builtin;refine Kd.R_append (Kd.int .i64) (w0:=w) w.heap.size rfl (.tmp 22) (.tmp 24) 26 3 (.int .i64 0) 8 rfl Try.underlying26 info3 rfl (by decide) (by omega) u5 x5_1 x8_1 [.int .i64 x8_1] (fun k_ => some k_ ≠ (u4 : Value).ownBlock ∧ some k_ ≠ (v175 : Value).ownBlock) (fun _ => False) rfl rfl ?aP (fun _ hk => hk.elim) ?aF ?aO ?aB ?aS ?aL ?_;(case aP => exact rfl);(case aB => exact YH);(case aF => exact (fun k_ hk => ⟨Kd.fresh' (Kd.R_lt (YR HO_4)) k_ hk,Kd.fresh' (Kd.R_lt (YR HO_7)) k_ hk⟩));(case aO => exact (YR HO_5));(case aS => exact (Z27 YH));(case aL => have:=LMc21.out;omega);intro v179 w24 ho hb hg hat;rw [← Ny178.out] at ho;have n0_:=Aside0.mk (Kd.R_after (ok:=(fun k_ => some k_ ≠ (v175 : Value).ownBlock)) (by (with_reducible repeat (first|apply Kd.R_alloc|apply Kd.R_drewN|apply Kd.R_drew));exact Kd.R_mono HO_4.out (fun _ hk => ⟨hk.2,hk.1⟩)) hg hat);have n1_:=Aside0.mk (Kd.R_over' (YR HO_6) (Kd.R_typed (YR HO_5)) (by decide) hg);have n2_:=Aside0.mk (Kd.R_after (ok:=(fun k_ => some k_ ≠ (u4 : Value).ownBlock)) (YR HO_7) hg hat);have n3_:=Aside0.mk (Z89 (YK BK170) hg (Kd.R_ne HO_5.out BK170.out (by decide)));have n4_:=Aside0.mk (hb);have n5_:=Aside0.mk (ho);clear HO_4;clear HO_6;clear HO_7;clear BK170;clear HB;clear HO_5;have HO_4:=n0_;have HO_6:=n1_;have HO_7:=n2_;have BK170:=n3_;have HB:=n4_;have HO180:=n5_;clear n0_ n1_ n2_ n3_ n4_ n5_;clear ho hb hg hat));try go_wp2_with (first|((with_reducible refine gate_store (t:=4) (p:=21) rfl ?_);(try (rw [Z43 wr];generalize hq_ : World.drewN wr _ = wr;have n0_:=Aside0.mk (Kd.R_at hq_ HO_4.out);have n1_:=Aside0.mk (Kd.R_at hq_ HO_5.out);have n2_:=Aside0.mk (Kd.R_at hq_ HO_6.out);have n3_:=Aside0.mk (Kd.R_at hq_ HO_7.out);have n4_:=Aside0.mk (blk_at hq_ BK170.out);have n5_:=Aside0.mk (below_at hq_ HB.out);(try (replace hx20_0:=Eq.trans (congrArg (fun w_ : World => w_.cell? _) hq_.symm) hx20_0));(try (replace hf20_0:=Eq.trans (congrArg (fun w_ : World => w_.frozen? _) hq_.symm) hf20_0));clear hq_ HO_4 HO_5 HO_6 HO_7 BK170 HB;have HO_4:=n0_;have HO_5:=n1_;have HO_6:=n2_;have HO_7:=n3_;have BK170:=n4_;have HB:=n5_;clear n0_ n1_ n2_ n3_ n4_ n5_;(try (have HP22:=Kd.R_putg HO_6.out (x8_1 : Int) true))));refine store_event (t:=4) (p:=21) (v:=?vo_w23) (w1:=(wr.setCell ⟨go20,(x8_1 : Int).toNat,none⟩ (.bool true))) ?hg ?ho ?hn ?hr ?_;(case ho => rfl);(case hg => rfl);(case hn => rfl);(case hr => first|(go_simp;done)|(go_simp;rfl));intro w23 hw;have hg : wr.grownBy w23 (some go20):=(by rw [hw];exact HP22.2);have hp_ : Kd.R Kd.bool 4 w23 w.heap.size (fun _ => True) (.slice (some ⟨go20,0,none⟩) x6_1.length co20) y177:=(by rw [hw,Ny177.out];exact HP22.1);clear HP22;have n0_:=Aside0.mk (Kd.R_over' (v:=(.slice (some ⟨go20,0,none⟩) x6_1.length co20)) (YR HO_4) (Kd.R_typed HO_6.out) (by decide) hg);have n1_:=Aside0.mk (Kd.R_over' (v:=(.slice (some ⟨go20,0,none⟩) x6_1.length co20)) (YR HO_5) (Kd.R_typed HO_6.out) (by decide) hg);have n2_:=Aside0.mk (hp_);have n3_:=Aside0.mk (Kd.R_over' (v:=(.slice (some ⟨go20,0,none⟩) x6_1.length co20)) (YR HO_7) (Kd.R_typed HO_6.out) (by decide) hg);have n4_:=Aside0.mk (Z89 (YK BK170) hg (Kd.R_ne HO_6.out BK170.out (by decide)));have n5_:=Aside0.mk ((by rw [hw];exact Z8 (HB.out) GB20.out : Below w.heap.size w w23));clear HO_4;clear HO_5;clear HO_6;clear HO_7;clear BK170;clear HB;have HO_4:=n0_;have HO_5:=n1_;have HO_6:=n2_;have HO_7:=n3_;have BK170:=n4_;have HB:=n5_;clear n0_ n1_ n2_ n3_ n4_ n5_;clear hg hw hp_)|((with_reducible refine Z69 (b:=.append) (xs:=#[.tmp 22,.tmp 24]) rfl ?_);at_builtin;refine Kd.R_append (Kd.int .i64) (w0:=w) w.heap.size rfl (.tmp 22) (.tmp 24) 26 3 (.int .i64 0) 8 rfl Try.underlying26 info3 rfl (by decide) (by omega) u5 x5_1 x8_1 [.int .i64 x8_1] (fun k_ => some k_ ≠ (u4 : Value).ownBlock ∧ some k_ ≠ (v175 : Value).ownBlock) (fun _ => False) rfl rfl ?aP (fun _ hk => hk.elim) ?aF ?aO ?aB ?aS ?aL ?_;(case aP => exact rfl);(case aB => exact YH);(case aF => exact (fun k_ hk => ⟨Kd.fresh' (Kd.R_lt (YR HO_4)) k_ hk,Kd.fresh' (Kd.R_lt (YR HO_7)) k_ hk⟩));(case aO => exact (YR HO_5));(case aS => exact (Z27 YH));(case aL => have:=LMc21.out;omega);intro v179 w24 ho hb hg hat;rw [← Ny178.out] at ho;have n0_:=Aside0.mk (Kd.R_after (ok:=(fun k_ => some k_ ≠ (v175 : Value).ownBlock)) (by (with_reducible repeat (first|apply Kd.R_alloc|apply Kd.R_drewN|apply Kd.R_drew));exact Kd.R_mono HO_4.out (fun _ hk => ⟨hk.2,hk.1⟩)) hg hat);have n1_:=Aside0.mk (Kd.R_over' (YR HO_6) (Kd.R_typed (YR HO_5)) (by decide) hg);have n2_:=Aside0.mk (Kd.R_after (ok:=(fun k_ => some k_ ≠ (u4 : Value).ownBlock)) (YR HO_7) hg hat);have n3_:=Aside0.mk (Z89 (YK BK170) hg (Kd.R_ne HO_5.out BK170.out (by decide)));have n4_:=Aside0.mk (hb);have n5_:=Aside0.mk (ho);clear HO_4;clear HO_6;clear HO_7;clear BK170;clear HB;clear HO_5;have HO_4:=n0_;have HO_6:=n1_;have HO_7:=n2_;have BK170:=n3_;have HB:=n4_;have HO180:=n5_;clear n0_ n1_ n2_ n3_ n4_ n5_;clear ho hb hg hat)))
                 refine wp_label ?_;(try simp only [Exit.then]);go_step
                 refine AL.out k1 _ _ (Nat.lt_succ_self _) ?_;(repeat apply Exists.intro);refine ⟨?rel,rfl⟩;case rel => exact ⟨(x4_1),(y178),(y177),(x7_1),H',⟨by have:=HK1.out;omega⟩,⟨by (with_reducible repeat (first|apply Kd.R_alloc|apply Kd.R_drewN|apply Kd.R_drew));exact Kd.R_mono HO_4.out (fun _ hk => ⟨hk.2,hk.1⟩)⟩,⟨YR HO180⟩,⟨YR HO_6⟩,⟨YR HO_7⟩,⟨YK BK170⟩,⟨YH⟩,⟨by rw [Ny177.out,List.length_set];have h1_:=of_eq_true p20;have h2_:=of_eq_true q20;omega⟩⟩
               · rw [if_neg c21] at H;exact absurd H (by simp)
             · rw [if_neg c19] at H;exact absurd H (by simp)
           · rw [if_neg c18] at H;exact absurd H (by simp)
         case first =>
          intro K0 K1 hL;have AL:=Aside0.mk hL
          clear hL;go_wp2_with (first|((with_reducible refine Z52 (N:=1) rfl ?_);refine Z51 ?hg (N:=1) ?hd (cs:=#[.string a0_0,.int .i64 a0_1,.int .i64 a0_2,.int .i64 a0_3,.slice A0_4 l0_4.length c0_4]) (t:=24) ?hr ?_;(case hd => rfl);(case hg => rfl);(case hr => first|(go_simp;done)|(go_simp;rfl));intro gb170 hg w12 hbox hb;have n0_:=Aside0.mk (Z25 YH hb);have n1_:=Aside0.mk (hbox);have n2_:=Aside0.mk ((by rw [hg];exact (Z27 YH) : w.heap.size ≤ gb170));have n3_:=Aside0.mk ((by rw [hg];exact (Z27 YH) : w.heap.size ≤ gb170));clear HB;have HB:=n0_;have BK170:=n1_;have GW170:=n2_;have GE170:=n3_;clear n0_ n1_ n2_ n3_;clear hb hbox hg;have hcz13_4 : w12.cell? ⟨gb170,4,none⟩ = some (.slice A0_4 l0_4.length c0_4):=(Z5 BK170.out 4).trans rfl)|((with_reducible refine Z52 (N:=14) rfl ?_);refine Kd.R_make Kd.bool _ 4 rfl (N:=14) rfl 34 _ _ rfl (l0_4.length : Int) rfl rfl Try.underlying34 (.bool false) 1 info4 rfl (by decide) (by omega) false (ok:=fun _ => True) (okp:=fun _ => True) rfl (fun _ hk => hk) trivial YA (Nat.le_trans (Nat.mul_le_mul_right _ (YA : (l0_4.length : Int).toNat ≤ 281474976710656)) (by omega)) (Below.refl _ _) (Nat.le_refl _) ?_;intro v172 w14 ho15 hb hg_ hnew_;clear hg_ hnew_;(first|rw [← Ny171.out] at ho15|(simp only [Int.reduceToNat] at ho15;rw [← Ny171.out] at ho15));have n0_:=Aside0.mk (Kd.R_lower ho15 (Z27 YH));have n1_:=Aside0.mk (Z40 (YK BK170) hb);have n2_:=Aside0.mk (Z25 YH hb);clear BK170;clear HB;have HO173:=n0_;have BK170:=n1_;have HB:=n2_;clear n0_ n1_ n2_;clear hb ho15)|((with_reducible refine Z52 (N:=16) rfl ?_);refine Kd.R_make (Kd.int .i64) _ 3 rfl (N:=16) rfl 26 _ _ rfl (l0_4.length : Int) rfl rfl Try.underlying26 (.int .i64 0) 8 info3 rfl (by decide) (by omega) 0 (ok:=fun _ => True) (okp:=fun _ => True) rfl (fun _ hk => hk) trivial YA (Nat.le_trans (Nat.mul_le_mul_right _ (YA : (l0_4.length : Int).toNat ≤ 35184372088832)) (by omega)) (Below.refl _ _) (Nat.le_refl _) ?_;intro v175 w16 ho17 hb hg_ hnew_;clear hg_ hnew_;(first|rw [← Ny174.out] at ho17|(simp only [Int.reduceToNat] at ho17;rw [← Ny174.out] at ho17));have n0_:=Aside0.mk (Kd.R_below (YR HO173) hb);have n1_:=Aside0.mk (Kd.R_lower ho17 (Z27 YH));have n2_:=Aside0.mk (Z40 (YK BK170) hb);have n3_:=Aside0.mk (Z25 YH hb);clear HO173;clear BK170;clear HB;have HO173:=n0_;have HO176:=n1_;have BK170:=n2_;have HB:=n3_;clear n0_ n1_ n2_ n3_;clear hb ho17))
          repeat (go_quiet (first|((with_reducible refine Z52 (N:=1) rfl ?_);refine Z51 ?hg (N:=1) ?hd (cs:=#[.string a0_0,.int .i64 a0_1,.int .i64 a0_2,.int .i64 a0_3,.slice A0_4 l0_4.length c0_4]) (t:=24) ?hr ?_;(case hd => rfl);(case hg => rfl);(case hr => first|(go_simp;done)|(go_simp;rfl));intro gb170 hg w12 hbox hb;have n0_:=Aside0.mk (Z25 YH hb);have n1_:=Aside0.mk (hbox);have n2_:=Aside0.mk ((by rw [hg];exact (Z27 YH) : w.heap.size ≤ gb170));have n3_:=Aside0.mk ((by rw [hg];exact (Z27 YH) : w.heap.size ≤ gb170));clear HB;have HB:=n0_;have BK170:=n1_;have GW170:=n2_;have GE170:=n3_;clear n0_ n1_ n2_ n3_;clear hb hbox hg;have hcz13_4 : w12.cell? ⟨gb170,4,none⟩ = some (.slice A0_4 l0_4.length c0_4):=(Z5 BK170.out 4).trans rfl)|((with_reducible refine Z52 (N:=14) rfl ?_);refine Kd.R_make Kd.bool _ 4 rfl (N:=14) rfl 34 _ _ rfl (l0_4.length : Int) rfl rfl Try.underlying34 (.bool false) 1 info4 rfl (by decide) (by omega) false (ok:=fun _ => True) (okp:=fun _ => True) rfl (fun _ hk => hk) trivial YA (Nat.le_trans (Nat.mul_le_mul_right _ (YA : (l0_4.length : Int).toNat ≤ 281474976710656)) (by omega)) (Below.refl _ _) (Nat.le_refl _) ?_;intro v172 w14 ho15 hb hg_ hnew_;clear hg_ hnew_;(first|rw [← Ny171.out] at ho15|(simp only [Int.reduceToNat] at ho15;rw [← Ny171.out] at ho15));have n0_:=Aside0.mk (Kd.R_lower ho15 (Z27 YH));have n1_:=Aside0.mk (Z40 (YK BK170) hb);have n2_:=Aside0.mk (Z25 YH hb);clear BK170;clear HB;have HO173:=n0_;have BK170:=n1_;have HB:=n2_;clear n0_ n1_ n2_;clear hb ho15)|((with_reducible refine Z52 (N:=16) rfl ?_);refine Kd.R_make (Kd.int .i64) _ 3 rfl (N:=16) rfl 26 _ _ rfl (l0_4.length : Int) rfl rfl Try.underlying26 (.int .i64 0) 8 info3 rfl (by decide) (by omega) 0 (ok:=fun _ => True) (okp:=fun _ => True) rfl (fun _ hk => hk) trivial YA (Nat.le_trans (Nat.mul_le_mul_right _ (YA : (l0_4.length : Int).toNat ≤ 35184372088832)) (by omega)) (Below.refl _ _) (Nat.le_refl _) ?_;intro v175 w16 ho17 hb hg_ hnew_;clear hg_ hnew_;(first|rw [← Ny174.out] at ho17|(simp only [Int.reduceToNat] at ho17;rw [← Ny174.out] at ho17));have n0_:=Aside0.mk (Kd.R_below (YR HO173) hb);have n1_:=Aside0.mk (Kd.R_lower ho17 (Z27 YH));have n2_:=Aside0.mk (Z40 (YK BK170) hb);have n3_:=Aside0.mk (Z25 YH hb);clear HO173;clear BK170;clear HB;have HO173:=n0_;have HO176:=n1_;have BK170:=n2_;have HB:=n3_;clear n0_ n1_ n2_ n3_;clear hb ho17));try go_wp2_with (first|((with_reducible refine Z52 (N:=1) rfl ?_);refine Z51 ?hg (N:=1) ?hd (cs:=#[.string a0_0,.int .i64 a0_1,.int .i64 a0_2,.int .i64 a0_3,.slice A0_4 l0_4.length c0_4]) (t:=24) ?hr ?_;(case hd => rfl);(case hg => rfl);(case hr => first|(go_simp;done)|(go_simp;rfl));intro gb170 hg w12 hbox hb;have n0_:=Aside0.mk (Z25 YH hb);have n1_:=Aside0.mk (hbox);have n2_:=Aside0.mk ((by rw [hg];exact (Z27 YH) : w.heap.size ≤ gb170));have n3_:=Aside0.mk ((by rw [hg];exact (Z27 YH) : w.heap.size ≤ gb170));clear HB;have HB:=n0_;have BK170:=n1_;have GW170:=n2_;have GE170:=n3_;clear n0_ n1_ n2_ n3_;clear hb hbox hg;have hcz13_4 : w12.cell? ⟨gb170,4,none⟩ = some (.slice A0_4 l0_4.length c0_4):=(Z5 BK170.out 4).trans rfl)|((with_reducible refine Z52 (N:=14) rfl ?_);refine Kd.R_make Kd.bool _ 4 rfl (N:=14) rfl 34 _ _ rfl (l0_4.length : Int) rfl rfl Try.underlying34 (.bool false) 1 info4 rfl (by decide) (by omega) false (ok:=fun _ => True) (okp:=fun _ => True) rfl (fun _ hk => hk) trivial YA (Nat.le_trans (Nat.mul_le_mul_right _ (YA : (l0_4.length : Int).toNat ≤ 281474976710656)) (by omega)) (Below.refl _ _) (Nat.le_refl _) ?_;intro v172 w14 ho15 hb hg_ hnew_;clear hg_ hnew_;(first|rw [← Ny171.out] at ho15|(simp only [Int.reduceToNat] at ho15;rw [← Ny171.out] at ho15));have n0_:=Aside0.mk (Kd.R_lower ho15 (Z27 YH));have n1_:=Aside0.mk (Z40 (YK BK170) hb);have n2_:=Aside0.mk (Z25 YH hb);clear BK170;clear HB;have HO173:=n0_;have BK170:=n1_;have HB:=n2_;clear n0_ n1_ n2_;clear hb ho15)|((with_reducible refine Z52 (N:=16) rfl ?_);refine Kd.R_make (Kd.int .i64) _ 3 rfl (N:=16) rfl 26 _ _ rfl (l0_4.length : Int) rfl rfl Try.underlying26 (.int .i64 0) 8 info3 rfl (by decide) (by omega) 0 (ok:=fun _ => True) (okp:=fun _ => True) rfl (fun _ hk => hk) trivial YA (Nat.le_trans (Nat.mul_le_mul_right _ (YA : (l0_4.length : Int).toNat ≤ 35184372088832)) (by omega)) (Below.refl _ _) (Nat.le_refl _) ?_;intro v175 w16 ho17 hb hg_ hnew_;clear hg_ hnew_;(first|rw [← Ny174.out] at ho17|(simp only [Int.reduceToNat] at ho17;rw [← Ny174.out] at ho17));have n0_:=Aside0.mk (Kd.R_below (YR HO173) hb);have n1_:=Aside0.mk (Kd.R_lower ho17 (Z27 YH));have n2_:=Aside0.mk (Z40 (YK BK170) hb);have n3_:=Aside0.mk (Z25 YH hb);clear HO173;clear BK170;clear HB;have HO173:=n0_;have HO176:=n1_;have BK170:=n2_;have HB:=n3_;clear n0_ n1_ n2_ n3_;clear hb ho17)))
          refine wp_label ?_;(try simp only [Exit.then]);go_step
          refine AL.out k _ _ ?_;(repeat apply Exists.intro);refine ⟨?rel,rfl⟩;case rel => exact ⟨(([] : List Int)),(([] : List Int)),(y171),(y174),(0),(by first|rfl|(simp;done)|(simp [*];done)),H',⟨Nat.le_refl _⟩,⟨by first|exact Kd.R_nil _ _ _ _ _|exact Kd.N_nil _ _ _ _ _|exact Kd.V_nil _ _ _ _ _|exact Kd.Q_nil _ _ _ _ _|exact Kd.S_nil _ _ _ _ _⟩,⟨by first|exact Kd.R_nil _ _ _ _ _|exact Kd.N_nil _ _ _ _ _|exact Kd.V_nil _ _ _ _ _|exact Kd.Q_nil _ _ _ _ _|exact Kd.S_nil _ _ _ _ _⟩,⟨YR HO173⟩,⟨by (with_reducible repeat (first|apply Kd.R_alloc|apply Kd.R_drewN|apply Kd.R_drew));exact Kd.R_mono HO176.out (fun _ hk => ⟨(by simp [Value.ownBlock]),(by simp [Value.ownBlock])⟩)⟩,⟨YK BK170⟩,⟨YH⟩⟩
     · rw [if_neg c4] at H;exact absurd H (by simp)
   · rw [if_neg c3] at H;exact absurd H (by simp)
 · rw [if_neg c2] at H;exact absurd H (by simp)
end Go.Proofs.Ytbklmnieakefnaa.Q
namespace Go.Proofs.Ytbklmnieakefnaa.Q
open Go.RowKit Go.Proofs.YtbklmnieakefnaaW.PrintWords Go.Proofs.YtbklmnieakefnaaW.PrintLast Go.Proofs.YtbklmnieakefnaaW.PrintMore

set_option linter.unusedVariables false
set_option linter.unusedSimpArgs false
def ir_within.f (a0 : Int) (a1 : Int) (a2 : Int) : Option (Bool):=if a0 ≥ a1 then (some (decide (a0 ≤ a2))) else (some false)
set_option maxHeartbeats 8000000 in
set_option maxRecDepth 100000 in
theorem ir_within.calls (a0 : Int) (a1 : Int) (a2 : Int) (r : Bool) (w : World) (h : ir_within.f a0 a1 a2 = some r) :
 Calls Try.prog 36 #[.int .i64 a0,.int .i64 a1,.int .i64 a2] w fun e w' => e = .returned (.bool r) ∧ Drawn0 w w' := by
 have H : (if a0 ≥ a1 then (some (decide (a0 ≤ a2))) else (some false)) = some r:=h
 clear h;by_cases c4 : a0 ≥ a1
 · rw [if_pos c4] at H;have c4b0 : decide (a1 ≤ a0) = true:=decide_eq_true c4
   clear c4;obtain rfl:=Option.some.inj H
   go_enter Try.func36,Try.ntmps36
   go_wp2
   go_ret
   exact ⟨by first|rfl|(simp;done)|(simp [*];done),by repeat (first|exact Drawn0.refl _|apply Drawn0.step)⟩
 · rw [if_neg c4] at H;have c4b0 : decide (a1 ≤ a0) = false:=decide_eq_false c4
   clear c4;obtain rfl:=Option.some.inj H
   go_enter Try.func36,Try.ntmps36
   go_wp2
   go_ret
   exact ⟨by first|rfl|(simp;done)|(simp [*];done),by repeat (first|exact Drawn0.refl _|apply Drawn0.step)⟩
end Go.Proofs.Ytbklmnieakefnaa.Q
