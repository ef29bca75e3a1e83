/- A part of the proof, made small by a program: Qx32. -/
import Derived.Test.YtbklmnieakefnaaVn1
import Derived.Test.YtbklmnieakefnaaVn6
import Derived.Test.YtbklmnieakefnaaVn7
import Derived.Test.YtbklmnieakefnaaVn8
namespace Go.Proofs.Ytbklmnieakefnaa.Q
open Go.RowKit Go.Proofs.YtbklmnieakefnaaW.PrintWords Go.Proofs.YtbklmnieakefnaaW.PrintLast Go.Proofs.YtbklmnieakefnaaW.PrintMore

set_option linter.unusedVariables false
set_option linter.unusedSimpArgs false
mutual
def order_Loops.l0 : Nat → List Int → List Bool → List (List Int) → List (S42) → Int → Int → ByteArray → Int → Int → Int → List (S45) → Option ((List (S42)))
 | 0,_,_,_,_,_,_,_,_,_,_,_ => none
 | k + 1,x3,x4,x5,x6,x27,x28,x514000,x514001,x514002,x514003,x514004 => if x28 < x27 then (if 0 ≤ x28 then (if x28 < (x4.length : Int) then (if rdOf false x4 x28 = true then (if 0 ≤ (x514004.length : Int) then (if ((x514004.length : Int) : Int).toNat ≤ 281474976710656 then ((some (List.replicate ((x514004.length : Int) : Int).toNat false : List Bool)).bind fun y524 => (if x28 < (y524.length : Int) then (if x28 < (x5.length : Int) then (order_Loops.l1 k x3 x4 x5 x6 x28 (y524.set (x28 : Int).toNat true) ([] : List Int) false x27 x28 (rd_L1 x5 x28) ((rd_L1 x5 x28).length : Int) 0 x514000 x514001 x514002 x514003 x514004) else (none)) else (none))) else (none)) else (none)) else (order_Loops.l0 k x3 x4 x5 x6 x27 (wrap64 (x28 + 1)) x514000 x514001 x514002 x514003 x514004)) else (none)) else (none)) else (some x6)
def order_Loops.l1 : Nat → List Int → List Bool → List (List Int) → List (S42) → Int → List Bool → List Int → Bool → Int → Int → List Int → Int → Int → ByteArray → Int → Int → Int → List (S45) → Option ((List (S42)))
 | 0,_,_,_,_,_,_,_,_,_,_,_,_,_,_,_,_,_,_ => none
 | k + 1,x3,x4,x5,x6,x7,x8,x9,x10,x27,x28,x46,x47,x48,x514000,x514001,x514002,x514003,x514004 => if x48 < x47 then (if 0 ≤ x48 then (if x48 < (x46.length : Int) then (if 0 ≤ (rd x46 x48) then (if (rd x46 x48) < (x4.length : Int) then (if rdOf false x4 (rd x46 x48) = true then ((order_above.f k x3 x7 (rd x46 x48)).bind fun t531 => (order_Loops.j2 k x3 x4 x5 x6 x7 x8 x9 x10 (rd x46 x48) x27 x28 x46 x47 x48 t531 x514000 x514001 x514002 x514003 x514004)) else (order_Loops.j2 k x3 x4 x5 x6 x7 x8 x9 x10 (rd x46 x48) x27 x28 x46 x47 x48 false x514000 x514001 x514002 x514003 x514004)) else (none)) else (none)) else (none)) else (none)) else (if x10 = true then (order_Loops.l2 k x3 x4 x5 x6 x7 x8 x9 x27 x28 x514000 x514001 x514002 x514003 x514004) else (order_Loops.l0 k x3 x4 x5 x6 x27 (wrap64 (x28 + 1)) x514000 x514001 x514002 x514003 x514004))
def order_Loops.j2 : Nat → List Int → List Bool → List (List Int) → List (S42) → Int → List Bool → List Int → Bool → Int → Int → Int → List Int → Int → Int → Bool → ByteArray → Int → Int → Int → List (S45) → Option ((List (S42)))
 | 0,_,_,_,_,_,_,_,_,_,_,_,_,_,_,_,_,_,_,_,_ => none
 | k + 1,x3,x4,x5,x6,x7,x8,x9,x10,x12,x27,x28,x46,x47,x48,x61,x514000,x514001,x514002,x514003,x514004 => if x61 = true then (if 0 ≤ x12 then (if x12 < (x8.length : Int) then (if rdOf false x8 x12 = true then (order_Loops.l1 k x3 x4 x5 x6 x7 x8 x9 true x27 x28 x46 x47 (wrap64 (x48 + 1)) x514000 x514001 x514002 x514003 x514004) else (if x9.length < 17592186044416 then (order_Loops.l1 k x3 x4 x5 x6 x7 (x8.set (x12 : Int).toNat true) (x9 ++ [x12]) true x27 x28 x46 x47 (wrap64 (x48 + 1)) x514000 x514001 x514002 x514003 x514004) else (none))) else (none)) else (none)) else (order_Loops.l1 k x3 x4 x5 x6 x7 x8 x9 x10 x27 x28 x46 x47 (wrap64 (x48 + 1)) x514000 x514001 x514002 x514003 x514004)
def order_Loops.l2 : Nat → List Int → List Bool → List (List Int) → List (S42) → Int → List Bool → List Int → Int → Int → ByteArray → Int → Int → Int → List (S45) → Option ((List (S42)))
 | 0,_,_,_,_,_,_,_,_,_,_,_,_,_,_ => none
 | k + 1,x3,x4,x5,x6,x7,x8,x9,x27,x28,x514000,x514001,x514002,x514003,x514004 => if (x9.length : Int) > 0 then (if 0 ≤ (wrap64 ((x9.length : Int) - 1)) then (if (wrap64 ((x9.length : Int) - 1)) < (x9.length : Int) then (if (wrap64 ((x9.length : Int) - 1)) ≤ (x9.length : Int) then (if 0 ≤ (rd x9 (wrap64 ((x9.length : Int) - 1))) then (if (rd x9 (wrap64 ((x9.length : Int) - 1))) < (x5.length : Int) then (order_Loops.l3 k x3 x4 x5 x6 x7 x8 (x9.take ((wrap64 ((x9.length : Int) - 1)) : Int).toNat) x27 x28 (rd_L1 x5 (rd x9 (wrap64 ((x9.length : Int) - 1)))) ((rd_L1 x5 (rd x9 (wrap64 ((x9.length : Int) - 1)))).length : Int) 0 x514000 x514001 x514002 x514003 x514004) else (none)) else (none)) else (none)) else (none)) else (none)) else (order_Loops.l4 k x3 x4 x5 x6 x27 x28 x8 (x8.length : Int) 0 x514000 x514001 x514002 x514003 x514004 x7 ([] : List Int))
def order_Loops.l3 : Nat → List Int → List Bool → List (List Int) → List (S42) → Int → List Bool → List Int → Int → Int → List Int → Int → Int → ByteArray → Int → Int → Int → List (S45) → Option ((List (S42)))
 | 0,_,_,_,_,_,_,_,_,_,_,_,_,_,_,_,_,_ => none
 | k + 1,x3,x4,x5,x6,x7,x8,x9,x27,x28,x94,x95,x96,x514000,x514001,x514002,x514003,x514004 => if x96 < x95 then (if 0 ≤ x96 then (if x96 < (x94.length : Int) then (if 0 ≤ (rd x94 x96) then (if (rd x94 x96) < (x4.length : Int) then (if rdOf false x4 (rd x94 x96) = true then (if (rd x94 x96) < (x8.length : Int) then (if (rdOf false x8 (rd x94 x96) = true) then (order_Loops.l3 k x3 x4 x5 x6 x7 x8 x9 x27 x28 x94 x95 (wrap64 (x96 + 1)) x514000 x514001 x514002 x514003 x514004) else (if x9.length < 17592186044416 then (order_Loops.l3 k x3 x4 x5 x6 x7 (x8.set ((rd x94 x96) : Int).toNat true) (x9 ++ [rd x94 x96]) x27 x28 x94 x95 (wrap64 (x96 + 1)) x514000 x514001 x514002 x514003 x514004) else (none))) else (none)) else (order_Loops.l3 k x3 x4 x5 x6 x7 x8 x9 x27 x28 x94 x95 (wrap64 (x96 + 1)) x514000 x514001 x514002 x514003 x514004)) else (none)) else (none)) else (none)) else (none)) else (order_Loops.l2 k x3 x4 x5 x6 x7 x8 x9 x27 x28 x514000 x514001 x514002 x514003 x514004)
def order_Loops.l4 : Nat → List Int → List Bool → List (List Int) → List (S42) → Int → Int → List Bool → Int → Int → ByteArray → Int → Int → Int → List (S45) → Int → List Int → Option ((List (S42)))
 | 0,_,_,_,_,_,_,_,_,_,_,_,_,_,_,_,_ => none
 | k + 1,x3,x4,x5,x6,x27,x28,x121,x122,x123,x514000,x514001,x514002,x514003,x514004,x550000,x550001 => if x123 < x122 then (if 0 ≤ x123 then (if x123 < (x121.length : Int) then (if rdOf false x121 x123 = true then (if x550001.length < 17592186044416 then (order_Loops.l4 k x3 x4 x5 x6 x27 x28 x121 x122 (wrap64 (x123 + 1)) x514000 x514001 x514002 x514003 x514004 x550000 (x550001 ++ [x123])) else (none)) else (order_Loops.l4 k x3 x4 x5 x6 x27 x28 x121 x122 (wrap64 (x123 + 1)) x514000 x514001 x514002 x514003 x514004 x550000 x550001)) else (none)) else (none)) else (if x6.length < 4398046511104 then (order_Loops.l0 k x3 x4 x5 (x6 ++ [(⟨x550000,x550001⟩ : S42)]) x27 (wrap64 (x28 + 1)) x514000 x514001 x514002 x514003 x514004) else (none))
end
def order_Loops.f (k : Nat) (a0_0 : ByteArray) (a0_1 : Int) (a0_2 : Int) (a0_3 : Int) (l0_4 : List (S45)) : Option ((List (S42))):=(order_Doms.f k a0_0 a0_1 a0_2 a0_3 l0_4).bind fun t514 => ((ir_Reached.f k a0_0 a0_1 a0_2 a0_3 l0_4).bind fun t517 => ((ir_Preds.f k a0_0 a0_1 a0_2 a0_3 l0_4).bind fun t520 => (order_Loops.l0 k t514 t517 t520 ([] : List (S42)) (l0_4.length : Int) 0 a0_0 a0_1 a0_2 a0_3 l0_4)))
def order_Loops.T1 : Bool × List (List Nat × List Nat):=(true,[([],[]),([0],[0]),([],[]),([2,1],[2]),([],[]),([4,3],[4]),([1,5,0,1],[1]),([3,6,0,1,2,3,6],[3]),([5,7,0,1,2,3,4,5,6,7],[5])])
def order_Loops.B1 : List Nat:=[0,1,0,7,0,31,63,127,255]
theorem order_Loops.tab1 : rtab .any (opsOf Try.f23 1) = order_Loops.T1:=by kernel_rfl
theorem order_Loops.bits1 : waitsOk order_Loops.T1.2 order_Loops.B1 = true:=by kernel_rfl
set_option maxHeartbeats 8000000 in
set_option maxRecDepth 100000 in
theorem order_Loops.calls (k : Nat) (a0_0 : ByteArray) (a0_1 : Int) (a0_2 : Int) (a0_3 : Int) (A0_4 : Option Addr) (c0_4 : Nat) (l0_4 : List (S45)) (r : List (S42)) (w : World) (hr0_4 : Kd.C k45 w A0_4 l0_4.length l0_4) (hc0_4 : l0_4.length ≤ c0_4) (h : order_Loops.f k a0_0 a0_1 a0_2 a0_3 l0_4 = some r) :
 Calls Try.prog 23 #[.agg #[.string a0_0,.int .i64 a0_1,.int .i64 a0_2,.int .i64 a0_3,.slice A0_4 l0_4.length c0_4]] w fun e w' => ∃ v0_ : Value,e = .returned (v0_) ∧ Kd.S k42 42 w' w.heap.size (fun _ => True) v0_ r ∧ Below w.heap.size w w' := by
 have hu24:=Try.underlying24
 have hu42:=Try.underlying42
 have HR0_4:=Aside0.mk hr0_4
 have HC0_4:=Aside0.mk hc0_4
 clear hr0_4 hc0_4;have HB:=Aside0.mk (Below.refl w.heap.size w)
 have H : ((order_Doms.f k a0_0 a0_1 a0_2 a0_3 l0_4).bind fun l1 => ((ir_Reached.f k a0_0 a0_1 a0_2 a0_3 l0_4).bind fun l2 => ((ir_Preds.f k a0_0 a0_1 a0_2 a0_3 l0_4).bind fun l3 => (order_Loops.l0 k l1 l2 l3 ([] : List (S42)) (l0_4.length : Int) 0 a0_0 a0_1 a0_2 a0_3 l0_4)))) = some r:=h
 clear h;replace H:=Option.bind_eq_some_iff.mp H
 obtain ⟨l1,A20,H⟩:=H
 replace H : ((ir_Reached.f k a0_0 a0_1 a0_2 a0_3 l0_4).bind fun l2 => ((ir_Preds.f k a0_0 a0_1 a0_2 a0_3 l0_4).bind fun l3 => (order_Loops.l0 k l1 l2 l3 ([] : List (S42)) (l0_4.length : Int) 0 a0_0 a0_1 a0_2 a0_3 l0_4))) = some r:=H
 have A2:=Aside0.mk A20
 clear A20;replace H:=Option.bind_eq_some_iff.mp H
 obtain ⟨l2,A30,H⟩:=H
 replace H : ((ir_Preds.f k a0_0 a0_1 a0_2 a0_3 l0_4).bind fun l3 => (order_Loops.l0 k l1 l2 l3 ([] : List (S42)) (l0_4.length : Int) 0 a0_0 a0_1 a0_2 a0_3 l0_4)) = some r:=H
 have A3:=Aside0.mk A30
 clear A30;replace H:=Option.bind_eq_some_iff.mp H
 obtain ⟨l3,A40,H⟩:=H
 replace H : (order_Loops.l0 k l1 l2 l3 ([] : List (S42)) (l0_4.length : Int) 0 a0_0 a0_1 a0_2 a0_3 l0_4) = some r:=H
 have A4:=Aside0.mk A40
 clear A40;have H' := Aside0.mk H
 clear H;go_enter Try.func23,Try.ntmps23
 try go_wp2_with (first|((with_reducible refine Z52 (N:=1) rfl ?_);refine Z51 ?hg (N:=1) ?hd (cs:=#[.string a0_0,.int .i64 a0_1,.int .i64 a0_2,.int .i64 a0_3,.slice A0_4 l0_4.length c0_4]) (t:=24) ?hr ?_;(case hd => rfl);(case hg => rfl);(case hr => first|(go_simp;done)|(go_simp;rfl));intro gb226 hg w5 hbox hb;have n0_:=Aside0.mk (Z25 YH hb);have n1_:=Aside0.mk (hbox);have n2_:=Aside0.mk ((by rw [hg];exact (Z27 YH) : w.heap.size ≤ gb226));have n3_:=Aside0.mk ((by rw [hg];exact (Z27 YH) : w.heap.size ≤ gb226));clear HB;have HB:=n0_;have BK226:=n1_;have GW226:=n2_;have GE226:=n3_;clear n0_ n1_ n2_ n3_;clear hb hbox hg))
 have n0_:=Aside0.mk (Z3 BK226.out)
 have n1_:=Aside0.mk (Z6 HB.out)
 clear BK226;clear HB;have BK226:=n0_
 have HB:=n1_
 clear n0_ n1_;refine start_ (n:=9) (S:=fun w' => w'.cell? ⟨gb226,0,none⟩ = some (.string a0_0) ∧ w'.cell? ⟨gb226,1,none⟩ = some (.int .i64 a0_1) ∧ w'.cell? ⟨gb226,2,none⟩ = some (.int .i64 a0_2) ∧ w'.cell? ⟨gb226,3,none⟩ = some (.int .i64 a0_3) ∧ w'.cell? ⟨gb226,4,none⟩ = some (.slice A0_4 l0_4.length c0_4)) (ds:=[]) #[false,false,false,false,false,false,false,false,false] (by kernel_rfl) rfl rfl ⟨(Z5 BK226.out 0).trans rfl,(Z5 BK226.out 1).trans rfl,(Z5 BK226.out 2).trans rfl,(Z5 BK226.out 3).trans rfl,(Z5 BK226.out 4).trans rfl⟩ (fun hHeld => ?_);refine Z74 order_Loops.tab1 order_Loops.bits1 (fun HT_ HW_ => ?_);generalize w5.drew = w6 at BK226 HB hHeld ⊢;refine take_ (i:=0) (N:=some 19) (v:=?_) (a' := ?_) #[true,false,false,false,false,false,false,false,false] rfl rfl (Z67 HT_.out HW_.out (by kernel_rfl)) (fun _ _ _ h => h) (Or.inl ⟨by rfl,?_⟩) hHeld ?_ ?_;rotate_left
 · rintro w' ⟨s0,s1,s2,s3,s4⟩;go_simp
   with_reducible rfl
 rotate_left
 · simp only [Act.put,List.setIfInBounds_toArray,List.set_cons_zero,List.set_cons_succ,i64_w,i32_w];rfl
 refine take_ (i:=2) (N:=some 21) (v:=?_) (a' := ?_) #[true,false,true,false,false,false,false,false,false] rfl rfl (Z67 HT_.out HW_.out (by kernel_rfl)) (fun _ _ _ h => h) (Or.inl ⟨by rfl,?_⟩) hHeld ?_ ?_;rotate_left
 · rintro w' ⟨s0,s1,s2,s3,s4⟩;go_simp
   with_reducible rfl
 rotate_left
 · simp only [Act.put,List.setIfInBounds_toArray,List.set_cons_zero,List.set_cons_succ,i64_w,i32_w];rfl
 refine take_ (i:=4) (N:=some 23) (v:=?_) (a' := ?_) #[true,false,true,false,true,false,false,false,false] rfl rfl (Z67 HT_.out HW_.out (by kernel_rfl)) (fun _ _ _ h => h) (Or.inl ⟨by rfl,?_⟩) hHeld ?_ ?_;rotate_left
 · rintro w' ⟨s0,s1,s2,s3,s4⟩;go_simp
   with_reducible rfl
 rotate_left
 · simp only [Act.put,List.setIfInBounds_toArray,List.set_cons_zero,List.set_cons_succ,i64_w,i32_w];rfl
 refine one_ (i:=1) (N:=some 20) #[true,true,true,false,true,false,false,false,false] rfl rfl (one_of HT_.out (by kernel_rfl)) (by decide) (fun K hK => ?_);refine goes_ Try.func15 (by kernel_rfl) rfl #[.agg #[.string a0_0,.int .i64 a0_1,.int .i64 a0_2,.int .i64 a0_3,.slice A0_4 l0_4.length c0_4]] (by rfl) rfl rfl (by (try simp only [List.map_toArray,List.map_cons,List.map_nil]);first|done|rfl|(simp only [List.length_drop,List.length_take];rfl)) ?_
 with_reducible refine (order_Doms.calls k a0_0 a0_1 a0_2 a0_3 _ _ l0_4 l1 _ ?side1 ?side2 A2.out).mono ?_
 (case side1 => repeat (first|exact (Kd.C_below HR0_4.out HB.out)|(with_reducible refine Kd.C_alloc ?_ _)|(with_reducible refine Kd.C_drewN ?_ _)|(with_reducible refine Kd.C_drew ?_)));(case side2 => exact HC0_4.out);rintro e w7 ⟨v515,rfl,ho0,hb⟩;refine ⟨_,rfl,?_⟩;have n0_:=Aside0.mk (Kd.R_lower ho0 (Z27 YH))
 have n1_:=Aside0.mk (Z40 (YK BK226) hb)
 have n2_:=Aside0.mk (Z25 YH hb)
 clear BK226;clear HB;have HO516:=n0_
 have BK226:=n1_
 have HB:=n2_
 clear n0_ n1_ n2_;(try clear hb);(try clear hb2);(try clear hk);(try clear hi);(try clear ho0);refine hK.out _ _ ⟨(Z5 BK226.out 0).trans rfl,(Z5 BK226.out 1).trans rfl,(Z5 BK226.out 2).trans rfl,(Z5 BK226.out 3).trans rfl,(Z5 BK226.out 4).trans rfl⟩ (fun hHeld => ?_);clear hK K;refine norm_ (a' := ?_) ?_ ?_;rotate_left
 · show Act.put _ (some 20) _ = _
   simp only [Act.put,List.setIfInBounds_toArray,List.set_cons_zero,List.set_cons_succ,i64_w,i32_w];rfl
 refine one_ (i:=3) (N:=some 22) #[true,true,true,true,true,false,false,false,false] rfl rfl (one_of HT_.out (by kernel_rfl)) (by decide) (fun K hK => ?_);refine goes_ Try.func31 (by kernel_rfl) rfl #[.agg #[.string a0_0,.int .i64 a0_1,.int .i64 a0_2,.int .i64 a0_3,.slice A0_4 l0_4.length c0_4]] (by rfl) rfl rfl (by (try simp only [List.map_toArray,List.map_cons,List.map_nil]);first|done|rfl|(simp only [List.length_drop,List.length_take];rfl)) ?_
 with_reducible refine (ir_Reached.calls k a0_0 a0_1 a0_2 a0_3 _ _ l0_4 l2 _ ?side1 ?side2 A3.out).mono ?_
 (case side1 => repeat (first|exact (Kd.C_below HR0_4.out HB.out)|(with_reducible refine Kd.C_alloc ?_ _)|(with_reducible refine Kd.C_drewN ?_ _)|(with_reducible refine Kd.C_drew ?_)));(case side2 => exact HC0_4.out);rintro e w8 ⟨v518,rfl,ho0,hb⟩;refine ⟨_,rfl,?_⟩;have n0_:=Aside0.mk (Kd.R_below (YR HO516) hb)
 have n1_:=Aside0.mk (Kd.R_lower ho0 (Z27 YH))
 have n2_:=Aside0.mk (Z40 (YK BK226) hb)
 have n3_:=Aside0.mk (Z25 YH hb)
 clear HO516;clear BK226;clear HB;have HO516:=n0_
 have HO519:=n1_
 have BK226:=n2_
 have HB:=n3_
 clear n0_ n1_ n2_ n3_;(try clear hb);(try clear hb2);(try clear hk);(try clear hi);(try clear ho0);refine hK.out _ _ ⟨(Z5 BK226.out 0).trans rfl,(Z5 BK226.out 1).trans rfl,(Z5 BK226.out 2).trans rfl,(Z5 BK226.out 3).trans rfl,(Z5 BK226.out 4).trans rfl⟩ (fun hHeld => ?_);clear hK K;refine norm_ (a' := ?_) ?_ ?_;rotate_left
 · show Act.put _ (some 22) _ = _
   simp only [Act.put,List.setIfInBounds_toArray,List.set_cons_zero,List.set_cons_succ,i64_w,i32_w];rfl
 refine one_ (i:=5) (N:=some 24) #[true,true,true,true,true,true,false,false,false] rfl rfl (one_of HT_.out (by kernel_rfl)) (by decide) (fun K hK => ?_);refine goes_ Try.func28 (by kernel_rfl) rfl #[.agg #[.string a0_0,.int .i64 a0_1,.int .i64 a0_2,.int .i64 a0_3,.slice A0_4 l0_4.length c0_4]] (by rfl) rfl rfl (by (try simp only [List.map_toArray,List.map_cons,List.map_nil]);first|done|rfl|(simp only [List.length_drop,List.length_take];rfl)) ?_
 with_reducible refine (ir_Preds.calls k a0_0 a0_1 a0_2 a0_3 _ _ l0_4 l3 _ ?side1 ?side2 A4.out).mono ?_
 (case side1 => repeat (first|exact (Kd.C_below HR0_4.out HB.out)|(with_reducible refine Kd.C_alloc ?_ _)|(with_reducible refine Kd.C_drewN ?_ _)|(with_reducible refine Kd.C_drew ?_)));(case side2 => exact HC0_4.out);rintro e wp ⟨v521,rfl,ho0,hb⟩;refine ⟨_,rfl,?_⟩;have n0_:=Aside0.mk (Kd.R_below (YR HO516) hb)
 have n1_:=Aside0.mk (Kd.R_below (YR HO519) hb)
 have n2_:=Aside0.mk (Kd.S_lower (Kd.S_new' ho0 (Kd.R_lt (YR HO516))) (Z27 YH))
 have n3_:=Aside0.mk (Z40 (YK BK226) hb)
 have n4_:=Aside0.mk (Z25 YH hb)
 clear HO516;clear HO519;clear BK226;clear HB;have HO516:=n0_
 have HO519:=n1_
 have HO522:=n2_
 have BK226:=n3_
 have HB:=n4_
 clear n0_ n1_ n2_ n3_ n4_;(try clear hb);(try clear hb2);(try clear hk);(try clear hi);(try clear ho0);refine hK.out _ _ ⟨(Z5 BK226.out 0).trans rfl,(Z5 BK226.out 1).trans rfl,(Z5 BK226.out 2).trans rfl,(Z5 BK226.out 3).trans rfl,(Z5 BK226.out 4).trans rfl⟩ (fun hHeld => ?_);clear hK K;refine norm_ (a' := ?_) ?_ ?_;rotate_left
 · show Act.put _ (some 24) _ = _
   simp only [Act.put,List.setIfInBounds_toArray,List.set_cons_zero,List.set_cons_succ,i64_w,i32_w];rfl
 refine pure_ (i:=6) (N:=some 3) (v:=?_) (a' := ?_) #[true,true,true,true,true,true,true,false,false] rfl rfl (any_of HT_.out (by kernel_rfl)) (fun _ _ _ h => h) (Or.inl ⟨by rfl,?_⟩) ?_ ?_;rotate_left
 · intro w';go_simp
   with_reducible rfl
 rotate_left
 · simp only [Act.put,List.setIfInBounds_toArray,List.set_cons_zero,List.set_cons_succ,i64_w,i32_w];rfl
 refine pure_ (i:=7) (N:=some 4) (v:=?_) (a' := ?_) #[true,true,true,true,true,true,true,true,false] rfl rfl (any_of HT_.out (by kernel_rfl)) (fun _ _ _ h => h) (Or.inl ⟨by rfl,?_⟩) ?_ ?_;rotate_left
 · intro w';go_simp
   with_reducible rfl
 rotate_left
 · simp only [Act.put,List.setIfInBounds_toArray,List.set_cons_zero,List.set_cons_succ,i64_w,i32_w];rfl
 refine pure_ (i:=8) (N:=some 5) (v:=?_) (a' := ?_) #[true,true,true,true,true,true,true,true,true] rfl rfl (any_of HT_.out (by kernel_rfl)) (fun _ _ _ h => h) (Or.inl ⟨by rfl,?_⟩) ?_ ?_;rotate_left
 · intro w';go_simp
   with_reducible rfl
 rotate_left
 · simp only [Act.put,List.setIfInBounds_toArray,List.set_cons_zero,List.set_cons_succ,i64_w,i32_w];rfl
 refine done_ (Z83 HT_.out (by kernel_rfl)) ?_;obtain ⟨A1,c1,e1_⟩:=Kd.R_slice HO516.out
 subst e1_;obtain ⟨A2_,c2,e2_⟩:=Kd.R_slice HO519.out
 subst e2_;obtain ⟨A3_,c3,e3_⟩:=Kd.S_slice HO522.out
 subst e3_;have HR1:=Aside0.mk (Kd.R_reads' HO516.out).2.2
 have HC1:=Aside0.mk (Kd.R_reads' HO516.out).2.1
 have HR2:=Aside0.mk (Kd.R_reads' HO519.out).2.2
 have HR3:=Aside0.mk (Kd.S_reads' HO522.out).2.2
 have HRn_:=Aside0.mk (Kd.C_below HR0_4.out HB.out)
 have HW_:=Aside0.mk (Z27 HB.out)
 have HB0:=HB
 clear HR0_4 HB HO516 HO519 HO522 GE226 GW226;have HR0_4:=HRn_
 have HB:=Aside0.mk (Below.refl wp.heap.size wp)
 clear HRn_;try go_wp2
 go_loopg [6,28] k (fun kq v6 v28 w' => ∃ (x6_1 : List (S42)) (x28_1 : Int),v28 = .int .i64 x28_1 ∧ Aside0 (order_Loops.l0 kq l1 l2 l3 x6_1 (l0_4.length : Int) x28_1 a0_0 a0_1 a0_2 a0_3 l0_4 = some r) ∧ Aside0 (kq ≤ k) ∧ Aside0 (Kd.S k42 42 w' wp.heap.size (fun _ => True) v6 x6_1) ∧ Aside0 (w'.heap[gb226]? = some (.cells #[.string a0_0,.int .i64 a0_1,.int .i64 a0_2,.int .i64 a0_3,(.slice A0_4 l0_4.length c0_4)] 24 (0,0))) ∧ Aside0 (Below wp.heap.size wp w'))
 case atStart => exact ⟨(([] : List (S42))),(0),(by first|rfl|(simp;done)|(simp [*];done)),H',⟨Nat.le_refl _⟩,⟨by first|exact Kd.S_nil _ _ _ _ _|exact Kd.N_nil _ _ _ _ _|exact Kd.V_nil _ _ _ _ _|exact Kd.Q_nil _ _ _ _ _|exact Kd.R_nil _ _ _ _ _⟩,⟨YK BK226⟩,⟨YH⟩⟩
 case round =>
  clear H';obtain ⟨x6_1,x28_1,rfl,HA,HK1,HO_6,BK226,HB⟩:=hrel
  cases gk with
  | zero => exact absurd HA.out (by simp [order_Loops.l0])
  | succ k1 =>
   have H:=HA.out
   clear HA;simp only [order_Loops.l0] at H;by_cases c7 : x28_1 < (l0_4.length : Int)
   · rw [if_pos c7] at H;have c7b0 : decide (x28_1 < (l0_4.length : Int)) = true:=decide_eq_true c7
     clear c7;by_cases c8 : 0 ≤ x28_1
     · rw [if_pos c8] at H;have c8b0 : decide (0 ≤ x28_1) = true:=decide_eq_true c8
       clear c8;by_cases c9 : x28_1 < (l2.length : Int)
       · rw [if_pos c9] at H;have c9b0 : decide (x28_1 < (l2.length : Int)) = true:=decide_eq_true c9
         clear c9;obtain ⟨bq10,hbq10⟩ : ∃ b_ : Bool,b_ = (rdOf false l2 x28_1):=⟨_,rfl⟩
         replace H : (if bq10 = true then (if 0 ≤ (l0_4.length : Int) then (if ((l0_4.length : Int) : Int).toNat ≤ 281474976710656 then ((some (List.replicate ((l0_4.length : Int) : Int).toNat false : List Bool)).bind fun y228 => (if x28_1 < (y228.length : Int) then (if x28_1 < (l3.length : Int) then (order_Loops.l1 k1 l1 l2 l3 x6_1 x28_1 (y228.set (x28_1 : Int).toNat true) ([] : List Int) false (l0_4.length : Int) x28_1 (rd_L1 l3 x28_1) ((rd_L1 l3 x28_1).length : Int) 0 a0_0 a0_1 a0_2 a0_3 l0_4) else (none)) else (none))) else (none)) else (none)) else (order_Loops.l0 k1 l1 l2 l3 x6_1 (l0_4.length : Int) (wrap64 (x28_1 + 1)) a0_0 a0_1 a0_2 a0_3 l0_4)) = some r:=by rw [← hbq10] at H;exact H
         have Nbq10:=Aside0.mk hbq10
         clear hbq10;by_cases c11 : bq10 = true
         · subst c11;have H1 : (if 0 ≤ (l0_4.length : Int) then (if ((l0_4.length : Int) : Int).toNat ≤ 281474976710656 then ((some (List.replicate ((l0_4.length : Int) : Int).toNat false : List Bool)).bind fun y228 => (if x28_1 < (y228.length : Int) then (if x28_1 < (l3.length : Int) then (order_Loops.l1 k1 l1 l2 l3 x6_1 x28_1 (y228.set (x28_1 : Int).toNat true) ([] : List Int) false (l0_4.length : Int) x28_1 (rd_L1 l3 x28_1) ((rd_L1 l3 x28_1).length : Int) 0 a0_0 a0_1 a0_2 a0_3 l0_4) else (none)) else (none))) else (none)) else (none)) = some r:=by rw [if_pos rfl] at H;exact H
           clear H;have H:=H1
           clear H1;by_cases c12 : 0 ≤ (l0_4.length : Int)
           · rw [if_pos c12] at H;have c12b1 : decide (0 ≤ (l0_4.length : Int)) = true:=decide_eq_true c12
             clear c12;by_cases c13 : ((l0_4.length : Int) : Int).toNat ≤ 281474976710656
             · rw [if_pos c13] at H;have c13b1 : decide (((l0_4.length : Int) : Int).toNat ≤ 281474976710656) = true:=decide_eq_true c13
               clear c13;obtain ⟨y228,hy228⟩ : ∃ y_ : List Bool,y_ = (List.replicate ((l0_4.length : Int) : Int).toNat false):=⟨_,rfl⟩
               replace H : (if x28_1 < (y228.length : Int) then (if x28_1 < (l3.length : Int) then (order_Loops.l1 k1 l1 l2 l3 x6_1 x28_1 (y228.set (x28_1 : Int).toNat true) ([] : List Int) false (l0_4.length : Int) x28_1 (rd_L1 l3 x28_1) ((rd_L1 l3 x28_1).length : Int) 0 a0_0 a0_1 a0_2 a0_3 l0_4) else (none)) else (none)) = some r:=by first|(rw [hy228];with_reducible exact H)|(have H2_:=(Option.bind_some _ _).symm.trans H;rw [hy228];with_reducible exact H2_)|(have H2_:=(Option.bind_some _ _).symm.trans H;with_reducible exact H2_)|with_reducible exact H|(rw [hy228];exact H)|exact H
               have Ny228:=Aside0.mk hy228
               clear hy228;by_cases c14 : x28_1 < (y228.length : Int)
               · rw [if_pos c14] at H;have c14b0 : decide (x28_1 < (y228.length : Int)) = true:=decide_eq_true c14
                 clear c14;obtain ⟨y231,hy231⟩ : ∃ y_ : List Bool,y_ = (y228.set (x28_1 : Int).toNat true):=⟨_,rfl⟩
                 replace H : (if x28_1 < (l3.length : Int) then (order_Loops.l1 k1 l1 l2 l3 x6_1 x28_1 y231 ([] : List Int) false (l0_4.length : Int) x28_1 (rd_L1 l3 x28_1) ((rd_L1 l3 x28_1).length : Int) 0 a0_0 a0_1 a0_2 a0_3 l0_4) else (none)) = some r:=by first|(rw [hy231];with_reducible exact H)|(have H2_:=(Option.bind_some _ _).symm.trans H;rw [hy231];with_reducible exact H2_)|(have H2_:=(Option.bind_some _ _).symm.trans H;with_reducible exact H2_)|with_reducible exact H|(rw [hy231];exact H)|exact H
                 have Ny231:=Aside0.mk hy231
                 clear hy231;by_cases c16 : x28_1 < (l3.length : Int)
                 · rw [if_pos c16] at H;have c16b0 : decide (x28_1 < (l3.length : Int)) = true:=decide_eq_true c16
                   clear c16;have H' := Aside0.mk H
                   clear H;have p227 : 0 ≤ (x28_1 : Int):=YA
                   have q227 : x28_1 < (l2.length : Int):=YA
                   obtain ⟨ad227,e227,hx227_0⟩:=Kd.at_bool HR2.out x28_1 p227 q227
                   (try rw [← Nbq10.out] at hx227_0);cases e227;replace hx227_0:=(HB.out.cell (World.block_lt_of_cell? wp _ hx227_0)).trans hx227_0
                   replace p227:=eq_true p227
                   replace q227:=eq_true q227
                   have hcz17_4 : wr.cell? ⟨gb226,4,none⟩ = some (.slice A0_4 l0_4.length c0_4):=(Z5 BK226.out 4).trans rfl
                   go_wp2_with (first|((with_reducible refine Z52 (N:=39) rfl ?_);refine Kd.R_make Kd.bool _ 4 rfl (N:=39) rfl 34 _ _ rfl (l0_4.length : Int) rfl rfl Try.underlying34 (.bool false) 1 info4 rfl (by decide) (by omega) false (ok:=fun _ => True) (okp:=fun _ => True) rfl (fun _ hk => hk) trivial YA (Nat.le_trans (Nat.mul_le_mul_right _ (YA : (l0_4.length : Int).toNat ≤ 281474976710656)) (by omega)) (Below.refl _ _) (Nat.le_refl _) ?_;intro v229 w18 ho19 hb hg_ hnew_;clear hg_ hnew_;(first|rw [← Ny228.out] at ho19|(simp only [Int.reduceToNat] at ho19;rw [← Ny228.out] at ho19));have n0_:=Aside0.mk (Kd.S_below (YS HO_6) hb);have n1_:=Aside0.mk (Kd.R_lower ho19 (Z27 YH));have n2_:=Aside0.mk (Z40 (YK BK226) hb);have n3_:=Aside0.mk (Z25 YH hb);clear HO_6;clear BK226;clear HB;have HO_6:=n0_;have HO230:=n1_;have BK226:=n2_;have HB:=n3_;clear n0_ n1_ n2_ n3_;clear hb ho19;have p15 : 0 ≤ (x28_1 : Int):=YA;have q15 : (x28_1 : Int) < ((y228.length : Int) : Int):=YA;obtain ⟨go15,co15,eo15,gb15,gl15,cl15,HG15⟩:=Kd.R_form HO230.out (by omega);(first|cases eo15|(injection eo15 with ea_ en_ ec_;(first|subst ea_|(injection ea_ with ea_;subst ea_));subst ec_;clear en_));have GB15:=Aside0.mk gb15;have GG15:=Aside0.mk HG15;clear gb15 gl15 HG15;obtain ⟨hx15_0,hf15_0⟩:=Kd.R_celln false HO230.out (x28_1 : Int) p15 q15;replace p15:=eq_true p15;replace q15:=eq_true q15;obtain ⟨hy20_,hz20_⟩:=Kd.R_celln false HO230.out (x28_1 : Int) YA YA;have HP20:=Kd.R_putg HO230.out (x28_1 : Int) true)|((with_reducible refine gate_store (t:=4) (p:=42) rfl ?_);refine store_event (t:=4) (p:=42) (v:=?vo_w21) (w1:=(w18.setCell ⟨go15,(x28_1 : Int).toNat,none⟩ (.bool true))) ?hg ?ho ?hn ?hr ?_;(case ho => rfl);(case hg => rfl);(case hn => rfl);(case hr => first|(go_simp;done)|(go_simp;rfl));intro w21 hw;have hg : w18.grownBy w21 (some go15):=(by rw [hw];exact HP20.2);have hp_ : Kd.R Kd.bool 4 w21 wp.heap.size (fun _ => True) (.slice (some ⟨go15,0,none⟩) y228.length co15) y231:=(by rw [hw,Ny231.out];exact HP20.1);clear HP20;have n0_:=Aside0.mk (Kd.S_over' (v:=(.slice (some ⟨go15,0,none⟩) y228.length co15)) (YS HO_6) (Kd.R_typed HO230.out) (by decide) hg);have n1_:=Aside0.mk (Z89 (YK BK226) hg (Kd.R_ne HO230.out BK226.out (by decide)));have n2_:=Aside0.mk (hp_);have n3_:=Aside0.mk ((by rw [hw];exact Z8 (HB.out) GB15.out : Below wp.heap.size wp w21));clear HO_6;clear BK226;clear HO230;clear HB;have HO_6:=n0_;have BK226:=n1_;have HO230:=n2_;have HB:=n3_;clear n0_ n1_ n2_ n3_;clear hg hw hp_;have p232 : 0 ≤ (x28_1 : Int):=YA;have q232 : x28_1 < (l3.length : Int):=YA;obtain ⟨ad232,A232_0,c232_0,e232,hx232_0,hl232_0,hi232_0⟩:=at_L1 HR3.out x28_1 p232 q232;cases e232;replace hx232_0:=(HB.out.cell (World.block_lt_of_cell? wp _ hx232_0)).trans hx232_0;have HR232_0:=Aside0.mk hi232_0;clear hi232_0 hl232_0;replace p232:=eq_true p232;replace q232:=eq_true q232))
                   go_loopg [9,10,48] k1 (fun kq v9 v10 v48 w' => ∃ (x8_2 : List Bool) (x9_2 : List Int) (x10_2 : Bool) (x48_2 : Int),v10 = .bool x10_2 ∧ v48 = .int .i64 x48_2 ∧ Aside0 (order_Loops.l1 kq l1 l2 l3 x6_1 x28_1 x8_2 x9_2 x10_2 (l0_4.length : Int) x28_1 (rd_L1 l3 x28_1) ((rd_L1 l3 x28_1).length : Int) x48_2 a0_0 a0_1 a0_2 a0_3 l0_4 = some r) ∧ Aside0 (kq ≤ k1) ∧ Aside0 (Kd.S k42 42 w' wp.heap.size (fun k_ => some k_ ≠ (v9 : Value).ownBlock) u6 x6_1) ∧ Aside0 (Kd.R Kd.bool 4 w' wp.heap.size (fun _ => True) (.slice (some ⟨go15,0,none⟩) y228.length co15) x8_2) ∧ Aside0 (Kd.R (Kd.int .i64) 3 w' wp.heap.size (fun _ => True) v9 x9_2) ∧ Aside0 (w'.heap[gb226]? = some (.cells #[.string a0_0,.int .i64 a0_1,.int .i64 a0_2,.int .i64 a0_3,(.slice A0_4 l0_4.length c0_4)] 24 (0,0))) ∧ Aside0 (Below wp.heap.size wp w'))
                   case atStart => exact ⟨(y231),(([] : List Int)),(false),(0),(by first|rfl|(simp;done)|(simp [*];done)),(by first|rfl|(simp;done)|(simp [*];done)),H',⟨Nat.le_refl _⟩,⟨by (with_reducible repeat (first|apply Kd.S_alloc|apply Kd.S_drewN|apply Kd.S_drew));exact Kd.S_mono HO_6.out (fun _ hk => (by simp [Value.ownBlock]))⟩,⟨YR HO230⟩,⟨by first|exact Kd.R_nil _ _ _ _ _|exact Kd.N_nil _ _ _ _ _|exact Kd.V_nil _ _ _ _ _|exact Kd.Q_nil _ _ _ _ _|exact Kd.S_nil _ _ _ _ _⟩,⟨YK BK226⟩,⟨YH⟩⟩
                   case round =>
                    clear H';try clear c7
                    try clear c7b0
                    try clear c8
                    try clear c8b0
                    try clear c9
                    try clear c9b0
                    try clear c11
                    try clear c12
                    try clear c12b1
                    try clear c13
                    try clear c13b1
                    try clear c14
                    try clear c14b0
                    try clear p15
                    try clear q15
                    try clear c16
                    try clear c16b0
                    try clear hcz17_4
                    try clear hx15_0
                    try clear hx227_0
                    try clear hx232_0
                    try clear p15
                    try clear p227
                    try clear p232
                    try clear q15
                    try clear q227
                    try clear q232
                    obtain ⟨x8_2,x9_2,x10_2,x48_2,rfl,rfl,HA,HK2,HO_6,HO_8,HO_9,BK226,HB⟩:=hrel
                    have hl8_2:=(Kd.R_reads' HO_8.out).1
                    rw [hl8_2] at HO_8;(try simp only [hl8_2]);(try simp only [hl8_2] at BK226);(try simp only [hl8_2] at HO_6);(try simp only [hl8_2] at HO_9);cases gk with
                    | zero => exact absurd HA.out (by simp [order_Loops.l1])
                    | succ k2 =>
                     have H:=HA.out
                     clear HA;simp only [order_Loops.l1] at H;by_cases c22 : x48_2 < ((rd_L1 l3 x28_1).length : Int)
                     · rw [if_pos c22] at H;have c22b0 : decide (x48_2 < ((rd_L1 l3 x28_1).length : Int)) = true:=decide_eq_true c22
                       clear c22;by_cases c23 : 0 ≤ x48_2
                       · rw [if_pos c23] at H;have c23b0 : decide (0 ≤ x48_2) = true:=decide_eq_true c23
                         clear c23;by_cases c24 : x48_2 < ((rd_L1 l3 x28_1).length : Int)
                         · rw [if_pos c24] at H;have c24b0 : decide (x48_2 < ((rd_L1 l3 x28_1).length : Int)) = true:=decide_eq_true c24
                           clear c24;have HC25:=Aside0.mk H
                           clear H;have p233 : 0 ≤ (x48_2 : Int):=YA
                           have q233 : x48_2 < ((rd_L1 l3 x28_1).length : Int):=YA
                           obtain ⟨ad233,e233,hx233_0⟩:=Kd.at_int HR232_0.out x48_2 p233 q233
                           cases e233;replace hx233_0:=(HB.out.cell (World.block_lt_of_cell? wp _ hx233_0)).trans hx233_0
                           replace p233:=eq_true p233
                           replace q233:=eq_true q233
                           go_upto_region 14 with (fail)
                           go_cut [61] (fun v61 wc => ∃ (kq : Nat) (x61_24 : Bool),v61 = .bool x61_24 ∧ Aside0 (order_Loops.j2 kq l1 l2 l3 x6_1 x28_1 x8_2 x9_2 x10_2 (rd (rd_L1 l3 x28_1) x48_2) (l0_4.length : Int) x28_1 (rd_L1 l3 x28_1) ((rd_L1 l3 x28_1).length : Int) x48_2 x61_24 a0_0 a0_1 a0_2 a0_3 l0_4 = some r) ∧ Aside0 (kq ≤ k2) ∧ Aside0 (Kd.S k42 42 wc wp.heap.size (fun k_ => some k_ ≠ (u9 : Value).ownBlock) u6 x6_1) ∧ Aside0 (Kd.R Kd.bool 4 wc wp.heap.size (fun _ => True) (.slice (some ⟨go15,0,none⟩) x8_2.length co15) x8_2) ∧ Aside0 (Kd.R (Kd.int .i64) 3 wc wp.heap.size (fun _ => True) u9 x9_2) ∧ Aside0 (wc.heap[gb226]? = some (.cells #[.string a0_0,.int .i64 a0_1,.int .i64 a0_2,.int .i64 a0_3,(.slice A0_4 l0_4.length c0_4)] 24 (0,0))) ∧ Aside0 (Below wp.heap.size wp wc))
                           case first =>
                            have H:=HC25.out
                            clear HC25;by_cases c26 : 0 ≤ (rd (rd_L1 l3 x28_1) x48_2)
                            · rw [if_pos c26] at H;have c26b0 : decide (0 ≤ (rd (rd_L1 l3 x28_1) x48_2)) = true:=decide_eq_true c26
                              clear c26;(first|rw [c26b0]|(simp only [i64_w,i32_w];rw [c26b0])|skip);by_cases c27 : (rd (rd_L1 l3 x28_1) x48_2) < (l2.length : Int)
                              · rw [if_pos c27] at H;have c27b0 : decide ((rd (rd_L1 l3 x28_1) x48_2) < (l2.length : Int)) = true:=decide_eq_true c27
                                clear c27;obtain ⟨bq28,hbq28⟩ : ∃ b_ : Bool,b_ = (rdOf false l2 (rd (rd_L1 l3 x28_1) x48_2)):=⟨_,rfl⟩
                                replace H : (if bq28 = true then ((order_above.f k2 l1 x28_1 (rd (rd_L1 l3 x28_1) x48_2)).bind fun t235 => (order_Loops.j2 k2 l1 l2 l3 x6_1 x28_1 x8_2 x9_2 x10_2 (rd (rd_L1 l3 x28_1) x48_2) (l0_4.length : Int) x28_1 (rd_L1 l3 x28_1) ((rd_L1 l3 x28_1).length : Int) x48_2 t235 a0_0 a0_1 a0_2 a0_3 l0_4)) else (order_Loops.j2 k2 l1 l2 l3 x6_1 x28_1 x8_2 x9_2 x10_2 (rd (rd_L1 l3 x28_1) x48_2) (l0_4.length : Int) x28_1 (rd_L1 l3 x28_1) ((rd_L1 l3 x28_1).length : Int) x48_2 false a0_0 a0_1 a0_2 a0_3 l0_4)) = some r:=by rw [← hbq28] at H;exact H
                                have Nbq28:=Aside0.mk hbq28
                                clear hbq28;by_cases c29 : bq28 = true
                                · subst c29;have H1 : ((order_above.f k2 l1 x28_1 (rd (rd_L1 l3 x28_1) x48_2)).bind fun t235 => (order_Loops.j2 k2 l1 l2 l3 x6_1 x28_1 x8_2 x9_2 x10_2 (rd (rd_L1 l3 x28_1) x48_2) (l0_4.length : Int) x28_1 (rd_L1 l3 x28_1) ((rd_L1 l3 x28_1).length : Int) x48_2 t235 a0_0 a0_1 a0_2 a0_3 l0_4)) = some r:=by rw [if_pos rfl] at H;exact H
                                  clear H;have H:=H1
                                  clear H1;replace H:=Option.bind_eq_some_iff.mp H
                                  obtain ⟨t235,A300,H⟩:=H
                                  replace H : (order_Loops.j2 k2 l1 l2 l3 x6_1 x28_1 x8_2 x9_2 x10_2 (rd (rd_L1 l3 x28_1) x48_2) (l0_4.length : Int) x28_1 (rd_L1 l3 x28_1) ((rd_L1 l3 x28_1).length : Int) x48_2 t235 a0_0 a0_1 a0_2 a0_3 l0_4) = some r:=H
                                  have A30:=Aside0.mk A300
                                  clear A300;have H' := Aside0.mk H
                                  clear H;have p234 : 0 ≤ ((rd (rd_L1 l3 x28_1) x48_2) : Int):=YA
                                  have q234 : (rd (rd_L1 l3 x28_1) x48_2) < (l2.length : Int):=YA
                                  obtain ⟨ad234,e234,hx234_0⟩:=Kd.at_bool HR2.out (rd (rd_L1 l3 x28_1) x48_2) p234 q234
                                  (try rw [← Nbq10.out] at hx234_0);(try rw [← Nbq28.out] at hx234_0);obtain rfl : ad227 = ad234:=(by injection e234)
                                  replace hx234_0:=(HB.out.cell (World.block_lt_of_cell? wp _ hx234_0)).trans hx234_0
                                  replace p234:=eq_true p234
                                  replace q234:=eq_true q234
                                  go_wp2_with (first|(go_at_call 32;(with_reducible refine (order_above.calls k2 _ _ l1 x28_1 (rd (rd_L1 l3 x28_1) x48_2) t235 _ ?side1 ?side2 A30.out).mono ?_);(case side1 => repeat (first|exact (Kd.C_below HR1.out HB.out)|(with_reducible refine Kd.C_alloc ?_ _)|(with_reducible refine Kd.C_drewN ?_ _)|(with_reducible refine Kd.C_drew ?_)));(case side2 => exact HC1.out);rintro e w' ⟨rfl,⟨nd,rfl⟩⟩))
                                  go_meet
                                  case rel => exact ⟨_,(t235),(by first|rfl|(simp;done)|(simp [*];done)),H',⟨by have:=HK1.out;have:=HK2.out;first|omega|exact Nat.le_refl _⟩,⟨by (try simp only [hl8_2]);(with_reducible repeat (first|apply Kd.S_alloc|apply Kd.S_drewN|apply Kd.S_drew));exact HO_6.out⟩,⟨by (try simp only [hl8_2]);(with_reducible repeat (first|apply Kd.R_alloc|apply Kd.R_drewN|apply Kd.R_drew));exact HO_8.out⟩,⟨by (try simp only [hl8_2]);(with_reducible repeat (first|apply Kd.R_alloc|apply Kd.R_drewN|apply Kd.R_drew));exact HO_9.out⟩,⟨by (try simp only [hl8_2]);(with_reducible repeat (first|refine Z0 ?_ _|refine Z3 ?_|refine Z1 ?_ _));exact BK226.out⟩,⟨YH⟩⟩
                                · replace c29:=Bool.eq_false_iff.mpr c29
                                  subst c29;have H1 : (order_Loops.j2 k2 l1 l2 l3 x6_1 x28_1 x8_2 x9_2 x10_2 (rd (rd_L1 l3 x28_1) x48_2) (l0_4.length : Int) x28_1 (rd_L1 l3 x28_1) ((rd_L1 l3 x28_1).length : Int) x48_2 false a0_0 a0_1 a0_2 a0_3 l0_4) = some r:=by rw [if_neg (show ¬ (false = true) by decide)] at H;exact H
                                  clear H;have H:=H1
                                  clear H1;have H' := Aside0.mk H
                                  clear H;have p234 : 0 ≤ ((rd (rd_L1 l3 x28_1) x48_2) : Int):=YA
                                  have q234 : (rd (rd_L1 l3 x28_1) x48_2) < (l2.length : Int):=YA
                                  obtain ⟨ad234,e234,hx234_0⟩:=Kd.at_bool HR2.out (rd (rd_L1 l3 x28_1) x48_2) p234 q234
                                  (try rw [← Nbq10.out] at hx234_0);(try rw [← Nbq28.out] at hx234_0);obtain rfl : ad227 = ad234:=(by injection e234)
                                  replace hx234_0:=(HB.out.cell (World.block_lt_of_cell? wp _ hx234_0)).trans hx234_0
                                  replace p234:=eq_true p234
                                  replace q234:=eq_true q234
                                  go_wp2
                                  go_meet
                                  case rel => exact ⟨_,(false),(by first|rfl|(simp;done)|(simp [*];done)),H',⟨by have:=HK1.out;have:=HK2.out;first|omega|exact Nat.le_refl _⟩,⟨by (try simp only [hl8_2]);(with_reducible repeat (first|apply Kd.S_alloc|apply Kd.S_drewN|apply Kd.S_drew));exact HO_6.out⟩,⟨by (try simp only [hl8_2]);(with_reducible repeat (first|apply Kd.R_alloc|apply Kd.R_drewN|apply Kd.R_drew));exact HO_8.out⟩,⟨by (try simp only [hl8_2]);(with_reducible repeat (first|apply Kd.R_alloc|apply Kd.R_drewN|apply Kd.R_drew));exact HO_9.out⟩,⟨by (try simp only [hl8_2]);(with_reducible repeat (first|refine Z0 ?_ _|refine Z3 ?_|refine Z1 ?_ _));exact BK226.out⟩,⟨YH⟩⟩
                              · rw [if_neg c27] at H;exact absurd H (by simp)
                            · rw [if_neg c26] at H;exact absurd H (by simp)
                           case rest =>
                            clear HC25;try clear c7
                            try clear c7b0
                            try clear c8
                            try clear c8b0
                            try clear c9
                            try clear c9b0
                            try clear c11
                            try clear c12
                            try clear c12b1
                            try clear c13
                            try clear c13b1
                            try clear c14
                            try clear c14b0
                            try clear p15
                            try clear q15
                            try clear c16
                            try clear c16b0
                            try clear c22
                            try clear c22b0
                            try clear c23
                            try clear c23b0
                            try clear c24
                            try clear c24b0
                            try clear hcz17_4
                            try clear hx15_0
                            try clear hx227_0
                            try clear hx232_0
                            try clear hx233_0
                            try clear p15
                            try clear p227
                            try clear p232
                            try clear p233
                            try clear q15
                            try clear q227
                            try clear q232
                            try clear q233
                            obtain ⟨kq,x61_24,rfl,HA,HJ24,HO_6,HO_8,HO_9,BK226,HB⟩:=hcut
                            cases kq with
                            | zero => exact absurd HA.out (by simp [order_Loops.j2])
                            | succ kj24 =>
                             have H:=HA.out
                             clear HA;simp only [order_Loops.j2] at H;by_cases c31 : x61_24 = true
                             · subst c31;have H1 : (if 0 ≤ (rd (rd_L1 l3 x28_1) x48_2) then (if (rd (rd_L1 l3 x28_1) x48_2) < (x8_2.length : Int) then (if rdOf false x8_2 (rd (rd_L1 l3 x28_1) x48_2) = true then (order_Loops.l1 kj24 l1 l2 l3 x6_1 x28_1 x8_2 x9_2 true (l0_4.length : Int) x28_1 (rd_L1 l3 x28_1) ((rd_L1 l3 x28_1).length : Int) (wrap64 (x48_2 + 1)) a0_0 a0_1 a0_2 a0_3 l0_4) else (if x9_2.length < 17592186044416 then (order_Loops.l1 kj24 l1 l2 l3 x6_1 x28_1 (x8_2.set ((rd (rd_L1 l3 x28_1) x48_2) : Int).toNat true) (x9_2 ++ [(rd (rd_L1 l3 x28_1) x48_2)]) true (l0_4.length : Int) x28_1 (rd_L1 l3 x28_1) ((rd_L1 l3 x28_1).length : Int) (wrap64 (x48_2 + 1)) a0_0 a0_1 a0_2 a0_3 l0_4) else (none))) else (none)) else (none)) = some r:=by rw [if_pos rfl] at H;exact H
                               clear H;have H:=H1
                               clear H1;by_cases c32 : 0 ≤ (rd (rd_L1 l3 x28_1) x48_2)
                               · rw [if_pos c32] at H;have c32b0 : decide (0 ≤ (rd (rd_L1 l3 x28_1) x48_2)) = true:=decide_eq_true c32
                                 clear c32;by_cases c33 : (rd (rd_L1 l3 x28_1) x48_2) < (x8_2.length : Int)
                                 · rw [if_pos c33] at H;have c33b0 : decide ((rd (rd_L1 l3 x28_1) x48_2) < (x8_2.length : Int)) = true:=decide_eq_true c33
                                   clear c33;obtain ⟨bq34,hbq34⟩ : ∃ b_ : Bool,b_ = (rdOf false x8_2 (rd (rd_L1 l3 x28_1) x48_2)):=⟨_,rfl⟩
                                   replace H : (if bq34 = true then (order_Loops.l1 kj24 l1 l2 l3 x6_1 x28_1 x8_2 x9_2 true (l0_4.length : Int) x28_1 (rd_L1 l3 x28_1) ((rd_L1 l3 x28_1).length : Int) (wrap64 (x48_2 + 1)) a0_0 a0_1 a0_2 a0_3 l0_4) else (if x9_2.length < 17592186044416 then (order_Loops.l1 kj24 l1 l2 l3 x6_1 x28_1 (x8_2.set ((rd (rd_L1 l3 x28_1) x48_2) : Int).toNat true) (x9_2 ++ [(rd (rd_L1 l3 x28_1) x48_2)]) true (l0_4.length : Int) x28_1 (rd_L1 l3 x28_1) ((rd_L1 l3 x28_1).length : Int) (wrap64 (x48_2 + 1)) a0_0 a0_1 a0_2 a0_3 l0_4) else (none))) = some r:=by rw [← hbq34] at H;exact H
                                   have Nbq34:=Aside0.mk hbq34
                                   clear hbq34;by_cases c35 : bq34 = true
                                   · subst c35;have H1 : (order_Loops.l1 kj24 l1 l2 l3 x6_1 x28_1 x8_2 x9_2 true (l0_4.length : Int) x28_1 (rd_L1 l3 x28_1) ((rd_L1 l3 x28_1).length : Int) (wrap64 (x48_2 + 1)) a0_0 a0_1 a0_2 a0_3 l0_4) = some r:=by rw [if_pos rfl] at H;exact H
                                     clear H;have H:=H1
                                     clear H1;have H' := Aside0.mk H
                                     clear H;have p236 : 0 ≤ ((rd (rd_L1 l3 x28_1) x48_2) : Int):=YA
                                     have q236 : (rd (rd_L1 l3 x28_1) x48_2) < (x8_2.length : Int):=YA
                                     obtain ⟨ad236,e236,hx236_0⟩:=Kd.at_bool (Kd.R_reads' HO_8.out).2.2 (rd (rd_L1 l3 x28_1) x48_2) p236 q236
                                     (try rw [← Nbq10.out] at hx236_0);(try rw [← Nbq34.out] at hx236_0);obtain rfl : (⟨go15,0,none⟩ : Addr) = ad236:=(by injection e236)
                                     (first|simp only [add_plain] at hx236_0|simp only [add_at] at hx236_0|simp only [Addr.add,Nat.zero_add] at hx236_0|skip);replace p236:=eq_true p236
                                     replace q236:=eq_true q236
                                     go_wp2
                                     (try simp only [← hl8_2]);go_roundg kj24
                                     case measure => have:=HK1.out;have:=HK2.out;have:=HJ24.out;omega
                                     case rel => exact ⟨(x8_2),(x9_2),(true),(wrap64 (x48_2 + 1)),(by first|rfl|(simp;done)|(simp [*];done)),(by first|rfl|(simp;done)|(simp [*];done)),H',⟨by have:=HK1.out;have:=HK2.out;have:=HJ24.out;omega⟩,⟨by (try simp only [hl8_2]);(with_reducible repeat (first|apply Kd.S_alloc|apply Kd.S_drewN|apply Kd.S_drew));exact HO_6.out⟩,⟨by (try simp only [hl8_2]);(with_reducible repeat (first|apply Kd.R_alloc|apply Kd.R_drewN|apply Kd.R_drew));exact HO_8.out⟩,⟨by (try simp only [hl8_2]);(with_reducible repeat (first|apply Kd.R_alloc|apply Kd.R_drewN|apply Kd.R_drew));exact HO_9.out⟩,⟨by (try simp only [hl8_2]);(with_reducible repeat (first|refine Z0 ?_ _|refine Z3 ?_|refine Z1 ?_ _));exact BK226.out⟩,⟨YH⟩⟩
                                   · replace c35:=Bool.eq_false_iff.mpr c35
                                     subst c35;have H1 : (if x9_2.length < 17592186044416 then (order_Loops.l1 kj24 l1 l2 l3 x6_1 x28_1 (x8_2.set ((rd (rd_L1 l3 x28_1) x48_2) : Int).toNat true) (x9_2 ++ [(rd (rd_L1 l3 x28_1) x48_2)]) true (l0_4.length : Int) x28_1 (rd_L1 l3 x28_1) ((rd_L1 l3 x28_1).length : Int) (wrap64 (x48_2 + 1)) a0_0 a0_1 a0_2 a0_3 l0_4) else (none)) = some r:=by rw [if_neg (show ¬ (false = true) by decide)] at H;exact H
                                     clear H;have H:=H1
                                     clear H1;obtain ⟨y237,hy237⟩ : ∃ y_ : List Bool,y_ = (x8_2.set ((rd (rd_L1 l3 x28_1) x48_2) : Int).toNat true):=⟨_,rfl⟩
                                     replace H : (if x9_2.length < 17592186044416 then (order_Loops.l1 kj24 l1 l2 l3 x6_1 x28_1 y237 (x9_2 ++ [(rd (rd_L1 l3 x28_1) x48_2)]) true (l0_4.length : Int) x28_1 (rd_L1 l3 x28_1) ((rd_L1 l3 x28_1).length : Int) (wrap64 (x48_2 + 1)) a0_0 a0_1 a0_2 a0_3 l0_4) else (none)) = some r:=by first|(rw [hy237];with_reducible exact H)|(have H2_:=(Option.bind_some _ _).symm.trans H;rw [hy237];with_reducible exact H2_)|(have H2_:=(Option.bind_some _ _).symm.trans H;with_reducible exact H2_)|with_reducible exact H|(rw [hy237];exact H)|exact H
                                     have Ny237:=Aside0.mk hy237
                                     clear hy237;by_cases c37 : x9_2.length < 17592186044416
                                     · rw [if_pos c37] at H;have LMc37:=Aside0.mk c37
                                       clear c37;obtain ⟨y238,hy238⟩ : ∃ y_ : List Int,y_ = (x9_2 ++ [(rd (rd_L1 l3 x28_1) x48_2)]):=⟨_,rfl⟩
                                       replace H : (order_Loops.l1 kj24 l1 l2 l3 x6_1 x28_1 y237 y238 true (l0_4.length : Int) x28_1 (rd_L1 l3 x28_1) ((rd_L1 l3 x28_1).length : Int) (wrap64 (x48_2 + 1)) a0_0 a0_1 a0_2 a0_3 l0_4) = some r:=by first|(rw [hy238];with_reducible exact H)|(have H2_:=(Option.bind_some _ _).symm.trans H;rw [hy238];with_reducible exact H2_)|(have H2_:=(Option.bind_some _ _).symm.trans H;with_reducible exact H2_)|with_reducible exact H|(rw [hy238];exact H)|exact H
                                       have Ny238:=Aside0.mk hy238
                                       clear hy238;have H' := Aside0.mk H
                                       clear H;have p236 : 0 ≤ ((rd (rd_L1 l3 x28_1) x48_2) : Int):=YA
                                       have q236 : (rd (rd_L1 l3 x28_1) x48_2) < (x8_2.length : Int):=YA
                                       obtain ⟨ad236,e236,hx236_0⟩:=Kd.at_bool (Kd.R_reads' HO_8.out).2.2 (rd (rd_L1 l3 x28_1) x48_2) p236 q236
                                       (try rw [← Nbq10.out] at hx236_0);(try rw [← Nbq34.out] at hx236_0);obtain rfl : (⟨go15,0,none⟩ : Addr) = ad236:=(by injection e236)
                                       (first|simp only [add_plain] at hx236_0|simp only [add_at] at hx236_0|simp only [Addr.add,Nat.zero_add] at hx236_0|skip);replace p236:=eq_true p236
                                       replace q236:=eq_true q236
                                       have p36 : 0 ≤ ((rd (rd_L1 l3 x28_1) x48_2) : Int):=YA
                                       have q36 : ((rd (rd_L1 l3 x28_1) x48_2) : Int) < ((x8_2.length : Int) : Int):=YA
                                       obtain ⟨hx36_0,hf36_0⟩:=Kd.R_celln false HO_8.out ((rd (rd_L1 l3 x28_1) x48_2) : Int) p36 q36
                                       replace p36:=eq_true p36
                                       replace q36:=eq_true q36
                                       have HP38:=Kd.R_putg HO_8.out ((rd (rd_L1 l3 x28_1) x48_2) : Int) true
                                       go_wp2_with (first|((with_reducible refine gate_store (t:=4) (p:=69) rfl ?_);refine store_event (t:=4) (p:=69) (v:=?vo_w39) (w1:=(wc.setCell ⟨go15,((rd (rd_L1 l3 x28_1) x48_2) : Int).toNat,none⟩ (.bool true))) ?hg ?ho ?hn ?hr ?_;(case ho => rfl);(case hg => rfl);(case hn => rfl);(case hr => first|(go_simp;done)|(go_simp;rfl));intro w39 hw;have hg : wc.grownBy w39 (some go15):=(by rw [hw];exact HP38.2);have hp_ : Kd.R Kd.bool 4 w39 wp.heap.size (fun _ => True) (.slice (some ⟨go15,0,none⟩) x8_2.length co15) y237:=(by rw [hw,Ny237.out];exact HP38.1);clear HP38;have n0_:=Aside0.mk (Kd.S_over' (v:=(.slice (some ⟨go15,0,none⟩) x8_2.length co15)) (YS HO_6) (Kd.R_typed HO_8.out) (by decide) hg);have n1_:=Aside0.mk (hp_);have n2_:=Aside0.mk (Kd.R_over' (v:=(.slice (some ⟨go15,0,none⟩) x8_2.length co15)) (YR HO_9) (Kd.R_typed HO_8.out) (by decide) hg);have n3_:=Aside0.mk (Z89 (YK BK226) hg (Kd.R_ne HO_8.out BK226.out (by decide)));have n4_:=Aside0.mk ((by rw [hw];exact Z8 (HB.out) GB15.out : Below wp.heap.size wp w39));clear HO_6;clear HO_8;clear HO_9;clear BK226;clear HB;have HO_6:=n0_;have HO_8:=n1_;have HO_9:=n2_;have BK226:=n3_;have HB:=n4_;clear n0_ n1_ n2_ n3_ n4_;clear hg hw hp_)|((with_reducible refine Z69 (b:=.append) (xs:=#[.tmp 70,.tmp 72]) rfl ?_);at_builtin;refine Kd.R_append (Kd.int .i64) (w0:=wp) wp.heap.size rfl (.tmp 70) (.tmp 72) 26 3 (.int .i64 0) 8 rfl Try.underlying26 info3 rfl (by decide) (by omega) u9 x9_2 (rd (rd_L1 l3 x28_1) x48_2) [.int .i64 (rd (rd_L1 l3 x28_1) x48_2)] (fun _ => True) (fun _ => False) rfl rfl ?aP (fun _ hk => hk.elim) ?aF ?aO ?aB ?aS ?aL ?_;(case aP => exact rfl);(case aB => exact YH);(case aF => exact (fun _ _ => trivial));(case aO => exact (YR HO_9));(case aS => exact (Z27 YH));(case aL => have:=LMc37.out;omega);intro v239 w40 ho hb hg hat;rw [← Ny238.out] at ho;have n0_:=Aside0.mk (Kd.S_after (ok:=(fun _ => True)) (by (with_reducible repeat (first|apply Kd.S_alloc|apply Kd.S_drewN|apply Kd.S_drew));exact Kd.S_mono HO_6.out (fun _ hk => ⟨trivial,hk⟩)) hg hat);have n1_:=Aside0.mk (Kd.R_over' (YR HO_8) (Kd.R_typed (YR HO_9)) (by decide) hg);have n2_:=Aside0.mk (Z89 (YK BK226) hg (Kd.R_ne HO_9.out BK226.out (by decide)));have n3_:=Aside0.mk (hb);have n4_:=Aside0.mk (ho);clear HO_6;clear HO_8;clear BK226;clear HB;clear HO_9;have HO_6:=n0_;have HO_8:=n1_;have BK226:=n2_;have HB:=n3_;have HO240:=n4_;clear n0_ n1_ n2_ n3_ n4_;clear ho hb hg hat))
                                       (try simp only [← hl8_2]);go_roundg kj24
                                       case measure => have:=HK1.out;have:=HK2.out;have:=HJ24.out;omega
                                       case rel => exact ⟨(y237),(y238),(true),(wrap64 (x48_2 + 1)),(by first|rfl|(simp;done)|(simp [*];done)),(by first|rfl|(simp;done)|(simp [*];done)),H',⟨by have:=HK1.out;have:=HK2.out;have:=HJ24.out;omega⟩,⟨by (try simp only [hl8_2]);(with_reducible repeat (first|apply Kd.S_alloc|apply Kd.S_drewN|apply Kd.S_drew));exact Kd.S_mono HO_6.out (fun _ hk => hk.2)⟩,⟨by (try simp only [hl8_2]);(with_reducible repeat (first|apply Kd.R_alloc|apply Kd.R_drewN|apply Kd.R_drew));exact HO_8.out⟩,⟨by (try simp only [hl8_2]);(with_reducible repeat (first|apply Kd.R_alloc|apply Kd.R_drewN|apply Kd.R_drew));exact HO240.out⟩,⟨by (try simp only [hl8_2]);(with_reducible repeat (first|refine Z0 ?_ _|refine Z3 ?_|refine Z1 ?_ _));exact BK226.out⟩,⟨YH⟩⟩
                                     · rw [if_neg c37] at H;exact absurd H (by simp)
                                 · rw [if_neg c33] at H;exact absurd H (by simp)
                               · rw [if_neg c32] at H;exact absurd H (by simp)
                             · replace c31:=Bool.eq_false_iff.mpr c31
                               subst c31;have H1 : (order_Loops.l1 kj24 l1 l2 l3 x6_1 x28_1 x8_2 x9_2 x10_2 (l0_4.length : Int) x28_1 (rd_L1 l3 x28_1) ((rd_L1 l3 x28_1).length : Int) (wrap64 (x48_2 + 1)) a0_0 a0_1 a0_2 a0_3 l0_4) = some r:=by rw [if_neg (show ¬ (false = true) by decide)] at H;exact H
                               clear H;have H:=H1
                               clear H1;have H' := Aside0.mk H
                               clear H;go_wp2
                               (try simp only [← hl8_2]);go_roundg kj24
                               case measure => have:=HK1.out;have:=HK2.out;have:=HJ24.out;omega
                               case rel => exact ⟨(x8_2),(x9_2),(x10_2),(wrap64 (x48_2 + 1)),(by first|rfl|(simp;done)|(simp [*];done)),(by first|rfl|(simp;done)|(simp [*];done)),H',⟨by have:=HK1.out;have:=HK2.out;have:=HJ24.out;omega⟩,⟨by (try simp only [hl8_2]);(with_reducible repeat (first|apply Kd.S_alloc|apply Kd.S_drewN|apply Kd.S_drew));exact HO_6.out⟩,⟨by (try simp only [hl8_2]);(with_reducible repeat (first|apply Kd.R_alloc|apply Kd.R_drewN|apply Kd.R_drew));exact HO_8.out⟩,⟨by (try simp only [hl8_2]);(with_reducible repeat (first|apply Kd.R_alloc|apply Kd.R_drewN|apply Kd.R_drew));exact HO_9.out⟩,⟨by (try simp only [hl8_2]);(with_reducible repeat (first|refine Z0 ?_ _|refine Z3 ?_|refine Z1 ?_ _));exact BK226.out⟩,⟨YH⟩⟩
                         · rw [if_neg c24] at H;exact absurd H (by simp)
                       · rw [if_neg c23] at H;exact absurd H (by simp)
                     · rw [if_neg c22] at H;have c22b0 : decide (x48_2 < ((rd_L1 l3 x28_1).length : Int)) = false:=decide_eq_false c22
                       clear c22;by_cases c41 : x10_2 = true
                       · subst c41;have H1 : (order_Loops.l2 k2 l1 l2 l3 x6_1 x28_1 x8_2 x9_2 (l0_4.length : Int) x28_1 a0_0 a0_1 a0_2 a0_3 l0_4) = some r:=by rw [if_pos rfl] at H;exact H
                         clear H;have H:=H1
                         clear H1;have H' := Aside0.mk H
                         clear H;go_wp2
                         go_loopg [9] k2 (fun kq v9 w' => ∃ (x8_3 : List Bool) (x9_3 : List Int),Aside0 (order_Loops.l2 kq l1 l2 l3 x6_1 x28_1 x8_3 x9_3 (l0_4.length : Int) x28_1 a0_0 a0_1 a0_2 a0_3 l0_4 = some r) ∧ Aside0 (kq ≤ k2) ∧ Aside0 (Kd.S k42 42 w' wp.heap.size (fun k_ => some k_ ≠ (v9 : Value).ownBlock) u6 x6_1) ∧ Aside0 (Kd.R Kd.bool 4 w' wp.heap.size (fun _ => True) (.slice (some ⟨go15,0,none⟩) x8_2.length co15) x8_3) ∧ Aside0 (Kd.R (Kd.int .i64) 3 w' wp.heap.size (fun _ => True) v9 x9_3) ∧ Aside0 (w'.heap[gb226]? = some (.cells #[.string a0_0,.int .i64 a0_1,.int .i64 a0_2,.int .i64 a0_3,(.slice A0_4 l0_4.length c0_4)] 24 (0,0))) ∧ Aside0 (Below wp.heap.size wp w'))
                         case atStart => exact ⟨(x8_2),(x9_2),H',⟨Nat.le_refl _⟩,⟨by (try simp only [hl8_2]);(with_reducible repeat (first|apply Kd.S_alloc|apply Kd.S_drewN|apply Kd.S_drew));exact HO_6.out⟩,⟨by (try simp only [hl8_2]);(with_reducible repeat (first|apply Kd.R_alloc|apply Kd.R_drewN|apply Kd.R_drew));exact HO_8.out⟩,⟨by (try simp only [hl8_2]);(with_reducible repeat (first|apply Kd.R_alloc|apply Kd.R_drewN|apply Kd.R_drew));exact HO_9.out⟩,⟨by (try simp only [hl8_2]);(with_reducible repeat (first|refine Z0 ?_ _|refine Z3 ?_|refine Z1 ?_ _));exact BK226.out⟩,⟨YH⟩⟩
                         case round =>
                          clear H';try clear c7
                          try clear c7b0
                          try clear c8
                          try clear c8b0
                          try clear c9
                          try clear c9b0
                          try clear c11
                          try clear c12
                          try clear c12b1
                          try clear c13
                          try clear c13b1
                          try clear c14
                          try clear c14b0
                          try clear p15
                          try clear q15
                          try clear c16
                          try clear c16b0
                          try clear c22
                          try clear c22b0
                          try clear c41
                          try clear hcz17_4
                          try clear hx15_0
                          try clear hx227_0
                          try clear hx232_0
                          try clear p15
                          try clear p227
                          try clear p232
                          try clear q15
                          try clear q227
                          try clear q232
                          obtain ⟨x8_3,x9_3,HA,HK3,HO_6,HO_8,HO_9,BK226,HB⟩:=hrel
                          have hl8_3:=(Kd.R_reads' HO_8.out).1
                          rw [hl8_3] at HO_8;(try simp only [hl8_3]);(try simp only [hl8_3] at BK226);(try simp only [hl8_3] at HO_6);(try simp only [hl8_3] at HO_9);cases gk with
                          | zero => exact absurd HA.out (by simp [order_Loops.l2])
                          | succ k3 =>
                           have H:=HA.out
                           clear HA;simp only [order_Loops.l2] at H;by_cases c42 : (x9_3.length : Int) > 0
                           · rw [if_pos c42] at H;have c42b1 : decide (0 < x9_3.length) = true:=decide_eq_true (by omega)
                             clear c42;obtain ⟨ji43,hji43⟩ : ∃ j_ : Int,(wrap64 ((x9_3.length : Int) - 1)) = j_:=⟨_,rfl⟩
                             replace H : (if 0 ≤ (ji43) then (if (ji43) < (x9_3.length : Int) then (if (ji43) ≤ (x9_3.length : Int) then (if 0 ≤ (rd x9_3 (ji43)) then (if (rd x9_3 (ji43)) < (l3.length : Int) then (order_Loops.l3 k3 l1 l2 l3 x6_1 x28_1 x8_3 (x9_3.take ((ji43) : Int).toNat) (l0_4.length : Int) x28_1 (rd_L1 l3 (rd x9_3 (ji43))) ((rd_L1 l3 (rd x9_3 (ji43))).length : Int) 0 a0_0 a0_1 a0_2 a0_3 l0_4) else (none)) else (none)) else (none)) else (none)) else (none)) = some r:=by first|(rw [hji43] at H;exact H)|(simp only [hji43] at H ⊢;exact H)
                             have hji43w : (IntKind.i64.wrap ((x9_3.length : Int) - 1)) = ji43:=(i64_w _).trans hji43
                             by_cases c44 : 0 ≤ (ji43)
                             · rw [if_pos c44] at H;have c44b0 : decide (0 ≤ (ji43)) = true:=decide_eq_true c44
                               clear c44;by_cases c45 : (ji43) < (x9_3.length : Int)
                               · rw [if_pos c45] at H;have c45b0 : decide ((ji43) < (x9_3.length : Int)) = true:=decide_eq_true c45
                                 clear c45;by_cases c46 : (ji43) ≤ (x9_3.length : Int)
                                 · rw [if_pos c46] at H;have c46b1 : decide ((ji43) ≤ (x9_3.length : Int)) = true:=decide_eq_true c46
                                   clear c46;obtain ⟨y242,hy242⟩ : ∃ y_ : List Int,y_ = (x9_3.take ((ji43) : Int).toNat):=⟨_,rfl⟩
                                   replace H : (if 0 ≤ (rd x9_3 (ji43)) then (if (rd x9_3 (ji43)) < (l3.length : Int) then (order_Loops.l3 k3 l1 l2 l3 x6_1 x28_1 x8_3 y242 (l0_4.length : Int) x28_1 (rd_L1 l3 (rd x9_3 (ji43))) ((rd_L1 l3 (rd x9_3 (ji43))).length : Int) 0 a0_0 a0_1 a0_2 a0_3 l0_4) else (none)) else (none)) = some r:=by first|(rw [hy242];with_reducible exact H)|(have H2_:=(Option.bind_some _ _).symm.trans H;rw [hy242];with_reducible exact H2_)|(have H2_:=(Option.bind_some _ _).symm.trans H;with_reducible exact H2_)|with_reducible exact H|(rw [hy242];exact H)|exact H
                                   have Ny242:=Aside0.mk hy242
                                   clear hy242;by_cases c47 : 0 ≤ (rd x9_3 (ji43))
                                   · rw [if_pos c47] at H;have c47b0 : decide (0 ≤ (rd x9_3 (ji43))) = true:=decide_eq_true c47
                                     clear c47;by_cases c48 : (rd x9_3 (ji43)) < (l3.length : Int)
                                     · rw [if_pos c48] at H;have c48b0 : decide ((rd x9_3 (ji43)) < (l3.length : Int)) = true:=decide_eq_true c48
                                       clear c48;have H' := Aside0.mk H
                                       clear H;obtain ⟨Ao49,co49,eo49⟩:=Kd.R_slice HO_9.out
                                       subst eo49;have p241 : 0 ≤ ((ji43) : Int):=YA
                                       have q241 : (ji43) < (x9_3.length : Int):=YA
                                       obtain ⟨ad241,e241,hx241_0⟩:=Kd.at_int (Kd.R_reads' HO_9.out).2.2 (ji43) p241 q241
                                       cases e241;replace p241:=eq_true p241
                                       replace q241:=eq_true q241
                                       have q50 : ((ji43) : Int) ≤ ((x9_3.length : Int) : Int):=YA
                                       obtain ⟨i050,hi050,_,hsz50,_⟩:=info_parts info3
                                       have hcut50:=cut_to (P:=Try.prog) 26 3 .i64 Try.underlying26 hi050 (some ad241) x9_3.length co49 (ji43) YA q50 (Kd.R_reads' HO_9.out).2.1
                                       have hr50:=Kd.R_take (m:=((ji43) : Int).toNat) HO_9.out (by omega)
                                       have hy50 : y242.length = ((ji43) : Int).toNat:=(by rw [Ny242.out,List.length_take];omega)
                                       rw [← Ny242.out] at hr50;rw [← hy50] at hr50 hcut50;clear hy50 hi050 hsz50 HO_9;have HO244:=Aside0.mk hr50
                                       clear hr50;replace q50:=eq_true q50
                                       have p245 : 0 ≤ ((rd x9_3 (ji43)) : Int):=YA
                                       have q245 : (rd x9_3 (ji43)) < (l3.length : Int):=YA
                                       obtain ⟨ad245,A245_0,c245_0,e245,hx245_0,hl245_0,hi245_0⟩:=at_L1 HR3.out (rd x9_3 (ji43)) p245 q245
                                       obtain rfl : ad232 = ad245:=(by injection e245)
                                       replace hx245_0:=(HB.out.cell (World.block_lt_of_cell? wp _ hx245_0)).trans hx245_0
                                       have HR245_0:=Aside0.mk hi245_0
                                       clear hi245_0 hl245_0;replace p245:=eq_true p245
                                       replace q245:=eq_true q245
                                       go_wp2
                                       go_loopg [9,96] k3 (fun kq v9 v96 w' => ∃ (x8_4 : List Bool) (x9_4 : List Int) (x96_4 : Int),v96 = .int .i64 x96_4 ∧ Aside0 (order_Loops.l3 kq l1 l2 l3 x6_1 x28_1 x8_4 x9_4 (l0_4.length : Int) x28_1 (rd_L1 l3 (rd x9_3 (ji43))) ((rd_L1 l3 (rd x9_3 (ji43))).length : Int) x96_4 a0_0 a0_1 a0_2 a0_3 l0_4 = some r) ∧ Aside0 (kq ≤ k3) ∧ Aside0 (Kd.S k42 42 w' wp.heap.size (fun k_ => some k_ ≠ (v9 : Value).ownBlock) u6 x6_1) ∧ Aside0 (Kd.R Kd.bool 4 w' wp.heap.size (fun _ => True) (.slice (some ⟨go15,0,none⟩) x8_3.length co15) x8_4) ∧ Aside0 (Kd.R (Kd.int .i64) 3 w' wp.heap.size (fun _ => True) v9 x9_4) ∧ Aside0 (w'.heap[gb226]? = some (.cells #[.string a0_0,.int .i64 a0_1,.int .i64 a0_2,.int .i64 a0_3,(.slice A0_4 l0_4.length c0_4)] 24 (0,0))) ∧ Aside0 (Below wp.heap.size wp w'))
                                       case atStart => exact ⟨(x8_3),(y242),(0),(by first|rfl|(simp;done)|(simp [*];done)),H',⟨Nat.le_refl _⟩,⟨by (try simp only [hl8_2]);(try simp only [hl8_3]);(with_reducible repeat (first|apply Kd.S_alloc|apply Kd.S_drewN|apply Kd.S_drew));exact HO_6.out⟩,⟨by (try simp only [hl8_2]);(try simp only [hl8_3]);(with_reducible repeat (first|apply Kd.R_alloc|apply Kd.R_drewN|apply Kd.R_drew));exact HO_8.out⟩,⟨by (try simp only [hl8_2]);(try simp only [hl8_3]);(with_reducible repeat (first|apply Kd.R_alloc|apply Kd.R_drewN|apply Kd.R_drew));exact HO244.out⟩,⟨by (try simp only [hl8_2]);(try simp only [hl8_3]);(with_reducible repeat (first|refine Z0 ?_ _|refine Z3 ?_|refine Z1 ?_ _));exact BK226.out⟩,⟨YH⟩⟩
                                       case round =>
                                        clear H';try clear c7
                                        try clear c7b0
                                        try clear c8
                                        try clear c8b0
                                        try clear c9
                                        try clear c9b0
                                        try clear c11
                                        try clear c12
                                        try clear c12b1
                                        try clear c13
                                        try clear c13b1
                                        try clear c14
                                        try clear c14b0
                                        try clear p15
                                        try clear q15
                                        try clear c16
                                        try clear c16b0
                                        try clear c22
                                        try clear c22b0
                                        try clear c41
                                        try clear c42
                                        try clear c42b1
                                        try clear c44
                                        try clear c44b0
                                        try clear c45
                                        try clear c45b0
                                        try clear c46
                                        try clear c46b1
                                        try clear c47
                                        try clear c47b0
                                        try clear c48
                                        try clear c48b0
                                        try clear q50
                                        try clear hcz17_4
                                        try clear hx15_0
                                        try clear hx227_0
                                        try clear hx232_0
                                        try clear hx241_0
                                        try clear hx245_0
                                        try clear p15
                                        try clear p227
                                        try clear p232
                                        try clear p241
                                        try clear p245
                                        try clear q15
                                        try clear q227
                                        try clear q232
                                        try clear q241
                                        try clear q245
                                        try clear q50
                                        obtain ⟨x8_4,x9_4,x96_4,rfl,HA,HK4,HO_6,HO_8,HO_9,BK226,HB⟩:=hrel
                                        have hl8_4:=(Kd.R_reads' HO_8.out).1
                                        rw [hl8_4] at HO_8;(try simp only [hl8_4]);(try simp only [hl8_4] at BK226);(try simp only [hl8_4] at HO_6);(try simp only [hl8_4] at HO_9);cases gk with
                                        | zero => exact absurd HA.out (by simp [order_Loops.l3])
                                        | succ k4 =>
                                         have H:=HA.out
                                         clear HA;simp only [order_Loops.l3] at H;by_cases c51 : x96_4 < ((rd_L1 l3 (rd x9_3 (ji43))).length : Int)
                                         · rw [if_pos c51] at H;have c51b0 : decide (x96_4 < ((rd_L1 l3 (rd x9_3 (ji43))).length : Int)) = true:=decide_eq_true c51
                                           clear c51;by_cases c52 : 0 ≤ x96_4
                                           · rw [if_pos c52] at H;have c52b0 : decide (0 ≤ x96_4) = true:=decide_eq_true c52
                                             clear c52;by_cases c53 : x96_4 < ((rd_L1 l3 (rd x9_3 (ji43))).length : Int)
                                             · rw [if_pos c53] at H;have c53b0 : decide (x96_4 < ((rd_L1 l3 (rd x9_3 (ji43))).length : Int)) = true:=decide_eq_true c53
                                               clear c53;by_cases c54 : 0 ≤ (rd (rd_L1 l3 (rd x9_3 (ji43))) x96_4)
                                               · rw [if_pos c54] at H;have c54b0 : decide (0 ≤ (rd (rd_L1 l3 (rd x9_3 (ji43))) x96_4)) = true:=decide_eq_true c54
                                                 clear c54;by_cases c55 : (rd (rd_L1 l3 (rd x9_3 (ji43))) x96_4) < (l2.length : Int)
                                                 · rw [if_pos c55] at H;have c55b0 : decide ((rd (rd_L1 l3 (rd x9_3 (ji43))) x96_4) < (l2.length : Int)) = true:=decide_eq_true c55
                                                   clear c55;obtain ⟨bq56,hbq56⟩ : ∃ b_ : Bool,b_ = (rdOf false l2 (rd (rd_L1 l3 (rd x9_3 (ji43))) x96_4)):=⟨_,rfl⟩
                                                   replace H : (if bq56 = true then (if (rd (rd_L1 l3 (rd x9_3 (ji43))) x96_4) < (x8_4.length : Int) then (if (rdOf false x8_4 (rd (rd_L1 l3 (rd x9_3 (ji43))) x96_4) = true) then (order_Loops.l3 k4 l1 l2 l3 x6_1 x28_1 x8_4 x9_4 (l0_4.length : Int) x28_1 (rd_L1 l3 (rd x9_3 (ji43))) ((rd_L1 l3 (rd x9_3 (ji43))).length : Int) (wrap64 (x96_4 + 1)) a0_0 a0_1 a0_2 a0_3 l0_4) else (if x9_4.length < 17592186044416 then (order_Loops.l3 k4 l1 l2 l3 x6_1 x28_1 (x8_4.set ((rd (rd_L1 l3 (rd x9_3 (ji43))) x96_4) : Int).toNat true) (x9_4 ++ [rd (rd_L1 l3 (rd x9_3 (ji43))) x96_4]) (l0_4.length : Int) x28_1 (rd_L1 l3 (rd x9_3 (ji43))) ((rd_L1 l3 (rd x9_3 (ji43))).length : Int) (wrap64 (x96_4 + 1)) a0_0 a0_1 a0_2 a0_3 l0_4) else (none))) else (none)) else (order_Loops.l3 k4 l1 l2 l3 x6_1 x28_1 x8_4 x9_4 (l0_4.length : Int) x28_1 (rd_L1 l3 (rd x9_3 (ji43))) ((rd_L1 l3 (rd x9_3 (ji43))).length : Int) (wrap64 (x96_4 + 1)) a0_0 a0_1 a0_2 a0_3 l0_4)) = some r:=by rw [← hbq56] at H;exact H
                                                   have Nbq56:=Aside0.mk hbq56
                                                   clear hbq56;by_cases c57 : bq56 = true
                                                   · subst c57;have H1 : (if (rd (rd_L1 l3 (rd x9_3 (ji43))) x96_4) < (x8_4.length : Int) then (if (rdOf false x8_4 (rd (rd_L1 l3 (rd x9_3 (ji43))) x96_4) = true) then (order_Loops.l3 k4 l1 l2 l3 x6_1 x28_1 x8_4 x9_4 (l0_4.length : Int) x28_1 (rd_L1 l3 (rd x9_3 (ji43))) ((rd_L1 l3 (rd x9_3 (ji43))).length : Int) (wrap64 (x96_4 + 1)) a0_0 a0_1 a0_2 a0_3 l0_4) else (if x9_4.length < 17592186044416 then (order_Loops.l3 k4 l1 l2 l3 x6_1 x28_1 (x8_4.set ((rd (rd_L1 l3 (rd x9_3 (ji43))) x96_4) : Int).toNat true) (x9_4 ++ [rd (rd_L1 l3 (rd x9_3 (ji43))) x96_4]) (l0_4.length : Int) x28_1 (rd_L1 l3 (rd x9_3 (ji43))) ((rd_L1 l3 (rd x9_3 (ji43))).length : Int) (wrap64 (x96_4 + 1)) a0_0 a0_1 a0_2 a0_3 l0_4) else (none))) else (none)) = some r:=by rw [if_pos rfl] at H;exact H
                                                     clear H;have H:=H1
                                                     clear H1;by_cases c58 : (rd (rd_L1 l3 (rd x9_3 (ji43))) x96_4) < (x8_4.length : Int)
                                                     · rw [if_pos c58] at H;have c58b0 : decide ((rd (rd_L1 l3 (rd x9_3 (ji43))) x96_4) < (x8_4.length : Int)) = true:=decide_eq_true c58
                                                       clear c58;obtain ⟨bq59,hbq59⟩ : ∃ b_ : Bool,b_ = (rdOf false x8_4 (rd (rd_L1 l3 (rd x9_3 (ji43))) x96_4)):=⟨_,rfl⟩
                                                       replace H : (if (bq59 = true) then (order_Loops.l3 k4 l1 l2 l3 x6_1 x28_1 x8_4 x9_4 (l0_4.length : Int) x28_1 (rd_L1 l3 (rd x9_3 (ji43))) ((rd_L1 l3 (rd x9_3 (ji43))).length : Int) (wrap64 (x96_4 + 1)) a0_0 a0_1 a0_2 a0_3 l0_4) else (if x9_4.length < 17592186044416 then (order_Loops.l3 k4 l1 l2 l3 x6_1 x28_1 (x8_4.set ((rd (rd_L1 l3 (rd x9_3 (ji43))) x96_4) : Int).toNat true) (x9_4 ++ [rd (rd_L1 l3 (rd x9_3 (ji43))) x96_4]) (l0_4.length : Int) x28_1 (rd_L1 l3 (rd x9_3 (ji43))) ((rd_L1 l3 (rd x9_3 (ji43))).length : Int) (wrap64 (x96_4 + 1)) a0_0 a0_1 a0_2 a0_3 l0_4) else (none))) = some r:=by rw [← hbq59] at H;exact H
                                                       have Nbq59:=Aside0.mk hbq59
                                                       clear hbq59;by_cases c60 : (bq59 = true)
                                                       · subst c60;have H1 : (order_Loops.l3 k4 l1 l2 l3 x6_1 x28_1 x8_4 x9_4 (l0_4.length : Int) x28_1 (rd_L1 l3 (rd x9_3 (ji43))) ((rd_L1 l3 (rd x9_3 (ji43))).length : Int) (wrap64 (x96_4 + 1)) a0_0 a0_1 a0_2 a0_3 l0_4) = some r:=by rw [if_pos rfl] at H;exact H
                                                         clear H;have H:=H1
                                                         clear H1;have H' := Aside0.mk H
                                                         clear H;have p246 : 0 ≤ (x96_4 : Int):=YA
                                                         have q246 : x96_4 < ((rd_L1 l3 (rd x9_3 (ji43))).length : Int):=YA
                                                         obtain ⟨ad246,e246,hx246_0⟩:=Kd.at_int HR245_0.out x96_4 p246 q246
                                                         cases e246;replace hx246_0:=(HB.out.cell (World.block_lt_of_cell? wp _ hx246_0)).trans hx246_0
                                                         replace p246:=eq_true p246
                                                         replace q246:=eq_true q246
                                                         have p247 : 0 ≤ ((rd (rd_L1 l3 (rd x9_3 (ji43))) x96_4) : Int):=YA
                                                         have q247 : (rd (rd_L1 l3 (rd x9_3 (ji43))) x96_4) < (l2.length : Int):=YA
                                                         obtain ⟨ad247,e247,hx247_0⟩:=Kd.at_bool HR2.out (rd (rd_L1 l3 (rd x9_3 (ji43))) x96_4) p247 q247
                                                         (try rw [← Nbq10.out] at hx247_0);(try rw [← Nbq56.out] at hx247_0);(try rw [← Nbq59.out] at hx247_0);obtain rfl : ad227 = ad247:=(by injection e247)
                                                         replace hx247_0:=(HB.out.cell (World.block_lt_of_cell? wp _ hx247_0)).trans hx247_0
                                                         replace p247:=eq_true p247
                                                         replace q247:=eq_true q247
                                                         have p248 : 0 ≤ ((rd (rd_L1 l3 (rd x9_3 (ji43))) x96_4) : Int):=YA
                                                         have q248 : (rd (rd_L1 l3 (rd x9_3 (ji43))) x96_4) < (x8_4.length : Int):=YA
                                                         obtain ⟨ad248,e248,hx248_0⟩:=Kd.at_bool (Kd.R_reads' HO_8.out).2.2 (rd (rd_L1 l3 (rd x9_3 (ji43))) x96_4) p248 q248
                                                         (try rw [← Nbq10.out] at hx248_0);(try rw [← Nbq56.out] at hx248_0);(try rw [← Nbq59.out] at hx248_0);obtain rfl : (⟨go15,0,none⟩ : Addr) = ad248:=(by injection e248)
                                                         (first|simp only [add_plain] at hx248_0|simp only [add_at] at hx248_0|simp only [Addr.add,Nat.zero_add] at hx248_0|skip);replace p248:=eq_true p248
                                                         replace q248:=eq_true q248
                                                         go_wp2
                                                         (try simp only [← hl8_4]);go_roundg k4
                                                         case measure => have:=HK1.out;have:=HK2.out;have:=HK3.out;have:=HK4.out;omega
                                                         case rel => exact ⟨(x8_4),(x9_4),(wrap64 (x96_4 + 1)),(by first|rfl|(simp;done)|(simp [*];done)),H',⟨by have:=HK1.out;have:=HK2.out;have:=HK3.out;have:=HK4.out;omega⟩,⟨by (try simp only [hl8_2]);(try simp only [hl8_3]);(try simp only [hl8_4]);(with_reducible repeat (first|apply Kd.S_alloc|apply Kd.S_drewN|apply Kd.S_drew));exact HO_6.out⟩,⟨by (try simp only [hl8_2]);(try simp only [hl8_3]);(try simp only [hl8_4]);(with_reducible repeat (first|apply Kd.R_alloc|apply Kd.R_drewN|apply Kd.R_drew));exact HO_8.out⟩,⟨by (try simp only [hl8_2]);(try simp only [hl8_3]);(try simp only [hl8_4]);(with_reducible repeat (first|apply Kd.R_alloc|apply Kd.R_drewN|apply Kd.R_drew));exact HO_9.out⟩,⟨by (try simp only [hl8_2]);(try simp only [hl8_3]);(try simp only [hl8_4]);(with_reducible repeat (first|refine Z0 ?_ _|refine Z3 ?_|refine Z1 ?_ _));exact BK226.out⟩,⟨YH⟩⟩
                                                       · replace c60:=Bool.eq_false_iff.mpr c60
                                                         subst c60;have H1 : (if x9_4.length < 17592186044416 then (order_Loops.l3 k4 l1 l2 l3 x6_1 x28_1 (x8_4.set ((rd (rd_L1 l3 (rd x9_3 (ji43))) x96_4) : Int).toNat true) (x9_4 ++ [rd (rd_L1 l3 (rd x9_3 (ji43))) x96_4]) (l0_4.length : Int) x28_1 (rd_L1 l3 (rd x9_3 (ji43))) ((rd_L1 l3 (rd x9_3 (ji43))).length : Int) (wrap64 (x96_4 + 1)) a0_0 a0_1 a0_2 a0_3 l0_4) else (none)) = some r:=by rw [if_neg (show ¬ (false = true) by decide)] at H;exact H
                                                         clear H;have H:=H1
                                                         clear H1;obtain ⟨y249,hy249⟩ : ∃ y_ : List Bool,y_ = (x8_4.set ((rd (rd_L1 l3 (rd x9_3 (ji43))) x96_4) : Int).toNat true):=⟨_,rfl⟩
                                                         replace H : (if x9_4.length < 17592186044416 then (order_Loops.l3 k4 l1 l2 l3 x6_1 x28_1 y249 (x9_4 ++ [rd (rd_L1 l3 (rd x9_3 (ji43))) x96_4]) (l0_4.length : Int) x28_1 (rd_L1 l3 (rd x9_3 (ji43))) ((rd_L1 l3 (rd x9_3 (ji43))).length : Int) (wrap64 (x96_4 + 1)) a0_0 a0_1 a0_2 a0_3 l0_4) else (none)) = some r:=by first|(rw [hy249];with_reducible exact H)|(have H2_:=(Option.bind_some _ _).symm.trans H;rw [hy249];with_reducible exact H2_)|(have H2_:=(Option.bind_some _ _).symm.trans H;with_reducible exact H2_)|with_reducible exact H|(rw [hy249];exact H)|exact H
                                                         have Ny249:=Aside0.mk hy249
                                                         clear hy249;by_cases c62 : x9_4.length < 17592186044416
                                                         · rw [if_pos c62] at H;have LMc62:=Aside0.mk c62
                                                           clear c62;obtain ⟨y250,hy250⟩ : ∃ y_ : List Int,y_ = (x9_4 ++ [rd (rd_L1 l3 (rd x9_3 (ji43))) x96_4]):=⟨_,rfl⟩
                                                           replace H : (order_Loops.l3 k4 l1 l2 l3 x6_1 x28_1 y249 y250 (l0_4.length : Int) x28_1 (rd_L1 l3 (rd x9_3 (ji43))) ((rd_L1 l3 (rd x9_3 (ji43))).length : Int) (wrap64 (x96_4 + 1)) a0_0 a0_1 a0_2 a0_3 l0_4) = some r:=by first|(rw [hy250];with_reducible exact H)|(have H2_:=(Option.bind_some _ _).symm.trans H;rw [hy250];with_reducible exact H2_)|(have H2_:=(Option.bind_some _ _).symm.trans H;with_reducible exact H2_)|with_reducible exact H|(rw [hy250];exact H)|exact H
                                                           have Ny250:=Aside0.mk hy250
                                                           clear hy250;have H' := Aside0.mk H
                                                           clear H;have p246 : 0 ≤ (x96_4 : Int):=YA
                                                           have q246 : x96_4 < ((rd_L1 l3 (rd x9_3 (ji43))).length : Int):=YA
                                                           obtain ⟨ad246,e246,hx246_0⟩:=Kd.at_int HR245_0.out x96_4 p246 q246
                                                           cases e246;replace hx246_0:=(HB.out.cell (World.block_lt_of_cell? wp _ hx246_0)).trans hx246_0
                                                           replace p246:=eq_true p246
                                                           replace q246:=eq_true q246
                                                           have p247 : 0 ≤ ((rd (rd_L1 l3 (rd x9_3 (ji43))) x96_4) : Int):=YA
                                                           have q247 : (rd (rd_L1 l3 (rd x9_3 (ji43))) x96_4) < (l2.length : Int):=YA
                                                           obtain ⟨ad247,e247,hx247_0⟩:=Kd.at_bool HR2.out (rd (rd_L1 l3 (rd x9_3 (ji43))) x96_4) p247 q247
                                                           (try rw [← Nbq10.out] at hx247_0);(try rw [← Nbq56.out] at hx247_0);(try rw [← Nbq59.out] at hx247_0);obtain rfl : ad227 = ad247:=(by injection e247)
                                                           replace hx247_0:=(HB.out.cell (World.block_lt_of_cell? wp _ hx247_0)).trans hx247_0
                                                           replace p247:=eq_true p247
                                                           replace q247:=eq_true q247
                                                           have p248 : 0 ≤ ((rd (rd_L1 l3 (rd x9_3 (ji43))) x96_4) : Int):=YA
                                                           have q248 : (rd (rd_L1 l3 (rd x9_3 (ji43))) x96_4) < (x8_4.length : Int):=YA
                                                           obtain ⟨ad248,e248,hx248_0⟩:=Kd.at_bool (Kd.R_reads' HO_8.out).2.2 (rd (rd_L1 l3 (rd x9_3 (ji43))) x96_4) p248 q248
                                                           (try rw [← Nbq10.out] at hx248_0);(try rw [← Nbq56.out] at hx248_0);(try rw [← Nbq59.out] at hx248_0);obtain rfl : (⟨go15,0,none⟩ : Addr) = ad248:=(by injection e248)
                                                           (first|simp only [add_plain] at hx248_0|simp only [add_at] at hx248_0|simp only [Addr.add,Nat.zero_add] at hx248_0|skip);replace p248:=eq_true p248
                                                           replace q248:=eq_true q248
                                                           have p61 : 0 ≤ ((rd (rd_L1 l3 (rd x9_3 (ji43))) x96_4) : Int):=YA
                                                           have q61 : ((rd (rd_L1 l3 (rd x9_3 (ji43))) x96_4) : Int) < ((x8_4.length : Int) : Int):=YA
                                                           obtain ⟨hx61_0,hf61_0⟩:=Kd.R_celln false HO_8.out ((rd (rd_L1 l3 (rd x9_3 (ji43))) x96_4) : Int) p61 q61
                                                           replace p61:=eq_true p61
                                                           replace q61:=eq_true q61
                                                           have HP63:=Kd.R_putg HO_8.out ((rd (rd_L1 l3 (rd x9_3 (ji43))) x96_4) : Int) true
                                                           go_wp2_with (first|((with_reducible refine gate_store (t:=4) (p:=113) rfl ?_);refine store_event (t:=4) (p:=113) (v:=?vo_w64) (w1:=(wr.setCell ⟨go15,((rd (rd_L1 l3 (rd x9_3 (ji43))) x96_4) : Int).toNat,none⟩ (.bool true))) ?hg ?ho ?hn ?hr ?_;(case ho => rfl);(case hg => rfl);(case hn => rfl);(case hr => first|(go_simp;done)|(go_simp;rfl));intro w64 hw;have hg : wr.grownBy w64 (some go15):=(by rw [hw];exact HP63.2);have hp_ : Kd.R Kd.bool 4 w64 wp.heap.size (fun _ => True) (.slice (some ⟨go15,0,none⟩) x8_4.length co15) y249:=(by rw [hw,Ny249.out];exact HP63.1);clear HP63;have n0_:=Aside0.mk (Kd.S_over' (v:=(.slice (some ⟨go15,0,none⟩) x8_4.length co15)) (YS HO_6) (Kd.R_typed HO_8.out) (by decide) hg);have n1_:=Aside0.mk (hp_);have n2_:=Aside0.mk (Kd.R_over' (v:=(.slice (some ⟨go15,0,none⟩) x8_4.length co15)) (YR HO_9) (Kd.R_typed HO_8.out) (by decide) hg);have n3_:=Aside0.mk (Z89 (YK BK226) hg (Kd.R_ne HO_8.out BK226.out (by decide)));have n4_:=Aside0.mk ((by rw [hw];exact Z8 (HB.out) GB15.out : Below wp.heap.size wp w64));clear HO_6;clear HO_8;clear HO_9;clear BK226;clear HB;have HO_6:=n0_;have HO_8:=n1_;have HO_9:=n2_;have BK226:=n3_;have HB:=n4_;clear n0_ n1_ n2_ n3_ n4_;clear hg hw hp_)|((with_reducible refine Z69 (b:=.append) (xs:=#[.tmp 114,.tmp 116]) rfl ?_);at_builtin;refine Kd.R_append (Kd.int .i64) (w0:=wp) wp.heap.size rfl (.tmp 114) (.tmp 116) 26 3 (.int .i64 0) 8 rfl Try.underlying26 info3 rfl (by decide) (by omega) u9 x9_4 (rd (rd_L1 l3 (rd x9_3 (ji43))) x96_4) [.int .i64 (rd (rd_L1 l3 (rd x9_3 (ji43))) x96_4)] (fun _ => True) (fun _ => False) rfl rfl ?aP (fun _ hk => hk.elim) ?aF ?aO ?aB ?aS ?aL ?_;(case aP => exact rfl);(case aB => exact YH);(case aF => exact (fun _ _ => trivial));(case aO => exact (YR HO_9));(case aS => exact (Z27 YH));(case aL => have:=LMc62.out;omega);intro v251 w65 ho hb hg hat;rw [← Ny250.out] at ho;have n0_:=Aside0.mk (Kd.S_after (ok:=(fun _ => True)) (by (with_reducible repeat (first|apply Kd.S_alloc|apply Kd.S_drewN|apply Kd.S_drew));exact Kd.S_mono HO_6.out (fun _ hk => ⟨trivial,hk⟩)) hg hat);have n1_:=Aside0.mk (Kd.R_over' (YR HO_8) (Kd.R_typed (YR HO_9)) (by decide) hg);have n2_:=Aside0.mk (Z89 (YK BK226) hg (Kd.R_ne HO_9.out BK226.out (by decide)));have n3_:=Aside0.mk (hb);have n4_:=Aside0.mk (ho);clear HO_6;clear HO_8;clear BK226;clear HB;clear HO_9;have HO_6:=n0_;have HO_8:=n1_;have BK226:=n2_;have HB:=n3_;have HO252:=n4_;clear n0_ n1_ n2_ n3_ n4_;clear ho hb hg hat))
                                                           (try simp only [← hl8_4]);go_roundg k4
                                                           case measure => have:=HK1.out;have:=HK2.out;have:=HK3.out;have:=HK4.out;omega
                                                           case rel => exact ⟨(y249),(y250),(wrap64 (x96_4 + 1)),(by first|rfl|(simp;done)|(simp [*];done)),H',⟨by have:=HK1.out;have:=HK2.out;have:=HK3.out;have:=HK4.out;omega⟩,⟨by (try simp only [hl8_2]);(try simp only [hl8_3]);(try simp only [hl8_4]);(with_reducible repeat (first|apply Kd.S_alloc|apply Kd.S_drewN|apply Kd.S_drew));exact Kd.S_mono HO_6.out (fun _ hk => hk.2)⟩,⟨by (try simp only [hl8_2]);(try simp only [hl8_3]);(try simp only [hl8_4]);(with_reducible repeat (first|apply Kd.R_alloc|apply Kd.R_drewN|apply Kd.R_drew));exact HO_8.out⟩,⟨by (try simp only [hl8_2]);(try simp only [hl8_3]);(try simp only [hl8_4]);(with_reducible repeat (first|apply Kd.R_alloc|apply Kd.R_drewN|apply Kd.R_drew));exact HO252.out⟩,⟨by (try simp only [hl8_2]);(try simp only [hl8_3]);(try simp only [hl8_4]);(with_reducible repeat (first|refine Z0 ?_ _|refine Z3 ?_|refine Z1 ?_ _));exact BK226.out⟩,⟨YH⟩⟩
                                                         · rw [if_neg c62] at H;exact absurd H (by simp)
                                                     · rw [if_neg c58] at H;exact absurd H (by simp)
                                                   · replace c57:=Bool.eq_false_iff.mpr c57
                                                     subst c57;have H1 : (order_Loops.l3 k4 l1 l2 l3 x6_1 x28_1 x8_4 x9_4 (l0_4.length : Int) x28_1 (rd_L1 l3 (rd x9_3 (ji43))) ((rd_L1 l3 (rd x9_3 (ji43))).length : Int) (wrap64 (x96_4 + 1)) a0_0 a0_1 a0_2 a0_3 l0_4) = some r:=by rw [if_neg (show ¬ (false = true) by decide)] at H;exact H
                                                     clear H;have H:=H1
                                                     clear H1;have H' := Aside0.mk H
                                                     clear H;have p246 : 0 ≤ (x96_4 : Int):=YA
                                                     have q246 : x96_4 < ((rd_L1 l3 (rd x9_3 (ji43))).length : Int):=YA
                                                     obtain ⟨ad246,e246,hx246_0⟩:=Kd.at_int HR245_0.out x96_4 p246 q246
                                                     cases e246;replace hx246_0:=(HB.out.cell (World.block_lt_of_cell? wp _ hx246_0)).trans hx246_0
                                                     replace p246:=eq_true p246
                                                     replace q246:=eq_true q246
                                                     have p247 : 0 ≤ ((rd (rd_L1 l3 (rd x9_3 (ji43))) x96_4) : Int):=YA
                                                     have q247 : (rd (rd_L1 l3 (rd x9_3 (ji43))) x96_4) < (l2.length : Int):=YA
                                                     obtain ⟨ad247,e247,hx247_0⟩:=Kd.at_bool HR2.out (rd (rd_L1 l3 (rd x9_3 (ji43))) x96_4) p247 q247
                                                     (try rw [← Nbq10.out] at hx247_0);(try rw [← Nbq56.out] at hx247_0);obtain rfl : ad227 = ad247:=(by injection e247)
                                                     replace hx247_0:=(HB.out.cell (World.block_lt_of_cell? wp _ hx247_0)).trans hx247_0
                                                     replace p247:=eq_true p247
                                                     replace q247:=eq_true q247
                                                     go_wp2
                                                     (try simp only [← hl8_4]);go_roundg k4
                                                     case measure => have:=HK1.out;have:=HK2.out;have:=HK3.out;have:=HK4.out;omega
                                                     case rel => exact ⟨(x8_4),(x9_4),(wrap64 (x96_4 + 1)),(by first|rfl|(simp;done)|(simp [*];done)),H',⟨by have:=HK1.out;have:=HK2.out;have:=HK3.out;have:=HK4.out;omega⟩,⟨by (try simp only [hl8_2]);(try simp only [hl8_3]);(try simp only [hl8_4]);(with_reducible repeat (first|apply Kd.S_alloc|apply Kd.S_drewN|apply Kd.S_drew));exact HO_6.out⟩,⟨by (try simp only [hl8_2]);(try simp only [hl8_3]);(try simp only [hl8_4]);(with_reducible repeat (first|apply Kd.R_alloc|apply Kd.R_drewN|apply Kd.R_drew));exact HO_8.out⟩,⟨by (try simp only [hl8_2]);(try simp only [hl8_3]);(try simp only [hl8_4]);(with_reducible repeat (first|apply Kd.R_alloc|apply Kd.R_drewN|apply Kd.R_drew));exact HO_9.out⟩,⟨by (try simp only [hl8_2]);(try simp only [hl8_3]);(try simp only [hl8_4]);(with_reducible repeat (first|refine Z0 ?_ _|refine Z3 ?_|refine Z1 ?_ _));exact BK226.out⟩,⟨YH⟩⟩
                                                 · rw [if_neg c55] at H;exact absurd H (by simp)
                                               · rw [if_neg c54] at H;exact absurd H (by simp)
                                             · rw [if_neg c53] at H;exact absurd H (by simp)
                                           · rw [if_neg c52] at H;exact absurd H (by simp)
                                         · rw [if_neg c51] at H;have c51b0 : decide (x96_4 < ((rd_L1 l3 (rd x9_3 (ji43))).length : Int)) = false:=decide_eq_false c51
                                           clear c51;have H' := Aside0.mk H
                                           clear H;go_wp2
                                           (try simp only [← hl8_3,← hl8_4]);go_roundg k4
                                           case measure => have:=HK1.out;have:=HK2.out;have:=HK3.out;have:=HK4.out;omega
                                           case rel => exact ⟨(x8_4),(x9_4),H',⟨by have:=HK1.out;have:=HK2.out;have:=HK3.out;have:=HK4.out;omega⟩,⟨by (try simp only [hl8_2]);(try simp only [hl8_3]);(try simp only [hl8_4]);(with_reducible repeat (first|apply Kd.S_alloc|apply Kd.S_drewN|apply Kd.S_drew));exact HO_6.out⟩,⟨by (try simp only [hl8_2]);(try simp only [hl8_3]);(try simp only [hl8_4]);(with_reducible repeat (first|apply Kd.R_alloc|apply Kd.R_drewN|apply Kd.R_drew));exact HO_8.out⟩,⟨by (try simp only [hl8_2]);(try simp only [hl8_3]);(try simp only [hl8_4]);(with_reducible repeat (first|apply Kd.R_alloc|apply Kd.R_drewN|apply Kd.R_drew));exact HO_9.out⟩,⟨by (try simp only [hl8_2]);(try simp only [hl8_3]);(try simp only [hl8_4]);(with_reducible repeat (first|refine Z0 ?_ _|refine Z3 ?_|refine Z1 ?_ _));exact BK226.out⟩,⟨YH⟩⟩
                                     · rw [if_neg c48] at H;exact absurd H (by simp)
                                   · rw [if_neg c47] at H;exact absurd H (by simp)
                                 · rw [if_neg c46] at H;exact absurd H (by simp)
                               · rw [if_neg c45] at H;exact absurd H (by simp)
                             · rw [if_neg c44] at H;exact absurd H (by simp)
                           · rw [if_neg c42] at H;have c42b1 : decide (0 < x9_3.length) = false:=decide_eq_false (by omega)
                             clear c42;have H' := Aside0.mk H
                             clear H;obtain ⟨Ao66,co66,eo66⟩:=Kd.R_slice HO_9.out
                             subst eo66;go_wp2_with (first|((with_reducible refine Z52 (N:=16) rfl ?_);refine Z51 ?hg (N:=16) ?hd (cs:=#[.int .i64 0,.slice none 0 0]) (t:=42) ?hr ?_;(case hd => rfl);(case hg => rfl);(case hr => first|(go_simp;done)|(go_simp;rfl));intro gb253 hg w67 hbox hb;have n0_:=Aside0.mk (Kd.S_below (Kd.S_elderB (YS HO_6) gb253 (Nat.le_of_eq hg.symm)) hb);have n1_:=Aside0.mk (Kd.R_below (YR HO_8) hb);have n2_:=Aside0.mk (Kd.R_below (YR HO_9) hb);have n3_:=Aside0.mk (Z40 (YK BK226) hb);have n4_:=Aside0.mk (Z25 YH hb);have n5_:=Aside0.mk (hbox);have n6_:=Aside0.mk ((by rw [hg];exact (Z27 YH) : wp.heap.size ≤ gb253));have n7_:=Aside0.mk ((by rw [hg];exact (Z27 YH) : wp.heap.size ≤ gb253));have n8_:=Aside0.mk ((by rw [hg];exact Nat.ne_of_lt (blk_lt (YK BK226)) : gb226 ≠ gb253));have n9_:=Aside0.mk ((by rw [hg];exact Nat.ne_of_gt (blk_lt (YK BK226)) : gb253 ≠ gb226));clear HO_6;clear HO_8;clear HO_9;clear BK226;clear HB;have HO_6:=n0_;have HO_8:=n1_;have HO_9:=n2_;have BK226:=n3_;have HB:=n4_;have BK253:=n5_;have GW253:=n6_;have GE253:=n7_;have NB226_253:=n8_;have NB253_226:=n9_;clear n0_ n1_ n2_ n3_ n4_ n5_ n6_ n7_ n8_ n9_;clear hb hbox hg;have hnb68:=NB253_226.out;have hnc68:=NB226_253.out;have hcz69_0 : w67.cell? ⟨gb253,0,none⟩ = some (.int .i64 0):=(Z5 BK253.out 0).trans rfl;have hcz69_1 : w67.cell? ⟨gb253,1,none⟩ = some (.slice none 0 0):=(Z5 BK253.out 1).trans rfl;have hfz69_0:=Z2 BK253.out 0;have hfz69_1:=Z2 BK253.out 1))
                             go_loopg [123] k3 (fun kq v123 w' => ∃ (x123_4 : Int) (x254001_4 : List Int) (u254001 : Value),v123 = .int .i64 x123_4 ∧ Aside0 (order_Loops.l4 kq l1 l2 l3 x6_1 (l0_4.length : Int) x28_1 x8_3 (x8_3.length : Int) x123_4 a0_0 a0_1 a0_2 a0_3 l0_4 x28_1 x254001_4 = some r) ∧ Aside0 (kq ≤ k3) ∧ Aside0 (Kd.S k42 42 w' wp.heap.size (fun k_ => some k_ ≠ (u254001 : Value).ownBlock ∧ k_ ≠ gb253) u6 x6_1) ∧ Aside0 (Kd.R Kd.bool 4 w' wp.heap.size (fun _ => True) (.slice (some ⟨go15,0,none⟩) x8_3.length co15) x8_3) ∧ Aside0 (Kd.R (Kd.int .i64) 3 w' wp.heap.size (fun _ => True) u254001 x254001_4) ∧ Aside0 (w'.heap[gb226]? = some (.cells #[.string a0_0,.int .i64 a0_1,.int .i64 a0_2,.int .i64 a0_3,(.slice A0_4 l0_4.length c0_4)] 24 (0,0))) ∧ Aside0 (w'.heap[gb253]? = some (.cells #[.int .i64 x28_1,u254001] 42 (0,0))) ∧ Aside0 (Below wp.heap.size wp w'))
                             case atStart => exact ⟨(0),(([] : List Int)),(.slice none 0 0),(by first|rfl|(simp;done)|(simp [*];done)),H',⟨Nat.le_refl _⟩,⟨by (try simp only [hl8_2]);(try simp only [hl8_3]);(with_reducible repeat (first|apply Kd.S_alloc|apply Kd.S_drewN|apply Kd.S_drew));exact Kd.S_mono (Kd.S_far (p:=⟨gb253,1,none⟩) (Kd.S_far (p:=⟨gb253,0,none⟩) (Kd.S_mono HO_6.out (fun k_ hk => (⟨hk,hk.2⟩ : _ ∧ k_ ≠ gb253))) (fun _ hk => hk.2) (.int .i64 x28_1)) (fun _ hk => hk.2) (.slice none 0 0)) (fun _ hk => ⟨(by simp [Value.ownBlock]),hk.1.2⟩)⟩,⟨by (try simp only [hl8_2]);(try simp only [hl8_3]);(with_reducible repeat (first|apply Kd.R_alloc|apply Kd.R_drewN|apply Kd.R_drew));exact Kd.R_mono (Kd.R_far (p:=⟨gb253,1,none⟩) (Kd.R_far (p:=⟨gb253,0,none⟩) (Kd.R_types HO_8.out BK253.out (by decide)) (fun _ hk => hk.2) (.int .i64 x28_1)) (fun _ hk => hk.2) (.slice none 0 0)) (fun _ hk => trivial)⟩,⟨by (try simp only [hl8_2]);(try simp only [hl8_3]);first|exact Kd.R_nil _ _ _ _ _|exact Kd.N_nil _ _ _ _ _|exact Kd.V_nil _ _ _ _ _|exact Kd.Q_nil _ _ _ _ _|exact Kd.S_nil _ _ _ _ _⟩,⟨by (try simp only [hl8_2]);(try simp only [hl8_3]);(with_reducible repeat (first|refine Z0 ?_ _|refine Z3 ?_|refine Z1 ?_ _));refine Z22 ?_ NB226_253.out _;(with_reducible repeat (first|refine Z0 ?_ _|refine Z3 ?_|refine Z1 ?_ _));refine Z22 ?_ NB226_253.out _;(with_reducible repeat (first|refine Z0 ?_ _|refine Z3 ?_|refine Z1 ?_ _));exact BK226.out⟩,⟨by (try simp only [hl8_2]);(try simp only [hl8_3]);(with_reducible repeat (first|refine Z0 ?_ _|refine Z3 ?_|refine Z1 ?_ _));refine Z9 (cs:=#[.int .i64 x28_1,.slice none 0 0]) ?_ 1 _ rfl;(with_reducible repeat (first|refine Z0 ?_ _|refine Z3 ?_|refine Z1 ?_ _));refine Z9 (cs:=#[.int .i64 0,.slice none 0 0]) ?_ 0 _ rfl;(with_reducible repeat (first|refine Z0 ?_ _|refine Z3 ?_|refine Z1 ?_ _));exact BK253.out⟩,⟨YH⟩⟩
                             case round =>
                              clear H';try clear c7
                              try clear c7b0
                              try clear c8
                              try clear c8b0
                              try clear c9
                              try clear c9b0
                              try clear c11
                              try clear c12
                              try clear c12b1
                              try clear c13
                              try clear c13b1
                              try clear c14
                              try clear c14b0
                              try clear p15
                              try clear q15
                              try clear c16
                              try clear c16b0
                              try clear c22
                              try clear c22b0
                              try clear c41
                              try clear c42
                              try clear c42b1
                              try clear hcz17_4
                              try clear hcz69_0
                              try clear hcz69_1
                              try clear hfz69_0
                              try clear hfz69_1
                              try clear hx15_0
                              try clear hx227_0
                              try clear hx232_0
                              try clear p15
                              try clear p227
                              try clear p232
                              try clear q15
                              try clear q227
                              try clear q232
                              obtain ⟨x123_4,x254001_4,u254001,rfl,HA,HK4,HO_6,HO_121,HO_254001,BK226,BK253,HB⟩:=hrel
                              cases gk with
                              | zero => exact absurd HA.out (by simp [order_Loops.l4])
                              | succ k4 =>
                               have H:=HA.out
                               clear HA;simp only [order_Loops.l4] at H;by_cases c70 : x123_4 < (x8_3.length : Int)
                               · rw [if_pos c70] at H;have c70b0 : decide (x123_4 < (x8_3.length : Int)) = true:=decide_eq_true c70
                                 clear c70;by_cases c71 : 0 ≤ x123_4
                                 · rw [if_pos c71] at H;have c71b0 : decide (0 ≤ x123_4) = true:=decide_eq_true c71
                                   clear c71;by_cases c72 : x123_4 < (x8_3.length : Int)
                                   · rw [if_pos c72] at H;have c72b0 : decide (x123_4 < (x8_3.length : Int)) = true:=decide_eq_true c72
                                     clear c72;obtain ⟨bq73,hbq73⟩ : ∃ b_ : Bool,b_ = (rdOf false x8_3 x123_4):=⟨_,rfl⟩
                                     replace H : (if bq73 = true then (if x254001_4.length < 17592186044416 then (order_Loops.l4 k4 l1 l2 l3 x6_1 (l0_4.length : Int) x28_1 x8_3 (x8_3.length : Int) (wrap64 (x123_4 + 1)) a0_0 a0_1 a0_2 a0_3 l0_4 x28_1 (x254001_4 ++ [x123_4])) else (none)) else (order_Loops.l4 k4 l1 l2 l3 x6_1 (l0_4.length : Int) x28_1 x8_3 (x8_3.length : Int) (wrap64 (x123_4 + 1)) a0_0 a0_1 a0_2 a0_3 l0_4 x28_1 x254001_4)) = some r:=by rw [← hbq73] at H;exact H
                                     have Nbq73:=Aside0.mk hbq73
                                     clear hbq73;by_cases c74 : bq73 = true
                                     · subst c74;have H1 : (if x254001_4.length < 17592186044416 then (order_Loops.l4 k4 l1 l2 l3 x6_1 (l0_4.length : Int) x28_1 x8_3 (x8_3.length : Int) (wrap64 (x123_4 + 1)) a0_0 a0_1 a0_2 a0_3 l0_4 x28_1 (x254001_4 ++ [x123_4])) else (none)) = some r:=by rw [if_pos rfl] at H;exact H
                                       clear H;have H:=H1
                                       clear H1;by_cases c75 : x254001_4.length < 17592186044416
                                       · rw [if_pos c75] at H;have LMc75:=Aside0.mk c75
                                         clear c75;obtain ⟨y255,hy255⟩ : ∃ y_ : List Int,y_ = (x254001_4 ++ [x123_4]):=⟨_,rfl⟩
                                         replace H : (order_Loops.l4 k4 l1 l2 l3 x6_1 (l0_4.length : Int) x28_1 x8_3 (x8_3.length : Int) (wrap64 (x123_4 + 1)) a0_0 a0_1 a0_2 a0_3 l0_4 x28_1 y255) = some r:=by first|(rw [hy255];with_reducible exact H)|(have H2_:=(Option.bind_some _ _).symm.trans H;rw [hy255];with_reducible exact H2_)|(have H2_:=(Option.bind_some _ _).symm.trans H;with_reducible exact H2_)|with_reducible exact H|(rw [hy255];exact H)|exact H
                                         have Ny255:=Aside0.mk hy255
                                         clear hy255;have H' := Aside0.mk H
                                         clear H;have p254 : 0 ≤ (x123_4 : Int):=YA
                                         have q254 : x123_4 < (x8_3.length : Int):=YA
                                         obtain ⟨ad254,e254,hx254_0⟩:=Kd.at_bool (Kd.R_reads' HO_121.out).2.2 x123_4 p254 q254
                                         (try rw [← Nbq10.out] at hx254_0);(try rw [← Nbq73.out] at hx254_0);obtain rfl : (⟨go15,0,none⟩ : Addr) = ad254:=(by injection e254)
                                         (first|simp only [add_plain] at hx254_0|simp only [add_at] at hx254_0|simp only [Addr.add,Nat.zero_add] at hx254_0|skip);replace p254:=eq_true p254
                                         replace q254:=eq_true q254
                                         have hnb76:=NB253_226.out
                                         have hnc76:=NB226_253.out
                                         have hcz77_1 : wr.cell? ⟨gb253,1,none⟩ = some (u254001):=(Z5 BK253.out 1).trans rfl
                                         go_wp2_with (first|((with_reducible refine Z69 (b:=.append) (xs:=#[.tmp 130,.tmp 132]) rfl ?_);at_builtin;refine Kd.R_append (Kd.int .i64) (w0:=wp) wp.heap.size rfl (.tmp 130) (.tmp 132) 26 3 (.int .i64 0) 8 rfl Try.underlying26 info3 rfl (by decide) (by omega) u254001 x254001_4 x123_4 [.int .i64 x123_4] (fun _ => True) (fun _ => False) rfl rfl ?aP (fun _ hk => hk.elim) ?aF ?aO ?aB ?aS ?aL ?_;(case aP => exact rfl);(case aB => exact YH);(case aF => exact (fun _ _ => trivial));(case aO => exact (YR HO_254001));(case aS => exact (Z27 YH));(case aL => have:=LMc75.out;omega);intro v256 w78 ho hb hg hat;rw [← Ny255.out] at ho;have n0_:=Aside0.mk (Kd.S_after (ok:=(fun k_ => k_ ≠ gb253)) (by (with_reducible repeat (first|apply Kd.S_alloc|apply Kd.S_drewN|apply Kd.S_drew));exact Kd.S_mono HO_6.out (fun _ hk => ⟨hk.2,hk.1⟩)) hg hat);have n1_:=Aside0.mk (Kd.R_over' (YR HO_121) (Kd.R_typed (YR HO_254001)) (by decide) hg);have n2_:=Aside0.mk (Z89 (YK BK226) hg (Kd.R_ne HO_254001.out BK226.out (by decide)));have n3_:=Aside0.mk (Z89 (YK BK253) hg (Kd.R_ne HO_254001.out BK253.out (by decide)));have n4_:=Aside0.mk (hb);have n5_:=Aside0.mk (ho);clear HO_6;clear HO_121;clear BK226;clear BK253;clear HB;clear HO_254001;have HO_6:=n0_;have HO_121:=n1_;have BK226:=n2_;have BK253:=n3_;have HB:=n4_;have HO257:=n5_;clear n0_ n1_ n2_ n3_ n4_ n5_;clear ho hb hg hat;obtain ⟨Ao79,co79,eo79⟩:=Kd.R_slice HO257.out;subst eo79;have hcz80_1 : w78.cell? ⟨gb253,1,none⟩ = some (u254001):=(Z5 BK253.out 1).trans rfl;have hfz80_1:=Z2 BK253.out 1))
                                         go_roundg k4
                                         case measure => have:=HK1.out;have:=HK2.out;have:=HK3.out;have:=HK4.out;omega
                                         case rel => exact ⟨(wrap64 (x123_4 + 1)),(y255),(.slice Ao79 y255.length co79),(by first|rfl|(simp;done)|(simp [*];done)),H',⟨by have:=HK1.out;have:=HK2.out;have:=HK3.out;have:=HK4.out;omega⟩,⟨by (try simp only [hl8_2]);(try simp only [hl8_3]);(with_reducible repeat (first|apply Kd.S_alloc|apply Kd.S_drewN|apply Kd.S_drew));exact Kd.S_mono (Kd.S_far (p:=⟨gb253,1,none⟩) (Kd.S_mono HO_6.out (fun k_ hk => (⟨hk,hk.1⟩ : _ ∧ k_ ≠ gb253))) (fun _ hk => hk.2) (.slice Ao79 y255.length co79)) (fun _ hk => ⟨hk.1.2,hk.1.1⟩)⟩,⟨by (try simp only [hl8_2]);(try simp only [hl8_3]);(with_reducible repeat (first|apply Kd.R_alloc|apply Kd.R_drewN|apply Kd.R_drew));exact Kd.R_mono (Kd.R_far (p:=⟨gb253,1,none⟩) (Kd.R_types HO_121.out BK253.out (by decide)) (fun _ hk => hk.2) (.slice Ao79 y255.length co79)) (fun _ hk => trivial)⟩,⟨by (try simp only [hl8_2]);(try simp only [hl8_3]);(with_reducible repeat (first|apply Kd.R_alloc|apply Kd.R_drewN|apply Kd.R_drew));exact Kd.R_mono (Kd.R_far (p:=⟨gb253,1,none⟩) (Kd.R_types HO257.out BK253.out (by decide)) (fun _ hk => hk.2) (.slice Ao79 y255.length co79)) (fun _ hk => trivial)⟩,⟨by (try simp only [hl8_2]);(try simp only [hl8_3]);(with_reducible repeat (first|refine Z0 ?_ _|refine Z3 ?_|refine Z1 ?_ _));refine Z22 ?_ NB226_253.out _;(with_reducible repeat (first|refine Z0 ?_ _|refine Z3 ?_|refine Z1 ?_ _));exact BK226.out⟩,⟨by (try simp only [hl8_2]);(try simp only [hl8_3]);(with_reducible repeat (first|refine Z0 ?_ _|refine Z3 ?_|refine Z1 ?_ _));refine Z9 (cs:=#[.int .i64 x28_1,u254001]) ?_ 1 _ rfl;(with_reducible repeat (first|refine Z0 ?_ _|refine Z3 ?_|refine Z1 ?_ _));exact BK253.out⟩,⟨YH⟩⟩
                                       · rw [if_neg c75] at H;exact absurd H (by simp)
                                     · replace c74:=Bool.eq_false_iff.mpr c74
                                       subst c74;have H1 : (order_Loops.l4 k4 l1 l2 l3 x6_1 (l0_4.length : Int) x28_1 x8_3 (x8_3.length : Int) (wrap64 (x123_4 + 1)) a0_0 a0_1 a0_2 a0_3 l0_4 x28_1 x254001_4) = some r:=by rw [if_neg (show ¬ (false = true) by decide)] at H;exact H
                                       clear H;have H:=H1
                                       clear H1;have H' := Aside0.mk H
                                       clear H;have p254 : 0 ≤ (x123_4 : Int):=YA
                                       have q254 : x123_4 < (x8_3.length : Int):=YA
                                       obtain ⟨ad254,e254,hx254_0⟩:=Kd.at_bool (Kd.R_reads' HO_121.out).2.2 x123_4 p254 q254
                                       (try rw [← Nbq10.out] at hx254_0);(try rw [← Nbq73.out] at hx254_0);obtain rfl : (⟨go15,0,none⟩ : Addr) = ad254:=(by injection e254)
                                       (first|simp only [add_plain] at hx254_0|simp only [add_at] at hx254_0|simp only [Addr.add,Nat.zero_add] at hx254_0|skip);replace p254:=eq_true p254
                                       replace q254:=eq_true q254
                                       go_wp2
                                       go_roundg k4
                                       case measure => have:=HK1.out;have:=HK2.out;have:=HK3.out;have:=HK4.out;omega
                                       case rel => exact ⟨(wrap64 (x123_4 + 1)),(x254001_4),(u254001),(by first|rfl|(simp;done)|(simp [*];done)),H',⟨by have:=HK1.out;have:=HK2.out;have:=HK3.out;have:=HK4.out;omega⟩,⟨by (try simp only [hl8_2]);(try simp only [hl8_3]);(with_reducible repeat (first|apply Kd.S_alloc|apply Kd.S_drewN|apply Kd.S_drew));exact HO_6.out⟩,⟨by (try simp only [hl8_2]);(try simp only [hl8_3]);(with_reducible repeat (first|apply Kd.R_alloc|apply Kd.R_drewN|apply Kd.R_drew));exact HO_121.out⟩,⟨by (try simp only [hl8_2]);(try simp only [hl8_3]);(with_reducible repeat (first|apply Kd.R_alloc|apply Kd.R_drewN|apply Kd.R_drew));exact HO_254001.out⟩,⟨by (try simp only [hl8_2]);(try simp only [hl8_3]);(with_reducible repeat (first|refine Z0 ?_ _|refine Z3 ?_|refine Z1 ?_ _));exact BK226.out⟩,⟨by (try simp only [hl8_2]);(try simp only [hl8_3]);(with_reducible repeat (first|refine Z0 ?_ _|refine Z3 ?_|refine Z1 ?_ _));exact BK253.out⟩,⟨YH⟩⟩
                                   · rw [if_neg c72] at H;exact absurd H (by simp)
                                 · rw [if_neg c71] at H;exact absurd H (by simp)
                               · rw [if_neg c70] at H;have c70b0 : decide (x123_4 < (x8_3.length : Int)) = false:=decide_eq_false c70
                                 clear c70;by_cases c81 : x6_1.length < 4398046511104
                                 · rw [if_pos c81] at H;have LMc81:=Aside0.mk c81
                                   clear c81;obtain ⟨y258,hy258⟩ : ∃ y_ : List (S42),y_ = (x6_1 ++ [(⟨x28_1,x254001_4⟩ : S42)]):=⟨_,rfl⟩
                                   replace H : (order_Loops.l0 k4 l1 l2 l3 y258 (l0_4.length : Int) (wrap64 (x28_1 + 1)) a0_0 a0_1 a0_2 a0_3 l0_4) = some r:=by first|(rw [hy258];with_reducible exact H)|(have H2_:=(Option.bind_some _ _).symm.trans H;rw [hy258];with_reducible exact H2_)|(have H2_:=(Option.bind_some _ _).symm.trans H;with_reducible exact H2_)|with_reducible exact H|(rw [hy258];exact H)|exact H
                                   have Ny258:=Aside0.mk hy258
                                   clear hy258;have H' := Aside0.mk H
                                   clear H;have hnb82:=NB253_226.out
                                   have hnc82:=NB226_253.out
                                   have hcz83_0 : wr.cell? ⟨gb253,0,none⟩ = some (.int .i64 x28_1):=(Z5 BK253.out 0).trans rfl
                                   have hcz83_1 : wr.cell? ⟨gb253,1,none⟩ = some (u254001):=(Z5 BK253.out 1).trans rfl
                                   obtain ⟨Ao85,co85,eo85⟩:=Kd.R_slice HO_254001.out
                                   subst eo85;go_wp2_with (first|((with_reducible refine Z69 (b:=.append) (xs:=#[.tmp 136,.tmp 138]) rfl ?_);at_builtin;refine Kd.S_append k42 (w0:=wp) wp.heap.size rfl (.tmp 136) (.tmp 138) 39 42 (.agg #[(.int .i64 0),(.slice none 0 0)]) 32 rfl Try.underlying39 info42 rfl (by decide) (by omega) u6 x6_1 (⟨x28_1,x254001_4⟩ : S42) [.int .i64 x28_1,.slice Ao85 x254001_4.length co85] (fun k_ => k_ ≠ gb253) (fun k_ => some k_ = (.slice Ao85 x254001_4.length co85 : Value).ownBlock) rfl rfl ?aP (fun k_ hk_ => ((Kd.R_mono (ok' := fun k_ => ((fun k_ => k_ ≠ gb253)) k_ ∧ some k_ ≠ (u6 : Value).ownBlock) (Kd.R_types (Kd.R_apart' (HO_254001.out) (Kd.S_typed HO_6.out) (by decide)) BK253.out (by decide)) (fun k_ hk => ⟨hk.2,hk.1.2⟩))).1 k_ hk_.symm) ?aF ?aO ?aB ?aS ?aL ?_;(case aP => exact k42_mkM _ _ _ (⟨x28_1,x254001_4⟩ : S42) (Kd.R_mono (Kd.R_tight rfl (Kd.R_mono (ok' := fun k_ => ((fun k_ => k_ ≠ gb253)) k_ ∧ some k_ ≠ (u6 : Value).ownBlock) (Kd.R_types (Kd.R_apart' (HO_254001.out) (Kd.S_typed HO_6.out) (by decide)) BK253.out (by decide)) (fun k_ hk => ⟨hk.2,hk.1.2⟩))) (fun _ h_ => h_)));(case aB => exact YH);(case aF => exact (fun k_ hk => Kd.freshB (YK BK253) k_ hk));(case aO => exact (by (with_reducible repeat (first|apply Kd.S_alloc|apply Kd.S_drewN|apply Kd.S_drew));exact Kd.S_mono HO_6.out (fun k_ hk => ⟨hk.2,fun e_ => hk.1 e_⟩)));(case aS => exact (Z27 YH));(case aL => have:=LMc81.out;omega);intro v259 w84 ho hb hg hat;rw [← Ny258.out] at ho;have n0_:=Aside0.mk (Kd.R_over' (YR HO_121) (Kd.S_typed (YS HO_6)) (by decide) hg);have n1_:=Aside0.mk (Z89 (YK BK226) hg (Kd.S_ne HO_6.out BK226.out (by decide)));have n2_:=Aside0.mk (Z89 (YK BK253) hg (Kd.S_away HO_6.out (fun _ hk => hk.2)));have n3_:=Aside0.mk (hb);have n4_:=Aside0.mk (ho);clear HO_121;clear BK226;clear BK253;clear HB;clear HO_6;clear HO_254001;have HO_121:=n0_;have BK226:=n1_;have BK253:=n2_;have HB:=n3_;have HO260:=n4_;clear n0_ n1_ n2_ n3_ n4_;clear ho hb hg hat))
                                   (try simp only [← hl8_2,← hl8_3]);go_roundg k4
                                   case measure => have:=HK1.out;have:=HK2.out;have:=HK3.out;have:=HK4.out;omega
                                   case rel => exact ⟨(y258),(wrap64 (x28_1 + 1)),(by first|rfl|(simp;done)|(simp [*];done)),H',⟨by have:=HK1.out;have:=HK2.out;have:=HK3.out;have:=HK4.out;omega⟩,⟨by (try simp only [hl8_2]);(try simp only [hl8_3]);(with_reducible repeat (first|apply Kd.S_alloc|apply Kd.S_drewN|apply Kd.S_drew));exact Kd.S_mono HO260.out (fun _ hk => trivial)⟩,⟨by (try simp only [hl8_2]);(try simp only [hl8_3]);(with_reducible repeat (first|refine Z0 ?_ _|refine Z3 ?_|refine Z1 ?_ _));exact BK226.out⟩,⟨YH⟩⟩
                                 · rw [if_neg c81] at H;exact absurd H (by simp)
                       · replace c41:=Bool.eq_false_iff.mpr c41
                         subst c41;have H1 : (order_Loops.l0 k2 l1 l2 l3 x6_1 (l0_4.length : Int) (wrap64 (x28_1 + 1)) a0_0 a0_1 a0_2 a0_3 l0_4) = some r:=by rw [if_neg (show ¬ (false = true) by decide)] at H;exact H
                         clear H;have H:=H1
                         clear H1;have H' := Aside0.mk H
                         clear H;go_wp2
                         (try simp only [← hl8_2]);go_roundg k2
                         case measure => have:=HK1.out;have:=HK2.out;omega
                         case rel => exact ⟨(x6_1),(wrap64 (x28_1 + 1)),(by first|rfl|(simp;done)|(simp [*];done)),H',⟨by have:=HK1.out;have:=HK2.out;omega⟩,⟨by (try simp only [hl8_2]);(with_reducible repeat (first|apply Kd.S_alloc|apply Kd.S_drewN|apply Kd.S_drew));exact Kd.S_mono HO_6.out (fun _ hk => trivial)⟩,⟨by (try simp only [hl8_2]);(with_reducible repeat (first|refine Z0 ?_ _|refine Z3 ?_|refine Z1 ?_ _));exact BK226.out⟩,⟨YH⟩⟩
                 · rw [if_neg c16] at H;exact absurd H (by simp)
               · rw [if_neg c14] at H;exact absurd H (by simp)
             · rw [if_neg c13] at H;exact absurd H (by simp)
           · rw [if_neg c12] at H;exact absurd H (by simp)
         · replace c11:=Bool.eq_false_iff.mpr c11
           subst c11;have H1 : (order_Loops.l0 k1 l1 l2 l3 x6_1 (l0_4.length : Int) (wrap64 (x28_1 + 1)) a0_0 a0_1 a0_2 a0_3 l0_4) = some r:=by rw [if_neg (show ¬ (false = true) by decide)] at H;exact H
           clear H;have H:=H1
           clear H1;have H' := Aside0.mk H
           clear H;have p227 : 0 ≤ (x28_1 : Int):=YA
           have q227 : x28_1 < (l2.length : Int):=YA
           obtain ⟨ad227,e227,hx227_0⟩:=Kd.at_bool HR2.out x28_1 p227 q227
           (try rw [← Nbq10.out] at hx227_0);cases e227;replace hx227_0:=(HB.out.cell (World.block_lt_of_cell? wp _ hx227_0)).trans hx227_0
           replace p227:=eq_true p227
           replace q227:=eq_true q227
           go_wp2
           go_roundg k1
           case measure => have:=HK1.out;omega
           case rel => exact ⟨(x6_1),(wrap64 (x28_1 + 1)),(by first|rfl|(simp;done)|(simp [*];done)),H',⟨by have:=HK1.out;omega⟩,⟨YS HO_6⟩,⟨YK BK226⟩,⟨YH⟩⟩
       · rw [if_neg c9] at H;exact absurd H (by simp)
     · rw [if_neg c8] at H;exact absurd H (by simp)
   · rw [if_neg c7] at H;have c7b0 : decide (x28_1 < (l0_4.length : Int)) = false:=decide_eq_false c7
     clear c7;obtain rfl:=Option.some.inj H
     go_wp2
     go_ret
     exact ⟨_,by first|rfl|(simp [Z16,Z15] <;> rfl)|(simp [*,Z16,Z15] <;> rfl),Kd.S_lower (YS HO_6) HW_.out,below_then HB0.out HW_.out YH⟩
end Go.Proofs.Ytbklmnieakefnaa.Q
