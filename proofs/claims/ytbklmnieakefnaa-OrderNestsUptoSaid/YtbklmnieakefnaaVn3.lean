/- A part of the proof, made small by a program: Qx4, Qx6, Qx9, Qx10, Qx11. -/
import Derived.Test.YtbklmnieakefnaaVn1
import Derived.Test.YtbklmnieakefnaaVn2
namespace Go.Proofs.Ytbklmnieakefnaa.Q
open Go.RowKit Go.Proofs.YtbklmnieakefnaaW.PrintWords Go.Proofs.YtbklmnieakefnaaW.PrintLast Go.Proofs.YtbklmnieakefnaaW.PrintMore

set_option linter.unusedVariables false
set_option linter.unusedSimpArgs false
mutual
def crucibleref14_Preds.l0 : Nat → List (List Int) → Int → ByteArray → Int → Int → Int → List (S45) → Option ((List (List Int)))
 | 0,_,_,_,_,_,_,_ => none
 | k + 1,x3,x4,x117000,x117001,x117002,x117003,x117004 => if x4 < (x117004.length : Int) then (crucibleref14_Preds.l1 k x3 x4 0 x117000 x117001 x117002 x117003 x117004) else (some x3)
def crucibleref14_Preds.l1 : Nat → List (List Int) → Int → Int → ByteArray → Int → Int → Int → List (S45) → Option ((List (List Int)))
 | 0,_,_,_,_,_,_,_,_ => none
 | k + 1,x3,x4,x5,x117000,x117001,x117002,x117003,x117004 => if 0 ≤ x4 then (if x4 < (x117004.length : Int) then (if x5 < (((rd_T45 x117004 x4).f3).length : Int) then (if 0 ≤ x5 then (if (rd ((rd_T45 x117004 x4).f3) x5) ≥ 0 then (if (rd ((rd_T45 x117004 x4).f3) x5) < (x117004.length : Int) then (if 0 ≤ (rd ((rd_T45 x117004 x4).f3) x5) then (if (rd ((rd_T45 x117004 x4).f3) x5) < (x3.length : Int) then ((crucibleref14_has.f k (rd_L1 x3 (rd ((rd_T45 x117004 x4).f3) x5)) x4).bind fun t124 => (if t124 = true then (crucibleref14_Preds.l1 k x3 x4 (wrap64 (x5 + 1)) x117000 x117001 x117002 x117003 x117004) else (if (rd_L1 x3 (rd ((rd_T45 x117004 x4).f3) x5)).length < 17592186044416 then (crucibleref14_Preds.l1 k (x3.set ((rd ((rd_T45 x117004 x4).f3) x5) : Int).toNat ((rd_L1 x3 (rd ((rd_T45 x117004 x4).f3) x5)) ++ [x4])) x4 (wrap64 (x5 + 1)) x117000 x117001 x117002 x117003 x117004) else (none)))) else (none)) else (none)) else (crucibleref14_Preds.l1 k x3 x4 (wrap64 (x5 + 1)) x117000 x117001 x117002 x117003 x117004)) else (crucibleref14_Preds.l1 k x3 x4 (wrap64 (x5 + 1)) x117000 x117001 x117002 x117003 x117004)) else (none)) else (crucibleref14_Preds.l0 k x3 (wrap64 (x4 + 1)) x117000 x117001 x117002 x117003 x117004)) else (none)) else (none)
end
def crucibleref14_Preds.f (k : Nat) (a0_0 : ByteArray) (a0_1 : Int) (a0_2 : Int) (a0_3 : Int) (l0_4 : List (S45)) : Option ((List (List Int))):=if 0 ≤ (l0_4.length : Int) then (if ((l0_4.length : Int) : Int).toNat ≤ 11728124029610 then (crucibleref14_Preds.l0 k (List.replicate ((l0_4.length : Int) : Int).toNat []) 0 a0_0 a0_1 a0_2 a0_3 l0_4) else (none)) else (none)
set_option maxHeartbeats 8000000 in
set_option maxRecDepth 100000 in
theorem crucibleref14_Preds.calls (k : Nat) (a0_0 : ByteArray) (a0_1 : Int) (a0_2 : Int) (a0_3 : Int) (A0_4 : Option Addr) (c0_4 : Nat) (l0_4 : List (S45)) (r : List (List Int)) (w : World) (hr0_4 : Kd.C k45 w A0_4 l0_4.length l0_4) (hc0_4 : l0_4.length ≤ c0_4) (h : crucibleref14_Preds.f k a0_0 a0_1 a0_2 a0_3 l0_4 = some r) :
 Calls Try.prog 33 #[.agg #[.string a0_0,.int .i64 a0_1,.int .i64 a0_2,.int .i64 a0_3,.slice A0_4 l0_4.length c0_4]] w fun e w' => ∃ v0_ : Value,e = .returned (v0_) ∧ Kd.S (Kd.slice 3 (Kd.int .i64)) 26 w' w.heap.size (fun _ => True) v0_ r ∧ Below w.heap.size w w' := by
 have hu24:=Try.underlying24
 have HR0_4:=Aside0.mk hr0_4
 clear hr0_4 hc0_4;have HB:=Aside0.mk (Below.refl w.heap.size w)
 have H : (if 0 ≤ (l0_4.length : Int) then (if ((l0_4.length : Int) : Int).toNat ≤ 11728124029610 then (crucibleref14_Preds.l0 k (List.replicate ((l0_4.length : Int) : Int).toNat []) 0 a0_0 a0_1 a0_2 a0_3 l0_4) else (none)) else (none)) = some r:=h
 clear h;by_cases c2 : 0 ≤ (l0_4.length : Int)
 · rw [if_pos c2] at H;have c2b1 : decide (0 ≤ (l0_4.length : Int)) = true:=decide_eq_true c2
   clear c2;by_cases c3 : ((l0_4.length : Int) : Int).toNat ≤ 11728124029610
   · rw [if_pos c3] at H;have c3b1 : decide (((l0_4.length : Int) : Int).toNat ≤ 11728124029610) = true:=decide_eq_true c3
     clear c3;obtain ⟨y117,hy117⟩ : ∃ y_ : List (List Int),y_ = (List.replicate ((l0_4.length : Int) : Int).toNat []):=⟨_,rfl⟩
     replace H : (crucibleref14_Preds.l0 k y117 0 a0_0 a0_1 a0_2 a0_3 l0_4) = some r:=by first|(rw [hy117];with_reducible exact H)|(have H2_:=(Option.bind_some _ _).symm.trans H;rw [hy117];with_reducible exact H2_)|(have H2_:=(Option.bind_some _ _).symm.trans H;with_reducible exact H2_)|with_reducible exact H|(rw [hy117];exact H)|exact H
     have Ny117:=Aside0.mk hy117
     clear hy117;have H' := Aside0.mk H
     clear H;go_enter Try.func33,Try.ntmps33
     go_wp2_with (first|((with_reducible refine Z52 (N:=1) rfl ?_);(try (refine Z66 (by rfl) ?_;dsimp only));refine Z51 ?hg (N:=1) ?hd (cs:=#[.string a0_0,.int .i64 a0_1,.int .i64 a0_2,.int .i64 a0_3,.slice A0_4 l0_4.length c0_4]) (t:=24) ?hr ?_;(case hd => rfl);(case hg => rfl);(case hr => first|(go_simp;done)|(go_simp;rfl));intro gb116 hg w4 hbox hb;have n0_:=Aside0.mk (Z25 YH hb);have n1_:=Aside0.mk (hbox);have n2_:=Aside0.mk ((by rw [hg];exact (Z27 YH) : w.heap.size ≤ gb116));have n3_:=Aside0.mk ((by rw [hg];exact (Z27 YH) : w.heap.size ≤ gb116));clear HB;have HB:=n0_;have BK116:=n1_;have GW116:=n2_;have GE116:=n3_;clear n0_ n1_ n2_ n3_;clear hb hbox hg;have hcz5_4 : w4.cell? ⟨gb116,4,none⟩ = some (.slice A0_4 l0_4.length c0_4):=(Z5 BK116.out 4).trans rfl)|((with_reducible refine Z52 (N:=10) rfl ?_);(try (refine Z66 (by rfl) ?_;dsimp only));refine Kd.S_make (Kd.slice 3 (Kd.int .i64)) _ 26 rfl (N:=10) rfl 36 _ _ rfl (l0_4.length : Int) rfl rfl Try.underlying36 (.slice none 0 0) 24 info26 rfl (by decide) (by omega) [] (ok:=fun _ => True) (okp:=fun _ => True) ⟨_,rfl,Kd.R_nil _ _ _ _ _⟩ (fun _ hk => hk) trivial YA (Nat.le_trans (Nat.mul_le_mul_right _ (YA : (l0_4.length : Int).toNat ≤ 11728124029610)) (by omega)) (Below.refl _ _) (Nat.le_refl _) ?_;intro v118 w6 ho7 hb hg_ hnew_;clear hg_ hnew_;(first|rw [← Ny117.out] at ho7|(simp only [Int.reduceToNat] at ho7;rw [← Ny117.out] at ho7));have n0_:=Aside0.mk (Kd.S_lower ho7 (Z27 YH));have n1_:=Aside0.mk (Z40 (YK BK116) hb);have n2_:=Aside0.mk (Z25 YH hb);clear BK116;clear HB;have HO119:=n0_;have BK116:=n1_;have HB:=n2_;clear n0_ n1_ n2_;clear hb ho7))
     go_loopg [4] k (fun kq v4 w' => ∃ (x3_1 : List (List Int)) (x4_1 : Int),v4 = .int .i64 x4_1 ∧ Aside0 (crucibleref14_Preds.l0 kq x3_1 x4_1 a0_0 a0_1 a0_2 a0_3 l0_4 = some r) ∧ Aside0 (kq ≤ k) ∧ Aside0 (Kd.S (Kd.slice 3 (Kd.int .i64)) 26 w' w.heap.size (fun _ => True) v118 x3_1) ∧ Aside0 (w'.heap[gb116]? = some (.cells #[.string a0_0,.int .i64 a0_1,.int .i64 a0_2,.int .i64 a0_3,(.slice A0_4 l0_4.length c0_4)] 24 (0,0))) ∧ Aside0 (Below w.heap.size w w'))
     case atStart => exact ⟨(y117),(0),(by first|rfl|(simp;done)|(simp [*];done)),H',⟨Nat.le_refl _⟩,⟨YS HO119⟩,⟨YK BK116⟩,⟨YH⟩⟩
     case round =>
      clear H';try clear c2
      try clear c2b1
      try clear c3
      try clear c3b1
      try clear hcz5_4
      obtain ⟨x3_1,x4_1,rfl,HA,HK1,HO_3,BK116,HB⟩:=hrel
      cases gk with
      | zero => exact absurd HA.out (by simp [crucibleref14_Preds.l0])
      | succ k1 =>
       have H:=HA.out
       clear HA;simp only [crucibleref14_Preds.l0] at H;by_cases c8 : x4_1 < (l0_4.length : Int)
       · rw [if_pos c8] at H;have c8b0 : decide (x4_1 < (l0_4.length : Int)) = true:=decide_eq_true c8
         clear c8;have H' := Aside0.mk H
         clear H;have hcz9_4 : wr.cell? ⟨gb116,4,none⟩ = some (.slice A0_4 l0_4.length c0_4):=(Z5 BK116.out 4).trans rfl
         go_wp2
         go_loopg [5] k1 (fun kq v5 w' => ∃ (x3_2 : List (List Int)) (x5_2 : Int),v5 = .int .i64 x5_2 ∧ Aside0 (crucibleref14_Preds.l1 kq x3_2 x4_1 x5_2 a0_0 a0_1 a0_2 a0_3 l0_4 = some r) ∧ Aside0 (kq ≤ k1) ∧ Aside0 (Kd.S (Kd.slice 3 (Kd.int .i64)) 26 w' w.heap.size (fun _ => True) v118 x3_2) ∧ Aside0 (w'.heap[gb116]? = some (.cells #[.string a0_0,.int .i64 a0_1,.int .i64 a0_2,.int .i64 a0_3,(.slice A0_4 l0_4.length c0_4)] 24 (0,0))) ∧ Aside0 (Below w.heap.size w w'))
         case atStart => exact ⟨(x3_1),(0),(by first|rfl|(simp;done)|(simp [*];done)),H',⟨Nat.le_refl _⟩,⟨YS HO_3⟩,⟨YK BK116⟩,⟨YH⟩⟩
         case round =>
          clear H';try clear c2
          try clear c2b1
          try clear c3
          try clear c3b1
          try clear c8
          try clear c8b0
          try clear hcz5_4
          try clear hcz9_4
          obtain ⟨x3_2,x5_2,rfl,HA,HK2,HO_3,BK116,HB⟩:=hrel
          cases gk with
          | zero => exact absurd HA.out (by simp [crucibleref14_Preds.l1])
          | succ k2 =>
           have H:=HA.out
           clear HA;simp only [crucibleref14_Preds.l1] at H;by_cases c10 : 0 ≤ x4_1
           · rw [if_pos c10] at H;have c10b0 : decide (0 ≤ x4_1) = true:=decide_eq_true c10
             clear c10;by_cases c11 : x4_1 < (l0_4.length : Int)
             · rw [if_pos c11] at H;have c11b0 : decide (x4_1 < (l0_4.length : Int)) = true:=decide_eq_true c11
               clear c11;by_cases c12 : x5_2 < (((rd_T45 l0_4 x4_1).f3).length : Int)
               · rw [if_pos c12] at H;have c12b0 : decide (x5_2 < (((rd_T45 l0_4 x4_1).f3).length : Int)) = true:=decide_eq_true c12
                 clear c12;by_cases c13 : 0 ≤ x5_2
                 · rw [if_pos c13] at H;have c13b0 : decide (0 ≤ x5_2) = true:=decide_eq_true c13
                   clear c13;by_cases c14 : (rd ((rd_T45 l0_4 x4_1).f3) x5_2) ≥ 0
                   · rw [if_pos c14] at H;have c14b0 : decide (0 ≤ (rd ((rd_T45 l0_4 x4_1).f3) x5_2)) = true:=decide_eq_true c14
                     clear c14;by_cases c15 : (rd ((rd_T45 l0_4 x4_1).f3) x5_2) < (l0_4.length : Int)
                     · rw [if_pos c15] at H;have c15b0 : decide ((rd ((rd_T45 l0_4 x4_1).f3) x5_2) < (l0_4.length : Int)) = true:=decide_eq_true c15
                       clear c15;by_cases c16 : 0 ≤ (rd ((rd_T45 l0_4 x4_1).f3) x5_2)
                       · rw [if_pos c16] at H;have c16b0 : decide (0 ≤ (rd ((rd_T45 l0_4 x4_1).f3) x5_2)) = true:=decide_eq_true c16
                         clear c16;by_cases c17 : (rd ((rd_T45 l0_4 x4_1).f3) x5_2) < (x3_2.length : Int)
                         · rw [if_pos c17] at H;have c17b0 : decide ((rd ((rd_T45 l0_4 x4_1).f3) x5_2) < (x3_2.length : Int)) = true:=decide_eq_true c17
                           clear c17;replace H:=Option.bind_eq_some_iff.mp H
                           obtain ⟨t124,A180,H⟩:=H
                           replace H : (if t124 = true then (crucibleref14_Preds.l1 k2 x3_2 x4_1 (wrap64 (x5_2 + 1)) a0_0 a0_1 a0_2 a0_3 l0_4) else (if (rd_L1 x3_2 (rd ((rd_T45 l0_4 x4_1).f3) x5_2)).length < 17592186044416 then (crucibleref14_Preds.l1 k2 (x3_2.set ((rd ((rd_T45 l0_4 x4_1).f3) x5_2) : Int).toNat ((rd_L1 x3_2 (rd ((rd_T45 l0_4 x4_1).f3) x5_2)) ++ [x4_1])) x4_1 (wrap64 (x5_2 + 1)) a0_0 a0_1 a0_2 a0_3 l0_4) else (none))) = some r:=H
                           have A18:=Aside0.mk A180
                           clear A180;by_cases c19 : t124 = true
                           · subst c19;have H1 : (crucibleref14_Preds.l1 k2 x3_2 x4_1 (wrap64 (x5_2 + 1)) a0_0 a0_1 a0_2 a0_3 l0_4) = some r:=by rw [if_pos rfl] at H;exact H
                             clear H;have H:=H1
                             clear H1;have H' := Aside0.mk H
                             clear H;have hcz20_4 : wr.cell? ⟨gb116,4,none⟩ = some (.slice A0_4 l0_4.length c0_4):=(Z5 BK116.out 4).trans rfl
                             have p120 : 0 ≤ (x4_1 : Int):=YA
                             have q120 : x4_1 < (l0_4.length : Int):=YA
                             obtain ⟨ad120,A120_0,c120_0,A120_3,c120_3,e120,hx120_0,hx120_1,hx120_2,hx120_3,hl120_0,hi120_0,hl120_3,hi120_3⟩:=at_T45 HR0_4.out x4_1 p120 q120
                             cases e120;replace hx120_0:=(HB.out.cell (World.block_lt_of_cell? w _ hx120_0)).trans hx120_0
                             replace hx120_1:=(HB.out.cell (World.block_lt_of_cell? w _ hx120_1)).trans hx120_1
                             replace hx120_2:=(HB.out.cell (World.block_lt_of_cell? w _ hx120_2)).trans hx120_2
                             replace hx120_3:=(HB.out.cell (World.block_lt_of_cell? w _ hx120_3)).trans hx120_3
                             clear hi120_0 hl120_0;have HR120_3:=Aside0.mk hi120_3
                             clear hi120_3 hl120_3;replace p120:=eq_true p120
                             replace q120:=eq_true q120
                             have p121 : 0 ≤ (x4_1 : Int):=YA
                             have q121 : x4_1 < (l0_4.length : Int):=YA
                             obtain ⟨ad121,A121_0,c121_0,A121_3,c121_3,e121,hx121_0,hx121_1,hx121_2,hx121_3,hl121_0,hi121_0,hl121_3,hi121_3⟩:=at_T45 HR0_4.out x4_1 p121 q121
                             obtain rfl : ad120 = ad121:=(by injection e121)
                             replace hx121_0:=(HB.out.cell (World.block_lt_of_cell? w _ hx121_0)).trans hx121_0
                             replace hx121_1:=(HB.out.cell (World.block_lt_of_cell? w _ hx121_1)).trans hx121_1
                             replace hx121_2:=(HB.out.cell (World.block_lt_of_cell? w _ hx121_2)).trans hx121_2
                             replace hx121_3:=(HB.out.cell (World.block_lt_of_cell? w _ hx121_3)).trans hx121_3
                             have HR121_0:=Aside0.mk hi121_0
                             have HC121_0:=Aside0.mk hl121_0
                             clear hi121_0 hl121_0;have HR121_3:=Aside0.mk hi121_3
                             have HC121_3:=Aside0.mk hl121_3
                             clear hi121_3 hl121_3;replace p121:=eq_true p121
                             replace q121:=eq_true q121
                             have ea_:=Option.some.inj (hx120_0.symm.trans hx121_0)
                             injection ea_ with ea_ en_ ec_
                             subst ea_;subst ec_;clear en_;have ea_:=Option.some.inj (hx120_3.symm.trans hx121_3)
                             injection ea_ with ea_ en_ ec_
                             subst ea_;subst ec_;clear en_;have p122 : 0 ≤ (x5_2 : Int):=YA
                             have q122 : x5_2 < (((rd_T45 l0_4 x4_1).f3).length : Int):=YA
                             obtain ⟨ad122,e122,hx122_0⟩:=Kd.at_int HR121_3.out x5_2 p122 q122
                             cases e122;replace hx122_0:=(HB.out.cell (World.block_lt_of_cell? w _ hx122_0)).trans hx122_0
                             replace p122:=eq_true p122
                             replace q122:=eq_true q122
                             obtain ⟨Ao21,co21,eo21⟩:=Kd.S_slice HO_3.out
                             subst eo21;have p123 : 0 ≤ ((rd ((rd_T45 l0_4 x4_1).f3) x5_2) : Int):=YA
                             have q123 : (rd ((rd_T45 l0_4 x4_1).f3) x5_2) < (x3_2.length : Int):=YA
                             obtain ⟨ad123,A123_0,c123_0,e123,hx123_0,hl123_0,hi123_0⟩:=at_L1 (Kd.S_reads' HO_3.out).2.2 (rd ((rd_T45 l0_4 x4_1).f3) x5_2) p123 q123
                             cases e123;obtain ⟨ce123,hce123,hMe123,hcc123⟩:=Kd.S_get HO_3.out [] (rd ((rd_T45 l0_4 x4_1).f3) x5_2) p123 (by first|exact q123|exact YA|(have e_:=(Kd.S_reads' HO_3.out).1;omega))
                             obtain ⟨ve123_0,rfl,ge123_0⟩:=hMe123
                             have hv123_0:=hcc123 0 _ rfl
                             rw [Nat.add_zero,show ((Kd.slice 3 (Kd.int .i64))).sz = 1 from rfl,Nat.mul_one] at hv123_0;replace hv123_0:=Option.some.inj (hv123_0.symm.trans hx123_0)
                             rw [hv123_0] at ge123_0;have HL123_0:=Aside0.mk (show Kd.R (Kd.int .i64) 3 _ _ _ _ (rd_L1 x3_2 (rd ((rd_T45 l0_4 x4_1).f3) x5_2)) from ge123_0)
                             clear hv123_0 ge123_0;have HX123_0:=Aside0.mk hx123_0
                             clear hcc123 hce123;have HR123_0:=Aside0.mk hi123_0
                             have HC123_0:=Aside0.mk hl123_0
                             clear hi123_0 hl123_0;replace p123:=eq_true p123
                             replace q123:=eq_true q123
                             go_wp2_with (first|(go_at_call 38;(with_reducible refine (crucibleref14_has.calls k2 _ _ (rd_L1 x3_2 (rd ((rd_T45 l0_4 x4_1).f3) x5_2)) x4_1 true _ ?side1 ?side2 A18.out).mono ?_);(case side1 => repeat (first|exact (by repeat (first|(with_reducible exact HR123_0.out)|(with_reducible refine Kd.C_alloc ?_ _)|(with_reducible refine Kd.C_drewN ?_ _)|(with_reducible refine Kd.C_drew ?_)|exact HR123_0.out))|(with_reducible refine Kd.C_alloc ?_ _)|(with_reducible refine Kd.C_drewN ?_ _)|(with_reducible refine Kd.C_drew ?_)));(case side2 => exact HC123_0.out);rintro e w' ⟨rfl,⟨nd,rfl⟩⟩))
                             go_roundg k2
                             case measure => have:=HK1.out;have:=HK2.out;omega
                             case rel => exact ⟨(x3_2),(wrap64 (x5_2 + 1)),(by first|rfl|(simp;done)|(simp [*];done)),H',⟨by have:=HK1.out;have:=HK2.out;omega⟩,⟨YS HO_3⟩,⟨YK BK116⟩,⟨YH⟩⟩
                           · replace c19:=Bool.eq_false_iff.mpr c19
                             subst c19;have H1 : (if (rd_L1 x3_2 (rd ((rd_T45 l0_4 x4_1).f3) x5_2)).length < 17592186044416 then (crucibleref14_Preds.l1 k2 (x3_2.set ((rd ((rd_T45 l0_4 x4_1).f3) x5_2) : Int).toNat ((rd_L1 x3_2 (rd ((rd_T45 l0_4 x4_1).f3) x5_2)) ++ [x4_1])) x4_1 (wrap64 (x5_2 + 1)) a0_0 a0_1 a0_2 a0_3 l0_4) else (none)) = some r:=by rw [if_neg (show ¬ (false = true) by decide)] at H;exact H
                             clear H;have H:=H1
                             clear H1;by_cases c22 : (rd_L1 x3_2 (rd ((rd_T45 l0_4 x4_1).f3) x5_2)).length < 17592186044416
                             · rw [if_pos c22] at H;have LMc22:=Aside0.mk c22
                               clear c22;obtain ⟨y126,hy126⟩ : ∃ y_ : List Int,y_ = ((rd_L1 x3_2 (rd ((rd_T45 l0_4 x4_1).f3) x5_2)) ++ [x4_1]):=⟨_,rfl⟩
                               replace H : (crucibleref14_Preds.l1 k2 (x3_2.set ((rd ((rd_T45 l0_4 x4_1).f3) x5_2) : Int).toNat y126) x4_1 (wrap64 (x5_2 + 1)) a0_0 a0_1 a0_2 a0_3 l0_4) = some r:=by first|(rw [hy126];with_reducible exact H)|(have H2_:=(Option.bind_some _ _).symm.trans H;rw [hy126];with_reducible exact H2_)|(have H2_:=(Option.bind_some _ _).symm.trans H;with_reducible exact H2_)|with_reducible exact H|(rw [hy126];exact H)|exact H
                               have Ny126:=Aside0.mk hy126
                               clear hy126;obtain ⟨y129,hy129⟩ : ∃ y_ : List (List Int),y_ = (x3_2.set ((rd ((rd_T45 l0_4 x4_1).f3) x5_2) : Int).toNat y126):=⟨_,rfl⟩
                               replace H : (crucibleref14_Preds.l1 k2 y129 x4_1 (wrap64 (x5_2 + 1)) a0_0 a0_1 a0_2 a0_3 l0_4) = some r:=by first|(rw [hy129];with_reducible exact H)|(have H2_:=(Option.bind_some _ _).symm.trans H;rw [hy129];with_reducible exact H2_)|(have H2_:=(Option.bind_some _ _).symm.trans H;with_reducible exact H2_)|with_reducible exact H|(rw [hy129];exact H)|exact H
                               have Ny129:=Aside0.mk hy129
                               clear hy129;have H' := Aside0.mk H
                               clear H;have hcz24_4 : wr.cell? ⟨gb116,4,none⟩ = some (.slice A0_4 l0_4.length c0_4):=(Z5 BK116.out 4).trans rfl
                               have p120 : 0 ≤ (x4_1 : Int):=YA
                               have q120 : x4_1 < (l0_4.length : Int):=YA
                               obtain ⟨ad120,A120_0,c120_0,A120_3,c120_3,e120,hx120_0,hx120_1,hx120_2,hx120_3,hl120_0,hi120_0,hl120_3,hi120_3⟩:=at_T45 HR0_4.out x4_1 p120 q120
                               cases e120;replace hx120_0:=(HB.out.cell (World.block_lt_of_cell? w _ hx120_0)).trans hx120_0
                               replace hx120_1:=(HB.out.cell (World.block_lt_of_cell? w _ hx120_1)).trans hx120_1
                               replace hx120_2:=(HB.out.cell (World.block_lt_of_cell? w _ hx120_2)).trans hx120_2
                               replace hx120_3:=(HB.out.cell (World.block_lt_of_cell? w _ hx120_3)).trans hx120_3
                               clear hi120_0 hl120_0;have HR120_3:=Aside0.mk hi120_3
                               clear hi120_3 hl120_3;replace p120:=eq_true p120
                               replace q120:=eq_true q120
                               have p121 : 0 ≤ (x4_1 : Int):=YA
                               have q121 : x4_1 < (l0_4.length : Int):=YA
                               obtain ⟨ad121,A121_0,c121_0,A121_3,c121_3,e121,hx121_0,hx121_1,hx121_2,hx121_3,hl121_0,hi121_0,hl121_3,hi121_3⟩:=at_T45 HR0_4.out x4_1 p121 q121
                               obtain rfl : ad120 = ad121:=(by injection e121)
                               replace hx121_0:=(HB.out.cell (World.block_lt_of_cell? w _ hx121_0)).trans hx121_0
                               replace hx121_1:=(HB.out.cell (World.block_lt_of_cell? w _ hx121_1)).trans hx121_1
                               replace hx121_2:=(HB.out.cell (World.block_lt_of_cell? w _ hx121_2)).trans hx121_2
                               replace hx121_3:=(HB.out.cell (World.block_lt_of_cell? w _ hx121_3)).trans hx121_3
                               have HR121_0:=Aside0.mk hi121_0
                               have HC121_0:=Aside0.mk hl121_0
                               clear hi121_0 hl121_0;have HR121_3:=Aside0.mk hi121_3
                               have HC121_3:=Aside0.mk hl121_3
                               clear hi121_3 hl121_3;replace p121:=eq_true p121
                               replace q121:=eq_true q121
                               have ea_:=Option.some.inj (hx120_0.symm.trans hx121_0)
                               injection ea_ with ea_ en_ ec_
                               subst ea_;subst ec_;clear en_;have ea_:=Option.some.inj (hx120_3.symm.trans hx121_3)
                               injection ea_ with ea_ en_ ec_
                               subst ea_;subst ec_;clear en_;have p122 : 0 ≤ (x5_2 : Int):=YA
                               have q122 : x5_2 < (((rd_T45 l0_4 x4_1).f3).length : Int):=YA
                               obtain ⟨ad122,e122,hx122_0⟩:=Kd.at_int HR121_3.out x5_2 p122 q122
                               cases e122;replace hx122_0:=(HB.out.cell (World.block_lt_of_cell? w _ hx122_0)).trans hx122_0
                               replace p122:=eq_true p122
                               replace q122:=eq_true q122
                               obtain ⟨Ao25,co25,eo25⟩:=Kd.S_slice HO_3.out
                               subst eo25;have p123 : 0 ≤ ((rd ((rd_T45 l0_4 x4_1).f3) x5_2) : Int):=YA
                               have q123 : (rd ((rd_T45 l0_4 x4_1).f3) x5_2) < (x3_2.length : Int):=YA
                               obtain ⟨ad123,A123_0,c123_0,e123,hx123_0,hl123_0,hi123_0⟩:=at_L1 (Kd.S_reads' HO_3.out).2.2 (rd ((rd_T45 l0_4 x4_1).f3) x5_2) p123 q123
                               cases e123;obtain ⟨ce123,hce123,hMe123,hcc123⟩:=Kd.S_get HO_3.out [] (rd ((rd_T45 l0_4 x4_1).f3) x5_2) p123 (by first|exact q123|exact YA|(have e_:=(Kd.S_reads' HO_3.out).1;omega))
                               obtain ⟨ve123_0,rfl,ge123_0⟩:=hMe123
                               have hv123_0:=hcc123 0 _ rfl
                               rw [Nat.add_zero,show ((Kd.slice 3 (Kd.int .i64))).sz = 1 from rfl,Nat.mul_one] at hv123_0;replace hv123_0:=Option.some.inj (hv123_0.symm.trans hx123_0)
                               rw [hv123_0] at ge123_0;have HL123_0:=Aside0.mk (show Kd.R (Kd.int .i64) 3 _ _ _ _ (rd_L1 x3_2 (rd ((rd_T45 l0_4 x4_1).f3) x5_2)) from ge123_0)
                               clear hv123_0 ge123_0;have HX123_0:=Aside0.mk hx123_0
                               clear hcc123 hce123;have HR123_0:=Aside0.mk hi123_0
                               have HC123_0:=Aside0.mk hl123_0
                               clear hi123_0 hl123_0;replace p123:=eq_true p123
                               replace q123:=eq_true q123
                               go_wp2_with (first|(go_at_call 38;(with_reducible refine (crucibleref14_has.calls k2 _ _ (rd_L1 x3_2 (rd ((rd_T45 l0_4 x4_1).f3) x5_2)) x4_1 false _ ?side1 ?side2 A18.out).mono ?_);(case side1 => repeat (first|exact (by repeat (first|(with_reducible exact HR123_0.out)|(with_reducible refine Kd.C_alloc ?_ _)|(with_reducible refine Kd.C_drewN ?_ _)|(with_reducible refine Kd.C_drew ?_)|exact HR123_0.out))|(with_reducible refine Kd.C_alloc ?_ _)|(with_reducible refine Kd.C_drewN ?_ _)|(with_reducible refine Kd.C_drew ?_)));(case side2 => exact HC123_0.out);rintro e w' ⟨rfl,⟨nd,rfl⟩⟩;(try (rw [Z43 wr];generalize hq_ : World.drewN wr _ = wr;have n0_ : Aside0 (Kd.R (Kd.int .i64) 3 wr w.heap.size (fun k_ => some k_ ≠ (.slice (some ad123) x3_2.length co25 : Value).ownBlock) (.slice A123_0 (rd_L1 x3_2 (rd ((rd_T45 l0_4 x4_1).f3) x5_2)).length c123_0) (rd_L1 x3_2 (rd ((rd_T45 l0_4 x4_1).f3) x5_2))):=⟨by rw [← hq_];exact (by (with_reducible repeat (first|apply Kd.R_alloc|apply Kd.R_drewN|apply Kd.R_drew));exact Kd.R_mono HL123_0.out (fun _ hk => hk.2))⟩;have n1_ : Aside0 (Kd.S (Kd.slice 3 (Kd.int .i64)) 26 wr w.heap.size (fun _ => True) (.slice (some ad123) x3_2.length co25) x3_2):=⟨by rw [← hq_];exact (YS HO_3)⟩;have n2_ : Aside0 (wr.heap[gb116]? = some (.cells #[.string a0_0,.int .i64 a0_1,.int .i64 a0_2,.int .i64 a0_3,.slice (some ad120) l0_4.length c0_4] 24 (0,0))):=⟨by rw [← hq_];exact (YK BK116)⟩;have n3_ : Aside0 (Below w.heap.size w wr):=⟨by rw [← hq_];exact YH⟩;have n4_ : Aside0 (Kd.C (Kd.int .i64) wr A123_0 (rd_L1 x3_2 (rd ((rd_T45 l0_4 x4_1).f3) x5_2)).length (rd_L1 x3_2 (rd ((rd_T45 l0_4 x4_1).f3) x5_2))):=⟨by rw [← hq_];exact (by repeat (first|(with_reducible exact HR123_0.out)|(with_reducible refine Kd.C_alloc ?_ _)|(with_reducible refine Kd.C_drewN ?_ _)|(with_reducible refine Kd.C_drew ?_)|exact HR123_0.out))⟩;(try (replace hx123_0:=Eq.trans (congrArg (fun w_ : World => w_.cell? _) hq_.symm) hx123_0));clear HL123_0 HO_3 BK116 HB HR123_0 hq_;have HL123_0:=n0_;have HO_3:=n1_;have BK116:=n2_;have HB:=n3_;have HR123_0:=n4_;clear n0_ n1_ n2_ n3_ n4_));have p125 : 0 ≤ ((rd ((rd_T45 l0_4 x4_1).f3) x5_2) : Int):=YA;have q125 : (rd ((rd_T45 l0_4 x4_1).f3) x5_2) < (x3_2.length : Int):=YA;obtain ⟨ad125,A125_0,c125_0,e125,hx125_0,hl125_0,hi125_0⟩:=at_L1 (Kd.S_reads' HO_3.out).2.2 (rd ((rd_T45 l0_4 x4_1).f3) x5_2) p125 q125;obtain rfl : ad123 = ad125:=(by injection e125);obtain ⟨ce125,hce125,hMe125,hcc125⟩:=Kd.S_get HO_3.out [] (rd ((rd_T45 l0_4 x4_1).f3) x5_2) p125 (by first|exact q125|exact YA|(have e_:=(Kd.S_reads' HO_3.out).1;omega));obtain ⟨ve125_0,rfl,ge125_0⟩:=hMe125;have hv125_0:=hcc125 0 _ rfl;rw [Nat.add_zero,show ((Kd.slice 3 (Kd.int .i64))).sz = 1 from rfl,Nat.mul_one] at hv125_0;replace hv125_0:=Option.some.inj (hv125_0.symm.trans hx125_0);rw [hv125_0] at ge125_0;have HL125_0:=Aside0.mk (show Kd.R (Kd.int .i64) 3 _ _ _ _ (rd_L1 x3_2 (rd ((rd_T45 l0_4 x4_1).f3) x5_2)) from ge125_0);clear hv125_0 ge125_0;have HX125_0:=Aside0.mk hx125_0;clear hcc125 hce125;have HR125_0:=Aside0.mk hi125_0;have HC125_0:=Aside0.mk hl125_0;clear hi125_0 hl125_0;replace p125:=eq_true p125;replace q125:=eq_true q125;have ea_:=Option.some.inj (hx123_0.symm.trans hx125_0);injection ea_ with ea_ en_ ec_;subst ea_;subst ec_;clear en_;obtain ⟨go26,co26,eo26,gb26,gl26,cl26,HG26⟩:=Kd.S_form HO_3.out (by have h_ : ((rd ((rd_T45 l0_4 x4_1).f3) x5_2) : Int) < ((x3_2.length : Int) : Int):=YA;have h2_ : 0 ≤ ((rd ((rd_T45 l0_4 x4_1).f3) x5_2) : Int):=YA;omega);(first|cases eo26|(injection eo26 with ea_ en_ ec_;(first|subst ea_|(injection ea_ with ea_;subst ea_));subst ec_;clear en_));have GB26:=Aside0.mk gb26;have GG26:=Aside0.mk HG26;clear gb26 gl26 HG26;(first|simp only [add_plain] at hx123_0|skip);(first|simp only [add_plain] at hx125_0|skip);obtain ⟨oki26,ce26,hcl26,hM26,hcc26,_,_,hH26⟩:=Kd.S_elem HO_3.out [] ((rd ((rd_T45 l0_4 x4_1).f3) x5_2) : Int) YA (by have h_ : ((rd ((rd_T45 l0_4 x4_1).f3) x5_2) : Int) < ((x3_2.length : Int) : Int):=YA;first|exact h_|(have e_:=(Kd.S_reads' HO_3.out).1;omega)|simpa using h_);obtain ⟨ve26_0,rfl,ge26_0⟩:=hM26;have hv26:=hcc26 0 _ rfl;have hX26:=HX125_0.out;(try simp only [add_plain] at hX26);(try simp only [Nat.add_zero] at hv26);(try rw [show ((Kd.slice 3 (Kd.int .i64))).sz = 1 from rfl,Nat.mul_one] at hv26);replace hv26:=Option.some.inj (hv26.symm.trans hX26);subst hv26;clear hX26 hcc26 hcl26;have UU26:=Aside0.mk (show Kd.R (Kd.int .i64) 3 _ w.heap.size oki26 (.slice A123_0 (rd_L1 x3_2 (rd ((rd_T45 l0_4 x4_1).f3) x5_2)).length c123_0) (rd_L1 x3_2 (rd ((rd_T45 l0_4 x4_1).f3) x5_2)) from ge26_0);have HH26:=Aside0.mk hH26;have HN26:=Aside0.mk (Kd.S_reads' HO_3.out).1;clear hH26 ge26_0)|((with_reducible refine Z69 (b:=.append) (xs:=#[.tmp 61,.tmp 63]) rfl ?_);(try (refine Z66 (by rfl) ?_;dsimp only));at_builtin;refine Kd.R_append (Kd.int .i64) (w0:=w) w.heap.size rfl (.tmp 61) (.tmp 63) 26 3 (.int .i64 0) 8 rfl Try.underlying26 info3 rfl (by decide) (by omega) (.slice A123_0 (rd_L1 x3_2 (rd ((rd_T45 l0_4 x4_1).f3) x5_2)).length c123_0) (rd_L1 x3_2 (rd ((rd_T45 l0_4 x4_1).f3) x5_2)) x4_1 [.int .i64 x4_1] (fun k_ => oki26 k_ ∨ ((fun _ => True)) k_ ∧ wr.heap.size ≤ k_) (fun _ => False) rfl rfl ?aP (fun _ hk => hk.elim) ?aF ?aO ?aB ?aS ?aL ?_;(case aP => exact rfl);(case aB => exact YH);(case aF => exact (fun k_ hk => .inr ⟨trivial,hk⟩));(case aO => exact (by (with_reducible repeat (first|apply Kd.R_alloc|apply Kd.R_drewN|apply Kd.R_drew));exact Kd.R_mono UU26.out (fun _ hk => .inl hk)));(case aS => exact (Z27 YH));(case aL => have:=LMc22.out;omega);intro v127 w27 ho hb hg hat;rw [← Ny126.out] at ho;have n0_:=Aside0.mk (Z89 (YK BK116) hg (Kd.R_ne HL125_0.out BK116.out (by decide)));have n1_:=Aside0.mk (hb);have n2_:=Aside0.mk (Kd.H_grown (Kd.H_widen (by repeat (first|exact HH26.out|refine Kd.H_alloc ?_ _|refine Kd.H_drewN ?_ _|refine Kd.H_drew ?_))) hg (fun k_ e_ => .inl (UU26.out.1 k_ e_)));have n3_:=Aside0.mk (ho);clear BK116;clear HB;clear HH26;clear HO_3;clear UU26;clear HL123_0;clear HL125_0;have BK116:=n0_;have HB:=n1_;have HH26:=n2_;have HO128:=n3_;clear n0_ n1_ n2_ n3_;clear ho hb hg hat;obtain ⟨Ao30,co30,eo30⟩:=Kd.R_slice HO128.out;subst eo30;obtain ⟨_,_,hraw28,_,_,hcc28,_⟩:=Kd.H_raw HH26.out YA (by have h_ : ((rd ((rd_T45 l0_4 x4_1).f3) x5_2) : Int) < ((x3_2.length : Int) : Int):=YA;first|exact h_|(have e_:=(HN26.out);omega)|simpa using h_);obtain ⟨_,hfr28⟩:=Kd.H_at HH26.out YA (by have h_ : ((rd ((rd_T45 l0_4 x4_1).f3) x5_2) : Int) < ((x3_2.length : Int) : Int):=YA;first|exact h_|(have e_:=(HN26.out);omega)|simpa using h_);have hx28_0:=hcc28 0 _ rfl;have hf28_0:=hfr28 0;(try simp only [Nat.add_zero] at hx28_0 hf28_0);(try rw [show ((Kd.slice 3 (Kd.int .i64))).sz = 1 from rfl,Nat.mul_one] at hx28_0);(try rw [show ((Kd.slice 3 (Kd.int .i64))).sz = 1 from rfl,Nat.mul_one] at hf28_0);have HP28:=Kd.S_seg0 HH26.out YA (by have h_ : ((rd ((rd_T45 l0_4 x4_1).f3) x5_2) : Int) < ((x3_2.length : Int) : Int):=YA;first|exact h_|(have e_:=(HN26.out);omega)|simpa using h_) (seg:=[.slice Ao30 y126.length co30]) (j:=0) (show 1 ≤ 1 from by decide) (x' := y126) (Kd.M_row HO128.out) (fun _ hk => hk);(try simp only [show ((Kd.slice 3 (Kd.int .i64))).sz = 1 from rfl,Nat.mul_one,Nat.add_zero] at HP28);clear hcc28 hfr28)|((with_reducible refine gate_store (t:=26) (p:=65) rfl ?_);refine store_event (t:=26) (p:=65) (v:=?vo_w29) (w1:=(w27.setCell ⟨go26,((rd ((rd_T45 l0_4 x4_1).f3) x5_2) : Int).toNat,none⟩ (.slice Ao30 y126.length co30))) ?hg ?ho ?hn ?hr ?_;(case ho => rfl);(case hg => rfl);(case hn => rfl);(case hr => first|(go_simp;done)|(go_simp;rfl));intro w29 hw;have hg : w27.grownBy w29 (some go26):=(by rw [hw];exact HP28.2);have hp_ : Kd.S (Kd.slice 3 (Kd.int .i64)) 26 w29 w.heap.size (fun _ => True) (.slice (some ⟨go26,0,none⟩) x3_2.length co25) y129:=(by rw [hw,Ny129.out];exact HP28.1);clear HP28;have n0_:=Aside0.mk (Z89 (YK BK116) hg (Kd.R_ne hraw28 BK116.out (by decide)));have n1_:=Aside0.mk ((by rw [hw];exact Z8 HB.out GB26.out : Below w.heap.size w w29));have n2_:=Aside0.mk (hp_);clear BK116;clear HB;clear HO128;clear HH26;have BK116:=n0_;have HB:=n1_;have HO_3:=n2_;clear n0_ n1_ n2_;clear hg hw hp_ hraw28))
                               go_roundg k2
                               case measure => have:=HK1.out;have:=HK2.out;omega
                               case rel => exact ⟨(y129),(wrap64 (x5_2 + 1)),(by first|rfl|(simp;done)|(simp [*];done)),H',⟨by have:=HK1.out;have:=HK2.out;omega⟩,⟨YS HO_3⟩,⟨YK BK116⟩,⟨YH⟩⟩
                             · rw [if_neg c22] at H;exact absurd H (by simp)
                         · rw [if_neg c17] at H;exact absurd H (by simp)
                       · rw [if_neg c16] at H;exact absurd H (by simp)
                     · rw [if_neg c15] at H;have c15b0 : decide ((rd ((rd_T45 l0_4 x4_1).f3) x5_2) < (l0_4.length : Int)) = false:=decide_eq_false c15
                       clear c15;have H' := Aside0.mk H
                       clear H;have hcz31_4 : wr.cell? ⟨gb116,4,none⟩ = some (.slice A0_4 l0_4.length c0_4):=(Z5 BK116.out 4).trans rfl
                       have p120 : 0 ≤ (x4_1 : Int):=YA
                       have q120 : x4_1 < (l0_4.length : Int):=YA
                       obtain ⟨ad120,A120_0,c120_0,A120_3,c120_3,e120,hx120_0,hx120_1,hx120_2,hx120_3,hl120_0,hi120_0,hl120_3,hi120_3⟩:=at_T45 HR0_4.out x4_1 p120 q120
                       cases e120;replace hx120_0:=(HB.out.cell (World.block_lt_of_cell? w _ hx120_0)).trans hx120_0
                       replace hx120_1:=(HB.out.cell (World.block_lt_of_cell? w _ hx120_1)).trans hx120_1
                       replace hx120_2:=(HB.out.cell (World.block_lt_of_cell? w _ hx120_2)).trans hx120_2
                       replace hx120_3:=(HB.out.cell (World.block_lt_of_cell? w _ hx120_3)).trans hx120_3
                       clear hi120_0 hl120_0;have HR120_3:=Aside0.mk hi120_3
                       clear hi120_3 hl120_3;replace p120:=eq_true p120
                       replace q120:=eq_true q120
                       have p121 : 0 ≤ (x4_1 : Int):=YA
                       have q121 : x4_1 < (l0_4.length : Int):=YA
                       obtain ⟨ad121,A121_0,c121_0,A121_3,c121_3,e121,hx121_0,hx121_1,hx121_2,hx121_3,hl121_0,hi121_0,hl121_3,hi121_3⟩:=at_T45 HR0_4.out x4_1 p121 q121
                       obtain rfl : ad120 = ad121:=(by injection e121)
                       replace hx121_0:=(HB.out.cell (World.block_lt_of_cell? w _ hx121_0)).trans hx121_0
                       replace hx121_1:=(HB.out.cell (World.block_lt_of_cell? w _ hx121_1)).trans hx121_1
                       replace hx121_2:=(HB.out.cell (World.block_lt_of_cell? w _ hx121_2)).trans hx121_2
                       replace hx121_3:=(HB.out.cell (World.block_lt_of_cell? w _ hx121_3)).trans hx121_3
                       have HR121_0:=Aside0.mk hi121_0
                       have HC121_0:=Aside0.mk hl121_0
                       clear hi121_0 hl121_0;have HR121_3:=Aside0.mk hi121_3
                       have HC121_3:=Aside0.mk hl121_3
                       clear hi121_3 hl121_3;replace p121:=eq_true p121
                       replace q121:=eq_true q121
                       have ea_:=Option.some.inj (hx120_0.symm.trans hx121_0)
                       injection ea_ with ea_ en_ ec_
                       subst ea_;subst ec_;clear en_;have ea_:=Option.some.inj (hx120_3.symm.trans hx121_3)
                       injection ea_ with ea_ en_ ec_
                       subst ea_;subst ec_;clear en_;have p122 : 0 ≤ (x5_2 : Int):=YA
                       have q122 : x5_2 < (((rd_T45 l0_4 x4_1).f3).length : Int):=YA
                       obtain ⟨ad122,e122,hx122_0⟩:=Kd.at_int HR121_3.out x5_2 p122 q122
                       cases e122;replace hx122_0:=(HB.out.cell (World.block_lt_of_cell? w _ hx122_0)).trans hx122_0
                       replace p122:=eq_true p122
                       replace q122:=eq_true q122
                       go_wp2
                       go_roundg k2
                       case measure => have:=HK1.out;have:=HK2.out;omega
                       case rel => exact ⟨(x3_2),(wrap64 (x5_2 + 1)),(by first|rfl|(simp;done)|(simp [*];done)),H',⟨by have:=HK1.out;have:=HK2.out;omega⟩,⟨YS HO_3⟩,⟨YK BK116⟩,⟨YH⟩⟩
                   · rw [if_neg c14] at H;have c14b0 : decide (0 ≤ (rd ((rd_T45 l0_4 x4_1).f3) x5_2)) = false:=decide_eq_false c14
                     clear c14;have H' := Aside0.mk H
                     clear H;have hcz32_4 : wr.cell? ⟨gb116,4,none⟩ = some (.slice A0_4 l0_4.length c0_4):=(Z5 BK116.out 4).trans rfl
                     have p120 : 0 ≤ (x4_1 : Int):=YA
                     have q120 : x4_1 < (l0_4.length : Int):=YA
                     obtain ⟨ad120,A120_0,c120_0,A120_3,c120_3,e120,hx120_0,hx120_1,hx120_2,hx120_3,hl120_0,hi120_0,hl120_3,hi120_3⟩:=at_T45 HR0_4.out x4_1 p120 q120
                     cases e120;replace hx120_0:=(HB.out.cell (World.block_lt_of_cell? w _ hx120_0)).trans hx120_0
                     replace hx120_1:=(HB.out.cell (World.block_lt_of_cell? w _ hx120_1)).trans hx120_1
                     replace hx120_2:=(HB.out.cell (World.block_lt_of_cell? w _ hx120_2)).trans hx120_2
                     replace hx120_3:=(HB.out.cell (World.block_lt_of_cell? w _ hx120_3)).trans hx120_3
                     clear hi120_0 hl120_0;have HR120_3:=Aside0.mk hi120_3
                     clear hi120_3 hl120_3;replace p120:=eq_true p120
                     replace q120:=eq_true q120
                     have p121 : 0 ≤ (x4_1 : Int):=YA
                     have q121 : x4_1 < (l0_4.length : Int):=YA
                     obtain ⟨ad121,A121_0,c121_0,A121_3,c121_3,e121,hx121_0,hx121_1,hx121_2,hx121_3,hl121_0,hi121_0,hl121_3,hi121_3⟩:=at_T45 HR0_4.out x4_1 p121 q121
                     obtain rfl : ad120 = ad121:=(by injection e121)
                     replace hx121_0:=(HB.out.cell (World.block_lt_of_cell? w _ hx121_0)).trans hx121_0
                     replace hx121_1:=(HB.out.cell (World.block_lt_of_cell? w _ hx121_1)).trans hx121_1
                     replace hx121_2:=(HB.out.cell (World.block_lt_of_cell? w _ hx121_2)).trans hx121_2
                     replace hx121_3:=(HB.out.cell (World.block_lt_of_cell? w _ hx121_3)).trans hx121_3
                     have HR121_0:=Aside0.mk hi121_0
                     have HC121_0:=Aside0.mk hl121_0
                     clear hi121_0 hl121_0;have HR121_3:=Aside0.mk hi121_3
                     have HC121_3:=Aside0.mk hl121_3
                     clear hi121_3 hl121_3;replace p121:=eq_true p121
                     replace q121:=eq_true q121
                     have ea_:=Option.some.inj (hx120_0.symm.trans hx121_0)
                     injection ea_ with ea_ en_ ec_
                     subst ea_;subst ec_;clear en_;have ea_:=Option.some.inj (hx120_3.symm.trans hx121_3)
                     injection ea_ with ea_ en_ ec_
                     subst ea_;subst ec_;clear en_;have p122 : 0 ≤ (x5_2 : Int):=YA
                     have q122 : x5_2 < (((rd_T45 l0_4 x4_1).f3).length : Int):=YA
                     obtain ⟨ad122,e122,hx122_0⟩:=Kd.at_int HR121_3.out x5_2 p122 q122
                     cases e122;replace hx122_0:=(HB.out.cell (World.block_lt_of_cell? w _ hx122_0)).trans hx122_0
                     replace p122:=eq_true p122
                     replace q122:=eq_true q122
                     go_wp2
                     go_roundg k2
                     case measure => have:=HK1.out;have:=HK2.out;omega
                     case rel => exact ⟨(x3_2),(wrap64 (x5_2 + 1)),(by first|rfl|(simp;done)|(simp [*];done)),H',⟨by have:=HK1.out;have:=HK2.out;omega⟩,⟨YS HO_3⟩,⟨YK BK116⟩,⟨YH⟩⟩
                 · rw [if_neg c13] at H;exact absurd H (by simp)
               · rw [if_neg c12] at H;have c12b0 : decide (x5_2 < (((rd_T45 l0_4 x4_1).f3).length : Int)) = false:=decide_eq_false c12
                 clear c12;have H' := Aside0.mk H
                 clear H;have hcz33_4 : wr.cell? ⟨gb116,4,none⟩ = some (.slice A0_4 l0_4.length c0_4):=(Z5 BK116.out 4).trans rfl
                 have p120 : 0 ≤ (x4_1 : Int):=YA
                 have q120 : x4_1 < (l0_4.length : Int):=YA
                 obtain ⟨ad120,A120_0,c120_0,A120_3,c120_3,e120,hx120_0,hx120_1,hx120_2,hx120_3,hl120_0,hi120_0,hl120_3,hi120_3⟩:=at_T45 HR0_4.out x4_1 p120 q120
                 cases e120;replace hx120_0:=(HB.out.cell (World.block_lt_of_cell? w _ hx120_0)).trans hx120_0
                 replace hx120_1:=(HB.out.cell (World.block_lt_of_cell? w _ hx120_1)).trans hx120_1
                 replace hx120_2:=(HB.out.cell (World.block_lt_of_cell? w _ hx120_2)).trans hx120_2
                 replace hx120_3:=(HB.out.cell (World.block_lt_of_cell? w _ hx120_3)).trans hx120_3
                 clear hi120_0 hl120_0;have HR120_3:=Aside0.mk hi120_3
                 clear hi120_3 hl120_3;replace p120:=eq_true p120
                 replace q120:=eq_true q120
                 go_wp2
                 go_roundg k2
                 case measure => have:=HK1.out;have:=HK2.out;omega
                 case rel => exact ⟨(x3_2),(wrap64 (x4_1 + 1)),(by first|rfl|(simp;done)|(simp [*];done)),H',⟨by have:=HK1.out;have:=HK2.out;omega⟩,⟨YS HO_3⟩,⟨YK BK116⟩,⟨YH⟩⟩
             · rw [if_neg c11] at H;exact absurd H (by simp)
           · rw [if_neg c10] at H;exact absurd H (by simp)
       · rw [if_neg c8] at H;have c8b0 : decide (x4_1 < (l0_4.length : Int)) = false:=decide_eq_false c8
         clear c8;obtain rfl:=Option.some.inj H
         have hcz34_4 : wr.cell? ⟨gb116,4,none⟩ = some (.slice A0_4 l0_4.length c0_4):=(Z5 BK116.out 4).trans rfl
         go_wp2
         go_ret
         exact ⟨_,by first|rfl|(simp [Z16,Z15] <;> rfl)|(simp [*,Z16,Z15] <;> rfl),by (with_reducible repeat (first|apply Kd.S_alloc|apply Kd.S_drewN|apply Kd.S_drew));exact HO_3.out,by repeat (first|(with_reducible first|exact HB.out|apply Z7|apply Z4|apply Z6|refine Z8 ?_ GE116.out)|exact HB.out)⟩
   · rw [if_neg c3] at H;exact absurd H (by simp)
 · rw [if_neg c2] at H;exact absurd H (by simp)
end Go.Proofs.Ytbklmnieakefnaa.Q
namespace Go.Proofs.Ytbklmnieakefnaa.Q
open Go.RowKit Go.Proofs.YtbklmnieakefnaaW.PrintWords Go.Proofs.YtbklmnieakefnaaW.PrintLast Go.Proofs.YtbklmnieakefnaaW.PrintMore

set_option linter.unusedVariables false
set_option linter.unusedSimpArgs false
def crucibleref14_register.f (a0_0 : ByteArray) (a0_1 : Int) (a0_2 : Int) (a0_3 : Int) (l0_4 : List (S45)) (a1 : Int) : Option (Bool):=if a1 ≥ 0 then (some (decide (a1 < a0_2))) else (some false)
set_option maxHeartbeats 8000000 in
set_option maxRecDepth 100000 in
theorem crucibleref14_register.calls (a0_0 : ByteArray) (a0_1 : Int) (a0_2 : Int) (a0_3 : Int) (A0_4 : Option Addr) (c0_4 : Nat) (l0_4 : List (S45)) (a1 : Int) (r : Bool) (w : World) (hr0_4 : Kd.C k45 w A0_4 l0_4.length l0_4) (hc0_4 : l0_4.length ≤ c0_4) (h : crucibleref14_register.f a0_0 a0_1 a0_2 a0_3 l0_4 a1 = some r) :
 Calls Try.prog 40 #[.agg #[.string a0_0,.int .i64 a0_1,.int .i64 a0_2,.int .i64 a0_3,.slice A0_4 l0_4.length c0_4],.int .i64 a1] w fun e w' => e = .returned (.bool r) ∧ Below w.heap.size w w' := by
 have hu24:=Try.underlying24
 clear hr0_4 hc0_4;have HB:=Aside0.mk (Below.refl w.heap.size w)
 have H : (if a1 ≥ 0 then (some (decide (a1 < a0_2))) else (some false)) = some r:=h
 clear h;by_cases c3 : a1 ≥ 0
 · rw [if_pos c3] at H;have c3b0 : decide (0 ≤ a1) = true:=decide_eq_true c3
   clear c3;obtain rfl:=Option.some.inj H
   go_enter Try.func40,Try.ntmps40
   go_wp2_with (first|((with_reducible refine Z52 (N:=2) rfl ?_);refine Z51 ?hg (N:=2) ?hd (cs:=#[.string a0_0,.int .i64 a0_1,.int .i64 a0_2,.int .i64 a0_3,.slice A0_4 l0_4.length c0_4]) (t:=24) ?hr ?_;(case hd => rfl);(case hg => rfl);(case hr => first|(go_simp;done)|(go_simp;rfl));intro gb130 hg w4 hbox hb;have n0_:=Aside0.mk (Z25 YH hb);have n1_:=Aside0.mk (hbox);have n2_:=Aside0.mk ((by rw [hg];exact (Z27 YH) : w.heap.size ≤ gb130));have n3_:=Aside0.mk ((by rw [hg];exact (Z27 YH) : w.heap.size ≤ gb130));clear HB;have HB:=n0_;have BK130:=n1_;have GW130:=n2_;have GE130:=n3_;clear n0_ n1_ n2_ n3_;clear hb hbox hg;have hcz5_2 : w4.cell? ⟨gb130,2,none⟩ = some (.int .i64 a0_2):=(Z5 BK130.out 2).trans rfl))
   go_ret
   exact ⟨by first|rfl|(simp [Z16,Z15] <;> rfl)|(simp [*,Z16,Z15] <;> rfl),by repeat (first|(with_reducible first|exact HB.out|apply Z7|apply Z4|apply Z6|refine Z8 ?_ GE130.out)|exact HB.out)⟩
 · rw [if_neg c3] at H;have c3b0 : decide (0 ≤ a1) = false:=decide_eq_false c3
   clear c3;obtain rfl:=Option.some.inj H
   go_enter Try.func40,Try.ntmps40
   go_wp2_with (first|((with_reducible refine Z52 (N:=2) rfl ?_);refine Z51 ?hg (N:=2) ?hd (cs:=#[.string a0_0,.int .i64 a0_1,.int .i64 a0_2,.int .i64 a0_3,.slice A0_4 l0_4.length c0_4]) (t:=24) ?hr ?_;(case hd => rfl);(case hg => rfl);(case hr => first|(go_simp;done)|(go_simp;rfl));intro gb130 hg w6 hbox hb;have n0_:=Aside0.mk (Z25 YH hb);have n1_:=Aside0.mk (hbox);have n2_:=Aside0.mk ((by rw [hg];exact (Z27 YH) : w.heap.size ≤ gb130));have n3_:=Aside0.mk ((by rw [hg];exact (Z27 YH) : w.heap.size ≤ gb130));clear HB;have HB:=n0_;have BK130:=n1_;have GW130:=n2_;have GE130:=n3_;clear n0_ n1_ n2_ n3_;clear hb hbox hg))
   go_ret
   exact ⟨by first|rfl|(simp [Z16,Z15] <;> rfl)|(simp [*,Z16,Z15] <;> rfl),by repeat (first|(with_reducible first|exact HB.out|apply Z7|apply Z4|apply Z6|refine Z8 ?_ GE130.out)|exact HB.out)⟩
end Go.Proofs.Ytbklmnieakefnaa.Q
namespace Go.Proofs.Ytbklmnieakefnaa.Q
open Go.RowKit Go.Proofs.YtbklmnieakefnaaW.PrintWords Go.Proofs.YtbklmnieakefnaaW.PrintLast Go.Proofs.YtbklmnieakefnaaW.PrintMore

set_option linter.unusedVariables false
set_option linter.unusedSimpArgs false
mutual
def crucibleref14_ends.j0 : Nat → Int → ByteArray → Int → Int → Int → List (S45) → List (S59) → Int → Int → List Int → Option (Bool)
 | 0,_,_,_,_,_,_,_,_,_,_ => none
 | k + 1,x5,x150000,x150001,x150002,x150003,x150004,x151000,x151001,x151002,x151003 => if (x151003.length : Int) = x5 then (crucibleref14_ends.l0 k x5 0 x150000 x150001 x150002 x150003 x150004 x151000 x151001 x151002 x151003) else (some false)
def crucibleref14_ends.l0 : Nat → Int → Int → ByteArray → Int → Int → Int → List (S45) → List (S59) → Int → Int → List Int → Option (Bool)
 | 0,_,_,_,_,_,_,_,_,_,_,_ => none
 | k + 1,x5,x6,x150000,x150001,x150002,x150003,x150004,x151000,x151001,x151002,x151003 => if x6 < x5 then (if 0 ≤ x6 then (if x6 < (x151003.length : Int) then (if (rd x151003 x6) < 0 then (some false) else (if (rd x151003 x6) ≥ (x150004.length : Int) then (some false) else (crucibleref14_ends.l0 k x5 (wrap64 (x6 + 1)) x150000 x150001 x150002 x150003 x150004 x151000 x151001 x151002 x151003))) else (none)) else (none)) else (some true)
end
def crucibleref14_ends.f (k : Nat) (a0_0 : ByteArray) (a0_1 : Int) (a0_2 : Int) (a0_3 : Int) (l0_4 : List (S45)) (l1_0 : List (S59)) (a1_1 : Int) (a1_2 : Int) (l1_3 : List Int) : Option (Bool):=if a1_1 = 1 then (if a1_2 = 0 then (crucibleref14_ends.j0 k 1 a0_0 a0_1 a0_2 a0_3 l0_4 l1_0 a1_1 a1_2 l1_3) else (some false)) else (if a1_1 = 2 then ((crucibleref14_register.f a0_0 a0_1 a0_2 a0_3 l0_4 a1_2).bind fun t151 => (if t151 = true then (crucibleref14_ends.j0 k 2 a0_0 a0_1 a0_2 a0_3 l0_4 l1_0 a1_1 a1_2 l1_3) else (some false))) else (if a1_1 = 3 then (if a1_2 = (-1) then (crucibleref14_ends.j0 k 0 a0_0 a0_1 a0_2 a0_3 l0_4 l1_0 a1_1 a1_2 l1_3) else ((crucibleref14_register.f a0_0 a0_1 a0_2 a0_3 l0_4 a1_2).bind fun t152 => (if t152 = true then (crucibleref14_ends.j0 k 0 a0_0 a0_1 a0_2 a0_3 l0_4 l1_0 a1_1 a1_2 l1_3) else (some false)))) else (some false)))
set_option maxHeartbeats 8000000 in
set_option maxRecDepth 100000 in
theorem crucibleref14_ends.calls (k : Nat) (a0_0 : ByteArray) (a0_1 : Int) (a0_2 : Int) (a0_3 : Int) (A0_4 : Option Addr) (c0_4 : Nat) (l0_4 : List (S45)) (A1_0 : Option Addr) (c1_0 : Nat) (l1_0 : List (S59)) (a1_1 : Int) (a1_2 : Int) (A1_3 : Option Addr) (c1_3 : Nat) (l1_3 : List Int) (r : Bool) (w : World) (hr0_4 : Kd.C k45 w A0_4 l0_4.length l0_4) (hc0_4 : l0_4.length ≤ c0_4) (hr1_0 : Kd.C k59 w A1_0 l1_0.length l1_0) (hc1_0 : l1_0.length ≤ c1_0) (hr1_3 : Kd.C (Kd.int .i64) w A1_3 l1_3.length l1_3) (hc1_3 : l1_3.length ≤ c1_3) (h : crucibleref14_ends.f k a0_0 a0_1 a0_2 a0_3 l0_4 l1_0 a1_1 a1_2 l1_3 = some r) :
 Calls Try.prog 35 #[.agg #[.string a0_0,.int .i64 a0_1,.int .i64 a0_2,.int .i64 a0_3,.slice A0_4 l0_4.length c0_4],.agg #[.slice A1_0 l1_0.length c1_0,.int .i64 a1_1,.int .i64 a1_2,.slice A1_3 l1_3.length c1_3]] w fun e w' => e = .returned (.bool r) ∧ Below w.heap.size w w' := by
 have hu24:=Try.underlying24
 have hu45:=Try.underlying45
 have HR0_4:=Aside0.mk hr0_4
 have HC0_4:=Aside0.mk hc0_4
 clear hr0_4 hc0_4;clear hr1_0 hc1_0;have HR1_3:=Aside0.mk hr1_3
 clear hr1_3 hc1_3;have HB:=Aside0.mk (Below.refl w.heap.size w)
 have H : (if a1_1 = 1 then (if a1_2 = 0 then (crucibleref14_ends.j0 k 1 a0_0 a0_1 a0_2 a0_3 l0_4 l1_0 a1_1 a1_2 l1_3) else (some false)) else (if a1_1 = 2 then ((crucibleref14_register.f a0_0 a0_1 a0_2 a0_3 l0_4 a1_2).bind fun t151 => (if t151 = true then (crucibleref14_ends.j0 k 2 a0_0 a0_1 a0_2 a0_3 l0_4 l1_0 a1_1 a1_2 l1_3) else (some false))) else (if a1_1 = 3 then (if a1_2 = (-1) then (crucibleref14_ends.j0 k 0 a0_0 a0_1 a0_2 a0_3 l0_4 l1_0 a1_1 a1_2 l1_3) else ((crucibleref14_register.f a0_0 a0_1 a0_2 a0_3 l0_4 a1_2).bind fun t152 => (if t152 = true then (crucibleref14_ends.j0 k 0 a0_0 a0_1 a0_2 a0_3 l0_4 l1_0 a1_1 a1_2 l1_3) else (some false)))) else (some false)))) = some r:=h
 clear h;have HC3:=Aside0.mk H
 clear H;go_enter Try.func35,Try.ntmps35
 go_upto_block 0 with (first|((with_reducible refine Z52 (N:=2) rfl ?_);(try (refine Z66 (by rfl) ?_;dsimp only));refine Z51 ?hg (N:=2) ?hd (cs:=#[.string a0_0,.int .i64 a0_1,.int .i64 a0_2,.int .i64 a0_3,.slice A0_4 l0_4.length c0_4]) (t:=24) ?hr ?_;(case hd => rfl);(case hg => rfl);(case hr => first|(go_simp;done)|(go_simp;rfl));intro gb149 hg w4 hbox hb;have n0_:=Aside0.mk (Z25 YH hb);have n1_:=Aside0.mk (hbox);have n2_:=Aside0.mk ((by rw [hg];exact (Z27 YH) : w.heap.size ≤ gb149));have n3_:=Aside0.mk ((by rw [hg];exact (Z27 YH) : w.heap.size ≤ gb149));clear HB;have HB:=n0_;have BK149:=n1_;have GW149:=n2_;have GE149:=n3_;clear n0_ n1_ n2_ n3_;clear hb hbox hg)|((with_reducible refine Z52 (N:=3) rfl ?_);(try (refine Z66 (by rfl) ?_;dsimp only));refine Z51 ?hg (N:=3) ?hd (cs:=#[.slice A1_0 l1_0.length c1_0,.int .i64 a1_1,.int .i64 a1_2,.slice A1_3 l1_3.length c1_3]) (t:=45) ?hr ?_;(case hd => rfl);(case hg => rfl);(case hr => first|(go_simp;done)|(go_simp;rfl));intro gb150 hg w5 hbox hb;have n0_:=Aside0.mk (Z40 (YK BK149) hb);have n1_:=Aside0.mk (Z25 YH hb);have n2_:=Aside0.mk (hbox);have n3_:=Aside0.mk ((by rw [hg];exact (Z27 YH) : w.heap.size ≤ gb150));have n4_:=Aside0.mk ((by rw [hg];exact (Z27 YH) : w.heap.size ≤ gb150));have n5_:=Aside0.mk ((by rw [hg];exact Nat.ne_of_lt (blk_lt (YK BK149)) : gb149 ≠ gb150));have n6_:=Aside0.mk ((by rw [hg];exact Nat.ne_of_gt (blk_lt (YK BK149)) : gb150 ≠ gb149));clear BK149;clear HB;have BK149:=n0_;have HB:=n1_;have BK150:=n2_;have GW150:=n3_;have GE150:=n4_;have NB149_150:=n5_;have NB150_149:=n6_;clear n0_ n1_ n2_ n3_ n4_ n5_ n6_;clear hb hbox hg;have hnb6:=NB150_149.out;have hnc6:=NB149_150.out;have hcz7_1 : w5.cell? ⟨gb150,1,none⟩ = some (.int .i64 a1_1):=(Z5 BK150.out 1).trans rfl;have hcz7_2 : w5.cell? ⟨gb150,2,none⟩ = some (.int .i64 a1_2):=(Z5 BK150.out 2).trans rfl))
 repeat (go_quiet (first|((with_reducible refine Z52 (N:=2) rfl ?_);(try (refine Z66 (by rfl) ?_;dsimp only));refine Z51 ?hg (N:=2) ?hd (cs:=#[.string a0_0,.int .i64 a0_1,.int .i64 a0_2,.int .i64 a0_3,.slice A0_4 l0_4.length c0_4]) (t:=24) ?hr ?_;(case hd => rfl);(case hg => rfl);(case hr => first|(go_simp;done)|(go_simp;rfl));intro gb149 hg w4 hbox hb;have n0_:=Aside0.mk (Z25 YH hb);have n1_:=Aside0.mk (hbox);have n2_:=Aside0.mk ((by rw [hg];exact (Z27 YH) : w.heap.size ≤ gb149));have n3_:=Aside0.mk ((by rw [hg];exact (Z27 YH) : w.heap.size ≤ gb149));clear HB;have HB:=n0_;have BK149:=n1_;have GW149:=n2_;have GE149:=n3_;clear n0_ n1_ n2_ n3_;clear hb hbox hg)|((with_reducible refine Z52 (N:=3) rfl ?_);(try (refine Z66 (by rfl) ?_;dsimp only));refine Z51 ?hg (N:=3) ?hd (cs:=#[.slice A1_0 l1_0.length c1_0,.int .i64 a1_1,.int .i64 a1_2,.slice A1_3 l1_3.length c1_3]) (t:=45) ?hr ?_;(case hd => rfl);(case hg => rfl);(case hr => first|(go_simp;done)|(go_simp;rfl));intro gb150 hg w5 hbox hb;have n0_:=Aside0.mk (Z40 (YK BK149) hb);have n1_:=Aside0.mk (Z25 YH hb);have n2_:=Aside0.mk (hbox);have n3_:=Aside0.mk ((by rw [hg];exact (Z27 YH) : w.heap.size ≤ gb150));have n4_:=Aside0.mk ((by rw [hg];exact (Z27 YH) : w.heap.size ≤ gb150));have n5_:=Aside0.mk ((by rw [hg];exact Nat.ne_of_lt (blk_lt (YK BK149)) : gb149 ≠ gb150));have n6_:=Aside0.mk ((by rw [hg];exact Nat.ne_of_gt (blk_lt (YK BK149)) : gb150 ≠ gb149));clear BK149;clear HB;have BK149:=n0_;have HB:=n1_;have BK150:=n2_;have GW150:=n3_;have GE150:=n4_;have NB149_150:=n5_;have NB150_149:=n6_;clear n0_ n1_ n2_ n3_ n4_ n5_ n6_;clear hb hbox hg;have hnb6:=NB150_149.out;have hnc6:=NB149_150.out;have hcz7_1 : w5.cell? ⟨gb150,1,none⟩ = some (.int .i64 a1_1):=(Z5 BK150.out 1).trans rfl;have hcz7_2 : w5.cell? ⟨gb150,2,none⟩ = some (.int .i64 a1_2):=(Z5 BK150.out 2).trans rfl));go_upto_block 0 with (first|((with_reducible refine Z52 (N:=2) rfl ?_);(try (refine Z66 (by rfl) ?_;dsimp only));refine Z51 ?hg (N:=2) ?hd (cs:=#[.string a0_0,.int .i64 a0_1,.int .i64 a0_2,.int .i64 a0_3,.slice A0_4 l0_4.length c0_4]) (t:=24) ?hr ?_;(case hd => rfl);(case hg => rfl);(case hr => first|(go_simp;done)|(go_simp;rfl));intro gb149 hg w4 hbox hb;have n0_:=Aside0.mk (Z25 YH hb);have n1_:=Aside0.mk (hbox);have n2_:=Aside0.mk ((by rw [hg];exact (Z27 YH) : w.heap.size ≤ gb149));have n3_:=Aside0.mk ((by rw [hg];exact (Z27 YH) : w.heap.size ≤ gb149));clear HB;have HB:=n0_;have BK149:=n1_;have GW149:=n2_;have GE149:=n3_;clear n0_ n1_ n2_ n3_;clear hb hbox hg)|((with_reducible refine Z52 (N:=3) rfl ?_);(try (refine Z66 (by rfl) ?_;dsimp only));refine Z51 ?hg (N:=3) ?hd (cs:=#[.slice A1_0 l1_0.length c1_0,.int .i64 a1_1,.int .i64 a1_2,.slice A1_3 l1_3.length c1_3]) (t:=45) ?hr ?_;(case hd => rfl);(case hg => rfl);(case hr => first|(go_simp;done)|(go_simp;rfl));intro gb150 hg w5 hbox hb;have n0_:=Aside0.mk (Z40 (YK BK149) hb);have n1_:=Aside0.mk (Z25 YH hb);have n2_:=Aside0.mk (hbox);have n3_:=Aside0.mk ((by rw [hg];exact (Z27 YH) : w.heap.size ≤ gb150));have n4_:=Aside0.mk ((by rw [hg];exact (Z27 YH) : w.heap.size ≤ gb150));have n5_:=Aside0.mk ((by rw [hg];exact Nat.ne_of_lt (blk_lt (YK BK149)) : gb149 ≠ gb150));have n6_:=Aside0.mk ((by rw [hg];exact Nat.ne_of_gt (blk_lt (YK BK149)) : gb150 ≠ gb149));clear BK149;clear HB;have BK149:=n0_;have HB:=n1_;have BK150:=n2_;have GW150:=n3_;have GE150:=n4_;have NB149_150:=n5_;have NB150_149:=n6_;clear n0_ n1_ n2_ n3_ n4_ n5_ n6_;clear hb hbox hg;have hnb6:=NB150_149.out;have hnc6:=NB149_150.out;have hcz7_1 : w5.cell? ⟨gb150,1,none⟩ = some (.int .i64 a1_1):=(Z5 BK150.out 1).trans rfl;have hcz7_2 : w5.cell? ⟨gb150,2,none⟩ = some (.int .i64 a1_2):=(Z5 BK150.out 2).trans rfl)))
 (try simp only [Act.put,List.setIfInBounds_toArray,List.set_cons_zero,List.set_cons_succ]);go_cut [5] (fun v5 wc => ∃ (kq : Nat) (x5_2 : Int),v5 = .int .i64 x5_2 ∧ Aside0 (crucibleref14_ends.j0 kq x5_2 a0_0 a0_1 a0_2 a0_3 l0_4 l1_0 a1_1 a1_2 l1_3 = some r) ∧ Aside0 (kq ≤ k) ∧ Aside0 (wc.heap[gb149]? = some (.cells #[.string a0_0,.int .i64 a0_1,.int .i64 a0_2,.int .i64 a0_3,(.slice A0_4 l0_4.length c0_4)] 24 (0,0))) ∧ Aside0 (wc.heap[gb150]? = some (.cells #[(.slice A1_0 l1_0.length c1_0),.int .i64 a1_1,.int .i64 a1_2,(.slice A1_3 l1_3.length c1_3)] 45 (0,0))) ∧ Aside0 (Below w.heap.size w wc))
 case first =>
  have H:=HC3.out
  clear HC3;by_cases c8 : a1_1 = 1
  · rw [if_pos c8] at H;have c8b0 : (a1_1 == 1) = true:=beq_iff_eq.mpr c8
    clear c8;(first|rw [c8b0]|(simp only [i64_w,i32_w];rw [c8b0])|skip);by_cases c9 : a1_2 = 0
    · rw [if_pos c9] at H;have c9b1 : (a1_2 != 0) = false:=bne_eq_false_iff_eq.mpr c9
      clear c9;have H' := Aside0.mk H
      clear H;have hnb10:=NB150_149.out
      have hnc10:=NB149_150.out
      go_wp2
      repeat (go_quiet (fail);try go_wp2)
      go_meet
      case rel => exact ⟨_,(1),(by first|rfl|(simp;done)|(simp [*];done)),H',⟨by first|omega|exact Nat.le_refl _⟩,⟨YK BK149⟩,⟨YK BK150⟩,⟨YH⟩⟩
    · rw [if_neg c9] at H;have c9b1 : (a1_2 != 0) = true:=bne_iff_ne.mpr c9
      obtain rfl:=Option.some.inj H
      have hnb12:=NB150_149.out
      have hnc12:=NB149_150.out
      go_wp2
      repeat (go_quiet (fail);try go_wp2)
      go_ret
      exact ⟨by first|rfl|(simp [Z16,Z15] <;> rfl)|(simp [*,Z16,Z15] <;> rfl),by repeat (first|(with_reducible first|exact HB.out|apply Z7|apply Z4|apply Z6|refine Z8 ?_ GE149.out|refine Z8 ?_ GE150.out)|exact HB.out)⟩
  · rw [if_neg c8] at H;have c8b0 : (a1_1 == 1) = false:=beq_eq_false_iff_ne.mpr c8
    (first|rw [c8b0]|(simp only [i64_w,i32_w];rw [c8b0])|skip);by_cases c14 : a1_1 = 2
    · rw [if_pos c14] at H;have c14b0 : (a1_1 == 2) = true:=beq_iff_eq.mpr c14
      clear c14;replace H:=Option.bind_eq_some_iff.mp H
      obtain ⟨t151,A150,H⟩:=H
      replace H : (if t151 = true then (crucibleref14_ends.j0 k 2 a0_0 a0_1 a0_2 a0_3 l0_4 l1_0 a1_1 a1_2 l1_3) else (some false)) = some r:=H
      have A15:=Aside0.mk A150
      clear A150;by_cases c16 : t151 = true
      · subst c16;have H1 : (crucibleref14_ends.j0 k 2 a0_0 a0_1 a0_2 a0_3 l0_4 l1_0 a1_1 a1_2 l1_3) = some r:=by rw [if_pos rfl] at H;exact H
        clear H;have H:=H1
        clear H1;have H' := Aside0.mk H
        clear H;have hnb17:=NB149_150.out
        have hnc17:=NB150_149.out
        have hcz18_0 : w5.cell? ⟨gb149,0,none⟩ = some (.string a0_0):=(Z5 BK149.out 0).trans rfl
        have hcz18_1 : w5.cell? ⟨gb149,1,none⟩ = some (.int .i64 a0_1):=(Z5 BK149.out 1).trans rfl
        have hcz18_2 : w5.cell? ⟨gb149,2,none⟩ = some (.int .i64 a0_2):=(Z5 BK149.out 2).trans rfl
        have hcz18_3 : w5.cell? ⟨gb149,3,none⟩ = some (.int .i64 a0_3):=(Z5 BK149.out 3).trans rfl
        have hcz18_4 : w5.cell? ⟨gb149,4,none⟩ = some (.slice A0_4 l0_4.length c0_4):=(Z5 BK149.out 4).trans rfl
        go_wp2_with (first|(go_at_call 40;(with_reducible refine (crucibleref14_register.calls a0_0 a0_1 a0_2 a0_3 _ _ l0_4 a1_2 true _ ?side1 ?side2 A15.out).mono ?_);(case side1 => repeat (first|exact (Kd.C_below HR0_4.out HB.out)|(with_reducible refine Kd.C_alloc ?_ _)|(with_reducible refine Kd.C_drewN ?_ _)|(with_reducible refine Kd.C_drew ?_)));(case side2 => exact HC0_4.out);rintro e w20 ⟨rfl,hb⟩;have n0_:=Aside0.mk (Z40 (YK BK149) hb);have n1_:=Aside0.mk (Z40 (YK BK150) hb);have n2_:=Aside0.mk (Z25 YH hb);clear BK149;clear BK150;clear HB;have BK149:=n0_;have BK150:=n1_;have HB:=n2_;clear n0_ n1_ n2_;(try clear hb);(try clear hb2);(try clear hk);(try clear hi)))
        repeat (go_quiet (first|(go_at_call 40;(with_reducible refine (crucibleref14_register.calls a0_0 a0_1 a0_2 a0_3 _ _ l0_4 a1_2 true _ ?side1 ?side2 A15.out).mono ?_);(case side1 => repeat (first|exact (Kd.C_below HR0_4.out HB.out)|(with_reducible refine Kd.C_alloc ?_ _)|(with_reducible refine Kd.C_drewN ?_ _)|(with_reducible refine Kd.C_drew ?_)));(case side2 => exact HC0_4.out);rintro e w20 ⟨rfl,hb⟩;have n0_:=Aside0.mk (Z40 (YK BK149) hb);have n1_:=Aside0.mk (Z40 (YK BK150) hb);have n2_:=Aside0.mk (Z25 YH hb);clear BK149;clear BK150;clear HB;have BK149:=n0_;have BK150:=n1_;have HB:=n2_;clear n0_ n1_ n2_;(try clear hb);(try clear hb2);(try clear hk);(try clear hi)));try go_wp2_with (first|(go_at_call 40;(with_reducible refine (crucibleref14_register.calls a0_0 a0_1 a0_2 a0_3 _ _ l0_4 a1_2 true _ ?side1 ?side2 A15.out).mono ?_);(case side1 => repeat (first|exact (Kd.C_below HR0_4.out HB.out)|(with_reducible refine Kd.C_alloc ?_ _)|(with_reducible refine Kd.C_drewN ?_ _)|(with_reducible refine Kd.C_drew ?_)));(case side2 => exact HC0_4.out);rintro e w20 ⟨rfl,hb⟩;have n0_:=Aside0.mk (Z40 (YK BK149) hb);have n1_:=Aside0.mk (Z40 (YK BK150) hb);have n2_:=Aside0.mk (Z25 YH hb);clear BK149;clear BK150;clear HB;have BK149:=n0_;have BK150:=n1_;have HB:=n2_;clear n0_ n1_ n2_;(try clear hb);(try clear hb2);(try clear hk);(try clear hi))))
        go_meet
        case rel => exact ⟨_,(2),(by first|rfl|(simp;done)|(simp [*];done)),H',⟨by first|omega|exact Nat.le_refl _⟩,⟨YK BK149⟩,⟨YK BK150⟩,⟨YH⟩⟩
      · replace c16:=Bool.eq_false_iff.mpr c16
        subst c16;have H1 : (some false) = some r:=by rw [if_neg (show ¬ (false = true) by decide)] at H;exact H
        clear H;have H:=H1
        clear H1;obtain rfl:=Option.some.inj H
        have hnb21:=NB149_150.out
        have hnc21:=NB150_149.out
        have hcz22_0 : w5.cell? ⟨gb149,0,none⟩ = some (.string a0_0):=(Z5 BK149.out 0).trans rfl
        have hcz22_1 : w5.cell? ⟨gb149,1,none⟩ = some (.int .i64 a0_1):=(Z5 BK149.out 1).trans rfl
        have hcz22_2 : w5.cell? ⟨gb149,2,none⟩ = some (.int .i64 a0_2):=(Z5 BK149.out 2).trans rfl
        have hcz22_3 : w5.cell? ⟨gb149,3,none⟩ = some (.int .i64 a0_3):=(Z5 BK149.out 3).trans rfl
        have hcz22_4 : w5.cell? ⟨gb149,4,none⟩ = some (.slice A0_4 l0_4.length c0_4):=(Z5 BK149.out 4).trans rfl
        go_wp2_with (first|(go_at_call 40;(with_reducible refine (crucibleref14_register.calls a0_0 a0_1 a0_2 a0_3 _ _ l0_4 a1_2 false _ ?side1 ?side2 A15.out).mono ?_);(case side1 => repeat (first|exact (Kd.C_below HR0_4.out HB.out)|(with_reducible refine Kd.C_alloc ?_ _)|(with_reducible refine Kd.C_drewN ?_ _)|(with_reducible refine Kd.C_drew ?_)));(case side2 => exact HC0_4.out);rintro e w24 ⟨rfl,hb⟩;have n0_:=Aside0.mk (Z40 (YK BK149) hb);have n1_:=Aside0.mk (Z40 (YK BK150) hb);have n2_:=Aside0.mk (Z25 YH hb);clear BK149;clear BK150;clear HB;have BK149:=n0_;have BK150:=n1_;have HB:=n2_;clear n0_ n1_ n2_;(try clear hb);(try clear hb2);(try clear hk);(try clear hi)))
        repeat (go_quiet (first|(go_at_call 40;(with_reducible refine (crucibleref14_register.calls a0_0 a0_1 a0_2 a0_3 _ _ l0_4 a1_2 false _ ?side1 ?side2 A15.out).mono ?_);(case side1 => repeat (first|exact (Kd.C_below HR0_4.out HB.out)|(with_reducible refine Kd.C_alloc ?_ _)|(with_reducible refine Kd.C_drewN ?_ _)|(with_reducible refine Kd.C_drew ?_)));(case side2 => exact HC0_4.out);rintro e w24 ⟨rfl,hb⟩;have n0_:=Aside0.mk (Z40 (YK BK149) hb);have n1_:=Aside0.mk (Z40 (YK BK150) hb);have n2_:=Aside0.mk (Z25 YH hb);clear BK149;clear BK150;clear HB;have BK149:=n0_;have BK150:=n1_;have HB:=n2_;clear n0_ n1_ n2_;(try clear hb);(try clear hb2);(try clear hk);(try clear hi)));try go_wp2_with (first|(go_at_call 40;(with_reducible refine (crucibleref14_register.calls a0_0 a0_1 a0_2 a0_3 _ _ l0_4 a1_2 false _ ?side1 ?side2 A15.out).mono ?_);(case side1 => repeat (first|exact (Kd.C_below HR0_4.out HB.out)|(with_reducible refine Kd.C_alloc ?_ _)|(with_reducible refine Kd.C_drewN ?_ _)|(with_reducible refine Kd.C_drew ?_)));(case side2 => exact HC0_4.out);rintro e w24 ⟨rfl,hb⟩;have n0_:=Aside0.mk (Z40 (YK BK149) hb);have n1_:=Aside0.mk (Z40 (YK BK150) hb);have n2_:=Aside0.mk (Z25 YH hb);clear BK149;clear BK150;clear HB;have BK149:=n0_;have BK150:=n1_;have HB:=n2_;clear n0_ n1_ n2_;(try clear hb);(try clear hb2);(try clear hk);(try clear hi))))
        go_ret
        exact ⟨by first|rfl|(simp [Z16,Z15] <;> rfl)|(simp [*,Z16,Z15] <;> rfl),by repeat (first|(with_reducible first|exact HB.out|apply Z7|apply Z4|apply Z6|refine Z8 ?_ GE149.out|refine Z8 ?_ GE150.out)|exact HB.out)⟩
    · rw [if_neg c14] at H;have c14b0 : (a1_1 == 2) = false:=beq_eq_false_iff_ne.mpr c14
      by_cases c25 : a1_1 = 3
      · rw [if_pos c25] at H;have c25b0 : (a1_1 == 3) = true:=beq_iff_eq.mpr c25
        clear c25;by_cases c26 : a1_2 = (-1)
        · rw [if_pos c26] at H;have c26b1 : (a1_2 != (-1)) = false:=bne_eq_false_iff_eq.mpr c26
          clear c26;have H' := Aside0.mk H
          clear H;have hnb27:=NB150_149.out
          have hnc27:=NB149_150.out
          go_wp2
          repeat (go_quiet (fail);try go_wp2)
          go_meet
          case rel => exact ⟨_,(0),(by first|rfl|(simp;done)|(simp [*];done)),H',⟨by first|omega|exact Nat.le_refl _⟩,⟨YK BK149⟩,⟨YK BK150⟩,⟨YH⟩⟩
        · rw [if_neg c26] at H;have c26b1 : (a1_2 != (-1)) = true:=bne_iff_ne.mpr c26
          replace H:=Option.bind_eq_some_iff.mp H
          obtain ⟨t152,A290,H⟩:=H
          replace H : (if t152 = true then (crucibleref14_ends.j0 k 0 a0_0 a0_1 a0_2 a0_3 l0_4 l1_0 a1_1 a1_2 l1_3) else (some false)) = some r:=H
          have A29:=Aside0.mk A290
          clear A290;by_cases c30 : t152 = true
          · subst c30;have H1 : (crucibleref14_ends.j0 k 0 a0_0 a0_1 a0_2 a0_3 l0_4 l1_0 a1_1 a1_2 l1_3) = some r:=by rw [if_pos rfl] at H;exact H
            clear H;have H:=H1
            clear H1;have H' := Aside0.mk H
            clear H;have hnb31:=NB150_149.out
            have hnc31:=NB149_150.out
            have hcz33_0 : w5.cell? ⟨gb149,0,none⟩ = some (.string a0_0):=(Z5 BK149.out 0).trans rfl
            have hcz33_1 : w5.cell? ⟨gb149,1,none⟩ = some (.int .i64 a0_1):=(Z5 BK149.out 1).trans rfl
            have hcz33_2 : w5.cell? ⟨gb149,2,none⟩ = some (.int .i64 a0_2):=(Z5 BK149.out 2).trans rfl
            have hcz33_3 : w5.cell? ⟨gb149,3,none⟩ = some (.int .i64 a0_3):=(Z5 BK149.out 3).trans rfl
            have hcz33_4 : w5.cell? ⟨gb149,4,none⟩ = some (.slice A0_4 l0_4.length c0_4):=(Z5 BK149.out 4).trans rfl
            go_wp2_with (first|(go_at_call 40;(with_reducible refine (crucibleref14_register.calls a0_0 a0_1 a0_2 a0_3 _ _ l0_4 a1_2 true _ ?side1 ?side2 A29.out).mono ?_);(case side1 => repeat (first|exact (Kd.C_below HR0_4.out HB.out)|(with_reducible refine Kd.C_alloc ?_ _)|(with_reducible refine Kd.C_drewN ?_ _)|(with_reducible refine Kd.C_drew ?_)));(case side2 => exact HC0_4.out);rintro e w34 ⟨rfl,hb⟩;have n0_:=Aside0.mk (Z40 (YK BK149) hb);have n1_:=Aside0.mk (Z40 (YK BK150) hb);have n2_:=Aside0.mk (Z25 YH hb);clear BK149;clear BK150;clear HB;have BK149:=n0_;have BK150:=n1_;have HB:=n2_;clear n0_ n1_ n2_;(try clear hb);(try clear hb2);(try clear hk);(try clear hi)))
            repeat (go_quiet (first|(go_at_call 40;(with_reducible refine (crucibleref14_register.calls a0_0 a0_1 a0_2 a0_3 _ _ l0_4 a1_2 true _ ?side1 ?side2 A29.out).mono ?_);(case side1 => repeat (first|exact (Kd.C_below HR0_4.out HB.out)|(with_reducible refine Kd.C_alloc ?_ _)|(with_reducible refine Kd.C_drewN ?_ _)|(with_reducible refine Kd.C_drew ?_)));(case side2 => exact HC0_4.out);rintro e w34 ⟨rfl,hb⟩;have n0_:=Aside0.mk (Z40 (YK BK149) hb);have n1_:=Aside0.mk (Z40 (YK BK150) hb);have n2_:=Aside0.mk (Z25 YH hb);clear BK149;clear BK150;clear HB;have BK149:=n0_;have BK150:=n1_;have HB:=n2_;clear n0_ n1_ n2_;(try clear hb);(try clear hb2);(try clear hk);(try clear hi)));try go_wp2_with (first|(go_at_call 40;(with_reducible refine (crucibleref14_register.calls a0_0 a0_1 a0_2 a0_3 _ _ l0_4 a1_2 true _ ?side1 ?side2 A29.out).mono ?_);(case side1 => repeat (first|exact (Kd.C_below HR0_4.out HB.out)|(with_reducible refine Kd.C_alloc ?_ _)|(with_reducible refine Kd.C_drewN ?_ _)|(with_reducible refine Kd.C_drew ?_)));(case side2 => exact HC0_4.out);rintro e w34 ⟨rfl,hb⟩;have n0_:=Aside0.mk (Z40 (YK BK149) hb);have n1_:=Aside0.mk (Z40 (YK BK150) hb);have n2_:=Aside0.mk (Z25 YH hb);clear BK149;clear BK150;clear HB;have BK149:=n0_;have BK150:=n1_;have HB:=n2_;clear n0_ n1_ n2_;(try clear hb);(try clear hb2);(try clear hk);(try clear hi))))
            go_meet
            case rel => exact ⟨_,(0),(by first|rfl|(simp;done)|(simp [*];done)),H',⟨by first|omega|exact Nat.le_refl _⟩,⟨YK BK149⟩,⟨YK BK150⟩,⟨YH⟩⟩
          · replace c30:=Bool.eq_false_iff.mpr c30
            subst c30;have H1 : (some false) = some r:=by rw [if_neg (show ¬ (false = true) by decide)] at H;exact H
            clear H;have H:=H1
            clear H1;obtain rfl:=Option.some.inj H
            have hnb35:=NB150_149.out
            have hnc35:=NB149_150.out
            have hcz37_0 : w5.cell? ⟨gb149,0,none⟩ = some (.string a0_0):=(Z5 BK149.out 0).trans rfl
            have hcz37_1 : w5.cell? ⟨gb149,1,none⟩ = some (.int .i64 a0_1):=(Z5 BK149.out 1).trans rfl
            have hcz37_2 : w5.cell? ⟨gb149,2,none⟩ = some (.int .i64 a0_2):=(Z5 BK149.out 2).trans rfl
            have hcz37_3 : w5.cell? ⟨gb149,3,none⟩ = some (.int .i64 a0_3):=(Z5 BK149.out 3).trans rfl
            have hcz37_4 : w5.cell? ⟨gb149,4,none⟩ = some (.slice A0_4 l0_4.length c0_4):=(Z5 BK149.out 4).trans rfl
            go_wp2_with (first|(go_at_call 40;(with_reducible refine (crucibleref14_register.calls a0_0 a0_1 a0_2 a0_3 _ _ l0_4 a1_2 false _ ?side1 ?side2 A29.out).mono ?_);(case side1 => repeat (first|exact (Kd.C_below HR0_4.out HB.out)|(with_reducible refine Kd.C_alloc ?_ _)|(with_reducible refine Kd.C_drewN ?_ _)|(with_reducible refine Kd.C_drew ?_)));(case side2 => exact HC0_4.out);rintro e w38 ⟨rfl,hb⟩;have n0_:=Aside0.mk (Z40 (YK BK149) hb);have n1_:=Aside0.mk (Z40 (YK BK150) hb);have n2_:=Aside0.mk (Z25 YH hb);clear BK149;clear BK150;clear HB;have BK149:=n0_;have BK150:=n1_;have HB:=n2_;clear n0_ n1_ n2_;(try clear hb);(try clear hb2);(try clear hk);(try clear hi)))
            repeat (go_quiet (first|(go_at_call 40;(with_reducible refine (crucibleref14_register.calls a0_0 a0_1 a0_2 a0_3 _ _ l0_4 a1_2 false _ ?side1 ?side2 A29.out).mono ?_);(case side1 => repeat (first|exact (Kd.C_below HR0_4.out HB.out)|(with_reducible refine Kd.C_alloc ?_ _)|(with_reducible refine Kd.C_drewN ?_ _)|(with_reducible refine Kd.C_drew ?_)));(case side2 => exact HC0_4.out);rintro e w38 ⟨rfl,hb⟩;have n0_:=Aside0.mk (Z40 (YK BK149) hb);have n1_:=Aside0.mk (Z40 (YK BK150) hb);have n2_:=Aside0.mk (Z25 YH hb);clear BK149;clear BK150;clear HB;have BK149:=n0_;have BK150:=n1_;have HB:=n2_;clear n0_ n1_ n2_;(try clear hb);(try clear hb2);(try clear hk);(try clear hi)));try go_wp2_with (first|(go_at_call 40;(with_reducible refine (crucibleref14_register.calls a0_0 a0_1 a0_2 a0_3 _ _ l0_4 a1_2 false _ ?side1 ?side2 A29.out).mono ?_);(case side1 => repeat (first|exact (Kd.C_below HR0_4.out HB.out)|(with_reducible refine Kd.C_alloc ?_ _)|(with_reducible refine Kd.C_drewN ?_ _)|(with_reducible refine Kd.C_drew ?_)));(case side2 => exact HC0_4.out);rintro e w38 ⟨rfl,hb⟩;have n0_:=Aside0.mk (Z40 (YK BK149) hb);have n1_:=Aside0.mk (Z40 (YK BK150) hb);have n2_:=Aside0.mk (Z25 YH hb);clear BK149;clear BK150;clear HB;have BK149:=n0_;have BK150:=n1_;have HB:=n2_;clear n0_ n1_ n2_;(try clear hb);(try clear hb2);(try clear hk);(try clear hi))))
            go_ret
            exact ⟨by first|rfl|(simp [Z16,Z15] <;> rfl)|(simp [*,Z16,Z15] <;> rfl),by repeat (first|(with_reducible first|exact HB.out|apply Z7|apply Z4|apply Z6|refine Z8 ?_ GE149.out|refine Z8 ?_ GE150.out)|exact HB.out)⟩
      · rw [if_neg c25] at H;have c25b0 : (a1_1 == 3) = false:=beq_eq_false_iff_ne.mpr c25
        obtain rfl:=Option.some.inj H
        go_wp2
        repeat (go_quiet (fail);try go_wp2)
        go_ret
        exact ⟨by first|rfl|(simp [Z16,Z15] <;> rfl)|(simp [*,Z16,Z15] <;> rfl),by repeat (first|(with_reducible first|exact HB.out|apply Z7|apply Z4|apply Z6|refine Z8 ?_ GE149.out|refine Z8 ?_ GE150.out)|exact HB.out)⟩
 case rest =>
  clear HC3;try clear hcz7_1
  try clear hcz7_2
  obtain ⟨kq,x5_2,rfl,HA,HJ2,BK149,BK150,HB⟩:=hcut
  cases kq with
  | zero => exact absurd HA.out (by simp [crucibleref14_ends.j0])
  | succ kj2 =>
   have H:=HA.out
   clear HA;simp only [crucibleref14_ends.j0] at H;by_cases c39 : (l1_3.length : Int) = x5_2
   · rw [if_pos c39] at H;have c39b1 : ((l1_3.length : Int) != x5_2) = false:=bne_eq_false_iff_eq.mpr c39
     clear c39;have H' := Aside0.mk H
     clear H;have hnb40:=NB150_149.out
     have hnc40:=NB149_150.out
     have hcz41_3 : wc.cell? ⟨gb150,3,none⟩ = some (.slice A1_3 l1_3.length c1_3):=(Z5 BK150.out 3).trans rfl
     go_wp2
     repeat (go_quiet (fail);try go_wp2)
     go_loopg [6] kj2 (fun kq v6 w' => ∃ (x6_2 : Int),v6 = .int .i64 x6_2 ∧ Aside0 (crucibleref14_ends.l0 kq x5_2 x6_2 a0_0 a0_1 a0_2 a0_3 l0_4 l1_0 a1_1 a1_2 l1_3 = some r) ∧ Aside0 (kq ≤ kj2) ∧ Aside0 (w'.heap[gb149]? = some (.cells #[.string a0_0,.int .i64 a0_1,.int .i64 a0_2,.int .i64 a0_3,(.slice A0_4 l0_4.length c0_4)] 24 (0,0))) ∧ Aside0 (w'.heap[gb150]? = some (.cells #[(.slice A1_0 l1_0.length c1_0),.int .i64 a1_1,.int .i64 a1_2,(.slice A1_3 l1_3.length c1_3)] 45 (0,0))) ∧ Aside0 (Below w.heap.size w w'))
     case atStart => exact ⟨(0),(by first|rfl|(simp;done)|(simp [*];done)),H',⟨Nat.le_refl _⟩,⟨YK BK149⟩,⟨YK BK150⟩,⟨YH⟩⟩
     case round =>
      clear H';try clear c39
      try clear c39b1
      try clear hcz41_3
      try clear hcz7_1
      try clear hcz7_2
      obtain ⟨x6_2,rfl,HA,HK2,BK149,BK150,HB⟩:=hrel
      cases gk with
      | zero => exact absurd HA.out (by simp [crucibleref14_ends.l0])
      | succ k2 =>
       have H:=HA.out
       clear HA;simp only [crucibleref14_ends.l0] at H;by_cases c42 : x6_2 < x5_2
       · rw [if_pos c42] at H;have c42b0 : decide (x6_2 < x5_2) = true:=decide_eq_true c42
         clear c42;by_cases c43 : 0 ≤ x6_2
         · rw [if_pos c43] at H;have c43b0 : decide (0 ≤ x6_2) = true:=decide_eq_true c43
           clear c43;by_cases c44 : x6_2 < (l1_3.length : Int)
           · rw [if_pos c44] at H;have c44b0 : decide (x6_2 < (l1_3.length : Int)) = true:=decide_eq_true c44
             clear c44;by_cases c45 : (rd l1_3 x6_2) < 0
             · rw [if_pos c45] at H;have c45b0 : decide ((rd l1_3 x6_2) < 0) = true:=decide_eq_true c45
               clear c45;obtain rfl:=Option.some.inj H
               have hnb46:=NB150_149.out
               have hnc46:=NB149_150.out
               have hcz47_3 : wr.cell? ⟨gb150,3,none⟩ = some (.slice A1_3 l1_3.length c1_3):=(Z5 BK150.out 3).trans rfl
               have p153 : 0 ≤ (x6_2 : Int):=YA
               have q153 : x6_2 < (l1_3.length : Int):=YA
               obtain ⟨ad153,e153,hx153_0⟩:=Kd.at_int HR1_3.out x6_2 p153 q153
               cases e153;replace hx153_0:=(HB.out.cell (World.block_lt_of_cell? w _ hx153_0)).trans hx153_0
               replace p153:=eq_true p153
               replace q153:=eq_true q153
               go_wp2
               repeat (go_quiet (fail);try go_wp2)
               go_ret
               exact ⟨by first|rfl|(simp [Z16,Z15] <;> rfl)|(simp [*,Z16,Z15] <;> rfl),by repeat (first|(with_reducible first|exact HB.out|apply Z7|apply Z4|apply Z6|refine Z8 ?_ GE149.out|refine Z8 ?_ GE150.out)|exact HB.out)⟩
             · rw [if_neg c45] at H;have c45b0 : decide ((rd l1_3 x6_2) < 0) = false:=decide_eq_false c45
               clear c45;by_cases c48 : (rd l1_3 x6_2) ≥ (l0_4.length : Int)
               · rw [if_pos c48] at H;have c48b0 : decide ((l0_4.length : Int) ≤ (rd l1_3 x6_2)) = true:=decide_eq_true c48
                 clear c48;obtain rfl:=Option.some.inj H
                 have hnb49:=NB150_149.out
                 have hnc49:=NB149_150.out
                 have hcz50_3 : wr.cell? ⟨gb150,3,none⟩ = some (.slice A1_3 l1_3.length c1_3):=(Z5 BK150.out 3).trans rfl
                 have p153 : 0 ≤ (x6_2 : Int):=YA
                 have q153 : x6_2 < (l1_3.length : Int):=YA
                 obtain ⟨ad153,e153,hx153_0⟩:=Kd.at_int HR1_3.out x6_2 p153 q153
                 cases e153;replace hx153_0:=(HB.out.cell (World.block_lt_of_cell? w _ hx153_0)).trans hx153_0
                 replace p153:=eq_true p153
                 replace q153:=eq_true q153
                 have p154 : 0 ≤ (x6_2 : Int):=YA
                 have q154 : x6_2 < (l1_3.length : Int):=YA
                 obtain ⟨ad154,e154,hx154_0⟩:=Kd.at_int HR1_3.out x6_2 p154 q154
                 obtain rfl : ad153 = ad154:=(by injection e154)
                 replace hx154_0:=(HB.out.cell (World.block_lt_of_cell? w _ hx154_0)).trans hx154_0
                 replace p154:=eq_true p154
                 replace q154:=eq_true q154
                 have hcz51_4 : wr.cell? ⟨gb149,4,none⟩ = some (.slice A0_4 l0_4.length c0_4):=(Z5 BK149.out 4).trans rfl
                 go_wp2
                 repeat (go_quiet (fail);try go_wp2)
                 go_ret
                 exact ⟨by first|rfl|(simp [Z16,Z15] <;> rfl)|(simp [*,Z16,Z15] <;> rfl),by repeat (first|(with_reducible first|exact HB.out|apply Z7|apply Z4|apply Z6|refine Z8 ?_ GE149.out|refine Z8 ?_ GE150.out)|exact HB.out)⟩
               · rw [if_neg c48] at H;have c48b0 : decide ((l0_4.length : Int) ≤ (rd l1_3 x6_2)) = false:=decide_eq_false c48
                 clear c48;have H' := Aside0.mk H
                 clear H;have hnb52:=NB150_149.out
                 have hnc52:=NB149_150.out
                 have hcz53_3 : wr.cell? ⟨gb150,3,none⟩ = some (.slice A1_3 l1_3.length c1_3):=(Z5 BK150.out 3).trans rfl
                 have p153 : 0 ≤ (x6_2 : Int):=YA
                 have q153 : x6_2 < (l1_3.length : Int):=YA
                 obtain ⟨ad153,e153,hx153_0⟩:=Kd.at_int HR1_3.out x6_2 p153 q153
                 cases e153;replace hx153_0:=(HB.out.cell (World.block_lt_of_cell? w _ hx153_0)).trans hx153_0
                 replace p153:=eq_true p153
                 replace q153:=eq_true q153
                 have p154 : 0 ≤ (x6_2 : Int):=YA
                 have q154 : x6_2 < (l1_3.length : Int):=YA
                 obtain ⟨ad154,e154,hx154_0⟩:=Kd.at_int HR1_3.out x6_2 p154 q154
                 obtain rfl : ad153 = ad154:=(by injection e154)
                 replace hx154_0:=(HB.out.cell (World.block_lt_of_cell? w _ hx154_0)).trans hx154_0
                 replace p154:=eq_true p154
                 replace q154:=eq_true q154
                 have hcz54_4 : wr.cell? ⟨gb149,4,none⟩ = some (.slice A0_4 l0_4.length c0_4):=(Z5 BK149.out 4).trans rfl
                 go_wp2
                 repeat (go_quiet (fail);try go_wp2)
                 go_roundg k2
                 case measure => have:=HJ2.out;have:=HK2.out;omega
                 case rel => exact ⟨(wrap64 (x6_2 + 1)),(by first|rfl|(simp;done)|(simp [*];done)),H',⟨by have:=HJ2.out;have:=HK2.out;omega⟩,⟨YK BK149⟩,⟨YK BK150⟩,⟨YH⟩⟩
           · rw [if_neg c44] at H;exact absurd H (by simp)
         · rw [if_neg c43] at H;exact absurd H (by simp)
       · rw [if_neg c42] at H;have c42b0 : decide (x6_2 < x5_2) = false:=decide_eq_false c42
         clear c42;obtain rfl:=Option.some.inj H
         go_wp2
         repeat (go_quiet (fail);try go_wp2)
         go_ret
         exact ⟨by first|rfl|(simp [Z16,Z15] <;> rfl)|(simp [*,Z16,Z15] <;> rfl),by repeat (first|(with_reducible first|exact HB.out|apply Z7|apply Z4|apply Z6|refine Z8 ?_ GE149.out|refine Z8 ?_ GE150.out)|exact HB.out)⟩
   · rw [if_neg c39] at H;have c39b1 : ((l1_3.length : Int) != x5_2) = true:=bne_iff_ne.mpr c39
     obtain rfl:=Option.some.inj H
     have hnb55:=NB150_149.out
     have hnc55:=NB149_150.out
     have hcz56_3 : wc.cell? ⟨gb150,3,none⟩ = some (.slice A1_3 l1_3.length c1_3):=(Z5 BK150.out 3).trans rfl
     go_wp2
     repeat (go_quiet (fail);try go_wp2)
     go_ret
     exact ⟨by first|rfl|(simp [Z16,Z15] <;> rfl)|(simp [*,Z16,Z15] <;> rfl),by repeat (first|(with_reducible first|exact HB.out|apply Z7|apply Z4|apply Z6|refine Z8 ?_ GE149.out|refine Z8 ?_ GE150.out)|exact HB.out)⟩
end Go.Proofs.Ytbklmnieakefnaa.Q
namespace Go.Proofs.Ytbklmnieakefnaa.Q
open Go.RowKit Go.Proofs.YtbklmnieakefnaaW.PrintWords Go.Proofs.YtbklmnieakefnaaW.PrintLast Go.Proofs.YtbklmnieakefnaaW.PrintMore

set_option linter.unusedVariables false
set_option linter.unusedSimpArgs false
mutual
def crucibleref14_Func.j0 : Nat → Bool → ByteArray → Int → Int → Int → List (S45) → Option (Bool)
 | 0,_,_,_,_,_,_ => none
 | k + 1,x60,x157000,x157001,x157002,x157003,x157004 => if x60 = true then (some false) else (crucibleref14_Func.l0 k 0 0 x157000 x157001 x157002 x157003 x157004)
def crucibleref14_Func.l0 : Nat → Int → Int → ByteArray → Int → Int → Int → List (S45) → Option (Bool)
 | 0,_,_,_,_,_,_,_ => none
 | k + 1,x5,x6,x157000,x157001,x157002,x157003,x157004 => if x6 < (x157004.length : Int) then (if 0 ≤ x6 then (crucibleref14_Func.l0 k (wrap64 (x5 + (((rd_T45 x157004 x6).f0).length : Int))) (wrap64 (x6 + 1)) x157000 x157001 x157002 x157003 x157004) else (none)) else (if x5 > 65536 then (some false) else ((crucibleref14_Preds.f k x157000 x157001 x157002 x157003 x157004).bind fun t158 => (if 0 < (t158.length : Int) then (if ((rd_L1 t158 0).length : Int) > 0 then (some false) else (crucibleref14_Func.l1 k 0 x157000 x157001 x157002 x157003 x157004)) else (none))))
def crucibleref14_Func.l1 : Nat → Int → ByteArray → Int → Int → Int → List (S45) → Option (Bool)
 | 0,_,_,_,_,_,_ => none
 | k + 1,x8,x157000,x157001,x157002,x157003,x157004 => if x8 < (x157004.length : Int) then (if 0 ≤ x8 then (crucibleref14_Func.l2 k x8 0 x157000 x157001 x157002 x157003 x157004 ((rd_T45 x157004 x8).f0) ((rd_T45 x157004 x8).f1) ((rd_T45 x157004 x8).f2) ((rd_T45 x157004 x8).f3)) else (none)) else (some true)
def crucibleref14_Func.l2 : Nat → Int → Int → ByteArray → Int → Int → Int → List (S45) → List (S59) → Int → Int → List Int → Option (Bool)
 | 0,_,_,_,_,_,_,_,_,_,_,_ => none
 | k + 1,x8,x11,x157000,x157001,x157002,x157003,x157004,x164000,x164001,x164002,x164003 => if x11 < (x164000.length : Int) then (none) else ((crucibleref14_ends.f k x157000 x157001 x157002 x157003 x157004 x164000 x164001 x164002 x164003).bind fun t164 => (if t164 = true then (crucibleref14_Func.l1 k (wrap64 (x8 + 1)) x157000 x157001 x157002 x157003 x157004) else (some false)))
end
def crucibleref14_Func.f (k : Nat) (l0_0 : List (S24)) (a0_1 : Int) (l0_2 : List (S85)) (a0_3 : Int) (a1_0 : ByteArray) (a1_1 : Int) (a1_2 : Int) (a1_3 : Int) (l1_4 : List (S45)) : Option (Bool):=if (l1_4.length : Int) < 1 then (crucibleref14_Func.j0 k true a1_0 a1_1 a1_2 a1_3 l1_4) else (if (l1_4.length : Int) > 4096 then (crucibleref14_Func.j0 k true a1_0 a1_1 a1_2 a1_3 l1_4) else (if a1_1 < 0 then (crucibleref14_Func.j0 k true a1_0 a1_1 a1_2 a1_3 l1_4) else (if a1_1 > 12 then (crucibleref14_Func.j0 k true a1_0 a1_1 a1_2 a1_3 l1_4) else (if a1_2 < a1_1 then (crucibleref14_Func.j0 k true a1_0 a1_1 a1_2 a1_3 l1_4) else (if a1_2 > 65536 then (crucibleref14_Func.j0 k true a1_0 a1_1 a1_2 a1_3 l1_4) else (if a1_3 < 0 then (crucibleref14_Func.j0 k true a1_0 a1_1 a1_2 a1_3 l1_4) else (if a1_3 > 65536 then (crucibleref14_Func.j0 k true a1_0 a1_1 a1_2 a1_3 l1_4) else (crucibleref14_Func.j0 k ((Int.tmod a1_3 4) != 0) a1_0 a1_1 a1_2 a1_3 l1_4))))))))
set_option maxHeartbeats 8000000 in
set_option maxRecDepth 100000 in
theorem crucibleref14_Func.calls (k : Nat) (A0_0 : Option Addr) (c0_0 : Nat) (l0_0 : List (S24)) (a0_1 : Int) (A0_2 : Option Addr) (c0_2 : Nat) (l0_2 : List (S85)) (a0_3 : Int) (a1_0 : ByteArray) (a1_1 : Int) (a1_2 : Int) (a1_3 : Int) (A1_4 : Option Addr) (c1_4 : Nat) (l1_4 : List (S45)) (r : Bool) (w : World) (hr0_0 : Kd.C k24 w A0_0 l0_0.length l0_0) (hc0_0 : l0_0.length ≤ c0_0) (hr0_2 : Kd.C k85 w A0_2 l0_2.length l0_2) (hc0_2 : l0_2.length ≤ c0_2) (hr1_4 : Kd.C k45 w A1_4 l1_4.length l1_4) (hc1_4 : l1_4.length ≤ c1_4) (h : crucibleref14_Func.f k l0_0 a0_1 l0_2 a0_3 a1_0 a1_1 a1_2 a1_3 l1_4 = some r) :
 Calls Try.prog 25 #[.agg #[.slice A0_0 l0_0.length c0_0,.int .i64 a0_1,.slice A0_2 l0_2.length c0_2,.int .i64 a0_3],.agg #[.string a1_0,.int .i64 a1_1,.int .i64 a1_2,.int .i64 a1_3,.slice A1_4 l1_4.length c1_4]] w fun e w' => e = .returned (.bool r) ∧ Below w.heap.size w w' := by
 have hu50:=Try.underlying50
 have hu24:=Try.underlying24
 have hu45:=Try.underlying45
 clear hr0_0 hc0_0;clear hr0_2 hc0_2;have HR1_4:=Aside0.mk hr1_4
 have HC1_4:=Aside0.mk hc1_4
 clear hr1_4 hc1_4;have HB:=Aside0.mk (Below.refl w.heap.size w)
 have H : (if (l1_4.length : Int) < 1 then (crucibleref14_Func.j0 k true a1_0 a1_1 a1_2 a1_3 l1_4) else (if (l1_4.length : Int) > 4096 then (crucibleref14_Func.j0 k true a1_0 a1_1 a1_2 a1_3 l1_4) else (if a1_1 < 0 then (crucibleref14_Func.j0 k true a1_0 a1_1 a1_2 a1_3 l1_4) else (if a1_1 > 12 then (crucibleref14_Func.j0 k true a1_0 a1_1 a1_2 a1_3 l1_4) else (if a1_2 < a1_1 then (crucibleref14_Func.j0 k true a1_0 a1_1 a1_2 a1_3 l1_4) else (if a1_2 > 65536 then (crucibleref14_Func.j0 k true a1_0 a1_1 a1_2 a1_3 l1_4) else (if a1_3 < 0 then (crucibleref14_Func.j0 k true a1_0 a1_1 a1_2 a1_3 l1_4) else (if a1_3 > 65536 then (crucibleref14_Func.j0 k true a1_0 a1_1 a1_2 a1_3 l1_4) else (crucibleref14_Func.j0 k ((Int.tmod a1_3 4) != 0) a1_0 a1_1 a1_2 a1_3 l1_4))))))))) = some r:=h
 clear h;have HC3:=Aside0.mk H
 clear H;go_enter Try.func25,Try.ntmps25
 go_upto_region 1 with (first|((with_reducible refine Z52 (N:=2) rfl ?_);(try (refine Z66 (by rfl) ?_;dsimp only));refine Z51 ?hg (N:=2) ?hd (cs:=#[.slice A0_0 l0_0.length c0_0,.int .i64 a0_1,.slice A0_2 l0_2.length c0_2,.int .i64 a0_3]) (t:=50) ?hr ?_;(case hd => rfl);(case hg => rfl);(case hr => first|(go_simp;done)|(go_simp;rfl));intro gb155 hg w4 hbox hb;have n0_:=Aside0.mk (Z25 YH hb);have n1_:=Aside0.mk (hbox);have n2_:=Aside0.mk ((by rw [hg];exact (Z27 YH) : w.heap.size ≤ gb155));have n3_:=Aside0.mk ((by rw [hg];exact (Z27 YH) : w.heap.size ≤ gb155));clear HB;have HB:=n0_;have BK155:=n1_;have GW155:=n2_;have GE155:=n3_;clear n0_ n1_ n2_ n3_;clear hb hbox hg)|((with_reducible refine Z52 (N:=3) rfl ?_);(try (refine Z66 (by rfl) ?_;dsimp only));refine Z51 ?hg (N:=3) ?hd (cs:=#[.string a1_0,.int .i64 a1_1,.int .i64 a1_2,.int .i64 a1_3,.slice A1_4 l1_4.length c1_4]) (t:=24) ?hr ?_;(case hd => rfl);(case hg => rfl);(case hr => first|(go_simp;done)|(go_simp;rfl));intro gb156 hg w5 hbox hb;have n0_:=Aside0.mk (Z40 (YK BK155) hb);have n1_:=Aside0.mk (Z25 YH hb);have n2_:=Aside0.mk (hbox);have n3_:=Aside0.mk ((by rw [hg];exact (Z27 YH) : w.heap.size ≤ gb156));have n4_:=Aside0.mk ((by rw [hg];exact (Z27 YH) : w.heap.size ≤ gb156));have n5_:=Aside0.mk ((by rw [hg];exact Nat.ne_of_lt (blk_lt (YK BK155)) : gb155 ≠ gb156));have n6_:=Aside0.mk ((by rw [hg];exact Nat.ne_of_gt (blk_lt (YK BK155)) : gb156 ≠ gb155));clear BK155;clear HB;have BK155:=n0_;have HB:=n1_;have BK156:=n2_;have GW156:=n3_;have GE156:=n4_;have NB155_156:=n5_;have NB156_155:=n6_;clear n0_ n1_ n2_ n3_ n4_ n5_ n6_;clear hb hbox hg))
 (try simp only [Act.put,List.setIfInBounds_toArray,List.set_cons_zero,List.set_cons_succ]);go_cut [60] (fun v60 wc => ∃ (kq : Nat) (x60_2 : Bool),v60 = .bool x60_2 ∧ Aside0 (crucibleref14_Func.j0 kq x60_2 a1_0 a1_1 a1_2 a1_3 l1_4 = some r) ∧ Aside0 (kq ≤ k) ∧ Aside0 (wc.heap[gb155]? = some (.cells #[(.slice A0_0 l0_0.length c0_0),.int .i64 a0_1,(.slice A0_2 l0_2.length c0_2),.int .i64 a0_3] 50 (0,0))) ∧ Aside0 (wc.heap[gb156]? = some (.cells #[.string a1_0,.int .i64 a1_1,.int .i64 a1_2,.int .i64 a1_3,(.slice A1_4 l1_4.length c1_4)] 24 (0,0))) ∧ Aside0 (Below w.heap.size w wc))
 case first =>
  have H:=HC3.out
  clear HC3;by_cases c6 : (l1_4.length : Int) < 1
  · rw [if_pos c6] at H;have c6b0 : decide ((l1_4.length : Int) < 1) = true:=decide_eq_true c6
    clear c6;(first|rw [c6b0]|(simp only [i64_w,i32_w];rw [c6b0])|skip);have H' := Aside0.mk H
    clear H;have hnb7:=NB156_155.out
    have hnc7:=NB155_156.out
    have hcz8_4 : w5.cell? ⟨gb156,4,none⟩ = some (.slice A1_4 l1_4.length c1_4):=(Z5 BK156.out 4).trans rfl
    go_wp2
    go_meet
    case rel => exact ⟨_,(true),(by first|rfl|(simp;done)|(simp [*];done)),H',⟨by first|omega|exact Nat.le_refl _⟩,⟨YK BK155⟩,⟨YK BK156⟩,⟨YH⟩⟩
  · rw [if_neg c6] at H;have c6b0 : decide ((l1_4.length : Int) < 1) = false:=decide_eq_false c6
    clear c6;(first|rw [c6b0]|(simp only [i64_w,i32_w];rw [c6b0])|skip);by_cases c9 : (l1_4.length : Int) > 4096
    · rw [if_pos c9] at H;have c9b0 : decide (4096 < (l1_4.length : Int)) = true:=decide_eq_true c9
      clear c9;have H' := Aside0.mk H
      clear H;have hnb10:=NB156_155.out
      have hnc10:=NB155_156.out
      have hcz11_4 : w5.cell? ⟨gb156,4,none⟩ = some (.slice A1_4 l1_4.length c1_4):=(Z5 BK156.out 4).trans rfl
      go_wp2
      go_meet
      case rel => exact ⟨_,(true),(by first|rfl|(simp;done)|(simp [*];done)),H',⟨by first|omega|exact Nat.le_refl _⟩,⟨YK BK155⟩,⟨YK BK156⟩,⟨YH⟩⟩
    · rw [if_neg c9] at H;have c9b0 : decide (4096 < (l1_4.length : Int)) = false:=decide_eq_false c9
      clear c9;by_cases c12 : a1_1 < 0
      · rw [if_pos c12] at H;have c12b0 : decide (a1_1 < 0) = true:=decide_eq_true c12
        clear c12;have H' := Aside0.mk H
        clear H;have hnb13:=NB156_155.out
        have hnc13:=NB155_156.out
        have hcz14_1 : w5.cell? ⟨gb156,1,none⟩ = some (.int .i64 a1_1):=(Z5 BK156.out 1).trans rfl
        have hcz14_4 : w5.cell? ⟨gb156,4,none⟩ = some (.slice A1_4 l1_4.length c1_4):=(Z5 BK156.out 4).trans rfl
        go_wp2
        go_meet
        case rel => exact ⟨_,(true),(by first|rfl|(simp;done)|(simp [*];done)),H',⟨by first|omega|exact Nat.le_refl _⟩,⟨YK BK155⟩,⟨YK BK156⟩,⟨YH⟩⟩
      · rw [if_neg c12] at H;have c12b0 : decide (a1_1 < 0) = false:=decide_eq_false c12
        clear c12;by_cases c15 : a1_1 > 12
        · rw [if_pos c15] at H;have c15b0 : decide (12 < a1_1) = true:=decide_eq_true c15
          clear c15;have H' := Aside0.mk H
          clear H;have hnb16:=NB156_155.out
          have hnc16:=NB155_156.out
          have hcz17_1 : w5.cell? ⟨gb156,1,none⟩ = some (.int .i64 a1_1):=(Z5 BK156.out 1).trans rfl
          have hcz17_4 : w5.cell? ⟨gb156,4,none⟩ = some (.slice A1_4 l1_4.length c1_4):=(Z5 BK156.out 4).trans rfl
          go_wp2
          go_meet
          case rel => exact ⟨_,(true),(by first|rfl|(simp;done)|(simp [*];done)),H',⟨by first|omega|exact Nat.le_refl _⟩,⟨YK BK155⟩,⟨YK BK156⟩,⟨YH⟩⟩
        · rw [if_neg c15] at H;have c15b0 : decide (12 < a1_1) = false:=decide_eq_false c15
          clear c15;by_cases c18 : a1_2 < a1_1
          · rw [if_pos c18] at H;have c18b0 : decide (a1_2 < a1_1) = true:=decide_eq_true c18
            clear c18;have H' := Aside0.mk H
            clear H;have hnb19:=NB156_155.out
            have hnc19:=NB155_156.out
            have hcz20_1 : w5.cell? ⟨gb156,1,none⟩ = some (.int .i64 a1_1):=(Z5 BK156.out 1).trans rfl
            have hcz20_2 : w5.cell? ⟨gb156,2,none⟩ = some (.int .i64 a1_2):=(Z5 BK156.out 2).trans rfl
            have hcz20_4 : w5.cell? ⟨gb156,4,none⟩ = some (.slice A1_4 l1_4.length c1_4):=(Z5 BK156.out 4).trans rfl
            go_wp2
            go_meet
            case rel => exact ⟨_,(true),(by first|rfl|(simp;done)|(simp [*];done)),H',⟨by first|omega|exact Nat.le_refl _⟩,⟨YK BK155⟩,⟨YK BK156⟩,⟨YH⟩⟩
          · rw [if_neg c18] at H;have c18b0 : decide (a1_2 < a1_1) = false:=decide_eq_false c18
            clear c18;by_cases c21 : a1_2 > 65536
            · rw [if_pos c21] at H;have c21b0 : decide (65536 < a1_2) = true:=decide_eq_true c21
              clear c21;have H' := Aside0.mk H
              clear H;have hnb22:=NB156_155.out
              have hnc22:=NB155_156.out
              have hcz23_1 : w5.cell? ⟨gb156,1,none⟩ = some (.int .i64 a1_1):=(Z5 BK156.out 1).trans rfl
              have hcz23_2 : w5.cell? ⟨gb156,2,none⟩ = some (.int .i64 a1_2):=(Z5 BK156.out 2).trans rfl
              have hcz23_4 : w5.cell? ⟨gb156,4,none⟩ = some (.slice A1_4 l1_4.length c1_4):=(Z5 BK156.out 4).trans rfl
              go_wp2
              go_meet
              case rel => exact ⟨_,(true),(by first|rfl|(simp;done)|(simp [*];done)),H',⟨by first|omega|exact Nat.le_refl _⟩,⟨YK BK155⟩,⟨YK BK156⟩,⟨YH⟩⟩
            · rw [if_neg c21] at H;have c21b0 : decide (65536 < a1_2) = false:=decide_eq_false c21
              clear c21;by_cases c24 : a1_3 < 0
              · rw [if_pos c24] at H;have c24b0 : decide (a1_3 < 0) = true:=decide_eq_true c24
                clear c24;have H' := Aside0.mk H
                clear H;have hnb25:=NB156_155.out
                have hnc25:=NB155_156.out
                have hcz26_1 : w5.cell? ⟨gb156,1,none⟩ = some (.int .i64 a1_1):=(Z5 BK156.out 1).trans rfl
                have hcz26_2 : w5.cell? ⟨gb156,2,none⟩ = some (.int .i64 a1_2):=(Z5 BK156.out 2).trans rfl
                have hcz26_3 : w5.cell? ⟨gb156,3,none⟩ = some (.int .i64 a1_3):=(Z5 BK156.out 3).trans rfl
                have hcz26_4 : w5.cell? ⟨gb156,4,none⟩ = some (.slice A1_4 l1_4.length c1_4):=(Z5 BK156.out 4).trans rfl
                go_wp2
                go_meet
                case rel => exact ⟨_,(true),(by first|rfl|(simp;done)|(simp [*];done)),H',⟨by first|omega|exact Nat.le_refl _⟩,⟨YK BK155⟩,⟨YK BK156⟩,⟨YH⟩⟩
              · rw [if_neg c24] at H;have c24b0 : decide (a1_3 < 0) = false:=decide_eq_false c24
                clear c24;by_cases c27 : a1_3 > 65536
                · rw [if_pos c27] at H;have c27b0 : decide (65536 < a1_3) = true:=decide_eq_true c27
                  clear c27;have H' := Aside0.mk H
                  clear H;have hnb28:=NB156_155.out
                  have hnc28:=NB155_156.out
                  have hcz29_1 : w5.cell? ⟨gb156,1,none⟩ = some (.int .i64 a1_1):=(Z5 BK156.out 1).trans rfl
                  have hcz29_2 : w5.cell? ⟨gb156,2,none⟩ = some (.int .i64 a1_2):=(Z5 BK156.out 2).trans rfl
                  have hcz29_3 : w5.cell? ⟨gb156,3,none⟩ = some (.int .i64 a1_3):=(Z5 BK156.out 3).trans rfl
                  have hcz29_4 : w5.cell? ⟨gb156,4,none⟩ = some (.slice A1_4 l1_4.length c1_4):=(Z5 BK156.out 4).trans rfl
                  go_wp2
                  go_meet
                  case rel => exact ⟨_,(true),(by first|rfl|(simp;done)|(simp [*];done)),H',⟨by first|omega|exact Nat.le_refl _⟩,⟨YK BK155⟩,⟨YK BK156⟩,⟨YH⟩⟩
                · rw [if_neg c27] at H;have c27b0 : decide (65536 < a1_3) = false:=decide_eq_false c27
                  clear c27;have H' := Aside0.mk H
                  clear H;have hnb30:=NB156_155.out
                  have hnc30:=NB155_156.out
                  have hcz31_1 : w5.cell? ⟨gb156,1,none⟩ = some (.int .i64 a1_1):=(Z5 BK156.out 1).trans rfl
                  have hcz31_2 : w5.cell? ⟨gb156,2,none⟩ = some (.int .i64 a1_2):=(Z5 BK156.out 2).trans rfl
                  have hcz31_3 : w5.cell? ⟨gb156,3,none⟩ = some (.int .i64 a1_3):=(Z5 BK156.out 3).trans rfl
                  have hcz31_4 : w5.cell? ⟨gb156,4,none⟩ = some (.slice A1_4 l1_4.length c1_4):=(Z5 BK156.out 4).trans rfl
                  go_wp2
                  go_meet
                  case rel => exact ⟨_,(((Int.tmod a1_3 4) != 0)),(by first|rfl|(simp;done)|(simp [*];done)),H',⟨by first|omega|exact Nat.le_refl _⟩,⟨YK BK155⟩,⟨YK BK156⟩,⟨YH⟩⟩
 case rest =>
  clear HC3;obtain ⟨kq,x60_2,rfl,HA,HJ2,BK155,BK156,HB⟩:=hcut
  cases kq with
  | zero => exact absurd HA.out (by simp [crucibleref14_Func.j0])
  | succ kj2 =>
   have H:=HA.out
   clear HA;simp only [crucibleref14_Func.j0] at H;by_cases c32 : x60_2 = true
   · subst c32;have H1 : (some false) = some r:=by rw [if_pos rfl] at H;exact H
     clear H;have H:=H1
     clear H1;obtain rfl:=Option.some.inj H
     go_wp2
     go_ret
     exact ⟨by first|rfl|(simp [Z16,Z15] <;> rfl)|(simp [*,Z16,Z15] <;> rfl),by repeat (first|(with_reducible first|exact HB.out|apply Z7|apply Z4|apply Z6|refine Z8 ?_ GE155.out|refine Z8 ?_ GE156.out)|exact HB.out)⟩
   · replace c32:=Bool.eq_false_iff.mpr c32
     subst c32;have H1 : (crucibleref14_Func.l0 kj2 0 0 a1_0 a1_1 a1_2 a1_3 l1_4) = some r:=by rw [if_neg (show ¬ (false = true) by decide)] at H;exact H
     clear H;have H:=H1
     clear H1;have H' := Aside0.mk H
     clear H;go_wp2
     go_loopg [5,6] kj2 (fun kq v5 v6 w' => ∃ (x5_2 : Int) (x6_2 : Int),v5 = .int .i64 x5_2 ∧ v6 = .int .i64 x6_2 ∧ Aside0 (crucibleref14_Func.l0 kq x5_2 x6_2 a1_0 a1_1 a1_2 a1_3 l1_4 = some r) ∧ Aside0 (kq ≤ kj2) ∧ Aside0 (w'.heap[gb155]? = some (.cells #[(.slice A0_0 l0_0.length c0_0),.int .i64 a0_1,(.slice A0_2 l0_2.length c0_2),.int .i64 a0_3] 50 (0,0))) ∧ Aside0 (w'.heap[gb156]? = some (.cells #[.string a1_0,.int .i64 a1_1,.int .i64 a1_2,.int .i64 a1_3,(.slice A1_4 l1_4.length c1_4)] 24 (0,0))) ∧ Aside0 (Below w.heap.size w w'))
     case atStart => exact ⟨(0),(0),(by first|rfl|(simp;done)|(simp [*];done)),(by first|rfl|(simp;done)|(simp [*];done)),H',⟨Nat.le_refl _⟩,⟨YK BK155⟩,⟨YK BK156⟩,⟨YH⟩⟩
     case round =>
      clear H';try clear c32
      obtain ⟨x5_2,x6_2,rfl,rfl,HA,HK2,BK155,BK156,HB⟩:=hrel
      cases gk with
      | zero => exact absurd HA.out (by simp [crucibleref14_Func.l0])
      | succ k2 =>
       have H:=HA.out
       clear HA;simp only [crucibleref14_Func.l0] at H;by_cases c33 : x6_2 < (l1_4.length : Int)
       · rw [if_pos c33] at H;have c33b0 : decide (x6_2 < (l1_4.length : Int)) = true:=decide_eq_true c33
         clear c33;by_cases c34 : 0 ≤ x6_2
         · rw [if_pos c34] at H;have c34b0 : decide (0 ≤ x6_2) = true:=decide_eq_true c34
           clear c34;have H' := Aside0.mk H
           clear H;have hnb35:=NB156_155.out
           have hnc35:=NB155_156.out
           have hcz36_4 : wr.cell? ⟨gb156,4,none⟩ = some (.slice A1_4 l1_4.length c1_4):=(Z5 BK156.out 4).trans rfl
           have p157 : 0 ≤ (x6_2 : Int):=YA
           have q157 : x6_2 < (l1_4.length : Int):=YA
           obtain ⟨ad157,A157_0,c157_0,A157_3,c157_3,e157,hx157_0,hx157_1,hx157_2,hx157_3,hl157_0,hi157_0,hl157_3,hi157_3⟩:=at_T45 HR1_4.out x6_2 p157 q157
           cases e157;replace hx157_0:=(HB.out.cell (World.block_lt_of_cell? w _ hx157_0)).trans hx157_0
           replace hx157_1:=(HB.out.cell (World.block_lt_of_cell? w _ hx157_1)).trans hx157_1
           replace hx157_2:=(HB.out.cell (World.block_lt_of_cell? w _ hx157_2)).trans hx157_2
           replace hx157_3:=(HB.out.cell (World.block_lt_of_cell? w _ hx157_3)).trans hx157_3
           clear hi157_0 hl157_0;clear hi157_3 hl157_3;replace p157:=eq_true p157
           replace q157:=eq_true q157
           go_wp2
           go_roundg k2
           case measure => have:=HJ2.out;have:=HK2.out;omega
           case rel => exact ⟨(wrap64 (x5_2 + (((rd_T45 l1_4 x6_2).f0).length : Int))),(wrap64 (x6_2 + 1)),(by first|rfl|(simp;done)|(simp [*];done)),(by first|rfl|(simp;done)|(simp [*];done)),H',⟨by have:=HJ2.out;have:=HK2.out;omega⟩,⟨YK BK155⟩,⟨YK BK156⟩,⟨YH⟩⟩
         · rw [if_neg c34] at H;exact absurd H (by simp)
       · rw [if_neg c33] at H;have c33b0 : decide (x6_2 < (l1_4.length : Int)) = false:=decide_eq_false c33
         clear c33;by_cases c37 : x5_2 > 65536
         · rw [if_pos c37] at H;have c37b0 : decide (65536 < x5_2) = true:=decide_eq_true c37
           clear c37;obtain rfl:=Option.some.inj H
           have hnb38:=NB156_155.out
           have hnc38:=NB155_156.out
           have hcz39_4 : wr.cell? ⟨gb156,4,none⟩ = some (.slice A1_4 l1_4.length c1_4):=(Z5 BK156.out 4).trans rfl
           go_wp2
           go_ret
           exact ⟨by first|rfl|(simp [Z16,Z15] <;> rfl)|(simp [*,Z16,Z15] <;> rfl),by repeat (first|(with_reducible first|exact HB.out|apply Z7|apply Z4|apply Z6|refine Z8 ?_ GE155.out|refine Z8 ?_ GE156.out)|exact HB.out)⟩
         · rw [if_neg c37] at H;have c37b0 : decide (65536 < x5_2) = false:=decide_eq_false c37
           clear c37;replace H:=Option.bind_eq_some_iff.mp H
           obtain ⟨t158,A400,H⟩:=H
           replace H : (if 0 < (t158.length : Int) then (if ((rd_L1 t158 0).length : Int) > 0 then (some false) else (crucibleref14_Func.l1 k2 0 a1_0 a1_1 a1_2 a1_3 l1_4)) else (none)) = some r:=H
           have A40:=Aside0.mk A400
           clear A400;by_cases c41 : 0 < (t158.length : Int)
           · rw [if_pos c41] at H;have c41b0 : decide (0 < (t158.length : Int)) = true:=decide_eq_true c41
             clear c41;by_cases c42 : ((rd_L1 t158 0).length : Int) > 0
             · rw [if_pos c42] at H;have c42b1 : decide (0 < (rd_L1 t158 0).length) = true:=decide_eq_true (by omega)
               clear c42;obtain rfl:=Option.some.inj H
               have hnb43:=NB156_155.out
               have hnc43:=NB155_156.out
               have hcz44_0 : wr.cell? ⟨gb156,0,none⟩ = some (.string a1_0):=(Z5 BK156.out 0).trans rfl
               have hcz44_1 : wr.cell? ⟨gb156,1,none⟩ = some (.int .i64 a1_1):=(Z5 BK156.out 1).trans rfl
               have hcz44_2 : wr.cell? ⟨gb156,2,none⟩ = some (.int .i64 a1_2):=(Z5 BK156.out 2).trans rfl
               have hcz44_3 : wr.cell? ⟨gb156,3,none⟩ = some (.int .i64 a1_3):=(Z5 BK156.out 3).trans rfl
               have hcz44_4 : wr.cell? ⟨gb156,4,none⟩ = some (.slice A1_4 l1_4.length c1_4):=(Z5 BK156.out 4).trans rfl
               go_wp2_with (first|((with_reducible refine Z14 (f:=33) rfl ?_);refine goesL_ (some 80) rfl rfl Try.func33 (by kernel_rfl) rfl #[.agg #[.string a1_0,.int .i64 a1_1,.int .i64 a1_2,.int .i64 a1_3,.slice A1_4 l1_4.length c1_4]] rfl (by (try simp only [List.map_toArray,List.map_cons,List.map_nil]);first|done|rfl|(simp only [List.length_drop,List.length_take];rfl)) ?_;(with_reducible refine (crucibleref14_Preds.calls k2 a1_0 a1_1 a1_2 a1_3 _ _ l1_4 t158 _ ?side1 ?side2 A40.out).mono ?_);(case side1 => repeat (first|exact (Kd.C_below HR1_4.out HB.out)|(with_reducible refine Kd.C_alloc ?_ _)|(with_reducible refine Kd.C_drewN ?_ _)|(with_reducible refine Kd.C_drew ?_)));(case side2 => exact HC1_4.out);rintro e w45 ⟨v159,rfl,ho0,hb⟩;refine ⟨_,rfl,?_⟩;have n0_:=Aside0.mk (Kd.S_lower ho0 (Z27 YH));have n1_:=Aside0.mk (Z40 (YK BK155) hb);have n2_:=Aside0.mk (Z40 (YK BK156) hb);have n3_:=Aside0.mk (Z25 YH hb);clear BK155;clear BK156;clear HB;have HO160:=n0_;have BK155:=n1_;have BK156:=n2_;have HB:=n3_;clear n0_ n1_ n2_ n3_;(try clear hb);(try clear hb2);(try clear hk);(try clear hi);(try clear ho0);obtain ⟨Ao46,co46,eo46⟩:=Kd.S_slice HO160.out;subst eo46;have p161 : 0 ≤ (0 : Int):=(by omega);have q161 : 0 < (t158.length : Int):=YA;obtain ⟨ad161,A161_0,c161_0,e161,hx161_0,hl161_0,hi161_0⟩:=at_L1 (Kd.S_reads' HO160.out).2.2 0 p161 q161;cases e161;obtain ⟨ce161,hce161,hMe161,hcc161⟩:=Kd.S_get HO160.out [] 0 p161 (by first|exact q161|exact YA|(have e_:=(Kd.S_reads' HO160.out).1;omega));obtain ⟨ve161_0,rfl,ge161_0⟩:=hMe161;have hv161_0:=hcc161 0 _ rfl;rw [Nat.add_zero,show ((Kd.slice 3 (Kd.int .i64))).sz = 1 from rfl,Nat.mul_one] at hv161_0;replace hv161_0:=Option.some.inj (hv161_0.symm.trans hx161_0);rw [hv161_0] at ge161_0;have HL161_0:=Aside0.mk (show Kd.R (Kd.int .i64) 3 _ _ _ _ (rd_L1 t158 0) from ge161_0);clear hv161_0 ge161_0;clear hcc161 hce161;have qi161 : (0 < t158.length) = True:=eq_true (by omega);(try rw [show ((0 : Int)).toNat = 0 from rfl] at hx161_0);(try rw [Addr.add_zero'] at hx161_0);clear hi161_0 hl161_0;replace p161:=eq_true p161;replace q161:=eq_true q161))
               go_ret
               exact ⟨by first|rfl|(simp [Z16,Z15] <;> rfl)|(simp [*,Z16,Z15] <;> rfl),by repeat (first|(with_reducible first|exact HB.out|apply Z7|apply Z4|apply Z6|refine Z8 ?_ GE155.out|refine Z8 ?_ GE156.out)|exact HB.out)⟩
             · rw [if_neg c42] at H;have c42b1 : decide (0 < (rd_L1 t158 0).length) = false:=decide_eq_false (by omega)
               clear c42;have H' := Aside0.mk H
               clear H;have hnb47:=NB156_155.out
               have hnc47:=NB155_156.out
               have hcz48_0 : wr.cell? ⟨gb156,0,none⟩ = some (.string a1_0):=(Z5 BK156.out 0).trans rfl
               have hcz48_1 : wr.cell? ⟨gb156,1,none⟩ = some (.int .i64 a1_1):=(Z5 BK156.out 1).trans rfl
               have hcz48_2 : wr.cell? ⟨gb156,2,none⟩ = some (.int .i64 a1_2):=(Z5 BK156.out 2).trans rfl
               have hcz48_3 : wr.cell? ⟨gb156,3,none⟩ = some (.int .i64 a1_3):=(Z5 BK156.out 3).trans rfl
               have hcz48_4 : wr.cell? ⟨gb156,4,none⟩ = some (.slice A1_4 l1_4.length c1_4):=(Z5 BK156.out 4).trans rfl
               go_wp2_with (first|((with_reducible refine Z14 (f:=33) rfl ?_);refine goesL_ (some 80) rfl rfl Try.func33 (by kernel_rfl) rfl #[.agg #[.string a1_0,.int .i64 a1_1,.int .i64 a1_2,.int .i64 a1_3,.slice A1_4 l1_4.length c1_4]] rfl (by (try simp only [List.map_toArray,List.map_cons,List.map_nil]);first|done|rfl|(simp only [List.length_drop,List.length_take];rfl)) ?_;(with_reducible refine (crucibleref14_Preds.calls k2 a1_0 a1_1 a1_2 a1_3 _ _ l1_4 t158 _ ?side1 ?side2 A40.out).mono ?_);(case side1 => repeat (first|exact (Kd.C_below HR1_4.out HB.out)|(with_reducible refine Kd.C_alloc ?_ _)|(with_reducible refine Kd.C_drewN ?_ _)|(with_reducible refine Kd.C_drew ?_)));(case side2 => exact HC1_4.out);rintro e w49 ⟨v159,rfl,ho0,hb⟩;refine ⟨_,rfl,?_⟩;have n0_:=Aside0.mk (Kd.S_lower ho0 (Z27 YH));have n1_:=Aside0.mk (Z40 (YK BK155) hb);have n2_:=Aside0.mk (Z40 (YK BK156) hb);have n3_:=Aside0.mk (Z25 YH hb);clear BK155;clear BK156;clear HB;have HO160:=n0_;have BK155:=n1_;have BK156:=n2_;have HB:=n3_;clear n0_ n1_ n2_ n3_;(try clear hb);(try clear hb2);(try clear hk);(try clear hi);(try clear ho0);obtain ⟨Ao50,co50,eo50⟩:=Kd.S_slice HO160.out;subst eo50;have p161 : 0 ≤ (0 : Int):=(by omega);have q161 : 0 < (t158.length : Int):=YA;obtain ⟨ad161,A161_0,c161_0,e161,hx161_0,hl161_0,hi161_0⟩:=at_L1 (Kd.S_reads' HO160.out).2.2 0 p161 q161;cases e161;obtain ⟨ce161,hce161,hMe161,hcc161⟩:=Kd.S_get HO160.out [] 0 p161 (by first|exact q161|exact YA|(have e_:=(Kd.S_reads' HO160.out).1;omega));obtain ⟨ve161_0,rfl,ge161_0⟩:=hMe161;have hv161_0:=hcc161 0 _ rfl;rw [Nat.add_zero,show ((Kd.slice 3 (Kd.int .i64))).sz = 1 from rfl,Nat.mul_one] at hv161_0;replace hv161_0:=Option.some.inj (hv161_0.symm.trans hx161_0);rw [hv161_0] at ge161_0;have HL161_0:=Aside0.mk (show Kd.R (Kd.int .i64) 3 _ _ _ _ (rd_L1 t158 0) from ge161_0);clear hv161_0 ge161_0;clear hcc161 hce161;have qi161 : (0 < t158.length) = True:=eq_true (by omega);(try rw [show ((0 : Int)).toNat = 0 from rfl] at hx161_0);(try rw [Addr.add_zero'] at hx161_0);clear hi161_0 hl161_0;replace p161:=eq_true p161;replace q161:=eq_true q161))
               go_loopg [8] k2 (fun kq v8 w' => ∃ (x8_3 : Int),v8 = .int .i64 x8_3 ∧ Aside0 (crucibleref14_Func.l1 kq x8_3 a1_0 a1_1 a1_2 a1_3 l1_4 = some r) ∧ Aside0 (kq ≤ k2) ∧ Aside0 (w'.heap[gb155]? = some (.cells #[(.slice A0_0 l0_0.length c0_0),.int .i64 a0_1,(.slice A0_2 l0_2.length c0_2),.int .i64 a0_3] 50 (0,0))) ∧ Aside0 (w'.heap[gb156]? = some (.cells #[.string a1_0,.int .i64 a1_1,.int .i64 a1_2,.int .i64 a1_3,(.slice A1_4 l1_4.length c1_4)] 24 (0,0))) ∧ Aside0 (Below w.heap.size w w'))
               case atStart => exact ⟨(0),(by first|rfl|(simp;done)|(simp [*];done)),H',⟨Nat.le_refl _⟩,⟨YK BK155⟩,⟨YK BK156⟩,⟨YH⟩⟩
               case round =>
                clear H';try clear c32
                try clear c33
                try clear c33b0
                try clear c37
                try clear c37b0
                try clear c41
                try clear c41b0
                try clear c42
                try clear c42b1
                try clear hcz48_0
                try clear hcz48_1
                try clear hcz48_2
                try clear hcz48_3
                try clear hcz48_4
                try clear hx161_0
                try clear p161
                try clear q161
                obtain ⟨x8_3,rfl,HA,HK3,BK155,BK156,HB⟩:=hrel
                cases gk with
                | zero => exact absurd HA.out (by simp [crucibleref14_Func.l1])
                | succ k3 =>
                 have H:=HA.out
                 clear HA;simp only [crucibleref14_Func.l1] at H;by_cases c51 : x8_3 < (l1_4.length : Int)
                 · rw [if_pos c51] at H;have c51b0 : decide (x8_3 < (l1_4.length : Int)) = true:=decide_eq_true c51
                   clear c51;by_cases c52 : 0 ≤ x8_3
                   · rw [if_pos c52] at H;have c52b0 : decide (0 ≤ x8_3) = true:=decide_eq_true c52
                     clear c52;have H' := Aside0.mk H
                     clear H;have hnb53:=NB156_155.out
                     have hnc53:=NB155_156.out
                     have hcz54_4 : wr.cell? ⟨gb156,4,none⟩ = some (.slice A1_4 l1_4.length c1_4):=(Z5 BK156.out 4).trans rfl
                     have p162 : 0 ≤ (x8_3 : Int):=YA
                     have q162 : x8_3 < (l1_4.length : Int):=YA
                     obtain ⟨ad162,A162_0,c162_0,A162_3,c162_3,e162,hx162_0,hx162_1,hx162_2,hx162_3,hl162_0,hi162_0,hl162_3,hi162_3⟩:=at_T45 HR1_4.out x8_3 p162 q162
                     cases e162;replace hx162_0:=(HB.out.cell (World.block_lt_of_cell? w _ hx162_0)).trans hx162_0
                     replace hx162_1:=(HB.out.cell (World.block_lt_of_cell? w _ hx162_1)).trans hx162_1
                     replace hx162_2:=(HB.out.cell (World.block_lt_of_cell? w _ hx162_2)).trans hx162_2
                     replace hx162_3:=(HB.out.cell (World.block_lt_of_cell? w _ hx162_3)).trans hx162_3
                     have HR162_0:=Aside0.mk hi162_0
                     have HC162_0:=Aside0.mk hl162_0
                     clear hi162_0 hl162_0;have HR162_3:=Aside0.mk hi162_3
                     have HC162_3:=Aside0.mk hl162_3
                     clear hi162_3 hl162_3;replace p162:=eq_true p162
                     replace q162:=eq_true q162
                     go_wp2_with (first|((with_reducible refine Z52 (N:=9) rfl ?_);(try (refine Z66 (by rfl) ?_;dsimp only));refine Z51 ?hg (N:=9) ?hd (cs:=#[.slice none 0 0,.int .i64 0,.int .i64 0,.slice none 0 0]) (t:=45) ?hr ?_;(case hd => rfl);(case hg => rfl);(case hr => first|(go_simp;done)|(go_simp;rfl));intro gb163 hg w55 hbox hb;have n0_:=Aside0.mk (Z40 (YK BK155) hb);have n1_:=Aside0.mk (Z40 (YK BK156) hb);have n2_:=Aside0.mk (Z25 YH hb);have n3_:=Aside0.mk (hbox);have n4_:=Aside0.mk ((by rw [hg];exact (Z27 YH) : w.heap.size ≤ gb163));have n5_:=Aside0.mk ((by rw [hg];exact (Z27 YH) : w.heap.size ≤ gb163));have n6_:=Aside0.mk ((by rw [hg];exact Nat.ne_of_lt (blk_lt (YK BK155)) : gb155 ≠ gb163));have n7_:=Aside0.mk ((by rw [hg];exact Nat.ne_of_gt (blk_lt (YK BK155)) : gb163 ≠ gb155));have n8_:=Aside0.mk ((by rw [hg];exact Nat.ne_of_lt (blk_lt (YK BK156)) : gb156 ≠ gb163));have n9_:=Aside0.mk ((by rw [hg];exact Nat.ne_of_gt (blk_lt (YK BK156)) : gb163 ≠ gb156));clear BK155;clear BK156;clear HB;have BK155:=n0_;have BK156:=n1_;have HB:=n2_;have BK163:=n3_;have GW163:=n4_;have GE163:=n5_;have NB155_163:=n6_;have NB163_155:=n7_;have NB156_163:=n8_;have NB163_156:=n9_;clear n0_ n1_ n2_ n3_ n4_ n5_ n6_ n7_ n8_ n9_;clear hb hbox hg;have hnb56:=NB163_155.out;have hnc56:=NB155_163.out;have hnb57:=NB163_156.out;have hnc57:=NB156_163.out;have hcz58_0 : w55.cell? ⟨gb163,0,none⟩ = some (.slice none 0 0):=(Z5 BK163.out 0).trans rfl;have hcz58_1 : w55.cell? ⟨gb163,1,none⟩ = some (.int .i64 0):=(Z5 BK163.out 1).trans rfl;have hcz58_2 : w55.cell? ⟨gb163,2,none⟩ = some (.int .i64 0):=(Z5 BK163.out 2).trans rfl;have hcz58_3 : w55.cell? ⟨gb163,3,none⟩ = some (.slice none 0 0):=(Z5 BK163.out 3).trans rfl;have hfz58_0:=Z2 BK163.out 0;have hfz58_1:=Z2 BK163.out 1;have hfz58_2:=Z2 BK163.out 2;have hfz58_3:=Z2 BK163.out 3))
                     go_loopg [11] k3 (fun kq v11 w' => ∃ (x11_4 : Int),v11 = .int .i64 x11_4 ∧ Aside0 (crucibleref14_Func.l2 kq x8_3 x11_4 a1_0 a1_1 a1_2 a1_3 l1_4 ((rd_T45 l1_4 x8_3).f0) ((rd_T45 l1_4 x8_3).f1) ((rd_T45 l1_4 x8_3).f2) ((rd_T45 l1_4 x8_3).f3) = some r) ∧ Aside0 (kq ≤ k3) ∧ Aside0 (w'.heap[gb155]? = some (.cells #[(.slice A0_0 l0_0.length c0_0),.int .i64 a0_1,(.slice A0_2 l0_2.length c0_2),.int .i64 a0_3] 50 (0,0))) ∧ Aside0 (w'.heap[gb156]? = some (.cells #[.string a1_0,.int .i64 a1_1,.int .i64 a1_2,.int .i64 a1_3,(.slice (some ad162) l1_4.length c1_4)] 24 (0,0))) ∧ Aside0 (w'.heap[gb163]? = some (.cells #[(.slice A162_0 ((rd_T45 l1_4 x8_3).f0).length c162_0),.int .i64 ((rd_T45 l1_4 x8_3).f1),.int .i64 ((rd_T45 l1_4 x8_3).f2),(.slice A162_3 ((rd_T45 l1_4 x8_3).f3).length c162_3)] 45 (0,0))) ∧ Aside0 (Below w.heap.size w w'))
                     case atStart => exact ⟨(0),(by first|rfl|(simp;done)|(simp [*];done)),H',⟨Nat.le_refl _⟩,⟨by (with_reducible repeat (first|refine Z0 ?_ _|refine Z3 ?_|refine Z1 ?_ _));refine Z22 ?_ NB155_163.out _;(with_reducible repeat (first|refine Z0 ?_ _|refine Z3 ?_|refine Z1 ?_ _));refine Z22 ?_ NB155_163.out _;(with_reducible repeat (first|refine Z0 ?_ _|refine Z3 ?_|refine Z1 ?_ _));refine Z22 ?_ NB155_163.out _;(with_reducible repeat (first|refine Z0 ?_ _|refine Z3 ?_|refine Z1 ?_ _));refine Z22 ?_ NB155_163.out _;(with_reducible repeat (first|refine Z0 ?_ _|refine Z3 ?_|refine Z1 ?_ _));exact BK155.out⟩,⟨by (with_reducible repeat (first|refine Z0 ?_ _|refine Z3 ?_|refine Z1 ?_ _));refine Z22 ?_ NB156_163.out _;(with_reducible repeat (first|refine Z0 ?_ _|refine Z3 ?_|refine Z1 ?_ _));refine Z22 ?_ NB156_163.out _;(with_reducible repeat (first|refine Z0 ?_ _|refine Z3 ?_|refine Z1 ?_ _));refine Z22 ?_ NB156_163.out _;(with_reducible repeat (first|refine Z0 ?_ _|refine Z3 ?_|refine Z1 ?_ _));refine Z22 ?_ NB156_163.out _;(with_reducible repeat (first|refine Z0 ?_ _|refine Z3 ?_|refine Z1 ?_ _));exact BK156.out⟩,⟨by (with_reducible repeat (first|refine Z0 ?_ _|refine Z3 ?_|refine Z1 ?_ _));refine Z9 (cs:=#[.slice A162_0 ((rd_T45 l1_4 x8_3).f0).length c162_0,.int .i64 ((rd_T45 l1_4 x8_3).f1),.int .i64 ((rd_T45 l1_4 x8_3).f2),.slice none 0 0]) ?_ 3 _ rfl;(with_reducible repeat (first|refine Z0 ?_ _|refine Z3 ?_|refine Z1 ?_ _));refine Z9 (cs:=#[.slice A162_0 ((rd_T45 l1_4 x8_3).f0).length c162_0,.int .i64 ((rd_T45 l1_4 x8_3).f1),.int .i64 0,.slice none 0 0]) ?_ 2 _ rfl;(with_reducible repeat (first|refine Z0 ?_ _|refine Z3 ?_|refine Z1 ?_ _));refine Z9 (cs:=#[.slice A162_0 ((rd_T45 l1_4 x8_3).f0).length c162_0,.int .i64 0,.int .i64 0,.slice none 0 0]) ?_ 1 _ rfl;(with_reducible repeat (first|refine Z0 ?_ _|refine Z3 ?_|refine Z1 ?_ _));refine Z9 (cs:=#[.slice none 0 0,.int .i64 0,.int .i64 0,.slice none 0 0]) ?_ 0 _ rfl;(with_reducible repeat (first|refine Z0 ?_ _|refine Z3 ?_|refine Z1 ?_ _));exact BK163.out⟩,⟨YH⟩⟩
                     case round =>
                      clear H';try clear c32
                      try clear c33
                      try clear c33b0
                      try clear c37
                      try clear c37b0
                      try clear c41
                      try clear c41b0
                      try clear c42
                      try clear c42b1
                      try clear c51
                      try clear c51b0
                      try clear c52
                      try clear c52b0
                      try clear hcz48_0
                      try clear hcz48_1
                      try clear hcz48_2
                      try clear hcz48_3
                      try clear hcz48_4
                      try clear hcz54_4
                      try clear hcz58_0
                      try clear hcz58_1
                      try clear hcz58_2
                      try clear hcz58_3
                      try clear hfz58_0
                      try clear hfz58_1
                      try clear hfz58_2
                      try clear hfz58_3
                      try clear hx161_0
                      try clear hx162_0
                      try clear hx162_1
                      try clear hx162_2
                      try clear hx162_3
                      try clear p161
                      try clear p162
                      try clear q161
                      try clear q162
                      obtain ⟨x11_4,rfl,HA,HK4,BK155,BK156,BK163,HB⟩:=hrel
                      cases gk with
                      | zero => exact absurd HA.out (by simp [crucibleref14_Func.l2])
                      | succ k4 =>
                       have H:=HA.out
                       clear HA;simp only [crucibleref14_Func.l2] at H;by_cases c59 : x11_4 < (((rd_T45 l1_4 x8_3).f0).length : Int)
                       · rw [if_pos c59] at H;exact absurd H (by simp)
                       · rw [if_neg c59] at H;have c59b0 : decide (x11_4 < (((rd_T45 l1_4 x8_3).f0).length : Int)) = false:=decide_eq_false c59
                         clear c59;replace H:=Option.bind_eq_some_iff.mp H
                         obtain ⟨t164,A630,H⟩:=H
                         replace H : (if t164 = true then (crucibleref14_Func.l1 k4 (wrap64 (x8_3 + 1)) a1_0 a1_1 a1_2 a1_3 l1_4) else (some false)) = some r:=H
                         have A63:=Aside0.mk A630
                         clear A630;by_cases c64 : t164 = true
                         · subst c64;have H1 : (crucibleref14_Func.l1 k4 (wrap64 (x8_3 + 1)) a1_0 a1_1 a1_2 a1_3 l1_4) = some r:=by rw [if_pos rfl] at H;exact H
                           clear H;have H:=H1
                           clear H1;have H' := Aside0.mk H
                           clear H;have hnb65:=NB163_155.out
                           have hnc65:=NB155_163.out
                           have hnb66:=NB163_156.out
                           have hnc66:=NB156_163.out
                           have hcz67_0 : wr.cell? ⟨gb163,0,none⟩ = some (.slice A162_0 ((rd_T45 l1_4 x8_3).f0).length c162_0):=(Z5 BK163.out 0).trans rfl
                           have hcz67_1 : wr.cell? ⟨gb163,1,none⟩ = some (.int .i64 ((rd_T45 l1_4 x8_3).f1)):=(Z5 BK163.out 1).trans rfl
                           have hcz67_2 : wr.cell? ⟨gb163,2,none⟩ = some (.int .i64 ((rd_T45 l1_4 x8_3).f2)):=(Z5 BK163.out 2).trans rfl
                           have hcz67_3 : wr.cell? ⟨gb163,3,none⟩ = some (.slice A162_3 ((rd_T45 l1_4 x8_3).f3).length c162_3):=(Z5 BK163.out 3).trans rfl
                           have hnb68:=NB156_155.out
                           have hnc68:=NB155_156.out
                           have hcz69_0 : wr.cell? ⟨gb156,0,none⟩ = some (.string a1_0):=(Z5 BK156.out 0).trans rfl
                           have hcz69_1 : wr.cell? ⟨gb156,1,none⟩ = some (.int .i64 a1_1):=(Z5 BK156.out 1).trans rfl
                           have hcz69_2 : wr.cell? ⟨gb156,2,none⟩ = some (.int .i64 a1_2):=(Z5 BK156.out 2).trans rfl
                           have hcz69_3 : wr.cell? ⟨gb156,3,none⟩ = some (.int .i64 a1_3):=(Z5 BK156.out 3).trans rfl
                           have hcz69_4 : wr.cell? ⟨gb156,4,none⟩ = some (.slice (some ad162) l1_4.length c1_4):=(Z5 BK156.out 4).trans rfl
                           go_wp2_with (first|((with_reducible refine Z14 (f:=35) rfl ?_);refine goesL_ (some 149) rfl rfl Try.func35 (by kernel_rfl) rfl #[.agg #[.string a1_0,.int .i64 a1_1,.int .i64 a1_2,.int .i64 a1_3,.slice (some ad162) l1_4.length c1_4],.agg #[.slice A162_0 ((rd_T45 l1_4 x8_3).f0).length c162_0,.int .i64 ((rd_T45 l1_4 x8_3).f1),.int .i64 ((rd_T45 l1_4 x8_3).f2),.slice A162_3 ((rd_T45 l1_4 x8_3).f3).length c162_3]] rfl (by (try simp only [List.map_toArray,List.map_cons,List.map_nil]);first|done|rfl|(simp only [List.length_drop,List.length_take];rfl)) ?_;(with_reducible refine (crucibleref14_ends.calls k4 a1_0 a1_1 a1_2 a1_3 _ _ l1_4 _ _ ((rd_T45 l1_4 x8_3).f0) ((rd_T45 l1_4 x8_3).f1) ((rd_T45 l1_4 x8_3).f2) _ _ ((rd_T45 l1_4 x8_3).f3) true _ ?side1 ?side2 ?side3 ?side4 ?side5 ?side6 A63.out).mono ?_);(case side1 => repeat (first|exact (Kd.C_below HR1_4.out HB.out)|(with_reducible refine Kd.C_alloc ?_ _)|(with_reducible refine Kd.C_drewN ?_ _)|(with_reducible refine Kd.C_drew ?_)));(case side2 => exact HC1_4.out);(case side3 => repeat (first|exact (Kd.C_below HR162_0.out HB.out)|(with_reducible refine Kd.C_alloc ?_ _)|(with_reducible refine Kd.C_drewN ?_ _)|(with_reducible refine Kd.C_drew ?_)));(case side4 => exact HC162_0.out);(case side5 => repeat (first|exact (Kd.C_below HR162_3.out HB.out)|(with_reducible refine Kd.C_alloc ?_ _)|(with_reducible refine Kd.C_drewN ?_ _)|(with_reducible refine Kd.C_drew ?_)));(case side6 => exact HC162_3.out);rintro e w70 ⟨rfl,hb⟩;refine ⟨_,rfl,?_⟩;have n0_:=Aside0.mk (Z40 (YK BK155) hb);have n1_:=Aside0.mk (Z40 (YK BK156) hb);have n2_:=Aside0.mk (Z40 (YK BK163) hb);have n3_:=Aside0.mk (Z25 YH hb);clear BK155;clear BK156;clear BK163;clear HB;have BK155:=n0_;have BK156:=n1_;have BK163:=n2_;have HB:=n3_;clear n0_ n1_ n2_ n3_;(try clear hb);(try clear hb2);(try clear hk);(try clear hi)))
                           go_roundg k4
                           case measure => have:=HJ2.out;have:=HK2.out;have:=HK3.out;have:=HK4.out;omega
                           case rel => exact ⟨(wrap64 (x8_3 + 1)),(by first|rfl|(simp;done)|(simp [*];done)),H',⟨by have:=HJ2.out;have:=HK2.out;have:=HK3.out;have:=HK4.out;omega⟩,⟨YK BK155⟩,⟨YK BK156⟩,⟨YH⟩⟩
                         · replace c64:=Bool.eq_false_iff.mpr c64
                           subst c64;have H1 : (some false) = some r:=by rw [if_neg (show ¬ (false = true) by decide)] at H;exact H
                           clear H;have H:=H1
                           clear H1;obtain rfl:=Option.some.inj H
                           have hnb71:=NB163_155.out
                           have hnc71:=NB155_163.out
                           have hnb72:=NB163_156.out
                           have hnc72:=NB156_163.out
                           have hcz73_0 : wr.cell? ⟨gb163,0,none⟩ = some (.slice A162_0 ((rd_T45 l1_4 x8_3).f0).length c162_0):=(Z5 BK163.out 0).trans rfl
                           have hcz73_1 : wr.cell? ⟨gb163,1,none⟩ = some (.int .i64 ((rd_T45 l1_4 x8_3).f1)):=(Z5 BK163.out 1).trans rfl
                           have hcz73_2 : wr.cell? ⟨gb163,2,none⟩ = some (.int .i64 ((rd_T45 l1_4 x8_3).f2)):=(Z5 BK163.out 2).trans rfl
                           have hcz73_3 : wr.cell? ⟨gb163,3,none⟩ = some (.slice A162_3 ((rd_T45 l1_4 x8_3).f3).length c162_3):=(Z5 BK163.out 3).trans rfl
                           have hnb74:=NB156_155.out
                           have hnc74:=NB155_156.out
                           have hcz75_0 : wr.cell? ⟨gb156,0,none⟩ = some (.string a1_0):=(Z5 BK156.out 0).trans rfl
                           have hcz75_1 : wr.cell? ⟨gb156,1,none⟩ = some (.int .i64 a1_1):=(Z5 BK156.out 1).trans rfl
                           have hcz75_2 : wr.cell? ⟨gb156,2,none⟩ = some (.int .i64 a1_2):=(Z5 BK156.out 2).trans rfl
                           have hcz75_3 : wr.cell? ⟨gb156,3,none⟩ = some (.int .i64 a1_3):=(Z5 BK156.out 3).trans rfl
                           have hcz75_4 : wr.cell? ⟨gb156,4,none⟩ = some (.slice (some ad162) l1_4.length c1_4):=(Z5 BK156.out 4).trans rfl
                           go_wp2_with (first|((with_reducible refine Z14 (f:=35) rfl ?_);refine goesL_ (some 149) rfl rfl Try.func35 (by kernel_rfl) rfl #[.agg #[.string a1_0,.int .i64 a1_1,.int .i64 a1_2,.int .i64 a1_3,.slice (some ad162) l1_4.length c1_4],.agg #[.slice A162_0 ((rd_T45 l1_4 x8_3).f0).length c162_0,.int .i64 ((rd_T45 l1_4 x8_3).f1),.int .i64 ((rd_T45 l1_4 x8_3).f2),.slice A162_3 ((rd_T45 l1_4 x8_3).f3).length c162_3]] rfl (by (try simp only [List.map_toArray,List.map_cons,List.map_nil]);first|done|rfl|(simp only [List.length_drop,List.length_take];rfl)) ?_;(with_reducible refine (crucibleref14_ends.calls k4 a1_0 a1_1 a1_2 a1_3 _ _ l1_4 _ _ ((rd_T45 l1_4 x8_3).f0) ((rd_T45 l1_4 x8_3).f1) ((rd_T45 l1_4 x8_3).f2) _ _ ((rd_T45 l1_4 x8_3).f3) false _ ?side1 ?side2 ?side3 ?side4 ?side5 ?side6 A63.out).mono ?_);(case side1 => repeat (first|exact (Kd.C_below HR1_4.out HB.out)|(with_reducible refine Kd.C_alloc ?_ _)|(with_reducible refine Kd.C_drewN ?_ _)|(with_reducible refine Kd.C_drew ?_)));(case side2 => exact HC1_4.out);(case side3 => repeat (first|exact (Kd.C_below HR162_0.out HB.out)|(with_reducible refine Kd.C_alloc ?_ _)|(with_reducible refine Kd.C_drewN ?_ _)|(with_reducible refine Kd.C_drew ?_)));(case side4 => exact HC162_0.out);(case side5 => repeat (first|exact (Kd.C_below HR162_3.out HB.out)|(with_reducible refine Kd.C_alloc ?_ _)|(with_reducible refine Kd.C_drewN ?_ _)|(with_reducible refine Kd.C_drew ?_)));(case side6 => exact HC162_3.out);rintro e w76 ⟨rfl,hb⟩;refine ⟨_,rfl,?_⟩;have n0_:=Aside0.mk (Z40 (YK BK155) hb);have n1_:=Aside0.mk (Z40 (YK BK156) hb);have n2_:=Aside0.mk (Z40 (YK BK163) hb);have n3_:=Aside0.mk (Z25 YH hb);clear BK155;clear BK156;clear BK163;clear HB;have BK155:=n0_;have BK156:=n1_;have BK163:=n2_;have HB:=n3_;clear n0_ n1_ n2_ n3_;(try clear hb);(try clear hb2);(try clear hk);(try clear hi)))
                           go_ret
                           exact ⟨by first|rfl|(simp [Z16,Z15] <;> rfl)|(simp [*,Z16,Z15] <;> rfl),by repeat (first|(with_reducible first|exact HB.out|apply Z7|apply Z4|apply Z6|refine Z8 ?_ GE155.out|refine Z8 ?_ GE156.out|refine Z8 ?_ GE163.out)|exact HB.out)⟩
                   · rw [if_neg c52] at H;exact absurd H (by simp)
                 · rw [if_neg c51] at H;have c51b0 : decide (x8_3 < (l1_4.length : Int)) = false:=decide_eq_false c51
                   clear c51;obtain rfl:=Option.some.inj H
                   have hnb77:=NB156_155.out
                   have hnc77:=NB155_156.out
                   have hcz78_4 : wr.cell? ⟨gb156,4,none⟩ = some (.slice A1_4 l1_4.length c1_4):=(Z5 BK156.out 4).trans rfl
                   go_wp2
                   go_ret
                   exact ⟨by first|rfl|(simp [Z16,Z15] <;> rfl)|(simp [*,Z16,Z15] <;> rfl),by repeat (first|(with_reducible first|exact HB.out|apply Z7|apply Z4|apply Z6|refine Z8 ?_ GE155.out|refine Z8 ?_ GE156.out)|exact HB.out)⟩
           · rw [if_neg c41] at H;exact absurd H (by simp)
end Go.Proofs.Ytbklmnieakefnaa.Q
namespace Go.Proofs.Ytbklmnieakefnaa.Q
open Go.RowKit Go.Proofs.YtbklmnieakefnaaW.PrintWords Go.Proofs.YtbklmnieakefnaaW.PrintLast Go.Proofs.YtbklmnieakefnaaW.PrintMore

set_option linter.unusedVariables false
set_option linter.unusedSimpArgs false
def cruciblelaw17_May.f (k : Nat) (a0_0 : ByteArray) (a0_1 : Int) (a0_2 : Int) (a0_3 : Int) (l0_4 : List (S45)) : Option (Bool):=if (l0_4.length : Int) ≤ 48 then (if 256 ≤ 4398046511104 then ((crucibleref14_Func.f k (List.replicate 256 z24) 65536 ([] : List (S85)) 0 a0_0 a0_1 a0_2 a0_3 l0_4).bind fun t169 => (some t169)) else (none)) else (some false)
def cruciblelaw17_May.T1 : Bool × List (List Nat × List Nat):=(true,[([],[]),([0],[0]),([1],[1]),([2],[2]),([3],[3]),([4],[4]),([5,4],[4,5]),([4],[4]),([6,7,4,4],[4,6,7]),([4,8],[4,8]),([9,8,0,1,2,3,4,5,6,7,8,9],[9])])
def cruciblelaw17_May.B1 : List Nat:=[0,1,3,7,15,31,63,31,255,511,1023]
theorem cruciblelaw17_May.tab1 : rtab .any (opsOf Try.f11 1) = cruciblelaw17_May.T1:=by kernel_rfl
theorem cruciblelaw17_May.bits1 : waitsOk cruciblelaw17_May.T1.2 cruciblelaw17_May.B1 = true:=by kernel_rfl
set_option maxHeartbeats 8000000 in
set_option maxRecDepth 100000 in
theorem cruciblelaw17_May.calls (k : Nat) (a0_0 : ByteArray) (a0_1 : Int) (a0_2 : Int) (a0_3 : Int) (A0_4 : Option Addr) (c0_4 : Nat) (l0_4 : List (S45)) (r : Bool) (w : World) (hr0_4 : Kd.C k45 w A0_4 l0_4.length l0_4) (hc0_4 : l0_4.length ≤ c0_4) (h : cruciblelaw17_May.f k a0_0 a0_1 a0_2 a0_3 l0_4 = some r) :
 Calls Try.prog 11 #[.agg #[.string a0_0,.int .i64 a0_1,.int .i64 a0_2,.int .i64 a0_3,.slice A0_4 l0_4.length c0_4]] w fun e w' => e = .returned (.bool r) ∧ Below w.heap.size w w' := by
 have hu24:=Try.underlying24
 have hu50:=Try.underlying50
 have HR0_4:=Aside0.mk hr0_4
 have HC0_4:=Aside0.mk hc0_4
 clear hr0_4 hc0_4;have HB:=Aside0.mk (Below.refl w.heap.size w)
 have H : (if (l0_4.length : Int) ≤ 48 then (if 256 ≤ 4398046511104 then ((crucibleref14_Func.f k (List.replicate 256 z24) 65536 ([] : List (S85)) 0 a0_0 a0_1 a0_2 a0_3 l0_4).bind fun t169 => (some t169)) else (none)) else (some false)) = some r:=h
 clear h;by_cases c2 : (l0_4.length : Int) ≤ 48
 · rw [if_pos c2] at H;have c2b0 : decide ((l0_4.length : Int) ≤ 48) = true:=decide_eq_true c2
   clear c2;by_cases c3 : 256 ≤ 4398046511104
   · rw [if_pos c3] at H;clear c3;obtain ⟨y166,hy166⟩ : ∃ y_ : List (S24),y_ = (List.replicate 256 z24):=⟨_,rfl⟩
     replace H : ((crucibleref14_Func.f k y166 65536 ([] : List (S85)) 0 a0_0 a0_1 a0_2 a0_3 l0_4).bind fun t169 => (some t169)) = some r:=by first|(rw [hy166];with_reducible exact H)|(have H2_:=(Option.bind_some _ _).symm.trans H;rw [hy166];with_reducible exact H2_)|(have H2_:=(Option.bind_some _ _).symm.trans H;with_reducible exact H2_)|with_reducible exact H|(rw [hy166];exact H)|exact H
     have Ny166:=Aside0.mk hy166
     clear hy166;replace H:=Option.bind_eq_some_iff.mp H
     obtain ⟨t169,A40,H⟩:=H
     replace H : (some t169) = some r:=H
     have A4:=Aside0.mk A40
     clear A40;obtain rfl:=Option.some.inj H
     go_enter Try.func11,Try.ntmps11
     try go_wp2_with (first|((with_reducible refine Z52 (N:=1) rfl ?_);(try (refine Z66 (by rfl) ?_;dsimp only));refine Z51 ?hg (N:=1) ?hd (cs:=#[.string a0_0,.int .i64 a0_1,.int .i64 a0_2,.int .i64 a0_3,.slice A0_4 l0_4.length c0_4]) (t:=24) ?hr ?_;(case hd => rfl);(case hg => rfl);(case hr => first|(go_simp;done)|(go_simp;rfl));intro gb165 hg w5 hbox hb;have n0_:=Aside0.mk (Z25 YH hb);have n1_:=Aside0.mk (hbox);have n2_:=Aside0.mk ((by rw [hg];exact (Z27 YH) : w.heap.size ≤ gb165));have n3_:=Aside0.mk ((by rw [hg];exact (Z27 YH) : w.heap.size ≤ gb165));clear HB;have HB:=n0_;have BK165:=n1_;have GW165:=n2_;have GE165:=n3_;clear n0_ n1_ n2_ n3_;clear hb hbox hg))
     have n0_:=Aside0.mk (Z3 BK165.out)
     have n1_:=Aside0.mk (Z6 HB.out)
     clear BK165;clear HB;have BK165:=n0_
     have HB:=n1_
     clear n0_ n1_;refine start_ (n:=11) (S:=fun w' => w'.cell? ⟨gb165,0,none⟩ = some (.string a0_0) ∧ w'.cell? ⟨gb165,1,none⟩ = some (.int .i64 a0_1) ∧ w'.cell? ⟨gb165,2,none⟩ = some (.int .i64 a0_2) ∧ w'.cell? ⟨gb165,3,none⟩ = some (.int .i64 a0_3) ∧ w'.cell? ⟨gb165,4,none⟩ = some (.slice A0_4 l0_4.length c0_4)) (ds:=[]) #[false,false,false,false,false,false,false,false,false,false,false] (by kernel_rfl) rfl rfl ⟨(Z5 BK165.out 0).trans rfl,(Z5 BK165.out 1).trans rfl,(Z5 BK165.out 2).trans rfl,(Z5 BK165.out 3).trans rfl,(Z5 BK165.out 4).trans rfl⟩ (fun hHeld => ?_);refine Z74 cruciblelaw17_May.tab1 cruciblelaw17_May.bits1 (fun HT_ HW_ => ?_);generalize w5.drew = w6 at BK165 HB hHeld ⊢;refine pure_ (i:=0) (N:=some 3) (v:=?_) (a' := ?_) #[true,false,false,false,false,false,false,false,false,false,false] rfl rfl (any_of HT_.out (by kernel_rfl)) (fun _ _ _ h => h) (Or.inl ⟨by rfl,?_⟩) ?_ ?_;rotate_left
     · intro w';go_simp
       with_reducible rfl
     rotate_left
     · simp only [Act.put,List.setIfInBounds_toArray,List.set_cons_zero,List.set_cons_succ,i64_w,i32_w];rfl
     refine take_ (i:=1) (N:=some 4) (v:=?_) (a' := ?_) #[true,true,false,false,false,false,false,false,false,false,false] rfl rfl (Z67 HT_.out HW_.out (by kernel_rfl)) (fun _ _ _ h => h) (Or.inl ⟨by rfl,?_⟩) hHeld ?_ ?_;rotate_left
     · rintro w' ⟨s0,s1,s2,s3,s4⟩;go_simp
       with_reducible rfl
     rotate_left
     · simp only [Act.put,List.setIfInBounds_toArray,List.set_cons_zero,List.set_cons_succ,i64_w,i32_w];rfl
     refine pure_ (i:=2) (N:=some 5) (v:=?_) (a' := ?_) #[true,true,true,false,false,false,false,false,false,false,false] rfl rfl (any_of HT_.out (by kernel_rfl)) (fun _ _ _ h => h) (Or.inl ⟨by rfl,?_⟩) ?_ ?_;rotate_left
     · intro w';go_simp
       with_reducible rfl
     rotate_left
     · simp only [Act.put,List.setIfInBounds_toArray,List.set_cons_zero,List.set_cons_succ,i64_w,i32_w];rfl
     refine pure_ (i:=3) (N:=some 6) (v:=?_) (a' := ?_) #[true,true,true,true,false,false,false,false,false,false,false] rfl rfl (any_of HT_.out (by kernel_rfl)) (fun _ _ _ h => h) (Or.inl ⟨by rfl,?_⟩) ?_ ?_;rotate_left
     · intro w';go_simp
       with_reducible rfl
     rotate_left
     · simp only [Act.put,List.setIfInBounds_toArray,List.set_cons_zero,List.set_cons_succ,i64_w,i32_w];rfl
     refine pure_ (i:=4) (N:=some 7) (v:=?_) (a' := ?_) #[true,true,true,true,true,false,false,false,false,false,false] rfl rfl (any_of HT_.out (by kernel_rfl)) (fun _ _ _ h => h) (Or.inl ⟨by rfl,?_⟩) ?_ ?_;rotate_left
     · intro w';go_simp
       with_reducible rfl
     rotate_left
     · simp only [Act.put,List.setIfInBounds_toArray,List.set_cons_zero,List.set_cons_succ,i64_w,i32_w];rfl
     refine take_ (i:=7) (N:=some 10) (v:=?_) (a' := ?_) #[true,true,true,true,true,false,false,true,false,false,false] rfl rfl (Z67 HT_.out HW_.out (by kernel_rfl)) (fun _ _ _ h => h) (Or.inl ⟨by rfl,?_⟩) hHeld ?_ ?_;rotate_left
     · rintro w' ⟨s0,s1,s2,s3,s4⟩;go_simp
       with_reducible rfl
     rotate_left
     · simp only [Act.put,List.setIfInBounds_toArray,List.set_cons_zero,List.set_cons_succ,i64_w,i32_w];rfl
     refine one_ (i:=5) (N:=some 8) #[true,true,true,true,true,true,false,true,false,false,false] rfl rfl (one_of HT_.out (by kernel_rfl)) (by decide) (fun K hK => ?_);refine Kd.R_make_step k24 _ 24 (by rfl) (N:=8) rfl 47 _ _ rfl 256 rfl rfl Try.underlying47 (.agg #[(.string ⟨#[]⟩),(.int .i64 0),(.int .i64 0),(.int .i64 0),(.slice none 0 0)]) 64 info24 rfl (by decide) (by omega) z24 (ok:=fun _ => True) (okp:=fun _ => True) (k24_mkM _ _ _ z24 (Kd.R_nil _ _ _ _ _)) (fun _ hk => hk) trivial (by omega) (by omega) (Below.refl _ _) (Nat.le_refl _) ?_;intro v167 w7 ho8 hb hg_ hnew_;clear hg_ hnew_;(first|rw [← Ny166.out] at ho8|(simp only [Int.reduceToNat] at ho8;rw [← Ny166.out] at ho8));have n0_:=Aside0.mk (Kd.R_lower (Kd.R_newB ho8 (YK BK165)) (Z27 YH))
     have n1_:=Aside0.mk (Z40 (YK BK165) hb)
     have n2_:=Aside0.mk (Z25 YH hb)
     clear BK165;clear HB;have HO168:=n0_
     have BK165:=n1_
     have HB:=n2_
     clear n0_ n1_ n2_;clear hb ho8;obtain ⟨Ao9,co9,eo9⟩:=Kd.R_slice HO168.out
     (first|subst eo9|(injection eo9 with f1_ f2_ f3_;have f4_:=f1_.symm;have f5_:=f3_.symm;clear f1_ f2_ f3_;subst f4_;subst f5_));refine hK.out _ _ ⟨(Z5 BK165.out 0).trans rfl,(Z5 BK165.out 1).trans rfl,(Z5 BK165.out 2).trans rfl,(Z5 BK165.out 3).trans rfl,(Z5 BK165.out 4).trans rfl⟩ (fun hHeld => ?_);clear hK K;refine norm_ (a' := ?_) ?_ ?_;rotate_left
     · show Act.put _ (some 8) _ = _
       simp only [Act.put,List.setIfInBounds_toArray,List.set_cons_zero,List.set_cons_succ,i64_w,i32_w];rfl
     refine pure_ (i:=6) (N:=some 9) (v:=?_) (a' := ?_) #[true,true,true,true,true,true,true,true,false,false,false] rfl rfl (any_of HT_.out (by kernel_rfl)) (fun _ _ _ h => h) (Or.inl ⟨by rfl,?_⟩) ?_ ?_;rotate_left
     · intro w';go_simp
       with_reducible rfl
     rotate_left
     · simp only [Act.put,List.setIfInBounds_toArray,List.set_cons_zero,List.set_cons_succ,i64_w,i32_w];rfl
     refine one_ (i:=8) (N:=some 11) #[true,true,true,true,true,true,true,true,true,false,false] rfl rfl (one_of HT_.out (by kernel_rfl)) (by decide) (fun K hK => ?_);refine goes_ Try.func25 (by kernel_rfl) rfl #[.agg #[.slice Ao9 y166.length co9,.int .i64 65536,.slice none 0 0,.int .i64 0],.agg #[.string a0_0,.int .i64 a0_1,.int .i64 a0_2,.int .i64 a0_3,.slice A0_4 l0_4.length c0_4]] (by rfl) rfl rfl (by (try simp only [List.map_toArray,List.map_cons,List.map_nil]);first|done|rfl|(simp only [List.length_drop,List.length_take];rfl)) ?_;refine (crucibleref14_Func.calls k _ _ y166 65536 _ _ ([] : List (S85)) 0 a0_0 a0_1 a0_2 a0_3 _ _ l0_4 t169 _ ?side1 ?side2 ?side3 ?side4 ?side5 ?side6 A4.out).mono ?_;(case side1 => repeat (first|exact (Kd.R_reads' HO168.out).2.2|(with_reducible refine Kd.C_alloc ?_ _)|(with_reducible refine Kd.C_drewN ?_ _)|(with_reducible refine Kd.C_drew ?_)));(case side2 => exact (Kd.R_reads' HO168.out).2.1);(case side3 => exact Kd.C_nil _ _);(case side4 => exact Nat.le_refl _);(case side5 => repeat (first|exact (Kd.C_below HR0_4.out HB.out)|(with_reducible refine Kd.C_alloc ?_ _)|(with_reducible refine Kd.C_drewN ?_ _)|(with_reducible refine Kd.C_drew ?_)));(case side6 => exact HC0_4.out);rintro e w10 ⟨rfl,hb⟩;refine ⟨_,rfl,?_⟩;have n0_:=Aside0.mk (Kd.R_below (YR HO168) hb)
     have n1_:=Aside0.mk (Z40 (YK BK165) hb)
     have n2_:=Aside0.mk (Z25 YH hb)
     clear HO168;clear BK165;clear HB;have HO168:=n0_
     have BK165:=n1_
     have HB:=n2_
     clear n0_ n1_ n2_;(try clear hb);(try clear hb2);(try clear hk);(try clear hi);refine hK.out _ _ ⟨(Z5 BK165.out 0).trans rfl,(Z5 BK165.out 1).trans rfl,(Z5 BK165.out 2).trans rfl,(Z5 BK165.out 3).trans rfl,(Z5 BK165.out 4).trans rfl⟩ (fun hHeld => ?_);clear hK K;refine norm_ (a' := ?_) ?_ ?_;rotate_left
     · show Act.put _ (some 11) _ = _
       simp only [Act.put,List.setIfInBounds_toArray,List.set_cons_zero,List.set_cons_succ,i64_w,i32_w];rfl
     refine pure_ (i:=9) (N:=some 12) (v:=?_) (a' := ?_) #[true,true,true,true,true,true,true,true,true,true,false] rfl rfl (any_of HT_.out (by kernel_rfl)) (fun _ _ _ h => h) (Or.inl ⟨by rfl,?_⟩) ?_ ?_;rotate_left
     · intro w';go_simp
       with_reducible rfl
     rotate_left
     · simp only [Act.put,List.setIfInBounds_toArray,List.set_cons_zero,List.set_cons_succ,i64_w,i32_w];rfl
     refine pure_ (i:=10) (N:=some 2) (v:=?_) (a' := ?_) #[true,true,true,true,true,true,true,true,true,true,true] rfl rfl (any_of HT_.out (by kernel_rfl)) (fun _ _ _ h => h) (Or.inl ⟨by rfl,?_⟩) ?_ ?_;rotate_left
     · intro w';go_simp
       with_reducible rfl
     rotate_left
     · simp only [Act.put,List.setIfInBounds_toArray,List.set_cons_zero,List.set_cons_succ,i64_w,i32_w];rfl
     refine done_ (Z83 HT_.out (by kernel_rfl)) ?_;try go_wp2
     go_ret
     exact ⟨by first|rfl|(simp [Z16,Z15] <;> rfl)|(simp [*,Z16,Z15] <;> rfl),by repeat (first|(with_reducible first|exact HB.out|apply Z7|apply Z4|apply Z6|refine Z8 ?_ GE165.out)|exact HB.out)⟩
   · rw [if_neg c3] at H;exact absurd H (by simp)
 · rw [if_neg c2] at H;have c2b0 : decide ((l0_4.length : Int) ≤ 48) = false:=decide_eq_false c2
   clear c2;obtain rfl:=Option.some.inj H
   go_enter Try.func11,Try.ntmps11
   try go_wp2_with (first|((with_reducible refine Z52 (N:=1) rfl ?_);(try (refine Z66 (by rfl) ?_;dsimp only));refine Z51 ?hg (N:=1) ?hd (cs:=#[.string a0_0,.int .i64 a0_1,.int .i64 a0_2,.int .i64 a0_3,.slice A0_4 l0_4.length c0_4]) (t:=24) ?hr ?_;(case hd => rfl);(case hg => rfl);(case hr => first|(go_simp;done)|(go_simp;rfl));intro gb165 hg w11 hbox hb;have n0_:=Aside0.mk (Z25 YH hb);have n1_:=Aside0.mk (hbox);have n2_:=Aside0.mk ((by rw [hg];exact (Z27 YH) : w.heap.size ≤ gb165));have n3_:=Aside0.mk ((by rw [hg];exact (Z27 YH) : w.heap.size ≤ gb165));clear HB;have HB:=n0_;have BK165:=n1_;have GW165:=n2_;have GE165:=n3_;clear n0_ n1_ n2_ n3_;clear hb hbox hg))
   have n0_:=Aside0.mk (Z3 BK165.out)
   have n1_:=Aside0.mk (Z6 HB.out)
   clear BK165;clear HB;have BK165:=n0_
   have HB:=n1_
   clear n0_ n1_;refine start_ (n:=11) (S:=fun w' => w'.cell? ⟨gb165,0,none⟩ = some (.string a0_0) ∧ w'.cell? ⟨gb165,1,none⟩ = some (.int .i64 a0_1) ∧ w'.cell? ⟨gb165,2,none⟩ = some (.int .i64 a0_2) ∧ w'.cell? ⟨gb165,3,none⟩ = some (.int .i64 a0_3) ∧ w'.cell? ⟨gb165,4,none⟩ = some (.slice A0_4 l0_4.length c0_4)) (ds:=[]) #[false,false,false,false,false,false,false,false,false,false,false] (by kernel_rfl) rfl rfl ⟨(Z5 BK165.out 0).trans rfl,(Z5 BK165.out 1).trans rfl,(Z5 BK165.out 2).trans rfl,(Z5 BK165.out 3).trans rfl,(Z5 BK165.out 4).trans rfl⟩ (fun hHeld => ?_);refine Z74 cruciblelaw17_May.tab1 cruciblelaw17_May.bits1 (fun HT_ HW_ => ?_);generalize w11.drew = w12 at BK165 HB hHeld ⊢;refine pure_ (i:=0) (N:=some 3) (v:=?_) (a' := ?_) #[true,false,false,false,false,false,false,false,false,false,false] rfl rfl (any_of HT_.out (by kernel_rfl)) (fun _ _ _ h => h) (Or.inl ⟨by rfl,?_⟩) ?_ ?_;rotate_left
   · intro w';go_simp
     with_reducible rfl
   rotate_left
   · simp only [Act.put,List.setIfInBounds_toArray,List.set_cons_zero,List.set_cons_succ,i64_w,i32_w];rfl
   refine take_ (i:=1) (N:=some 4) (v:=?_) (a' := ?_) #[true,true,false,false,false,false,false,false,false,false,false] rfl rfl (Z67 HT_.out HW_.out (by kernel_rfl)) (fun _ _ _ h => h) (Or.inl ⟨by rfl,?_⟩) hHeld ?_ ?_;rotate_left
   · rintro w' ⟨s0,s1,s2,s3,s4⟩;go_simp
     with_reducible rfl
   rotate_left
   · simp only [Act.put,List.setIfInBounds_toArray,List.set_cons_zero,List.set_cons_succ,i64_w,i32_w];rfl
   refine pure_ (i:=2) (N:=some 5) (v:=?_) (a' := ?_) #[true,true,true,false,false,false,false,false,false,false,false] rfl rfl (any_of HT_.out (by kernel_rfl)) (fun _ _ _ h => h) (Or.inl ⟨by rfl,?_⟩) ?_ ?_;rotate_left
   · intro w';go_simp
     with_reducible rfl
   rotate_left
   · simp only [Act.put,List.setIfInBounds_toArray,List.set_cons_zero,List.set_cons_succ,i64_w,i32_w];rfl
   refine pure_ (i:=3) (N:=some 6) (v:=?_) (a' := ?_) #[true,true,true,true,false,false,false,false,false,false,false] rfl rfl (any_of HT_.out (by kernel_rfl)) (fun _ _ _ h => h) (Or.inl ⟨by rfl,?_⟩) ?_ ?_;rotate_left
   · intro w';go_simp
     with_reducible rfl
   rotate_left
   · simp only [Act.put,List.setIfInBounds_toArray,List.set_cons_zero,List.set_cons_succ,i64_w,i32_w];rfl
   refine pure_ (i:=4) (N:=some 7) (v:=?_) (a' := ?_) #[true,true,true,true,true,false,false,false,false,false,false] rfl rfl (any_of HT_.out (by kernel_rfl)) (fun _ _ _ h => h) (Or.inl ⟨by rfl,?_⟩) ?_ ?_;rotate_left
   · intro w';go_simp
     with_reducible rfl
   rotate_left
   · simp only [Act.put,List.setIfInBounds_toArray,List.set_cons_zero,List.set_cons_succ,i64_w,i32_w];rfl
   refine pure_ (i:=5) (N:=some 8) (v:=undef) (a' := ?_) #[true,true,true,true,true,true,false,false,false,false,false] rfl rfl (any_of HT_.out (by kernel_rfl)) (fun _ _ _ h => h) (Or.inr ⟨by rfl,rfl⟩) ?_ ?_;rotate_left
   · simp only [Act.put,List.setIfInBounds_toArray,List.set_cons_zero,List.set_cons_succ,i64_w,i32_w];rfl
   refine pure_ (i:=6) (N:=some 9) (v:=undef) (a' := ?_) #[true,true,true,true,true,true,true,false,false,false,false] rfl rfl (any_of HT_.out (by kernel_rfl)) (fun _ _ _ h => h) (Or.inr ⟨by rfl,rfl⟩) ?_ ?_;rotate_left
   · simp only [Act.put,List.setIfInBounds_toArray,List.set_cons_zero,List.set_cons_succ,i64_w,i32_w];rfl
   refine pure_ (i:=7) (N:=some 10) (v:=undef) (a' := ?_) #[true,true,true,true,true,true,true,true,false,false,false] rfl rfl (any_of HT_.out (by kernel_rfl)) (fun _ _ _ h => h) (Or.inr ⟨by rfl,rfl⟩) ?_ ?_;rotate_left
   · simp only [Act.put,List.setIfInBounds_toArray,List.set_cons_zero,List.set_cons_succ,i64_w,i32_w];rfl
   refine pure_ (i:=8) (N:=some 11) (v:=undef) (a' := ?_) #[true,true,true,true,true,true,true,true,true,false,false] rfl rfl (any_of HT_.out (by kernel_rfl)) (fun _ _ _ h => h) (Or.inr ⟨by rfl,rfl⟩) ?_ ?_;rotate_left
   · simp only [Act.put,List.setIfInBounds_toArray,List.set_cons_zero,List.set_cons_succ,i64_w,i32_w];rfl
   refine pure_ (i:=9) (N:=some 12) (v:=?_) (a' := ?_) #[true,true,true,true,true,true,true,true,true,true,false] rfl rfl (any_of HT_.out (by kernel_rfl)) (fun _ _ _ h => h) (Or.inl ⟨by rfl,?_⟩) ?_ ?_;rotate_left
   · intro w';go_simp
     with_reducible rfl
   rotate_left
   · simp only [Act.put,List.setIfInBounds_toArray,List.set_cons_zero,List.set_cons_succ,i64_w,i32_w];rfl
   refine pure_ (i:=10) (N:=some 2) (v:=?_) (a' := ?_) #[true,true,true,true,true,true,true,true,true,true,true] rfl rfl (any_of HT_.out (by kernel_rfl)) (fun _ _ _ h => h) (Or.inl ⟨by rfl,?_⟩) ?_ ?_;rotate_left
   · intro w';go_simp
     with_reducible rfl
   rotate_left
   · simp only [Act.put,List.setIfInBounds_toArray,List.set_cons_zero,List.set_cons_succ,i64_w,i32_w];rfl
   refine done_ (Z83 HT_.out (by kernel_rfl)) ?_;try go_wp2
   go_ret
   exact ⟨by first|rfl|(simp [Z16,Z15] <;> rfl)|(simp [*,Z16,Z15] <;> rfl),by repeat (first|(with_reducible first|exact HB.out|apply Z7|apply Z4|apply Z6|refine Z8 ?_ GE165.out)|exact HB.out)⟩
end Go.Proofs.Ytbklmnieakefnaa.Q
