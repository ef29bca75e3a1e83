/- A part of the proof, made small by a program: Qx1, Qx3. -/
import Derived.Test.YtbklmnieakefnaaVn1
namespace Go.Proofs.Ytbklmnieakefnaa.Q
open Go.RowKit Go.Proofs.YtbklmnieakefnaaW.PrintWords Go.Proofs.YtbklmnieakefnaaW.PrintLast Go.Proofs.YtbklmnieakefnaaW.PrintMore

set_option linter.unusedVariables false
set_option linter.unusedSimpArgs false
def cruciblelaw17_bare.l0 : Nat → Int → ByteArray → Int → Int → Int → List (S45) → ByteArray → Int → Int → Int → List (S45) → Option (ByteArray × Int × Int × Int × (List (S45)))
 | 0,_,_,_,_,_,_,_,_,_,_,_ => none
 | k + 1,x4,x102000,x102001,x102002,x102003,x102004,x104000,x104001,x104002,x104003,x104004 => if x4 < (x102004.length : Int) then (if 0 ≤ x4 then (if x104004.length < 2199023255552 then ((some (x104004 ++ [(⟨([] : List (S59)),(rd_T45 x102004 x4).f1,(rd_T45 x102004 x4).f2,(rd_T45 x102004 x4).f3⟩ : S45)] : List (S45))).bind fun y107 => (if x4 < (y107.length : Int) then (if ((rd_T45 y107 x4).f1) = 2 then (cruciblelaw17_bare.l0 k (wrap64 (x4 + 1)) x102000 x102001 x102002 x102003 x102004 x104000 x104001 x104002 x104003 (y107.set (x4 : Int).toNat (⟨(rd_T45 y107 x4).f0,(rd_T45 y107 x4).f1,0,(rd_T45 y107 x4).f3⟩ : S45))) else (if ((rd_T45 y107 x4).f1) = 3 then (cruciblelaw17_bare.l0 k (wrap64 (x4 + 1)) x102000 x102001 x102002 x102003 x102004 x104000 x104001 x104002 x104003 (y107.set (x4 : Int).toNat (⟨(rd_T45 y107 x4).f0,(rd_T45 y107 x4).f1,(-1),(rd_T45 y107 x4).f3⟩ : S45))) else (cruciblelaw17_bare.l0 k (wrap64 (x4 + 1)) x102000 x102001 x102002 x102003 x102004 x104000 x104001 x104002 x104003 y107))) else (none))) else (none)) else (none)) else (some (x104000,x104001,x104002,x104003,x104004))
def cruciblelaw17_bare.f (k : Nat) (a0_0 : ByteArray) (a0_1 : Int) (a0_2 : Int) (a0_3 : Int) (l0_4 : List (S45)) : Option (ByteArray × Int × Int × Int × (List (S45))):=cruciblelaw17_bare.l0 k 0 a0_0 a0_1 a0_2 a0_3 l0_4 (⟨#[]⟩ : ByteArray) 0 1 0 ([] : List (S45))
def cruciblelaw17_bare.T5 : Bool × List (List Nat × List Nat):=(true,[([],[]),([0],[0]),([],[]),([2],[2]),([],[]),([3,4],[3,4]),([5],[5]),([6],[6]),([],[]),([8],[8]),([],[]),([9,10],[9,10]),([11],[11]),([12],[12]),([],[]),([14],[14]),([],[]),([15,16],[15,16]),([17],[17]),([18],[18]),([7,13,19],[7,13,19]),([20],[20]),([1,21],[1,21]),([0,1,2,3,4,5,6,7,8,9,10,11,12,13,14,15,16,17,18,19,20,21,22],[]),([23,22,22,0,1,2,3,4,5,6,7,8,9,10,11,12,13,14,15,16,17,18,19,20,21,22],[22,23])])
def cruciblelaw17_bare.B5 : List Nat:=[0,1,0,4,0,28,60,124,0,256,0,1792,3840,7936,0,16384,0,114688,245760,507904,1048572,2097148,4194303,8388607,16777215]
theorem cruciblelaw17_bare.tab5 : rtab .any (opsOf Try.f9 5) = cruciblelaw17_bare.T5:=by kernel_rfl
theorem cruciblelaw17_bare.bits5 : waitsOk cruciblelaw17_bare.T5.2 cruciblelaw17_bare.B5 = true:=by kernel_rfl
set_option maxHeartbeats 8000000 in
set_option maxRecDepth 100000 in
theorem cruciblelaw17_bare.calls (k : Nat) (a0_0 : ByteArray) (a0_1 : Int) (a0_2 : Int) (a0_3 : Int) (P0_4_ : Nat → Prop) (A0_4 : Option Addr) (c0_4 : Nat) (l0_4 : List (S45)) (r1 : ByteArray) (r2 : Int) (r3 : Int) (r4 : Int) (r5 : List (S45)) (w : World) (hs0_4 : Kd.V k45 45 w w.heap.size (fun k_ => P0_4_ k_) (.slice A0_4 l0_4.length c0_4) l0_4) (h : cruciblelaw17_bare.f k a0_0 a0_1 a0_2 a0_3 l0_4 = some (r1,r2,r3,r4,r5)) :
 Calls Try.prog 9 #[.agg #[.string a0_0,.int .i64 a0_1,.int .i64 a0_2,.int .i64 a0_3,.slice A0_4 l0_4.length c0_4]] w fun e w' => ∃ v4_ : Value,e = .returned (.agg #[.string r1,.int .i64 r2,.int .i64 r3,.int .i64 r4,v4_]) ∧ Kd.N k45 45 w' w.heap.size (fun k_ => (P0_4_ k_ ∨ w.heap.size ≤ k_)) v4_ r5 ∧ Below w.heap.size w w' := by
 have hu24:=Try.underlying24
 have hu45:=Try.underlying45
 have HO0_4:=Aside0.mk (show Kd.V k45 45 w w.heap.size (fun k_ => (P0_4_ k_ ∨ w.heap.size ≤ k_)) (.slice A0_4 l0_4.length c0_4) l0_4 from Kd.V_mono hs0_4 (fun k_ hk => .inl hk))
 have HB:=Aside0.mk (Below.refl w.heap.size w)
 have H : (cruciblelaw17_bare.l0 k 0 a0_0 a0_1 a0_2 a0_3 l0_4 (⟨#[]⟩ : ByteArray) 0 1 0 ([] : List (S45))) = some (r1,r2,r3,r4,r5):=h
 clear h;have H' := Aside0.mk H
 clear H;go_enter Try.func9,Try.ntmps9
 go_wp2_with (first|((with_reducible refine Z52 (N:=1) rfl ?_);refine Z51 ?hg (N:=1) ?hd (cs:=#[.string a0_0,.int .i64 a0_1,.int .i64 a0_2,.int .i64 a0_3,.slice A0_4 l0_4.length c0_4]) (t:=24) ?hr ?_;(case hd => rfl);(case hg => rfl);(case hr => first|(go_simp;done)|(go_simp;rfl));intro gb101 hg w2 hbox hb;have n0_:=Aside0.mk (Kd.V_below (Kd.V_elderB (YV HO0_4) gb101 (Nat.le_of_eq hg.symm)) hb);have n1_:=Aside0.mk (Z25 YH hb);have n2_:=Aside0.mk (hbox);have n3_:=Aside0.mk ((by rw [hg];exact (Z27 YH) : w.heap.size ≤ gb101));have n4_:=Aside0.mk ((by rw [hg];exact (Z27 YH) : w.heap.size ≤ gb101));clear HO0_4;clear HB;have HO0_4:=n0_;have HB:=n1_;have BK101:=n2_;have GW101:=n3_;have GE101:=n4_;clear n0_ n1_ n2_ n3_ n4_;clear hb hbox hg)|((with_reducible refine Z52 (N:=2) rfl ?_);refine Z51 ?hg (N:=2) ?hd (cs:=#[.string (⟨#[]⟩ : ByteArray),.int .i64 0,.int .i64 0,.int .i64 0,.slice none 0 0]) (t:=24) ?hr ?_;(case hd => rfl);(case hg => rfl);(case hr => first|(go_simp;done)|(go_simp;rfl));intro gb102 hg w3 hbox hb;have n0_:=Aside0.mk (Kd.V_below (Kd.V_elderB (YV HO0_4) gb102 (Nat.le_of_eq hg.symm)) hb);have n1_:=Aside0.mk (Z40 (YK BK101) hb);have n2_:=Aside0.mk (Z25 YH hb);have n3_:=Aside0.mk (hbox);have n4_:=Aside0.mk ((by rw [hg];exact (Z27 YH) : w.heap.size ≤ gb102));have n5_:=Aside0.mk ((by rw [hg];exact (Z27 YH) : w.heap.size ≤ gb102));have n6_:=Aside0.mk ((by rw [hg];exact Nat.ne_of_lt (blk_lt (YK BK101)) : gb101 ≠ gb102));have n7_:=Aside0.mk ((by rw [hg];exact Nat.ne_of_gt (blk_lt (YK BK101)) : gb102 ≠ gb101));clear HO0_4;clear BK101;clear HB;have HO0_4:=n0_;have BK101:=n1_;have HB:=n2_;have BK102:=n3_;have GW102:=n4_;have GE102:=n5_;have NB101_102:=n6_;have NB102_101:=n7_;clear n0_ n1_ n2_ n3_ n4_ n5_ n6_ n7_;clear hb hbox hg)|((with_reducible refine Z52 (N:=3) rfl ?_);refine Z51 ?hg (N:=3) ?hd (cs:=#[.string (⟨#[]⟩ : ByteArray),.int .i64 0,.int .i64 0,.int .i64 0,.slice none 0 0]) (t:=24) ?hr ?_;(case hd => rfl);(case hg => rfl);(case hr => first|(go_simp;done)|(go_simp;rfl));intro gb103 hg w4 hbox hb;have n0_:=Aside0.mk (Kd.V_below (Kd.V_elderB (YV HO0_4) gb103 (Nat.le_of_eq hg.symm)) hb);have n1_:=Aside0.mk (Z40 (YK BK101) hb);have n2_:=Aside0.mk (Z40 (YK BK102) hb);have n3_:=Aside0.mk (Z25 YH hb);have n4_:=Aside0.mk (hbox);have n5_:=Aside0.mk ((by rw [hg];exact (Z27 YH) : w.heap.size ≤ gb103));have n6_:=Aside0.mk ((by rw [hg];exact (Z27 YH) : w.heap.size ≤ gb103));have n7_:=Aside0.mk ((by rw [hg];exact Nat.ne_of_lt (blk_lt (YK BK101)) : gb101 ≠ gb103));have n8_:=Aside0.mk ((by rw [hg];exact Nat.ne_of_gt (blk_lt (YK BK101)) : gb103 ≠ gb101));have n9_:=Aside0.mk ((by rw [hg];exact Nat.ne_of_lt (blk_lt (YK BK102)) : gb102 ≠ gb103));have n10_:=Aside0.mk ((by rw [hg];exact Nat.ne_of_gt (blk_lt (YK BK102)) : gb103 ≠ gb102));clear HO0_4;clear BK101;clear BK102;clear HB;have HO0_4:=n0_;have BK101:=n1_;have BK102:=n2_;have HB:=n3_;have BK103:=n4_;have GW103:=n5_;have GE103:=n6_;have NB101_103:=n7_;have NB103_101:=n8_;have NB102_103:=n9_;have NB103_102:=n10_;clear n0_ n1_ n2_ n3_ n4_ n5_ n6_ n7_ n8_ n9_ n10_;clear hb hbox hg;have hnb5:=NB103_101.out;have hnc5:=NB101_103.out;have hnb6:=NB103_102.out;have hnc6:=NB102_103.out;have hcz7_0 : w4.cell? ⟨gb103,0,none⟩ = some (.string (⟨#[]⟩ : ByteArray)):=(Z5 BK103.out 0).trans rfl;have hcz7_1 : w4.cell? ⟨gb103,1,none⟩ = some (.int .i64 0):=(Z5 BK103.out 1).trans rfl;have hcz7_2 : w4.cell? ⟨gb103,2,none⟩ = some (.int .i64 0):=(Z5 BK103.out 2).trans rfl;have hcz7_3 : w4.cell? ⟨gb103,3,none⟩ = some (.int .i64 0):=(Z5 BK103.out 3).trans rfl;have hcz7_4 : w4.cell? ⟨gb103,4,none⟩ = some (.slice none 0 0):=(Z5 BK103.out 4).trans rfl;have hfz7_0:=Z2 BK103.out 0;have hfz7_1:=Z2 BK103.out 1;have hfz7_2:=Z2 BK103.out 2;have hfz7_3:=Z2 BK103.out 3;have hfz7_4:=Z2 BK103.out 4))
 go_loopg [4] k (fun kq v4 w' => ∃ (x4_1 : Int) (x102004_1 : List (S45)) (x104004_1 : List (S45)) (u102004 : Value) (u104004 : Value),v4 = .int .i64 x4_1 ∧ Aside0 (cruciblelaw17_bare.l0 kq x4_1 a0_0 a0_1 a0_2 a0_3 x102004_1 (⟨#[]⟩ : ByteArray) 0 1 0 x104004_1 = some (r1,r2,r3,r4,r5)) ∧ Aside0 (kq ≤ k) ∧ Aside0 (Kd.V k45 45 w' w.heap.size (fun k_ => (P0_4_ k_ ∨ w.heap.size ≤ k_) ∧ some k_ ≠ (u104004 : Value).ownBlock ∧ k_ ≠ gb101 ∧ k_ ≠ gb102 ∧ k_ ≠ gb103) u102004 x102004_1) ∧ Aside0 (Kd.N k45 45 w' w.heap.size (fun k_ => (P0_4_ k_ ∨ w.heap.size ≤ k_) ∧ k_ ≠ gb101 ∧ k_ ≠ gb102 ∧ k_ ≠ gb103) u104004 x104004_1) ∧ Aside0 (w'.heap[gb101]? = some (.cells #[.string a0_0,.int .i64 a0_1,.int .i64 a0_2,.int .i64 a0_3,u102004] 24 (0,0))) ∧ Aside0 (w'.heap[gb102]? = some (.cells #[.string (⟨#[]⟩ : ByteArray),.int .i64 0,.int .i64 0,.int .i64 0,(.slice none 0 0)] 24 (0,0))) ∧ Aside0 (w'.heap[gb103]? = some (.cells #[.string (⟨#[]⟩ : ByteArray),.int .i64 0,.int .i64 1,.int .i64 0,u104004] 24 (0,0))) ∧ Aside0 (Below w.heap.size w w'))
 case atStart => exact ⟨(0),(l0_4),(([] : List (S45))),(.slice A0_4 l0_4.length c0_4),(.slice none 0 0),(by first|rfl|(simp;done)|(simp [*];done)),H',⟨Nat.le_refl _⟩,⟨by (with_reducible repeat (first|apply Kd.V_alloc|apply Kd.V_drewN|apply Kd.V_drew));exact Kd.V_mono (Kd.V_far (p:=⟨gb103,4,none⟩) (Kd.V_far (p:=⟨gb103,3,none⟩) (Kd.V_far (p:=⟨gb103,2,none⟩) (Kd.V_far (p:=⟨gb103,1,none⟩) (Kd.V_far (p:=⟨gb103,0,none⟩) (Kd.V_mono HO0_4.out (fun k_ hk => (⟨hk,hk.2⟩ : _ ∧ k_ ≠ gb103))) (fun _ hk => hk.2) (.string (⟨#[]⟩ : ByteArray))) (fun _ hk => hk.2) (.int .i64 0)) (fun _ hk => hk.2) (.int .i64 1)) (fun _ hk => hk.2) (.int .i64 0)) (fun _ hk => hk.2) (.slice none 0 0)) (fun _ hk => ⟨hk.1.1.1.1,⟨(by simp [Value.ownBlock]),⟨hk.1.1.1.2,⟨hk.1.1.2,hk.1.2⟩⟩⟩⟩)⟩,⟨by first|exact Kd.R_nil _ _ _ _ _|exact Kd.N_nil _ _ _ _ _|exact Kd.V_nil _ _ _ _ _|exact Kd.Q_nil _ _ _ _ _|exact Kd.S_nil _ _ _ _ _⟩,⟨by (with_reducible repeat (first|refine Z0 ?_ _|refine Z3 ?_|refine Z1 ?_ _));refine Z22 ?_ NB101_103.out _;(with_reducible repeat (first|refine Z0 ?_ _|refine Z3 ?_|refine Z1 ?_ _));refine Z22 ?_ NB101_103.out _;(with_reducible repeat (first|refine Z0 ?_ _|refine Z3 ?_|refine Z1 ?_ _));refine Z22 ?_ NB101_103.out _;(with_reducible repeat (first|refine Z0 ?_ _|refine Z3 ?_|refine Z1 ?_ _));refine Z22 ?_ NB101_103.out _;(with_reducible repeat (first|refine Z0 ?_ _|refine Z3 ?_|refine Z1 ?_ _));refine Z22 ?_ NB101_103.out _;(with_reducible repeat (first|refine Z0 ?_ _|refine Z3 ?_|refine Z1 ?_ _));exact BK101.out⟩,⟨by (with_reducible repeat (first|refine Z0 ?_ _|refine Z3 ?_|refine Z1 ?_ _));refine Z22 ?_ NB102_103.out _;(with_reducible repeat (first|refine Z0 ?_ _|refine Z3 ?_|refine Z1 ?_ _));refine Z22 ?_ NB102_103.out _;(with_reducible repeat (first|refine Z0 ?_ _|refine Z3 ?_|refine Z1 ?_ _));refine Z22 ?_ NB102_103.out _;(with_reducible repeat (first|refine Z0 ?_ _|refine Z3 ?_|refine Z1 ?_ _));refine Z22 ?_ NB102_103.out _;(with_reducible repeat (first|refine Z0 ?_ _|refine Z3 ?_|refine Z1 ?_ _));refine Z22 ?_ NB102_103.out _;(with_reducible repeat (first|refine Z0 ?_ _|refine Z3 ?_|refine Z1 ?_ _));exact BK102.out⟩,⟨by (with_reducible repeat (first|refine Z0 ?_ _|refine Z3 ?_|refine Z1 ?_ _));refine Z9 (cs:=#[.string (⟨#[]⟩ : ByteArray),.int .i64 0,.int .i64 1,.int .i64 0,.slice none 0 0]) ?_ 4 _ rfl;(with_reducible repeat (first|refine Z0 ?_ _|refine Z3 ?_|refine Z1 ?_ _));refine Z9 (cs:=#[.string (⟨#[]⟩ : ByteArray),.int .i64 0,.int .i64 1,.int .i64 0,.slice none 0 0]) ?_ 3 _ rfl;(with_reducible repeat (first|refine Z0 ?_ _|refine Z3 ?_|refine Z1 ?_ _));refine Z9 (cs:=#[.string (⟨#[]⟩ : ByteArray),.int .i64 0,.int .i64 0,.int .i64 0,.slice none 0 0]) ?_ 2 _ rfl;(with_reducible repeat (first|refine Z0 ?_ _|refine Z3 ?_|refine Z1 ?_ _));refine Z9 (cs:=#[.string (⟨#[]⟩ : ByteArray),.int .i64 0,.int .i64 0,.int .i64 0,.slice none 0 0]) ?_ 1 _ rfl;(with_reducible repeat (first|refine Z0 ?_ _|refine Z3 ?_|refine Z1 ?_ _));refine Z9 (cs:=#[.string (⟨#[]⟩ : ByteArray),.int .i64 0,.int .i64 0,.int .i64 0,.slice none 0 0]) ?_ 0 _ rfl;(with_reducible repeat (first|refine Z0 ?_ _|refine Z3 ?_|refine Z1 ?_ _));exact BK103.out⟩,⟨YH⟩⟩
 case round =>
  clear H';try clear hcz7_0
  try clear hcz7_1
  try clear hcz7_2
  try clear hcz7_3
  try clear hcz7_4
  try clear hfz7_0
  try clear hfz7_1
  try clear hfz7_2
  try clear hfz7_3
  try clear hfz7_4
  obtain ⟨x4_1,x102004_1,x104004_1,u102004,u104004,rfl,HA,HK1,HO_102004,HO_104004,BK101,BK102,BK103,HB⟩:=hrel
  cases gk with
  | zero => exact absurd HA.out (by simp [cruciblelaw17_bare.l0])
  | succ k1 =>
   have H:=HA.out
   clear HA;simp only [cruciblelaw17_bare.l0] at H;by_cases c8 : x4_1 < (x102004_1.length : Int)
   · rw [if_pos c8] at H;have c8b0 : decide (x4_1 < (x102004_1.length : Int)) = true:=decide_eq_true c8
     clear c8;by_cases c9 : 0 ≤ x4_1
     · rw [if_pos c9] at H;have c9b0 : decide (0 ≤ x4_1) = true:=decide_eq_true c9
       clear c9;by_cases c10 : x104004_1.length < 2199023255552
       · rw [if_pos c10] at H;have LMc10:=Aside0.mk c10
         clear c10;obtain ⟨y107,hy107⟩ : ∃ y_ : List (S45),y_ = (x104004_1 ++ [(⟨([] : List (S59)),(rd_T45 x102004_1 x4_1).f1,(rd_T45 x102004_1 x4_1).f2,(rd_T45 x102004_1 x4_1).f3⟩ : S45)]):=⟨_,rfl⟩
         replace H : (if x4_1 < (y107.length : Int) then (if ((rd_T45 y107 x4_1).f1) = 2 then (cruciblelaw17_bare.l0 k1 (wrap64 (x4_1 + 1)) a0_0 a0_1 a0_2 a0_3 x102004_1 (⟨#[]⟩ : ByteArray) 0 1 0 (y107.set (x4_1 : Int).toNat (⟨(rd_T45 y107 x4_1).f0,(rd_T45 y107 x4_1).f1,0,(rd_T45 y107 x4_1).f3⟩ : S45))) else (if ((rd_T45 y107 x4_1).f1) = 3 then (cruciblelaw17_bare.l0 k1 (wrap64 (x4_1 + 1)) a0_0 a0_1 a0_2 a0_3 x102004_1 (⟨#[]⟩ : ByteArray) 0 1 0 (y107.set (x4_1 : Int).toNat (⟨(rd_T45 y107 x4_1).f0,(rd_T45 y107 x4_1).f1,(-1),(rd_T45 y107 x4_1).f3⟩ : S45))) else (cruciblelaw17_bare.l0 k1 (wrap64 (x4_1 + 1)) a0_0 a0_1 a0_2 a0_3 x102004_1 (⟨#[]⟩ : ByteArray) 0 1 0 y107))) else (none)) = some (r1,r2,r3,r4,r5):=by first|(rw [hy107];with_reducible exact H)|(have H2_:=(Option.bind_some _ _).symm.trans H;rw [hy107];with_reducible exact H2_)|(have H2_:=(Option.bind_some _ _).symm.trans H;with_reducible exact H2_)|with_reducible exact H|(rw [hy107];exact H)|exact H
         have Ny107:=Aside0.mk hy107
         clear hy107;by_cases c11 : x4_1 < (y107.length : Int)
         · rw [if_pos c11] at H;have c11b0 : decide (x4_1 < (y107.length : Int)) = true:=decide_eq_true c11
           clear c11;by_cases c12 : ((rd_T45 y107 x4_1).f1) = 2
           · rw [if_pos c12] at H;have c12b0 : (((rd_T45 y107 x4_1).f1) == 2) = true:=beq_iff_eq.mpr c12
             clear c12;obtain ⟨y111,hy111⟩ : ∃ y_ : List (S45),y_ = (y107.set (x4_1 : Int).toNat (⟨(rd_T45 y107 x4_1).f0,(rd_T45 y107 x4_1).f1,0,(rd_T45 y107 x4_1).f3⟩ : S45)):=⟨_,rfl⟩
             replace H : (cruciblelaw17_bare.l0 k1 (wrap64 (x4_1 + 1)) a0_0 a0_1 a0_2 a0_3 x102004_1 (⟨#[]⟩ : ByteArray) 0 1 0 y111) = some (r1,r2,r3,r4,r5):=by first|(rw [hy111];with_reducible exact H)|(have H2_:=(Option.bind_some _ _).symm.trans H;rw [hy111];with_reducible exact H2_)|(have H2_:=(Option.bind_some _ _).symm.trans H;with_reducible exact H2_)|with_reducible exact H|(rw [hy111];exact H)|exact H
             have Ny111:=Aside0.mk hy111
             clear hy111;have H' := Aside0.mk H
             clear H;have hnb14:=NB101_102.out
             have hnc14:=NB102_101.out
             have hnb15:=NB101_103.out
             have hnc15:=NB103_101.out
             have hcz16_4 : wr.cell? ⟨gb101,4,none⟩ = some (u102004):=(Z5 BK101.out 4).trans rfl
             obtain ⟨Ao17,co17,eo17⟩:=Kd.V_slice HO_102004.out
             subst eo17;try go_wp2
             have n0_:=Aside0.mk (Kd.V_drew HO_102004.out)
             have n1_:=Aside0.mk (Kd.N_drew HO_104004.out)
             have n2_:=Aside0.mk (Z3 BK101.out)
             have n3_:=Aside0.mk (Z3 BK102.out)
             have n4_:=Aside0.mk (Z3 BK103.out)
             have n5_:=Aside0.mk (Z6 HB.out)
             clear HO_102004;clear HO_104004;clear BK101;clear BK102;clear BK103;clear HB;have HO_102004:=n0_
             have HO_104004:=n1_
             have BK101:=n2_
             have BK102:=n3_
             have BK103:=n4_
             have HB:=n5_
             clear n0_ n1_ n2_ n3_ n4_ n5_;have p104 : 0 ≤ (x4_1 : Int):=YA
             have q104 : x4_1 < (x102004_1.length : Int):=YA
             obtain ⟨ad104,A104_0,c104_0,A104_3,c104_3,e104,hx104_0,hx104_1,hx104_2,hx104_3,hl104_0,hi104_0,hl104_3,hi104_3⟩:=at_T45 (Kd.V_reads' HO_102004.out).2.2 x4_1 p104 q104
             cases e104;obtain ⟨ce104,hce104,hMe104,hcc104⟩:=Kd.V_get HO_102004.out z45 x4_1 p104 (by first|exact q104|exact YA|(have e_:=(Kd.V_reads' HO_102004.out).1;omega))
             obtain ⟨ua104_0,uc104_0,ua104_3,uc104_3,rfl,ul104_0,ge104_0,ul104_3,ge104_3⟩:=k45_openF hMe104
             have hv104_0:=hcc104 0 _ rfl
             rw [Nat.add_zero] at hv104_0;replace hv104_0:=Option.some.inj (hv104_0.symm.trans hx104_0)
             injection hv104_0 with hva_ hvn_ hvc_
             rw [hva_] at ge104_0;rw [hvc_] at ul104_0;have HL104_0:=Aside0.mk (show Kd.V k59 59 _ w.heap.size _ _ ((rd_T45 x102004_1 x4_1).f0) from Kd.V_mk ul104_0 ge104_0)
             clear hva_ hvn_ hvc_ ge104_0 ul104_0;have hv104_3:=hcc104 3 _ rfl
             rw [add_field _ _ 3 (by omega)] at hv104_3;replace hv104_3:=Option.some.inj (hv104_3.symm.trans hx104_3)
             injection hv104_3 with hva_ hvn_ hvc_
             rw [hva_] at ge104_3;rw [hvc_] at ul104_3;have HL104_3:=Aside0.mk (show Kd.V (Kd.int .i64) 3 _ w.heap.size _ _ ((rd_T45 x102004_1 x4_1).f3) from Kd.V_mk ul104_3 ge104_3)
             clear hva_ hvn_ hvc_ ge104_3 ul104_3;clear hcc104 hce104;clear hi104_0 hl104_0;clear hi104_3 hl104_3;replace p104:=eq_true p104
             replace q104:=eq_true q104
             have p105 : 0 ≤ (x4_1 : Int):=YA
             have q105 : x4_1 < (x102004_1.length : Int):=YA
             obtain ⟨ad105,A105_0,c105_0,A105_3,c105_3,e105,hx105_0,hx105_1,hx105_2,hx105_3,hl105_0,hi105_0,hl105_3,hi105_3⟩:=at_T45 (Kd.V_reads' HO_102004.out).2.2 x4_1 p105 q105
             obtain rfl : ad104 = ad105:=(by injection e105)
             obtain ⟨ce105,hce105,hMe105,hcc105⟩:=Kd.V_get HO_102004.out z45 x4_1 p105 (by first|exact q105|exact YA|(have e_:=(Kd.V_reads' HO_102004.out).1;omega))
             obtain ⟨ua105_0,uc105_0,ua105_3,uc105_3,rfl,ul105_0,ge105_0,ul105_3,ge105_3⟩:=k45_openF hMe105
             have hv105_0:=hcc105 0 _ rfl
             rw [Nat.add_zero] at hv105_0;replace hv105_0:=Option.some.inj (hv105_0.symm.trans hx105_0)
             injection hv105_0 with hva_ hvn_ hvc_
             rw [hva_] at ge105_0;rw [hvc_] at ul105_0;have HL105_0:=Aside0.mk (show Kd.V k59 59 _ w.heap.size _ _ ((rd_T45 x102004_1 x4_1).f0) from Kd.V_mk ul105_0 ge105_0)
             clear hva_ hvn_ hvc_ ge105_0 ul105_0;have hv105_3:=hcc105 3 _ rfl
             rw [add_field _ _ 3 (by omega)] at hv105_3;replace hv105_3:=Option.some.inj (hv105_3.symm.trans hx105_3)
             injection hv105_3 with hva_ hvn_ hvc_
             rw [hva_] at ge105_3;rw [hvc_] at ul105_3;have HL105_3:=Aside0.mk (show Kd.V (Kd.int .i64) 3 _ w.heap.size _ _ ((rd_T45 x102004_1 x4_1).f3) from Kd.V_mk ul105_3 ge105_3)
             clear hva_ hvn_ hvc_ ge105_3 ul105_3;clear hcc105 hce105;have HR105_0:=Aside0.mk hi105_0
             have HC105_0:=Aside0.mk hl105_0
             clear hi105_0 hl105_0;have HR105_3:=Aside0.mk hi105_3
             have HC105_3:=Aside0.mk hl105_3
             clear hi105_3 hl105_3;replace p105:=eq_true p105
             replace q105:=eq_true q105
             have ea_:=Option.some.inj (hx104_0.symm.trans hx105_0)
             injection ea_ with ea_ en_ ec_
             subst ea_;subst ec_;clear en_;have ea_:=Option.some.inj (hx104_3.symm.trans hx105_3)
             injection ea_ with ea_ en_ ec_
             subst ea_;subst ec_;clear en_;have p106 : 0 ≤ (x4_1 : Int):=YA
             have q106 : x4_1 < (x102004_1.length : Int):=YA
             obtain ⟨ad106,A106_0,c106_0,A106_3,c106_3,e106,hx106_0,hx106_1,hx106_2,hx106_3,hl106_0,hi106_0,hl106_3,hi106_3⟩:=at_T45 (Kd.V_reads' HO_102004.out).2.2 x4_1 p106 q106
             obtain rfl : ad104 = ad106:=(by injection e106)
             obtain ⟨ce106,hce106,hMe106,hcc106⟩:=Kd.V_get HO_102004.out z45 x4_1 p106 (by first|exact q106|exact YA|(have e_:=(Kd.V_reads' HO_102004.out).1;omega))
             obtain ⟨ua106_0,uc106_0,ua106_3,uc106_3,rfl,ul106_0,ge106_0,ul106_3,ge106_3⟩:=k45_openF hMe106
             have hv106_0:=hcc106 0 _ rfl
             rw [Nat.add_zero] at hv106_0;replace hv106_0:=Option.some.inj (hv106_0.symm.trans hx106_0)
             injection hv106_0 with hva_ hvn_ hvc_
             rw [hva_] at ge106_0;rw [hvc_] at ul106_0;have HL106_0:=Aside0.mk (show Kd.V k59 59 _ w.heap.size _ _ ((rd_T45 x102004_1 x4_1).f0) from Kd.V_mk ul106_0 ge106_0)
             clear hva_ hvn_ hvc_ ge106_0 ul106_0;have hv106_3:=hcc106 3 _ rfl
             rw [add_field _ _ 3 (by omega)] at hv106_3;replace hv106_3:=Option.some.inj (hv106_3.symm.trans hx106_3)
             injection hv106_3 with hva_ hvn_ hvc_
             rw [hva_] at ge106_3;rw [hvc_] at ul106_3;have HL106_3:=Aside0.mk (show Kd.V (Kd.int .i64) 3 _ w.heap.size _ _ ((rd_T45 x102004_1 x4_1).f3) from Kd.V_mk ul106_3 ge106_3)
             clear hva_ hvn_ hvc_ ge106_3 ul106_3;clear hcc106 hce106;have HR106_0:=Aside0.mk hi106_0
             have HC106_0:=Aside0.mk hl106_0
             clear hi106_0 hl106_0;have HR106_3:=Aside0.mk hi106_3
             have HC106_3:=Aside0.mk hl106_3
             clear hi106_3 hl106_3;replace p106:=eq_true p106
             replace q106:=eq_true q106
             have ea_:=Option.some.inj (hx104_0.symm.trans hx106_0)
             injection ea_ with ea_ en_ ec_
             subst ea_;subst ec_;clear en_;have ea_:=Option.some.inj (hx104_3.symm.trans hx106_3)
             injection ea_ with ea_ en_ ec_
             subst ea_;subst ec_;clear en_;refine start_ (n:=25) (S:=fun w' => w'.cell? ⟨gb103,0,none⟩ = some (.string (⟨#[]⟩ : ByteArray)) ∧ w'.cell? ⟨gb103,1,none⟩ = some (.int .i64 0) ∧ w'.cell? ⟨gb103,2,none⟩ = some (.int .i64 1) ∧ w'.cell? ⟨gb103,3,none⟩ = some (.int .i64 0) ∧ w'.cell? ⟨gb103,4,none⟩ = some (u104004) ∧ w'.cell? ⟨gb101,0,none⟩ = some (.string a0_0) ∧ w'.cell? ⟨gb101,1,none⟩ = some (.int .i64 a0_1) ∧ w'.cell? ⟨gb101,2,none⟩ = some (.int .i64 a0_2) ∧ w'.cell? ⟨gb101,3,none⟩ = some (.int .i64 a0_3) ∧ w'.cell? ⟨gb101,4,none⟩ = some (.slice (some ad104) x102004_1.length co17) ∧ w'.cell? (ad104.add ((x4_1).toNat * 4)) = some (.slice A104_0 ((rd_T45 x102004_1 x4_1).f0).length c104_0) ∧ w'.cell? ⟨(ad104.add ((x4_1).toNat * 4)).block,(ad104.add ((x4_1).toNat * 4)).off + 1,none⟩ = some (.int .i64 ((rd_T45 x102004_1 x4_1).f1)) ∧ w'.cell? ⟨(ad104.add ((x4_1).toNat * 4)).block,(ad104.add ((x4_1).toNat * 4)).off + 2,none⟩ = some (.int .i64 ((rd_T45 x102004_1 x4_1).f2)) ∧ w'.cell? ⟨(ad104.add ((x4_1).toNat * 4)).block,(ad104.add ((x4_1).toNat * 4)).off + 3,none⟩ = some (.slice A104_3 ((rd_T45 x102004_1 x4_1).f3).length c104_3) ∧ w'.cell? (ad104.add ((x4_1).toNat * 4)) = some (.slice A104_0 ((rd_T45 x102004_1 x4_1).f0).length c104_0) ∧ w'.cell? ⟨(ad104.add ((x4_1).toNat * 4)).block,(ad104.add ((x4_1).toNat * 4)).off + 1,none⟩ = some (.int .i64 ((rd_T45 x102004_1 x4_1).f1)) ∧ w'.cell? ⟨(ad104.add ((x4_1).toNat * 4)).block,(ad104.add ((x4_1).toNat * 4)).off + 2,none⟩ = some (.int .i64 ((rd_T45 x102004_1 x4_1).f2)) ∧ w'.cell? ⟨(ad104.add ((x4_1).toNat * 4)).block,(ad104.add ((x4_1).toNat * 4)).off + 3,none⟩ = some (.slice A104_3 ((rd_T45 x102004_1 x4_1).f3).length c104_3) ∧ w'.cell? (ad104.add ((x4_1).toNat * 4)) = some (.slice A104_0 ((rd_T45 x102004_1 x4_1).f0).length c104_0) ∧ w'.cell? ⟨(ad104.add ((x4_1).toNat * 4)).block,(ad104.add ((x4_1).toNat * 4)).off + 1,none⟩ = some (.int .i64 ((rd_T45 x102004_1 x4_1).f1)) ∧ w'.cell? ⟨(ad104.add ((x4_1).toNat * 4)).block,(ad104.add ((x4_1).toNat * 4)).off + 2,none⟩ = some (.int .i64 ((rd_T45 x102004_1 x4_1).f2)) ∧ w'.cell? ⟨(ad104.add ((x4_1).toNat * 4)).block,(ad104.add ((x4_1).toNat * 4)).off + 3,none⟩ = some (.slice A104_3 ((rd_T45 x102004_1 x4_1).f3).length c104_3)) (ds:=[22,24]) #[false,false,false,false,false,false,false,false,false,false,false,false,false,false,false,false,false,false,false,false,false,false,false,false,false] (by kernel_rfl) rfl rfl ⟨(Z5 BK103.out 0).trans rfl,(Z5 BK103.out 1).trans rfl,(Z5 BK103.out 2).trans rfl,(Z5 BK103.out 3).trans rfl,(Z5 BK103.out 4).trans rfl,(Z5 BK101.out 0).trans rfl,(Z5 BK101.out 1).trans rfl,(Z5 BK101.out 2).trans rfl,(Z5 BK101.out 3).trans rfl,(Z5 BK101.out 4).trans rfl,hx104_0,hx104_1,hx104_2,hx104_3,hx105_0,hx105_1,hx105_2,hx105_3,hx106_0,hx106_1,hx106_2,hx106_3⟩ (fun hHeld => ?_);refine Z74 cruciblelaw17_bare.tab5 cruciblelaw17_bare.bits5 (fun HT_ HW_ => ?_);generalize wr.drew = w18 at HO_102004 HO_104004 BK101 BK102 BK103 HB HL104_0 HL104_3 HL105_0 HL105_3 HL106_0 HL106_3 HR105_0 HR105_3 HR106_0 HR106_3 hx104_0 hx104_1 hx104_2 hx104_3 hx105_0 hx105_1 hx105_2 hx105_3 hx106_0 hx106_1 hx106_2 hx106_3 hHeld ⊢;refine pure_ (i:=0) (N:=some 13) (v:=?_) (a' := ?_) #[true,false,false,false,false,false,false,false,false,false,false,false,false,false,false,false,false,false,false,false,false,false,false,false,false] rfl rfl (any_of HT_.out (by kernel_rfl)) (fun _ _ _ h => h) (Or.inl ⟨by rfl,?_⟩) ?_ ?_;rotate_left
             · intro w';go_simp
               with_reducible rfl
             rotate_left
             · simp only [Act.put,List.setIfInBounds_toArray,List.set_cons_zero,List.set_cons_succ,i64_w,i32_w];rfl
             refine pure_ (i:=2) (N:=some 15) (v:=?_) (a' := ?_) #[true,false,true,false,false,false,false,false,false,false,false,false,false,false,false,false,false,false,false,false,false,false,false,false,false] rfl rfl (any_of HT_.out (by kernel_rfl)) (fun _ _ _ h => h) (Or.inl ⟨by rfl,?_⟩) ?_ ?_;rotate_left
             · intro w';go_simp
               with_reducible rfl
             rotate_left
             · simp only [Act.put,List.setIfInBounds_toArray,List.set_cons_zero,List.set_cons_succ,i64_w,i32_w];rfl
             refine pure_ (i:=4) (N:=some 17) (v:=?_) (a' := ?_) #[true,false,true,false,true,false,false,false,false,false,false,false,false,false,false,false,false,false,false,false,false,false,false,false,false] rfl rfl (any_of HT_.out (by kernel_rfl)) (fun _ _ _ h => h) (Or.inl ⟨by rfl,?_⟩) ?_ ?_;rotate_left
             · intro w';go_simp
               with_reducible rfl
             rotate_left
             · simp only [Act.put,List.setIfInBounds_toArray,List.set_cons_zero,List.set_cons_succ,i64_w,i32_w];rfl
             refine pure_ (i:=8) (N:=some 21) (v:=?_) (a' := ?_) #[true,false,true,false,true,false,false,false,true,false,false,false,false,false,false,false,false,false,false,false,false,false,false,false,false] rfl rfl (any_of HT_.out (by kernel_rfl)) (fun _ _ _ h => h) (Or.inl ⟨by rfl,?_⟩) ?_ ?_;rotate_left
             · intro w';go_simp
               with_reducible rfl
             rotate_left
             · simp only [Act.put,List.setIfInBounds_toArray,List.set_cons_zero,List.set_cons_succ,i64_w,i32_w];rfl
             refine pure_ (i:=10) (N:=some 23) (v:=?_) (a' := ?_) #[true,false,true,false,true,false,false,false,true,false,true,false,false,false,false,false,false,false,false,false,false,false,false,false,false] rfl rfl (any_of HT_.out (by kernel_rfl)) (fun _ _ _ h => h) (Or.inl ⟨by rfl,?_⟩) ?_ ?_;rotate_left
             · intro w';go_simp
               with_reducible rfl
             rotate_left
             · simp only [Act.put,List.setIfInBounds_toArray,List.set_cons_zero,List.set_cons_succ,i64_w,i32_w];rfl
             refine pure_ (i:=14) (N:=some 27) (v:=?_) (a' := ?_) #[true,false,true,false,true,false,false,false,true,false,true,false,false,false,true,false,false,false,false,false,false,false,false,false,false] rfl rfl (any_of HT_.out (by kernel_rfl)) (fun _ _ _ h => h) (Or.inl ⟨by rfl,?_⟩) ?_ ?_;rotate_left
             · intro w';go_simp
               with_reducible rfl
             rotate_left
             · simp only [Act.put,List.setIfInBounds_toArray,List.set_cons_zero,List.set_cons_succ,i64_w,i32_w];rfl
             refine pure_ (i:=16) (N:=some 29) (v:=?_) (a' := ?_) #[true,false,true,false,true,false,false,false,true,false,true,false,false,false,true,false,true,false,false,false,false,false,false,false,false] rfl rfl (any_of HT_.out (by kernel_rfl)) (fun _ _ _ h => h) (Or.inl ⟨by rfl,?_⟩) ?_ ?_;rotate_left
             · intro w';go_simp
               with_reducible rfl
             rotate_left
             · simp only [Act.put,List.setIfInBounds_toArray,List.set_cons_zero,List.set_cons_succ,i64_w,i32_w];rfl
             refine take_ (i:=1) (N:=some 14) (v:=?_) (a' := ?_) #[true,true,true,false,true,false,false,false,true,false,true,false,false,false,true,false,true,false,false,false,false,false,false,false,false] rfl rfl (Z67 HT_.out HW_.out (by kernel_rfl)) (fun _ _ _ h => h) (Or.inl ⟨by rfl,?_⟩) hHeld ?_ ?_;rotate_left
             · rintro w' ⟨s0,s1,s2,s3,s4,s5,s6,s7,s8,s9,s10,s11,s12,s13,s14,s15,s16,s17,s18,s19,s20,s21⟩;go_simp
               with_reducible rfl
             rotate_left
             · simp only [Act.put,List.setIfInBounds_toArray,List.set_cons_zero,List.set_cons_succ,i64_w,i32_w];rfl
             refine take_ (i:=3) (N:=some 16) (v:=?_) (a' := ?_) #[true,true,true,true,true,false,false,false,true,false,true,false,false,false,true,false,true,false,false,false,false,false,false,false,false] rfl rfl (Z67 HT_.out HW_.out (by kernel_rfl)) (fun _ _ _ h => h) (Or.inl ⟨by rfl,?_⟩) hHeld ?_ ?_;rotate_left
             · rintro w' ⟨s0,s1,s2,s3,s4,s5,s6,s7,s8,s9,s10,s11,s12,s13,s14,s15,s16,s17,s18,s19,s20,s21⟩;go_simp
               with_reducible rfl
             rotate_left
             · simp only [Act.put,List.setIfInBounds_toArray,List.set_cons_zero,List.set_cons_succ,i64_w,i32_w];rfl
             refine pure_ (i:=5) (N:=some 18) (v:=?_) (a' := ?_) #[true,true,true,true,true,true,false,false,true,false,true,false,false,false,true,false,true,false,false,false,false,false,false,false,false] rfl rfl (any_of HT_.out (by kernel_rfl)) (fun _ _ _ h => h) (Or.inl ⟨by rfl,?_⟩) ?_ ?_;rotate_left
             · intro w';go_simp
               with_reducible rfl
             rotate_left
             · simp only [Act.put,List.setIfInBounds_toArray,List.set_cons_zero,List.set_cons_succ,i64_w,i32_w];rfl
             refine pure_ (i:=6) (N:=some 19) (v:=?_) (a' := ?_) #[true,true,true,true,true,true,true,false,true,false,true,false,false,false,true,false,true,false,false,false,false,false,false,false,false] rfl rfl (any_of HT_.out (by kernel_rfl)) (fun _ _ _ h => h) (Or.inl ⟨by rfl,?_⟩) ?_ ?_;rotate_left
             · intro w';go_simp
               with_reducible rfl
             rotate_left
             · simp only [Act.put,List.setIfInBounds_toArray,List.set_cons_zero,List.set_cons_succ,i64_w,i32_w];rfl
             refine take_ (i:=7) (N:=some 20) (v:=?_) (a' := ?_) #[true,true,true,true,true,true,true,true,true,false,true,false,false,false,true,false,true,false,false,false,false,false,false,false,false] rfl rfl (Z67 HT_.out HW_.out (by kernel_rfl)) (fun _ _ _ h => h) (Or.inl ⟨by rfl,?_⟩) hHeld ?_ ?_;rotate_left
             · rintro w' ⟨s0,s1,s2,s3,s4,s5,s6,s7,s8,s9,s10,s11,s12,s13,s14,s15,s16,s17,s18,s19,s20,s21⟩;go_simp
               with_reducible rfl
             rotate_left
             · simp only [Act.put,List.setIfInBounds_toArray,List.set_cons_zero,List.set_cons_succ,i64_w,i32_w];rfl
             refine take_ (i:=9) (N:=some 22) (v:=?_) (a' := ?_) #[true,true,true,true,true,true,true,true,true,true,true,false,false,false,true,false,true,false,false,false,false,false,false,false,false] rfl rfl (Z67 HT_.out HW_.out (by kernel_rfl)) (fun _ _ _ h => h) (Or.inl ⟨by rfl,?_⟩) hHeld ?_ ?_;rotate_left
             · rintro w' ⟨s0,s1,s2,s3,s4,s5,s6,s7,s8,s9,s10,s11,s12,s13,s14,s15,s16,s17,s18,s19,s20,s21⟩;go_simp
               with_reducible rfl
             rotate_left
             · simp only [Act.put,List.setIfInBounds_toArray,List.set_cons_zero,List.set_cons_succ,i64_w,i32_w];rfl
             refine pure_ (i:=11) (N:=some 24) (v:=?_) (a' := ?_) #[true,true,true,true,true,true,true,true,true,true,true,true,false,false,true,false,true,false,false,false,false,false,false,false,false] rfl rfl (any_of HT_.out (by kernel_rfl)) (fun _ _ _ h => h) (Or.inl ⟨by rfl,?_⟩) ?_ ?_;rotate_left
             · intro w';go_simp
               with_reducible rfl
             rotate_left
             · simp only [Act.put,List.setIfInBounds_toArray,List.set_cons_zero,List.set_cons_succ,i64_w,i32_w];rfl
             refine pure_ (i:=12) (N:=some 25) (v:=?_) (a' := ?_) #[true,true,true,true,true,true,true,true,true,true,true,true,true,false,true,false,true,false,false,false,false,false,false,false,false] rfl rfl (any_of HT_.out (by kernel_rfl)) (fun _ _ _ h => h) (Or.inl ⟨by rfl,?_⟩) ?_ ?_;rotate_left
             · intro w';go_simp
               with_reducible rfl
             rotate_left
             · simp only [Act.put,List.setIfInBounds_toArray,List.set_cons_zero,List.set_cons_succ,i64_w,i32_w];rfl
             refine take_ (i:=13) (N:=some 26) (v:=?_) (a' := ?_) #[true,true,true,true,true,true,true,true,true,true,true,true,true,true,true,false,true,false,false,false,false,false,false,false,false] rfl rfl (Z67 HT_.out HW_.out (by kernel_rfl)) (fun _ _ _ h => h) (Or.inl ⟨by rfl,?_⟩) hHeld ?_ ?_;rotate_left
             · rintro w' ⟨s0,s1,s2,s3,s4,s5,s6,s7,s8,s9,s10,s11,s12,s13,s14,s15,s16,s17,s18,s19,s20,s21⟩;go_simp
               with_reducible rfl
             rotate_left
             · simp only [Act.put,List.setIfInBounds_toArray,List.set_cons_zero,List.set_cons_succ,i64_w,i32_w];rfl
             refine take_ (i:=15) (N:=some 28) (v:=?_) (a' := ?_) #[true,true,true,true,true,true,true,true,true,true,true,true,true,true,true,true,true,false,false,false,false,false,false,false,false] rfl rfl (Z67 HT_.out HW_.out (by kernel_rfl)) (fun _ _ _ h => h) (Or.inl ⟨by rfl,?_⟩) hHeld ?_ ?_;rotate_left
             · rintro w' ⟨s0,s1,s2,s3,s4,s5,s6,s7,s8,s9,s10,s11,s12,s13,s14,s15,s16,s17,s18,s19,s20,s21⟩;go_simp
               with_reducible rfl
             rotate_left
             · simp only [Act.put,List.setIfInBounds_toArray,List.set_cons_zero,List.set_cons_succ,i64_w,i32_w];rfl
             refine pure_ (i:=17) (N:=some 30) (v:=?_) (a' := ?_) #[true,true,true,true,true,true,true,true,true,true,true,true,true,true,true,true,true,true,false,false,false,false,false,false,false] rfl rfl (any_of HT_.out (by kernel_rfl)) (fun _ _ _ h => h) (Or.inl ⟨by rfl,?_⟩) ?_ ?_;rotate_left
             · intro w';go_simp
               with_reducible rfl
             rotate_left
             · simp only [Act.put,List.setIfInBounds_toArray,List.set_cons_zero,List.set_cons_succ,i64_w,i32_w];rfl
             refine pure_ (i:=18) (N:=some 31) (v:=?_) (a' := ?_) #[true,true,true,true,true,true,true,true,true,true,true,true,true,true,true,true,true,true,true,false,false,false,false,false,false] rfl rfl (any_of HT_.out (by kernel_rfl)) (fun _ _ _ h => h) (Or.inl ⟨by rfl,?_⟩) ?_ ?_;rotate_left
             · intro w';go_simp
               with_reducible rfl
             rotate_left
             · simp only [Act.put,List.setIfInBounds_toArray,List.set_cons_zero,List.set_cons_succ,i64_w,i32_w];rfl
             refine take_ (i:=19) (N:=some 32) (v:=?_) (a' := ?_) #[true,true,true,true,true,true,true,true,true,true,true,true,true,true,true,true,true,true,true,true,false,false,false,false,false] rfl rfl (Z67 HT_.out HW_.out (by kernel_rfl)) (fun _ _ _ h => h) (Or.inl ⟨by rfl,?_⟩) hHeld ?_ ?_;rotate_left
             · rintro w' ⟨s0,s1,s2,s3,s4,s5,s6,s7,s8,s9,s10,s11,s12,s13,s14,s15,s16,s17,s18,s19,s20,s21⟩;go_simp
               with_reducible rfl
             rotate_left
             · simp only [Act.put,List.setIfInBounds_toArray,List.set_cons_zero,List.set_cons_succ,i64_w,i32_w];rfl
             refine pure_ (i:=20) (N:=some 33) (v:=?_) (a' := ?_) #[true,true,true,true,true,true,true,true,true,true,true,true,true,true,true,true,true,true,true,true,true,false,false,false,false] rfl rfl (any_of HT_.out (by kernel_rfl)) (fun _ _ _ h => h) (Or.inl ⟨by rfl,?_⟩) ?_ ?_;rotate_left
             · intro w';go_simp
               with_reducible rfl
             rotate_left
             · simp only [Act.put,List.setIfInBounds_toArray,List.set_cons_zero,List.set_cons_succ,i64_w,i32_w];rfl
             refine one_ (i:=21) (N:=some 34) #[true,true,true,true,true,true,true,true,true,true,true,true,true,true,true,true,true,true,true,true,true,true,false,false,false] rfl rfl (one_of HT_.out (by kernel_rfl)) (by decide) (fun K hK => ?_);refine value_ (w1:=?_) (v:=?_) (by rfl) rfl ?_ ?_;rotate_left 2
             · go_simp;constructor
               · rfl
               · rfl
             refine hK.out _ _ ⟨(Z5 (Z1 BK103.out _) 0).trans rfl,(Z5 (Z1 BK103.out _) 1).trans rfl,(Z5 (Z1 BK103.out _) 2).trans rfl,(Z5 (Z1 BK103.out _) 3).trans rfl,(Z5 (Z1 BK103.out _) 4).trans rfl,(Z5 (Z1 BK101.out _) 0).trans rfl,(Z5 (Z1 BK101.out _) 1).trans rfl,(Z5 (Z1 BK101.out _) 2).trans rfl,(Z5 (Z1 BK101.out _) 3).trans rfl,(Z5 (Z1 BK101.out _) 4).trans rfl,(World.cell?_alloc_lt _ _ _ (World.block_lt_of_cell? _ _ (hHeld.2.2.2.2.2.2.2.2.2.2.1))).trans (hHeld.2.2.2.2.2.2.2.2.2.2.1),(World.cell?_alloc_lt _ _ _ (World.block_lt_of_cell? _ _ (hHeld.2.2.2.2.2.2.2.2.2.2.2.1))).trans (hHeld.2.2.2.2.2.2.2.2.2.2.2.1),(World.cell?_alloc_lt _ _ _ (World.block_lt_of_cell? _ _ (hHeld.2.2.2.2.2.2.2.2.2.2.2.2.1))).trans (hHeld.2.2.2.2.2.2.2.2.2.2.2.2.1),(World.cell?_alloc_lt _ _ _ (World.block_lt_of_cell? _ _ (hHeld.2.2.2.2.2.2.2.2.2.2.2.2.2.1))).trans (hHeld.2.2.2.2.2.2.2.2.2.2.2.2.2.1),(World.cell?_alloc_lt _ _ _ (World.block_lt_of_cell? _ _ (hHeld.2.2.2.2.2.2.2.2.2.2.2.2.2.2.1))).trans (hHeld.2.2.2.2.2.2.2.2.2.2.2.2.2.2.1),(World.cell?_alloc_lt _ _ _ (World.block_lt_of_cell? _ _ (hHeld.2.2.2.2.2.2.2.2.2.2.2.2.2.2.2.1))).trans (hHeld.2.2.2.2.2.2.2.2.2.2.2.2.2.2.2.1),(World.cell?_alloc_lt _ _ _ (World.block_lt_of_cell? _ _ (hHeld.2.2.2.2.2.2.2.2.2.2.2.2.2.2.2.2.1))).trans (hHeld.2.2.2.2.2.2.2.2.2.2.2.2.2.2.2.2.1),(World.cell?_alloc_lt _ _ _ (World.block_lt_of_cell? _ _ (hHeld.2.2.2.2.2.2.2.2.2.2.2.2.2.2.2.2.2.1))).trans (hHeld.2.2.2.2.2.2.2.2.2.2.2.2.2.2.2.2.2.1),(World.cell?_alloc_lt _ _ _ (World.block_lt_of_cell? _ _ (hHeld.2.2.2.2.2.2.2.2.2.2.2.2.2.2.2.2.2.2.1))).trans (hHeld.2.2.2.2.2.2.2.2.2.2.2.2.2.2.2.2.2.2.1),(World.cell?_alloc_lt _ _ _ (World.block_lt_of_cell? _ _ (hHeld.2.2.2.2.2.2.2.2.2.2.2.2.2.2.2.2.2.2.2.1))).trans (hHeld.2.2.2.2.2.2.2.2.2.2.2.2.2.2.2.2.2.2.2.1),(World.cell?_alloc_lt _ _ _ (World.block_lt_of_cell? _ _ (hHeld.2.2.2.2.2.2.2.2.2.2.2.2.2.2.2.2.2.2.2.2.1))).trans (hHeld.2.2.2.2.2.2.2.2.2.2.2.2.2.2.2.2.2.2.2.2.1),(World.cell?_alloc_lt _ _ _ (World.block_lt_of_cell? _ _ (hHeld.2.2.2.2.2.2.2.2.2.2.2.2.2.2.2.2.2.2.2.2.2))).trans (hHeld.2.2.2.2.2.2.2.2.2.2.2.2.2.2.2.2.2.2.2.2.2)⟩ (fun hHeld => ?_);clear hK K;refine norm_ (a' := ?_) ?_ ?_;rotate_left
             · show Act.put _ (some 34) _ = _
               simp only [Act.put,List.setIfInBounds_toArray,List.set_cons_zero,List.set_cons_succ,i64_w,i32_w];rfl
             refine last_ (i:=22) (N:=some 35) #[true,true,true,true,true,true,true,true,true,true,true,true,true,true,true,true,true,true,true,true,true,true,true,false,false] rfl rfl (one_of HT_.out (by kernel_rfl)) (by decide) (fun K hK => ?_);refine Kd.N_append_step k45 (w0:=w) w.heap.size (by rfl) (.tmp 14) (.tmp 34) 22 45 (.agg #[(.slice none 0 0),(.int .i64 0),(.int .i64 0),(.slice none 0 0)]) 64 rfl Try.underlying22 info45 rfl (by decide) (by omega) u104004 x104004_1 (⟨([] : List (S59)),(rd_T45 x102004_1 x4_1).f1,(rd_T45 x102004_1 x4_1).f2,(rd_T45 x102004_1 x4_1).f3⟩ : S45) [.slice none 0 0,.int .i64 ((rd_T45 x102004_1 x4_1).f1),.int .i64 ((rd_T45 x102004_1 x4_1).f2),.slice A104_3 ((rd_T45 x102004_1 x4_1).f3).length c104_3] (fun k_ => (P0_4_ k_ ∨ w.heap.size ≤ k_) ∧ k_ ≠ gb101 ∧ k_ ≠ gb102 ∧ k_ ≠ gb103) (fun k_ => ((fun k_ => (P0_4_ k_ ∨ w.heap.size ≤ k_) ∧ k_ ≠ gb101 ∧ k_ ≠ gb102 ∧ k_ ≠ gb103)) k_ ∧ some k_ ≠ (u104004 : Value).ownBlock) rfl rfl ?aP (fun _ hk => hk) ?aF ?aO ?aB ?aS ?aL ?_;(case aP => exact (k45_mkF _ _ (⟨([] : List (S59)),(rd_T45 x102004_1 x4_1).f1,(rd_T45 x102004_1 x4_1).f2,(rd_T45 x102004_1 x4_1).f3⟩ : S45) (Nat.le_refl _) (Kd.F_nil _ _ _) (Kd.V_reads' (Kd.V_mono (ok' := (fun k_ => ((fun k_ => (P0_4_ k_ ∨ w.heap.size ≤ k_) ∧ k_ ≠ gb101 ∧ k_ ≠ gb102 ∧ k_ ≠ gb103)) k_ ∧ some k_ ≠ (u104004 : Value).ownBlock)) (HL105_3.out) (fun k_ hk => ⟨⟨hk.1,⟨hk.2.2.1,⟨hk.2.2.2.1,hk.2.2.2.2⟩⟩⟩,hk.2.1⟩))).2.1 (Kd.V_F (Kd.V_mono (ok' := (fun k_ => ((fun k_ => (P0_4_ k_ ∨ w.heap.size ≤ k_) ∧ k_ ≠ gb101 ∧ k_ ≠ gb102 ∧ k_ ≠ gb103)) k_ ∧ some k_ ≠ (u104004 : Value).ownBlock)) (HL105_3.out) (fun k_ hk => ⟨⟨hk.1,⟨hk.2.2.1,⟨hk.2.2.2.1,hk.2.2.2.2⟩⟩⟩,hk.2.1⟩)))));(case aB => exact YH);(case aF => exact (fun k_ hk => ⟨(.inr (Nat.le_trans (Z27 YH) hk)),Kd.freshB (YK BK101) k_ hk,Kd.freshB (YK BK102) k_ hk,Kd.freshB (YK BK103) k_ hk⟩));(case aO => exact (YN HO_104004));(case aS => exact (Z27 YH));(case aL => have:=LMc10.out;omega);intro v108 w19 ho hb hg hat;rw [← Ny107.out] at ho;have n0_:=Aside0.mk (Kd.V_afterv (ok:=(fun k_ => (P0_4_ k_ ∨ w.heap.size ≤ k_) ∧ k_ ≠ gb101 ∧ k_ ≠ gb102 ∧ k_ ≠ gb103)) (by (with_reducible repeat (first|apply Kd.V_alloc|apply Kd.V_drewN|apply Kd.V_drew));exact Kd.V_mono HO_102004.out (fun _ hk => ⟨⟨hk.1,⟨hk.2.2.1,⟨hk.2.2.2.1,hk.2.2.2.2⟩⟩⟩,hk.2.1⟩)) hg hat)
             have n1_:=Aside0.mk (Z89 (YK BK101) hg (Kd.N_ne HO_104004.out BK101.out (by decide)))
             have n2_:=Aside0.mk (Z89 (YK BK102) hg (Kd.N_ne HO_104004.out BK102.out (by decide)))
             have n3_:=Aside0.mk (Z89 (YK BK103) hg (Kd.N_ne HO_104004.out BK103.out (by decide)))
             have n4_:=Aside0.mk (Kd.V_afterv (ok:=(fun k_ => (P0_4_ k_ ∨ w.heap.size ≤ k_) ∧ k_ ≠ gb101 ∧ k_ ≠ gb102 ∧ k_ ≠ gb103)) (by (with_reducible repeat (first|apply Kd.V_alloc|apply Kd.V_drewN|apply Kd.V_drew));exact Kd.V_mono HL104_0.out (fun _ hk => ⟨⟨hk.1,⟨hk.2.2.1,⟨hk.2.2.2.1,hk.2.2.2.2⟩⟩⟩,hk.2.1⟩)) hg hat)
             have n5_:=Aside0.mk (Kd.V_afterv (ok:=(fun k_ => (P0_4_ k_ ∨ w.heap.size ≤ k_) ∧ k_ ≠ gb101 ∧ k_ ≠ gb102 ∧ k_ ≠ gb103)) (by (with_reducible repeat (first|apply Kd.V_alloc|apply Kd.V_drewN|apply Kd.V_drew));exact Kd.V_mono HL104_3.out (fun _ hk => ⟨⟨hk.1,⟨hk.2.2.1,⟨hk.2.2.2.1,hk.2.2.2.2⟩⟩⟩,hk.2.1⟩)) hg hat)
             have n6_:=Aside0.mk (Kd.V_afterv (ok:=(fun k_ => (P0_4_ k_ ∨ w.heap.size ≤ k_) ∧ k_ ≠ gb101 ∧ k_ ≠ gb102 ∧ k_ ≠ gb103)) (by (with_reducible repeat (first|apply Kd.V_alloc|apply Kd.V_drewN|apply Kd.V_drew));exact Kd.V_mono HL105_0.out (fun _ hk => ⟨⟨hk.1,⟨hk.2.2.1,⟨hk.2.2.2.1,hk.2.2.2.2⟩⟩⟩,hk.2.1⟩)) hg hat)
             have n7_:=Aside0.mk (Kd.V_afterv (ok:=(fun k_ => (P0_4_ k_ ∨ w.heap.size ≤ k_) ∧ k_ ≠ gb101 ∧ k_ ≠ gb102 ∧ k_ ≠ gb103)) (by (with_reducible repeat (first|apply Kd.V_alloc|apply Kd.V_drewN|apply Kd.V_drew));exact Kd.V_mono HL105_3.out (fun _ hk => ⟨⟨hk.1,⟨hk.2.2.1,⟨hk.2.2.2.1,hk.2.2.2.2⟩⟩⟩,hk.2.1⟩)) hg hat)
             have n8_:=Aside0.mk (Kd.V_afterv (ok:=(fun k_ => (P0_4_ k_ ∨ w.heap.size ≤ k_) ∧ k_ ≠ gb101 ∧ k_ ≠ gb102 ∧ k_ ≠ gb103)) (by (with_reducible repeat (first|apply Kd.V_alloc|apply Kd.V_drewN|apply Kd.V_drew));exact Kd.V_mono HL106_0.out (fun _ hk => ⟨⟨hk.1,⟨hk.2.2.1,⟨hk.2.2.2.1,hk.2.2.2.2⟩⟩⟩,hk.2.1⟩)) hg hat)
             have n9_:=Aside0.mk (Kd.V_afterv (ok:=(fun k_ => (P0_4_ k_ ∨ w.heap.size ≤ k_) ∧ k_ ≠ gb101 ∧ k_ ≠ gb102 ∧ k_ ≠ gb103)) (by (with_reducible repeat (first|apply Kd.V_alloc|apply Kd.V_drewN|apply Kd.V_drew));exact Kd.V_mono HL106_3.out (fun _ hk => ⟨⟨hk.1,⟨hk.2.2.1,⟨hk.2.2.2.1,hk.2.2.2.2⟩⟩⟩,hk.2.1⟩)) hg hat)
             have n10_:=Aside0.mk (hb)
             have n11_:=Aside0.mk (ho)
             clear HO_102004;clear BK101;clear BK102;clear BK103;clear HL104_0;clear HL104_3;clear HL105_0;clear HL105_3;clear HL106_0;clear HL106_3;clear HB;clear HO_104004;have HO_102004:=n0_
             have BK101:=n1_
             have BK102:=n2_
             have BK103:=n3_
             have HL104_0:=n4_
             have HL104_3:=n5_
             have HL105_0:=n6_
             have HL105_3:=n7_
             have HL106_0:=n8_
             have HL106_3:=n9_
             have HB:=n10_
             have HO109:=n11_
             clear n0_ n1_ n2_ n3_ n4_ n5_ n6_ n7_ n8_ n9_ n10_ n11_;clear ho hb hg hat;obtain ⟨Ao20,co20,eo20⟩:=Kd.N_slice HO109.out
             (first|subst eo20|(injection eo20 with f1_ f2_ f3_;have f4_:=f1_.symm;have f5_:=f3_.symm;clear f1_ f2_ f3_;subst f4_;subst f5_));refine hK.out _ _ ?_;clear hK K;refine norm_ (a' := ?_) ?_ ?_;rotate_left
             · show Act.put _ (some 35) _ = _
               simp only [Act.put,List.setIfInBounds_toArray,List.set_cons_zero,List.set_cons_succ,i64_w,i32_w];rfl
             refine pure_ (i:=23) (N:=some 36) (v:=?_) (a' := ?_) #[true,true,true,true,true,true,true,true,true,true,true,true,true,true,true,true,true,true,true,true,true,true,true,true,false] rfl rfl (any_of HT_.out (by kernel_rfl)) (fun _ _ _ h => h) (Or.inl ⟨by rfl,?_⟩) ?_ ?_;rotate_left
             · intro w';go_simp
               with_reducible rfl
             rotate_left
             · simp only [Act.put,List.setIfInBounds_toArray,List.set_cons_zero,List.set_cons_succ,i64_w,i32_w];rfl
             refine last_ (i:=24) (N:=none) #[true,true,true,true,true,true,true,true,true,true,true,true,true,true,true,true,true,true,true,true,true,true,true,true,true] rfl rfl (one_of HT_.out (by kernel_rfl)) (by decide) (fun K hK => ?_);have hs21 : w19.cell? ⟨gb103,4,none⟩ = some (u104004):=(Z5 BK103.out 4).trans rfl
             have hfs21:=Z2 BK103.out 4
             have hns21_0:=NB101_103.out
             have hns21_1:=NB102_103.out
             have hms21_0:=NB103_101.out
             have hms21_1:=NB103_102.out
             refine skip_ (w1:=?_) (by rfl) rfl ?_ ?_;rotate_left
             · go_simp;rfl
             refine hK.out _ _ ?_;clear hK K;refine done_ (Z83 HT_.out (by kernel_rfl)) ?_;have n0_ : Aside0 (Kd.V k45 45 (w19.setCell ⟨gb103,4,none⟩ (.slice Ao20 y107.length co20)) w.heap.size (fun k_ => (P0_4_ k_ ∨ w.heap.size ≤ k_) ∧ some k_ ≠ (.slice Ao20 y107.length co20 : Value).ownBlock ∧ k_ ≠ gb101 ∧ k_ ≠ gb102 ∧ k_ ≠ gb103) (.slice (some ad104) x102004_1.length co17) x102004_1):=⟨by (with_reducible repeat (first|apply Kd.V_alloc|apply Kd.V_drewN|apply Kd.V_drew));exact Kd.V_mono (Kd.V_far (p:=⟨gb103,4,none⟩) (Kd.V_mono HO_102004.out (fun k_ hk => (⟨hk,hk.1.2.2.2⟩ : _ ∧ k_ ≠ gb103))) (fun _ hk => hk.2) (.slice Ao20 y107.length co20)) (fun _ hk => ⟨hk.1.1.1,⟨hk.1.2,⟨hk.1.1.2.1,⟨hk.1.1.2.2.1,hk.1.1.2.2.2⟩⟩⟩⟩)⟩
             have n1_ : Aside0 (Kd.V k59 59 (w19.setCell ⟨gb103,4,none⟩ (.slice Ao20 y107.length co20)) w.heap.size (fun k_ => (P0_4_ k_ ∨ w.heap.size ≤ k_) ∧ some k_ ≠ (.slice Ao20 y107.length co20 : Value).ownBlock ∧ k_ ≠ gb101 ∧ k_ ≠ gb102 ∧ k_ ≠ gb103) (.slice A104_0 ((rd_T45 x102004_1 x4_1).f0).length c104_0) ((rd_T45 x102004_1 x4_1).f0)):=⟨by (with_reducible repeat (first|apply Kd.V_alloc|apply Kd.V_drewN|apply Kd.V_drew));exact Kd.V_mono (Kd.V_far (p:=⟨gb103,4,none⟩) (Kd.V_mono HL104_0.out (fun k_ hk => (⟨hk,hk.1.2.2.2⟩ : _ ∧ k_ ≠ gb103))) (fun _ hk => hk.2) (.slice Ao20 y107.length co20)) (fun _ hk => ⟨hk.1.1.1,⟨hk.1.2,⟨hk.1.1.2.1,⟨hk.1.1.2.2.1,hk.1.1.2.2.2⟩⟩⟩⟩)⟩
             have n2_ : Aside0 (Kd.V (Kd.int .i64) 3 (w19.setCell ⟨gb103,4,none⟩ (.slice Ao20 y107.length co20)) w.heap.size (fun k_ => (P0_4_ k_ ∨ w.heap.size ≤ k_) ∧ some k_ ≠ (.slice Ao20 y107.length co20 : Value).ownBlock ∧ k_ ≠ gb101 ∧ k_ ≠ gb102 ∧ k_ ≠ gb103) (.slice A104_3 ((rd_T45 x102004_1 x4_1).f3).length c104_3) ((rd_T45 x102004_1 x4_1).f3)):=⟨by (with_reducible repeat (first|apply Kd.V_alloc|apply Kd.V_drewN|apply Kd.V_drew));exact Kd.V_mono (Kd.V_far (p:=⟨gb103,4,none⟩) (Kd.V_mono HL104_3.out (fun k_ hk => (⟨hk,hk.1.2.2.2⟩ : _ ∧ k_ ≠ gb103))) (fun _ hk => hk.2) (.slice Ao20 y107.length co20)) (fun _ hk => ⟨hk.1.1.1,⟨hk.1.2,⟨hk.1.1.2.1,⟨hk.1.1.2.2.1,hk.1.1.2.2.2⟩⟩⟩⟩)⟩
             have n3_ : Aside0 (Kd.V k59 59 (w19.setCell ⟨gb103,4,none⟩ (.slice Ao20 y107.length co20)) w.heap.size (fun k_ => (P0_4_ k_ ∨ w.heap.size ≤ k_) ∧ some k_ ≠ (.slice Ao20 y107.length co20 : Value).ownBlock ∧ k_ ≠ gb101 ∧ k_ ≠ gb102 ∧ k_ ≠ gb103) (.slice A104_0 ((rd_T45 x102004_1 x4_1).f0).length c104_0) ((rd_T45 x102004_1 x4_1).f0)):=⟨by (with_reducible repeat (first|apply Kd.V_alloc|apply Kd.V_drewN|apply Kd.V_drew));exact Kd.V_mono (Kd.V_far (p:=⟨gb103,4,none⟩) (Kd.V_mono HL105_0.out (fun k_ hk => (⟨hk,hk.1.2.2.2⟩ : _ ∧ k_ ≠ gb103))) (fun _ hk => hk.2) (.slice Ao20 y107.length co20)) (fun _ hk => ⟨hk.1.1.1,⟨hk.1.2,⟨hk.1.1.2.1,⟨hk.1.1.2.2.1,hk.1.1.2.2.2⟩⟩⟩⟩)⟩
             have n4_ : Aside0 (Kd.V (Kd.int .i64) 3 (w19.setCell ⟨gb103,4,none⟩ (.slice Ao20 y107.length co20)) w.heap.size (fun k_ => (P0_4_ k_ ∨ w.heap.size ≤ k_) ∧ some k_ ≠ (.slice Ao20 y107.length co20 : Value).ownBlock ∧ k_ ≠ gb101 ∧ k_ ≠ gb102 ∧ k_ ≠ gb103) (.slice A104_3 ((rd_T45 x102004_1 x4_1).f3).length c104_3) ((rd_T45 x102004_1 x4_1).f3)):=⟨by (with_reducible repeat (first|apply Kd.V_alloc|apply Kd.V_drewN|apply Kd.V_drew));exact Kd.V_mono (Kd.V_far (p:=⟨gb103,4,none⟩) (Kd.V_mono HL105_3.out (fun k_ hk => (⟨hk,hk.1.2.2.2⟩ : _ ∧ k_ ≠ gb103))) (fun _ hk => hk.2) (.slice Ao20 y107.length co20)) (fun _ hk => ⟨hk.1.1.1,⟨hk.1.2,⟨hk.1.1.2.1,⟨hk.1.1.2.2.1,hk.1.1.2.2.2⟩⟩⟩⟩)⟩
             have n5_ : Aside0 (Kd.V k59 59 (w19.setCell ⟨gb103,4,none⟩ (.slice Ao20 y107.length co20)) w.heap.size (fun k_ => (P0_4_ k_ ∨ w.heap.size ≤ k_) ∧ some k_ ≠ (.slice Ao20 y107.length co20 : Value).ownBlock ∧ k_ ≠ gb101 ∧ k_ ≠ gb102 ∧ k_ ≠ gb103) (.slice A104_0 ((rd_T45 x102004_1 x4_1).f0).length c104_0) ((rd_T45 x102004_1 x4_1).f0)):=⟨by (with_reducible repeat (first|apply Kd.V_alloc|apply Kd.V_drewN|apply Kd.V_drew));exact Kd.V_mono (Kd.V_far (p:=⟨gb103,4,none⟩) (Kd.V_mono HL106_0.out (fun k_ hk => (⟨hk,hk.1.2.2.2⟩ : _ ∧ k_ ≠ gb103))) (fun _ hk => hk.2) (.slice Ao20 y107.length co20)) (fun _ hk => ⟨hk.1.1.1,⟨hk.1.2,⟨hk.1.1.2.1,⟨hk.1.1.2.2.1,hk.1.1.2.2.2⟩⟩⟩⟩)⟩
             have n6_ : Aside0 (Kd.V (Kd.int .i64) 3 (w19.setCell ⟨gb103,4,none⟩ (.slice Ao20 y107.length co20)) w.heap.size (fun k_ => (P0_4_ k_ ∨ w.heap.size ≤ k_) ∧ some k_ ≠ (.slice Ao20 y107.length co20 : Value).ownBlock ∧ k_ ≠ gb101 ∧ k_ ≠ gb102 ∧ k_ ≠ gb103) (.slice A104_3 ((rd_T45 x102004_1 x4_1).f3).length c104_3) ((rd_T45 x102004_1 x4_1).f3)):=⟨by (with_reducible repeat (first|apply Kd.V_alloc|apply Kd.V_drewN|apply Kd.V_drew));exact Kd.V_mono (Kd.V_far (p:=⟨gb103,4,none⟩) (Kd.V_mono HL106_3.out (fun k_ hk => (⟨hk,hk.1.2.2.2⟩ : _ ∧ k_ ≠ gb103))) (fun _ hk => hk.2) (.slice Ao20 y107.length co20)) (fun _ hk => ⟨hk.1.1.1,⟨hk.1.2,⟨hk.1.1.2.1,⟨hk.1.1.2.2.1,hk.1.1.2.2.2⟩⟩⟩⟩)⟩
             have n7_ : Aside0 (Kd.N k45 45 (w19.setCell ⟨gb103,4,none⟩ (.slice Ao20 y107.length co20)) w.heap.size (fun k_ => (P0_4_ k_ ∨ w.heap.size ≤ k_) ∧ k_ ≠ gb101 ∧ k_ ≠ gb102 ∧ k_ ≠ gb103) (.slice Ao20 y107.length co20) y107):=⟨by (with_reducible repeat (first|apply Kd.N_alloc|apply Kd.N_drewN|apply Kd.N_drew));exact Kd.N_mono (Kd.N_far (p:=⟨gb103,4,none⟩) (Kd.N_mono HO109.out (fun k_ hk => (⟨hk,hk.2.2.2⟩ : _ ∧ k_ ≠ gb103))) (fun _ hk => hk.2) (.slice Ao20 y107.length co20)) (fun _ hk => ⟨hk.1.1,⟨hk.1.2.1,⟨hk.1.2.2.1,hk.1.2.2.2⟩⟩⟩)⟩
             have n8_ : Aside0 ((w19.setCell ⟨gb103,4,none⟩ (.slice Ao20 y107.length co20)).heap[gb101]? = some (.cells #[.string a0_0,.int .i64 a0_1,.int .i64 a0_2,.int .i64 a0_3,.slice (some ad104) x102004_1.length co17] 24 (0,0))):=⟨by (with_reducible repeat (first|refine Z0 ?_ _|refine Z3 ?_|refine Z1 ?_ _));refine Z22 ?_ NB101_103.out _;(with_reducible repeat (first|refine Z0 ?_ _|refine Z3 ?_|refine Z1 ?_ _));exact BK101.out⟩
             have n9_ : Aside0 ((w19.setCell ⟨gb103,4,none⟩ (.slice Ao20 y107.length co20)).heap[gb102]? = some (.cells #[.string (⟨#[]⟩ : ByteArray),.int .i64 0,.int .i64 0,.int .i64 0,.slice none 0 0] 24 (0,0))):=⟨by (with_reducible repeat (first|refine Z0 ?_ _|refine Z3 ?_|refine Z1 ?_ _));refine Z22 ?_ NB102_103.out _;(with_reducible repeat (first|refine Z0 ?_ _|refine Z3 ?_|refine Z1 ?_ _));exact BK102.out⟩
             have n10_ : Aside0 ((w19.setCell ⟨gb103,4,none⟩ (.slice Ao20 y107.length co20)).heap[gb103]? = some (.cells #[.string (⟨#[]⟩ : ByteArray),.int .i64 0,.int .i64 1,.int .i64 0,.slice Ao20 y107.length co20] 24 (0,0))):=⟨by (with_reducible repeat (first|refine Z0 ?_ _|refine Z3 ?_|refine Z1 ?_ _));refine Z9 (cs:=#[.string (⟨#[]⟩ : ByteArray),.int .i64 0,.int .i64 1,.int .i64 0,u104004]) ?_ 4 _ rfl;(with_reducible repeat (first|refine Z0 ?_ _|refine Z3 ?_|refine Z1 ?_ _));exact BK103.out⟩
             have n11_ : Aside0 (Below w.heap.size w (w19.setCell ⟨gb103,4,none⟩ (.slice Ao20 y107.length co20))):=⟨YH⟩
             (try clear HO_102004);(try clear HL104_0);(try clear HL104_3);(try clear HL105_0);(try clear HL105_3);(try clear HL106_0);(try clear HL106_3);(try clear HO109);(try clear BK101);(try clear BK102);(try clear BK103);(try clear HB);generalize (w19.setCell ⟨gb103,4,none⟩ (.slice Ao20 y107.length co20)) = w22 at n0_ n1_ n2_ n3_ n4_ n5_ n6_ n7_ n8_ n9_ n10_ n11_ ⊢;have HO_102004:=n0_
             have HL104_0:=n1_
             have HL104_3:=n2_
             have HL105_0:=n3_
             have HL105_3:=n4_
             have HL106_0:=n5_
             have HL106_3:=n6_
             have HO109:=n7_
             have BK101:=n8_
             have BK102:=n9_
             have BK103:=n10_
             have HB:=n11_
             clear n0_ n1_ n2_ n3_ n4_ n5_ n6_ n7_ n8_ n9_ n10_ n11_;have hnb23:=NB103_102.out
             have hnc23:=NB102_103.out
             have hcz24_4 : w22.cell? ⟨gb103,4,none⟩ = some (.slice Ao20 y107.length co20):=(Z5 BK103.out 4).trans rfl
             have p110 : 0 ≤ (x4_1 : Int):=YA
             have q110 : x4_1 < (y107.length : Int):=YA
             obtain ⟨ad110,A110_0,c110_0,A110_3,c110_3,e110,hx110_0,hx110_1,hx110_2,hx110_3,hl110_0,hi110_0,hl110_3,hi110_3⟩:=at_T45 (Kd.N_reads' HO109.out).2.2 x4_1 p110 q110
             cases e110;obtain ⟨ce110,hce110,hMe110,hcc110⟩:=Kd.N_get HO109.out z45 x4_1 p110 (by first|exact q110|exact YA|(have e_:=(Kd.N_reads' HO109.out).1;omega))
             obtain ⟨ua110_0,uc110_0,ua110_3,uc110_3,rfl,ul110_0,ge110_0,ul110_3,ge110_3⟩:=k45_openF hMe110
             have hv110_0:=hcc110 0 _ rfl
             rw [Nat.add_zero] at hv110_0;replace hv110_0:=Option.some.inj (hv110_0.symm.trans hx110_0)
             injection hv110_0 with hva_ hvn_ hvc_
             rw [hva_] at ge110_0;rw [hvc_] at ul110_0;have HL110_0:=Aside0.mk (show Kd.V k59 59 _ w.heap.size _ _ ((rd_T45 y107 x4_1).f0) from Kd.V_mk ul110_0 ge110_0)
             clear hva_ hvn_ hvc_ ge110_0 ul110_0;have hv110_3:=hcc110 3 _ rfl
             rw [add_field _ _ 3 (by omega)] at hv110_3;replace hv110_3:=Option.some.inj (hv110_3.symm.trans hx110_3)
             injection hv110_3 with hva_ hvn_ hvc_
             rw [hva_] at ge110_3;rw [hvc_] at ul110_3;have HL110_3:=Aside0.mk (show Kd.V (Kd.int .i64) 3 _ w.heap.size _ _ ((rd_T45 y107 x4_1).f3) from Kd.V_mk ul110_3 ge110_3)
             clear hva_ hvn_ hvc_ ge110_3 ul110_3;clear hcc110 hce110;clear hi110_0 hl110_0;clear hi110_3 hl110_3;replace p110:=eq_true p110
             replace q110:=eq_true q110
             have p13 : 0 ≤ (x4_1 : Int):=YA
             have q13 : (x4_1 : Int) < ((y107.length : Int) : Int):=YA
             obtain ⟨go13,co13,eo13,gb13,gl13,cl13,HG13⟩:=Kd.N_form HO109.out (by omega)
             (first|cases eo13|(injection eo13 with ea_ en_ ec_;(first|subst ea_|(injection ea_ with ea_;subst ea_));subst ec_;clear en_));have GB13:=Aside0.mk gb13
             have GG13:=Aside0.mk HG13
             clear gb13 gl13 HG13;(first|simp only [add_plain] at hx110_0|skip);(first|simp only [add_plain] at hx110_1|skip);(first|simp only [add_plain] at hx110_2|skip);(first|simp only [add_plain] at hx110_3|skip);obtain ⟨ce13,hcl13,hM13,hcc13,hfr13⟩:=Kd.N_elem HO109.out z45 (x4_1 : Int) p13 q13
             obtain ⟨ua13_0,uc13_0,ua13_3,uc13_3,rfl,ul13_0,ge13_0,ul13_3,ge13_3⟩:=k45_openF hM13
             have hf13_2 : w22.frozen? ⟨go13,(x4_1 : Int).toNat * 4 + 2,none⟩ = false:=hfr13 2
             clear hcl13 hcc13 hfr13 hM13;replace p13:=eq_true p13
             replace q13:=eq_true q13
             have HX25:=Aside0.mk (show Kd.N k45 45 w22 w.heap.size (fun k_ => (P0_4_ k_ ∨ w.heap.size ≤ k_) ∧ k_ ≠ gb101 ∧ k_ ≠ gb102 ∧ k_ ≠ gb103) (.slice (some ⟨go13,0,none⟩) y107.length co20) y107 from (YN HO109))
             obtain ⟨ce25,hcl25,hM25,hcc25,hfr25⟩:=Kd.N_elem HX25.out z45 (x4_1 : Int) YA (by have h_ : (x4_1 : Int) < ((y107.length : Int) : Int):=YA;first|exact h_|(have e_:=(Kd.N_reads' HO109.out).1;omega)|simpa using h_)
             obtain ⟨ua25_0,uc25_0,ua25_3,uc25_3,rfl,ul25_0,ge25_0,ul25_3,ge25_3⟩:=k45_openF hM25
             have HP25:=Kd.N_seg HX25.out (x4_1 : Int) YA (by have h_ : (x4_1 : Int) < ((y107.length : Int) : Int):=YA;first|exact h_|(have e_:=(Kd.N_reads' HO109.out).1;omega)|simpa using h_) (seg:=[.int .i64 0]) (j:=2) hcl25 hcc25 (show 3 ≤ 4 from by decide) (x' := (⟨(rd_T45 y107 x4_1).f0,(rd_T45 y107 x4_1).f1,0,(rd_T45 y107 x4_1).f3⟩ : S45)) (k45_mkF _ _ (⟨(rd_T45 y107 x4_1).f0,(rd_T45 y107 x4_1).f1,0,(rd_T45 y107 x4_1).f3⟩ : S45) ul25_0 ge25_0 ul25_3 ge25_3) (fun _ hk => hk)
             clear hcl25 hcc25 hfr25 hM25;try go_wp2_with (first|((with_reducible refine gate_store (t:=3) (p:=49) rfl ?_);refine store_event (t:=3) (p:=49) (v:=?vo_w26) (w1:=(w22.setCell ⟨go13,(x4_1 : Int).toNat * 4 + 2,none⟩ (.int .i64 0))) ?hg ?ho ?hn ?hr ?_;(case ho => rfl);(case hg => rfl);(case hn => rfl);(case hr => first|(go_simp;done)|(go_simp;rfl));intro w26 hw;have hg : w22.grownBy w26 (some go13):=(by rw [hw];exact HP25.2);have hp_ : Kd.N k45 45 w26 w.heap.size (fun k_ => (P0_4_ k_ ∨ w.heap.size ≤ k_) ∧ k_ ≠ gb101 ∧ k_ ≠ gb102 ∧ k_ ≠ gb103) (.slice (some ⟨go13,0,none⟩) y107.length co20) y111:=(by rw [hw,Ny111.out];exact HP25.1);clear HP25;have n0_:=Aside0.mk (Kd.V_afterv (v:=(.slice (some ⟨go13,0,none⟩) y107.length co20)) (v1:=(.slice (some ⟨go13,0,none⟩) y107.length co20)) (ok:=(fun k_ => (P0_4_ k_ ∨ w.heap.size ≤ k_) ∧ k_ ≠ gb101 ∧ k_ ≠ gb102 ∧ k_ ≠ gb103)) (by (with_reducible repeat (first|apply Kd.V_alloc|apply Kd.V_drewN|apply Kd.V_drew));exact Kd.V_mono HO_102004.out (fun _ hk => ⟨⟨hk.1,⟨hk.2.2.1,⟨hk.2.2.2.1,hk.2.2.2.2⟩⟩⟩,hk.2.1⟩)) hg (.inl rfl));have n1_:=Aside0.mk (Z89 (YK BK101) hg (Kd.N_ne HO109.out BK101.out (by decide)));have n2_:=Aside0.mk (Z89 (YK BK102) hg (Kd.N_ne HO109.out BK102.out (by decide)));have n3_:=Aside0.mk (Z89 (YK BK103) hg (Kd.N_ne HO109.out BK103.out (by decide)));have n4_:=Aside0.mk (Kd.V_afterv (v:=(.slice (some ⟨go13,0,none⟩) y107.length co20)) (v1:=(.slice (some ⟨go13,0,none⟩) y107.length co20)) (ok:=(fun k_ => (P0_4_ k_ ∨ w.heap.size ≤ k_) ∧ k_ ≠ gb101 ∧ k_ ≠ gb102 ∧ k_ ≠ gb103)) (by (with_reducible repeat (first|apply Kd.V_alloc|apply Kd.V_drewN|apply Kd.V_drew));exact Kd.V_mono HL104_0.out (fun _ hk => ⟨⟨hk.1,⟨hk.2.2.1,⟨hk.2.2.2.1,hk.2.2.2.2⟩⟩⟩,hk.2.1⟩)) hg (.inl rfl));have n5_:=Aside0.mk (Kd.V_afterv (v:=(.slice (some ⟨go13,0,none⟩) y107.length co20)) (v1:=(.slice (some ⟨go13,0,none⟩) y107.length co20)) (ok:=(fun k_ => (P0_4_ k_ ∨ w.heap.size ≤ k_) ∧ k_ ≠ gb101 ∧ k_ ≠ gb102 ∧ k_ ≠ gb103)) (by (with_reducible repeat (first|apply Kd.V_alloc|apply Kd.V_drewN|apply Kd.V_drew));exact Kd.V_mono HL104_3.out (fun _ hk => ⟨⟨hk.1,⟨hk.2.2.1,⟨hk.2.2.2.1,hk.2.2.2.2⟩⟩⟩,hk.2.1⟩)) hg (.inl rfl));have n6_:=Aside0.mk (Kd.V_afterv (v:=(.slice (some ⟨go13,0,none⟩) y107.length co20)) (v1:=(.slice (some ⟨go13,0,none⟩) y107.length co20)) (ok:=(fun k_ => (P0_4_ k_ ∨ w.heap.size ≤ k_) ∧ k_ ≠ gb101 ∧ k_ ≠ gb102 ∧ k_ ≠ gb103)) (by (with_reducible repeat (first|apply Kd.V_alloc|apply Kd.V_drewN|apply Kd.V_drew));exact Kd.V_mono HL105_0.out (fun _ hk => ⟨⟨hk.1,⟨hk.2.2.1,⟨hk.2.2.2.1,hk.2.2.2.2⟩⟩⟩,hk.2.1⟩)) hg (.inl rfl));have n7_:=Aside0.mk (Kd.V_afterv (v:=(.slice (some ⟨go13,0,none⟩) y107.length co20)) (v1:=(.slice (some ⟨go13,0,none⟩) y107.length co20)) (ok:=(fun k_ => (P0_4_ k_ ∨ w.heap.size ≤ k_) ∧ k_ ≠ gb101 ∧ k_ ≠ gb102 ∧ k_ ≠ gb103)) (by (with_reducible repeat (first|apply Kd.V_alloc|apply Kd.V_drewN|apply Kd.V_drew));exact Kd.V_mono HL105_3.out (fun _ hk => ⟨⟨hk.1,⟨hk.2.2.1,⟨hk.2.2.2.1,hk.2.2.2.2⟩⟩⟩,hk.2.1⟩)) hg (.inl rfl));have n8_:=Aside0.mk (Kd.V_afterv (v:=(.slice (some ⟨go13,0,none⟩) y107.length co20)) (v1:=(.slice (some ⟨go13,0,none⟩) y107.length co20)) (ok:=(fun k_ => (P0_4_ k_ ∨ w.heap.size ≤ k_) ∧ k_ ≠ gb101 ∧ k_ ≠ gb102 ∧ k_ ≠ gb103)) (by (with_reducible repeat (first|apply Kd.V_alloc|apply Kd.V_drewN|apply Kd.V_drew));exact Kd.V_mono HL106_0.out (fun _ hk => ⟨⟨hk.1,⟨hk.2.2.1,⟨hk.2.2.2.1,hk.2.2.2.2⟩⟩⟩,hk.2.1⟩)) hg (.inl rfl));have n9_:=Aside0.mk (Kd.V_afterv (v:=(.slice (some ⟨go13,0,none⟩) y107.length co20)) (v1:=(.slice (some ⟨go13,0,none⟩) y107.length co20)) (ok:=(fun k_ => (P0_4_ k_ ∨ w.heap.size ≤ k_) ∧ k_ ≠ gb101 ∧ k_ ≠ gb102 ∧ k_ ≠ gb103)) (by (with_reducible repeat (first|apply Kd.V_alloc|apply Kd.V_drewN|apply Kd.V_drew));exact Kd.V_mono HL106_3.out (fun _ hk => ⟨⟨hk.1,⟨hk.2.2.1,⟨hk.2.2.2.1,hk.2.2.2.2⟩⟩⟩,hk.2.1⟩)) hg (.inl rfl));have n10_:=Aside0.mk (hp_);have n11_:=Aside0.mk (Kd.V_afterv (v:=(.slice (some ⟨go13,0,none⟩) y107.length co20)) (v1:=(.slice (some ⟨go13,0,none⟩) y107.length co20)) (ok:=(fun k_ => (P0_4_ k_ ∨ w.heap.size ≤ k_) ∧ k_ ≠ gb101 ∧ k_ ≠ gb102 ∧ k_ ≠ gb103)) (YV HL110_0) hg (.inl rfl));have n12_:=Aside0.mk (Kd.V_afterv (v:=(.slice (some ⟨go13,0,none⟩) y107.length co20)) (v1:=(.slice (some ⟨go13,0,none⟩) y107.length co20)) (ok:=(fun k_ => (P0_4_ k_ ∨ w.heap.size ≤ k_) ∧ k_ ≠ gb101 ∧ k_ ≠ gb102 ∧ k_ ≠ gb103)) (YV HL110_3) hg (.inl rfl));have n13_:=Aside0.mk ((by rw [hw];exact Z8 (HB.out) GB13.out : Below w.heap.size w w26));clear HO_102004;clear BK101;clear BK102;clear BK103;clear HL104_0;clear HL104_3;clear HL105_0;clear HL105_3;clear HL106_0;clear HL106_3;clear HO109;clear HL110_0;clear HL110_3;clear HB;have HO_102004:=n0_;have BK101:=n1_;have BK102:=n2_;have BK103:=n3_;have HL104_0:=n4_;have HL104_3:=n5_;have HL105_0:=n6_;have HL105_3:=n7_;have HL106_0:=n8_;have HL106_3:=n9_;have HO109:=n10_;have HL110_0:=n11_;have HL110_3:=n12_;have HB:=n13_;clear n0_ n1_ n2_ n3_ n4_ n5_ n6_ n7_ n8_ n9_ n10_ n11_ n12_ n13_;clear hg hw hp_))
             go_roundg k1
             case measure => have:=HK1.out;omega
             case rel => exact ⟨(wrap64 (x4_1 + 1)),(x102004_1),(y111),(.slice (some ad104) x102004_1.length co17),(.slice (some ⟨go13,0,none⟩) y107.length co20),(by first|rfl|(simp;done)|(simp [*];done)),H',⟨by have:=HK1.out;omega⟩,⟨by (with_reducible repeat (first|apply Kd.V_alloc|apply Kd.V_drewN|apply Kd.V_drew));exact Kd.V_mono HO_102004.out (fun _ hk => ⟨hk.1.1,⟨hk.2,⟨hk.1.2.1,⟨hk.1.2.2.1,hk.1.2.2.2⟩⟩⟩⟩)⟩,⟨YN HO109⟩,⟨YK BK101⟩,⟨YK BK102⟩,⟨YK BK103⟩,⟨YH⟩⟩
           · rw [if_neg c12] at H;have c12b0 : (((rd_T45 y107 x4_1).f1) == 2) = false:=beq_eq_false_iff_ne.mpr c12
             by_cases c27 : ((rd_T45 y107 x4_1).f1) = 3
             · rw [if_pos c27] at H;have c27b0 : (((rd_T45 y107 x4_1).f1) == 3) = true:=beq_iff_eq.mpr c27
               clear c27;obtain ⟨y112,hy112⟩ : ∃ y_ : List (S45),y_ = (y107.set (x4_1 : Int).toNat (⟨(rd_T45 y107 x4_1).f0,(rd_T45 y107 x4_1).f1,(-1),(rd_T45 y107 x4_1).f3⟩ : S45)):=⟨_,rfl⟩
               replace H : (cruciblelaw17_bare.l0 k1 (wrap64 (x4_1 + 1)) a0_0 a0_1 a0_2 a0_3 x102004_1 (⟨#[]⟩ : ByteArray) 0 1 0 y112) = some (r1,r2,r3,r4,r5):=by first|(rw [hy112];with_reducible exact H)|(have H2_:=(Option.bind_some _ _).symm.trans H;rw [hy112];with_reducible exact H2_)|(have H2_:=(Option.bind_some _ _).symm.trans H;with_reducible exact H2_)|with_reducible exact H|(rw [hy112];exact H)|exact H
               have Ny112:=Aside0.mk hy112
               clear hy112;have H' := Aside0.mk H
               clear H;have hnb29:=NB101_102.out
               have hnc29:=NB102_101.out
               have hnb30:=NB101_103.out
               have hnc30:=NB103_101.out
               have hcz31_4 : wr.cell? ⟨gb101,4,none⟩ = some (u102004):=(Z5 BK101.out 4).trans rfl
               obtain ⟨Ao32,co32,eo32⟩:=Kd.V_slice HO_102004.out
               subst eo32;try go_wp2
               have n0_:=Aside0.mk (Kd.V_drew HO_102004.out)
               have n1_:=Aside0.mk (Kd.N_drew HO_104004.out)
               have n2_:=Aside0.mk (Z3 BK101.out)
               have n3_:=Aside0.mk (Z3 BK102.out)
               have n4_:=Aside0.mk (Z3 BK103.out)
               have n5_:=Aside0.mk (Z6 HB.out)
               clear HO_102004;clear HO_104004;clear BK101;clear BK102;clear BK103;clear HB;have HO_102004:=n0_
               have HO_104004:=n1_
               have BK101:=n2_
               have BK102:=n3_
               have BK103:=n4_
               have HB:=n5_
               clear n0_ n1_ n2_ n3_ n4_ n5_;have p104 : 0 ≤ (x4_1 : Int):=YA
               have q104 : x4_1 < (x102004_1.length : Int):=YA
               obtain ⟨ad104,A104_0,c104_0,A104_3,c104_3,e104,hx104_0,hx104_1,hx104_2,hx104_3,hl104_0,hi104_0,hl104_3,hi104_3⟩:=at_T45 (Kd.V_reads' HO_102004.out).2.2 x4_1 p104 q104
               cases e104;obtain ⟨ce104,hce104,hMe104,hcc104⟩:=Kd.V_get HO_102004.out z45 x4_1 p104 (by first|exact q104|exact YA|(have e_:=(Kd.V_reads' HO_102004.out).1;omega))
               obtain ⟨ua104_0,uc104_0,ua104_3,uc104_3,rfl,ul104_0,ge104_0,ul104_3,ge104_3⟩:=k45_openF hMe104
               have hv104_0:=hcc104 0 _ rfl
               rw [Nat.add_zero] at hv104_0;replace hv104_0:=Option.some.inj (hv104_0.symm.trans hx104_0)
               injection hv104_0 with hva_ hvn_ hvc_
               rw [hva_] at ge104_0;rw [hvc_] at ul104_0;have HL104_0:=Aside0.mk (show Kd.V k59 59 _ w.heap.size _ _ ((rd_T45 x102004_1 x4_1).f0) from Kd.V_mk ul104_0 ge104_0)
               clear hva_ hvn_ hvc_ ge104_0 ul104_0;have hv104_3:=hcc104 3 _ rfl
               rw [add_field _ _ 3 (by omega)] at hv104_3;replace hv104_3:=Option.some.inj (hv104_3.symm.trans hx104_3)
               injection hv104_3 with hva_ hvn_ hvc_
               rw [hva_] at ge104_3;rw [hvc_] at ul104_3;have HL104_3:=Aside0.mk (show Kd.V (Kd.int .i64) 3 _ w.heap.size _ _ ((rd_T45 x102004_1 x4_1).f3) from Kd.V_mk ul104_3 ge104_3)
               clear hva_ hvn_ hvc_ ge104_3 ul104_3;clear hcc104 hce104;clear hi104_0 hl104_0;clear hi104_3 hl104_3;replace p104:=eq_true p104
               replace q104:=eq_true q104
               have p105 : 0 ≤ (x4_1 : Int):=YA
               have q105 : x4_1 < (x102004_1.length : Int):=YA
               obtain ⟨ad105,A105_0,c105_0,A105_3,c105_3,e105,hx105_0,hx105_1,hx105_2,hx105_3,hl105_0,hi105_0,hl105_3,hi105_3⟩:=at_T45 (Kd.V_reads' HO_102004.out).2.2 x4_1 p105 q105
               obtain rfl : ad104 = ad105:=(by injection e105)
               obtain ⟨ce105,hce105,hMe105,hcc105⟩:=Kd.V_get HO_102004.out z45 x4_1 p105 (by first|exact q105|exact YA|(have e_:=(Kd.V_reads' HO_102004.out).1;omega))
               obtain ⟨ua105_0,uc105_0,ua105_3,uc105_3,rfl,ul105_0,ge105_0,ul105_3,ge105_3⟩:=k45_openF hMe105
               have hv105_0:=hcc105 0 _ rfl
               rw [Nat.add_zero] at hv105_0;replace hv105_0:=Option.some.inj (hv105_0.symm.trans hx105_0)
               injection hv105_0 with hva_ hvn_ hvc_
               rw [hva_] at ge105_0;rw [hvc_] at ul105_0;have HL105_0:=Aside0.mk (show Kd.V k59 59 _ w.heap.size _ _ ((rd_T45 x102004_1 x4_1).f0) from Kd.V_mk ul105_0 ge105_0)
               clear hva_ hvn_ hvc_ ge105_0 ul105_0;have hv105_3:=hcc105 3 _ rfl
               rw [add_field _ _ 3 (by omega)] at hv105_3;replace hv105_3:=Option.some.inj (hv105_3.symm.trans hx105_3)
               injection hv105_3 with hva_ hvn_ hvc_
               rw [hva_] at ge105_3;rw [hvc_] at ul105_3;have HL105_3:=Aside0.mk (show Kd.V (Kd.int .i64) 3 _ w.heap.size _ _ ((rd_T45 x102004_1 x4_1).f3) from Kd.V_mk ul105_3 ge105_3)
               clear hva_ hvn_ hvc_ ge105_3 ul105_3;clear hcc105 hce105;have HR105_0:=Aside0.mk hi105_0
               have HC105_0:=Aside0.mk hl105_0
               clear hi105_0 hl105_0;have HR105_3:=Aside0.mk hi105_3
               have HC105_3:=Aside0.mk hl105_3
               clear hi105_3 hl105_3;replace p105:=eq_true p105
               replace q105:=eq_true q105
               have ea_:=Option.some.inj (hx104_0.symm.trans hx105_0)
               injection ea_ with ea_ en_ ec_
               subst ea_;subst ec_;clear en_;have ea_:=Option.some.inj (hx104_3.symm.trans hx105_3)
               injection ea_ with ea_ en_ ec_
               subst ea_;subst ec_;clear en_;have p106 : 0 ≤ (x4_1 : Int):=YA
               have q106 : x4_1 < (x102004_1.length : Int):=YA
               obtain ⟨ad106,A106_0,c106_0,A106_3,c106_3,e106,hx106_0,hx106_1,hx106_2,hx106_3,hl106_0,hi106_0,hl106_3,hi106_3⟩:=at_T45 (Kd.V_reads' HO_102004.out).2.2 x4_1 p106 q106
               obtain rfl : ad104 = ad106:=(by injection e106)
               obtain ⟨ce106,hce106,hMe106,hcc106⟩:=Kd.V_get HO_102004.out z45 x4_1 p106 (by first|exact q106|exact YA|(have e_:=(Kd.V_reads' HO_102004.out).1;omega))
               obtain ⟨ua106_0,uc106_0,ua106_3,uc106_3,rfl,ul106_0,ge106_0,ul106_3,ge106_3⟩:=k45_openF hMe106
               have hv106_0:=hcc106 0 _ rfl
               rw [Nat.add_zero] at hv106_0;replace hv106_0:=Option.some.inj (hv106_0.symm.trans hx106_0)
               injection hv106_0 with hva_ hvn_ hvc_
               rw [hva_] at ge106_0;rw [hvc_] at ul106_0;have HL106_0:=Aside0.mk (show Kd.V k59 59 _ w.heap.size _ _ ((rd_T45 x102004_1 x4_1).f0) from Kd.V_mk ul106_0 ge106_0)
               clear hva_ hvn_ hvc_ ge106_0 ul106_0;have hv106_3:=hcc106 3 _ rfl
               rw [add_field _ _ 3 (by omega)] at hv106_3;replace hv106_3:=Option.some.inj (hv106_3.symm.trans hx106_3)
               injection hv106_3 with hva_ hvn_ hvc_
               rw [hva_] at ge106_3;rw [hvc_] at ul106_3;have HL106_3:=Aside0.mk (show Kd.V (Kd.int .i64) 3 _ w.heap.size _ _ ((rd_T45 x102004_1 x4_1).f3) from Kd.V_mk ul106_3 ge106_3)
               clear hva_ hvn_ hvc_ ge106_3 ul106_3;clear hcc106 hce106;have HR106_0:=Aside0.mk hi106_0
               have HC106_0:=Aside0.mk hl106_0
               clear hi106_0 hl106_0;have HR106_3:=Aside0.mk hi106_3
               have HC106_3:=Aside0.mk hl106_3
               clear hi106_3 hl106_3;replace p106:=eq_true p106
               replace q106:=eq_true q106
               have ea_:=Option.some.inj (hx104_0.symm.trans hx106_0)
               injection ea_ with ea_ en_ ec_
               subst ea_;subst ec_;clear en_;have ea_:=Option.some.inj (hx104_3.symm.trans hx106_3)
               injection ea_ with ea_ en_ ec_
               subst ea_;subst ec_;clear en_;refine start_ (n:=25) (S:=fun w' => w'.cell? ⟨gb103,0,none⟩ = some (.string (⟨#[]⟩ : ByteArray)) ∧ w'.cell? ⟨gb103,1,none⟩ = some (.int .i64 0) ∧ w'.cell? ⟨gb103,2,none⟩ = some (.int .i64 1) ∧ w'.cell? ⟨gb103,3,none⟩ = some (.int .i64 0) ∧ w'.cell? ⟨gb103,4,none⟩ = some (u104004) ∧ w'.cell? ⟨gb101,0,none⟩ = some (.string a0_0) ∧ w'.cell? ⟨gb101,1,none⟩ = some (.int .i64 a0_1) ∧ w'.cell? ⟨gb101,2,none⟩ = some (.int .i64 a0_2) ∧ w'.cell? ⟨gb101,3,none⟩ = some (.int .i64 a0_3) ∧ w'.cell? ⟨gb101,4,none⟩ = some (.slice (some ad104) x102004_1.length co32) ∧ w'.cell? (ad104.add ((x4_1).toNat * 4)) = some (.slice A104_0 ((rd_T45 x102004_1 x4_1).f0).length c104_0) ∧ w'.cell? ⟨(ad104.add ((x4_1).toNat * 4)).block,(ad104.add ((x4_1).toNat * 4)).off + 1,none⟩ = some (.int .i64 ((rd_T45 x102004_1 x4_1).f1)) ∧ w'.cell? ⟨(ad104.add ((x4_1).toNat * 4)).block,(ad104.add ((x4_1).toNat * 4)).off + 2,none⟩ = some (.int .i64 ((rd_T45 x102004_1 x4_1).f2)) ∧ w'.cell? ⟨(ad104.add ((x4_1).toNat * 4)).block,(ad104.add ((x4_1).toNat * 4)).off + 3,none⟩ = some (.slice A104_3 ((rd_T45 x102004_1 x4_1).f3).length c104_3) ∧ w'.cell? (ad104.add ((x4_1).toNat * 4)) = some (.slice A104_0 ((rd_T45 x102004_1 x4_1).f0).length c104_0) ∧ w'.cell? ⟨(ad104.add ((x4_1).toNat * 4)).block,(ad104.add ((x4_1).toNat * 4)).off + 1,none⟩ = some (.int .i64 ((rd_T45 x102004_1 x4_1).f1)) ∧ w'.cell? ⟨(ad104.add ((x4_1).toNat * 4)).block,(ad104.add ((x4_1).toNat * 4)).off + 2,none⟩ = some (.int .i64 ((rd_T45 x102004_1 x4_1).f2)) ∧ w'.cell? ⟨(ad104.add ((x4_1).toNat * 4)).block,(ad104.add ((x4_1).toNat * 4)).off + 3,none⟩ = some (.slice A104_3 ((rd_T45 x102004_1 x4_1).f3).length c104_3) ∧ w'.cell? (ad104.add ((x4_1).toNat * 4)) = some (.slice A104_0 ((rd_T45 x102004_1 x4_1).f0).length c104_0) ∧ w'.cell? ⟨(ad104.add ((x4_1).toNat * 4)).block,(ad104.add ((x4_1).toNat * 4)).off + 1,none⟩ = some (.int .i64 ((rd_T45 x102004_1 x4_1).f1)) ∧ w'.cell? ⟨(ad104.add ((x4_1).toNat * 4)).block,(ad104.add ((x4_1).toNat * 4)).off + 2,none⟩ = some (.int .i64 ((rd_T45 x102004_1 x4_1).f2)) ∧ w'.cell? ⟨(ad104.add ((x4_1).toNat * 4)).block,(ad104.add ((x4_1).toNat * 4)).off + 3,none⟩ = some (.slice A104_3 ((rd_T45 x102004_1 x4_1).f3).length c104_3)) (ds:=[22,24]) #[false,false,false,false,false,false,false,false,false,false,false,false,false,false,false,false,false,false,false,false,false,false,false,false,false] (by kernel_rfl) rfl rfl ⟨(Z5 BK103.out 0).trans rfl,(Z5 BK103.out 1).trans rfl,(Z5 BK103.out 2).trans rfl,(Z5 BK103.out 3).trans rfl,(Z5 BK103.out 4).trans rfl,(Z5 BK101.out 0).trans rfl,(Z5 BK101.out 1).trans rfl,(Z5 BK101.out 2).trans rfl,(Z5 BK101.out 3).trans rfl,(Z5 BK101.out 4).trans rfl,hx104_0,hx104_1,hx104_2,hx104_3,hx105_0,hx105_1,hx105_2,hx105_3,hx106_0,hx106_1,hx106_2,hx106_3⟩ (fun hHeld => ?_);refine Z74 cruciblelaw17_bare.tab5 cruciblelaw17_bare.bits5 (fun HT_ HW_ => ?_);generalize wr.drew = w33 at HO_102004 HO_104004 BK101 BK102 BK103 HB HL104_0 HL104_3 HL105_0 HL105_3 HL106_0 HL106_3 HR105_0 HR105_3 HR106_0 HR106_3 hx104_0 hx104_1 hx104_2 hx104_3 hx105_0 hx105_1 hx105_2 hx105_3 hx106_0 hx106_1 hx106_2 hx106_3 hHeld ⊢;refine pure_ (i:=0) (N:=some 13) (v:=?_) (a' := ?_) #[true,false,false,false,false,false,false,false,false,false,false,false,false,false,false,false,false,false,false,false,false,false,false,false,false] rfl rfl (any_of HT_.out (by kernel_rfl)) (fun _ _ _ h => h) (Or.inl ⟨by rfl,?_⟩) ?_ ?_;rotate_left
               · intro w';go_simp
                 with_reducible rfl
               rotate_left
               · simp only [Act.put,List.setIfInBounds_toArray,List.set_cons_zero,List.set_cons_succ,i64_w,i32_w];rfl
               refine pure_ (i:=2) (N:=some 15) (v:=?_) (a' := ?_) #[true,false,true,false,false,false,false,false,false,false,false,false,false,false,false,false,false,false,false,false,false,false,false,false,false] rfl rfl (any_of HT_.out (by kernel_rfl)) (fun _ _ _ h => h) (Or.inl ⟨by rfl,?_⟩) ?_ ?_;rotate_left
               · intro w';go_simp
                 with_reducible rfl
               rotate_left
               · simp only [Act.put,List.setIfInBounds_toArray,List.set_cons_zero,List.set_cons_succ,i64_w,i32_w];rfl
               refine pure_ (i:=4) (N:=some 17) (v:=?_) (a' := ?_) #[true,false,true,false,true,false,false,false,false,false,false,false,false,false,false,false,false,false,false,false,false,false,false,false,false] rfl rfl (any_of HT_.out (by kernel_rfl)) (fun _ _ _ h => h) (Or.inl ⟨by rfl,?_⟩) ?_ ?_;rotate_left
               · intro w';go_simp
                 with_reducible rfl
               rotate_left
               · simp only [Act.put,List.setIfInBounds_toArray,List.set_cons_zero,List.set_cons_succ,i64_w,i32_w];rfl
               refine pure_ (i:=8) (N:=some 21) (v:=?_) (a' := ?_) #[true,false,true,false,true,false,false,false,true,false,false,false,false,false,false,false,false,false,false,false,false,false,false,false,false] rfl rfl (any_of HT_.out (by kernel_rfl)) (fun _ _ _ h => h) (Or.inl ⟨by rfl,?_⟩) ?_ ?_;rotate_left
               · intro w';go_simp
                 with_reducible rfl
               rotate_left
               · simp only [Act.put,List.setIfInBounds_toArray,List.set_cons_zero,List.set_cons_succ,i64_w,i32_w];rfl
               refine pure_ (i:=10) (N:=some 23) (v:=?_) (a' := ?_) #[true,false,true,false,true,false,false,false,true,false,true,false,false,false,false,false,false,false,false,false,false,false,false,false,false] rfl rfl (any_of HT_.out (by kernel_rfl)) (fun _ _ _ h => h) (Or.inl ⟨by rfl,?_⟩) ?_ ?_;rotate_left
               · intro w';go_simp
                 with_reducible rfl
               rotate_left
               · simp only [Act.put,List.setIfInBounds_toArray,List.set_cons_zero,List.set_cons_succ,i64_w,i32_w];rfl
               refine pure_ (i:=14) (N:=some 27) (v:=?_) (a' := ?_) #[true,false,true,false,true,false,false,false,true,false,true,false,false,false,true,false,false,false,false,false,false,false,false,false,false] rfl rfl (any_of HT_.out (by kernel_rfl)) (fun _ _ _ h => h) (Or.inl ⟨by rfl,?_⟩) ?_ ?_;rotate_left
               · intro w';go_simp
                 with_reducible rfl
               rotate_left
               · simp only [Act.put,List.setIfInBounds_toArray,List.set_cons_zero,List.set_cons_succ,i64_w,i32_w];rfl
               refine pure_ (i:=16) (N:=some 29) (v:=?_) (a' := ?_) #[true,false,true,false,true,false,false,false,true,false,true,false,false,false,true,false,true,false,false,false,false,false,false,false,false] rfl rfl (any_of HT_.out (by kernel_rfl)) (fun _ _ _ h => h) (Or.inl ⟨by rfl,?_⟩) ?_ ?_;rotate_left
               · intro w';go_simp
                 with_reducible rfl
               rotate_left
               · simp only [Act.put,List.setIfInBounds_toArray,List.set_cons_zero,List.set_cons_succ,i64_w,i32_w];rfl
               refine take_ (i:=1) (N:=some 14) (v:=?_) (a' := ?_) #[true,true,true,false,true,false,false,false,true,false,true,false,false,false,true,false,true,false,false,false,false,false,false,false,false] rfl rfl (Z67 HT_.out HW_.out (by kernel_rfl)) (fun _ _ _ h => h) (Or.inl ⟨by rfl,?_⟩) hHeld ?_ ?_;rotate_left
               · rintro w' ⟨s0,s1,s2,s3,s4,s5,s6,s7,s8,s9,s10,s11,s12,s13,s14,s15,s16,s17,s18,s19,s20,s21⟩;go_simp
                 with_reducible rfl
               rotate_left
               · simp only [Act.put,List.setIfInBounds_toArray,List.set_cons_zero,List.set_cons_succ,i64_w,i32_w];rfl
               refine take_ (i:=3) (N:=some 16) (v:=?_) (a' := ?_) #[true,true,true,true,true,false,false,false,true,false,true,false,false,false,true,false,true,false,false,false,false,false,false,false,false] rfl rfl (Z67 HT_.out HW_.out (by kernel_rfl)) (fun _ _ _ h => h) (Or.inl ⟨by rfl,?_⟩) hHeld ?_ ?_;rotate_left
               · rintro w' ⟨s0,s1,s2,s3,s4,s5,s6,s7,s8,s9,s10,s11,s12,s13,s14,s15,s16,s17,s18,s19,s20,s21⟩;go_simp
                 with_reducible rfl
               rotate_left
               · simp only [Act.put,List.setIfInBounds_toArray,List.set_cons_zero,List.set_cons_succ,i64_w,i32_w];rfl
               refine pure_ (i:=5) (N:=some 18) (v:=?_) (a' := ?_) #[true,true,true,true,true,true,false,false,true,false,true,false,false,false,true,false,true,false,false,false,false,false,false,false,false] rfl rfl (any_of HT_.out (by kernel_rfl)) (fun _ _ _ h => h) (Or.inl ⟨by rfl,?_⟩) ?_ ?_;rotate_left
               · intro w';go_simp
                 with_reducible rfl
               rotate_left
               · simp only [Act.put,List.setIfInBounds_toArray,List.set_cons_zero,List.set_cons_succ,i64_w,i32_w];rfl
               refine pure_ (i:=6) (N:=some 19) (v:=?_) (a' := ?_) #[true,true,true,true,true,true,true,false,true,false,true,false,false,false,true,false,true,false,false,false,false,false,false,false,false] rfl rfl (any_of HT_.out (by kernel_rfl)) (fun _ _ _ h => h) (Or.inl ⟨by rfl,?_⟩) ?_ ?_;rotate_left
               · intro w';go_simp
                 with_reducible rfl
               rotate_left
               · simp only [Act.put,List.setIfInBounds_toArray,List.set_cons_zero,List.set_cons_succ,i64_w,i32_w];rfl
               refine take_ (i:=7) (N:=some 20) (v:=?_) (a' := ?_) #[true,true,true,true,true,true,true,true,true,false,true,false,false,false,true,false,true,false,false,false,false,false,false,false,false] rfl rfl (Z67 HT_.out HW_.out (by kernel_rfl)) (fun _ _ _ h => h) (Or.inl ⟨by rfl,?_⟩) hHeld ?_ ?_;rotate_left
               · rintro w' ⟨s0,s1,s2,s3,s4,s5,s6,s7,s8,s9,s10,s11,s12,s13,s14,s15,s16,s17,s18,s19,s20,s21⟩;go_simp
                 with_reducible rfl
               rotate_left
               · simp only [Act.put,List.setIfInBounds_toArray,List.set_cons_zero,List.set_cons_succ,i64_w,i32_w];rfl
               refine take_ (i:=9) (N:=some 22) (v:=?_) (a' := ?_) #[true,true,true,true,true,true,true,true,true,true,true,false,false,false,true,false,true,false,false,false,false,false,false,false,false] rfl rfl (Z67 HT_.out HW_.out (by kernel_rfl)) (fun _ _ _ h => h) (Or.inl ⟨by rfl,?_⟩) hHeld ?_ ?_;rotate_left
               · rintro w' ⟨s0,s1,s2,s3,s4,s5,s6,s7,s8,s9,s10,s11,s12,s13,s14,s15,s16,s17,s18,s19,s20,s21⟩;go_simp
                 with_reducible rfl
               rotate_left
               · simp only [Act.put,List.setIfInBounds_toArray,List.set_cons_zero,List.set_cons_succ,i64_w,i32_w];rfl
               refine pure_ (i:=11) (N:=some 24) (v:=?_) (a' := ?_) #[true,true,true,true,true,true,true,true,true,true,true,true,false,false,true,false,true,false,false,false,false,false,false,false,false] rfl rfl (any_of HT_.out (by kernel_rfl)) (fun _ _ _ h => h) (Or.inl ⟨by rfl,?_⟩) ?_ ?_;rotate_left
               · intro w';go_simp
                 with_reducible rfl
               rotate_left
               · simp only [Act.put,List.setIfInBounds_toArray,List.set_cons_zero,List.set_cons_succ,i64_w,i32_w];rfl
               refine pure_ (i:=12) (N:=some 25) (v:=?_) (a' := ?_) #[true,true,true,true,true,true,true,true,true,true,true,true,true,false,true,false,true,false,false,false,false,false,false,false,false] rfl rfl (any_of HT_.out (by kernel_rfl)) (fun _ _ _ h => h) (Or.inl ⟨by rfl,?_⟩) ?_ ?_;rotate_left
               · intro w';go_simp
                 with_reducible rfl
               rotate_left
               · simp only [Act.put,List.setIfInBounds_toArray,List.set_cons_zero,List.set_cons_succ,i64_w,i32_w];rfl
               refine take_ (i:=13) (N:=some 26) (v:=?_) (a' := ?_) #[true,true,true,true,true,true,true,true,true,true,true,true,true,true,true,false,true,false,false,false,false,false,false,false,false] rfl rfl (Z67 HT_.out HW_.out (by kernel_rfl)) (fun _ _ _ h => h) (Or.inl ⟨by rfl,?_⟩) hHeld ?_ ?_;rotate_left
               · rintro w' ⟨s0,s1,s2,s3,s4,s5,s6,s7,s8,s9,s10,s11,s12,s13,s14,s15,s16,s17,s18,s19,s20,s21⟩;go_simp
                 with_reducible rfl
               rotate_left
               · simp only [Act.put,List.setIfInBounds_toArray,List.set_cons_zero,List.set_cons_succ,i64_w,i32_w];rfl
               refine take_ (i:=15) (N:=some 28) (v:=?_) (a' := ?_) #[true,true,true,true,true,true,true,true,true,true,true,true,true,true,true,true,true,false,false,false,false,false,false,false,false] rfl rfl (Z67 HT_.out HW_.out (by kernel_rfl)) (fun _ _ _ h => h) (Or.inl ⟨by rfl,?_⟩) hHeld ?_ ?_;rotate_left
               · rintro w' ⟨s0,s1,s2,s3,s4,s5,s6,s7,s8,s9,s10,s11,s12,s13,s14,s15,s16,s17,s18,s19,s20,s21⟩;go_simp
                 with_reducible rfl
               rotate_left
               · simp only [Act.put,List.setIfInBounds_toArray,List.set_cons_zero,List.set_cons_succ,i64_w,i32_w];rfl
               refine pure_ (i:=17) (N:=some 30) (v:=?_) (a' := ?_) #[true,true,true,true,true,true,true,true,true,true,true,true,true,true,true,true,true,true,false,false,false,false,false,false,false] rfl rfl (any_of HT_.out (by kernel_rfl)) (fun _ _ _ h => h) (Or.inl ⟨by rfl,?_⟩) ?_ ?_;rotate_left
               · intro w';go_simp
                 with_reducible rfl
               rotate_left
               · simp only [Act.put,List.setIfInBounds_toArray,List.set_cons_zero,List.set_cons_succ,i64_w,i32_w];rfl
               refine pure_ (i:=18) (N:=some 31) (v:=?_) (a' := ?_) #[true,true,true,true,true,true,true,true,true,true,true,true,true,true,true,true,true,true,true,false,false,false,false,false,false] rfl rfl (any_of HT_.out (by kernel_rfl)) (fun _ _ _ h => h) (Or.inl ⟨by rfl,?_⟩) ?_ ?_;rotate_left
               · intro w';go_simp
                 with_reducible rfl
               rotate_left
               · simp only [Act.put,List.setIfInBounds_toArray,List.set_cons_zero,List.set_cons_succ,i64_w,i32_w];rfl
               refine take_ (i:=19) (N:=some 32) (v:=?_) (a' := ?_) #[true,true,true,true,true,true,true,true,true,true,true,true,true,true,true,true,true,true,true,true,false,false,false,false,false] rfl rfl (Z67 HT_.out HW_.out (by kernel_rfl)) (fun _ _ _ h => h) (Or.inl ⟨by rfl,?_⟩) hHeld ?_ ?_;rotate_left
               · rintro w' ⟨s0,s1,s2,s3,s4,s5,s6,s7,s8,s9,s10,s11,s12,s13,s14,s15,s16,s17,s18,s19,s20,s21⟩;go_simp
                 with_reducible rfl
               rotate_left
               · simp only [Act.put,List.setIfInBounds_toArray,List.set_cons_zero,List.set_cons_succ,i64_w,i32_w];rfl
               refine pure_ (i:=20) (N:=some 33) (v:=?_) (a' := ?_) #[true,true,true,true,true,true,true,true,true,true,true,true,true,true,true,true,true,true,true,true,true,false,false,false,false] rfl rfl (any_of HT_.out (by kernel_rfl)) (fun _ _ _ h => h) (Or.inl ⟨by rfl,?_⟩) ?_ ?_;rotate_left
               · intro w';go_simp
                 with_reducible rfl
               rotate_left
               · simp only [Act.put,List.setIfInBounds_toArray,List.set_cons_zero,List.set_cons_succ,i64_w,i32_w];rfl
               refine one_ (i:=21) (N:=some 34) #[true,true,true,true,true,true,true,true,true,true,true,true,true,true,true,true,true,true,true,true,true,true,false,false,false] rfl rfl (one_of HT_.out (by kernel_rfl)) (by decide) (fun K hK => ?_);refine value_ (w1:=?_) (v:=?_) (by rfl) rfl ?_ ?_;rotate_left 2
               · go_simp;constructor
                 · rfl
                 · rfl
               refine hK.out _ _ ⟨(Z5 (Z1 BK103.out _) 0).trans rfl,(Z5 (Z1 BK103.out _) 1).trans rfl,(Z5 (Z1 BK103.out _) 2).trans rfl,(Z5 (Z1 BK103.out _) 3).trans rfl,(Z5 (Z1 BK103.out _) 4).trans rfl,(Z5 (Z1 BK101.out _) 0).trans rfl,(Z5 (Z1 BK101.out _) 1).trans rfl,(Z5 (Z1 BK101.out _) 2).trans rfl,(Z5 (Z1 BK101.out _) 3).trans rfl,(Z5 (Z1 BK101.out _) 4).trans rfl,(World.cell?_alloc_lt _ _ _ (World.block_lt_of_cell? _ _ (hHeld.2.2.2.2.2.2.2.2.2.2.1))).trans (hHeld.2.2.2.2.2.2.2.2.2.2.1),(World.cell?_alloc_lt _ _ _ (World.block_lt_of_cell? _ _ (hHeld.2.2.2.2.2.2.2.2.2.2.2.1))).trans (hHeld.2.2.2.2.2.2.2.2.2.2.2.1),(World.cell?_alloc_lt _ _ _ (World.block_lt_of_cell? _ _ (hHeld.2.2.2.2.2.2.2.2.2.2.2.2.1))).trans (hHeld.2.2.2.2.2.2.2.2.2.2.2.2.1),(World.cell?_alloc_lt _ _ _ (World.block_lt_of_cell? _ _ (hHeld.2.2.2.2.2.2.2.2.2.2.2.2.2.1))).trans (hHeld.2.2.2.2.2.2.2.2.2.2.2.2.2.1),(World.cell?_alloc_lt _ _ _ (World.block_lt_of_cell? _ _ (hHeld.2.2.2.2.2.2.2.2.2.2.2.2.2.2.1))).trans (hHeld.2.2.2.2.2.2.2.2.2.2.2.2.2.2.1),(World.cell?_alloc_lt _ _ _ (World.block_lt_of_cell? _ _ (hHeld.2.2.2.2.2.2.2.2.2.2.2.2.2.2.2.1))).trans (hHeld.2.2.2.2.2.2.2.2.2.2.2.2.2.2.2.1),(World.cell?_alloc_lt _ _ _ (World.block_lt_of_cell? _ _ (hHeld.2.2.2.2.2.2.2.2.2.2.2.2.2.2.2.2.1))).trans (hHeld.2.2.2.2.2.2.2.2.2.2.2.2.2.2.2.2.1),(World.cell?_alloc_lt _ _ _ (World.block_lt_of_cell? _ _ (hHeld.2.2.2.2.2.2.2.2.2.2.2.2.2.2.2.2.2.1))).trans (hHeld.2.2.2.2.2.2.2.2.2.2.2.2.2.2.2.2.2.1),(World.cell?_alloc_lt _ _ _ (World.block_lt_of_cell? _ _ (hHeld.2.2.2.2.2.2.2.2.2.2.2.2.2.2.2.2.2.2.1))).trans (hHeld.2.2.2.2.2.2.2.2.2.2.2.2.2.2.2.2.2.2.1),(World.cell?_alloc_lt _ _ _ (World.block_lt_of_cell? _ _ (hHeld.2.2.2.2.2.2.2.2.2.2.2.2.2.2.2.2.2.2.2.1))).trans (hHeld.2.2.2.2.2.2.2.2.2.2.2.2.2.2.2.2.2.2.2.1),(World.cell?_alloc_lt _ _ _ (World.block_lt_of_cell? _ _ (hHeld.2.2.2.2.2.2.2.2.2.2.2.2.2.2.2.2.2.2.2.2.1))).trans (hHeld.2.2.2.2.2.2.2.2.2.2.2.2.2.2.2.2.2.2.2.2.1),(World.cell?_alloc_lt _ _ _ (World.block_lt_of_cell? _ _ (hHeld.2.2.2.2.2.2.2.2.2.2.2.2.2.2.2.2.2.2.2.2.2))).trans (hHeld.2.2.2.2.2.2.2.2.2.2.2.2.2.2.2.2.2.2.2.2.2)⟩ (fun hHeld => ?_);clear hK K;refine norm_ (a' := ?_) ?_ ?_;rotate_left
               · show Act.put _ (some 34) _ = _
                 simp only [Act.put,List.setIfInBounds_toArray,List.set_cons_zero,List.set_cons_succ,i64_w,i32_w];rfl
               refine last_ (i:=22) (N:=some 35) #[true,true,true,true,true,true,true,true,true,true,true,true,true,true,true,true,true,true,true,true,true,true,true,false,false] rfl rfl (one_of HT_.out (by kernel_rfl)) (by decide) (fun K hK => ?_);refine Kd.N_append_step k45 (w0:=w) w.heap.size (by rfl) (.tmp 14) (.tmp 34) 22 45 (.agg #[(.slice none 0 0),(.int .i64 0),(.int .i64 0),(.slice none 0 0)]) 64 rfl Try.underlying22 info45 rfl (by decide) (by omega) u104004 x104004_1 (⟨([] : List (S59)),(rd_T45 x102004_1 x4_1).f1,(rd_T45 x102004_1 x4_1).f2,(rd_T45 x102004_1 x4_1).f3⟩ : S45) [.slice none 0 0,.int .i64 ((rd_T45 x102004_1 x4_1).f1),.int .i64 ((rd_T45 x102004_1 x4_1).f2),.slice A104_3 ((rd_T45 x102004_1 x4_1).f3).length c104_3] (fun k_ => (P0_4_ k_ ∨ w.heap.size ≤ k_) ∧ k_ ≠ gb101 ∧ k_ ≠ gb102 ∧ k_ ≠ gb103) (fun k_ => ((fun k_ => (P0_4_ k_ ∨ w.heap.size ≤ k_) ∧ k_ ≠ gb101 ∧ k_ ≠ gb102 ∧ k_ ≠ gb103)) k_ ∧ some k_ ≠ (u104004 : Value).ownBlock) rfl rfl ?aP (fun _ hk => hk) ?aF ?aO ?aB ?aS ?aL ?_;(case aP => exact (k45_mkF _ _ (⟨([] : List (S59)),(rd_T45 x102004_1 x4_1).f1,(rd_T45 x102004_1 x4_1).f2,(rd_T45 x102004_1 x4_1).f3⟩ : S45) (Nat.le_refl _) (Kd.F_nil _ _ _) (Kd.V_reads' (Kd.V_mono (ok' := (fun k_ => ((fun k_ => (P0_4_ k_ ∨ w.heap.size ≤ k_) ∧ k_ ≠ gb101 ∧ k_ ≠ gb102 ∧ k_ ≠ gb103)) k_ ∧ some k_ ≠ (u104004 : Value).ownBlock)) (HL105_3.out) (fun k_ hk => ⟨⟨hk.1,⟨hk.2.2.1,⟨hk.2.2.2.1,hk.2.2.2.2⟩⟩⟩,hk.2.1⟩))).2.1 (Kd.V_F (Kd.V_mono (ok' := (fun k_ => ((fun k_ => (P0_4_ k_ ∨ w.heap.size ≤ k_) ∧ k_ ≠ gb101 ∧ k_ ≠ gb102 ∧ k_ ≠ gb103)) k_ ∧ some k_ ≠ (u104004 : Value).ownBlock)) (HL105_3.out) (fun k_ hk => ⟨⟨hk.1,⟨hk.2.2.1,⟨hk.2.2.2.1,hk.2.2.2.2⟩⟩⟩,hk.2.1⟩)))));(case aB => exact YH);(case aF => exact (fun k_ hk => ⟨(.inr (Nat.le_trans (Z27 YH) hk)),Kd.freshB (YK BK101) k_ hk,Kd.freshB (YK BK102) k_ hk,Kd.freshB (YK BK103) k_ hk⟩));(case aO => exact (YN HO_104004));(case aS => exact (Z27 YH));(case aL => have:=LMc10.out;omega);intro v108 w34 ho hb hg hat;rw [← Ny107.out] at ho;have n0_:=Aside0.mk (Kd.V_afterv (ok:=(fun k_ => (P0_4_ k_ ∨ w.heap.size ≤ k_) ∧ k_ ≠ gb101 ∧ k_ ≠ gb102 ∧ k_ ≠ gb103)) (by (with_reducible repeat (first|apply Kd.V_alloc|apply Kd.V_drewN|apply Kd.V_drew));exact Kd.V_mono HO_102004.out (fun _ hk => ⟨⟨hk.1,⟨hk.2.2.1,⟨hk.2.2.2.1,hk.2.2.2.2⟩⟩⟩,hk.2.1⟩)) hg hat)
               have n1_:=Aside0.mk (Z89 (YK BK101) hg (Kd.N_ne HO_104004.out BK101.out (by decide)))
               have n2_:=Aside0.mk (Z89 (YK BK102) hg (Kd.N_ne HO_104004.out BK102.out (by decide)))
               have n3_:=Aside0.mk (Z89 (YK BK103) hg (Kd.N_ne HO_104004.out BK103.out (by decide)))
               have n4_:=Aside0.mk (Kd.V_afterv (ok:=(fun k_ => (P0_4_ k_ ∨ w.heap.size ≤ k_) ∧ k_ ≠ gb101 ∧ k_ ≠ gb102 ∧ k_ ≠ gb103)) (by (with_reducible repeat (first|apply Kd.V_alloc|apply Kd.V_drewN|apply Kd.V_drew));exact Kd.V_mono HL104_0.out (fun _ hk => ⟨⟨hk.1,⟨hk.2.2.1,⟨hk.2.2.2.1,hk.2.2.2.2⟩⟩⟩,hk.2.1⟩)) hg hat)
               have n5_:=Aside0.mk (Kd.V_afterv (ok:=(fun k_ => (P0_4_ k_ ∨ w.heap.size ≤ k_) ∧ k_ ≠ gb101 ∧ k_ ≠ gb102 ∧ k_ ≠ gb103)) (by (with_reducible repeat (first|apply Kd.V_alloc|apply Kd.V_drewN|apply Kd.V_drew));exact Kd.V_mono HL104_3.out (fun _ hk => ⟨⟨hk.1,⟨hk.2.2.1,⟨hk.2.2.2.1,hk.2.2.2.2⟩⟩⟩,hk.2.1⟩)) hg hat)
               have n6_:=Aside0.mk (Kd.V_afterv (ok:=(fun k_ => (P0_4_ k_ ∨ w.heap.size ≤ k_) ∧ k_ ≠ gb101 ∧ k_ ≠ gb102 ∧ k_ ≠ gb103)) (by (with_reducible repeat (first|apply Kd.V_alloc|apply Kd.V_drewN|apply Kd.V_drew));exact Kd.V_mono HL105_0.out (fun _ hk => ⟨⟨hk.1,⟨hk.2.2.1,⟨hk.2.2.2.1,hk.2.2.2.2⟩⟩⟩,hk.2.1⟩)) hg hat)
               have n7_:=Aside0.mk (Kd.V_afterv (ok:=(fun k_ => (P0_4_ k_ ∨ w.heap.size ≤ k_) ∧ k_ ≠ gb101 ∧ k_ ≠ gb102 ∧ k_ ≠ gb103)) (by (with_reducible repeat (first|apply Kd.V_alloc|apply Kd.V_drewN|apply Kd.V_drew));exact Kd.V_mono HL105_3.out (fun _ hk => ⟨⟨hk.1,⟨hk.2.2.1,⟨hk.2.2.2.1,hk.2.2.2.2⟩⟩⟩,hk.2.1⟩)) hg hat)
               have n8_:=Aside0.mk (Kd.V_afterv (ok:=(fun k_ => (P0_4_ k_ ∨ w.heap.size ≤ k_) ∧ k_ ≠ gb101 ∧ k_ ≠ gb102 ∧ k_ ≠ gb103)) (by (with_reducible repeat (first|apply Kd.V_alloc|apply Kd.V_drewN|apply Kd.V_drew));exact Kd.V_mono HL106_0.out (fun _ hk => ⟨⟨hk.1,⟨hk.2.2.1,⟨hk.2.2.2.1,hk.2.2.2.2⟩⟩⟩,hk.2.1⟩)) hg hat)
               have n9_:=Aside0.mk (Kd.V_afterv (ok:=(fun k_ => (P0_4_ k_ ∨ w.heap.size ≤ k_) ∧ k_ ≠ gb101 ∧ k_ ≠ gb102 ∧ k_ ≠ gb103)) (by (with_reducible repeat (first|apply Kd.V_alloc|apply Kd.V_drewN|apply Kd.V_drew));exact Kd.V_mono HL106_3.out (fun _ hk => ⟨⟨hk.1,⟨hk.2.2.1,⟨hk.2.2.2.1,hk.2.2.2.2⟩⟩⟩,hk.2.1⟩)) hg hat)
               have n10_:=Aside0.mk (hb)
               have n11_:=Aside0.mk (ho)
               clear HO_102004;clear BK101;clear BK102;clear BK103;clear HL104_0;clear HL104_3;clear HL105_0;clear HL105_3;clear HL106_0;clear HL106_3;clear HB;clear HO_104004;have HO_102004:=n0_
               have BK101:=n1_
               have BK102:=n2_
               have BK103:=n3_
               have HL104_0:=n4_
               have HL104_3:=n5_
               have HL105_0:=n6_
               have HL105_3:=n7_
               have HL106_0:=n8_
               have HL106_3:=n9_
               have HB:=n10_
               have HO109:=n11_
               clear n0_ n1_ n2_ n3_ n4_ n5_ n6_ n7_ n8_ n9_ n10_ n11_;clear ho hb hg hat;obtain ⟨Ao35,co35,eo35⟩:=Kd.N_slice HO109.out
               (first|subst eo35|(injection eo35 with f1_ f2_ f3_;have f4_:=f1_.symm;have f5_:=f3_.symm;clear f1_ f2_ f3_;subst f4_;subst f5_));refine hK.out _ _ ?_;clear hK K;refine norm_ (a' := ?_) ?_ ?_;rotate_left
               · show Act.put _ (some 35) _ = _
                 simp only [Act.put,List.setIfInBounds_toArray,List.set_cons_zero,List.set_cons_succ,i64_w,i32_w];rfl
               refine pure_ (i:=23) (N:=some 36) (v:=?_) (a' := ?_) #[true,true,true,true,true,true,true,true,true,true,true,true,true,true,true,true,true,true,true,true,true,true,true,true,false] rfl rfl (any_of HT_.out (by kernel_rfl)) (fun _ _ _ h => h) (Or.inl ⟨by rfl,?_⟩) ?_ ?_;rotate_left
               · intro w';go_simp
                 with_reducible rfl
               rotate_left
               · simp only [Act.put,List.setIfInBounds_toArray,List.set_cons_zero,List.set_cons_succ,i64_w,i32_w];rfl
               refine last_ (i:=24) (N:=none) #[true,true,true,true,true,true,true,true,true,true,true,true,true,true,true,true,true,true,true,true,true,true,true,true,true] rfl rfl (one_of HT_.out (by kernel_rfl)) (by decide) (fun K hK => ?_);have hs36 : w34.cell? ⟨gb103,4,none⟩ = some (u104004):=(Z5 BK103.out 4).trans rfl
               have hfs36:=Z2 BK103.out 4
               have hns36_0:=NB101_103.out
               have hns36_1:=NB102_103.out
               have hms36_0:=NB103_101.out
               have hms36_1:=NB103_102.out
               refine skip_ (w1:=?_) (by rfl) rfl ?_ ?_;rotate_left
               · go_simp;rfl
               refine hK.out _ _ ?_;clear hK K;refine done_ (Z83 HT_.out (by kernel_rfl)) ?_;have n0_ : Aside0 (Kd.V k45 45 (w34.setCell ⟨gb103,4,none⟩ (.slice Ao35 y107.length co35)) w.heap.size (fun k_ => (P0_4_ k_ ∨ w.heap.size ≤ k_) ∧ some k_ ≠ (.slice Ao35 y107.length co35 : Value).ownBlock ∧ k_ ≠ gb101 ∧ k_ ≠ gb102 ∧ k_ ≠ gb103) (.slice (some ad104) x102004_1.length co32) x102004_1):=⟨by (with_reducible repeat (first|apply Kd.V_alloc|apply Kd.V_drewN|apply Kd.V_drew));exact Kd.V_mono (Kd.V_far (p:=⟨gb103,4,none⟩) (Kd.V_mono HO_102004.out (fun k_ hk => (⟨hk,hk.1.2.2.2⟩ : _ ∧ k_ ≠ gb103))) (fun _ hk => hk.2) (.slice Ao35 y107.length co35)) (fun _ hk => ⟨hk.1.1.1,⟨hk.1.2,⟨hk.1.1.2.1,⟨hk.1.1.2.2.1,hk.1.1.2.2.2⟩⟩⟩⟩)⟩
               have n1_ : Aside0 (Kd.V k59 59 (w34.setCell ⟨gb103,4,none⟩ (.slice Ao35 y107.length co35)) w.heap.size (fun k_ => (P0_4_ k_ ∨ w.heap.size ≤ k_) ∧ some k_ ≠ (.slice Ao35 y107.length co35 : Value).ownBlock ∧ k_ ≠ gb101 ∧ k_ ≠ gb102 ∧ k_ ≠ gb103) (.slice A104_0 ((rd_T45 x102004_1 x4_1).f0).length c104_0) ((rd_T45 x102004_1 x4_1).f0)):=⟨by (with_reducible repeat (first|apply Kd.V_alloc|apply Kd.V_drewN|apply Kd.V_drew));exact Kd.V_mono (Kd.V_far (p:=⟨gb103,4,none⟩) (Kd.V_mono HL104_0.out (fun k_ hk => (⟨hk,hk.1.2.2.2⟩ : _ ∧ k_ ≠ gb103))) (fun _ hk => hk.2) (.slice Ao35 y107.length co35)) (fun _ hk => ⟨hk.1.1.1,⟨hk.1.2,⟨hk.1.1.2.1,⟨hk.1.1.2.2.1,hk.1.1.2.2.2⟩⟩⟩⟩)⟩
               have n2_ : Aside0 (Kd.V (Kd.int .i64) 3 (w34.setCell ⟨gb103,4,none⟩ (.slice Ao35 y107.length co35)) w.heap.size (fun k_ => (P0_4_ k_ ∨ w.heap.size ≤ k_) ∧ some k_ ≠ (.slice Ao35 y107.length co35 : Value).ownBlock ∧ k_ ≠ gb101 ∧ k_ ≠ gb102 ∧ k_ ≠ gb103) (.slice A104_3 ((rd_T45 x102004_1 x4_1).f3).length c104_3) ((rd_T45 x102004_1 x4_1).f3)):=⟨by (with_reducible repeat (first|apply Kd.V_alloc|apply Kd.V_drewN|apply Kd.V_drew));exact Kd.V_mono (Kd.V_far (p:=⟨gb103,4,none⟩) (Kd.V_mono HL104_3.out (fun k_ hk => (⟨hk,hk.1.2.2.2⟩ : _ ∧ k_ ≠ gb103))) (fun _ hk => hk.2) (.slice Ao35 y107.length co35)) (fun _ hk => ⟨hk.1.1.1,⟨hk.1.2,⟨hk.1.1.2.1,⟨hk.1.1.2.2.1,hk.1.1.2.2.2⟩⟩⟩⟩)⟩
               have n3_ : Aside0 (Kd.V k59 59 (w34.setCell ⟨gb103,4,none⟩ (.slice Ao35 y107.length co35)) w.heap.size (fun k_ => (P0_4_ k_ ∨ w.heap.size ≤ k_) ∧ some k_ ≠ (.slice Ao35 y107.length co35 : Value).ownBlock ∧ k_ ≠ gb101 ∧ k_ ≠ gb102 ∧ k_ ≠ gb103) (.slice A104_0 ((rd_T45 x102004_1 x4_1).f0).length c104_0) ((rd_T45 x102004_1 x4_1).f0)):=⟨by (with_reducible repeat (first|apply Kd.V_alloc|apply Kd.V_drewN|apply Kd.V_drew));exact Kd.V_mono (Kd.V_far (p:=⟨gb103,4,none⟩) (Kd.V_mono HL105_0.out (fun k_ hk => (⟨hk,hk.1.2.2.2⟩ : _ ∧ k_ ≠ gb103))) (fun _ hk => hk.2) (.slice Ao35 y107.length co35)) (fun _ hk => ⟨hk.1.1.1,⟨hk.1.2,⟨hk.1.1.2.1,⟨hk.1.1.2.2.1,hk.1.1.2.2.2⟩⟩⟩⟩)⟩
               have n4_ : Aside0 (Kd.V (Kd.int .i64) 3 (w34.setCell ⟨gb103,4,none⟩ (.slice Ao35 y107.length co35)) w.heap.size (fun k_ => (P0_4_ k_ ∨ w.heap.size ≤ k_) ∧ some k_ ≠ (.slice Ao35 y107.length co35 : Value).ownBlock ∧ k_ ≠ gb101 ∧ k_ ≠ gb102 ∧ k_ ≠ gb103) (.slice A104_3 ((rd_T45 x102004_1 x4_1).f3).length c104_3) ((rd_T45 x102004_1 x4_1).f3)):=⟨by (with_reducible repeat (first|apply Kd.V_alloc|apply Kd.V_drewN|apply Kd.V_drew));exact Kd.V_mono (Kd.V_far (p:=⟨gb103,4,none⟩) (Kd.V_mono HL105_3.out (fun k_ hk => (⟨hk,hk.1.2.2.2⟩ : _ ∧ k_ ≠ gb103))) (fun _ hk => hk.2) (.slice Ao35 y107.length co35)) (fun _ hk => ⟨hk.1.1.1,⟨hk.1.2,⟨hk.1.1.2.1,⟨hk.1.1.2.2.1,hk.1.1.2.2.2⟩⟩⟩⟩)⟩
               have n5_ : Aside0 (Kd.V k59 59 (w34.setCell ⟨gb103,4,none⟩ (.slice Ao35 y107.length co35)) w.heap.size (fun k_ => (P0_4_ k_ ∨ w.heap.size ≤ k_) ∧ some k_ ≠ (.slice Ao35 y107.length co35 : Value).ownBlock ∧ k_ ≠ gb101 ∧ k_ ≠ gb102 ∧ k_ ≠ gb103) (.slice A104_0 ((rd_T45 x102004_1 x4_1).f0).length c104_0) ((rd_T45 x102004_1 x4_1).f0)):=⟨by (with_reducible repeat (first|apply Kd.V_alloc|apply Kd.V_drewN|apply Kd.V_drew));exact Kd.V_mono (Kd.V_far (p:=⟨gb103,4,none⟩) (Kd.V_mono HL106_0.out (fun k_ hk => (⟨hk,hk.1.2.2.2⟩ : _ ∧ k_ ≠ gb103))) (fun _ hk => hk.2) (.slice Ao35 y107.length co35)) (fun _ hk => ⟨hk.1.1.1,⟨hk.1.2,⟨hk.1.1.2.1,⟨hk.1.1.2.2.1,hk.1.1.2.2.2⟩⟩⟩⟩)⟩
               have n6_ : Aside0 (Kd.V (Kd.int .i64) 3 (w34.setCell ⟨gb103,4,none⟩ (.slice Ao35 y107.length co35)) w.heap.size (fun k_ => (P0_4_ k_ ∨ w.heap.size ≤ k_) ∧ some k_ ≠ (.slice Ao35 y107.length co35 : Value).ownBlock ∧ k_ ≠ gb101 ∧ k_ ≠ gb102 ∧ k_ ≠ gb103) (.slice A104_3 ((rd_T45 x102004_1 x4_1).f3).length c104_3) ((rd_T45 x102004_1 x4_1).f3)):=⟨by (with_reducible repeat (first|apply Kd.V_alloc|apply Kd.V_drewN|apply Kd.V_drew));exact Kd.V_mono (Kd.V_far (p:=⟨gb103,4,none⟩) (Kd.V_mono HL106_3.out (fun k_ hk => (⟨hk,hk.1.2.2.2⟩ : _ ∧ k_ ≠ gb103))) (fun _ hk => hk.2) (.slice Ao35 y107.length co35)) (fun _ hk => ⟨hk.1.1.1,⟨hk.1.2,⟨hk.1.1.2.1,⟨hk.1.1.2.2.1,hk.1.1.2.2.2⟩⟩⟩⟩)⟩
               have n7_ : Aside0 (Kd.N k45 45 (w34.setCell ⟨gb103,4,none⟩ (.slice Ao35 y107.length co35)) w.heap.size (fun k_ => (P0_4_ k_ ∨ w.heap.size ≤ k_) ∧ k_ ≠ gb101 ∧ k_ ≠ gb102 ∧ k_ ≠ gb103) (.slice Ao35 y107.length co35) y107):=⟨by (with_reducible repeat (first|apply Kd.N_alloc|apply Kd.N_drewN|apply Kd.N_drew));exact Kd.N_mono (Kd.N_far (p:=⟨gb103,4,none⟩) (Kd.N_mono HO109.out (fun k_ hk => (⟨hk,hk.2.2.2⟩ : _ ∧ k_ ≠ gb103))) (fun _ hk => hk.2) (.slice Ao35 y107.length co35)) (fun _ hk => ⟨hk.1.1,⟨hk.1.2.1,⟨hk.1.2.2.1,hk.1.2.2.2⟩⟩⟩)⟩
               have n8_ : Aside0 ((w34.setCell ⟨gb103,4,none⟩ (.slice Ao35 y107.length co35)).heap[gb101]? = some (.cells #[.string a0_0,.int .i64 a0_1,.int .i64 a0_2,.int .i64 a0_3,.slice (some ad104) x102004_1.length co32] 24 (0,0))):=⟨by (with_reducible repeat (first|refine Z0 ?_ _|refine Z3 ?_|refine Z1 ?_ _));refine Z22 ?_ NB101_103.out _;(with_reducible repeat (first|refine Z0 ?_ _|refine Z3 ?_|refine Z1 ?_ _));exact BK101.out⟩
               have n9_ : Aside0 ((w34.setCell ⟨gb103,4,none⟩ (.slice Ao35 y107.length co35)).heap[gb102]? = some (.cells #[.string (⟨#[]⟩ : ByteArray),.int .i64 0,.int .i64 0,.int .i64 0,.slice none 0 0] 24 (0,0))):=⟨by (with_reducible repeat (first|refine Z0 ?_ _|refine Z3 ?_|refine Z1 ?_ _));refine Z22 ?_ NB102_103.out _;(with_reducible repeat (first|refine Z0 ?_ _|refine Z3 ?_|refine Z1 ?_ _));exact BK102.out⟩
               have n10_ : Aside0 ((w34.setCell ⟨gb103,4,none⟩ (.slice Ao35 y107.length co35)).heap[gb103]? = some (.cells #[.string (⟨#[]⟩ : ByteArray),.int .i64 0,.int .i64 1,.int .i64 0,.slice Ao35 y107.length co35] 24 (0,0))):=⟨by (with_reducible repeat (first|refine Z0 ?_ _|refine Z3 ?_|refine Z1 ?_ _));refine Z9 (cs:=#[.string (⟨#[]⟩ : ByteArray),.int .i64 0,.int .i64 1,.int .i64 0,u104004]) ?_ 4 _ rfl;(with_reducible repeat (first|refine Z0 ?_ _|refine Z3 ?_|refine Z1 ?_ _));exact BK103.out⟩
               have n11_ : Aside0 (Below w.heap.size w (w34.setCell ⟨gb103,4,none⟩ (.slice Ao35 y107.length co35))):=⟨YH⟩
               (try clear HO_102004);(try clear HL104_0);(try clear HL104_3);(try clear HL105_0);(try clear HL105_3);(try clear HL106_0);(try clear HL106_3);(try clear HO109);(try clear BK101);(try clear BK102);(try clear BK103);(try clear HB);generalize (w34.setCell ⟨gb103,4,none⟩ (.slice Ao35 y107.length co35)) = w37 at n0_ n1_ n2_ n3_ n4_ n5_ n6_ n7_ n8_ n9_ n10_ n11_ ⊢;have HO_102004:=n0_
               have HL104_0:=n1_
               have HL104_3:=n2_
               have HL105_0:=n3_
               have HL105_3:=n4_
               have HL106_0:=n5_
               have HL106_3:=n6_
               have HO109:=n7_
               have BK101:=n8_
               have BK102:=n9_
               have BK103:=n10_
               have HB:=n11_
               clear n0_ n1_ n2_ n3_ n4_ n5_ n6_ n7_ n8_ n9_ n10_ n11_;have hnb38:=NB103_102.out
               have hnc38:=NB102_103.out
               have hcz39_4 : w37.cell? ⟨gb103,4,none⟩ = some (.slice Ao35 y107.length co35):=(Z5 BK103.out 4).trans rfl
               have p110 : 0 ≤ (x4_1 : Int):=YA
               have q110 : x4_1 < (y107.length : Int):=YA
               obtain ⟨ad110,A110_0,c110_0,A110_3,c110_3,e110,hx110_0,hx110_1,hx110_2,hx110_3,hl110_0,hi110_0,hl110_3,hi110_3⟩:=at_T45 (Kd.N_reads' HO109.out).2.2 x4_1 p110 q110
               cases e110;obtain ⟨ce110,hce110,hMe110,hcc110⟩:=Kd.N_get HO109.out z45 x4_1 p110 (by first|exact q110|exact YA|(have e_:=(Kd.N_reads' HO109.out).1;omega))
               obtain ⟨ua110_0,uc110_0,ua110_3,uc110_3,rfl,ul110_0,ge110_0,ul110_3,ge110_3⟩:=k45_openF hMe110
               have hv110_0:=hcc110 0 _ rfl
               rw [Nat.add_zero] at hv110_0;replace hv110_0:=Option.some.inj (hv110_0.symm.trans hx110_0)
               injection hv110_0 with hva_ hvn_ hvc_
               rw [hva_] at ge110_0;rw [hvc_] at ul110_0;have HL110_0:=Aside0.mk (show Kd.V k59 59 _ w.heap.size _ _ ((rd_T45 y107 x4_1).f0) from Kd.V_mk ul110_0 ge110_0)
               clear hva_ hvn_ hvc_ ge110_0 ul110_0;have hv110_3:=hcc110 3 _ rfl
               rw [add_field _ _ 3 (by omega)] at hv110_3;replace hv110_3:=Option.some.inj (hv110_3.symm.trans hx110_3)
               injection hv110_3 with hva_ hvn_ hvc_
               rw [hva_] at ge110_3;rw [hvc_] at ul110_3;have HL110_3:=Aside0.mk (show Kd.V (Kd.int .i64) 3 _ w.heap.size _ _ ((rd_T45 y107 x4_1).f3) from Kd.V_mk ul110_3 ge110_3)
               clear hva_ hvn_ hvc_ ge110_3 ul110_3;clear hcc110 hce110;clear hi110_0 hl110_0;clear hi110_3 hl110_3;replace p110:=eq_true p110
               replace q110:=eq_true q110
               have p28 : 0 ≤ (x4_1 : Int):=YA
               have q28 : (x4_1 : Int) < ((y107.length : Int) : Int):=YA
               obtain ⟨go28,co28,eo28,gb28,gl28,cl28,HG28⟩:=Kd.N_form HO109.out (by omega)
               (first|cases eo28|(injection eo28 with ea_ en_ ec_;(first|subst ea_|(injection ea_ with ea_;subst ea_));subst ec_;clear en_));have GB28:=Aside0.mk gb28
               have GG28:=Aside0.mk HG28
               clear gb28 gl28 HG28;(first|simp only [add_plain] at hx110_0|skip);(first|simp only [add_plain] at hx110_1|skip);(first|simp only [add_plain] at hx110_2|skip);(first|simp only [add_plain] at hx110_3|skip);obtain ⟨ce28,hcl28,hM28,hcc28,hfr28⟩:=Kd.N_elem HO109.out z45 (x4_1 : Int) p28 q28
               obtain ⟨ua28_0,uc28_0,ua28_3,uc28_3,rfl,ul28_0,ge28_0,ul28_3,ge28_3⟩:=k45_openF hM28
               have hf28_2 : w37.frozen? ⟨go28,(x4_1 : Int).toNat * 4 + 2,none⟩ = false:=hfr28 2
               clear hcl28 hcc28 hfr28 hM28;replace p28:=eq_true p28
               replace q28:=eq_true q28
               have HX40:=Aside0.mk (show Kd.N k45 45 w37 w.heap.size (fun k_ => (P0_4_ k_ ∨ w.heap.size ≤ k_) ∧ k_ ≠ gb101 ∧ k_ ≠ gb102 ∧ k_ ≠ gb103) (.slice (some ⟨go28,0,none⟩) y107.length co35) y107 from (YN HO109))
               obtain ⟨ce40,hcl40,hM40,hcc40,hfr40⟩:=Kd.N_elem HX40.out z45 (x4_1 : Int) YA (by have h_ : (x4_1 : Int) < ((y107.length : Int) : Int):=YA;first|exact h_|(have e_:=(Kd.N_reads' HO109.out).1;omega)|simpa using h_)
               obtain ⟨ua40_0,uc40_0,ua40_3,uc40_3,rfl,ul40_0,ge40_0,ul40_3,ge40_3⟩:=k45_openF hM40
               have HP40:=Kd.N_seg HX40.out (x4_1 : Int) YA (by have h_ : (x4_1 : Int) < ((y107.length : Int) : Int):=YA;first|exact h_|(have e_:=(Kd.N_reads' HO109.out).1;omega)|simpa using h_) (seg:=[.int .i64 (-1)]) (j:=2) hcl40 hcc40 (show 3 ≤ 4 from by decide) (x' := (⟨(rd_T45 y107 x4_1).f0,(rd_T45 y107 x4_1).f1,(-1),(rd_T45 y107 x4_1).f3⟩ : S45)) (k45_mkF _ _ (⟨(rd_T45 y107 x4_1).f0,(rd_T45 y107 x4_1).f1,(-1),(rd_T45 y107 x4_1).f3⟩ : S45) ul40_0 ge40_0 ul40_3 ge40_3) (fun _ hk => hk)
               clear hcl40 hcc40 hfr40 hM40;try go_wp2_with (first|((with_reducible refine gate_store (t:=3) (p:=56) rfl ?_);refine store_event (t:=3) (p:=56) (v:=?vo_w41) (w1:=(w37.setCell ⟨go28,(x4_1 : Int).toNat * 4 + 2,none⟩ (.int .i64 (-1)))) ?hg ?ho ?hn ?hr ?_;(case ho => rfl);(case hg => rfl);(case hn => rfl);(case hr => first|(go_simp;done)|(go_simp;rfl));intro w41 hw;have hg : w37.grownBy w41 (some go28):=(by rw [hw];exact HP40.2);have hp_ : Kd.N k45 45 w41 w.heap.size (fun k_ => (P0_4_ k_ ∨ w.heap.size ≤ k_) ∧ k_ ≠ gb101 ∧ k_ ≠ gb102 ∧ k_ ≠ gb103) (.slice (some ⟨go28,0,none⟩) y107.length co35) y112:=(by rw [hw,Ny112.out];exact HP40.1);clear HP40;have n0_:=Aside0.mk (Kd.V_afterv (v:=(.slice (some ⟨go28,0,none⟩) y107.length co35)) (v1:=(.slice (some ⟨go28,0,none⟩) y107.length co35)) (ok:=(fun k_ => (P0_4_ k_ ∨ w.heap.size ≤ k_) ∧ k_ ≠ gb101 ∧ k_ ≠ gb102 ∧ k_ ≠ gb103)) (by (with_reducible repeat (first|apply Kd.V_alloc|apply Kd.V_drewN|apply Kd.V_drew));exact Kd.V_mono HO_102004.out (fun _ hk => ⟨⟨hk.1,⟨hk.2.2.1,⟨hk.2.2.2.1,hk.2.2.2.2⟩⟩⟩,hk.2.1⟩)) hg (.inl rfl));have n1_:=Aside0.mk (Z89 (YK BK101) hg (Kd.N_ne HO109.out BK101.out (by decide)));have n2_:=Aside0.mk (Z89 (YK BK102) hg (Kd.N_ne HO109.out BK102.out (by decide)));have n3_:=Aside0.mk (Z89 (YK BK103) hg (Kd.N_ne HO109.out BK103.out (by decide)));have n4_:=Aside0.mk (Kd.V_afterv (v:=(.slice (some ⟨go28,0,none⟩) y107.length co35)) (v1:=(.slice (some ⟨go28,0,none⟩) y107.length co35)) (ok:=(fun k_ => (P0_4_ k_ ∨ w.heap.size ≤ k_) ∧ k_ ≠ gb101 ∧ k_ ≠ gb102 ∧ k_ ≠ gb103)) (by (with_reducible repeat (first|apply Kd.V_alloc|apply Kd.V_drewN|apply Kd.V_drew));exact Kd.V_mono HL104_0.out (fun _ hk => ⟨⟨hk.1,⟨hk.2.2.1,⟨hk.2.2.2.1,hk.2.2.2.2⟩⟩⟩,hk.2.1⟩)) hg (.inl rfl));have n5_:=Aside0.mk (Kd.V_afterv (v:=(.slice (some ⟨go28,0,none⟩) y107.length co35)) (v1:=(.slice (some ⟨go28,0,none⟩) y107.length co35)) (ok:=(fun k_ => (P0_4_ k_ ∨ w.heap.size ≤ k_) ∧ k_ ≠ gb101 ∧ k_ ≠ gb102 ∧ k_ ≠ gb103)) (by (with_reducible repeat (first|apply Kd.V_alloc|apply Kd.V_drewN|apply Kd.V_drew));exact Kd.V_mono HL104_3.out (fun _ hk => ⟨⟨hk.1,⟨hk.2.2.1,⟨hk.2.2.2.1,hk.2.2.2.2⟩⟩⟩,hk.2.1⟩)) hg (.inl rfl));have n6_:=Aside0.mk (Kd.V_afterv (v:=(.slice (some ⟨go28,0,none⟩) y107.length co35)) (v1:=(.slice (some ⟨go28,0,none⟩) y107.length co35)) (ok:=(fun k_ => (P0_4_ k_ ∨ w.heap.size ≤ k_) ∧ k_ ≠ gb101 ∧ k_ ≠ gb102 ∧ k_ ≠ gb103)) (by (with_reducible repeat (first|apply Kd.V_alloc|apply Kd.V_drewN|apply Kd.V_drew));exact Kd.V_mono HL105_0.out (fun _ hk => ⟨⟨hk.1,⟨hk.2.2.1,⟨hk.2.2.2.1,hk.2.2.2.2⟩⟩⟩,hk.2.1⟩)) hg (.inl rfl));have n7_:=Aside0.mk (Kd.V_afterv (v:=(.slice (some ⟨go28,0,none⟩) y107.length co35)) (v1:=(.slice (some ⟨go28,0,none⟩) y107.length co35)) (ok:=(fun k_ => (P0_4_ k_ ∨ w.heap.size ≤ k_) ∧ k_ ≠ gb101 ∧ k_ ≠ gb102 ∧ k_ ≠ gb103)) (by (with_reducible repeat (first|apply Kd.V_alloc|apply Kd.V_drewN|apply Kd.V_drew));exact Kd.V_mono HL105_3.out (fun _ hk => ⟨⟨hk.1,⟨hk.2.2.1,⟨hk.2.2.2.1,hk.2.2.2.2⟩⟩⟩,hk.2.1⟩)) hg (.inl rfl));have n8_:=Aside0.mk (Kd.V_afterv (v:=(.slice (some ⟨go28,0,none⟩) y107.length co35)) (v1:=(.slice (some ⟨go28,0,none⟩) y107.length co35)) (ok:=(fun k_ => (P0_4_ k_ ∨ w.heap.size ≤ k_) ∧ k_ ≠ gb101 ∧ k_ ≠ gb102 ∧ k_ ≠ gb103)) (by (with_reducible repeat (first|apply Kd.V_alloc|apply Kd.V_drewN|apply Kd.V_drew));exact Kd.V_mono HL106_0.out (fun _ hk => ⟨⟨hk.1,⟨hk.2.2.1,⟨hk.2.2.2.1,hk.2.2.2.2⟩⟩⟩,hk.2.1⟩)) hg (.inl rfl));have n9_:=Aside0.mk (Kd.V_afterv (v:=(.slice (some ⟨go28,0,none⟩) y107.length co35)) (v1:=(.slice (some ⟨go28,0,none⟩) y107.length co35)) (ok:=(fun k_ => (P0_4_ k_ ∨ w.heap.size ≤ k_) ∧ k_ ≠ gb101 ∧ k_ ≠ gb102 ∧ k_ ≠ gb103)) (by (with_reducible repeat (first|apply Kd.V_alloc|apply Kd.V_drewN|apply Kd.V_drew));exact Kd.V_mono HL106_3.out (fun _ hk => ⟨⟨hk.1,⟨hk.2.2.1,⟨hk.2.2.2.1,hk.2.2.2.2⟩⟩⟩,hk.2.1⟩)) hg (.inl rfl));have n10_:=Aside0.mk (hp_);have n11_:=Aside0.mk (Kd.V_afterv (v:=(.slice (some ⟨go28,0,none⟩) y107.length co35)) (v1:=(.slice (some ⟨go28,0,none⟩) y107.length co35)) (ok:=(fun k_ => (P0_4_ k_ ∨ w.heap.size ≤ k_) ∧ k_ ≠ gb101 ∧ k_ ≠ gb102 ∧ k_ ≠ gb103)) (YV HL110_0) hg (.inl rfl));have n12_:=Aside0.mk (Kd.V_afterv (v:=(.slice (some ⟨go28,0,none⟩) y107.length co35)) (v1:=(.slice (some ⟨go28,0,none⟩) y107.length co35)) (ok:=(fun k_ => (P0_4_ k_ ∨ w.heap.size ≤ k_) ∧ k_ ≠ gb101 ∧ k_ ≠ gb102 ∧ k_ ≠ gb103)) (YV HL110_3) hg (.inl rfl));have n13_:=Aside0.mk ((by rw [hw];exact Z8 (HB.out) GB28.out : Below w.heap.size w w41));clear HO_102004;clear BK101;clear BK102;clear BK103;clear HL104_0;clear HL104_3;clear HL105_0;clear HL105_3;clear HL106_0;clear HL106_3;clear HO109;clear HL110_0;clear HL110_3;clear HB;have HO_102004:=n0_;have BK101:=n1_;have BK102:=n2_;have BK103:=n3_;have HL104_0:=n4_;have HL104_3:=n5_;have HL105_0:=n6_;have HL105_3:=n7_;have HL106_0:=n8_;have HL106_3:=n9_;have HO109:=n10_;have HL110_0:=n11_;have HL110_3:=n12_;have HB:=n13_;clear n0_ n1_ n2_ n3_ n4_ n5_ n6_ n7_ n8_ n9_ n10_ n11_ n12_ n13_;clear hg hw hp_))
               go_roundg k1
               case measure => have:=HK1.out;omega
               case rel => exact ⟨(wrap64 (x4_1 + 1)),(x102004_1),(y112),(.slice (some ad104) x102004_1.length co32),(.slice (some ⟨go28,0,none⟩) y107.length co35),(by first|rfl|(simp;done)|(simp [*];done)),H',⟨by have:=HK1.out;omega⟩,⟨by (with_reducible repeat (first|apply Kd.V_alloc|apply Kd.V_drewN|apply Kd.V_drew));exact Kd.V_mono HO_102004.out (fun _ hk => ⟨hk.1.1,⟨hk.2,⟨hk.1.2.1,⟨hk.1.2.2.1,hk.1.2.2.2⟩⟩⟩⟩)⟩,⟨YN HO109⟩,⟨YK BK101⟩,⟨YK BK102⟩,⟨YK BK103⟩,⟨YH⟩⟩
             · rw [if_neg c27] at H;have c27b0 : (((rd_T45 y107 x4_1).f1) == 3) = false:=beq_eq_false_iff_ne.mpr c27
               have H' := Aside0.mk H
               clear H;have hnb42:=NB101_102.out
               have hnc42:=NB102_101.out
               have hnb43:=NB101_103.out
               have hnc43:=NB103_101.out
               have hcz44_4 : wr.cell? ⟨gb101,4,none⟩ = some (u102004):=(Z5 BK101.out 4).trans rfl
               obtain ⟨Ao45,co45,eo45⟩:=Kd.V_slice HO_102004.out
               subst eo45;try go_wp2
               have n0_:=Aside0.mk (Kd.V_drew HO_102004.out)
               have n1_:=Aside0.mk (Kd.N_drew HO_104004.out)
               have n2_:=Aside0.mk (Z3 BK101.out)
               have n3_:=Aside0.mk (Z3 BK102.out)
               have n4_:=Aside0.mk (Z3 BK103.out)
               have n5_:=Aside0.mk (Z6 HB.out)
               clear HO_102004;clear HO_104004;clear BK101;clear BK102;clear BK103;clear HB;have HO_102004:=n0_
               have HO_104004:=n1_
               have BK101:=n2_
               have BK102:=n3_
               have BK103:=n4_
               have HB:=n5_
               clear n0_ n1_ n2_ n3_ n4_ n5_;have p104 : 0 ≤ (x4_1 : Int):=YA
               have q104 : x4_1 < (x102004_1.length : Int):=YA
               obtain ⟨ad104,A104_0,c104_0,A104_3,c104_3,e104,hx104_0,hx104_1,hx104_2,hx104_3,hl104_0,hi104_0,hl104_3,hi104_3⟩:=at_T45 (Kd.V_reads' HO_102004.out).2.2 x4_1 p104 q104
               cases e104;obtain ⟨ce104,hce104,hMe104,hcc104⟩:=Kd.V_get HO_102004.out z45 x4_1 p104 (by first|exact q104|exact YA|(have e_:=(Kd.V_reads' HO_102004.out).1;omega))
               obtain ⟨ua104_0,uc104_0,ua104_3,uc104_3,rfl,ul104_0,ge104_0,ul104_3,ge104_3⟩:=k45_openF hMe104
               have hv104_0:=hcc104 0 _ rfl
               rw [Nat.add_zero] at hv104_0;replace hv104_0:=Option.some.inj (hv104_0.symm.trans hx104_0)
               injection hv104_0 with hva_ hvn_ hvc_
               rw [hva_] at ge104_0;rw [hvc_] at ul104_0;have HL104_0:=Aside0.mk (show Kd.V k59 59 _ w.heap.size _ _ ((rd_T45 x102004_1 x4_1).f0) from Kd.V_mk ul104_0 ge104_0)
               clear hva_ hvn_ hvc_ ge104_0 ul104_0;have hv104_3:=hcc104 3 _ rfl
               rw [add_field _ _ 3 (by omega)] at hv104_3;replace hv104_3:=Option.some.inj (hv104_3.symm.trans hx104_3)
               injection hv104_3 with hva_ hvn_ hvc_
               rw [hva_] at ge104_3;rw [hvc_] at ul104_3;have HL104_3:=Aside0.mk (show Kd.V (Kd.int .i64) 3 _ w.heap.size _ _ ((rd_T45 x102004_1 x4_1).f3) from Kd.V_mk ul104_3 ge104_3)
               clear hva_ hvn_ hvc_ ge104_3 ul104_3;clear hcc104 hce104;clear hi104_0 hl104_0;clear hi104_3 hl104_3;replace p104:=eq_true p104
               replace q104:=eq_true q104
               have p105 : 0 ≤ (x4_1 : Int):=YA
               have q105 : x4_1 < (x102004_1.length : Int):=YA
               obtain ⟨ad105,A105_0,c105_0,A105_3,c105_3,e105,hx105_0,hx105_1,hx105_2,hx105_3,hl105_0,hi105_0,hl105_3,hi105_3⟩:=at_T45 (Kd.V_reads' HO_102004.out).2.2 x4_1 p105 q105
               obtain rfl : ad104 = ad105:=(by injection e105)
               obtain ⟨ce105,hce105,hMe105,hcc105⟩:=Kd.V_get HO_102004.out z45 x4_1 p105 (by first|exact q105|exact YA|(have e_:=(Kd.V_reads' HO_102004.out).1;omega))
               obtain ⟨ua105_0,uc105_0,ua105_3,uc105_3,rfl,ul105_0,ge105_0,ul105_3,ge105_3⟩:=k45_openF hMe105
               have hv105_0:=hcc105 0 _ rfl
               rw [Nat.add_zero] at hv105_0;replace hv105_0:=Option.some.inj (hv105_0.symm.trans hx105_0)
               injection hv105_0 with hva_ hvn_ hvc_
               rw [hva_] at ge105_0;rw [hvc_] at ul105_0;have HL105_0:=Aside0.mk (show Kd.V k59 59 _ w.heap.size _ _ ((rd_T45 x102004_1 x4_1).f0) from Kd.V_mk ul105_0 ge105_0)
               clear hva_ hvn_ hvc_ ge105_0 ul105_0;have hv105_3:=hcc105 3 _ rfl
               rw [add_field _ _ 3 (by omega)] at hv105_3;replace hv105_3:=Option.some.inj (hv105_3.symm.trans hx105_3)
               injection hv105_3 with hva_ hvn_ hvc_
               rw [hva_] at ge105_3;rw [hvc_] at ul105_3;have HL105_3:=Aside0.mk (show Kd.V (Kd.int .i64) 3 _ w.heap.size _ _ ((rd_T45 x102004_1 x4_1).f3) from Kd.V_mk ul105_3 ge105_3)
               clear hva_ hvn_ hvc_ ge105_3 ul105_3;clear hcc105 hce105;have HR105_0:=Aside0.mk hi105_0
               have HC105_0:=Aside0.mk hl105_0
               clear hi105_0 hl105_0;have HR105_3:=Aside0.mk hi105_3
               have HC105_3:=Aside0.mk hl105_3
               clear hi105_3 hl105_3;replace p105:=eq_true p105
               replace q105:=eq_true q105
               have ea_:=Option.some.inj (hx104_0.symm.trans hx105_0)
               injection ea_ with ea_ en_ ec_
               subst ea_;subst ec_;clear en_;have ea_:=Option.some.inj (hx104_3.symm.trans hx105_3)
               injection ea_ with ea_ en_ ec_
               subst ea_;subst ec_;clear en_;have p106 : 0 ≤ (x4_1 : Int):=YA
               have q106 : x4_1 < (x102004_1.length : Int):=YA
               obtain ⟨ad106,A106_0,c106_0,A106_3,c106_3,e106,hx106_0,hx106_1,hx106_2,hx106_3,hl106_0,hi106_0,hl106_3,hi106_3⟩:=at_T45 (Kd.V_reads' HO_102004.out).2.2 x4_1 p106 q106
               obtain rfl : ad104 = ad106:=(by injection e106)
               obtain ⟨ce106,hce106,hMe106,hcc106⟩:=Kd.V_get HO_102004.out z45 x4_1 p106 (by first|exact q106|exact YA|(have e_:=(Kd.V_reads' HO_102004.out).1;omega))
               obtain ⟨ua106_0,uc106_0,ua106_3,uc106_3,rfl,ul106_0,ge106_0,ul106_3,ge106_3⟩:=k45_openF hMe106
               have hv106_0:=hcc106 0 _ rfl
               rw [Nat.add_zero] at hv106_0;replace hv106_0:=Option.some.inj (hv106_0.symm.trans hx106_0)
               injection hv106_0 with hva_ hvn_ hvc_
               rw [hva_] at ge106_0;rw [hvc_] at ul106_0;have HL106_0:=Aside0.mk (show Kd.V k59 59 _ w.heap.size _ _ ((rd_T45 x102004_1 x4_1).f0) from Kd.V_mk ul106_0 ge106_0)
               clear hva_ hvn_ hvc_ ge106_0 ul106_0;have hv106_3:=hcc106 3 _ rfl
               rw [add_field _ _ 3 (by omega)] at hv106_3;replace hv106_3:=Option.some.inj (hv106_3.symm.trans hx106_3)
               injection hv106_3 with hva_ hvn_ hvc_
               rw [hva_] at ge106_3;rw [hvc_] at ul106_3;have HL106_3:=Aside0.mk (show Kd.V (Kd.int .i64) 3 _ w.heap.size _ _ ((rd_T45 x102004_1 x4_1).f3) from Kd.V_mk ul106_3 ge106_3)
               clear hva_ hvn_ hvc_ ge106_3 ul106_3;clear hcc106 hce106;have HR106_0:=Aside0.mk hi106_0
               have HC106_0:=Aside0.mk hl106_0
               clear hi106_0 hl106_0;have HR106_3:=Aside0.mk hi106_3
               have HC106_3:=Aside0.mk hl106_3
               clear hi106_3 hl106_3;replace p106:=eq_true p106
               replace q106:=eq_true q106
               have ea_:=Option.some.inj (hx104_0.symm.trans hx106_0)
               injection ea_ with ea_ en_ ec_
               subst ea_;subst ec_;clear en_;have ea_:=Option.some.inj (hx104_3.symm.trans hx106_3)
               injection ea_ with ea_ en_ ec_
               subst ea_;subst ec_;clear en_;refine start_ (n:=25) (S:=fun w' => w'.cell? ⟨gb103,0,none⟩ = some (.string (⟨#[]⟩ : ByteArray)) ∧ w'.cell? ⟨gb103,1,none⟩ = some (.int .i64 0) ∧ w'.cell? ⟨gb103,2,none⟩ = some (.int .i64 1) ∧ w'.cell? ⟨gb103,3,none⟩ = some (.int .i64 0) ∧ w'.cell? ⟨gb103,4,none⟩ = some (u104004) ∧ w'.cell? ⟨gb101,0,none⟩ = some (.string a0_0) ∧ w'.cell? ⟨gb101,1,none⟩ = some (.int .i64 a0_1) ∧ w'.cell? ⟨gb101,2,none⟩ = some (.int .i64 a0_2) ∧ w'.cell? ⟨gb101,3,none⟩ = some (.int .i64 a0_3) ∧ w'.cell? ⟨gb101,4,none⟩ = some (.slice (some ad104) x102004_1.length co45) ∧ w'.cell? (ad104.add ((x4_1).toNat * 4)) = some (.slice A104_0 ((rd_T45 x102004_1 x4_1).f0).length c104_0) ∧ w'.cell? ⟨(ad104.add ((x4_1).toNat * 4)).block,(ad104.add ((x4_1).toNat * 4)).off + 1,none⟩ = some (.int .i64 ((rd_T45 x102004_1 x4_1).f1)) ∧ w'.cell? ⟨(ad104.add ((x4_1).toNat * 4)).block,(ad104.add ((x4_1).toNat * 4)).off + 2,none⟩ = some (.int .i64 ((rd_T45 x102004_1 x4_1).f2)) ∧ w'.cell? ⟨(ad104.add ((x4_1).toNat * 4)).block,(ad104.add ((x4_1).toNat * 4)).off + 3,none⟩ = some (.slice A104_3 ((rd_T45 x102004_1 x4_1).f3).length c104_3) ∧ w'.cell? (ad104.add ((x4_1).toNat * 4)) = some (.slice A104_0 ((rd_T45 x102004_1 x4_1).f0).length c104_0) ∧ w'.cell? ⟨(ad104.add ((x4_1).toNat * 4)).block,(ad104.add ((x4_1).toNat * 4)).off + 1,none⟩ = some (.int .i64 ((rd_T45 x102004_1 x4_1).f1)) ∧ w'.cell? ⟨(ad104.add ((x4_1).toNat * 4)).block,(ad104.add ((x4_1).toNat * 4)).off + 2,none⟩ = some (.int .i64 ((rd_T45 x102004_1 x4_1).f2)) ∧ w'.cell? ⟨(ad104.add ((x4_1).toNat * 4)).block,(ad104.add ((x4_1).toNat * 4)).off + 3,none⟩ = some (.slice A104_3 ((rd_T45 x102004_1 x4_1).f3).length c104_3) ∧ w'.cell? (ad104.add ((x4_1).toNat * 4)) = some (.slice A104_0 ((rd_T45 x102004_1 x4_1).f0).length c104_0) ∧ w'.cell? ⟨(ad104.add ((x4_1).toNat * 4)).block,(ad104.add ((x4_1).toNat * 4)).off + 1,none⟩ = some (.int .i64 ((rd_T45 x102004_1 x4_1).f1)) ∧ w'.cell? ⟨(ad104.add ((x4_1).toNat * 4)).block,(ad104.add ((x4_1).toNat * 4)).off + 2,none⟩ = some (.int .i64 ((rd_T45 x102004_1 x4_1).f2)) ∧ w'.cell? ⟨(ad104.add ((x4_1).toNat * 4)).block,(ad104.add ((x4_1).toNat * 4)).off + 3,none⟩ = some (.slice A104_3 ((rd_T45 x102004_1 x4_1).f3).length c104_3)) (ds:=[22,24]) #[false,false,false,false,false,false,false,false,false,false,false,false,false,false,false,false,false,false,false,false,false,false,false,false,false] (by kernel_rfl) rfl rfl ⟨(Z5 BK103.out 0).trans rfl,(Z5 BK103.out 1).trans rfl,(Z5 BK103.out 2).trans rfl,(Z5 BK103.out 3).trans rfl,(Z5 BK103.out 4).trans rfl,(Z5 BK101.out 0).trans rfl,(Z5 BK101.out 1).trans rfl,(Z5 BK101.out 2).trans rfl,(Z5 BK101.out 3).trans rfl,(Z5 BK101.out 4).trans rfl,hx104_0,hx104_1,hx104_2,hx104_3,hx105_0,hx105_1,hx105_2,hx105_3,hx106_0,hx106_1,hx106_2,hx106_3⟩ (fun hHeld => ?_);refine Z74 cruciblelaw17_bare.tab5 cruciblelaw17_bare.bits5 (fun HT_ HW_ => ?_);generalize wr.drew = w46 at HO_102004 HO_104004 BK101 BK102 BK103 HB HL104_0 HL104_3 HL105_0 HL105_3 HL106_0 HL106_3 HR105_0 HR105_3 HR106_0 HR106_3 hx104_0 hx104_1 hx104_2 hx104_3 hx105_0 hx105_1 hx105_2 hx105_3 hx106_0 hx106_1 hx106_2 hx106_3 hHeld ⊢;refine pure_ (i:=0) (N:=some 13) (v:=?_) (a' := ?_) #[true,false,false,false,false,false,false,false,false,false,false,false,false,false,false,false,false,false,false,false,false,false,false,false,false] rfl rfl (any_of HT_.out (by kernel_rfl)) (fun _ _ _ h => h) (Or.inl ⟨by rfl,?_⟩) ?_ ?_;rotate_left
               · intro w';go_simp
                 with_reducible rfl
               rotate_left
               · simp only [Act.put,List.setIfInBounds_toArray,List.set_cons_zero,List.set_cons_succ,i64_w,i32_w];rfl
               refine pure_ (i:=2) (N:=some 15) (v:=?_) (a' := ?_) #[true,false,true,false,false,false,false,false,false,false,false,false,false,false,false,false,false,false,false,false,false,false,false,false,false] rfl rfl (any_of HT_.out (by kernel_rfl)) (fun _ _ _ h => h) (Or.inl ⟨by rfl,?_⟩) ?_ ?_;rotate_left
               · intro w';go_simp
                 with_reducible rfl
               rotate_left
               · simp only [Act.put,List.setIfInBounds_toArray,List.set_cons_zero,List.set_cons_succ,i64_w,i32_w];rfl
               refine pure_ (i:=4) (N:=some 17) (v:=?_) (a' := ?_) #[true,false,true,false,true,false,false,false,false,false,false,false,false,false,false,false,false,false,false,false,false,false,false,false,false] rfl rfl (any_of HT_.out (by kernel_rfl)) (fun _ _ _ h => h) (Or.inl ⟨by rfl,?_⟩) ?_ ?_;rotate_left
               · intro w';go_simp
                 with_reducible rfl
               rotate_left
               · simp only [Act.put,List.setIfInBounds_toArray,List.set_cons_zero,List.set_cons_succ,i64_w,i32_w];rfl
               refine pure_ (i:=8) (N:=some 21) (v:=?_) (a' := ?_) #[true,false,true,false,true,false,false,false,true,false,false,false,false,false,false,false,false,false,false,false,false,false,false,false,false] rfl rfl (any_of HT_.out (by kernel_rfl)) (fun _ _ _ h => h) (Or.inl ⟨by rfl,?_⟩) ?_ ?_;rotate_left
               · intro w';go_simp
                 with_reducible rfl
               rotate_left
               · simp only [Act.put,List.setIfInBounds_toArray,List.set_cons_zero,List.set_cons_succ,i64_w,i32_w];rfl
               refine pure_ (i:=10) (N:=some 23) (v:=?_) (a' := ?_) #[true,false,true,false,true,false,false,false,true,false,true,false,false,false,false,false,false,false,false,false,false,false,false,false,false] rfl rfl (any_of HT_.out (by kernel_rfl)) (fun _ _ _ h => h) (Or.inl ⟨by rfl,?_⟩) ?_ ?_;rotate_left
               · intro w';go_simp
                 with_reducible rfl
               rotate_left
               · simp only [Act.put,List.setIfInBounds_toArray,List.set_cons_zero,List.set_cons_succ,i64_w,i32_w];rfl
               refine pure_ (i:=14) (N:=some 27) (v:=?_) (a' := ?_) #[true,false,true,false,true,false,false,false,true,false,true,false,false,false,true,false,false,false,false,false,false,false,false,false,false] rfl rfl (any_of HT_.out (by kernel_rfl)) (fun _ _ _ h => h) (Or.inl ⟨by rfl,?_⟩) ?_ ?_;rotate_left
               · intro w';go_simp
                 with_reducible rfl
               rotate_left
               · simp only [Act.put,List.setIfInBounds_toArray,List.set_cons_zero,List.set_cons_succ,i64_w,i32_w];rfl
               refine pure_ (i:=16) (N:=some 29) (v:=?_) (a' := ?_) #[true,false,true,false,true,false,false,false,true,false,true,false,false,false,true,false,true,false,false,false,false,false,false,false,false] rfl rfl (any_of HT_.out (by kernel_rfl)) (fun _ _ _ h => h) (Or.inl ⟨by rfl,?_⟩) ?_ ?_;rotate_left
               · intro w';go_simp
                 with_reducible rfl
               rotate_left
               · simp only [Act.put,List.setIfInBounds_toArray,List.set_cons_zero,List.set_cons_succ,i64_w,i32_w];rfl
               refine take_ (i:=1) (N:=some 14) (v:=?_) (a' := ?_) #[true,true,true,false,true,false,false,false,true,false,true,false,false,false,true,false,true,false,false,false,false,false,false,false,false] rfl rfl (Z67 HT_.out HW_.out (by kernel_rfl)) (fun _ _ _ h => h) (Or.inl ⟨by rfl,?_⟩) hHeld ?_ ?_;rotate_left
               · rintro w' ⟨s0,s1,s2,s3,s4,s5,s6,s7,s8,s9,s10,s11,s12,s13,s14,s15,s16,s17,s18,s19,s20,s21⟩;go_simp
                 with_reducible rfl
               rotate_left
               · simp only [Act.put,List.setIfInBounds_toArray,List.set_cons_zero,List.set_cons_succ,i64_w,i32_w];rfl
               refine take_ (i:=3) (N:=some 16) (v:=?_) (a' := ?_) #[true,true,true,true,true,false,false,false,true,false,true,false,false,false,true,false,true,false,false,false,false,false,false,false,false] rfl rfl (Z67 HT_.out HW_.out (by kernel_rfl)) (fun _ _ _ h => h) (Or.inl ⟨by rfl,?_⟩) hHeld ?_ ?_;rotate_left
               · rintro w' ⟨s0,s1,s2,s3,s4,s5,s6,s7,s8,s9,s10,s11,s12,s13,s14,s15,s16,s17,s18,s19,s20,s21⟩;go_simp
                 with_reducible rfl
               rotate_left
               · simp only [Act.put,List.setIfInBounds_toArray,List.set_cons_zero,List.set_cons_succ,i64_w,i32_w];rfl
               refine pure_ (i:=5) (N:=some 18) (v:=?_) (a' := ?_) #[true,true,true,true,true,true,false,false,true,false,true,false,false,false,true,false,true,false,false,false,false,false,false,false,false] rfl rfl (any_of HT_.out (by kernel_rfl)) (fun _ _ _ h => h) (Or.inl ⟨by rfl,?_⟩) ?_ ?_;rotate_left
               · intro w';go_simp
                 with_reducible rfl
               rotate_left
               · simp only [Act.put,List.setIfInBounds_toArray,List.set_cons_zero,List.set_cons_succ,i64_w,i32_w];rfl
               refine pure_ (i:=6) (N:=some 19) (v:=?_) (a' := ?_) #[true,true,true,true,true,true,true,false,true,false,true,false,false,false,true,false,true,false,false,false,false,false,false,false,false] rfl rfl (any_of HT_.out (by kernel_rfl)) (fun _ _ _ h => h) (Or.inl ⟨by rfl,?_⟩) ?_ ?_;rotate_left
               · intro w';go_simp
                 with_reducible rfl
               rotate_left
               · simp only [Act.put,List.setIfInBounds_toArray,List.set_cons_zero,List.set_cons_succ,i64_w,i32_w];rfl
               refine take_ (i:=7) (N:=some 20) (v:=?_) (a' := ?_) #[true,true,true,true,true,true,true,true,true,false,true,false,false,false,true,false,true,false,false,false,false,false,false,false,false] rfl rfl (Z67 HT_.out HW_.out (by kernel_rfl)) (fun _ _ _ h => h) (Or.inl ⟨by rfl,?_⟩) hHeld ?_ ?_;rotate_left
               · rintro w' ⟨s0,s1,s2,s3,s4,s5,s6,s7,s8,s9,s10,s11,s12,s13,s14,s15,s16,s17,s18,s19,s20,s21⟩;go_simp
                 with_reducible rfl
               rotate_left
               · simp only [Act.put,List.setIfInBounds_toArray,List.set_cons_zero,List.set_cons_succ,i64_w,i32_w];rfl
               refine take_ (i:=9) (N:=some 22) (v:=?_) (a' := ?_) #[true,true,true,true,true,true,true,true,true,true,true,false,false,false,true,false,true,false,false,false,false,false,false,false,false] rfl rfl (Z67 HT_.out HW_.out (by kernel_rfl)) (fun _ _ _ h => h) (Or.inl ⟨by rfl,?_⟩) hHeld ?_ ?_;rotate_left
               · rintro w' ⟨s0,s1,s2,s3,s4,s5,s6,s7,s8,s9,s10,s11,s12,s13,s14,s15,s16,s17,s18,s19,s20,s21⟩;go_simp
                 with_reducible rfl
               rotate_left
               · simp only [Act.put,List.setIfInBounds_toArray,List.set_cons_zero,List.set_cons_succ,i64_w,i32_w];rfl
               refine pure_ (i:=11) (N:=some 24) (v:=?_) (a' := ?_) #[true,true,true,true,true,true,true,true,true,true,true,true,false,false,true,false,true,false,false,false,false,false,false,false,false] rfl rfl (any_of HT_.out (by kernel_rfl)) (fun _ _ _ h => h) (Or.inl ⟨by rfl,?_⟩) ?_ ?_;rotate_left
               · intro w';go_simp
                 with_reducible rfl
               rotate_left
               · simp only [Act.put,List.setIfInBounds_toArray,List.set_cons_zero,List.set_cons_succ,i64_w,i32_w];rfl
               refine pure_ (i:=12) (N:=some 25) (v:=?_) (a' := ?_) #[true,true,true,true,true,true,true,true,true,true,true,true,true,false,true,false,true,false,false,false,false,false,false,false,false] rfl rfl (any_of HT_.out (by kernel_rfl)) (fun _ _ _ h => h) (Or.inl ⟨by rfl,?_⟩) ?_ ?_;rotate_left
               · intro w';go_simp
                 with_reducible rfl
               rotate_left
               · simp only [Act.put,List.setIfInBounds_toArray,List.set_cons_zero,List.set_cons_succ,i64_w,i32_w];rfl
               refine take_ (i:=13) (N:=some 26) (v:=?_) (a' := ?_) #[true,true,true,true,true,true,true,true,true,true,true,true,true,true,true,false,true,false,false,false,false,false,false,false,false] rfl rfl (Z67 HT_.out HW_.out (by kernel_rfl)) (fun _ _ _ h => h) (Or.inl ⟨by rfl,?_⟩) hHeld ?_ ?_;rotate_left
               · rintro w' ⟨s0,s1,s2,s3,s4,s5,s6,s7,s8,s9,s10,s11,s12,s13,s14,s15,s16,s17,s18,s19,s20,s21⟩;go_simp
                 with_reducible rfl
               rotate_left
               · simp only [Act.put,List.setIfInBounds_toArray,List.set_cons_zero,List.set_cons_succ,i64_w,i32_w];rfl
               refine take_ (i:=15) (N:=some 28) (v:=?_) (a' := ?_) #[true,true,true,true,true,true,true,true,true,true,true,true,true,true,true,true,true,false,false,false,false,false,false,false,false] rfl rfl (Z67 HT_.out HW_.out (by kernel_rfl)) (fun _ _ _ h => h) (Or.inl ⟨by rfl,?_⟩) hHeld ?_ ?_;rotate_left
               · rintro w' ⟨s0,s1,s2,s3,s4,s5,s6,s7,s8,s9,s10,s11,s12,s13,s14,s15,s16,s17,s18,s19,s20,s21⟩;go_simp
                 with_reducible rfl
               rotate_left
               · simp only [Act.put,List.setIfInBounds_toArray,List.set_cons_zero,List.set_cons_succ,i64_w,i32_w];rfl
               refine pure_ (i:=17) (N:=some 30) (v:=?_) (a' := ?_) #[true,true,true,true,true,true,true,true,true,true,true,true,true,true,true,true,true,true,false,false,false,false,false,false,false] rfl rfl (any_of HT_.out (by kernel_rfl)) (fun _ _ _ h => h) (Or.inl ⟨by rfl,?_⟩) ?_ ?_;rotate_left
               · intro w';go_simp
                 with_reducible rfl
               rotate_left
               · simp only [Act.put,List.setIfInBounds_toArray,List.set_cons_zero,List.set_cons_succ,i64_w,i32_w];rfl
               refine pure_ (i:=18) (N:=some 31) (v:=?_) (a' := ?_) #[true,true,true,true,true,true,true,true,true,true,true,true,true,true,true,true,true,true,true,false,false,false,false,false,false] rfl rfl (any_of HT_.out (by kernel_rfl)) (fun _ _ _ h => h) (Or.inl ⟨by rfl,?_⟩) ?_ ?_;rotate_left
               · intro w';go_simp
                 with_reducible rfl
               rotate_left
               · simp only [Act.put,List.setIfInBounds_toArray,List.set_cons_zero,List.set_cons_succ,i64_w,i32_w];rfl
               refine take_ (i:=19) (N:=some 32) (v:=?_) (a' := ?_) #[true,true,true,true,true,true,true,true,true,true,true,true,true,true,true,true,true,true,true,true,false,false,false,false,false] rfl rfl (Z67 HT_.out HW_.out (by kernel_rfl)) (fun _ _ _ h => h) (Or.inl ⟨by rfl,?_⟩) hHeld ?_ ?_;rotate_left
               · rintro w' ⟨s0,s1,s2,s3,s4,s5,s6,s7,s8,s9,s10,s11,s12,s13,s14,s15,s16,s17,s18,s19,s20,s21⟩;go_simp
                 with_reducible rfl
               rotate_left
               · simp only [Act.put,List.setIfInBounds_toArray,List.set_cons_zero,List.set_cons_succ,i64_w,i32_w];rfl
               refine pure_ (i:=20) (N:=some 33) (v:=?_) (a' := ?_) #[true,true,true,true,true,true,true,true,true,true,true,true,true,true,true,true,true,true,true,true,true,false,false,false,false] rfl rfl (any_of HT_.out (by kernel_rfl)) (fun _ _ _ h => h) (Or.inl ⟨by rfl,?_⟩) ?_ ?_;rotate_left
               · intro w';go_simp
                 with_reducible rfl
               rotate_left
               · simp only [Act.put,List.setIfInBounds_toArray,List.set_cons_zero,List.set_cons_succ,i64_w,i32_w];rfl
               refine one_ (i:=21) (N:=some 34) #[true,true,true,true,true,true,true,true,true,true,true,true,true,true,true,true,true,true,true,true,true,true,false,false,false] rfl rfl (one_of HT_.out (by kernel_rfl)) (by decide) (fun K hK => ?_);refine value_ (w1:=?_) (v:=?_) (by rfl) rfl ?_ ?_;rotate_left 2
               · go_simp;constructor
                 · rfl
                 · rfl
               refine hK.out _ _ ⟨(Z5 (Z1 BK103.out _) 0).trans rfl,(Z5 (Z1 BK103.out _) 1).trans rfl,(Z5 (Z1 BK103.out _) 2).trans rfl,(Z5 (Z1 BK103.out _) 3).trans rfl,(Z5 (Z1 BK103.out _) 4).trans rfl,(Z5 (Z1 BK101.out _) 0).trans rfl,(Z5 (Z1 BK101.out _) 1).trans rfl,(Z5 (Z1 BK101.out _) 2).trans rfl,(Z5 (Z1 BK101.out _) 3).trans rfl,(Z5 (Z1 BK101.out _) 4).trans rfl,(World.cell?_alloc_lt _ _ _ (World.block_lt_of_cell? _ _ (hHeld.2.2.2.2.2.2.2.2.2.2.1))).trans (hHeld.2.2.2.2.2.2.2.2.2.2.1),(World.cell?_alloc_lt _ _ _ (World.block_lt_of_cell? _ _ (hHeld.2.2.2.2.2.2.2.2.2.2.2.1))).trans (hHeld.2.2.2.2.2.2.2.2.2.2.2.1),(World.cell?_alloc_lt _ _ _ (World.block_lt_of_cell? _ _ (hHeld.2.2.2.2.2.2.2.2.2.2.2.2.1))).trans (hHeld.2.2.2.2.2.2.2.2.2.2.2.2.1),(World.cell?_alloc_lt _ _ _ (World.block_lt_of_cell? _ _ (hHeld.2.2.2.2.2.2.2.2.2.2.2.2.2.1))).trans (hHeld.2.2.2.2.2.2.2.2.2.2.2.2.2.1),(World.cell?_alloc_lt _ _ _ (World.block_lt_of_cell? _ _ (hHeld.2.2.2.2.2.2.2.2.2.2.2.2.2.2.1))).trans (hHeld.2.2.2.2.2.2.2.2.2.2.2.2.2.2.1),(World.cell?_alloc_lt _ _ _ (World.block_lt_of_cell? _ _ (hHeld.2.2.2.2.2.2.2.2.2.2.2.2.2.2.2.1))).trans (hHeld.2.2.2.2.2.2.2.2.2.2.2.2.2.2.2.1),(World.cell?_alloc_lt _ _ _ (World.block_lt_of_cell? _ _ (hHeld.2.2.2.2.2.2.2.2.2.2.2.2.2.2.2.2.1))).trans (hHeld.2.2.2.2.2.2.2.2.2.2.2.2.2.2.2.2.1),(World.cell?_alloc_lt _ _ _ (World.block_lt_of_cell? _ _ (hHeld.2.2.2.2.2.2.2.2.2.2.2.2.2.2.2.2.2.1))).trans (hHeld.2.2.2.2.2.2.2.2.2.2.2.2.2.2.2.2.2.1),(World.cell?_alloc_lt _ _ _ (World.block_lt_of_cell? _ _ (hHeld.2.2.2.2.2.2.2.2.2.2.2.2.2.2.2.2.2.2.1))).trans (hHeld.2.2.2.2.2.2.2.2.2.2.2.2.2.2.2.2.2.2.1),(World.cell?_alloc_lt _ _ _ (World.block_lt_of_cell? _ _ (hHeld.2.2.2.2.2.2.2.2.2.2.2.2.2.2.2.2.2.2.2.1))).trans (hHeld.2.2.2.2.2.2.2.2.2.2.2.2.2.2.2.2.2.2.2.1),(World.cell?_alloc_lt _ _ _ (World.block_lt_of_cell? _ _ (hHeld.2.2.2.2.2.2.2.2.2.2.2.2.2.2.2.2.2.2.2.2.1))).trans (hHeld.2.2.2.2.2.2.2.2.2.2.2.2.2.2.2.2.2.2.2.2.1),(World.cell?_alloc_lt _ _ _ (World.block_lt_of_cell? _ _ (hHeld.2.2.2.2.2.2.2.2.2.2.2.2.2.2.2.2.2.2.2.2.2))).trans (hHeld.2.2.2.2.2.2.2.2.2.2.2.2.2.2.2.2.2.2.2.2.2)⟩ (fun hHeld => ?_);clear hK K;refine norm_ (a' := ?_) ?_ ?_;rotate_left
               · show Act.put _ (some 34) _ = _
                 simp only [Act.put,List.setIfInBounds_toArray,List.set_cons_zero,List.set_cons_succ,i64_w,i32_w];rfl
               refine last_ (i:=22) (N:=some 35) #[true,true,true,true,true,true,true,true,true,true,true,true,true,true,true,true,true,true,true,true,true,true,true,false,false] rfl rfl (one_of HT_.out (by kernel_rfl)) (by decide) (fun K hK => ?_);refine Kd.N_append_step k45 (w0:=w) w.heap.size (by rfl) (.tmp 14) (.tmp 34) 22 45 (.agg #[(.slice none 0 0),(.int .i64 0),(.int .i64 0),(.slice none 0 0)]) 64 rfl Try.underlying22 info45 rfl (by decide) (by omega) u104004 x104004_1 (⟨([] : List (S59)),(rd_T45 x102004_1 x4_1).f1,(rd_T45 x102004_1 x4_1).f2,(rd_T45 x102004_1 x4_1).f3⟩ : S45) [.slice none 0 0,.int .i64 ((rd_T45 x102004_1 x4_1).f1),.int .i64 ((rd_T45 x102004_1 x4_1).f2),.slice A104_3 ((rd_T45 x102004_1 x4_1).f3).length c104_3] (fun k_ => (P0_4_ k_ ∨ w.heap.size ≤ k_) ∧ k_ ≠ gb101 ∧ k_ ≠ gb102 ∧ k_ ≠ gb103) (fun k_ => ((fun k_ => (P0_4_ k_ ∨ w.heap.size ≤ k_) ∧ k_ ≠ gb101 ∧ k_ ≠ gb102 ∧ k_ ≠ gb103)) k_ ∧ some k_ ≠ (u104004 : Value).ownBlock) rfl rfl ?aP (fun _ hk => hk) ?aF ?aO ?aB ?aS ?aL ?_;(case aP => exact (k45_mkF _ _ (⟨([] : List (S59)),(rd_T45 x102004_1 x4_1).f1,(rd_T45 x102004_1 x4_1).f2,(rd_T45 x102004_1 x4_1).f3⟩ : S45) (Nat.le_refl _) (Kd.F_nil _ _ _) (Kd.V_reads' (Kd.V_mono (ok' := (fun k_ => ((fun k_ => (P0_4_ k_ ∨ w.heap.size ≤ k_) ∧ k_ ≠ gb101 ∧ k_ ≠ gb102 ∧ k_ ≠ gb103)) k_ ∧ some k_ ≠ (u104004 : Value).ownBlock)) (HL105_3.out) (fun k_ hk => ⟨⟨hk.1,⟨hk.2.2.1,⟨hk.2.2.2.1,hk.2.2.2.2⟩⟩⟩,hk.2.1⟩))).2.1 (Kd.V_F (Kd.V_mono (ok' := (fun k_ => ((fun k_ => (P0_4_ k_ ∨ w.heap.size ≤ k_) ∧ k_ ≠ gb101 ∧ k_ ≠ gb102 ∧ k_ ≠ gb103)) k_ ∧ some k_ ≠ (u104004 : Value).ownBlock)) (HL105_3.out) (fun k_ hk => ⟨⟨hk.1,⟨hk.2.2.1,⟨hk.2.2.2.1,hk.2.2.2.2⟩⟩⟩,hk.2.1⟩)))));(case aB => exact YH);(case aF => exact (fun k_ hk => ⟨(.inr (Nat.le_trans (Z27 YH) hk)),Kd.freshB (YK BK101) k_ hk,Kd.freshB (YK BK102) k_ hk,Kd.freshB (YK BK103) k_ hk⟩));(case aO => exact (YN HO_104004));(case aS => exact (Z27 YH));(case aL => have:=LMc10.out;omega);intro v108 w47 ho hb hg hat;rw [← Ny107.out] at ho;have n0_:=Aside0.mk (Kd.V_afterv (ok:=(fun k_ => (P0_4_ k_ ∨ w.heap.size ≤ k_) ∧ k_ ≠ gb101 ∧ k_ ≠ gb102 ∧ k_ ≠ gb103)) (by (with_reducible repeat (first|apply Kd.V_alloc|apply Kd.V_drewN|apply Kd.V_drew));exact Kd.V_mono HO_102004.out (fun _ hk => ⟨⟨hk.1,⟨hk.2.2.1,⟨hk.2.2.2.1,hk.2.2.2.2⟩⟩⟩,hk.2.1⟩)) hg hat)
               have n1_:=Aside0.mk (Z89 (YK BK101) hg (Kd.N_ne HO_104004.out BK101.out (by decide)))
               have n2_:=Aside0.mk (Z89 (YK BK102) hg (Kd.N_ne HO_104004.out BK102.out (by decide)))
               have n3_:=Aside0.mk (Z89 (YK BK103) hg (Kd.N_ne HO_104004.out BK103.out (by decide)))
               have n4_:=Aside0.mk (Kd.V_afterv (ok:=(fun k_ => (P0_4_ k_ ∨ w.heap.size ≤ k_) ∧ k_ ≠ gb101 ∧ k_ ≠ gb102 ∧ k_ ≠ gb103)) (by (with_reducible repeat (first|apply Kd.V_alloc|apply Kd.V_drewN|apply Kd.V_drew));exact Kd.V_mono HL104_0.out (fun _ hk => ⟨⟨hk.1,⟨hk.2.2.1,⟨hk.2.2.2.1,hk.2.2.2.2⟩⟩⟩,hk.2.1⟩)) hg hat)
               have n5_:=Aside0.mk (Kd.V_afterv (ok:=(fun k_ => (P0_4_ k_ ∨ w.heap.size ≤ k_) ∧ k_ ≠ gb101 ∧ k_ ≠ gb102 ∧ k_ ≠ gb103)) (by (with_reducible repeat (first|apply Kd.V_alloc|apply Kd.V_drewN|apply Kd.V_drew));exact Kd.V_mono HL104_3.out (fun _ hk => ⟨⟨hk.1,⟨hk.2.2.1,⟨hk.2.2.2.1,hk.2.2.2.2⟩⟩⟩,hk.2.1⟩)) hg hat)
               have n6_:=Aside0.mk (Kd.V_afterv (ok:=(fun k_ => (P0_4_ k_ ∨ w.heap.size ≤ k_) ∧ k_ ≠ gb101 ∧ k_ ≠ gb102 ∧ k_ ≠ gb103)) (by (with_reducible repeat (first|apply Kd.V_alloc|apply Kd.V_drewN|apply Kd.V_drew));exact Kd.V_mono HL105_0.out (fun _ hk => ⟨⟨hk.1,⟨hk.2.2.1,⟨hk.2.2.2.1,hk.2.2.2.2⟩⟩⟩,hk.2.1⟩)) hg hat)
               have n7_:=Aside0.mk (Kd.V_afterv (ok:=(fun k_ => (P0_4_ k_ ∨ w.heap.size ≤ k_) ∧ k_ ≠ gb101 ∧ k_ ≠ gb102 ∧ k_ ≠ gb103)) (by (with_reducible repeat (first|apply Kd.V_alloc|apply Kd.V_drewN|apply Kd.V_drew));exact Kd.V_mono HL105_3.out (fun _ hk => ⟨⟨hk.1,⟨hk.2.2.1,⟨hk.2.2.2.1,hk.2.2.2.2⟩⟩⟩,hk.2.1⟩)) hg hat)
               have n8_:=Aside0.mk (Kd.V_afterv (ok:=(fun k_ => (P0_4_ k_ ∨ w.heap.size ≤ k_) ∧ k_ ≠ gb101 ∧ k_ ≠ gb102 ∧ k_ ≠ gb103)) (by (with_reducible repeat (first|apply Kd.V_alloc|apply Kd.V_drewN|apply Kd.V_drew));exact Kd.V_mono HL106_0.out (fun _ hk => ⟨⟨hk.1,⟨hk.2.2.1,⟨hk.2.2.2.1,hk.2.2.2.2⟩⟩⟩,hk.2.1⟩)) hg hat)
               have n9_:=Aside0.mk (Kd.V_afterv (ok:=(fun k_ => (P0_4_ k_ ∨ w.heap.size ≤ k_) ∧ k_ ≠ gb101 ∧ k_ ≠ gb102 ∧ k_ ≠ gb103)) (by (with_reducible repeat (first|apply Kd.V_alloc|apply Kd.V_drewN|apply Kd.V_drew));exact Kd.V_mono HL106_3.out (fun _ hk => ⟨⟨hk.1,⟨hk.2.2.1,⟨hk.2.2.2.1,hk.2.2.2.2⟩⟩⟩,hk.2.1⟩)) hg hat)
               have n10_:=Aside0.mk (hb)
               have n11_:=Aside0.mk (ho)
               clear HO_102004;clear BK101;clear BK102;clear BK103;clear HL104_0;clear HL104_3;clear HL105_0;clear HL105_3;clear HL106_0;clear HL106_3;clear HB;clear HO_104004;have HO_102004:=n0_
               have BK101:=n1_
               have BK102:=n2_
               have BK103:=n3_
               have HL104_0:=n4_
               have HL104_3:=n5_
               have HL105_0:=n6_
               have HL105_3:=n7_
               have HL106_0:=n8_
               have HL106_3:=n9_
               have HB:=n10_
               have HO109:=n11_
               clear n0_ n1_ n2_ n3_ n4_ n5_ n6_ n7_ n8_ n9_ n10_ n11_;clear ho hb hg hat;obtain ⟨Ao48,co48,eo48⟩:=Kd.N_slice HO109.out
               (first|subst eo48|(injection eo48 with f1_ f2_ f3_;have f4_:=f1_.symm;have f5_:=f3_.symm;clear f1_ f2_ f3_;subst f4_;subst f5_));refine hK.out _ _ ?_;clear hK K;refine norm_ (a' := ?_) ?_ ?_;rotate_left
               · show Act.put _ (some 35) _ = _
                 simp only [Act.put,List.setIfInBounds_toArray,List.set_cons_zero,List.set_cons_succ,i64_w,i32_w];rfl
               refine pure_ (i:=23) (N:=some 36) (v:=?_) (a' := ?_) #[true,true,true,true,true,true,true,true,true,true,true,true,true,true,true,true,true,true,true,true,true,true,true,true,false] rfl rfl (any_of HT_.out (by kernel_rfl)) (fun _ _ _ h => h) (Or.inl ⟨by rfl,?_⟩) ?_ ?_;rotate_left
               · intro w';go_simp
                 with_reducible rfl
               rotate_left
               · simp only [Act.put,List.setIfInBounds_toArray,List.set_cons_zero,List.set_cons_succ,i64_w,i32_w];rfl
               refine last_ (i:=24) (N:=none) #[true,true,true,true,true,true,true,true,true,true,true,true,true,true,true,true,true,true,true,true,true,true,true,true,true] rfl rfl (one_of HT_.out (by kernel_rfl)) (by decide) (fun K hK => ?_);have hs49 : w47.cell? ⟨gb103,4,none⟩ = some (u104004):=(Z5 BK103.out 4).trans rfl
               have hfs49:=Z2 BK103.out 4
               have hns49_0:=NB101_103.out
               have hns49_1:=NB102_103.out
               have hms49_0:=NB103_101.out
               have hms49_1:=NB103_102.out
               refine skip_ (w1:=?_) (by rfl) rfl ?_ ?_;rotate_left
               · go_simp;rfl
               refine hK.out _ _ ?_;clear hK K;refine done_ (Z83 HT_.out (by kernel_rfl)) ?_;have n0_ : Aside0 (Kd.V k45 45 (w47.setCell ⟨gb103,4,none⟩ (.slice Ao48 y107.length co48)) w.heap.size (fun k_ => (P0_4_ k_ ∨ w.heap.size ≤ k_) ∧ some k_ ≠ (.slice Ao48 y107.length co48 : Value).ownBlock ∧ k_ ≠ gb101 ∧ k_ ≠ gb102 ∧ k_ ≠ gb103) (.slice (some ad104) x102004_1.length co45) x102004_1):=⟨by (with_reducible repeat (first|apply Kd.V_alloc|apply Kd.V_drewN|apply Kd.V_drew));exact Kd.V_mono (Kd.V_far (p:=⟨gb103,4,none⟩) (Kd.V_mono HO_102004.out (fun k_ hk => (⟨hk,hk.1.2.2.2⟩ : _ ∧ k_ ≠ gb103))) (fun _ hk => hk.2) (.slice Ao48 y107.length co48)) (fun _ hk => ⟨hk.1.1.1,⟨hk.1.2,⟨hk.1.1.2.1,⟨hk.1.1.2.2.1,hk.1.1.2.2.2⟩⟩⟩⟩)⟩
               have n1_ : Aside0 (Kd.V k59 59 (w47.setCell ⟨gb103,4,none⟩ (.slice Ao48 y107.length co48)) w.heap.size (fun k_ => (P0_4_ k_ ∨ w.heap.size ≤ k_) ∧ some k_ ≠ (.slice Ao48 y107.length co48 : Value).ownBlock ∧ k_ ≠ gb101 ∧ k_ ≠ gb102 ∧ k_ ≠ gb103) (.slice A104_0 ((rd_T45 x102004_1 x4_1).f0).length c104_0) ((rd_T45 x102004_1 x4_1).f0)):=⟨by (with_reducible repeat (first|apply Kd.V_alloc|apply Kd.V_drewN|apply Kd.V_drew));exact Kd.V_mono (Kd.V_far (p:=⟨gb103,4,none⟩) (Kd.V_mono HL104_0.out (fun k_ hk => (⟨hk,hk.1.2.2.2⟩ : _ ∧ k_ ≠ gb103))) (fun _ hk => hk.2) (.slice Ao48 y107.length co48)) (fun _ hk => ⟨hk.1.1.1,⟨hk.1.2,⟨hk.1.1.2.1,⟨hk.1.1.2.2.1,hk.1.1.2.2.2⟩⟩⟩⟩)⟩
               have n2_ : Aside0 (Kd.V (Kd.int .i64) 3 (w47.setCell ⟨gb103,4,none⟩ (.slice Ao48 y107.length co48)) w.heap.size (fun k_ => (P0_4_ k_ ∨ w.heap.size ≤ k_) ∧ some k_ ≠ (.slice Ao48 y107.length co48 : Value).ownBlock ∧ k_ ≠ gb101 ∧ k_ ≠ gb102 ∧ k_ ≠ gb103) (.slice A104_3 ((rd_T45 x102004_1 x4_1).f3).length c104_3) ((rd_T45 x102004_1 x4_1).f3)):=⟨by (with_reducible repeat (first|apply Kd.V_alloc|apply Kd.V_drewN|apply Kd.V_drew));exact Kd.V_mono (Kd.V_far (p:=⟨gb103,4,none⟩) (Kd.V_mono HL104_3.out (fun k_ hk => (⟨hk,hk.1.2.2.2⟩ : _ ∧ k_ ≠ gb103))) (fun _ hk => hk.2) (.slice Ao48 y107.length co48)) (fun _ hk => ⟨hk.1.1.1,⟨hk.1.2,⟨hk.1.1.2.1,⟨hk.1.1.2.2.1,hk.1.1.2.2.2⟩⟩⟩⟩)⟩
               have n3_ : Aside0 (Kd.V k59 59 (w47.setCell ⟨gb103,4,none⟩ (.slice Ao48 y107.length co48)) w.heap.size (fun k_ => (P0_4_ k_ ∨ w.heap.size ≤ k_) ∧ some k_ ≠ (.slice Ao48 y107.length co48 : Value).ownBlock ∧ k_ ≠ gb101 ∧ k_ ≠ gb102 ∧ k_ ≠ gb103) (.slice A104_0 ((rd_T45 x102004_1 x4_1).f0).length c104_0) ((rd_T45 x102004_1 x4_1).f0)):=⟨by (with_reducible repeat (first|apply Kd.V_alloc|apply Kd.V_drewN|apply Kd.V_drew));exact Kd.V_mono (Kd.V_far (p:=⟨gb103,4,none⟩) (Kd.V_mono HL105_0.out (fun k_ hk => (⟨hk,hk.1.2.2.2⟩ : _ ∧ k_ ≠ gb103))) (fun _ hk => hk.2) (.slice Ao48 y107.length co48)) (fun _ hk => ⟨hk.1.1.1,⟨hk.1.2,⟨hk.1.1.2.1,⟨hk.1.1.2.2.1,hk.1.1.2.2.2⟩⟩⟩⟩)⟩
               have n4_ : Aside0 (Kd.V (Kd.int .i64) 3 (w47.setCell ⟨gb103,4,none⟩ (.slice Ao48 y107.length co48)) w.heap.size (fun k_ => (P0_4_ k_ ∨ w.heap.size ≤ k_) ∧ some k_ ≠ (.slice Ao48 y107.length co48 : Value).ownBlock ∧ k_ ≠ gb101 ∧ k_ ≠ gb102 ∧ k_ ≠ gb103) (.slice A104_3 ((rd_T45 x102004_1 x4_1).f3).length c104_3) ((rd_T45 x102004_1 x4_1).f3)):=⟨by (with_reducible repeat (first|apply Kd.V_alloc|apply Kd.V_drewN|apply Kd.V_drew));exact Kd.V_mono (Kd.V_far (p:=⟨gb103,4,none⟩) (Kd.V_mono HL105_3.out (fun k_ hk => (⟨hk,hk.1.2.2.2⟩ : _ ∧ k_ ≠ gb103))) (fun _ hk => hk.2) (.slice Ao48 y107.length co48)) (fun _ hk => ⟨hk.1.1.1,⟨hk.1.2,⟨hk.1.1.2.1,⟨hk.1.1.2.2.1,hk.1.1.2.2.2⟩⟩⟩⟩)⟩
               have n5_ : Aside0 (Kd.V k59 59 (w47.setCell ⟨gb103,4,none⟩ (.slice Ao48 y107.length co48)) w.heap.size (fun k_ => (P0_4_ k_ ∨ w.heap.size ≤ k_) ∧ some k_ ≠ (.slice Ao48 y107.length co48 : Value).ownBlock ∧ k_ ≠ gb101 ∧ k_ ≠ gb102 ∧ k_ ≠ gb103) (.slice A104_0 ((rd_T45 x102004_1 x4_1).f0).length c104_0) ((rd_T45 x102004_1 x4_1).f0)):=⟨by (with_reducible repeat (first|apply Kd.V_alloc|apply Kd.V_drewN|apply Kd.V_drew));exact Kd.V_mono (Kd.V_far (p:=⟨gb103,4,none⟩) (Kd.V_mono HL106_0.out (fun k_ hk => (⟨hk,hk.1.2.2.2⟩ : _ ∧ k_ ≠ gb103))) (fun _ hk => hk.2) (.slice Ao48 y107.length co48)) (fun _ hk => ⟨hk.1.1.1,⟨hk.1.2,⟨hk.1.1.2.1,⟨hk.1.1.2.2.1,hk.1.1.2.2.2⟩⟩⟩⟩)⟩
               have n6_ : Aside0 (Kd.V (Kd.int .i64) 3 (w47.setCell ⟨gb103,4,none⟩ (.slice Ao48 y107.length co48)) w.heap.size (fun k_ => (P0_4_ k_ ∨ w.heap.size ≤ k_) ∧ some k_ ≠ (.slice Ao48 y107.length co48 : Value).ownBlock ∧ k_ ≠ gb101 ∧ k_ ≠ gb102 ∧ k_ ≠ gb103) (.slice A104_3 ((rd_T45 x102004_1 x4_1).f3).length c104_3) ((rd_T45 x102004_1 x4_1).f3)):=⟨by (with_reducible repeat (first|apply Kd.V_alloc|apply Kd.V_drewN|apply Kd.V_drew));exact Kd.V_mono (Kd.V_far (p:=⟨gb103,4,none⟩) (Kd.V_mono HL106_3.out (fun k_ hk => (⟨hk,hk.1.2.2.2⟩ : _ ∧ k_ ≠ gb103))) (fun _ hk => hk.2) (.slice Ao48 y107.length co48)) (fun _ hk => ⟨hk.1.1.1,⟨hk.1.2,⟨hk.1.1.2.1,⟨hk.1.1.2.2.1,hk.1.1.2.2.2⟩⟩⟩⟩)⟩
               have n7_ : Aside0 (Kd.N k45 45 (w47.setCell ⟨gb103,4,none⟩ (.slice Ao48 y107.length co48)) w.heap.size (fun k_ => (P0_4_ k_ ∨ w.heap.size ≤ k_) ∧ k_ ≠ gb101 ∧ k_ ≠ gb102 ∧ k_ ≠ gb103) (.slice Ao48 y107.length co48) y107):=⟨by (with_reducible repeat (first|apply Kd.N_alloc|apply Kd.N_drewN|apply Kd.N_drew));exact Kd.N_mono (Kd.N_far (p:=⟨gb103,4,none⟩) (Kd.N_mono HO109.out (fun k_ hk => (⟨hk,hk.2.2.2⟩ : _ ∧ k_ ≠ gb103))) (fun _ hk => hk.2) (.slice Ao48 y107.length co48)) (fun _ hk => ⟨hk.1.1,⟨hk.1.2.1,⟨hk.1.2.2.1,hk.1.2.2.2⟩⟩⟩)⟩
               have n8_ : Aside0 ((w47.setCell ⟨gb103,4,none⟩ (.slice Ao48 y107.length co48)).heap[gb101]? = some (.cells #[.string a0_0,.int .i64 a0_1,.int .i64 a0_2,.int .i64 a0_3,.slice (some ad104) x102004_1.length co45] 24 (0,0))):=⟨by (with_reducible repeat (first|refine Z0 ?_ _|refine Z3 ?_|refine Z1 ?_ _));refine Z22 ?_ NB101_103.out _;(with_reducible repeat (first|refine Z0 ?_ _|refine Z3 ?_|refine Z1 ?_ _));exact BK101.out⟩
               have n9_ : Aside0 ((w47.setCell ⟨gb103,4,none⟩ (.slice Ao48 y107.length co48)).heap[gb102]? = some (.cells #[.string (⟨#[]⟩ : ByteArray),.int .i64 0,.int .i64 0,.int .i64 0,.slice none 0 0] 24 (0,0))):=⟨by (with_reducible repeat (first|refine Z0 ?_ _|refine Z3 ?_|refine Z1 ?_ _));refine Z22 ?_ NB102_103.out _;(with_reducible repeat (first|refine Z0 ?_ _|refine Z3 ?_|refine Z1 ?_ _));exact BK102.out⟩
               have n10_ : Aside0 ((w47.setCell ⟨gb103,4,none⟩ (.slice Ao48 y107.length co48)).heap[gb103]? = some (.cells #[.string (⟨#[]⟩ : ByteArray),.int .i64 0,.int .i64 1,.int .i64 0,.slice Ao48 y107.length co48] 24 (0,0))):=⟨by (with_reducible repeat (first|refine Z0 ?_ _|refine Z3 ?_|refine Z1 ?_ _));refine Z9 (cs:=#[.string (⟨#[]⟩ : ByteArray),.int .i64 0,.int .i64 1,.int .i64 0,u104004]) ?_ 4 _ rfl;(with_reducible repeat (first|refine Z0 ?_ _|refine Z3 ?_|refine Z1 ?_ _));exact BK103.out⟩
               have n11_ : Aside0 (Below w.heap.size w (w47.setCell ⟨gb103,4,none⟩ (.slice Ao48 y107.length co48))):=⟨YH⟩
               (try clear HO_102004);(try clear HL104_0);(try clear HL104_3);(try clear HL105_0);(try clear HL105_3);(try clear HL106_0);(try clear HL106_3);(try clear HO109);(try clear BK101);(try clear BK102);(try clear BK103);(try clear HB);generalize (w47.setCell ⟨gb103,4,none⟩ (.slice Ao48 y107.length co48)) = w50 at n0_ n1_ n2_ n3_ n4_ n5_ n6_ n7_ n8_ n9_ n10_ n11_ ⊢;have HO_102004:=n0_
               have HL104_0:=n1_
               have HL104_3:=n2_
               have HL105_0:=n3_
               have HL105_3:=n4_
               have HL106_0:=n5_
               have HL106_3:=n6_
               have HO109:=n7_
               have BK101:=n8_
               have BK102:=n9_
               have BK103:=n10_
               have HB:=n11_
               clear n0_ n1_ n2_ n3_ n4_ n5_ n6_ n7_ n8_ n9_ n10_ n11_;have hnb51:=NB103_102.out
               have hnc51:=NB102_103.out
               have hcz52_4 : w50.cell? ⟨gb103,4,none⟩ = some (.slice Ao48 y107.length co48):=(Z5 BK103.out 4).trans rfl
               have p110 : 0 ≤ (x4_1 : Int):=YA
               have q110 : x4_1 < (y107.length : Int):=YA
               obtain ⟨ad110,A110_0,c110_0,A110_3,c110_3,e110,hx110_0,hx110_1,hx110_2,hx110_3,hl110_0,hi110_0,hl110_3,hi110_3⟩:=at_T45 (Kd.N_reads' HO109.out).2.2 x4_1 p110 q110
               cases e110;obtain ⟨ce110,hce110,hMe110,hcc110⟩:=Kd.N_get HO109.out z45 x4_1 p110 (by first|exact q110|exact YA|(have e_:=(Kd.N_reads' HO109.out).1;omega))
               obtain ⟨ua110_0,uc110_0,ua110_3,uc110_3,rfl,ul110_0,ge110_0,ul110_3,ge110_3⟩:=k45_openF hMe110
               have hv110_0:=hcc110 0 _ rfl
               rw [Nat.add_zero] at hv110_0;replace hv110_0:=Option.some.inj (hv110_0.symm.trans hx110_0)
               injection hv110_0 with hva_ hvn_ hvc_
               rw [hva_] at ge110_0;rw [hvc_] at ul110_0;have HL110_0:=Aside0.mk (show Kd.V k59 59 _ w.heap.size _ _ ((rd_T45 y107 x4_1).f0) from Kd.V_mk ul110_0 ge110_0)
               clear hva_ hvn_ hvc_ ge110_0 ul110_0;have hv110_3:=hcc110 3 _ rfl
               rw [add_field _ _ 3 (by omega)] at hv110_3;replace hv110_3:=Option.some.inj (hv110_3.symm.trans hx110_3)
               injection hv110_3 with hva_ hvn_ hvc_
               rw [hva_] at ge110_3;rw [hvc_] at ul110_3;have HL110_3:=Aside0.mk (show Kd.V (Kd.int .i64) 3 _ w.heap.size _ _ ((rd_T45 y107 x4_1).f3) from Kd.V_mk ul110_3 ge110_3)
               clear hva_ hvn_ hvc_ ge110_3 ul110_3;clear hcc110 hce110;clear hi110_0 hl110_0;clear hi110_3 hl110_3;replace p110:=eq_true p110
               replace q110:=eq_true q110
               try go_wp2
               go_roundg k1
               case measure => have:=HK1.out;omega
               case rel => exact ⟨(wrap64 (x4_1 + 1)),(x102004_1),(y107),(.slice (some ad104) x102004_1.length co45),(.slice (some ad110) y107.length co48),(by first|rfl|(simp;done)|(simp [*];done)),H',⟨by have:=HK1.out;omega⟩,⟨YV HO_102004⟩,⟨YN HO109⟩,⟨YK BK101⟩,⟨YK BK102⟩,⟨YK BK103⟩,⟨YH⟩⟩
         · rw [if_neg c11] at H;exact absurd H (by simp)
       · rw [if_neg c10] at H;exact absurd H (by simp)
     · rw [if_neg c9] at H;exact absurd H (by simp)
   · rw [if_neg c8] at H;have c8b0 : decide (x4_1 < (x102004_1.length : Int)) = false:=decide_eq_false c8
     clear c8;simp only [Option.some.injEq,Prod.mk.injEq] at H;obtain ⟨rfl,rfl,rfl,rfl,rfl⟩:=H
     have hnb53:=NB101_102.out
     have hnc53:=NB102_101.out
     have hnb54:=NB101_103.out
     have hnc54:=NB103_101.out
     have hcz55_4 : wr.cell? ⟨gb101,4,none⟩ = some (u102004):=(Z5 BK101.out 4).trans rfl
     obtain ⟨Ao56,co56,eo56⟩:=Kd.V_slice HO_102004.out
     subst eo56;have hnb57:=NB103_102.out
     have hnc57:=NB102_103.out
     have hcz58_0 : wr.cell? ⟨gb103,0,none⟩ = some (.string (⟨#[]⟩ : ByteArray)):=(Z5 BK103.out 0).trans rfl
     have hcz58_1 : wr.cell? ⟨gb103,1,none⟩ = some (.int .i64 0):=(Z5 BK103.out 1).trans rfl
     have hcz58_2 : wr.cell? ⟨gb103,2,none⟩ = some (.int .i64 1):=(Z5 BK103.out 2).trans rfl
     have hcz58_3 : wr.cell? ⟨gb103,3,none⟩ = some (.int .i64 0):=(Z5 BK103.out 3).trans rfl
     have hcz58_4 : wr.cell? ⟨gb103,4,none⟩ = some (u104004):=(Z5 BK103.out 4).trans rfl
     have hcz59_0 : wr.cell? ⟨gb102,0,none⟩ = some (.string (⟨#[]⟩ : ByteArray)):=(Z5 BK102.out 0).trans rfl
     have hcz59_1 : wr.cell? ⟨gb102,1,none⟩ = some (.int .i64 0):=(Z5 BK102.out 1).trans rfl
     have hcz59_2 : wr.cell? ⟨gb102,2,none⟩ = some (.int .i64 0):=(Z5 BK102.out 2).trans rfl
     have hcz59_3 : wr.cell? ⟨gb102,3,none⟩ = some (.int .i64 0):=(Z5 BK102.out 3).trans rfl
     have hcz59_4 : wr.cell? ⟨gb102,4,none⟩ = some (.slice none 0 0):=(Z5 BK102.out 4).trans rfl
     have hfz59_0:=Z2 BK102.out 0
     have hfz59_1:=Z2 BK102.out 1
     have hfz59_2:=Z2 BK102.out 2
     have hfz59_3:=Z2 BK102.out 3
     have hfz59_4:=Z2 BK102.out 4
     obtain ⟨Ao60,co60,eo60⟩:=Kd.N_slice HO_104004.out
     subst eo60;go_wp2
     refine bodyPost_ret (results_cell_row rfl _ _ gb102 24 #[.string (⟨#[]⟩ : ByteArray),.int .i64 0,.int .i64 1,.int .i64 0,.slice Ao60 x104004_1.length co60] (0,0) _ rfl (by (with_reducible repeat (first|refine Z0 ?_ _|refine Z3 ?_|refine Z1 ?_ _));refine Z9 (cs:=#[.string (⟨#[]⟩ : ByteArray),.int .i64 0,.int .i64 1,.int .i64 0,.slice none 0 0]) ?_ 4 _ rfl;(with_reducible repeat (first|refine Z0 ?_ _|refine Z3 ?_|refine Z1 ?_ _));refine Z9 (cs:=#[.string (⟨#[]⟩ : ByteArray),.int .i64 0,.int .i64 1,.int .i64 0,.slice none 0 0]) ?_ 3 _ rfl;(with_reducible repeat (first|refine Z0 ?_ _|refine Z3 ?_|refine Z1 ?_ _));refine Z9 (cs:=#[.string (⟨#[]⟩ : ByteArray),.int .i64 0,.int .i64 0,.int .i64 0,.slice none 0 0]) ?_ 2 _ rfl;(with_reducible repeat (first|refine Z0 ?_ _|refine Z3 ?_|refine Z1 ?_ _));refine Z9 (cs:=#[.string (⟨#[]⟩ : ByteArray),.int .i64 0,.int .i64 0,.int .i64 0,.slice none 0 0]) ?_ 1 _ rfl;(with_reducible repeat (first|refine Z0 ?_ _|refine Z3 ?_|refine Z1 ?_ _));refine Z9 (cs:=#[.string (⟨#[]⟩ : ByteArray),.int .i64 0,.int .i64 0,.int .i64 0,.slice none 0 0]) ?_ 0 _ rfl;(with_reducible repeat (first|refine Z0 ?_ _|refine Z3 ?_|refine Z1 ?_ _));exact BK102.out) Try.underlying24 rfl (by kernel_rfl)) rfl ?_;exact ⟨_,by first|rfl|(simp [Z16,Z15] <;> rfl)|(simp [*,Z16,Z15] <;> rfl),by (with_reducible repeat (first|apply Kd.N_alloc|apply Kd.N_drewN|apply Kd.N_drew));exact Kd.N_mono (Kd.N_far (p:=⟨gb102,4,none⟩) (Kd.N_far (p:=⟨gb102,3,none⟩) (Kd.N_far (p:=⟨gb102,2,none⟩) (Kd.N_far (p:=⟨gb102,1,none⟩) (Kd.N_far (p:=⟨gb102,0,none⟩) (Kd.N_mono HO_104004.out (fun k_ hk => (⟨hk,hk.2.2.1⟩ : _ ∧ k_ ≠ gb102))) (fun _ hk => hk.2) (.string (⟨#[]⟩ : ByteArray))) (fun _ hk => hk.2) (.int .i64 0)) (fun _ hk => hk.2) (.int .i64 1)) (fun _ hk => hk.2) (.int .i64 0)) (fun _ hk => hk.2) (.slice Ao60 x104004_1.length co60)) (fun _ hk => hk.1.1),by repeat (first|(with_reducible first|exact HB.out|apply Z7|apply Z4|apply Z6|refine Z8 ?_ GE101.out|refine Z8 ?_ GE102.out|refine Z8 ?_ GE103.out)|exact HB.out)⟩
end Go.Proofs.Ytbklmnieakefnaa.Q
namespace Go.Proofs.Ytbklmnieakefnaa.Q
open Go.RowKit Go.Proofs.YtbklmnieakefnaaW.PrintWords Go.Proofs.YtbklmnieakefnaaW.PrintLast Go.Proofs.YtbklmnieakefnaaW.PrintMore

set_option linter.unusedVariables false
set_option linter.unusedSimpArgs false
def crucibleref14_has.l0 : Nat → List Int → Int → Int → Option (Bool)
 | 0,_,_,_ => none
 | k + 1,x0,x1,x5 => if x5 < (x0.length : Int) then (if 0 ≤ x5 then (if (rd x0 x5) = x1 then (some true) else (crucibleref14_has.l0 k x0 x1 (wrap64 (x5 + 1)))) else (none)) else (some false)
def crucibleref14_has.f (k : Nat) (l0 : List Int) (a1 : Int) : Option (Bool):=crucibleref14_has.l0 k l0 a1 0
set_option maxHeartbeats 8000000 in
set_option maxRecDepth 100000 in
theorem crucibleref14_has.calls (k : Nat) (A0 : Option Addr) (c0 : Nat) (l0 : List Int) (a1 : Int) (r : Bool) (w : World) (hr0 : Kd.C (Kd.int .i64) w A0 l0.length l0) (hc0 : l0.length ≤ c0) (h : crucibleref14_has.f k l0 a1 = some r) :
 Calls Try.prog 38 #[.slice A0 l0.length c0,.int .i64 a1] w fun e w' => e = .returned (.bool r) ∧ Drawn0 w w' := by
 have HR0:=Aside0.mk hr0
 clear hr0 hc0;have H : (crucibleref14_has.l0 k l0 a1 0) = some r:=h
 clear h;have H' := Aside0.mk H
 clear H;go_enter Try.func38,Try.ntmps38
 go_wp2
 go_loopg [5] k (fun kq v5 w' => ∃ (x5_1 : Int),v5 = .int .i64 x5_1 ∧ Aside0 (crucibleref14_has.l0 kq l0 a1 x5_1 = some r) ∧ Aside0 (kq ≤ k) ∧ Drawn0 w w')
 case atStart => exact ⟨(0),(by first|rfl|(simp;done)|(simp [*];done)),H',⟨Nat.le_refl _⟩,by repeat (first|exact Drawn0.refl _|apply Drawn0.step)⟩
 case round =>
  clear H';obtain ⟨x5_1,rfl,HA,HK1,⟨m1,rfl⟩⟩:=hrel
  cases gk with
  | zero => exact absurd HA.out (by simp [crucibleref14_has.l0])
  | succ k1 =>
   have H:=HA.out
   clear HA;simp only [crucibleref14_has.l0] at H;by_cases c3 : x5_1 < (l0.length : Int)
   · rw [if_pos c3] at H;have c3b0 : decide (x5_1 < (l0.length : Int)) = true:=decide_eq_true c3
     clear c3;by_cases c4 : 0 ≤ x5_1
     · rw [if_pos c4] at H;have c4b0 : decide (0 ≤ x5_1) = true:=decide_eq_true c4
       clear c4;by_cases c5 : (rd l0 x5_1) = a1
       · rw [if_pos c5] at H;have c5b0 : ((rd l0 x5_1) == a1) = true:=beq_iff_eq.mpr c5
         clear c5;obtain rfl:=Option.some.inj H
         have p115 : 0 ≤ (x5_1 : Int):=YA
         have q115 : x5_1 < (l0.length : Int):=YA
         obtain ⟨ad115,e115,hx115_0⟩:=Kd.at_int HR0.out x5_1 p115 q115
         cases e115;replace p115:=eq_true p115
         replace q115:=eq_true q115
         go_wp2
         go_ret
         exact ⟨by first|rfl|(simp;done)|(simp [*];done),by repeat (first|exact Drawn0.refl _|apply Drawn0.step)⟩
       · rw [if_neg c5] at H;have c5b0 : ((rd l0 x5_1) == a1) = false:=beq_eq_false_iff_ne.mpr c5
         have H' := Aside0.mk H
         clear H;have p115 : 0 ≤ (x5_1 : Int):=YA
         have q115 : x5_1 < (l0.length : Int):=YA
         obtain ⟨ad115,e115,hx115_0⟩:=Kd.at_int HR0.out x5_1 p115 q115
         cases e115;replace p115:=eq_true p115
         replace q115:=eq_true q115
         go_wp2
         go_roundg k1
         case measure => have:=HK1.out;omega
         case rel => exact ⟨(wrap64 (x5_1 + 1)),(by first|rfl|(simp;done)|(simp [*];done)),H',⟨by have:=HK1.out;omega⟩,by repeat (first|exact Drawn0.refl _|apply Drawn0.step)⟩
     · rw [if_neg c4] at H;exact absurd H (by simp)
   · rw [if_neg c3] at H;have c3b0 : decide (x5_1 < (l0.length : Int)) = false:=decide_eq_false c3
     clear c3;obtain rfl:=Option.some.inj H
     go_wp2
     go_ret
     exact ⟨by first|rfl|(simp;done)|(simp [*];done),by repeat (first|exact Drawn0.refl _|apply Drawn0.step)⟩
end Go.Proofs.Ytbklmnieakefnaa.Q
