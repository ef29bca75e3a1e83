/- A part of the proof, made small by a program: Qx15, Qx21, Qx22, Qx23. -/
import Derived.Test.YtbklmnieakefnaaVw1
import Derived.Test.YtbklmnieakefnaaVw2
import Derived.Test.YtbklmnieakefnaaVw3
import Derived.Test.YtbklmnieakefnaaVw4
import Derived.Test.YtbklmnieakefnaaVw6
import Derived.Test.YtbklmnieakefnaaVw8
namespace Go.Proofs.Ytbklmnieakefnaa.Q
open Go.RowKit Go.Proofs.YtbklmnieakefnaaW.PrintWords Go.Proofs.YtbklmnieakefnaaW.PrintLast Go.Proofs.YtbklmnieakefnaaW.PrintMore
attribute [local go_sem] Z56 Z54 Z61 Z60 Z49 Z48 Z55 Z53
set_option linter.unusedVariables false
set_option linter.unusedSimpArgs false
def cruciblelaw17_awake.f (k : Nat)  : Option (Bool) := (order_Doms.f k (⟨#[]⟩ : ByteArray) 0 0 0 (([(⟨([] : List (S59)), 1, 0, (([1] : List Int))⟩ : S45), (⟨([] : List (S59)), 3, (-1), ([] : List Int)⟩ : S45)] : List (S45)))).bind fun t225 => (if (t225.length : Int) = 2 then (if 0 < (t225.length : Int) then (if (rd t225 0) = (-1) then (if 1 < (t225.length : Int) then (some ((rd t225 1) == 0)) else (none)) else (some false)) else (none)) else (some false))
theorem cruciblelaw17_awake.mono : ∀ k, LeO (cruciblelaw17_awake.f k ) (cruciblelaw17_awake.f (k + 1) ) := by
 intro  k
 unfold cruciblelaw17_awake.f
 repeat' first
  | (with_reducible exact order_Doms.mono _ _ _ _ _ _)
  | (with_reducible exact LeO.refl _)
  | (with_reducible exact LeO.none _)
  | (with_reducible refine LeO.ite ?_ ?_)
  | (with_reducible refine LeO.bind ?_ (fun _ => ?_))
  | exact order_Doms.mono _ _ _ _ _ _
  | exact LeO.none _
  | refine LeO.ite ?_ ?_
  | refine LeO.bind ?_ (fun _ => ?_)
set_option maxHeartbeats 8000000 in
set_option maxRecDepth 100000 in
theorem cruciblelaw17_awake.calls (k : Nat)  (r : Bool) (w : World) (h : cruciblelaw17_awake.f k  = some r) :
 Calls Try.prog 12 #[] w fun e w' => e = .returned (.bool r) ∧ Below w.heap.size w w' := by
 have hu45 := Try.underlying45
 have hu24 := Try.underlying24
 have HB := Aside0.mk (Below.refl w.heap.size w)
 have H : ((order_Doms.f k (⟨#[]⟩ : ByteArray) 0 0 0 (([(⟨([] : List (S59)), 1, 0, (([1] : List Int))⟩ : S45), (⟨([] : List (S59)), 3, (-1), ([] : List Int)⟩ : S45)] : List (S45)))).bind fun t225 => (if (t225.length : Int) = 2 then (if 0 < (t225.length : Int) then (if (rd t225 0) = (-1) then (if 1 < (t225.length : Int) then (some ((rd t225 1) == 0)) else (none)) else (some false)) else (none)) else (some false))) = some r := h
 clear h
 obtain ⟨y218, hy218⟩ : ∃ y_ : List Int, y_ = (([1] : List Int)) := ⟨_, rfl⟩
 replace H : ((order_Doms.f k (⟨#[]⟩ : ByteArray) 0 0 0 (([(⟨([] : List (S59)), 1, 0, y218⟩ : S45), (⟨([] : List (S59)), 3, (-1), ([] : List Int)⟩ : S45)] : List (S45)))).bind fun t225 => (if (t225.length : Int) = 2 then (if 0 < (t225.length : Int) then (if (rd t225 0) = (-1) then (if 1 < (t225.length : Int) then (some ((rd t225 1) == 0)) else (none)) else (some false)) else (none)) else (some false))) = some r := by first | (rw [hy218]; with_reducible exact H) | (have H2_ := (Option.bind_some _ _).symm.trans H; rw [hy218]; with_reducible exact H2_) | (have H2_ := (Option.bind_some _ _).symm.trans H; with_reducible exact H2_) | with_reducible exact H | (rw [hy218]; exact H) | exact H
 have Ny218 := Aside0.mk hy218
 clear hy218
 obtain ⟨y221, hy221⟩ : ∃ y_ : List (S45), y_ = (([(⟨([] : List (S59)), 1, 0, y218⟩ : S45), (⟨([] : List (S59)), 3, (-1), ([] : List Int)⟩ : S45)] : List (S45))) := ⟨_, rfl⟩
 replace H : ((order_Doms.f k (⟨#[]⟩ : ByteArray) 0 0 0 y221).bind fun t225 => (if (t225.length : Int) = 2 then (if 0 < (t225.length : Int) then (if (rd t225 0) = (-1) then (if 1 < (t225.length : Int) then (some ((rd t225 1) == 0)) else (none)) else (some false)) else (none)) else (some false))) = some r := by first | (rw [hy221]; with_reducible exact H) | (have H2_ := (Option.bind_some _ _).symm.trans H; rw [hy221]; with_reducible exact H2_) | (have H2_ := (Option.bind_some _ _).symm.trans H; with_reducible exact H2_) | with_reducible exact H | (rw [hy221]; exact H) | exact H
 have Ny221 := Aside0.mk hy221
 clear hy221
 replace H := Option.bind_eq_some_iff.mp H
 obtain ⟨t225, A10, H⟩ := H
 replace H : (if (t225.length : Int) = 2 then (if 0 < (t225.length : Int) then (if (rd t225 0) = (-1) then (if 1 < (t225.length : Int) then (some ((rd t225 1) == 0)) else (none)) else (some false)) else (none)) else (some false)) = some r := H
 have A1 := Aside0.mk A10
 clear A10
 by_cases c2 : (t225.length : Int) = 2
 · rw [if_pos c2] at H
   have c2b0 : ((t225.length : Int) == 2) = true := beq_iff_eq.mpr c2
   have c2b1 : ((t225.length : Int) != 2) = false := bne_eq_false_iff_eq.mpr c2
   clear c2
   by_cases c3 : 0 < (t225.length : Int)
   · rw [if_pos c3] at H
     have c3b0 : decide (0 < (t225.length : Int)) = true := decide_eq_true c3
     have c3b1 : decide (0 < t225.length) = true := decide_eq_true (by omega)
     clear c3
     by_cases c4 : (rd t225 0) = (-1)
     · rw [if_pos c4] at H
       have c4b0 : ((rd t225 0) == (-1)) = true := beq_iff_eq.mpr c4
       have c4b1 : ((rd t225 0) != (-1)) = false := bne_eq_false_iff_eq.mpr c4
       clear c4
       by_cases c5 : 1 < (t225.length : Int)
       · rw [if_pos c5] at H
         have c5b0 : decide (1 < (t225.length : Int)) = true := decide_eq_true c5
         have c5b1 : decide (1 < t225.length) = true := decide_eq_true (by omega)
         clear c5
         obtain rfl := Option.some.inj H
         go_enter Try.func12, Try.ntmps12
         go_wp2_with (first | ((with_reducible refine Z52 (N := 3) rfl ?_); refine Kd.R_lit (Kd.int .i64) _ 3 ?hg (N := 3) ?hd (xs := ([1] : List Int)) (inner := [.int .i64 1]) (ok := fun _ => True) (okp := fun _ => True) ?hr ?hp (fun _ hk => hk) trivial (Below.refl _ _) (Nat.le_refl _) (by simp) ?_; (case hd => rfl); (case hg => rfl); (case hr => first | (go_simp; done) | (go_simp; rfl)); (case hp => exact (Reps.one (show Kd.M (Kd.int .i64) _ _ _ 1 [.int .i64 1] from rfl) (Reps.none _ _))); intro v219 w6 ho7 hb hg_ hnew_; clear hg_ hnew_; (first | rw [← Ny218.out] at ho7 | (simp only [Int.reduceToNat] at ho7; rw [← Ny218.out] at ho7)); have n0_ := Aside0.mk (Kd.R_lower ho7 (Z27 (by repeat (first | (with_reducible first | exact HB.out | apply Z7 | apply Z4 | apply Z6) | exact HB.out)))); have n1_ := Aside0.mk (Z25 (by repeat (first | (with_reducible first | exact HB.out | apply Z7 | apply Z4 | apply Z6) | exact HB.out)) hb); clear HB; have HO220 := n0_; have HB := n1_; clear n0_ n1_; clear hb ho7; obtain ⟨Ao8, co8, eo8⟩ := Kd.R_slice HO220.out; subst eo8) | ((with_reducible refine Z52 (N := 6) rfl ?_); refine Kd.N_lit k45 _ 45 ?hg (N' := 6) ?hd (xs := ([(⟨([] : List (S59)), 1, 0, y218⟩ : S45), (⟨([] : List (S59)), 3, (-1), ([] : List Int)⟩ : S45)] : List (S45))) (inner := [.slice none 0 0, .int .i64 1, .int .i64 0, .slice Ao8 y218.length co8, .slice none 0 0, .int .i64 3, .int .i64 (-1), .slice none 0 0]) (ok := (fun _ => True)) (okp := (fun _ => True)) ?hr ?hp (fun _ hk => hk) ((show ∀ k_, w6.heap.size ≤ k_ → (fun _ => True) k_ from fun k_ hk => trivial) _ (Nat.le_refl _)) (Below.refl _ _) (Nat.le_refl _) (by simp) ?_; (case hd => rfl); (case hg => rfl); (case hr => first | (go_simp; done) | (go_simp; rfl)); (case hp => exact (Reps.c4 (show Kd.FK k45 _ _ (⟨([] : List (S59)), 1, 0, y218⟩ : S45) [.slice none 0 0, .int .i64 1, .int .i64 0, .slice Ao8 y218.length co8] from (k45_mkF _ _ (⟨([] : List (S59)), 1, 0, y218⟩ : S45) (Nat.le_refl _) (Kd.F_nil _ _ _) (Kd.R_reads' (Kd.R_mono (ok' := (fun _ => True)) (HO220.out) (fun k_ hk => trivial))).2.1 (Kd.R_F (Kd.R_mono (ok' := (fun _ => True)) (HO220.out) (fun k_ hk => trivial))))) (Reps.c4 (show Kd.FK k45 _ _ (⟨([] : List (S59)), 3, (-1), ([] : List Int)⟩ : S45) [.slice none 0 0, .int .i64 3, .int .i64 (-1), .slice none 0 0] from (k45_mkF _ _ (⟨([] : List (S59)), 3, (-1), ([] : List Int)⟩ : S45) (Nat.le_refl _) (Kd.F_nil _ _ _) (Nat.le_refl _) (Kd.F_nil _ _ _))) (Reps.none _ _)))); intro v222 w9 ho10 hb hg_ hnew_; clear hg_ hnew_; (first | rw [← Ny221.out] at ho10 | (simp only [Int.reduceToNat] at ho10; rw [← Ny221.out] at ho10)); have n0_ := Aside0.mk (Kd.N_lower ho10 (Z27 (by repeat (first | (with_reducible first | exact HB.out | apply Z7 | apply Z4 | apply Z6) | exact HB.out)))); have n1_ := Aside0.mk (Z25 (by repeat (first | (with_reducible first | exact HB.out | apply Z7 | apply Z4 | apply Z6) | exact HB.out)) hb); clear HB; clear HO220; have HO223 := n0_; have HB := n1_; clear n0_ n1_; clear hb ho10; obtain ⟨Ao11, co11, eo11⟩ := Kd.N_slice HO223.out; subst eo11) | ((with_reducible refine Z52 (N := 1) rfl ?_); refine Z51 ?hg (N := 1) ?hd (cs := #[.string (⟨#[]⟩ : ByteArray), .int .i64 0, .int .i64 0, .int .i64 0, .slice none 0 0]) (t := 24) ?hr ?_; (case hd => rfl); (case hg => rfl); (case hr => first | (go_simp; done) | (go_simp; rfl)); intro gb224 hg w12 hbox hb; have n0_ := Aside0.mk (Kd.N_below (Kd.N_elderB (by (with_reducible repeat (first | apply Kd.N_alloc | apply Kd.N_drewN | apply Kd.N_drew)); exact HO223.out) gb224 (Nat.le_of_eq hg.symm)) hb); have n1_ := Aside0.mk (Z25 (by repeat (first | (with_reducible first | exact HB.out | apply Z7 | apply Z4 | apply Z6) | exact HB.out)) hb); have n2_ := Aside0.mk (hbox); have n3_ := Aside0.mk ((by rw [hg]; exact (Z27 (by repeat (first | (with_reducible first | exact HB.out | apply Z7 | apply Z4 | apply Z6) | exact HB.out))) : w.heap.size ≤ gb224)); have n4_ := Aside0.mk ((by rw [hg]; exact (Z27 (by repeat (first | (with_reducible first | exact HB.out | apply Z7 | apply Z4 | apply Z6) | exact HB.out))) : w.heap.size ≤ gb224)); clear HO223; clear HB; have HO223 := n0_; have HB := n1_; have BK224 := n2_; have GW224 := n3_; have GE224 := n4_; clear n0_ n1_ n2_ n3_ n4_; clear hb hbox hg; have hcz13_0 : w12.cell? ⟨gb224, 0, none⟩ = some (.string (⟨#[]⟩ : ByteArray)) := (Z5 BK224.out 0).trans rfl; have hcz13_1 : w12.cell? ⟨gb224, 1, none⟩ = some (.int .i64 0) := (Z5 BK224.out 1).trans rfl; have hcz13_2 : w12.cell? ⟨gb224, 2, none⟩ = some (.int .i64 0) := (Z5 BK224.out 2).trans rfl; have hcz13_3 : w12.cell? ⟨gb224, 3, none⟩ = some (.int .i64 0) := (Z5 BK224.out 3).trans rfl; have hcz13_4 : w12.cell? ⟨gb224, 4, none⟩ = some (.slice none 0 0) := (Z5 BK224.out 4).trans rfl; have hfz13_0 := Z2 BK224.out 0; have hfz13_1 := Z2 BK224.out 1; have hfz13_2 := Z2 BK224.out 2; have hfz13_3 := Z2 BK224.out 3; have hfz13_4 := Z2 BK224.out 4) | ((with_reducible refine Z14 (f := 15) rfl ?_); refine goesL_ (some 9) rfl rfl Try.func15 (by kernel_rfl) rfl #[.agg #[.string (⟨#[]⟩ : ByteArray), .int .i64 0, .int .i64 0, .int .i64 0, .slice Ao11 y221.length co11]] rfl (by (try simp only [List.map_toArray, List.map_cons, List.map_nil]); first | done | rfl | (simp only [List.length_drop, List.length_take]; rfl)) ?_; (with_reducible refine (order_Doms.calls k (⟨#[]⟩ : ByteArray) 0 0 0 _ _ y221 t225 _ ?side1 ?side2 A1.out).mono ?_); (case side1 => refine (Kd.N_reads' (e := 45) (base := w.heap.size) (ok := fun k_ => (True ∧ k_ ≠ gb224)) (n := y221.length) (c := co11) ?_).2.2; exact (by (with_reducible repeat (first | apply Kd.N_alloc | apply Kd.N_drewN | apply Kd.N_drew)); exact (Kd.N_mono (Kd.N_far (p := ⟨gb224, 4, none⟩) (Kd.N_far (p := ⟨gb224, 3, none⟩) (Kd.N_far (p := ⟨gb224, 2, none⟩) (Kd.N_far (p := ⟨gb224, 1, none⟩) (Kd.N_far (p := ⟨gb224, 0, none⟩) (Kd.N_mono HO223.out (fun k_ hk => (⟨hk, hk.2⟩ : _ ∧ k_ ≠ gb224))) (fun _ hk => hk.2) (.string (⟨#[]⟩ : ByteArray))) (fun _ hk => hk.2) (.int .i64 0)) (fun _ hk => hk.2) (.int .i64 0)) (fun _ hk => hk.2) (.int .i64 0)) (fun _ hk => hk.2) (.slice Ao11 y221.length co11)) (fun _ h_ => h_.1)))); (case side2 => exact (Kd.N_reads' HO223.out).2.1); rintro e w14 ⟨v226, rfl, ho0, hb⟩; refine ⟨_, rfl, ?_⟩; have n0_ := Aside0.mk (Kd.N_elder' (by (with_reducible repeat (first | apply Kd.N_alloc | apply Kd.N_drewN | apply Kd.N_drew)); exact (Kd.N_mono (Kd.N_far (p := ⟨gb224, 4, none⟩) (Kd.N_far (p := ⟨gb224, 3, none⟩) (Kd.N_far (p := ⟨gb224, 2, none⟩) (Kd.N_far (p := ⟨gb224, 1, none⟩) (Kd.N_far (p := ⟨gb224, 0, none⟩) (Kd.N_mono HO223.out (fun k_ hk => (⟨hk, hk.2⟩ : _ ∧ k_ ≠ gb224))) (fun _ hk => hk.2) (.string (⟨#[]⟩ : ByteArray))) (fun _ hk => hk.2) (.int .i64 0)) (fun _ hk => hk.2) (.int .i64 0)) (fun _ hk => hk.2) (.int .i64 0)) (fun _ hk => hk.2) (.slice Ao11 y221.length co11)) (fun _ h_ => h_.1))) (Kd.R_base ho0) hb); have n1_ := Aside0.mk (Kd.R_lower ho0 (Z27 (by repeat (first | (with_reducible first | exact HB.out | apply Z7 | apply Z4 | apply Z6 | refine Z8 ?_ GE224.out) | exact HB.out)))); have n2_ := Aside0.mk (Z40 (g := gb224) (o := .cells #[.string (⟨#[]⟩ : ByteArray), .int .i64 0, .int .i64 0, .int .i64 0, .slice Ao11 y221.length co11] 24 (0, 0)) (by (with_reducible repeat (first | refine Z0 ?_ _ | refine Z3 ?_ | refine Z1 ?_ _)); refine Z9 (cs := #[.string (⟨#[]⟩ : ByteArray), .int .i64 0, .int .i64 0, .int .i64 0, .slice none 0 0]) ?_ 4 _ rfl; (with_reducible repeat (first | refine Z0 ?_ _ | refine Z3 ?_ | refine Z1 ?_ _)); refine Z9 (cs := #[.string (⟨#[]⟩ : ByteArray), .int .i64 0, .int .i64 0, .int .i64 0, .slice none 0 0]) ?_ 3 _ rfl; (with_reducible repeat (first | refine Z0 ?_ _ | refine Z3 ?_ | refine Z1 ?_ _)); refine Z9 (cs := #[.string (⟨#[]⟩ : ByteArray), .int .i64 0, .int .i64 0, .int .i64 0, .slice none 0 0]) ?_ 2 _ rfl; (with_reducible repeat (first | refine Z0 ?_ _ | refine Z3 ?_ | refine Z1 ?_ _)); refine Z9 (cs := #[.string (⟨#[]⟩ : ByteArray), .int .i64 0, .int .i64 0, .int .i64 0, .slice none 0 0]) ?_ 1 _ rfl; (with_reducible repeat (first | refine Z0 ?_ _ | refine Z3 ?_ | refine Z1 ?_ _)); refine Z9 (cs := #[.string (⟨#[]⟩ : ByteArray), .int .i64 0, .int .i64 0, .int .i64 0, .slice none 0 0]) ?_ 0 _ rfl; (with_reducible repeat (first | refine Z0 ?_ _ | refine Z3 ?_ | refine Z1 ?_ _)); exact BK224.out) hb); have n3_ := Aside0.mk (Z25 (by repeat (first | (with_reducible first | exact HB.out | apply Z7 | apply Z4 | apply Z6 | refine Z8 ?_ GE224.out) | exact HB.out)) hb); clear HO223; clear BK224; clear HB; have HO223 := n0_; have HO227 := n1_; have BK224 := n2_; have HB := n3_; clear n0_ n1_ n2_ n3_; (try clear hb); (try clear hb2); (try clear hk); (try clear hi); (try clear ho0); obtain ⟨Ao15, co15, eo15⟩ := Kd.R_slice HO227.out; subst eo15; have p228 : 0 ≤ (0 : Int) := (by omega); have q228 : 0 < (t225.length : Int) := of_decide_eq_true (by first | (with_reducible assumption) | assumption); obtain ⟨ad228, e228, hx228_0⟩ := Kd.at_int (Kd.R_reads' HO227.out).2.2 0 p228 q228; cases e228; have qi228 : (0 < t225.length) = True := eq_true (by omega); (try rw [show ((0 : Int)).toNat = 0 from rfl] at hx228_0); (try rw [Addr.add_zero'] at hx228_0); replace p228 := eq_true p228; replace q228 := eq_true q228; have p229 : 0 ≤ (1 : Int) := (by omega); have q229 : 1 < (t225.length : Int) := of_decide_eq_true (by first | (with_reducible assumption) | assumption); obtain ⟨ad229, e229, hx229_0⟩ := Kd.at_int (Kd.R_reads' HO227.out).2.2 1 p229 q229; obtain rfl : ad228 = ad229 := (by injection e229); (try simp only [show (1 : Int).toNat = 1 from rfl, Nat.reduceMul, Nat.reduceEqDiff, Go.Addr.add, ↓reduceIte] at hx229_0); have qi229 : (1 < t225.length) = True := eq_true (by omega); (try rw [show ((1 : Int)).toNat = 1 from rfl] at hx229_0); replace p229 := eq_true p229; replace q229 := eq_true q229))
         go_ret
         exact ⟨by first | rfl | (simp [Z16, Z15] <;> rfl) | (simp [*, Z16, Z15] <;> rfl), by repeat (first | (with_reducible first | exact HB.out | apply Z7 | apply Z4 | apply Z6 | refine Z8 ?_ GE224.out) | exact HB.out)⟩
       · rw [if_neg c5] at H
         exact absurd H (by simp)
     · rw [if_neg c4] at H
       have c4b0 : ((rd t225 0) == (-1)) = false := beq_eq_false_iff_ne.mpr c4
       have c4b1 : ((rd t225 0) != (-1)) = true := bne_iff_ne.mpr c4
       obtain rfl := Option.some.inj H
       go_enter Try.func12, Try.ntmps12
       go_wp2_with (first | ((with_reducible refine Z52 (N := 3) rfl ?_); refine Kd.R_lit (Kd.int .i64) _ 3 ?hg (N := 3) ?hd (xs := ([1] : List Int)) (inner := [.int .i64 1]) (ok := fun _ => True) (okp := fun _ => True) ?hr ?hp (fun _ hk => hk) trivial (Below.refl _ _) (Nat.le_refl _) (by simp) ?_; (case hd => rfl); (case hg => rfl); (case hr => first | (go_simp; done) | (go_simp; rfl)); (case hp => exact (Reps.one (show Kd.M (Kd.int .i64) _ _ _ 1 [.int .i64 1] from rfl) (Reps.none _ _))); intro v219 w16 ho17 hb hg_ hnew_; clear hg_ hnew_; (first | rw [← Ny218.out] at ho17 | (simp only [Int.reduceToNat] at ho17; rw [← Ny218.out] at ho17)); have n0_ := Aside0.mk (Kd.R_lower ho17 (Z27 (by repeat (first | (with_reducible first | exact HB.out | apply Z7 | apply Z4 | apply Z6) | exact HB.out)))); have n1_ := Aside0.mk (Z25 (by repeat (first | (with_reducible first | exact HB.out | apply Z7 | apply Z4 | apply Z6) | exact HB.out)) hb); clear HB; have HO220 := n0_; have HB := n1_; clear n0_ n1_; clear hb ho17; obtain ⟨Ao18, co18, eo18⟩ := Kd.R_slice HO220.out; subst eo18) | ((with_reducible refine Z52 (N := 6) rfl ?_); refine Kd.N_lit k45 _ 45 ?hg (N' := 6) ?hd (xs := ([(⟨([] : List (S59)), 1, 0, y218⟩ : S45), (⟨([] : List (S59)), 3, (-1), ([] : List Int)⟩ : S45)] : List (S45))) (inner := [.slice none 0 0, .int .i64 1, .int .i64 0, .slice Ao18 y218.length co18, .slice none 0 0, .int .i64 3, .int .i64 (-1), .slice none 0 0]) (ok := (fun _ => True)) (okp := (fun _ => True)) ?hr ?hp (fun _ hk => hk) ((show ∀ k_, w16.heap.size ≤ k_ → (fun _ => True) k_ from fun k_ hk => trivial) _ (Nat.le_refl _)) (Below.refl _ _) (Nat.le_refl _) (by simp) ?_; (case hd => rfl); (case hg => rfl); (case hr => first | (go_simp; done) | (go_simp; rfl)); (case hp => exact (Reps.c4 (show Kd.FK k45 _ _ (⟨([] : List (S59)), 1, 0, y218⟩ : S45) [.slice none 0 0, .int .i64 1, .int .i64 0, .slice Ao18 y218.length co18] from (k45_mkF _ _ (⟨([] : List (S59)), 1, 0, y218⟩ : S45) (Nat.le_refl _) (Kd.F_nil _ _ _) (Kd.R_reads' (Kd.R_mono (ok' := (fun _ => True)) (HO220.out) (fun k_ hk => trivial))).2.1 (Kd.R_F (Kd.R_mono (ok' := (fun _ => True)) (HO220.out) (fun k_ hk => trivial))))) (Reps.c4 (show Kd.FK k45 _ _ (⟨([] : List (S59)), 3, (-1), ([] : List Int)⟩ : S45) [.slice none 0 0, .int .i64 3, .int .i64 (-1), .slice none 0 0] from (k45_mkF _ _ (⟨([] : List (S59)), 3, (-1), ([] : List Int)⟩ : S45) (Nat.le_refl _) (Kd.F_nil _ _ _) (Nat.le_refl _) (Kd.F_nil _ _ _))) (Reps.none _ _)))); intro v222 w19 ho20 hb hg_ hnew_; clear hg_ hnew_; (first | rw [← Ny221.out] at ho20 | (simp only [Int.reduceToNat] at ho20; rw [← Ny221.out] at ho20)); have n0_ := Aside0.mk (Kd.N_lower ho20 (Z27 (by repeat (first | (with_reducible first | exact HB.out | apply Z7 | apply Z4 | apply Z6) | exact HB.out)))); have n1_ := Aside0.mk (Z25 (by repeat (first | (with_reducible first | exact HB.out | apply Z7 | apply Z4 | apply Z6) | exact HB.out)) hb); clear HB; clear HO220; have HO223 := n0_; have HB := n1_; clear n0_ n1_; clear hb ho20; obtain ⟨Ao21, co21, eo21⟩ := Kd.N_slice HO223.out; subst eo21) | ((with_reducible refine Z52 (N := 1) rfl ?_); refine Z51 ?hg (N := 1) ?hd (cs := #[.string (⟨#[]⟩ : ByteArray), .int .i64 0, .int .i64 0, .int .i64 0, .slice none 0 0]) (t := 24) ?hr ?_; (case hd => rfl); (case hg => rfl); (case hr => first | (go_simp; done) | (go_simp; rfl)); intro gb224 hg w22 hbox hb; have n0_ := Aside0.mk (Kd.N_below (Kd.N_elderB (by (with_reducible repeat (first | apply Kd.N_alloc | apply Kd.N_drewN | apply Kd.N_drew)); exact HO223.out) gb224 (Nat.le_of_eq hg.symm)) hb); have n1_ := Aside0.mk (Z25 (by repeat (first | (with_reducible first | exact HB.out | apply Z7 | apply Z4 | apply Z6) | exact HB.out)) hb); have n2_ := Aside0.mk (hbox); have n3_ := Aside0.mk ((by rw [hg]; exact (Z27 (by repeat (first | (with_reducible first | exact HB.out | apply Z7 | apply Z4 | apply Z6) | exact HB.out))) : w.heap.size ≤ gb224)); have n4_ := Aside0.mk ((by rw [hg]; exact (Z27 (by repeat (first | (with_reducible first | exact HB.out | apply Z7 | apply Z4 | apply Z6) | exact HB.out))) : w.heap.size ≤ gb224)); clear HO223; clear HB; have HO223 := n0_; have HB := n1_; have BK224 := n2_; have GW224 := n3_; have GE224 := n4_; clear n0_ n1_ n2_ n3_ n4_; clear hb hbox hg; have hcz23_0 : w22.cell? ⟨gb224, 0, none⟩ = some (.string (⟨#[]⟩ : ByteArray)) := (Z5 BK224.out 0).trans rfl; have hcz23_1 : w22.cell? ⟨gb224, 1, none⟩ = some (.int .i64 0) := (Z5 BK224.out 1).trans rfl; have hcz23_2 : w22.cell? ⟨gb224, 2, none⟩ = some (.int .i64 0) := (Z5 BK224.out 2).trans rfl; have hcz23_3 : w22.cell? ⟨gb224, 3, none⟩ = some (.int .i64 0) := (Z5 BK224.out 3).trans rfl; have hcz23_4 : w22.cell? ⟨gb224, 4, none⟩ = some (.slice none 0 0) := (Z5 BK224.out 4).trans rfl; have hfz23_0 := Z2 BK224.out 0; have hfz23_1 := Z2 BK224.out 1; have hfz23_2 := Z2 BK224.out 2; have hfz23_3 := Z2 BK224.out 3; have hfz23_4 := Z2 BK224.out 4) | ((with_reducible refine Z14 (f := 15) rfl ?_); refine goesL_ (some 9) rfl rfl Try.func15 (by kernel_rfl) rfl #[.agg #[.string (⟨#[]⟩ : ByteArray), .int .i64 0, .int .i64 0, .int .i64 0, .slice Ao21 y221.length co21]] rfl (by (try simp only [List.map_toArray, List.map_cons, List.map_nil]); first | done | rfl | (simp only [List.length_drop, List.length_take]; rfl)) ?_; (with_reducible refine (order_Doms.calls k (⟨#[]⟩ : ByteArray) 0 0 0 _ _ y221 t225 _ ?side1 ?side2 A1.out).mono ?_); (case side1 => refine (Kd.N_reads' (e := 45) (base := w.heap.size) (ok := fun k_ => (True ∧ k_ ≠ gb224)) (n := y221.length) (c := co21) ?_).2.2; exact (by (with_reducible repeat (first | apply Kd.N_alloc | apply Kd.N_drewN | apply Kd.N_drew)); exact (Kd.N_mono (Kd.N_far (p := ⟨gb224, 4, none⟩) (Kd.N_far (p := ⟨gb224, 3, none⟩) (Kd.N_far (p := ⟨gb224, 2, none⟩) (Kd.N_far (p := ⟨gb224, 1, none⟩) (Kd.N_far (p := ⟨gb224, 0, none⟩) (Kd.N_mono HO223.out (fun k_ hk => (⟨hk, hk.2⟩ : _ ∧ k_ ≠ gb224))) (fun _ hk => hk.2) (.string (⟨#[]⟩ : ByteArray))) (fun _ hk => hk.2) (.int .i64 0)) (fun _ hk => hk.2) (.int .i64 0)) (fun _ hk => hk.2) (.int .i64 0)) (fun _ hk => hk.2) (.slice Ao21 y221.length co21)) (fun _ h_ => h_.1)))); (case side2 => exact (Kd.N_reads' HO223.out).2.1); rintro e w24 ⟨v226, rfl, ho0, hb⟩; refine ⟨_, rfl, ?_⟩; have n0_ := Aside0.mk (Kd.N_elder' (by (with_reducible repeat (first | apply Kd.N_alloc | apply Kd.N_drewN | apply Kd.N_drew)); exact (Kd.N_mono (Kd.N_far (p := ⟨gb224, 4, none⟩) (Kd.N_far (p := ⟨gb224, 3, none⟩) (Kd.N_far (p := ⟨gb224, 2, none⟩) (Kd.N_far (p := ⟨gb224, 1, none⟩) (Kd.N_far (p := ⟨gb224, 0, none⟩) (Kd.N_mono HO223.out (fun k_ hk => (⟨hk, hk.2⟩ : _ ∧ k_ ≠ gb224))) (fun _ hk => hk.2) (.string (⟨#[]⟩ : ByteArray))) (fun _ hk => hk.2) (.int .i64 0)) (fun _ hk => hk.2) (.int .i64 0)) (fun _ hk => hk.2) (.int .i64 0)) (fun _ hk => hk.2) (.slice Ao21 y221.length co21)) (fun _ h_ => h_.1))) (Kd.R_base ho0) hb); have n1_ := Aside0.mk (Kd.R_lower ho0 (Z27 (by repeat (first | (with_reducible first | exact HB.out | apply Z7 | apply Z4 | apply Z6 | refine Z8 ?_ GE224.out) | exact HB.out)))); have n2_ := Aside0.mk (Z40 (g := gb224) (o := .cells #[.string (⟨#[]⟩ : ByteArray), .int .i64 0, .int .i64 0, .int .i64 0, .slice Ao21 y221.length co21] 24 (0, 0)) (by (with_reducible repeat (first | refine Z0 ?_ _ | refine Z3 ?_ | refine Z1 ?_ _)); refine Z9 (cs := #[.string (⟨#[]⟩ : ByteArray), .int .i64 0, .int .i64 0, .int .i64 0, .slice none 0 0]) ?_ 4 _ rfl; (with_reducible repeat (first | refine Z0 ?_ _ | refine Z3 ?_ | refine Z1 ?_ _)); refine Z9 (cs := #[.string (⟨#[]⟩ : ByteArray), .int .i64 0, .int .i64 0, .int .i64 0, .slice none 0 0]) ?_ 3 _ rfl; (with_reducible repeat (first | refine Z0 ?_ _ | refine Z3 ?_ | refine Z1 ?_ _)); refine Z9 (cs := #[.string (⟨#[]⟩ : ByteArray), .int .i64 0, .int .i64 0, .int .i64 0, .slice none 0 0]) ?_ 2 _ rfl; (with_reducible repeat (first | refine Z0 ?_ _ | refine Z3 ?_ | refine Z1 ?_ _)); refine Z9 (cs := #[.string (⟨#[]⟩ : ByteArray), .int .i64 0, .int .i64 0, .int .i64 0, .slice none 0 0]) ?_ 1 _ rfl; (with_reducible repeat (first | refine Z0 ?_ _ | refine Z3 ?_ | refine Z1 ?_ _)); refine Z9 (cs := #[.string (⟨#[]⟩ : ByteArray), .int .i64 0, .int .i64 0, .int .i64 0, .slice none 0 0]) ?_ 0 _ rfl; (with_reducible repeat (first | refine Z0 ?_ _ | refine Z3 ?_ | refine Z1 ?_ _)); exact BK224.out) hb); have n3_ := Aside0.mk (Z25 (by repeat (first | (with_reducible first | exact HB.out | apply Z7 | apply Z4 | apply Z6 | refine Z8 ?_ GE224.out) | exact HB.out)) hb); clear HO223; clear BK224; clear HB; have HO223 := n0_; have HO227 := n1_; have BK224 := n2_; have HB := n3_; clear n0_ n1_ n2_ n3_; (try clear hb); (try clear hb2); (try clear hk); (try clear hi); (try clear ho0); obtain ⟨Ao25, co25, eo25⟩ := Kd.R_slice HO227.out; subst eo25; have p228 : 0 ≤ (0 : Int) := (by omega); have q228 : 0 < (t225.length : Int) := of_decide_eq_true (by first | (with_reducible assumption) | assumption); obtain ⟨ad228, e228, hx228_0⟩ := Kd.at_int (Kd.R_reads' HO227.out).2.2 0 p228 q228; cases e228; have qi228 : (0 < t225.length) = True := eq_true (by omega); (try rw [show ((0 : Int)).toNat = 0 from rfl] at hx228_0); (try rw [Addr.add_zero'] at hx228_0); replace p228 := eq_true p228; replace q228 := eq_true q228))
       go_ret
       exact ⟨by first | rfl | (simp [Z16, Z15] <;> rfl) | (simp [*, Z16, Z15] <;> rfl), by repeat (first | (with_reducible first | exact HB.out | apply Z7 | apply Z4 | apply Z6 | refine Z8 ?_ GE224.out) | exact HB.out)⟩
   · rw [if_neg c3] at H
     exact absurd H (by simp)
 · rw [if_neg c2] at H
   have c2b0 : ((t225.length : Int) == 2) = false := beq_eq_false_iff_ne.mpr c2
   have c2b1 : ((t225.length : Int) != 2) = true := bne_iff_ne.mpr c2
   obtain rfl := Option.some.inj H
   go_enter Try.func12, Try.ntmps12
   go_wp2_with (first | ((with_reducible refine Z52 (N := 3) rfl ?_); refine Kd.R_lit (Kd.int .i64) _ 3 ?hg (N := 3) ?hd (xs := ([1] : List Int)) (inner := [.int .i64 1]) (ok := fun _ => True) (okp := fun _ => True) ?hr ?hp (fun _ hk => hk) trivial (Below.refl _ _) (Nat.le_refl _) (by simp) ?_; (case hd => rfl); (case hg => rfl); (case hr => first | (go_simp; done) | (go_simp; rfl)); (case hp => exact (Reps.one (show Kd.M (Kd.int .i64) _ _ _ 1 [.int .i64 1] from rfl) (Reps.none _ _))); intro v219 w26 ho27 hb hg_ hnew_; clear hg_ hnew_; (first | rw [← Ny218.out] at ho27 | (simp only [Int.reduceToNat] at ho27; rw [← Ny218.out] at ho27)); have n0_ := Aside0.mk (Kd.R_lower ho27 (Z27 (by repeat (first | (with_reducible first | exact HB.out | apply Z7 | apply Z4 | apply Z6) | exact HB.out)))); have n1_ := Aside0.mk (Z25 (by repeat (first | (with_reducible first | exact HB.out | apply Z7 | apply Z4 | apply Z6) | exact HB.out)) hb); clear HB; have HO220 := n0_; have HB := n1_; clear n0_ n1_; clear hb ho27; obtain ⟨Ao28, co28, eo28⟩ := Kd.R_slice HO220.out; subst eo28) | ((with_reducible refine Z52 (N := 6) rfl ?_); refine Kd.N_lit k45 _ 45 ?hg (N' := 6) ?hd (xs := ([(⟨([] : List (S59)), 1, 0, y218⟩ : S45), (⟨([] : List (S59)), 3, (-1), ([] : List Int)⟩ : S45)] : List (S45))) (inner := [.slice none 0 0, .int .i64 1, .int .i64 0, .slice Ao28 y218.length co28, .slice none 0 0, .int .i64 3, .int .i64 (-1), .slice none 0 0]) (ok := (fun _ => True)) (okp := (fun _ => True)) ?hr ?hp (fun _ hk => hk) ((show ∀ k_, w26.heap.size ≤ k_ → (fun _ => True) k_ from fun k_ hk => trivial) _ (Nat.le_refl _)) (Below.refl _ _) (Nat.le_refl _) (by simp) ?_; (case hd => rfl); (case hg => rfl); (case hr => first | (go_simp; done) | (go_simp; rfl)); (case hp => exact (Reps.c4 (show Kd.FK k45 _ _ (⟨([] : List (S59)), 1, 0, y218⟩ : S45) [.slice none 0 0, .int .i64 1, .int .i64 0, .slice Ao28 y218.length co28] from (k45_mkF _ _ (⟨([] : List (S59)), 1, 0, y218⟩ : S45) (Nat.le_refl _) (Kd.F_nil _ _ _) (Kd.R_reads' (Kd.R_mono (ok' := (fun _ => True)) (HO220.out) (fun k_ hk => trivial))).2.1 (Kd.R_F (Kd.R_mono (ok' := (fun _ => True)) (HO220.out) (fun k_ hk => trivial))))) (Reps.c4 (show Kd.FK k45 _ _ (⟨([] : List (S59)), 3, (-1), ([] : List Int)⟩ : S45) [.slice none 0 0, .int .i64 3, .int .i64 (-1), .slice none 0 0] from (k45_mkF _ _ (⟨([] : List (S59)), 3, (-1), ([] : List Int)⟩ : S45) (Nat.le_refl _) (Kd.F_nil _ _ _) (Nat.le_refl _) (Kd.F_nil _ _ _))) (Reps.none _ _)))); intro v222 w29 ho30 hb hg_ hnew_; clear hg_ hnew_; (first | rw [← Ny221.out] at ho30 | (simp only [Int.reduceToNat] at ho30; rw [← Ny221.out] at ho30)); have n0_ := Aside0.mk (Kd.N_lower ho30 (Z27 (by repeat (first | (with_reducible first | exact HB.out | apply Z7 | apply Z4 | apply Z6) | exact HB.out)))); have n1_ := Aside0.mk (Z25 (by repeat (first | (with_reducible first | exact HB.out | apply Z7 | apply Z4 | apply Z6) | exact HB.out)) hb); clear HB; clear HO220; have HO223 := n0_; have HB := n1_; clear n0_ n1_; clear hb ho30; obtain ⟨Ao31, co31, eo31⟩ := Kd.N_slice HO223.out; subst eo31) | ((with_reducible refine Z52 (N := 1) rfl ?_); refine Z51 ?hg (N := 1) ?hd (cs := #[.string (⟨#[]⟩ : ByteArray), .int .i64 0, .int .i64 0, .int .i64 0, .slice none 0 0]) (t := 24) ?hr ?_; (case hd => rfl); (case hg => rfl); (case hr => first | (go_simp; done) | (go_simp; rfl)); intro gb224 hg w32 hbox hb; have n0_ := Aside0.mk (Kd.N_below (Kd.N_elderB (by (with_reducible repeat (first | apply Kd.N_alloc | apply Kd.N_drewN | apply Kd.N_drew)); exact HO223.out) gb224 (Nat.le_of_eq hg.symm)) hb); have n1_ := Aside0.mk (Z25 (by repeat (first | (with_reducible first | exact HB.out | apply Z7 | apply Z4 | apply Z6) | exact HB.out)) hb); have n2_ := Aside0.mk (hbox); have n3_ := Aside0.mk ((by rw [hg]; exact (Z27 (by repeat (first | (with_reducible first | exact HB.out | apply Z7 | apply Z4 | apply Z6) | exact HB.out))) : w.heap.size ≤ gb224)); have n4_ := Aside0.mk ((by rw [hg]; exact (Z27 (by repeat (first | (with_reducible first | exact HB.out | apply Z7 | apply Z4 | apply Z6) | exact HB.out))) : w.heap.size ≤ gb224)); clear HO223; clear HB; have HO223 := n0_; have HB := n1_; have BK224 := n2_; have GW224 := n3_; have GE224 := n4_; clear n0_ n1_ n2_ n3_ n4_; clear hb hbox hg; have hcz33_0 : w32.cell? ⟨gb224, 0, none⟩ = some (.string (⟨#[]⟩ : ByteArray)) := (Z5 BK224.out 0).trans rfl; have hcz33_1 : w32.cell? ⟨gb224, 1, none⟩ = some (.int .i64 0) := (Z5 BK224.out 1).trans rfl; have hcz33_2 : w32.cell? ⟨gb224, 2, none⟩ = some (.int .i64 0) := (Z5 BK224.out 2).trans rfl; have hcz33_3 : w32.cell? ⟨gb224, 3, none⟩ = some (.int .i64 0) := (Z5 BK224.out 3).trans rfl; have hcz33_4 : w32.cell? ⟨gb224, 4, none⟩ = some (.slice none 0 0) := (Z5 BK224.out 4).trans rfl; have hfz33_0 := Z2 BK224.out 0; have hfz33_1 := Z2 BK224.out 1; have hfz33_2 := Z2 BK224.out 2; have hfz33_3 := Z2 BK224.out 3; have hfz33_4 := Z2 BK224.out 4) | ((with_reducible refine Z14 (f := 15) rfl ?_); refine goesL_ (some 9) rfl rfl Try.func15 (by kernel_rfl) rfl #[.agg #[.string (⟨#[]⟩ : ByteArray), .int .i64 0, .int .i64 0, .int .i64 0, .slice Ao31 y221.length co31]] rfl (by (try simp only [List.map_toArray, List.map_cons, List.map_nil]); first | done | rfl | (simp only [List.length_drop, List.length_take]; rfl)) ?_; (with_reducible refine (order_Doms.calls k (⟨#[]⟩ : ByteArray) 0 0 0 _ _ y221 t225 _ ?side1 ?side2 A1.out).mono ?_); (case side1 => refine (Kd.N_reads' (e := 45) (base := w.heap.size) (ok := fun k_ => (True ∧ k_ ≠ gb224)) (n := y221.length) (c := co31) ?_).2.2; exact (by (with_reducible repeat (first | apply Kd.N_alloc | apply Kd.N_drewN | apply Kd.N_drew)); exact (Kd.N_mono (Kd.N_far (p := ⟨gb224, 4, none⟩) (Kd.N_far (p := ⟨gb224, 3, none⟩) (Kd.N_far (p := ⟨gb224, 2, none⟩) (Kd.N_far (p := ⟨gb224, 1, none⟩) (Kd.N_far (p := ⟨gb224, 0, none⟩) (Kd.N_mono HO223.out (fun k_ hk => (⟨hk, hk.2⟩ : _ ∧ k_ ≠ gb224))) (fun _ hk => hk.2) (.string (⟨#[]⟩ : ByteArray))) (fun _ hk => hk.2) (.int .i64 0)) (fun _ hk => hk.2) (.int .i64 0)) (fun _ hk => hk.2) (.int .i64 0)) (fun _ hk => hk.2) (.slice Ao31 y221.length co31)) (fun _ h_ => h_.1)))); (case side2 => exact (Kd.N_reads' HO223.out).2.1); rintro e w34 ⟨v226, rfl, ho0, hb⟩; refine ⟨_, rfl, ?_⟩; have n0_ := Aside0.mk (Kd.N_elder' (by (with_reducible repeat (first | apply Kd.N_alloc | apply Kd.N_drewN | apply Kd.N_drew)); exact (Kd.N_mono (Kd.N_far (p := ⟨gb224, 4, none⟩) (Kd.N_far (p := ⟨gb224, 3, none⟩) (Kd.N_far (p := ⟨gb224, 2, none⟩) (Kd.N_far (p := ⟨gb224, 1, none⟩) (Kd.N_far (p := ⟨gb224, 0, none⟩) (Kd.N_mono HO223.out (fun k_ hk => (⟨hk, hk.2⟩ : _ ∧ k_ ≠ gb224))) (fun _ hk => hk.2) (.string (⟨#[]⟩ : ByteArray))) (fun _ hk => hk.2) (.int .i64 0)) (fun _ hk => hk.2) (.int .i64 0)) (fun _ hk => hk.2) (.int .i64 0)) (fun _ hk => hk.2) (.slice Ao31 y221.length co31)) (fun _ h_ => h_.1))) (Kd.R_base ho0) hb); have n1_ := Aside0.mk (Kd.R_lower ho0 (Z27 (by repeat (first | (with_reducible first | exact HB.out | apply Z7 | apply Z4 | apply Z6 | refine Z8 ?_ GE224.out) | exact HB.out)))); have n2_ := Aside0.mk (Z40 (g := gb224) (o := .cells #[.string (⟨#[]⟩ : ByteArray), .int .i64 0, .int .i64 0, .int .i64 0, .slice Ao31 y221.length co31] 24 (0, 0)) (by (with_reducible repeat (first | refine Z0 ?_ _ | refine Z3 ?_ | refine Z1 ?_ _)); refine Z9 (cs := #[.string (⟨#[]⟩ : ByteArray), .int .i64 0, .int .i64 0, .int .i64 0, .slice none 0 0]) ?_ 4 _ rfl; (with_reducible repeat (first | refine Z0 ?_ _ | refine Z3 ?_ | refine Z1 ?_ _)); refine Z9 (cs := #[.string (⟨#[]⟩ : ByteArray), .int .i64 0, .int .i64 0, .int .i64 0, .slice none 0 0]) ?_ 3 _ rfl; (with_reducible repeat (first | refine Z0 ?_ _ | refine Z3 ?_ | refine Z1 ?_ _)); refine Z9 (cs := #[.string (⟨#[]⟩ : ByteArray), .int .i64 0, .int .i64 0, .int .i64 0, .slice none 0 0]) ?_ 2 _ rfl; (with_reducible repeat (first | refine Z0 ?_ _ | refine Z3 ?_ | refine Z1 ?_ _)); refine Z9 (cs := #[.string (⟨#[]⟩ : ByteArray), .int .i64 0, .int .i64 0, .int .i64 0, .slice none 0 0]) ?_ 1 _ rfl; (with_reducible repeat (first | refine Z0 ?_ _ | refine Z3 ?_ | refine Z1 ?_ _)); refine Z9 (cs := #[.string (⟨#[]⟩ : ByteArray), .int .i64 0, .int .i64 0, .int .i64 0, .slice none 0 0]) ?_ 0 _ rfl; (with_reducible repeat (first | refine Z0 ?_ _ | refine Z3 ?_ | refine Z1 ?_ _)); exact BK224.out) hb); have n3_ := Aside0.mk (Z25 (by repeat (first | (with_reducible first | exact HB.out | apply Z7 | apply Z4 | apply Z6 | refine Z8 ?_ GE224.out) | exact HB.out)) hb); clear HO223; clear BK224; clear HB; have HO223 := n0_; have HO227 := n1_; have BK224 := n2_; have HB := n3_; clear n0_ n1_ n2_ n3_; (try clear hb); (try clear hb2); (try clear hk); (try clear hi); (try clear ho0); obtain ⟨Ao35, co35, eo35⟩ := Kd.R_slice HO227.out; subst eo35))
   go_ret
   exact ⟨by first | rfl | (simp [Z16, Z15] <;> rfl) | (simp [*, Z16, Z15] <;> rfl), by repeat (first | (with_reducible first | exact HB.out | apply Z7 | apply Z4 | apply Z6 | refine Z8 ?_ GE224.out) | exact HB.out)⟩
end Go.Proofs.Ytbklmnieakefnaa.Q
namespace Go.Proofs.Ytbklmnieakefnaa.Q
open Go.RowKit Go.Proofs.YtbklmnieakefnaaW.PrintWords Go.Proofs.YtbklmnieakefnaaW.PrintLast Go.Proofs.YtbklmnieakefnaaW.PrintMore
attribute [local go_sem] Z56 Z54 Z61 Z60 Z49 Z48 Z55 Z53
set_option linter.unusedVariables false
set_option linter.unusedSimpArgs false
mutual
def crucibleref17_walk.l0 : Nat → Int → List Bool → List Int → Int → ByteArray → Int → Int → Int → List (S45) → Option (List Int × List Bool)
 | 0, _, _, _, _, _, _, _, _, _ => none
 | k + 1, x1, x2, x3, x9, x306000, x306001, x306002, x306003, x306004 => if 0 ≤ x1 then (if x1 < (x306004.length : Int) then (if x9 < (((rd_T45 x306004 x1).f3).length : Int) then (if 0 ≤ x9 then (if (rd ((rd_T45 x306004 x1).f3) x9) ≥ 0 then (if (rd ((rd_T45 x306004 x1).f3) x9) < (x306004.length : Int) then (if 0 ≤ (rd ((rd_T45 x306004 x1).f3) x9) then (if (rd ((rd_T45 x306004 x1).f3) x9) < (x2.length : Int) then (if (rdOf false x2 (rd ((rd_T45 x306004 x1).f3) x9) = true) then (crucibleref17_walk.l0 k x1 x2 x3 (wrap64 (x9 + 1)) x306000 x306001 x306002 x306003 x306004) else ((crucibleref17_walk.f k x306000 x306001 x306002 x306003 x306004 (rd ((rd_T45 x306004 x1).f3) x9) x2 x3).bind fun bt311 => (crucibleref17_walk.l0 k x1 bt311.2 bt311.1 (wrap64 (x9 + 1)) x306000 x306001 x306002 x306003 x306004))) else (none)) else (none)) else (crucibleref17_walk.l0 k x1 x2 x3 (wrap64 (x9 + 1)) x306000 x306001 x306002 x306003 x306004)) else (crucibleref17_walk.l0 k x1 x2 x3 (wrap64 (x9 + 1)) x306000 x306001 x306002 x306003 x306004)) else (none)) else (if x3.length < 17592186044416 then (some ((x3 ++ [x1]), x2)) else (none))) else (none)) else (none)
def crucibleref17_walk.f : Nat → ByteArray → Int → Int → Int → List (S45) → Int → List Bool → List Int → Option (List Int × List Bool)
 | 0, _, _, _, _, _, _, _, _ => none
 | k + 1, a0_0, a0_1, a0_2, a0_3, l0_4, a1, l2, l3 => if 0 ≤ a1 then (if a1 < (l2.length : Int) then (crucibleref17_walk.l0 k a1 (l2.set (a1 : Int).toNat true) l3 0 a0_0 a0_1 a0_2 a0_3 l0_4) else (none)) else (none)
end
theorem crucibleref17_walk.mono_l : ∀ k, (∀ y0 y1 y2 y3 y4 y5 y6 y7, LeO (crucibleref17_walk.f k y0 y1 y2 y3 y4 y5 y6 y7) (crucibleref17_walk.f (k + 1) y0 y1 y2 y3 y4 y5 y6 y7)) ∧ (∀ y0 y1 y2 y3 y4 y5 y6 y7 y8, LeO (crucibleref17_walk.l0 k y0 y1 y2 y3 y4 y5 y6 y7 y8) (crucibleref17_walk.l0 (k + 1) y0 y1 y2 y3 y4 y5 y6 y7 y8))
 | 0 => ⟨fun _ _ _ _ _ _ _ _ r h => by simp [crucibleref17_walk.f] at h, fun _ _ _ _ _ _ _ _ _ r h => by simp [crucibleref17_walk.l0] at h⟩
 | k + 1 => by
  obtain ⟨ih0, ih1⟩ := crucibleref17_walk.mono_l k
  refine ⟨?_, ?_⟩
  · intro y0 y1 y2 y3 y4 y5 y6 y7
    unfold crucibleref17_walk.f
    repeat' first
    | (with_reducible exact ih0 _ _ _ _ _ _ _ _)
    | (with_reducible exact ih1 _ _ _ _ _ _ _ _ _)
    | (with_reducible exact LeO.refl _)
    | (with_reducible exact LeO.none _)
    | (with_reducible refine LeO.ite ?_ ?_)
    | (with_reducible refine LeO.bind ?_ (fun _ => ?_))
    | exact ih0 _ _ _ _ _ _ _ _
    | exact ih1 _ _ _ _ _ _ _ _ _
    | exact LeO.none _
    | refine LeO.ite ?_ ?_
    | refine LeO.bind ?_ (fun _ => ?_)
  · intro y0 y1 y2 y3 y4 y5 y6 y7 y8
    unfold crucibleref17_walk.l0
    repeat' first
    | (with_reducible exact ih0 _ _ _ _ _ _ _ _)
    | (with_reducible exact ih1 _ _ _ _ _ _ _ _ _)
    | (with_reducible exact LeO.refl _)
    | (with_reducible exact LeO.none _)
    | (with_reducible refine LeO.ite ?_ ?_)
    | (with_reducible refine LeO.bind ?_ (fun _ => ?_))
    | exact ih0 _ _ _ _ _ _ _ _
    | exact ih1 _ _ _ _ _ _ _ _ _
    | exact LeO.none _
    | refine LeO.ite ?_ ?_
    | refine LeO.bind ?_ (fun _ => ?_)
theorem crucibleref17_walk.mono : ∀ a0 a1 a2 a3 a4 a5 a6 a7 k, LeO (crucibleref17_walk.f k a0 a1 a2 a3 a4 a5 a6 a7) (crucibleref17_walk.f (k + 1) a0 a1 a2 a3 a4 a5 a6 a7) := by
 intro a0 a1 a2 a3 a4 a5 a6 a7 k
 obtain ⟨ih0, ih1⟩ := crucibleref17_walk.mono_l k
 exact ih0 a0 a1 a2 a3 a4 a5 a6 a7
set_option maxHeartbeats 8000000 in
set_option maxRecDepth 100000 in
theorem crucibleref17_walk.calls (k : Nat) : ∀ (a0_0 : ByteArray) (a0_1 : Int) (a0_2 : Int) (a0_3 : Int) (A0_4 : Option Addr) (c0_4 : Nat) (l0_4 : List (S45)) (a1 : Int) (P2_ : Nat → Prop) (u9000_ : Value) (l2 : List Bool) (P3_ : Nat → Prop) (u9001_ : Value) (l3 : List Int) (r1 : List Int) (r2 : List Bool) (w0 w : World) (hB : Below w0.heap.size w0 w) (hr0_4 : ∀ W_, Kept w W_ (fun k_ => P2_ k_ ∨ P3_ k_) → Kd.C k45 W_ A0_4 l0_4.length l0_4) (hc0_4 : l0_4.length ≤ c0_4) (ho2 : Kd.R Kd.bool 4 w w0.heap.size P2_ u9000_ l2) (ho3 : Kd.R (Kd.int .i64) 3 w w0.heap.size P3_ u9001_ l3) (h : crucibleref17_walk.f k a0_0 a0_1 a0_2 a0_3 l0_4 a1 l2 l3 = some (r1, r2)),
 Calls Try.prog 26 #[.agg #[.string a0_0, .int .i64 a0_1, .int .i64 a0_2, .int .i64 a0_3, .slice A0_4 l0_4.length c0_4], .int .i64 a1, u9000_, u9001_] w fun e w' => ∃ v0_ : Value, e = .returned (v0_) ∧ Kd.R (Kd.int .i64) 3 w' w0.heap.size (fun k_ => ((P2_ k_ ∨ P3_ k_) ∨ w.heap.size ≤ k_)) v0_ r1 ∧ Kd.R Kd.bool 4 w' w0.heap.size (fun k_ => ((P2_ k_ ∨ P3_ k_) ∨ w.heap.size ≤ k_)) u9000_ r2 ∧ Below w0.heap.size w0 w' ∧ Kept w w' (fun k_ => P2_ k_ ∨ P3_ k_) := by
 induction k using Nat.strongRecOn with
 | _ k ih =>
 intro a0_0 a0_1 a0_2 a0_3 A0_4 c0_4 l0_4 a1 P2_ u9000_ l2 P3_ u9001_ l3 r1 r2 w0 w hB hr0_4 hc0_4 ho2 ho3 h
 cases k with
 | zero => exact absurd h (by simp [crucibleref17_walk.f])
 | succ k =>
 simp only [crucibleref17_walk.f] at h
 have hu24 := Try.underlying24
 have HR0_4 := Aside0.mk hr0_4
 have HC0_4 := Aside0.mk hc0_4
 clear hr0_4 hc0_4
 have HO2 := Aside0.mk (show Kd.R Kd.bool 4 w w0.heap.size (fun k_ => ((P2_ k_ ∨ P3_ k_) ∨ w.heap.size ≤ k_)) u9000_ l2 from Kd.R_mono ho2 (fun k_ hk => (.inl (.inl hk))))
 have HO3 := Aside0.mk (show Kd.R (Kd.int .i64) 3 w w0.heap.size (fun k_ => ((P2_ k_ ∨ P3_ k_) ∨ w.heap.size ≤ k_)) u9001_ l3 from Kd.R_mono ho3 (fun k_ hk => (.inl (.inr hk))))
 have HK := Aside0.mk (Kept.refl w (fun k_ => P2_ k_ ∨ P3_ k_))
 have HW0 := Aside0.mk hB.size
 have HB := Aside0.mk hB
 clear hB
 have H : (if 0 ≤ a1 then (if a1 < (l2.length : Int) then (crucibleref17_walk.l0 k a1 (l2.set (a1 : Int).toNat true) l3 0 a0_0 a0_1 a0_2 a0_3 l0_4) else (none)) else (none)) = some (r1, r2) := h
 clear h
 by_cases c5 : 0 ≤ a1
 · rw [if_pos c5] at H
   have c5b0 : decide (0 ≤ a1) = true := decide_eq_true c5
   clear c5
   by_cases c6 : a1 < (l2.length : Int)
   · rw [if_pos c6] at H
     have c6b0 : decide (a1 < (l2.length : Int)) = true := decide_eq_true c6
     clear c6
     obtain ⟨y306, hy306⟩ : ∃ y_ : List Bool, y_ = (l2.set (a1 : Int).toNat true) := ⟨_, rfl⟩
     replace H : (crucibleref17_walk.l0 k a1 y306 l3 0 a0_0 a0_1 a0_2 a0_3 l0_4) = some (r1, r2) := by first | (rw [hy306]; with_reducible exact H) | (have H2_ := (Option.bind_some _ _).symm.trans H; rw [hy306]; with_reducible exact H2_) | (have H2_ := (Option.bind_some _ _).symm.trans H; with_reducible exact H2_) | with_reducible exact H | (rw [hy306]; exact H) | exact H
     have Ny306 := Aside0.mk hy306
     clear hy306
     have H' := Aside0.mk H
     clear H
     go_enter Try.func26, Try.ntmps26
     go_wp2_with (first | ((with_reducible refine Z52 (N := 4) rfl ?_); (try (refine Z66 (by rfl) ?_; dsimp only)); refine Z51 ?hg (N := 4) ?hd (cs := #[.string a0_0, .int .i64 a0_1, .int .i64 a0_2, .int .i64 a0_3, .slice A0_4 l0_4.length c0_4]) (t := 24) ?hr ?_; (case hd => rfl); (case hg => rfl); (case hr => first | (go_simp; done) | (go_simp; rfl)); intro gb305 hg w8 hbox hb; have n0_ := Aside0.mk (Kd.R_below (by (with_reducible repeat (first | apply Kd.R_alloc | apply Kd.R_drewN | apply Kd.R_drew)); exact HO2.out) hb); have n1_ := Aside0.mk (Kd.R_below (by (with_reducible repeat (first | apply Kd.R_alloc | apply Kd.R_drewN | apply Kd.R_drew)); exact HO3.out) hb); have n2_ := Aside0.mk (Kept.below (S := (fun k_ => P2_ k_ ∨ P3_ k_)) (by repeat (first | (with_reducible first | exact HK.out | apply Kept.alloc | apply Kept.drewN | apply Kept.drew) | exact HK.out)) hb); have n3_ := Aside0.mk (Z25 (by repeat (first | (with_reducible first | exact HB.out | apply Z7 | apply Z4 | apply Z6) | exact HB.out)) hb); have n4_ := Aside0.mk (hbox); have n5_ := Aside0.mk ((by rw [hg]; exact (by first | exact HK.out.1 | exact (show Kept w _ (fun k_ => P2_ k_ ∨ P3_ k_) from by repeat (first | (with_reducible first | exact HK.out | apply Kept.alloc | apply Kept.drewN | apply Kept.drew) | exact HK.out)).1) : w.heap.size ≤ gb305)); have n6_ := Aside0.mk ((by rw [hg]; exact (Z27 (by repeat (first | (with_reducible first | exact HB.out | apply Z7 | apply Z4 | apply Z6) | exact HB.out))) : w0.heap.size ≤ gb305)); clear HO2; clear HO3; clear HK; clear HB; have HO2 := n0_; have HO3 := n1_; have HK := n2_; have HB := n3_; have BK305 := n4_; have GW305 := n5_; have GE305 := n6_; clear n0_ n1_ n2_ n3_ n4_ n5_ n6_; clear hb hbox hg; have p7 : 0 ≤ (a1 : Int) := of_decide_eq_true (by first | (with_reducible assumption) | assumption); have q7 : (a1 : Int) < ((l2.length : Int) : Int) := of_decide_eq_true (by first | (with_reducible assumption) | assumption); obtain ⟨go7, co7, eo7, gb7, gl7, cl7, HG7⟩ := Kd.R_form HO2.out (by omega); (first | cases eo7 | (injection eo7 with ea_ en_ ec_; (first | subst ea_ | (injection ea_ with ea_; subst ea_)); subst ec_; clear en_)); have GB7 := Aside0.mk gb7; have GG7 := Aside0.mk HG7; clear gb7 gl7 HG7; have HMgo7 := Aside0.mk (show ((P2_ go7 ∨ P3_ go7) ∨ w.heap.size ≤ go7) from (HO2.out.1 _ rfl)); obtain ⟨hx7_0, hf7_0⟩ := Kd.R_celln false HO2.out (a1 : Int) p7 q7; replace p7 := eq_true p7; replace q7 := eq_true q7; obtain ⟨hy9_, hz9_⟩ := Kd.R_celln false HO2.out (a1 : Int) (of_decide_eq_true (by first | (with_reducible assumption) | assumption)) (of_decide_eq_true (by first | (with_reducible assumption) | assumption)); have HP9 := Kd.R_putg HO2.out (a1 : Int) true) | ((with_reducible refine gate_store (t := 4) (p := 13) rfl ?_); refine store_event (t := 4) (p := 13) (v := ?vo_w10) (w1 := (w8.setCell ⟨go7, (a1 : Int).toNat, none⟩ (.bool true))) ?hg ?ho ?hn ?hr ?_; (case ho => rfl); (case hg => rfl); (case hn => rfl); (case hr => first | (go_simp; done) | (go_simp; rfl)); intro w10 hw; have hg : w8.grownBy w10 (some go7) := (by rw [hw]; exact HP9.2); have hp_ : Kd.R Kd.bool 4 w10 w0.heap.size (fun k_ => ((P2_ k_ ∨ P3_ k_) ∨ w.heap.size ≤ k_)) (.slice (some ⟨go7, 0, none⟩) l2.length co7) y306 := (by rw [hw, Ny306.out]; exact HP9.1); clear HP9; have n0_ := Aside0.mk (hp_); have n1_ := Aside0.mk (Kd.R_over' (v := (.slice (some ⟨go7, 0, none⟩) l2.length co7)) (by (with_reducible repeat (first | apply Kd.R_alloc | apply Kd.R_drewN | apply Kd.R_drew)); exact HO3.out) (Kd.R_typed HO2.out) (by decide) hg); have n2_ := Aside0.mk (Z89 (g := gb305) (o := .cells #[.string a0_0, .int .i64 a0_1, .int .i64 a0_2, .int .i64 a0_3, .slice A0_4 l0_4.length c0_4] 24 (0, 0)) (by (with_reducible repeat (first | refine Z0 ?_ _ | refine Z3 ?_ | refine Z1 ?_ _)); exact BK305.out) hg (Kd.R_ne HO2.out BK305.out (by decide))); have n3_ := Aside0.mk ((by rw [hw]; exact Z8 (HB.out) GB7.out : Below w0.heap.size w0 w10)); have n4_ := Aside0.mk (Kept.of_grown (S := (fun k_ => P2_ k_ ∨ P3_ k_)) hg (by repeat (first | (with_reducible first | exact HK.out | apply Kept.alloc | apply Kept.drewN | apply Kept.drew | refine Kept.setCell ?_ (.inr GW305.out) _) | exact HK.out)) (fun k_ e_ => (HO2.out.1 k_ e_))); clear HO2; clear HO3; clear BK305; clear HB; clear HK; have HO2 := n0_; have HO3 := n1_; have BK305 := n2_; have HB := n3_; have HK := n4_; clear n0_ n1_ n2_ n3_ n4_; clear hg hw hp_))
     go_loopg [3, 9] k (fun kq v3 v9 w' => ∃ (x2_1 : List Bool) (x3_1 : List Int) (x9_1 : Int), v9 = .int .i64 x9_1 ∧ Aside0 (crucibleref17_walk.l0 kq a1 x2_1 x3_1 x9_1 a0_0 a0_1 a0_2 a0_3 l0_4 = some (r1, r2)) ∧ Aside0 (kq ≤ k) ∧ Aside0 (Kd.R Kd.bool 4 w' w0.heap.size (fun k_ => ((P2_ k_ ∨ P3_ k_) ∨ w.heap.size ≤ k_)) (.slice (some ⟨go7, 0, none⟩) l2.length co7) x2_1) ∧ Aside0 (Kd.R (Kd.int .i64) 3 w' w0.heap.size (fun k_ => ((P2_ k_ ∨ P3_ k_) ∨ w.heap.size ≤ k_)) v3 x3_1) ∧ Aside0 (w'.heap[gb305]? = some (.cells #[.string a0_0, .int .i64 a0_1, .int .i64 a0_2, .int .i64 a0_3, (.slice A0_4 l0_4.length c0_4)] 24 (0, 0))) ∧ Aside0 (Kept w w' (fun k_ => P2_ k_ ∨ P3_ k_)) ∧ Aside0 (Below w0.heap.size w0 w'))
     case atStart => exact ⟨(y306), (l3), (0), (by first | rfl | (simp; done) | (simp [*]; done)), H', ⟨Nat.le_refl _⟩, ⟨by (with_reducible repeat (first | apply Kd.R_alloc | apply Kd.R_drewN | apply Kd.R_drew)); exact HO2.out⟩, ⟨by (with_reducible repeat (first | apply Kd.R_alloc | apply Kd.R_drewN | apply Kd.R_drew)); exact HO3.out⟩, ⟨by (with_reducible repeat (first | refine Z0 ?_ _ | refine Z3 ?_ | refine Z1 ?_ _)); exact BK305.out⟩, ⟨by repeat (first | (with_reducible first | exact HK.out | apply Kept.alloc | apply Kept.drewN | apply Kept.drew | refine Kept.setCell ?_ (.inr GW305.out) _) | exact HK.out)⟩, ⟨by repeat (first | (with_reducible first | exact HB.out | apply Z7 | apply Z4 | apply Z6 | refine Z8 ?_ GE305.out) | exact HB.out)⟩⟩
     case round =>
      clear H'
      try clear c5
      try clear c5b0
      try clear c6
      try clear c6b0
      try clear p7
      try clear q7
      try clear hx7_0
      try clear p7
      try clear q7
      obtain ⟨x2_1, x3_1, x9_1, rfl, HA, HK1, HO_2, HO_3, BK305, HK, HB⟩ := hrel
      have hl2_1 := (Kd.R_reads' HO_2.out).1
      rw [hl2_1] at HO_2
      (try simp only [hl2_1])
      (try simp only [hl2_1] at BK305)
      (try simp only [hl2_1] at HO_3)
      cases gk with
      | zero => exact absurd HA.out (by simp [crucibleref17_walk.l0])
      | succ k1 =>
       have H := HA.out
       clear HA
       simp only [crucibleref17_walk.l0] at H
       by_cases c11 : 0 ≤ a1
       · rw [if_pos c11] at H
         have c11b0 : decide (0 ≤ a1) = true := decide_eq_true c11
         clear c11
         by_cases c12 : a1 < (l0_4.length : Int)
         · rw [if_pos c12] at H
           have c12b0 : decide (a1 < (l0_4.length : Int)) = true := decide_eq_true c12
           clear c12
           by_cases c13 : x9_1 < (((rd_T45 l0_4 a1).f3).length : Int)
           · rw [if_pos c13] at H
             have c13b0 : decide (x9_1 < (((rd_T45 l0_4 a1).f3).length : Int)) = true := decide_eq_true c13
             clear c13
             by_cases c14 : 0 ≤ x9_1
             · rw [if_pos c14] at H
               have c14b0 : decide (0 ≤ x9_1) = true := decide_eq_true c14
               clear c14
               by_cases c15 : (rd ((rd_T45 l0_4 a1).f3) x9_1) ≥ 0
               · rw [if_pos c15] at H
                 have c15b0 : decide (0 ≤ (rd ((rd_T45 l0_4 a1).f3) x9_1)) = true := decide_eq_true c15
                 clear c15
                 by_cases c16 : (rd ((rd_T45 l0_4 a1).f3) x9_1) < (l0_4.length : Int)
                 · rw [if_pos c16] at H
                   have c16b0 : decide ((rd ((rd_T45 l0_4 a1).f3) x9_1) < (l0_4.length : Int)) = true := decide_eq_true c16
                   clear c16
                   by_cases c17 : 0 ≤ (rd ((rd_T45 l0_4 a1).f3) x9_1)
                   · rw [if_pos c17] at H
                     have c17b0 : decide (0 ≤ (rd ((rd_T45 l0_4 a1).f3) x9_1)) = true := decide_eq_true c17
                     clear c17
                     by_cases c18 : (rd ((rd_T45 l0_4 a1).f3) x9_1) < (x2_1.length : Int)
                     · rw [if_pos c18] at H
                       have c18b0 : decide ((rd ((rd_T45 l0_4 a1).f3) x9_1) < (x2_1.length : Int)) = true := decide_eq_true c18
                       clear c18
                       obtain ⟨bq19, hbq19⟩ : ∃ b_ : Bool, b_ = (rdOf false x2_1 (rd ((rd_T45 l0_4 a1).f3) x9_1)) := ⟨_, rfl⟩
                       replace H : (if (bq19 = true) then (crucibleref17_walk.l0 k1 a1 x2_1 x3_1 (wrap64 (x9_1 + 1)) a0_0 a0_1 a0_2 a0_3 l0_4) else ((crucibleref17_walk.f k1 a0_0 a0_1 a0_2 a0_3 l0_4 (rd ((rd_T45 l0_4 a1).f3) x9_1) x2_1 x3_1).bind fun bt311 => (crucibleref17_walk.l0 k1 a1 bt311.2 bt311.1 (wrap64 (x9_1 + 1)) a0_0 a0_1 a0_2 a0_3 l0_4))) = some (r1, r2) := by rw [← hbq19] at H; exact H
                       have Nbq19 := Aside0.mk hbq19
                       clear hbq19
                       by_cases c20 : (bq19 = true)
                       · subst c20
                         have H1 : (crucibleref17_walk.l0 k1 a1 x2_1 x3_1 (wrap64 (x9_1 + 1)) a0_0 a0_1 a0_2 a0_3 l0_4) = some (r1, r2) := by rw [if_pos rfl] at H; exact H
                         clear H
                         have H := H1
                         clear H1
                         have H' := Aside0.mk H
                         clear H
                         have hcz21_0 : wr.cell? ⟨gb305, 0, none⟩ = some (.string a0_0) := (Z5 BK305.out 0).trans rfl
                         have hcz21_1 : wr.cell? ⟨gb305, 1, none⟩ = some (.int .i64 a0_1) := (Z5 BK305.out 1).trans rfl
                         have hcz21_2 : wr.cell? ⟨gb305, 2, none⟩ = some (.int .i64 a0_2) := (Z5 BK305.out 2).trans rfl
                         have hcz21_3 : wr.cell? ⟨gb305, 3, none⟩ = some (.int .i64 a0_3) := (Z5 BK305.out 3).trans rfl
                         have hcz21_4 : wr.cell? ⟨gb305, 4, none⟩ = some (.slice A0_4 l0_4.length c0_4) := (Z5 BK305.out 4).trans rfl
                         have hfz21_0 := Z2 BK305.out 0
                         have hfz21_1 := Z2 BK305.out 1
                         have hfz21_2 := Z2 BK305.out 2
                         have hfz21_3 := Z2 BK305.out 3
                         have hfz21_4 := Z2 BK305.out 4
                         have p307 : 0 ≤ (a1 : Int) := of_decide_eq_true (by first | (with_reducible assumption) | assumption)
                         have q307 : a1 < (l0_4.length : Int) := of_decide_eq_true (by first | (with_reducible assumption) | assumption)
                         obtain ⟨ad307, A307_0, c307_0, A307_3, c307_3, e307, hx307_0, hx307_1, hx307_2, hx307_3, hl307_0, hi307_0, hl307_3, hi307_3⟩ := at_T45 (Kd.C_kept_now HR0_4.out HK.out) a1 p307 q307
                         cases e307
                         have HR307_0 := Aside0.mk hi307_0
                         have HC307_0 := Aside0.mk hl307_0
                         clear hi307_0 hl307_0
                         have HR307_3 := Aside0.mk hi307_3
                         have HC307_3 := Aside0.mk hl307_3
                         clear hi307_3 hl307_3
                         replace p307 := eq_true p307
                         replace q307 := eq_true q307
                         have p308 : 0 ≤ (a1 : Int) := of_decide_eq_true (by first | (with_reducible assumption) | assumption)
                         have q308 : a1 < (l0_4.length : Int) := of_decide_eq_true (by first | (with_reducible assumption) | assumption)
                         obtain ⟨ad308, A308_0, c308_0, A308_3, c308_3, e308, hx308_0, hx308_1, hx308_2, hx308_3, hl308_0, hi308_0, hl308_3, hi308_3⟩ := at_T45 (Kd.C_kept_now HR0_4.out HK.out) a1 p308 q308
                         obtain rfl : ad307 = ad308 := (by injection e308)
                         have HR308_0 := Aside0.mk hi308_0
                         have HC308_0 := Aside0.mk hl308_0
                         clear hi308_0 hl308_0
                         have HR308_3 := Aside0.mk hi308_3
                         have HC308_3 := Aside0.mk hl308_3
                         clear hi308_3 hl308_3
                         replace p308 := eq_true p308
                         replace q308 := eq_true q308
                         have ea_ := Option.some.inj (hx307_0.symm.trans hx308_0)
                         injection ea_ with ea_ en_ ec_
                         subst ea_
                         subst ec_
                         clear en_
                         have ea_ := Option.some.inj (hx307_3.symm.trans hx308_3)
                         injection ea_ with ea_ en_ ec_
                         subst ea_
                         subst ec_
                         clear en_
                         have p309 : 0 ≤ (x9_1 : Int) := of_decide_eq_true (by first | (with_reducible assumption) | assumption)
                         have q309 : x9_1 < (((rd_T45 l0_4 a1).f3).length : Int) := of_decide_eq_true (by first | (with_reducible assumption) | assumption)
                         obtain ⟨ad309, e309, hx309_0⟩ := Kd.at_int (by repeat (first | (with_reducible exact HR308_3.out) | (with_reducible refine Kd.C_alloc ?_ _) | (with_reducible refine Kd.C_drewN ?_ _) | (with_reducible refine Kd.C_drew ?_) | exact HR308_3.out)) x9_1 p309 q309
                         cases e309
                         replace p309 := eq_true p309
                         replace q309 := eq_true q309
                         have p310 : 0 ≤ ((rd ((rd_T45 l0_4 a1).f3) x9_1) : Int) := of_decide_eq_true (by first | (with_reducible assumption) | assumption)
                         have q310 : (rd ((rd_T45 l0_4 a1).f3) x9_1) < (x2_1.length : Int) := of_decide_eq_true (by first | (with_reducible assumption) | assumption)
                         obtain ⟨ad310, e310, hx310_0⟩ := Kd.at_bool (Kd.R_reads' HO_2.out).2.2 (rd ((rd_T45 l0_4 a1).f3) x9_1) p310 q310
                         (try rw [← Nbq19.out] at hx310_0)
                         obtain rfl : (⟨go7, 0, none⟩ : Addr) = ad310 := (by injection e310)
                         (first | simp only [add_plain] at hx310_0 | simp only [add_at] at hx310_0 | simp only [Addr.add, Nat.zero_add] at hx310_0 | skip)
                         replace p310 := eq_true p310
                         replace q310 := eq_true q310
                         go_wp2
                         (try simp only [← hl2_1])
                         go_roundg k1
                         case measure => have := HK1.out; omega
                         case rel => exact ⟨(x2_1), (x3_1), (wrap64 (x9_1 + 1)), (by first | rfl | (simp; done) | (simp [*]; done)), H', ⟨by have := HK1.out; omega⟩, ⟨by (try simp only [hl2_1]); (with_reducible repeat (first | apply Kd.R_alloc | apply Kd.R_drewN | apply Kd.R_drew)); exact HO_2.out⟩, ⟨by (try simp only [hl2_1]); (with_reducible repeat (first | apply Kd.R_alloc | apply Kd.R_drewN | apply Kd.R_drew)); exact HO_3.out⟩, ⟨by (try simp only [hl2_1]); (with_reducible repeat (first | refine Z0 ?_ _ | refine Z3 ?_ | refine Z1 ?_ _)); exact BK305.out⟩, ⟨by repeat (first | (with_reducible first | exact HK.out | apply Kept.alloc | apply Kept.drewN | apply Kept.drew | refine Kept.setCell ?_ (.inr GW305.out) _) | exact HK.out)⟩, ⟨by repeat (first | (with_reducible first | exact HB.out | apply Z7 | apply Z4 | apply Z6 | refine Z8 ?_ GE305.out) | exact HB.out)⟩⟩
                       · replace c20 := Bool.eq_false_iff.mpr c20
                         subst c20
                         have H1 : ((crucibleref17_walk.f k1 a0_0 a0_1 a0_2 a0_3 l0_4 (rd ((rd_T45 l0_4 a1).f3) x9_1) x2_1 x3_1).bind fun bt311 => (crucibleref17_walk.l0 k1 a1 bt311.2 bt311.1 (wrap64 (x9_1 + 1)) a0_0 a0_1 a0_2 a0_3 l0_4)) = some (r1, r2) := by rw [if_neg (show ¬ (false = true) by decide)] at H; exact H
                         clear H
                         have H := H1
                         clear H1
                         replace H := Option.bind_eq_some_iff.mp H
                         obtain ⟨⟨t311, t314⟩, A220, H⟩ := H
                         replace H : (crucibleref17_walk.l0 k1 a1 t314 t311 (wrap64 (x9_1 + 1)) a0_0 a0_1 a0_2 a0_3 l0_4) = some (r1, r2) := H
                         have A22 := Aside0.mk A220
                         clear A220
                         have H' := Aside0.mk H
                         clear H
                         have hcz23_0 : wr.cell? ⟨gb305, 0, none⟩ = some (.string a0_0) := (Z5 BK305.out 0).trans rfl
                         have hcz23_1 : wr.cell? ⟨gb305, 1, none⟩ = some (.int .i64 a0_1) := (Z5 BK305.out 1).trans rfl
                         have hcz23_2 : wr.cell? ⟨gb305, 2, none⟩ = some (.int .i64 a0_2) := (Z5 BK305.out 2).trans rfl
                         have hcz23_3 : wr.cell? ⟨gb305, 3, none⟩ = some (.int .i64 a0_3) := (Z5 BK305.out 3).trans rfl
                         have hcz23_4 : wr.cell? ⟨gb305, 4, none⟩ = some (.slice A0_4 l0_4.length c0_4) := (Z5 BK305.out 4).trans rfl
                         have hfz23_0 := Z2 BK305.out 0
                         have hfz23_1 := Z2 BK305.out 1
                         have hfz23_2 := Z2 BK305.out 2
                         have hfz23_3 := Z2 BK305.out 3
                         have hfz23_4 := Z2 BK305.out 4
                         have p307 : 0 ≤ (a1 : Int) := of_decide_eq_true (by first | (with_reducible assumption) | assumption)
                         have q307 : a1 < (l0_4.length : Int) := of_decide_eq_true (by first | (with_reducible assumption) | assumption)
                         obtain ⟨ad307, A307_0, c307_0, A307_3, c307_3, e307, hx307_0, hx307_1, hx307_2, hx307_3, hl307_0, hi307_0, hl307_3, hi307_3⟩ := at_T45 (Kd.C_kept_now HR0_4.out HK.out) a1 p307 q307
                         cases e307
                         have HR307_0 := Aside0.mk hi307_0
                         have HC307_0 := Aside0.mk hl307_0
                         clear hi307_0 hl307_0
                         have HR307_3 := Aside0.mk hi307_3
                         have HC307_3 := Aside0.mk hl307_3
                         clear hi307_3 hl307_3
                         replace p307 := eq_true p307
                         replace q307 := eq_true q307
                         have p308 : 0 ≤ (a1 : Int) := of_decide_eq_true (by first | (with_reducible assumption) | assumption)
                         have q308 : a1 < (l0_4.length : Int) := of_decide_eq_true (by first | (with_reducible assumption) | assumption)
                         obtain ⟨ad308, A308_0, c308_0, A308_3, c308_3, e308, hx308_0, hx308_1, hx308_2, hx308_3, hl308_0, hi308_0, hl308_3, hi308_3⟩ := at_T45 (Kd.C_kept_now HR0_4.out HK.out) a1 p308 q308
                         obtain rfl : ad307 = ad308 := (by injection e308)
                         have HR308_0 := Aside0.mk hi308_0
                         have HC308_0 := Aside0.mk hl308_0
                         clear hi308_0 hl308_0
                         have HR308_3 := Aside0.mk hi308_3
                         have HC308_3 := Aside0.mk hl308_3
                         clear hi308_3 hl308_3
                         replace p308 := eq_true p308
                         replace q308 := eq_true q308
                         have ea_ := Option.some.inj (hx307_0.symm.trans hx308_0)
                         injection ea_ with ea_ en_ ec_
                         subst ea_
                         subst ec_
                         clear en_
                         have ea_ := Option.some.inj (hx307_3.symm.trans hx308_3)
                         injection ea_ with ea_ en_ ec_
                         subst ea_
                         subst ec_
                         clear en_
                         have p309 : 0 ≤ (x9_1 : Int) := of_decide_eq_true (by first | (with_reducible assumption) | assumption)
                         have q309 : x9_1 < (((rd_T45 l0_4 a1).f3).length : Int) := of_decide_eq_true (by first | (with_reducible assumption) | assumption)
                         obtain ⟨ad309, e309, hx309_0⟩ := Kd.at_int (by repeat (first | (with_reducible exact HR308_3.out) | (with_reducible refine Kd.C_alloc ?_ _) | (with_reducible refine Kd.C_drewN ?_ _) | (with_reducible refine Kd.C_drew ?_) | exact HR308_3.out)) x9_1 p309 q309
                         cases e309
                         replace p309 := eq_true p309
                         replace q309 := eq_true q309
                         have p310 : 0 ≤ ((rd ((rd_T45 l0_4 a1).f3) x9_1) : Int) := of_decide_eq_true (by first | (with_reducible assumption) | assumption)
                         have q310 : (rd ((rd_T45 l0_4 a1).f3) x9_1) < (x2_1.length : Int) := of_decide_eq_true (by first | (with_reducible assumption) | assumption)
                         obtain ⟨ad310, e310, hx310_0⟩ := Kd.at_bool (Kd.R_reads' HO_2.out).2.2 (rd ((rd_T45 l0_4 a1).f3) x9_1) p310 q310
                         (try rw [← Nbq19.out] at hx310_0)
                         obtain rfl : (⟨go7, 0, none⟩ : Addr) = ad310 := (by injection e310)
                         (first | simp only [add_plain] at hx310_0 | simp only [add_at] at hx310_0 | simp only [Addr.add, Nat.zero_add] at hx310_0 | skip)
                         replace p310 := eq_true p310
                         replace q310 := eq_true q310
                         obtain ⟨Ao24, co24, eo24⟩ := Kd.R_slice HO_3.out
                         subst eo24
                         go_wp2_with (first | ((with_reducible refine Z14 (f := 26) rfl ?_); refine goesL_ (some 54) rfl rfl Try.func26 (by kernel_rfl) rfl #[.agg #[.string a0_0, .int .i64 a0_1, .int .i64 a0_2, .int .i64 a0_3, .slice (some ad307) l0_4.length c0_4], .int .i64 (rd ((rd_T45 l0_4 a1).f3) x9_1), .slice (some ⟨go7, 0, none⟩) x2_1.length co7, .slice Ao24 x3_1.length co24] rfl (by (try simp only [List.map_toArray, List.map_cons, List.map_nil]); first | done | rfl | (simp only [List.length_drop, List.length_take]; rfl)) ?_; (with_reducible refine (ih k1 (by have := HK1.out; omega) a0_0 a0_1 a0_2 a0_3 _ _ l0_4 (rd ((rd_T45 l0_4 a1).f3) x9_1) (fun k_ => some k_ = (.slice (some ⟨go7, 0, none⟩) x2_1.length co7 : Value).ownBlock) (.slice (some ⟨go7, 0, none⟩) x2_1.length co7) x2_1 (fun k_ => some k_ = (.slice Ao24 x3_1.length co24 : Value).ownBlock) (.slice Ao24 x3_1.length co24) x3_1 t311 t314 w0 _ ?side1 ?side2 ?side3 ?side4 ?side5 A22.out).mono ?_); (case side1 => repeat (first | (with_reducible first | exact HB.out | apply Z7 | apply Z4 | apply Z6 | refine Z8 ?_ GE305.out) | exact HB.out)); (case side2 => exact Kd.C_kept_call HR0_4.out (by repeat (first | (with_reducible first | exact HK.out | apply Kept.alloc | apply Kept.drewN | apply Kept.drew | refine Kept.setCell ?_ (.inr GW305.out) _) | exact HK.out)) (fun k_ hs_ => Or.elim hs_ (fun e_ => (fun e_ => (HO_2.out.1 k_ e_.symm)) e_) (fun e_ => (fun e_ => (HO_3.out.1 k_ e_.symm)) e_))); (case side3 => exact HC0_4.out); (case side4 => exact Kd.R_tight rfl HO_2.out); (case side5 => exact Kd.R_tight rfl HO_3.out); rintro e w25 ⟨v312, rfl, ho0, hy0, hb, hkp⟩; refine ⟨_, rfl, ?_⟩; have n0_ := Aside0.mk (Kd.R_reok rfl hy0 (fun k_ e_ => HO_2.out.1 k_ e_)); have n1_ := Aside0.mk (blk_kept (by (with_reducible repeat (first | refine Z0 ?_ _ | refine Z3 ?_ | refine Z1 ?_ _)); exact BK305.out) hkp (fun hs_ => Or.elim hs_ (fun e_ => (fun e_ => (Kd.R_ne HO_2.out BK305.out (by decide)) e_) e_) (fun e_ => (fun e_ => (Kd.R_ne HO_3.out BK305.out (by decide)) e_) e_))); have n2_ := Aside0.mk (Kd.R_mono (ok' := fun k_ => ((P2_ k_ ∨ P3_ k_) ∨ w.heap.size ≤ k_)) ho0 (fun k_ hk_ => Or.elim hk_ (fun hs_ => Or.elim hs_ (fun hs_ => (HO_2.out.1 k_ (hs_).symm)) (fun hs_ => (HO_3.out.1 k_ (hs_).symm))) (fun hn_ => (.inr (Nat.le_trans (by first | exact HK.out.1 | exact (show Kept w _ (fun k_ => P2_ k_ ∨ P3_ k_) from by repeat (first | (with_reducible first | exact HK.out | apply Kept.alloc | apply Kept.drewN | apply Kept.drew | refine Kept.setCell ?_ (.inr GW305.out) _) | exact HK.out)).1) hn_))))); have n3_ := Aside0.mk (Kept.then_ (S := (fun k_ => P2_ k_ ∨ P3_ k_)) (by repeat (first | (with_reducible first | exact HK.out | apply Kept.alloc | apply Kept.drewN | apply Kept.drew | refine Kept.setCell ?_ (.inr GW305.out) _) | exact HK.out)) hkp (fun k_ hs_ => Or.elim hs_ (fun e_ => (fun e_ => (HO_2.out.1 k_ e_.symm)) e_) (fun e_ => (fun e_ => (HO_3.out.1 k_ e_.symm)) e_))); have n4_ := Aside0.mk (hb); clear HO_2; clear BK305; clear HK; clear HB; clear HO_3; have HO_2 := n0_; have BK305 := n1_; have HO313 := n2_; have HK := n3_; have HB := n4_; clear n0_ n1_ n2_ n3_ n4_; (try clear hb); (try clear hkp); (try clear ho0); (try clear hy0)))
                         (try simp only [← hl2_1])
                         go_roundg k1
                         case measure => have := HK1.out; omega
                         case rel => exact ⟨(t314), (t311), (wrap64 (x9_1 + 1)), (by first | rfl | (simp; done) | (simp [*]; done)), H', ⟨by have := HK1.out; omega⟩, ⟨by (try simp only [hl2_1]); (with_reducible repeat (first | apply Kd.R_alloc | apply Kd.R_drewN | apply Kd.R_drew)); exact HO_2.out⟩, ⟨by (try simp only [hl2_1]); (with_reducible repeat (first | apply Kd.R_alloc | apply Kd.R_drewN | apply Kd.R_drew)); exact HO313.out⟩, ⟨by (try simp only [hl2_1]); (with_reducible repeat (first | refine Z0 ?_ _ | refine Z3 ?_ | refine Z1 ?_ _)); exact BK305.out⟩, ⟨by repeat (first | (with_reducible first | exact HK.out | apply Kept.alloc | apply Kept.drewN | apply Kept.drew | refine Kept.setCell ?_ (.inr GW305.out) _) | exact HK.out)⟩, ⟨by repeat (first | (with_reducible first | exact HB.out | apply Z7 | apply Z4 | apply Z6 | refine Z8 ?_ GE305.out) | exact HB.out)⟩⟩
                     · rw [if_neg c18] at H
                       exact absurd H (by simp)
                   · rw [if_neg c17] at H
                     exact absurd H (by simp)
                 · rw [if_neg c16] at H
                   have c16b0 : decide ((rd ((rd_T45 l0_4 a1).f3) x9_1) < (l0_4.length : Int)) = false := decide_eq_false c16
                   clear c16
                   have H' := Aside0.mk H
                   clear H
                   have hcz26_0 : wr.cell? ⟨gb305, 0, none⟩ = some (.string a0_0) := (Z5 BK305.out 0).trans rfl
                   have hcz26_1 : wr.cell? ⟨gb305, 1, none⟩ = some (.int .i64 a0_1) := (Z5 BK305.out 1).trans rfl
                   have hcz26_2 : wr.cell? ⟨gb305, 2, none⟩ = some (.int .i64 a0_2) := (Z5 BK305.out 2).trans rfl
                   have hcz26_3 : wr.cell? ⟨gb305, 3, none⟩ = some (.int .i64 a0_3) := (Z5 BK305.out 3).trans rfl
                   have hcz26_4 : wr.cell? ⟨gb305, 4, none⟩ = some (.slice A0_4 l0_4.length c0_4) := (Z5 BK305.out 4).trans rfl
                   have hfz26_0 := Z2 BK305.out 0
                   have hfz26_1 := Z2 BK305.out 1
                   have hfz26_2 := Z2 BK305.out 2
                   have hfz26_3 := Z2 BK305.out 3
                   have hfz26_4 := Z2 BK305.out 4
                   have p307 : 0 ≤ (a1 : Int) := of_decide_eq_true (by first | (with_reducible assumption) | assumption)
                   have q307 : a1 < (l0_4.length : Int) := of_decide_eq_true (by first | (with_reducible assumption) | assumption)
                   obtain ⟨ad307, A307_0, c307_0, A307_3, c307_3, e307, hx307_0, hx307_1, hx307_2, hx307_3, hl307_0, hi307_0, hl307_3, hi307_3⟩ := at_T45 (Kd.C_kept_now HR0_4.out HK.out) a1 p307 q307
                   cases e307
                   have HR307_0 := Aside0.mk hi307_0
                   have HC307_0 := Aside0.mk hl307_0
                   clear hi307_0 hl307_0
                   have HR307_3 := Aside0.mk hi307_3
                   have HC307_3 := Aside0.mk hl307_3
                   clear hi307_3 hl307_3
                   replace p307 := eq_true p307
                   replace q307 := eq_true q307
                   have p308 : 0 ≤ (a1 : Int) := of_decide_eq_true (by first | (with_reducible assumption) | assumption)
                   have q308 : a1 < (l0_4.length : Int) := of_decide_eq_true (by first | (with_reducible assumption) | assumption)
                   obtain ⟨ad308, A308_0, c308_0, A308_3, c308_3, e308, hx308_0, hx308_1, hx308_2, hx308_3, hl308_0, hi308_0, hl308_3, hi308_3⟩ := at_T45 (Kd.C_kept_now HR0_4.out HK.out) a1 p308 q308
                   obtain rfl : ad307 = ad308 := (by injection e308)
                   have HR308_0 := Aside0.mk hi308_0
                   have HC308_0 := Aside0.mk hl308_0
                   clear hi308_0 hl308_0
                   have HR308_3 := Aside0.mk hi308_3
                   have HC308_3 := Aside0.mk hl308_3
                   clear hi308_3 hl308_3
                   replace p308 := eq_true p308
                   replace q308 := eq_true q308
                   have ea_ := Option.some.inj (hx307_0.symm.trans hx308_0)
                   injection ea_ with ea_ en_ ec_
                   subst ea_
                   subst ec_
                   clear en_
                   have ea_ := Option.some.inj (hx307_3.symm.trans hx308_3)
                   injection ea_ with ea_ en_ ec_
                   subst ea_
                   subst ec_
                   clear en_
                   have p309 : 0 ≤ (x9_1 : Int) := of_decide_eq_true (by first | (with_reducible assumption) | assumption)
                   have q309 : x9_1 < (((rd_T45 l0_4 a1).f3).length : Int) := of_decide_eq_true (by first | (with_reducible assumption) | assumption)
                   obtain ⟨ad309, e309, hx309_0⟩ := Kd.at_int (by repeat (first | (with_reducible exact HR308_3.out) | (with_reducible refine Kd.C_alloc ?_ _) | (with_reducible refine Kd.C_drewN ?_ _) | (with_reducible refine Kd.C_drew ?_) | exact HR308_3.out)) x9_1 p309 q309
                   cases e309
                   replace p309 := eq_true p309
                   replace q309 := eq_true q309
                   go_wp2
                   (try simp only [← hl2_1])
                   go_roundg k1
                   case measure => have := HK1.out; omega
                   case rel => exact ⟨(x2_1), (x3_1), (wrap64 (x9_1 + 1)), (by first | rfl | (simp; done) | (simp [*]; done)), H', ⟨by have := HK1.out; omega⟩, ⟨by (try simp only [hl2_1]); (with_reducible repeat (first | apply Kd.R_alloc | apply Kd.R_drewN | apply Kd.R_drew)); exact HO_2.out⟩, ⟨by (try simp only [hl2_1]); (with_reducible repeat (first | apply Kd.R_alloc | apply Kd.R_drewN | apply Kd.R_drew)); exact HO_3.out⟩, ⟨by (try simp only [hl2_1]); (with_reducible repeat (first | refine Z0 ?_ _ | refine Z3 ?_ | refine Z1 ?_ _)); exact BK305.out⟩, ⟨by repeat (first | (with_reducible first | exact HK.out | apply Kept.alloc | apply Kept.drewN | apply Kept.drew | refine Kept.setCell ?_ (.inr GW305.out) _) | exact HK.out)⟩, ⟨by repeat (first | (with_reducible first | exact HB.out | apply Z7 | apply Z4 | apply Z6 | refine Z8 ?_ GE305.out) | exact HB.out)⟩⟩
               · rw [if_neg c15] at H
                 have c15b0 : decide (0 ≤ (rd ((rd_T45 l0_4 a1).f3) x9_1)) = false := decide_eq_false c15
                 clear c15
                 have H' := Aside0.mk H
                 clear H
                 have hcz27_0 : wr.cell? ⟨gb305, 0, none⟩ = some (.string a0_0) := (Z5 BK305.out 0).trans rfl
                 have hcz27_1 : wr.cell? ⟨gb305, 1, none⟩ = some (.int .i64 a0_1) := (Z5 BK305.out 1).trans rfl
                 have hcz27_2 : wr.cell? ⟨gb305, 2, none⟩ = some (.int .i64 a0_2) := (Z5 BK305.out 2).trans rfl
                 have hcz27_3 : wr.cell? ⟨gb305, 3, none⟩ = some (.int .i64 a0_3) := (Z5 BK305.out 3).trans rfl
                 have hcz27_4 : wr.cell? ⟨gb305, 4, none⟩ = some (.slice A0_4 l0_4.length c0_4) := (Z5 BK305.out 4).trans rfl
                 have hfz27_0 := Z2 BK305.out 0
                 have hfz27_1 := Z2 BK305.out 1
                 have hfz27_2 := Z2 BK305.out 2
                 have hfz27_3 := Z2 BK305.out 3
                 have hfz27_4 := Z2 BK305.out 4
                 have p307 : 0 ≤ (a1 : Int) := of_decide_eq_true (by first | (with_reducible assumption) | assumption)
                 have q307 : a1 < (l0_4.length : Int) := of_decide_eq_true (by first | (with_reducible assumption) | assumption)
                 obtain ⟨ad307, A307_0, c307_0, A307_3, c307_3, e307, hx307_0, hx307_1, hx307_2, hx307_3, hl307_0, hi307_0, hl307_3, hi307_3⟩ := at_T45 (Kd.C_kept_now HR0_4.out HK.out) a1 p307 q307
                 cases e307
                 have HR307_0 := Aside0.mk hi307_0
                 have HC307_0 := Aside0.mk hl307_0
                 clear hi307_0 hl307_0
                 have HR307_3 := Aside0.mk hi307_3
                 have HC307_3 := Aside0.mk hl307_3
                 clear hi307_3 hl307_3
                 replace p307 := eq_true p307
                 replace q307 := eq_true q307
                 have p308 : 0 ≤ (a1 : Int) := of_decide_eq_true (by first | (with_reducible assumption) | assumption)
                 have q308 : a1 < (l0_4.length : Int) := of_decide_eq_true (by first | (with_reducible assumption) | assumption)
                 obtain ⟨ad308, A308_0, c308_0, A308_3, c308_3, e308, hx308_0, hx308_1, hx308_2, hx308_3, hl308_0, hi308_0, hl308_3, hi308_3⟩ := at_T45 (Kd.C_kept_now HR0_4.out HK.out) a1 p308 q308
                 obtain rfl : ad307 = ad308 := (by injection e308)
                 have HR308_0 := Aside0.mk hi308_0
                 have HC308_0 := Aside0.mk hl308_0
                 clear hi308_0 hl308_0
                 have HR308_3 := Aside0.mk hi308_3
                 have HC308_3 := Aside0.mk hl308_3
                 clear hi308_3 hl308_3
                 replace p308 := eq_true p308
                 replace q308 := eq_true q308
                 have ea_ := Option.some.inj (hx307_0.symm.trans hx308_0)
                 injection ea_ with ea_ en_ ec_
                 subst ea_
                 subst ec_
                 clear en_
                 have ea_ := Option.some.inj (hx307_3.symm.trans hx308_3)
                 injection ea_ with ea_ en_ ec_
                 subst ea_
                 subst ec_
                 clear en_
                 have p309 : 0 ≤ (x9_1 : Int) := of_decide_eq_true (by first | (with_reducible assumption) | assumption)
                 have q309 : x9_1 < (((rd_T45 l0_4 a1).f3).length : Int) := of_decide_eq_true (by first | (with_reducible assumption) | assumption)
                 obtain ⟨ad309, e309, hx309_0⟩ := Kd.at_int (by repeat (first | (with_reducible exact HR308_3.out) | (with_reducible refine Kd.C_alloc ?_ _) | (with_reducible refine Kd.C_drewN ?_ _) | (with_reducible refine Kd.C_drew ?_) | exact HR308_3.out)) x9_1 p309 q309
                 cases e309
                 replace p309 := eq_true p309
                 replace q309 := eq_true q309
                 go_wp2
                 (try simp only [← hl2_1])
                 go_roundg k1
                 case measure => have := HK1.out; omega
                 case rel => exact ⟨(x2_1), (x3_1), (wrap64 (x9_1 + 1)), (by first | rfl | (simp; done) | (simp [*]; done)), H', ⟨by have := HK1.out; omega⟩, ⟨by (try simp only [hl2_1]); (with_reducible repeat (first | apply Kd.R_alloc | apply Kd.R_drewN | apply Kd.R_drew)); exact HO_2.out⟩, ⟨by (try simp only [hl2_1]); (with_reducible repeat (first | apply Kd.R_alloc | apply Kd.R_drewN | apply Kd.R_drew)); exact HO_3.out⟩, ⟨by (try simp only [hl2_1]); (with_reducible repeat (first | refine Z0 ?_ _ | refine Z3 ?_ | refine Z1 ?_ _)); exact BK305.out⟩, ⟨by repeat (first | (with_reducible first | exact HK.out | apply Kept.alloc | apply Kept.drewN | apply Kept.drew | refine Kept.setCell ?_ (.inr GW305.out) _) | exact HK.out)⟩, ⟨by repeat (first | (with_reducible first | exact HB.out | apply Z7 | apply Z4 | apply Z6 | refine Z8 ?_ GE305.out) | exact HB.out)⟩⟩
             · rw [if_neg c14] at H
               exact absurd H (by simp)
           · rw [if_neg c13] at H
             have c13b0 : decide (x9_1 < (((rd_T45 l0_4 a1).f3).length : Int)) = false := decide_eq_false c13
             clear c13
             by_cases c28 : x3_1.length < 17592186044416
             · rw [if_pos c28] at H
               have LMc28 := Aside0.mk c28
               clear c28
               obtain ⟨y315, hy315⟩ : ∃ y_ : List Int, y_ = (x3_1 ++ [a1]) := ⟨_, rfl⟩
               replace H : (some (y315, x2_1)) = some (r1, r2) := by first | (rw [hy315]; with_reducible exact H) | (have H2_ := (Option.bind_some _ _).symm.trans H; rw [hy315]; with_reducible exact H2_) | (have H2_ := (Option.bind_some _ _).symm.trans H; with_reducible exact H2_) | with_reducible exact H | (rw [hy315]; exact H) | exact H
               have Ny315 := Aside0.mk hy315
               clear hy315
               simp only [Option.some.injEq, Prod.mk.injEq] at H
               obtain ⟨rfl, rfl⟩ := H
               have hcz29_0 : wr.cell? ⟨gb305, 0, none⟩ = some (.string a0_0) := (Z5 BK305.out 0).trans rfl
               have hcz29_1 : wr.cell? ⟨gb305, 1, none⟩ = some (.int .i64 a0_1) := (Z5 BK305.out 1).trans rfl
               have hcz29_2 : wr.cell? ⟨gb305, 2, none⟩ = some (.int .i64 a0_2) := (Z5 BK305.out 2).trans rfl
               have hcz29_3 : wr.cell? ⟨gb305, 3, none⟩ = some (.int .i64 a0_3) := (Z5 BK305.out 3).trans rfl
               have hcz29_4 : wr.cell? ⟨gb305, 4, none⟩ = some (.slice A0_4 l0_4.length c0_4) := (Z5 BK305.out 4).trans rfl
               have hfz29_0 := Z2 BK305.out 0
               have hfz29_1 := Z2 BK305.out 1
               have hfz29_2 := Z2 BK305.out 2
               have hfz29_3 := Z2 BK305.out 3
               have hfz29_4 := Z2 BK305.out 4
               have p307 : 0 ≤ (a1 : Int) := of_decide_eq_true (by first | (with_reducible assumption) | assumption)
               have q307 : a1 < (l0_4.length : Int) := of_decide_eq_true (by first | (with_reducible assumption) | assumption)
               obtain ⟨ad307, A307_0, c307_0, A307_3, c307_3, e307, hx307_0, hx307_1, hx307_2, hx307_3, hl307_0, hi307_0, hl307_3, hi307_3⟩ := at_T45 (Kd.C_kept_now HR0_4.out HK.out) a1 p307 q307
               cases e307
               have HR307_0 := Aside0.mk hi307_0
               have HC307_0 := Aside0.mk hl307_0
               clear hi307_0 hl307_0
               have HR307_3 := Aside0.mk hi307_3
               have HC307_3 := Aside0.mk hl307_3
               clear hi307_3 hl307_3
               replace p307 := eq_true p307
               replace q307 := eq_true q307
               go_wp2_with (first | ((with_reducible refine Z69 (b := .append) (xs := #[.tmp 55, .tmp 57]) rfl ?_); (try (refine Z66 (by rfl) ?_; dsimp only)); at_builtin; refine Kd.R_append (Kd.int .i64) (w0 := w0) w0.heap.size rfl (.tmp 55) (.tmp 57) 26 3 (.int .i64 0) 8 rfl Try.underlying26 info3 rfl (by decide) (by omega) u3 x3_1 a1 [.int .i64 a1] (fun k_ => ((P2_ k_ ∨ P3_ k_) ∨ w.heap.size ≤ k_)) (fun _ => False) rfl rfl ?aP (fun _ hk => hk.elim) ?aF ?aO ?aB ?aS ?aL ?_; (case aP => exact rfl); (case aB => exact (by repeat (first | (with_reducible first | exact HB.out | apply Z7 | apply Z4 | apply Z6 | refine Z8 ?_ GE305.out) | exact HB.out))); (case aF => exact (fun k_ hk => (.inr (Nat.le_trans (by first | exact HK.out.1 | exact (show Kept w _ (fun k_ => P2_ k_ ∨ P3_ k_) from by repeat (first | (with_reducible first | exact HK.out | apply Kept.alloc | apply Kept.drewN | apply Kept.drew | refine Kept.setCell ?_ (.inr GW305.out) _) | exact HK.out)).1) hk)))); (case aO => exact (by (with_reducible repeat (first | apply Kd.R_alloc | apply Kd.R_drewN | apply Kd.R_drew)); exact HO_3.out)); (case aS => exact (Z27 (by repeat (first | (with_reducible first | exact HB.out | apply Z7 | apply Z4 | apply Z6 | refine Z8 ?_ GE305.out) | exact HB.out)))); (case aL => have := LMc28.out; omega); intro v316 w30 ho hb hg hat; rw [← Ny315.out] at ho; have n0_ := Aside0.mk (Kd.R_over' (by (with_reducible repeat (first | apply Kd.R_alloc | apply Kd.R_drewN | apply Kd.R_drew)); exact HO_2.out) (Kd.R_typed (by (with_reducible repeat (first | apply Kd.R_alloc | apply Kd.R_drewN | apply Kd.R_drew)); exact HO_3.out)) (by decide) hg); have n1_ := Aside0.mk (Z89 (g := gb305) (o := .cells #[.string a0_0, .int .i64 a0_1, .int .i64 a0_2, .int .i64 a0_3, .slice (some ad307) l0_4.length c0_4] 24 (0, 0)) (by (with_reducible repeat (first | refine Z0 ?_ _ | refine Z3 ?_ | refine Z1 ?_ _)); exact BK305.out) hg (Kd.R_ne HO_3.out BK305.out (by decide))); have n2_ := Aside0.mk (hb); have n3_ := Aside0.mk (Kept.of_grown (S := (fun k_ => P2_ k_ ∨ P3_ k_)) hg (by repeat (first | (with_reducible first | exact HK.out | apply Kept.alloc | apply Kept.drewN | apply Kept.drew | refine Kept.setCell ?_ (.inr GW305.out) _) | exact HK.out)) (fun k_ e_ => (HO_3.out.1 k_ e_))); have n4_ := Aside0.mk (ho); clear HO_2; clear BK305; clear HB; clear HK; clear HO_3; have HO_2 := n0_; have BK305 := n1_; have HB := n2_; have HK := n3_; have HO317 := n4_; clear n0_ n1_ n2_ n3_ n4_; clear ho hb hg hat))
               go_ret
               exact ⟨_, by first | rfl | (simp [Z16, Z15] <;> rfl) | (simp [*, Z16, Z15] <;> rfl), by (with_reducible repeat (first | apply Kd.R_alloc | apply Kd.R_drewN | apply Kd.R_drew)); exact HO317.out, (by first | exact (by (with_reducible repeat (first | apply Kd.R_alloc | apply Kd.R_drewN | apply Kd.R_drew)); exact HO_2.out) | (simp only [hl2_1]; exact (by (with_reducible repeat (first | apply Kd.R_alloc | apply Kd.R_drewN | apply Kd.R_drew)); exact HO_2.out))), by repeat (first | (with_reducible first | exact HB.out | apply Z7 | apply Z4 | apply Z6 | refine Z8 ?_ GE305.out) | exact HB.out), by repeat (first | (with_reducible first | exact HK.out | apply Kept.alloc | apply Kept.drewN | apply Kept.drew | refine Kept.setCell ?_ (.inr GW305.out) _) | exact HK.out)⟩
             · rw [if_neg c28] at H
               exact absurd H (by simp)
         · rw [if_neg c12] at H
           exact absurd H (by simp)
       · rw [if_neg c11] at H
         exact absurd H (by simp)
   · rw [if_neg c6] at H
     exact absurd H (by simp)
 · rw [if_neg c5] at H
   exact absurd H (by simp)
end Go.Proofs.Ytbklmnieakefnaa.Q
namespace Go.Proofs.Ytbklmnieakefnaa.Q
open Go.RowKit Go.Proofs.YtbklmnieakefnaaW.PrintWords Go.Proofs.YtbklmnieakefnaaW.PrintLast Go.Proofs.YtbklmnieakefnaaW.PrintMore
attribute [local go_sem] Z56 Z54 Z61 Z60 Z49 Z48 Z55 Z53
set_option linter.unusedVariables false
set_option linter.unusedSimpArgs false
def crucibleref17_Postorder.f (k : Nat) (a0_0 : ByteArray) (a0_1 : Int) (a0_2 : Int) (a0_3 : Int) (l0_4 : List (S45)) : Option (List Int) := if (l0_4.length : Int) = 0 then (some ([] : List Int)) else (if 0 ≤ (l0_4.length : Int) then (if ((l0_4.length : Int) : Int).toNat ≤ 281474976710656 then ((crucibleref17_walk.f k a0_0 a0_1 a0_2 a0_3 l0_4 0 (List.replicate ((l0_4.length : Int) : Int).toNat false) ([] : List Int)).bind fun bt322 => (some bt322.1)) else (none)) else (none))
theorem crucibleref17_Postorder.mono : ∀ a0 a1 a2 a3 a4 k, LeO (crucibleref17_Postorder.f k a0 a1 a2 a3 a4) (crucibleref17_Postorder.f (k + 1) a0 a1 a2 a3 a4) := by
 intro a0 a1 a2 a3 a4 k
 unfold crucibleref17_Postorder.f
 repeat' first
  | (with_reducible exact crucibleref17_walk.mono _ _ _ _ _ _ _ _ _)
  | (with_reducible exact LeO.refl _)
  | (with_reducible exact LeO.none _)
  | (with_reducible refine LeO.ite ?_ ?_)
  | (with_reducible refine LeO.bind ?_ (fun _ => ?_))
  | exact crucibleref17_walk.mono _ _ _ _ _ _ _ _ _
  | exact LeO.none _
  | refine LeO.ite ?_ ?_
  | refine LeO.bind ?_ (fun _ => ?_)
set_option maxHeartbeats 8000000 in
set_option maxRecDepth 100000 in
theorem crucibleref17_Postorder.calls (k : Nat) (a0_0 : ByteArray) (a0_1 : Int) (a0_2 : Int) (a0_3 : Int) (A0_4 : Option Addr) (c0_4 : Nat) (l0_4 : List (S45)) (r : List Int) (w : World) (hr0_4 : Kd.C k45 w A0_4 l0_4.length l0_4) (hc0_4 : l0_4.length ≤ c0_4) (h : crucibleref17_Postorder.f k a0_0 a0_1 a0_2 a0_3 l0_4 = some r) :
 Calls Try.prog 14 #[.agg #[.string a0_0, .int .i64 a0_1, .int .i64 a0_2, .int .i64 a0_3, .slice A0_4 l0_4.length c0_4]] w fun e w' => ∃ v0_ : Value, e = .returned (v0_) ∧ Kd.R (Kd.int .i64) 3 w' w.heap.size (fun _ => True) v0_ r ∧ Below w.heap.size w w' := by
 have hu24 := Try.underlying24
 have HR0_4 := Aside0.mk hr0_4
 have HC0_4 := Aside0.mk hc0_4
 clear hr0_4 hc0_4
 have HB := Aside0.mk (Below.refl w.heap.size w)
 have H : (if (l0_4.length : Int) = 0 then (some ([] : List Int)) else (if 0 ≤ (l0_4.length : Int) then (if ((l0_4.length : Int) : Int).toNat ≤ 281474976710656 then ((crucibleref17_walk.f k a0_0 a0_1 a0_2 a0_3 l0_4 0 (List.replicate ((l0_4.length : Int) : Int).toNat false) ([] : List Int)).bind fun bt322 => (some bt322.1)) else (none)) else (none))) = some r := h
 clear h
 by_cases c2 : (l0_4.length : Int) = 0
 · rw [if_pos c2] at H
   have c2b0 : ((l0_4.length : Int) == 0) = true := beq_iff_eq.mpr c2
   have c2b1 : ((l0_4.length : Int) != 0) = false := bne_eq_false_iff_eq.mpr c2
   clear c2
   obtain rfl := Option.some.inj H
   go_enter Try.func14, Try.ntmps14
   go_wp2_with (first | ((with_reducible refine Z52 (N := 1) rfl ?_); refine Z51 ?hg (N := 1) ?hd (cs := #[.string a0_0, .int .i64 a0_1, .int .i64 a0_2, .int .i64 a0_3, .slice A0_4 l0_4.length c0_4]) (t := 24) ?hr ?_; (case hd => rfl); (case hg => rfl); (case hr => first | (go_simp; done) | (go_simp; rfl)); intro gb318 hg w3 hbox hb; have n0_ := Aside0.mk (Z25 (by repeat (first | (with_reducible first | exact HB.out | apply Z7 | apply Z4 | apply Z6) | exact HB.out)) hb); have n1_ := Aside0.mk (hbox); have n2_ := Aside0.mk ((by rw [hg]; exact (Z27 (by repeat (first | (with_reducible first | exact HB.out | apply Z7 | apply Z4 | apply Z6) | exact HB.out))) : w.heap.size ≤ gb318)); have n3_ := Aside0.mk ((by rw [hg]; exact (Z27 (by repeat (first | (with_reducible first | exact HB.out | apply Z7 | apply Z4 | apply Z6) | exact HB.out))) : w.heap.size ≤ gb318)); clear HB; have HB := n0_; have BK318 := n1_; have GW318 := n2_; have GE318 := n3_; clear n0_ n1_ n2_ n3_; clear hb hbox hg; have hcz4_0 : w3.cell? ⟨gb318, 0, none⟩ = some (.string a0_0) := (Z5 BK318.out 0).trans rfl; have hcz4_1 : w3.cell? ⟨gb318, 1, none⟩ = some (.int .i64 a0_1) := (Z5 BK318.out 1).trans rfl; have hcz4_2 : w3.cell? ⟨gb318, 2, none⟩ = some (.int .i64 a0_2) := (Z5 BK318.out 2).trans rfl; have hcz4_3 : w3.cell? ⟨gb318, 3, none⟩ = some (.int .i64 a0_3) := (Z5 BK318.out 3).trans rfl; have hcz4_4 : w3.cell? ⟨gb318, 4, none⟩ = some (.slice A0_4 l0_4.length c0_4) := (Z5 BK318.out 4).trans rfl; have hfz4_0 := Z2 BK318.out 0; have hfz4_1 := Z2 BK318.out 1; have hfz4_2 := Z2 BK318.out 2; have hfz4_3 := Z2 BK318.out 3; have hfz4_4 := Z2 BK318.out 4))
   go_ret
   exact ⟨_, by first | rfl | (simp [Z16, Z15] <;> rfl) | (simp [*, Z16, Z15] <;> rfl), by first | exact Kd.R_nil _ _ _ _ _ | exact Kd.N_nil _ _ _ _ _ | exact Kd.V_nil _ _ _ _ _ | exact Kd.Q_nil _ _ _ _ _ | exact Kd.S_nil _ _ _ _ _, by repeat (first | (with_reducible first | exact HB.out | apply Z7 | apply Z4 | apply Z6 | refine Z8 ?_ GE318.out) | exact HB.out)⟩
 · rw [if_neg c2] at H
   have c2b0 : ((l0_4.length : Int) == 0) = false := beq_eq_false_iff_ne.mpr c2
   have c2b1 : ((l0_4.length : Int) != 0) = true := bne_iff_ne.mpr c2
   have c2b2 : ¬ (l0_4 = []) := fun h_ => c2 (by rw [h_]; rfl)
   by_cases c5 : 0 ≤ (l0_4.length : Int)
   · rw [if_pos c5] at H
     have c5b0 := eq_true c5
     have c5b1 : decide (0 ≤ (l0_4.length : Int)) = true := decide_eq_true c5
     clear c5
     by_cases c6 : ((l0_4.length : Int) : Int).toNat ≤ 281474976710656
     · rw [if_pos c6] at H
       have c6b0 := eq_true c6
       have c6b1 : decide (((l0_4.length : Int) : Int).toNat ≤ 281474976710656) = true := decide_eq_true c6
       clear c6
       obtain ⟨y319, hy319⟩ : ∃ y_ : List Bool, y_ = (List.replicate ((l0_4.length : Int) : Int).toNat false) := ⟨_, rfl⟩
       replace H : ((crucibleref17_walk.f k a0_0 a0_1 a0_2 a0_3 l0_4 0 y319 ([] : List Int)).bind fun bt322 => (some bt322.1)) = some r := by first | (rw [hy319]; with_reducible exact H) | (have H2_ := (Option.bind_some _ _).symm.trans H; rw [hy319]; with_reducible exact H2_) | (have H2_ := (Option.bind_some _ _).symm.trans H; with_reducible exact H2_) | with_reducible exact H | (rw [hy319]; exact H) | exact H
       have Ny319 := Aside0.mk hy319
       clear hy319
       replace H := Option.bind_eq_some_iff.mp H
       obtain ⟨⟨t322, t325⟩, A70, H⟩ := H
       replace H : (some t322) = some r := H
       have A7 := Aside0.mk A70
       clear A70
       obtain rfl := Option.some.inj H
       go_enter Try.func14, Try.ntmps14
       try go_wp2_with (first | ((with_reducible refine Z52 (N := 1) rfl ?_); refine Z51 ?hg (N := 1) ?hd (cs := #[.string a0_0, .int .i64 a0_1, .int .i64 a0_2, .int .i64 a0_3, .slice A0_4 l0_4.length c0_4]) (t := 24) ?hr ?_; (case hd => rfl); (case hg => rfl); (case hr => first | (go_simp; done) | (go_simp; rfl)); intro gb318 hg w8 hbox hb; have n0_ := Aside0.mk (Z25 (by repeat (first | (with_reducible first | exact HB.out | apply Z7 | apply Z4 | apply Z6) | exact HB.out)) hb); have n1_ := Aside0.mk (hbox); have n2_ := Aside0.mk ((by rw [hg]; exact (Z27 (by repeat (first | (with_reducible first | exact HB.out | apply Z7 | apply Z4 | apply Z6) | exact HB.out))) : w.heap.size ≤ gb318)); have n3_ := Aside0.mk ((by rw [hg]; exact (Z27 (by repeat (first | (with_reducible first | exact HB.out | apply Z7 | apply Z4 | apply Z6) | exact HB.out))) : w.heap.size ≤ gb318)); clear HB; have HB := n0_; have BK318 := n1_; have GW318 := n2_; have GE318 := n3_; clear n0_ n1_ n2_ n3_; clear hb hbox hg; have hcz9_0 : w8.cell? ⟨gb318, 0, none⟩ = some (.string a0_0) := (Z5 BK318.out 0).trans rfl; have hcz9_1 : w8.cell? ⟨gb318, 1, none⟩ = some (.int .i64 a0_1) := (Z5 BK318.out 1).trans rfl; have hcz9_2 : w8.cell? ⟨gb318, 2, none⟩ = some (.int .i64 a0_2) := (Z5 BK318.out 2).trans rfl; have hcz9_3 : w8.cell? ⟨gb318, 3, none⟩ = some (.int .i64 a0_3) := (Z5 BK318.out 3).trans rfl; have hcz9_4 : w8.cell? ⟨gb318, 4, none⟩ = some (.slice A0_4 l0_4.length c0_4) := (Z5 BK318.out 4).trans rfl; have hfz9_0 := Z2 BK318.out 0; have hfz9_1 := Z2 BK318.out 1; have hfz9_2 := Z2 BK318.out 2; have hfz9_3 := Z2 BK318.out 3; have hfz9_4 := Z2 BK318.out 4))
       have n0_ := Aside0.mk (Z3 BK318.out)
       have n1_ := Aside0.mk (Z6 HB.out)
       clear BK318
       clear HB
       have BK318 := n0_
       have HB := n1_
       clear n0_ n1_
       refine start_ (n := 7) (S := fun w' => w'.cell? ⟨gb318, 0, none⟩ = some (.string a0_0) ∧ w'.cell? ⟨gb318, 1, none⟩ = some (.int .i64 a0_1) ∧ w'.cell? ⟨gb318, 2, none⟩ = some (.int .i64 a0_2) ∧ w'.cell? ⟨gb318, 3, none⟩ = some (.int .i64 a0_3) ∧ w'.cell? ⟨gb318, 4, none⟩ = some (.slice A0_4 l0_4.length c0_4)) (ds := []) #[false, false, false, false, false, false, false] (by kernel_rfl) rfl rfl ⟨(Z5 BK318.out 0).trans rfl, (Z5 BK318.out 1).trans rfl, (Z5 BK318.out 2).trans rfl, (Z5 BK318.out 3).trans rfl, (Z5 BK318.out 4).trans rfl⟩ (fun hHeld => ?_)
       generalize w8.drew = w10 at BK318 HB hHeld ⊢
       refine pure_ (i := 1) (N := some 8) (v := ?_) (a' := ?_) #[false, true, false, false, false, false, false] rfl rfl (by kernel_rfl) (fun _ _ _ h => h) (Or.inl ⟨by rfl, ?_⟩) ?_ ?_
       rotate_left
       · intro w'
         go_simp
         with_reducible rfl
       rotate_left
       · simp only [Act.put, List.setIfInBounds_toArray, List.set_cons_zero, List.set_cons_succ, i64_w, i32_w]
         rfl
       refine take_ (i := 0) (N := some 7) (v := ?_) (a' := ?_) #[true, true, false, false, false, false, false] rfl rfl (by kernel_rfl) (fun _ _ _ h => h) (Or.inl ⟨by rfl, ?_⟩) hHeld ?_ ?_
       rotate_left
       · rintro w' ⟨s0, s1, s2, s3, s4⟩
         go_simp
         with_reducible rfl
       rotate_left
       · simp only [Act.put, List.setIfInBounds_toArray, List.set_cons_zero, List.set_cons_succ, i64_w, i32_w]
         rfl
       refine take_ (i := 2) (N := some 9) (v := ?_) (a' := ?_) #[true, true, true, false, false, false, false] rfl rfl (by kernel_rfl) (fun _ _ _ h => h) (Or.inl ⟨by rfl, ?_⟩) hHeld ?_ ?_
       rotate_left
       · rintro w' ⟨s0, s1, s2, s3, s4⟩
         go_simp
         with_reducible rfl
       rotate_left
       · simp only [Act.put, List.setIfInBounds_toArray, List.set_cons_zero, List.set_cons_succ, i64_w, i32_w]
         rfl
       refine pure_ (i := 3) (N := some 10) (v := ?_) (a' := ?_) #[true, true, true, true, false, false, false] rfl rfl (by kernel_rfl) (fun _ _ _ h => h) (Or.inl ⟨by rfl, ?_⟩) ?_ ?_
       rotate_left
       · intro w'
         go_simp
         with_reducible rfl
       rotate_left
       · simp only [Act.put, List.setIfInBounds_toArray, List.set_cons_zero, List.set_cons_succ, i64_w, i32_w]
         rfl
       refine one_ (i := 4) (N := some 11) #[true, true, true, true, true, false, false] rfl rfl (by kernel_rfl) (by decide) (fun K hK => ?_)
       refine Kd.R_make_step Kd.bool _ 4 (by rfl) (N := 11) rfl 34 _ _ rfl (l0_4.length : Int) rfl rfl Try.underlying34 (.bool false) 1 info4 rfl (by decide) (by omega) false (ok := fun _ => True) (okp := fun _ => True) rfl (fun _ hk => hk) trivial (of_decide_eq_true (by first | (with_reducible assumption) | assumption)) (Nat.le_trans (Nat.mul_le_mul_right _ (of_decide_eq_true (by first | (with_reducible assumption) | assumption) : (l0_4.length : Int).toNat ≤ 281474976710656)) (by omega)) (Below.refl _ _) (Nat.le_refl _) ?_
       intro v320 w11 ho12 hb hg_ hnew_
       clear hg_ hnew_
       (first | rw [← Ny319.out] at ho12 | (simp only [Int.reduceToNat] at ho12; rw [← Ny319.out] at ho12))
       have n0_ := Aside0.mk (Kd.R_lower ho12 (Z27 (by repeat (first | (with_reducible first | exact HB.out | apply Z7 | apply Z4 | apply Z6 | refine Z8 ?_ GE318.out) | exact HB.out))))
       have n1_ := Aside0.mk (Z40 (g := gb318) (o := .cells #[.string a0_0, .int .i64 a0_1, .int .i64 a0_2, .int .i64 a0_3, .slice A0_4 l0_4.length c0_4] 24 (0, 0)) (by (with_reducible repeat (first | refine Z0 ?_ _ | refine Z3 ?_ | refine Z1 ?_ _)); exact BK318.out) hb)
       have n2_ := Aside0.mk (Z25 (by repeat (first | (with_reducible first | exact HB.out | apply Z7 | apply Z4 | apply Z6 | refine Z8 ?_ GE318.out) | exact HB.out)) hb)
       clear BK318
       clear HB
       have HO321 := n0_
       have BK318 := n1_
       have HB := n2_
       clear n0_ n1_ n2_
       clear hb ho12
       obtain ⟨Ao13, co13, eo13⟩ := Kd.R_slice HO321.out
       (first | subst eo13 | (injection eo13 with f1_ f2_ f3_; have f4_ := f1_.symm; have f5_ := f3_.symm; clear f1_ f2_ f3_; subst f4_; subst f5_))
       refine hK.out _ _ ⟨(Z5 BK318.out 0).trans rfl, (Z5 BK318.out 1).trans rfl, (Z5 BK318.out 2).trans rfl, (Z5 BK318.out 3).trans rfl, (Z5 BK318.out 4).trans rfl⟩ (fun hHeld => ?_)
       clear hK K
       refine norm_ (a' := ?_) ?_ ?_
       rotate_left
       · show Act.put _ (some 11) _ = _
         simp only [Act.put, List.setIfInBounds_toArray, List.set_cons_zero, List.set_cons_succ, i64_w, i32_w]
         rfl
       refine one_ (i := 5) (N := some 12) #[true, true, true, true, true, true, false] rfl rfl (by kernel_rfl) (by decide) (fun K hK => ?_)
       refine goes_ Try.func26 (by kernel_rfl) rfl #[.agg #[.string a0_0, .int .i64 a0_1, .int .i64 a0_2, .int .i64 a0_3, .slice A0_4 l0_4.length c0_4], .int .i64 0, .slice Ao13 y319.length co13, .slice none 0 0] (by rfl) rfl rfl (by (try simp only [List.map_toArray, List.map_cons, List.map_nil]); first | done | rfl | (simp only [List.length_drop, List.length_take]; rfl)) ?_
       refine (crucibleref17_walk.calls k a0_0 a0_1 a0_2 a0_3 _ _ l0_4 0 (fun k_ => some k_ = (.slice Ao13 y319.length co13 : Value).ownBlock) (.slice Ao13 y319.length co13) y319 (fun k_ => some k_ = (.slice none 0 0 : Value).ownBlock) (.slice none 0 0) ([] : List Int) t322 t325 w _ ?side1 ?side2 ?side3 ?side4 ?side5 A7.out).mono ?_
       (case side1 => repeat (first | (with_reducible first | exact HB.out | apply Z7 | apply Z4 | apply Z6 | refine Z8 ?_ GE318.out) | exact HB.out))
       (case side2 => exact Kd.C_kept_came k45_heap HR0_4.out (by repeat (first | (with_reducible first | exact HB.out | apply Z7 | apply Z4 | apply Z6 | refine Z8 ?_ GE318.out) | exact HB.out)) (fun k_ hs_ => Or.elim hs_ (fun e_ => (fun e_ => Kd.R_base HO321.out k_ e_.symm) e_) (fun e_ => (fun e_ => by simp [Value.ownBlock] at e_) e_)))
       (case side3 => exact HC0_4.out)
       (case side4 => exact Kd.R_tight rfl HO321.out)
       (case side5 => exact Kd.R_nil _ _ _ _ _)
       rintro e w14 ⟨v323, rfl, ho0, hy0, hb, hkp⟩
       refine ⟨_, rfl, ?_⟩
       have n0_ := Aside0.mk (blk_kept (by (with_reducible repeat (first | refine Z0 ?_ _ | refine Z3 ?_ | refine Z1 ?_ _)); exact BK318.out) hkp (fun hs_ => Or.elim hs_ (fun e_ => (fun e_ => (Kd.R_ne HO321.out BK318.out (by decide)) e_) e_) (fun e_ => (fun e_ => by simp [Value.ownBlock] at e_) e_)))
       have n1_ := Aside0.mk (Kd.R_reok rfl hy0 (fun k_ e_ => HO321.out.1 k_ e_))
       have n2_ := Aside0.mk (Kd.R_mono (ok' := fun k_ => True) ho0 (fun k_ hk_ => trivial))
       have n3_ := Aside0.mk (hb)
       clear BK318
       clear HO321
       clear HB
       have BK318 := n0_
       have HO321 := n1_
       have HO324 := n2_
       have HB := n3_
       clear n0_ n1_ n2_ n3_
       (try clear hb)
       (try clear hkp)
       (try clear ho0)
       (try clear hy0)
       refine hK.out _ _ ⟨(Z5 BK318.out 0).trans rfl, (Z5 BK318.out 1).trans rfl, (Z5 BK318.out 2).trans rfl, (Z5 BK318.out 3).trans rfl, (Z5 BK318.out 4).trans rfl⟩ (fun hHeld => ?_)
       clear hK K
       refine norm_ (a' := ?_) ?_ ?_
       rotate_left
       · show Act.put _ (some 12) _ = _
         simp only [Act.put, List.setIfInBounds_toArray, List.set_cons_zero, List.set_cons_succ, i64_w, i32_w]
         rfl
       refine pure_ (i := 6) (N := some 2) (v := ?_) (a' := ?_) #[true, true, true, true, true, true, true] rfl rfl (by kernel_rfl) (fun _ _ _ h => h) (Or.inl ⟨by rfl, ?_⟩) ?_ ?_
       rotate_left
       · intro w'
         go_simp
         with_reducible rfl
       rotate_left
       · simp only [Act.put, List.setIfInBounds_toArray, List.set_cons_zero, List.set_cons_succ, i64_w, i32_w]
         rfl
       refine done_ (by kernel_rfl) ?_
       try go_wp2
       go_ret
       exact ⟨_, by first | rfl | (simp [Z16, Z15] <;> rfl) | (simp [*, Z16, Z15] <;> rfl), by (with_reducible repeat (first | apply Kd.R_alloc | apply Kd.R_drewN | apply Kd.R_drew)); exact HO324.out, by repeat (first | (with_reducible first | exact HB.out | apply Z7 | apply Z4 | apply Z6 | refine Z8 ?_ GE318.out) | exact HB.out)⟩
     · rw [if_neg c6] at H
       exact absurd H (by simp)
   · rw [if_neg c5] at H
     exact absurd H (by simp)
end Go.Proofs.Ytbklmnieakefnaa.Q
namespace Go.Proofs.Ytbklmnieakefnaa.Q
open Go.RowKit Go.Proofs.YtbklmnieakefnaaW.PrintWords Go.Proofs.YtbklmnieakefnaaW.PrintLast Go.Proofs.YtbklmnieakefnaaW.PrintMore
attribute [local go_sem] Z56 Z54 Z61 Z60 Z49 Z48 Z55 Z53
set_option linter.unusedVariables false
set_option linter.unusedSimpArgs false
mutual
def cruciblelaw17_OrderWalks.l0 : Nat → List Int → List Int → List Int → Int → Option (Bool)
 | 0, _, _, _, _ => none
 | k + 1, x3, x4, x5, x6 => if x6 < (x3.length : Int) then (if 0 ≤ x6 then (if 0 ≤ (rd x3 x6) then (if (rd x3 x6) < (x5.length : Int) then (cruciblelaw17_OrderWalks.l0 k x3 x4 (x5.set ((rd x3 x6) : Int).toNat x6) (wrap64 (x6 + 1))) else (none)) else (none)) else (none)) else (cruciblelaw17_OrderWalks.l1 k x3 x4 x5 0)
def cruciblelaw17_OrderWalks.l1 : Nat → List Int → List Int → List Int → Int → Option (Bool)
 | 0, _, _, _, _ => none
 | k + 1, x3, x4, x5, x7 => if x7 < (x3.length : Int) then (if 0 ≤ x7 then (if 0 ≤ (rd x3 x7) then (if (rd x3 x7) < (x4.length : Int) then (if (rd x4 (rd x3 x7)) ≥ 0 then (if 0 ≤ (rd x4 (rd x3 x7)) then (if (rd x4 (rd x3 x7)) < (x5.length : Int) then (if (rd x5 (rd x4 (rd x3 x7))) ≤ x7 then (some false) else (cruciblelaw17_OrderWalks.l1 k x3 x4 x5 (wrap64 (x7 + 1)))) else (none)) else (none)) else (cruciblelaw17_OrderWalks.l1 k x3 x4 x5 (wrap64 (x7 + 1)))) else (none)) else (none)) else (none)) else ((cruciblelaw17_awake.f k).bind fun t354 => (some t354))
end
def cruciblelaw17_OrderWalks.f (k : Nat) (a0_0 : ByteArray) (a0_1 : Int) (a0_2 : Int) (a0_3 : Int) (l0_4 : List (S45)) : Option (Bool) := (cruciblelaw17_bare.f k a0_0 a0_1 a0_2 a0_3 l0_4).bind fun bt327 => ((order_Postorder.f k bt327.1 bt327.2.1 bt327.2.2.1 bt327.2.2.2.1 bt327.2.2.2.2).bind fun t334 => ((cruciblelaw17_May.f k bt327.1 bt327.2.1 bt327.2.2.1 bt327.2.2.2.1 bt327.2.2.2.2).bind fun t337 => (if t337 = true then ((crucibleref17_Postorder.f k bt327.1 bt327.2.1 bt327.2.2.1 bt327.2.2.2.1 bt327.2.2.2.2).bind fun t339 => ((crucibleref14_SameInts.f k t334 t339).bind fun t342 => (if t342 = true then ((order_Doms.f k bt327.1 bt327.2.1 bt327.2.2.1 bt327.2.2.2.1 bt327.2.2.2.2).bind fun t343 => (if 0 ≤ (bt327.2.2.2.2.length : Int) then (if ((bt327.2.2.2.2.length : Int) : Int).toNat ≤ 35184372088832 then (cruciblelaw17_OrderWalks.l0 k t334 t343 (List.replicate ((bt327.2.2.2.2.length : Int) : Int).toNat 0) 0) else (none)) else (none))) else (some false)))) else ((cruciblelaw17_awake.f k).bind fun t338 => (some t338)))))
theorem cruciblelaw17_OrderWalks.mono_l : ∀ k, (∀ y0 y1 y2 y3, LeO (cruciblelaw17_OrderWalks.l0 k y0 y1 y2 y3) (cruciblelaw17_OrderWalks.l0 (k + 1) y0 y1 y2 y3)) ∧ (∀ y0 y1 y2 y3, LeO (cruciblelaw17_OrderWalks.l1 k y0 y1 y2 y3) (cruciblelaw17_OrderWalks.l1 (k + 1) y0 y1 y2 y3))
 | 0 => ⟨fun _ _ _ _ r h => by simp [cruciblelaw17_OrderWalks.l0] at h, fun _ _ _ _ r h => by simp [cruciblelaw17_OrderWalks.l1] at h⟩
 | k + 1 => by
  obtain ⟨ih0, ih1⟩ := cruciblelaw17_OrderWalks.mono_l k
  refine ⟨?_, ?_⟩
  · intro y0 y1 y2 y3
    unfold cruciblelaw17_OrderWalks.l0
    repeat' first
    | (with_reducible exact ih0 _ _ _ _)
    | (with_reducible exact ih1 _ _ _ _)
    | (with_reducible exact cruciblelaw17_May.mono _ _ _ _ _ _)
    | (with_reducible exact cruciblelaw17_awake.mono _)
    | (with_reducible exact cruciblelaw17_bare.mono _ _ _ _ _ _)
    | (with_reducible exact crucibleref14_SameInts.mono _ _ _)
    | (with_reducible exact crucibleref17_Postorder.mono _ _ _ _ _ _)
    | (with_reducible exact order_Doms.mono _ _ _ _ _ _)
    | (with_reducible exact order_Postorder.mono _ _ _ _ _ _)
    | (with_reducible exact LeO.refl _)
    | (with_reducible exact LeO.none _)
    | (with_reducible refine LeO.ite ?_ ?_)
    | (with_reducible refine LeO.bind ?_ (fun _ => ?_))
    | exact ih0 _ _ _ _
    | exact ih1 _ _ _ _
    | exact cruciblelaw17_May.mono _ _ _ _ _ _
    | exact cruciblelaw17_awake.mono _
    | exact cruciblelaw17_bare.mono _ _ _ _ _ _
    | exact crucibleref14_SameInts.mono _ _ _
    | exact crucibleref17_Postorder.mono _ _ _ _ _ _
    | exact order_Doms.mono _ _ _ _ _ _
    | exact order_Postorder.mono _ _ _ _ _ _
    | exact LeO.none _
    | refine LeO.ite ?_ ?_
    | refine LeO.bind ?_ (fun _ => ?_)
  · intro y0 y1 y2 y3
    unfold cruciblelaw17_OrderWalks.l1
    repeat' first
    | (with_reducible exact ih0 _ _ _ _)
    | (with_reducible exact ih1 _ _ _ _)
    | (with_reducible exact cruciblelaw17_May.mono _ _ _ _ _ _)
    | (with_reducible exact cruciblelaw17_awake.mono _)
    | (with_reducible exact cruciblelaw17_bare.mono _ _ _ _ _ _)
    | (with_reducible exact crucibleref14_SameInts.mono _ _ _)
    | (with_reducible exact crucibleref17_Postorder.mono _ _ _ _ _ _)
    | (with_reducible exact order_Doms.mono _ _ _ _ _ _)
    | (with_reducible exact order_Postorder.mono _ _ _ _ _ _)
    | (with_reducible exact LeO.refl _)
    | (with_reducible exact LeO.none _)
    | (with_reducible refine LeO.ite ?_ ?_)
    | (with_reducible refine LeO.bind ?_ (fun _ => ?_))
    | exact ih0 _ _ _ _
    | exact ih1 _ _ _ _
    | exact cruciblelaw17_May.mono _ _ _ _ _ _
    | exact cruciblelaw17_awake.mono _
    | exact cruciblelaw17_bare.mono _ _ _ _ _ _
    | exact crucibleref14_SameInts.mono _ _ _
    | exact crucibleref17_Postorder.mono _ _ _ _ _ _
    | exact order_Doms.mono _ _ _ _ _ _
    | exact order_Postorder.mono _ _ _ _ _ _
    | exact LeO.none _
    | refine LeO.ite ?_ ?_
    | refine LeO.bind ?_ (fun _ => ?_)
theorem cruciblelaw17_OrderWalks.mono : ∀ a0 a1 a2 a3 a4 k, LeO (cruciblelaw17_OrderWalks.f k a0 a1 a2 a3 a4) (cruciblelaw17_OrderWalks.f (k + 1) a0 a1 a2 a3 a4) := by
 intro a0 a1 a2 a3 a4 k
 obtain ⟨ih0, ih1⟩ := cruciblelaw17_OrderWalks.mono_l k
 unfold cruciblelaw17_OrderWalks.f
 repeat' first
  | (with_reducible exact ih0 _ _ _ _)
  | (with_reducible exact ih1 _ _ _ _)
  | (with_reducible exact cruciblelaw17_May.mono _ _ _ _ _ _)
  | (with_reducible exact cruciblelaw17_awake.mono _)
  | (with_reducible exact cruciblelaw17_bare.mono _ _ _ _ _ _)
  | (with_reducible exact crucibleref14_SameInts.mono _ _ _)
  | (with_reducible exact crucibleref17_Postorder.mono _ _ _ _ _ _)
  | (with_reducible exact order_Doms.mono _ _ _ _ _ _)
  | (with_reducible exact order_Postorder.mono _ _ _ _ _ _)
  | (with_reducible exact LeO.refl _)
  | (with_reducible exact LeO.none _)
  | (with_reducible refine LeO.ite ?_ ?_)
  | (with_reducible refine LeO.bind ?_ (fun _ => ?_))
  | exact ih0 _ _ _ _
  | exact ih1 _ _ _ _
  | exact cruciblelaw17_May.mono _ _ _ _ _ _
  | exact cruciblelaw17_awake.mono _
  | exact cruciblelaw17_bare.mono _ _ _ _ _ _
  | exact crucibleref14_SameInts.mono _ _ _
  | exact crucibleref17_Postorder.mono _ _ _ _ _ _
  | exact order_Doms.mono _ _ _ _ _ _
  | exact order_Postorder.mono _ _ _ _ _ _
  | exact LeO.none _
  | refine LeO.ite ?_ ?_
  | refine LeO.bind ?_ (fun _ => ?_)
set_option maxHeartbeats 8000000 in
set_option maxRecDepth 100000 in
theorem cruciblelaw17_OrderWalks.calls (k : Nat) (a0_0 : ByteArray) (a0_1 : Int) (a0_2 : Int) (a0_3 : Int) (A0_4 : Option Addr) (c0_4 : Nat) (l0_4 : List (S45)) (r : Bool) (w : World) (hr0_4 : Kd.C k45 w A0_4 l0_4.length l0_4) (hc0_4 : l0_4.length ≤ c0_4) (h : cruciblelaw17_OrderWalks.f k a0_0 a0_1 a0_2 a0_3 l0_4 = some r) :
 Calls Try.prog 3 #[.agg #[.string a0_0, .int .i64 a0_1, .int .i64 a0_2, .int .i64 a0_3, .slice A0_4 l0_4.length c0_4]] w fun e w' => e = .returned (.bool r) ∧ Below w.heap.size w w' := by
 have hu24 := Try.underlying24
 have HR0_4 := Aside0.mk hr0_4
 have HC0_4 := Aside0.mk hc0_4
 clear hr0_4 hc0_4
 have HB := Aside0.mk (Below.refl w.heap.size w)
 have H : ((cruciblelaw17_bare.f k a0_0 a0_1 a0_2 a0_3 l0_4).bind fun bt327 => ((order_Postorder.f k bt327.1 bt327.2.1 bt327.2.2.1 bt327.2.2.2.1 bt327.2.2.2.2).bind fun t334 => ((cruciblelaw17_May.f k bt327.1 bt327.2.1 bt327.2.2.1 bt327.2.2.2.1 bt327.2.2.2.2).bind fun t337 => (if t337 = true then ((crucibleref17_Postorder.f k bt327.1 bt327.2.1 bt327.2.2.1 bt327.2.2.2.1 bt327.2.2.2.2).bind fun t339 => ((crucibleref14_SameInts.f k t334 t339).bind fun t342 => (if t342 = true then ((order_Doms.f k bt327.1 bt327.2.1 bt327.2.2.1 bt327.2.2.2.1 bt327.2.2.2.2).bind fun t343 => (if 0 ≤ (bt327.2.2.2.2.length : Int) then (if ((bt327.2.2.2.2.length : Int) : Int).toNat ≤ 35184372088832 then (cruciblelaw17_OrderWalks.l0 k t334 t343 (List.replicate ((bt327.2.2.2.2.length : Int) : Int).toNat 0) 0) else (none)) else (none))) else (some false)))) else ((cruciblelaw17_awake.f k).bind fun t338 => (some t338)))))) = some r := h
 clear h
 replace H := Option.bind_eq_some_iff.mp H
 obtain ⟨⟨t327, t328, t329, t330, t331⟩, A20, H⟩ := H
 replace H : ((order_Postorder.f k t327 t328 t329 t330 t331).bind fun t334 => ((cruciblelaw17_May.f k t327 t328 t329 t330 t331).bind fun t337 => (if t337 = true then ((crucibleref17_Postorder.f k t327 t328 t329 t330 t331).bind fun t339 => ((crucibleref14_SameInts.f k t334 t339).bind fun t342 => (if t342 = true then ((order_Doms.f k t327 t328 t329 t330 t331).bind fun t343 => (if 0 ≤ (t331.length : Int) then (if ((t331.length : Int) : Int).toNat ≤ 35184372088832 then (cruciblelaw17_OrderWalks.l0 k t334 t343 (List.replicate ((t331.length : Int) : Int).toNat 0) 0) else (none)) else (none))) else (some false)))) else ((cruciblelaw17_awake.f k).bind fun t338 => (some t338))))) = some r := H
 have A2 := Aside0.mk A20
 clear A20
 replace H := Option.bind_eq_some_iff.mp H
 obtain ⟨t334, A30, H⟩ := H
 replace H : ((cruciblelaw17_May.f k t327 t328 t329 t330 t331).bind fun t337 => (if t337 = true then ((crucibleref17_Postorder.f k t327 t328 t329 t330 t331).bind fun t339 => ((crucibleref14_SameInts.f k t334 t339).bind fun t342 => (if t342 = true then ((order_Doms.f k t327 t328 t329 t330 t331).bind fun t343 => (if 0 ≤ (t331.length : Int) then (if ((t331.length : Int) : Int).toNat ≤ 35184372088832 then (cruciblelaw17_OrderWalks.l0 k t334 t343 (List.replicate ((t331.length : Int) : Int).toNat 0) 0) else (none)) else (none))) else (some false)))) else ((cruciblelaw17_awake.f k).bind fun t338 => (some t338)))) = some r := H
 have A3 := Aside0.mk A30
 clear A30
 replace H := Option.bind_eq_some_iff.mp H
 obtain ⟨t337, A40, H⟩ := H
 replace H : (if t337 = true then ((crucibleref17_Postorder.f k t327 t328 t329 t330 t331).bind fun t339 => ((crucibleref14_SameInts.f k t334 t339).bind fun t342 => (if t342 = true then ((order_Doms.f k t327 t328 t329 t330 t331).bind fun t343 => (if 0 ≤ (t331.length : Int) then (if ((t331.length : Int) : Int).toNat ≤ 35184372088832 then (cruciblelaw17_OrderWalks.l0 k t334 t343 (List.replicate ((t331.length : Int) : Int).toNat 0) 0) else (none)) else (none))) else (some false)))) else ((cruciblelaw17_awake.f k).bind fun t338 => (some t338))) = some r := H
 have A4 := Aside0.mk A40
 clear A40
 by_cases c5 : t337 = true
 · subst c5
   have H1 : ((crucibleref17_Postorder.f k t327 t328 t329 t330 t331).bind fun t339 => ((crucibleref14_SameInts.f k t334 t339).bind fun t342 => (if t342 = true then ((order_Doms.f k t327 t328 t329 t330 t331).bind fun t343 => (if 0 ≤ (t331.length : Int) then (if ((t331.length : Int) : Int).toNat ≤ 35184372088832 then (cruciblelaw17_OrderWalks.l0 k t334 t343 (List.replicate ((t331.length : Int) : Int).toNat 0) 0) else (none)) else (none))) else (some false)))) = some r := by rw [if_pos rfl] at H; exact H
   clear H
   have H := H1
   clear H1
   replace H := Option.bind_eq_some_iff.mp H
   obtain ⟨t339, A60, H⟩ := H
   replace H : ((crucibleref14_SameInts.f k t334 t339).bind fun t342 => (if t342 = true then ((order_Doms.f k t327 t328 t329 t330 t331).bind fun t343 => (if 0 ≤ (t331.length : Int) then (if ((t331.length : Int) : Int).toNat ≤ 35184372088832 then (cruciblelaw17_OrderWalks.l0 k t334 t343 (List.replicate ((t331.length : Int) : Int).toNat 0) 0) else (none)) else (none))) else (some false))) = some r := H
   have A6 := Aside0.mk A60
   clear A60
   replace H := Option.bind_eq_some_iff.mp H
   obtain ⟨t342, A70, H⟩ := H
   replace H : (if t342 = true then ((order_Doms.f k t327 t328 t329 t330 t331).bind fun t343 => (if 0 ≤ (t331.length : Int) then (if ((t331.length : Int) : Int).toNat ≤ 35184372088832 then (cruciblelaw17_OrderWalks.l0 k t334 t343 (List.replicate ((t331.length : Int) : Int).toNat 0) 0) else (none)) else (none))) else (some false)) = some r := H
   have A7 := Aside0.mk A70
   clear A70
   by_cases c8 : t342 = true
   · subst c8
     have H1 : ((order_Doms.f k t327 t328 t329 t330 t331).bind fun t343 => (if 0 ≤ (t331.length : Int) then (if ((t331.length : Int) : Int).toNat ≤ 35184372088832 then (cruciblelaw17_OrderWalks.l0 k t334 t343 (List.replicate ((t331.length : Int) : Int).toNat 0) 0) else (none)) else (none))) = some r := by rw [if_pos rfl] at H; exact H
     clear H
     have H := H1
     clear H1
     replace H := Option.bind_eq_some_iff.mp H
     obtain ⟨t343, A90, H⟩ := H
     replace H : (if 0 ≤ (t331.length : Int) then (if ((t331.length : Int) : Int).toNat ≤ 35184372088832 then (cruciblelaw17_OrderWalks.l0 k t334 t343 (List.replicate ((t331.length : Int) : Int).toNat 0) 0) else (none)) else (none)) = some r := H
     have A9 := Aside0.mk A90
     clear A90
     by_cases c10 : 0 ≤ (t331.length : Int)
     · rw [if_pos c10] at H
       have c10b0 := eq_true c10
       have c10b1 : decide (0 ≤ (t331.length : Int)) = true := decide_eq_true c10
       clear c10
       by_cases c11 : ((t331.length : Int) : Int).toNat ≤ 35184372088832
       · rw [if_pos c11] at H
         have c11b0 := eq_true c11
         have c11b1 : decide (((t331.length : Int) : Int).toNat ≤ 35184372088832) = true := decide_eq_true c11
         clear c11
         obtain ⟨y346, hy346⟩ : ∃ y_ : List Int, y_ = (List.replicate ((t331.length : Int) : Int).toNat 0) := ⟨_, rfl⟩
         replace H : (cruciblelaw17_OrderWalks.l0 k t334 t343 y346 0) = some r := by first | (rw [hy346]; with_reducible exact H) | (have H2_ := (Option.bind_some _ _).symm.trans H; rw [hy346]; with_reducible exact H2_) | (have H2_ := (Option.bind_some _ _).symm.trans H; with_reducible exact H2_) | with_reducible exact H | (rw [hy346]; exact H) | exact H
         have Ny346 := Aside0.mk hy346
         clear hy346
         have H' := Aside0.mk H
         clear H
         go_enter Try.func3, Try.ntmps3
         go_wp2_with (first | ((with_reducible refine Z52 (N := 1) rfl ?_); refine Z51 ?hg (N := 1) ?hd (cs := #[.string a0_0, .int .i64 a0_1, .int .i64 a0_2, .int .i64 a0_3, .slice A0_4 l0_4.length c0_4]) (t := 24) ?hr ?_; (case hd => rfl); (case hg => rfl); (case hr => first | (go_simp; done) | (go_simp; rfl)); intro gb326 hg w12 hbox hb; have n0_ := Aside0.mk (Z25 (by repeat (first | (with_reducible first | exact HB.out | apply Z7 | apply Z4 | apply Z6) | exact HB.out)) hb); have n1_ := Aside0.mk (hbox); have n2_ := Aside0.mk ((by rw [hg]; exact (Z27 (by repeat (first | (with_reducible first | exact HB.out | apply Z7 | apply Z4 | apply Z6) | exact HB.out))) : w.heap.size ≤ gb326)); have n3_ := Aside0.mk ((by rw [hg]; exact (Z27 (by repeat (first | (with_reducible first | exact HB.out | apply Z7 | apply Z4 | apply Z6) | exact HB.out))) : w.heap.size ≤ gb326)); clear HB; have HB := n0_; have BK326 := n1_; have GW326 := n2_; have GE326 := n3_; clear n0_ n1_ n2_ n3_; clear hb hbox hg; have hcz13_0 : w12.cell? ⟨gb326, 0, none⟩ = some (.string a0_0) := (Z5 BK326.out 0).trans rfl; have hcz13_1 : w12.cell? ⟨gb326, 1, none⟩ = some (.int .i64 a0_1) := (Z5 BK326.out 1).trans rfl; have hcz13_2 : w12.cell? ⟨gb326, 2, none⟩ = some (.int .i64 a0_2) := (Z5 BK326.out 2).trans rfl; have hcz13_3 : w12.cell? ⟨gb326, 3, none⟩ = some (.int .i64 a0_3) := (Z5 BK326.out 3).trans rfl; have hcz13_4 : w12.cell? ⟨gb326, 4, none⟩ = some (.slice A0_4 l0_4.length c0_4) := (Z5 BK326.out 4).trans rfl; have hfz13_0 := Z2 BK326.out 0; have hfz13_1 := Z2 BK326.out 1; have hfz13_2 := Z2 BK326.out 2; have hfz13_3 := Z2 BK326.out 3; have hfz13_4 := Z2 BK326.out 4) | ((with_reducible refine Z14 (f := 9) rfl ?_); refine goesL_ (some 10) rfl rfl Try.func9 (by kernel_rfl) rfl #[.agg #[.string a0_0, .int .i64 a0_1, .int .i64 a0_2, .int .i64 a0_3, .slice A0_4 l0_4.length c0_4]] rfl (by (try simp only [List.map_toArray, List.map_cons, List.map_nil]); first | done | rfl | (simp only [List.length_drop, List.length_take]; rfl)) ?_; (with_reducible refine (cruciblelaw17_bare.calls k a0_0 a0_1 a0_2 a0_3 (fun k_ => k_ < w.heap.size) _ _ l0_4 t327 t328 t329 t330 t331 _ ?side1 A2.out).mono ?_); (case side1 => exact Kd.V_mk HC0_4.out (Kd.F_below (Kd.C_F k45_heap HR0_4.out) (by repeat (first | (with_reducible first | exact HB.out | apply Z7 | apply Z4 | apply Z6 | refine Z8 ?_ GE326.out) | exact HB.out)))); rintro e w14 ⟨v332, rfl, ho0, hb⟩; refine ⟨_, rfl, ?_⟩; have n0_ := Aside0.mk (Kd.N_lower (Kd.N_mono (ok' := fun k_ => k_ ≠ gb326) ho0 (fun k_ hk_ => Or.elim hk_ (fun hs_ => fun e_ => Nat.not_le.2 hs_ (by rw [e_]; exact GW326.out)) (fun hn_ => (Kd.freshB (g := gb326) (o := .cells #[.string a0_0, .int .i64 a0_1, .int .i64 a0_2, .int .i64 a0_3, .slice A0_4 l0_4.length c0_4] 24 (0, 0)) (by (with_reducible repeat (first | refine Z0 ?_ _ | refine Z3 ?_ | refine Z1 ?_ _)); exact BK326.out) k_ hn_)))) (Z27 (by repeat (first | (with_reducible first | exact HB.out | apply Z7 | apply Z4 | apply Z6 | refine Z8 ?_ GE326.out) | exact HB.out)))); have n1_ := Aside0.mk (Z40 (g := gb326) (o := .cells #[.string a0_0, .int .i64 a0_1, .int .i64 a0_2, .int .i64 a0_3, .slice A0_4 l0_4.length c0_4] 24 (0, 0)) (by (with_reducible repeat (first | refine Z0 ?_ _ | refine Z3 ?_ | refine Z1 ?_ _)); exact BK326.out) hb); have n2_ := Aside0.mk (Z25 (by repeat (first | (with_reducible first | exact HB.out | apply Z7 | apply Z4 | apply Z6 | refine Z8 ?_ GE326.out) | exact HB.out)) hb); clear BK326; clear HB; have HO333 := n0_; have BK326 := n1_; have HB := n2_; clear n0_ n1_ n2_; (try clear hb); (try clear hb2); (try clear hk); (try clear hi); (try clear ho0); have hcz15_0 : w14.cell? ⟨gb326, 0, none⟩ = some (.string a0_0) := (Z5 BK326.out 0).trans rfl; have hcz15_1 : w14.cell? ⟨gb326, 1, none⟩ = some (.int .i64 a0_1) := (Z5 BK326.out 1).trans rfl; have hcz15_2 : w14.cell? ⟨gb326, 2, none⟩ = some (.int .i64 a0_2) := (Z5 BK326.out 2).trans rfl; have hcz15_3 : w14.cell? ⟨gb326, 3, none⟩ = some (.int .i64 a0_3) := (Z5 BK326.out 3).trans rfl; have hcz15_4 : w14.cell? ⟨gb326, 4, none⟩ = some (.slice A0_4 l0_4.length c0_4) := (Z5 BK326.out 4).trans rfl; have hfz15_0 := Z2 BK326.out 0; have hfz15_1 := Z2 BK326.out 1; have hfz15_2 := Z2 BK326.out 2; have hfz15_3 := Z2 BK326.out 3; have hfz15_4 := Z2 BK326.out 4; obtain ⟨Ao16, co16, eo16⟩ := Kd.N_slice HO333.out; subst eo16) | ((with_reducible refine Z14 (f := 10) rfl ?_); refine goesL_ (some 12) rfl rfl Try.func10 (by kernel_rfl) rfl #[.agg #[.string t327, .int .i64 t328, .int .i64 t329, .int .i64 t330, .slice Ao16 t331.length co16]] rfl (by (try simp only [List.map_toArray, List.map_cons, List.map_nil]); first | done | rfl | (simp only [List.length_drop, List.length_take]; rfl)) ?_; (with_reducible refine (order_Postorder.calls k t327 t328 t329 t330 _ _ t331 t334 _ ?side1 ?side2 A3.out).mono ?_); (case side1 => refine (Kd.N_reads' (e := 45) (base := w.heap.size) (ok := fun k_ => k_ ≠ gb326) (n := t331.length) (c := co16) ?_).2.2; exact (by (with_reducible repeat (first | apply Kd.N_alloc | apply Kd.N_drewN | apply Kd.N_drew)); exact (Kd.N_mono (Kd.N_far (p := ⟨gb326, 4, none⟩) (Kd.N_far (p := ⟨gb326, 3, none⟩) (Kd.N_far (p := ⟨gb326, 2, none⟩) (Kd.N_far (p := ⟨gb326, 1, none⟩) (Kd.N_far (p := ⟨gb326, 0, none⟩) (Kd.N_mono HO333.out (fun k_ hk => (⟨hk, hk⟩ : _ ∧ k_ ≠ gb326))) (fun _ hk => hk.2) (.string t327)) (fun _ hk => hk.2) (.int .i64 t328)) (fun _ hk => hk.2) (.int .i64 t329)) (fun _ hk => hk.2) (.int .i64 t330)) (fun _ hk => hk.2) (.slice Ao16 t331.length co16)) (fun _ h_ => h_.1)))); (case side2 => exact (Kd.N_reads' HO333.out).2.1); rintro e w17 ⟨v335, rfl, ho0, hb⟩; refine ⟨_, rfl, ?_⟩; have n0_ := Aside0.mk (Kd.N_elder' (by (with_reducible repeat (first | apply Kd.N_alloc | apply Kd.N_drewN | apply Kd.N_drew)); exact (Kd.N_mono (Kd.N_far (p := ⟨gb326, 4, none⟩) (Kd.N_far (p := ⟨gb326, 3, none⟩) (Kd.N_far (p := ⟨gb326, 2, none⟩) (Kd.N_far (p := ⟨gb326, 1, none⟩) (Kd.N_far (p := ⟨gb326, 0, none⟩) (Kd.N_mono HO333.out (fun k_ hk => (⟨hk, hk⟩ : _ ∧ k_ ≠ gb326))) (fun _ hk => hk.2) (.string t327)) (fun _ hk => hk.2) (.int .i64 t328)) (fun _ hk => hk.2) (.int .i64 t329)) (fun _ hk => hk.2) (.int .i64 t330)) (fun _ hk => hk.2) (.slice Ao16 t331.length co16)) (fun _ h_ => h_.1))) (Kd.R_base ho0) hb); have n1_ := Aside0.mk (Kd.R_lower ho0 (Z27 (by repeat (first | (with_reducible first | exact HB.out | apply Z7 | apply Z4 | apply Z6 | refine Z8 ?_ GE326.out) | exact HB.out)))); have n2_ := Aside0.mk (Z40 (g := gb326) (o := .cells #[.string t327, .int .i64 t328, .int .i64 t329, .int .i64 t330, .slice Ao16 t331.length co16] 24 (0, 0)) (by (with_reducible repeat (first | refine Z0 ?_ _ | refine Z3 ?_ | refine Z1 ?_ _)); refine Z9 (cs := #[.string t327, .int .i64 t328, .int .i64 t329, .int .i64 t330, .slice A0_4 l0_4.length c0_4]) ?_ 4 _ rfl; (with_reducible repeat (first | refine Z0 ?_ _ | refine Z3 ?_ | refine Z1 ?_ _)); refine Z9 (cs := #[.string t327, .int .i64 t328, .int .i64 t329, .int .i64 a0_3, .slice A0_4 l0_4.length c0_4]) ?_ 3 _ rfl; (with_reducible repeat (first | refine Z0 ?_ _ | refine Z3 ?_ | refine Z1 ?_ _)); refine Z9 (cs := #[.string t327, .int .i64 t328, .int .i64 a0_2, .int .i64 a0_3, .slice A0_4 l0_4.length c0_4]) ?_ 2 _ rfl; (with_reducible repeat (first | refine Z0 ?_ _ | refine Z3 ?_ | refine Z1 ?_ _)); refine Z9 (cs := #[.string t327, .int .i64 a0_1, .int .i64 a0_2, .int .i64 a0_3, .slice A0_4 l0_4.length c0_4]) ?_ 1 _ rfl; (with_reducible repeat (first | refine Z0 ?_ _ | refine Z3 ?_ | refine Z1 ?_ _)); refine Z9 (cs := #[.string a0_0, .int .i64 a0_1, .int .i64 a0_2, .int .i64 a0_3, .slice A0_4 l0_4.length c0_4]) ?_ 0 _ rfl; (with_reducible repeat (first | refine Z0 ?_ _ | refine Z3 ?_ | refine Z1 ?_ _)); exact BK326.out) hb); have n3_ := Aside0.mk (Z25 (by repeat (first | (with_reducible first | exact HB.out | apply Z7 | apply Z4 | apply Z6 | refine Z8 ?_ GE326.out) | exact HB.out)) hb); clear HO333; clear BK326; clear HB; have HO333 := n0_; have HO336 := n1_; have BK326 := n2_; have HB := n3_; clear n0_ n1_ n2_ n3_; (try clear hb); (try clear hb2); (try clear hk); (try clear hi); (try clear ho0); have hcz18_0 : w17.cell? ⟨gb326, 0, none⟩ = some (.string t327) := (Z5 BK326.out 0).trans rfl; have hcz18_1 : w17.cell? ⟨gb326, 1, none⟩ = some (.int .i64 t328) := (Z5 BK326.out 1).trans rfl; have hcz18_2 : w17.cell? ⟨gb326, 2, none⟩ = some (.int .i64 t329) := (Z5 BK326.out 2).trans rfl; have hcz18_3 : w17.cell? ⟨gb326, 3, none⟩ = some (.int .i64 t330) := (Z5 BK326.out 3).trans rfl; have hcz18_4 : w17.cell? ⟨gb326, 4, none⟩ = some (.slice Ao16 t331.length co16) := (Z5 BK326.out 4).trans rfl; have hfz18_0 := Z2 BK326.out 0; have hfz18_1 := Z2 BK326.out 1; have hfz18_2 := Z2 BK326.out 2; have hfz18_3 := Z2 BK326.out 3; have hfz18_4 := Z2 BK326.out 4) | ((with_reducible refine Z14 (f := 11) rfl ?_); refine goesL_ (some 14) rfl rfl Try.func11 (by kernel_rfl) rfl #[.agg #[.string t327, .int .i64 t328, .int .i64 t329, .int .i64 t330, .slice Ao16 t331.length co16]] rfl (by (try simp only [List.map_toArray, List.map_cons, List.map_nil]); first | done | rfl | (simp only [List.length_drop, List.length_take]; rfl)) ?_; (with_reducible refine (cruciblelaw17_May.calls k t327 t328 t329 t330 _ _ t331 true _ ?side1 ?side2 A4.out).mono ?_); (case side1 => repeat (first | exact (Kd.N_reads' HO333.out).2.2 | (with_reducible refine Kd.C_alloc ?_ _) | (with_reducible refine Kd.C_drewN ?_ _) | (with_reducible refine Kd.C_drew ?_))); (case side2 => exact (Kd.N_reads' HO333.out).2.1); rintro e w19 ⟨rfl, hb⟩; refine ⟨_, rfl, ?_⟩; have n0_ := Aside0.mk (Kd.N_below (by (with_reducible repeat (first | apply Kd.N_alloc | apply Kd.N_drewN | apply Kd.N_drew)); exact HO333.out) hb); have n1_ := Aside0.mk (Kd.R_below (by (with_reducible repeat (first | apply Kd.R_alloc | apply Kd.R_drewN | apply Kd.R_drew)); exact HO336.out) hb); have n2_ := Aside0.mk (Z40 (g := gb326) (o := .cells #[.string t327, .int .i64 t328, .int .i64 t329, .int .i64 t330, .slice Ao16 t331.length co16] 24 (0, 0)) (by (with_reducible repeat (first | refine Z0 ?_ _ | refine Z3 ?_ | refine Z1 ?_ _)); exact BK326.out) hb); have n3_ := Aside0.mk (Z25 (by repeat (first | (with_reducible first | exact HB.out | apply Z7 | apply Z4 | apply Z6 | refine Z8 ?_ GE326.out) | exact HB.out)) hb); clear HO333; clear HO336; clear BK326; clear HB; have HO333 := n0_; have HO336 := n1_; have BK326 := n2_; have HB := n3_; clear n0_ n1_ n2_ n3_; (try clear hb); (try clear hb2); (try clear hk); (try clear hi); have hcz20_0 : w19.cell? ⟨gb326, 0, none⟩ = some (.string t327) := (Z5 BK326.out 0).trans rfl; have hcz20_1 : w19.cell? ⟨gb326, 1, none⟩ = some (.int .i64 t328) := (Z5 BK326.out 1).trans rfl; have hcz20_2 : w19.cell? ⟨gb326, 2, none⟩ = some (.int .i64 t329) := (Z5 BK326.out 2).trans rfl; have hcz20_3 : w19.cell? ⟨gb326, 3, none⟩ = some (.int .i64 t330) := (Z5 BK326.out 3).trans rfl; have hcz20_4 : w19.cell? ⟨gb326, 4, none⟩ = some (.slice Ao16 t331.length co16) := (Z5 BK326.out 4).trans rfl; have hfz20_0 := Z2 BK326.out 0; have hfz20_1 := Z2 BK326.out 1; have hfz20_2 := Z2 BK326.out 2; have hfz20_3 := Z2 BK326.out 3; have hfz20_4 := Z2 BK326.out 4) | ((with_reducible refine Z14 (f := 14) rfl ?_); refine goesL_ (some 19) rfl rfl Try.func14 (by kernel_rfl) rfl #[.agg #[.string t327, .int .i64 t328, .int .i64 t329, .int .i64 t330, .slice Ao16 t331.length co16]] rfl (by (try simp only [List.map_toArray, List.map_cons, List.map_nil]); first | done | rfl | (simp only [List.length_drop, List.length_take]; rfl)) ?_; (with_reducible refine (crucibleref17_Postorder.calls k t327 t328 t329 t330 _ _ t331 t339 _ ?side1 ?side2 A6.out).mono ?_); (case side1 => repeat (first | exact (Kd.N_reads' HO333.out).2.2 | (with_reducible refine Kd.C_alloc ?_ _) | (with_reducible refine Kd.C_drewN ?_ _) | (with_reducible refine Kd.C_drew ?_))); (case side2 => exact (Kd.N_reads' HO333.out).2.1); rintro e w21 ⟨v340, rfl, ho0, hb⟩; refine ⟨_, rfl, ?_⟩; have n0_ := Aside0.mk (Kd.N_elder' (by (with_reducible repeat (first | apply Kd.N_alloc | apply Kd.N_drewN | apply Kd.N_drew)); exact HO333.out) (Kd.R_base ho0) hb); have n1_ := Aside0.mk (Kd.R_elder' (by (with_reducible repeat (first | apply Kd.R_alloc | apply Kd.R_drewN | apply Kd.R_drew)); exact HO336.out) (Kd.R_base ho0) hb); have n2_ := Aside0.mk (Kd.R_lower (Kd.R_new' ho0 (Kd.R_lt (by (with_reducible repeat (first | apply Kd.R_alloc | apply Kd.R_drewN | apply Kd.R_drew)); exact HO336.out))) (Z27 (by repeat (first | (with_reducible first | exact HB.out | apply Z7 | apply Z4 | apply Z6 | refine Z8 ?_ GE326.out) | exact HB.out)))); have n3_ := Aside0.mk (Z40 (g := gb326) (o := .cells #[.string t327, .int .i64 t328, .int .i64 t329, .int .i64 t330, .slice Ao16 t331.length co16] 24 (0, 0)) (by (with_reducible repeat (first | refine Z0 ?_ _ | refine Z3 ?_ | refine Z1 ?_ _)); exact BK326.out) hb); have n4_ := Aside0.mk (Z25 (by repeat (first | (with_reducible first | exact HB.out | apply Z7 | apply Z4 | apply Z6 | refine Z8 ?_ GE326.out) | exact HB.out)) hb); clear HO333; clear HO336; clear BK326; clear HB; have HO333 := n0_; have HO336 := n1_; have HO341 := n2_; have BK326 := n3_; have HB := n4_; clear n0_ n1_ n2_ n3_ n4_; (try clear hb); (try clear hb2); (try clear hk); (try clear hi); (try clear ho0); obtain ⟨Ao22, co22, eo22⟩ := Kd.R_slice HO336.out; subst eo22; obtain ⟨Ao23, co23, eo23⟩ := Kd.R_slice HO341.out; subst eo23) | ((with_reducible refine Z14 (f := 13) rfl ?_); refine goesL_ (some 20) rfl rfl Try.func13 (by kernel_rfl) rfl #[.slice Ao22 t334.length co22, .slice Ao23 t339.length co23] rfl (by (try simp only [List.map_toArray, List.map_cons, List.map_nil]); first | done | rfl | (simp only [List.length_drop, List.length_take]; rfl)) ?_; (with_reducible refine (crucibleref14_SameInts.calls k _ _ t334 _ _ t339 true _ ?side1 ?side2 ?side3 ?side4 A7.out).mono ?_); (case side1 => repeat (first | exact (Kd.R_reads' HO336.out).2.2 | (with_reducible refine Kd.C_alloc ?_ _) | (with_reducible refine Kd.C_drewN ?_ _) | (with_reducible refine Kd.C_drew ?_))); (case side2 => exact (Kd.R_reads' HO336.out).2.1); (case side3 => repeat (first | exact (Kd.R_reads' HO341.out).2.2 | (with_reducible refine Kd.C_alloc ?_ _) | (with_reducible refine Kd.C_drewN ?_ _) | (with_reducible refine Kd.C_drew ?_))); (case side4 => exact (Kd.R_reads' HO341.out).2.1); rintro e w' ⟨rfl, ⟨nd, rfl⟩⟩; refine ⟨_, rfl, ?_⟩; have hcz24_0 : w21.cell? ⟨gb326, 0, none⟩ = some (.string t327) := (Z5 BK326.out 0).trans rfl; have hcz24_1 : w21.cell? ⟨gb326, 1, none⟩ = some (.int .i64 t328) := (Z5 BK326.out 1).trans rfl; have hcz24_2 : w21.cell? ⟨gb326, 2, none⟩ = some (.int .i64 t329) := (Z5 BK326.out 2).trans rfl; have hcz24_3 : w21.cell? ⟨gb326, 3, none⟩ = some (.int .i64 t330) := (Z5 BK326.out 3).trans rfl; have hcz24_4 : w21.cell? ⟨gb326, 4, none⟩ = some (.slice Ao16 t331.length co16) := (Z5 BK326.out 4).trans rfl; have hfz24_0 := Z2 BK326.out 0; have hfz24_1 := Z2 BK326.out 1; have hfz24_2 := Z2 BK326.out 2; have hfz24_3 := Z2 BK326.out 3; have hfz24_4 := Z2 BK326.out 4) | ((with_reducible refine Z14 (f := 15) rfl ?_); refine goesL_ (some 23) rfl rfl Try.func15 (by kernel_rfl) rfl #[.agg #[.string t327, .int .i64 t328, .int .i64 t329, .int .i64 t330, .slice Ao16 t331.length co16]] rfl (by (try simp only [List.map_toArray, List.map_cons, List.map_nil]); first | done | rfl | (simp only [List.length_drop, List.length_take]; rfl)) ?_; (with_reducible refine (order_Doms.calls k t327 t328 t329 t330 _ _ t331 t343 _ ?side1 ?side2 A9.out).mono ?_); (case side1 => repeat (first | exact (Kd.N_reads' HO333.out).2.2 | (with_reducible refine Kd.C_alloc ?_ _) | (with_reducible refine Kd.C_drewN ?_ _) | (with_reducible refine Kd.C_drew ?_))); (case side2 => exact (Kd.N_reads' HO333.out).2.1); rintro e w25 ⟨v344, rfl, ho0, hb⟩; refine ⟨_, rfl, ?_⟩; have n0_ := Aside0.mk (Kd.N_elder' (by (with_reducible repeat (first | apply Kd.N_alloc | apply Kd.N_drewN | apply Kd.N_drew)); exact HO333.out) (Kd.R_base ho0) hb); have n1_ := Aside0.mk (Kd.R_elder' (by (with_reducible repeat (first | apply Kd.R_alloc | apply Kd.R_drewN | apply Kd.R_drew)); exact HO336.out) (Kd.R_base ho0) hb); have n2_ := Aside0.mk (Kd.R_elder' (by (with_reducible repeat (first | apply Kd.R_alloc | apply Kd.R_drewN | apply Kd.R_drew)); exact HO341.out) (Kd.R_base ho0) hb); have n3_ := Aside0.mk (Kd.R_lower (Kd.R_new' (Kd.R_new' ho0 (Kd.R_lt (by (with_reducible repeat (first | apply Kd.R_alloc | apply Kd.R_drewN | apply Kd.R_drew)); exact HO336.out))) (Kd.R_lt (by (with_reducible repeat (first | apply Kd.R_alloc | apply Kd.R_drewN | apply Kd.R_drew)); exact HO341.out))) (Z27 (by repeat (first | (with_reducible first | exact HB.out | apply Z7 | apply Z4 | apply Z6 | refine Z8 ?_ GE326.out) | exact HB.out)))); have n4_ := Aside0.mk (Z40 (g := gb326) (o := .cells #[.string t327, .int .i64 t328, .int .i64 t329, .int .i64 t330, .slice Ao16 t331.length co16] 24 (0, 0)) (by (with_reducible repeat (first | refine Z0 ?_ _ | refine Z3 ?_ | refine Z1 ?_ _)); exact BK326.out) hb); have n5_ := Aside0.mk (Z25 (by repeat (first | (with_reducible first | exact HB.out | apply Z7 | apply Z4 | apply Z6 | refine Z8 ?_ GE326.out) | exact HB.out)) hb); clear HO333; clear HO336; clear HO341; clear BK326; clear HB; have HO333 := n0_; have HO336 := n1_; have HO341 := n2_; have HO345 := n3_; have BK326 := n4_; have HB := n5_; clear n0_ n1_ n2_ n3_ n4_ n5_; (try clear hb); (try clear hb2); (try clear hk); (try clear hi); (try clear ho0); have hcz26_0 : w25.cell? ⟨gb326, 0, none⟩ = some (.string t327) := (Z5 BK326.out 0).trans rfl; have hcz26_1 : w25.cell? ⟨gb326, 1, none⟩ = some (.int .i64 t328) := (Z5 BK326.out 1).trans rfl; have hcz26_2 : w25.cell? ⟨gb326, 2, none⟩ = some (.int .i64 t329) := (Z5 BK326.out 2).trans rfl; have hcz26_3 : w25.cell? ⟨gb326, 3, none⟩ = some (.int .i64 t330) := (Z5 BK326.out 3).trans rfl; have hcz26_4 : w25.cell? ⟨gb326, 4, none⟩ = some (.slice Ao16 t331.length co16) := (Z5 BK326.out 4).trans rfl; have hfz26_0 := Z2 BK326.out 0; have hfz26_1 := Z2 BK326.out 1; have hfz26_2 := Z2 BK326.out 2; have hfz26_3 := Z2 BK326.out 3; have hfz26_4 := Z2 BK326.out 4) | ((with_reducible refine Z52 (N := 27) rfl ?_); refine Kd.R_make (Kd.int .i64) _ 3 rfl (N := 27) rfl 26 _ _ rfl (t331.length : Int) rfl rfl Try.underlying26 (.int .i64 0) 8 info3 rfl (by decide) (by omega) 0 (ok := fun _ => True) (okp := fun _ => True) rfl (fun _ hk => hk) trivial (of_decide_eq_true (by first | (with_reducible assumption) | assumption)) (Nat.le_trans (Nat.mul_le_mul_right _ (of_decide_eq_true (by first | (with_reducible assumption) | assumption) : (t331.length : Int).toNat ≤ 35184372088832)) (by omega)) (Below.refl _ _) (Nat.le_refl _) ?_; intro v347 w27 ho28 hb hg_ hnew_; clear hg_ hnew_; (first | rw [← Ny346.out] at ho28 | (simp only [Int.reduceToNat] at ho28; rw [← Ny346.out] at ho28)); have n0_ := Aside0.mk (Kd.N_elder' (by (with_reducible repeat (first | apply Kd.N_alloc | apply Kd.N_drewN | apply Kd.N_drew)); exact HO333.out) (Kd.R_base ho28) hb); have n1_ := Aside0.mk (Kd.R_elder' (by (with_reducible repeat (first | apply Kd.R_alloc | apply Kd.R_drewN | apply Kd.R_drew)); exact HO336.out) (Kd.R_base ho28) hb); have n2_ := Aside0.mk (Kd.R_elder' (by (with_reducible repeat (first | apply Kd.R_alloc | apply Kd.R_drewN | apply Kd.R_drew)); exact HO341.out) (Kd.R_base ho28) hb); have n3_ := Aside0.mk (Kd.R_elder' (by (with_reducible repeat (first | apply Kd.R_alloc | apply Kd.R_drewN | apply Kd.R_drew)); exact HO345.out) (Kd.R_base ho28) hb); have n4_ := Aside0.mk (Kd.R_lower (Kd.R_new' (Kd.R_new' (Kd.R_new' ho28 (Kd.R_lt (by (with_reducible repeat (first | apply Kd.R_alloc | apply Kd.R_drewN | apply Kd.R_drew)); exact HO336.out))) (Kd.R_lt (by (with_reducible repeat (first | apply Kd.R_alloc | apply Kd.R_drewN | apply Kd.R_drew)); exact HO341.out))) (Kd.R_lt (by (with_reducible repeat (first | apply Kd.R_alloc | apply Kd.R_drewN | apply Kd.R_drew)); exact HO345.out))) (Z27 (by repeat (first | (with_reducible first | exact HB.out | apply Z7 | apply Z4 | apply Z6 | refine Z8 ?_ GE326.out) | exact HB.out)))); have n5_ := Aside0.mk (Z40 (g := gb326) (o := .cells #[.string t327, .int .i64 t328, .int .i64 t329, .int .i64 t330, .slice Ao16 t331.length co16] 24 (0, 0)) (by (with_reducible repeat (first | refine Z0 ?_ _ | refine Z3 ?_ | refine Z1 ?_ _)); exact BK326.out) hb); have n6_ := Aside0.mk (Z25 (by repeat (first | (with_reducible first | exact HB.out | apply Z7 | apply Z4 | apply Z6 | refine Z8 ?_ GE326.out) | exact HB.out)) hb); clear HO333; clear HO336; clear HO341; clear HO345; clear BK326; clear HB; have HO333 := n0_; have HO336 := n1_; have HO341 := n2_; have HO345 := n3_; have HO348 := n4_; have BK326 := n5_; have HB := n6_; clear n0_ n1_ n2_ n3_ n4_ n5_ n6_; clear hb ho28))
         go_loopg [6] k (fun kq v6 w' => ∃ (x5_1 : List Int) (x6_1 : Int), v6 = .int .i64 x6_1 ∧ Aside0 (cruciblelaw17_OrderWalks.l0 kq t334 t343 x5_1 x6_1 = some r) ∧ Aside0 (kq ≤ k) ∧ Aside0 (Kd.R (Kd.int .i64) 3 w' w.heap.size (fun k_ => some k_ ≠ (v344 : Value).ownBlock ∧ some k_ ≠ (v347 : Value).ownBlock) (.slice Ao22 t334.length co22) t334) ∧ Aside0 (Kd.R (Kd.int .i64) 3 w' w.heap.size (fun k_ => some k_ ≠ ((.slice Ao22 t334.length co22) : Value).ownBlock ∧ some k_ ≠ (v347 : Value).ownBlock) v344 t343) ∧ Aside0 (Kd.R (Kd.int .i64) 3 w' w.heap.size (fun k_ => some k_ ≠ ((.slice Ao22 t334.length co22) : Value).ownBlock ∧ some k_ ≠ (v344 : Value).ownBlock) v347 x5_1) ∧ Aside0 (Kd.N k45 45 w' w.heap.size (fun k_ => some k_ ≠ ((.slice Ao22 t334.length co22) : Value).ownBlock ∧ some k_ ≠ (v344 : Value).ownBlock ∧ some k_ ≠ (v347 : Value).ownBlock ∧ k_ ≠ gb326) (.slice Ao16 t331.length co16) t331) ∧ Aside0 (w'.heap[gb326]? = some (.cells #[.string t327, .int .i64 t328, .int .i64 t329, .int .i64 t330, (.slice Ao16 t331.length co16)] 24 (0, 0))) ∧ Aside0 (Below w.heap.size w w'))
         case atStart => exact ⟨(y346), (0), (by first | rfl | (simp; done) | (simp [*]; done)), H', ⟨Nat.le_refl _⟩, ⟨by (with_reducible repeat (first | apply Kd.R_alloc | apply Kd.R_drewN | apply Kd.R_drew)); exact Kd.R_mono HO336.out (fun _ hk => ⟨hk.1.2, hk.2⟩)⟩, ⟨by (with_reducible repeat (first | apply Kd.R_alloc | apply Kd.R_drewN | apply Kd.R_drew)); exact Kd.R_mono HO345.out (fun _ hk => ⟨hk.1.1.2, hk.2⟩)⟩, ⟨by (with_reducible repeat (first | apply Kd.R_alloc | apply Kd.R_drewN | apply Kd.R_drew)); exact Kd.R_mono HO348.out (fun _ hk => ⟨hk.1.1.2, hk.2⟩)⟩, ⟨by (with_reducible repeat (first | apply Kd.N_alloc | apply Kd.N_drewN | apply Kd.N_drew)); exact Kd.N_mono HO333.out (fun _ hk => ⟨hk.1.1.1.2, ⟨hk.1.2, ⟨hk.2, hk.1.1.1.1⟩⟩⟩)⟩, ⟨by (with_reducible repeat (first | refine Z0 ?_ _ | refine Z3 ?_ | refine Z1 ?_ _)); exact BK326.out⟩, ⟨by repeat (first | (with_reducible first | exact HB.out | apply Z7 | apply Z4 | apply Z6 | refine Z8 ?_ GE326.out) | exact HB.out)⟩⟩
         case round =>
          clear H'
          try clear c5
          try clear c8
          try clear c10
          try clear c10b0
          try clear c10b1
          try clear c11
          try clear c11b0
          try clear c11b1
          try clear hcz13_0
          try clear hcz13_1
          try clear hcz13_2
          try clear hcz13_3
          try clear hcz13_4
          try clear hcz15_0
          try clear hcz15_1
          try clear hcz15_2
          try clear hcz15_3
          try clear hcz15_4
          try clear hcz18_0
          try clear hcz18_1
          try clear hcz18_2
          try clear hcz18_3
          try clear hcz18_4
          try clear hcz20_0
          try clear hcz20_1
          try clear hcz20_2
          try clear hcz20_3
          try clear hcz20_4
          try clear hcz24_0
          try clear hcz24_1
          try clear hcz24_2
          try clear hcz24_3
          try clear hcz24_4
          try clear hcz26_0
          try clear hcz26_1
          try clear hcz26_2
          try clear hcz26_3
          try clear hcz26_4
          try clear hfz13_0
          try clear hfz13_1
          try clear hfz13_2
          try clear hfz13_3
          try clear hfz13_4
          try clear hfz15_0
          try clear hfz15_1
          try clear hfz15_2
          try clear hfz15_3
          try clear hfz15_4
          try clear hfz18_0
          try clear hfz18_1
          try clear hfz18_2
          try clear hfz18_3
          try clear hfz18_4
          try clear hfz20_0
          try clear hfz20_1
          try clear hfz20_2
          try clear hfz20_3
          try clear hfz20_4
          try clear hfz24_0
          try clear hfz24_1
          try clear hfz24_2
          try clear hfz24_3
          try clear hfz24_4
          try clear hfz26_0
          try clear hfz26_1
          try clear hfz26_2
          try clear hfz26_3
          try clear hfz26_4
          obtain ⟨x5_1, x6_1, rfl, HA, HK1, HO_3, HO_4, HO_5, HO_327004, BK326, HB⟩ := hrel
          cases gk with
          | zero => exact absurd HA.out (by simp [cruciblelaw17_OrderWalks.l0])
          | succ k1 =>
           have H := HA.out
           clear HA
           simp only [cruciblelaw17_OrderWalks.l0] at H
           by_cases c29 : x6_1 < (t334.length : Int)
           · rw [if_pos c29] at H
             have c29b0 : decide (x6_1 < (t334.length : Int)) = true := decide_eq_true c29
             clear c29
             by_cases c30 : 0 ≤ x6_1
             · rw [if_pos c30] at H
               have c30b0 : decide (0 ≤ x6_1) = true := decide_eq_true c30
               clear c30
               by_cases c31 : 0 ≤ (rd t334 x6_1)
               · rw [if_pos c31] at H
                 have c31b0 : decide (0 ≤ (rd t334 x6_1)) = true := decide_eq_true c31
                 clear c31
                 by_cases c32 : (rd t334 x6_1) < (x5_1.length : Int)
                 · rw [if_pos c32] at H
                   have c32b0 : decide ((rd t334 x6_1) < (x5_1.length : Int)) = true := decide_eq_true c32
                   clear c32
                   obtain ⟨y350, hy350⟩ : ∃ y_ : List Int, y_ = (x5_1.set ((rd t334 x6_1) : Int).toNat x6_1) := ⟨_, rfl⟩
                   replace H : (cruciblelaw17_OrderWalks.l0 k1 t334 t343 y350 (wrap64 (x6_1 + 1))) = some r := by first | (rw [hy350]; with_reducible exact H) | (have H2_ := (Option.bind_some _ _).symm.trans H; rw [hy350]; with_reducible exact H2_) | (have H2_ := (Option.bind_some _ _).symm.trans H; with_reducible exact H2_) | with_reducible exact H | (rw [hy350]; exact H) | exact H
                   have Ny350 := Aside0.mk hy350
                   clear hy350
                   have H' := Aside0.mk H
                   clear H
                   have p349 : 0 ≤ (x6_1 : Int) := of_decide_eq_true (by first | (with_reducible assumption) | assumption)
                   have q349 : x6_1 < (t334.length : Int) := of_decide_eq_true (by first | (with_reducible assumption) | assumption)
                   obtain ⟨ad349, e349, hx349_0⟩ := Kd.at_int (Kd.R_reads' HO_3.out).2.2 x6_1 p349 q349
                   cases e349
                   replace p349 := eq_true p349
                   replace q349 := eq_true q349
                   have p33 : 0 ≤ ((rd t334 x6_1) : Int) := of_decide_eq_true (by first | (with_reducible assumption) | assumption)
                   have q33 : ((rd t334 x6_1) : Int) < ((x5_1.length : Int) : Int) := of_decide_eq_true (by first | (with_reducible assumption) | assumption)
                   obtain ⟨go33, co33, eo33, gb33, gl33, cl33, HG33⟩ := Kd.R_form HO_5.out (by omega)
                   (first | cases eo33 | (injection eo33 with ea_ en_ ec_; (first | subst ea_ | (injection ea_ with ea_; subst ea_)); subst ec_; clear en_))
                   have GB33 := Aside0.mk gb33
                   have GG33 := Aside0.mk HG33
                   clear gb33 gl33 HG33
                   obtain ⟨hx33_0, hf33_0⟩ := Kd.R_celln 0 HO_5.out ((rd t334 x6_1) : Int) p33 q33
                   replace p33 := eq_true p33
                   replace q33 := eq_true q33
                   have HP34 := Kd.R_putg HO_5.out ((rd t334 x6_1) : Int) x6_1
                   go_wp2_with (first | ((with_reducible refine gate_store (t := 3) (p := 40) rfl ?_); refine store_event (t := 3) (p := 40) (v := ?vo_w35) (w1 := (wr.setCell ⟨go33, ((rd t334 x6_1) : Int).toNat, none⟩ (.int .i64 x6_1))) ?hg ?ho ?hn ?hr ?_; (case ho => rfl); (case hg => rfl); (case hn => rfl); (case hr => first | (go_simp; done) | (go_simp; rfl)); intro w35 hw; have hg : wr.grownBy w35 (some go33) := (by rw [hw]; exact HP34.2); have hp_ : Kd.R (Kd.int .i64) 3 w35 w.heap.size (fun k_ => some k_ ≠ (.slice (some ad349) t334.length co22 : Value).ownBlock ∧ some k_ ≠ (v344 : Value).ownBlock) (.slice (some ⟨go33, 0, none⟩) x5_1.length co33) y350 := (by rw [hw, Ny350.out]; exact HP34.1); clear HP34; have n0_ := Aside0.mk (Kd.R_after (v := (.slice (some ⟨go33, 0, none⟩) x5_1.length co33)) (v1 := (.slice (some ⟨go33, 0, none⟩) x5_1.length co33)) (ok := (fun k_ => some k_ ≠ (v344 : Value).ownBlock)) (by (with_reducible repeat (first | apply Kd.R_alloc | apply Kd.R_drewN | apply Kd.R_drew)); exact HO_3.out) hg (.inl rfl)); have n1_ := Aside0.mk (Kd.R_after (v := (.slice (some ⟨go33, 0, none⟩) x5_1.length co33)) (v1 := (.slice (some ⟨go33, 0, none⟩) x5_1.length co33)) (ok := (fun k_ => some k_ ≠ (.slice (some ad349) t334.length co22 : Value).ownBlock)) (by (with_reducible repeat (first | apply Kd.R_alloc | apply Kd.R_drewN | apply Kd.R_drew)); exact HO_4.out) hg (.inl rfl)); have n2_ := Aside0.mk (hp_); have n3_ := Aside0.mk (Kd.N_afterv (v := (.slice (some ⟨go33, 0, none⟩) x5_1.length co33)) (v1 := (.slice (some ⟨go33, 0, none⟩) x5_1.length co33)) (ok := (fun k_ => some k_ ≠ (.slice (some ad349) t334.length co22 : Value).ownBlock ∧ some k_ ≠ (v344 : Value).ownBlock ∧ k_ ≠ gb326)) (by (with_reducible repeat (first | apply Kd.N_alloc | apply Kd.N_drewN | apply Kd.N_drew)); exact Kd.N_mono HO_327004.out (fun _ hk => ⟨⟨hk.1, ⟨hk.2.1, hk.2.2.2⟩⟩, hk.2.2.1⟩)) hg (.inl rfl)); have n4_ := Aside0.mk (Z89 (g := gb326) (o := .cells #[.string t327, .int .i64 t328, .int .i64 t329, .int .i64 t330, .slice Ao16 t331.length co16] 24 (0, 0)) (by (with_reducible repeat (first | refine Z0 ?_ _ | refine Z3 ?_ | refine Z1 ?_ _)); exact BK326.out) hg (Kd.R_ne HO_5.out BK326.out (by decide))); have n5_ := Aside0.mk ((by rw [hw]; exact Z8 (HB.out) GB33.out : Below w.heap.size w w35)); clear HO_3; clear HO_4; clear HO_5; clear HO_327004; clear BK326; clear HB; have HO_3 := n0_; have HO_4 := n1_; have HO_5 := n2_; have HO_327004 := n3_; have BK326 := n4_; have HB := n5_; clear n0_ n1_ n2_ n3_ n4_ n5_; clear hg hw hp_))
                   go_roundg k1
                   case measure => have := HK1.out; omega
                   case rel => exact ⟨(y350), (wrap64 (x6_1 + 1)), (by first | rfl | (simp; done) | (simp [*]; done)), H', ⟨by have := HK1.out; omega⟩, ⟨by (with_reducible repeat (first | apply Kd.R_alloc | apply Kd.R_drewN | apply Kd.R_drew)); exact HO_3.out⟩, ⟨by (with_reducible repeat (first | apply Kd.R_alloc | apply Kd.R_drewN | apply Kd.R_drew)); exact HO_4.out⟩, ⟨by (with_reducible repeat (first | apply Kd.R_alloc | apply Kd.R_drewN | apply Kd.R_drew)); exact HO_5.out⟩, ⟨by (with_reducible repeat (first | apply Kd.N_alloc | apply Kd.N_drewN | apply Kd.N_drew)); exact Kd.N_mono HO_327004.out (fun _ hk => ⟨hk.1.1, ⟨hk.1.2.1, ⟨hk.2, hk.1.2.2⟩⟩⟩)⟩, ⟨by (with_reducible repeat (first | refine Z0 ?_ _ | refine Z3 ?_ | refine Z1 ?_ _)); exact BK326.out⟩, ⟨by repeat (first | (with_reducible first | exact HB.out | apply Z7 | apply Z4 | apply Z6 | refine Z8 ?_ GE326.out) | exact HB.out)⟩⟩
                 · rw [if_neg c32] at H
                   exact absurd H (by simp)
               · rw [if_neg c31] at H
                 exact absurd H (by simp)
             · rw [if_neg c30] at H
               exact absurd H (by simp)
           · rw [if_neg c29] at H
             have c29b0 : decide (x6_1 < (t334.length : Int)) = false := decide_eq_false c29
             clear c29
             have H' := Aside0.mk H
             clear H
             go_wp2
             go_loopg [7] k1 (fun kq v7 w' => ∃ (x7_2 : Int), v7 = .int .i64 x7_2 ∧ Aside0 (cruciblelaw17_OrderWalks.l1 kq t334 t343 x5_1 x7_2 = some r) ∧ Aside0 (kq ≤ k1) ∧ Aside0 (Kd.R (Kd.int .i64) 3 w' w.heap.size (fun k_ => some k_ ≠ (v344 : Value).ownBlock ∧ some k_ ≠ (v347 : Value).ownBlock) (.slice Ao22 t334.length co22) t334) ∧ Aside0 (Kd.R (Kd.int .i64) 3 w' w.heap.size (fun k_ => some k_ ≠ ((.slice Ao22 t334.length co22) : Value).ownBlock ∧ some k_ ≠ (v347 : Value).ownBlock) v344 t343) ∧ Aside0 (Kd.R (Kd.int .i64) 3 w' w.heap.size (fun k_ => some k_ ≠ ((.slice Ao22 t334.length co22) : Value).ownBlock ∧ some k_ ≠ (v344 : Value).ownBlock) v347 x5_1) ∧ Aside0 (Kd.N k45 45 w' w.heap.size (fun k_ => some k_ ≠ ((.slice Ao22 t334.length co22) : Value).ownBlock ∧ some k_ ≠ (v344 : Value).ownBlock ∧ some k_ ≠ (v347 : Value).ownBlock ∧ k_ ≠ gb326) (.slice Ao16 t331.length co16) t331) ∧ Aside0 (w'.heap[gb326]? = some (.cells #[.string t327, .int .i64 t328, .int .i64 t329, .int .i64 t330, (.slice Ao16 t331.length co16)] 24 (0, 0))) ∧ Aside0 (Below w.heap.size w w'))
             case atStart => exact ⟨(0), (by first | rfl | (simp; done) | (simp [*]; done)), H', ⟨Nat.le_refl _⟩, ⟨by (with_reducible repeat (first | apply Kd.R_alloc | apply Kd.R_drewN | apply Kd.R_drew)); exact HO_3.out⟩, ⟨by (with_reducible repeat (first | apply Kd.R_alloc | apply Kd.R_drewN | apply Kd.R_drew)); exact HO_4.out⟩, ⟨by (with_reducible repeat (first | apply Kd.R_alloc | apply Kd.R_drewN | apply Kd.R_drew)); exact HO_5.out⟩, ⟨by (with_reducible repeat (first | apply Kd.N_alloc | apply Kd.N_drewN | apply Kd.N_drew)); exact HO_327004.out⟩, ⟨by (with_reducible repeat (first | refine Z0 ?_ _ | refine Z3 ?_ | refine Z1 ?_ _)); exact BK326.out⟩, ⟨by repeat (first | (with_reducible first | exact HB.out | apply Z7 | apply Z4 | apply Z6 | refine Z8 ?_ GE326.out) | exact HB.out)⟩⟩
             case round =>
              clear H'
              try clear c5
              try clear c8
              try clear c10
              try clear c10b0
              try clear c10b1
              try clear c11
              try clear c11b0
              try clear c11b1
              try clear c29
              try clear c29b0
              try clear hcz13_0
              try clear hcz13_1
              try clear hcz13_2
              try clear hcz13_3
              try clear hcz13_4
              try clear hcz15_0
              try clear hcz15_1
              try clear hcz15_2
              try clear hcz15_3
              try clear hcz15_4
              try clear hcz18_0
              try clear hcz18_1
              try clear hcz18_2
              try clear hcz18_3
              try clear hcz18_4
              try clear hcz20_0
              try clear hcz20_1
              try clear hcz20_2
              try clear hcz20_3
              try clear hcz20_4
              try clear hcz24_0
              try clear hcz24_1
              try clear hcz24_2
              try clear hcz24_3
              try clear hcz24_4
              try clear hcz26_0
              try clear hcz26_1
              try clear hcz26_2
              try clear hcz26_3
              try clear hcz26_4
              try clear hfz13_0
              try clear hfz13_1
              try clear hfz13_2
              try clear hfz13_3
              try clear hfz13_4
              try clear hfz15_0
              try clear hfz15_1
              try clear hfz15_2
              try clear hfz15_3
              try clear hfz15_4
              try clear hfz18_0
              try clear hfz18_1
              try clear hfz18_2
              try clear hfz18_3
              try clear hfz18_4
              try clear hfz20_0
              try clear hfz20_1
              try clear hfz20_2
              try clear hfz20_3
              try clear hfz20_4
              try clear hfz24_0
              try clear hfz24_1
              try clear hfz24_2
              try clear hfz24_3
              try clear hfz24_4
              try clear hfz26_0
              try clear hfz26_1
              try clear hfz26_2
              try clear hfz26_3
              try clear hfz26_4
              obtain ⟨x7_2, rfl, HA, HK2, HO_3, HO_4, HO_5, HO_327004, BK326, HB⟩ := hrel
              cases gk with
              | zero => exact absurd HA.out (by simp [cruciblelaw17_OrderWalks.l1])
              | succ k2 =>
               have H := HA.out
               clear HA
               simp only [cruciblelaw17_OrderWalks.l1] at H
               by_cases c36 : x7_2 < (t334.length : Int)
               · rw [if_pos c36] at H
                 have c36b0 : decide (x7_2 < (t334.length : Int)) = true := decide_eq_true c36
                 clear c36
                 by_cases c37 : 0 ≤ x7_2
                 · rw [if_pos c37] at H
                   have c37b0 : decide (0 ≤ x7_2) = true := decide_eq_true c37
                   clear c37
                   by_cases c38 : 0 ≤ (rd t334 x7_2)
                   · rw [if_pos c38] at H
                     have c38b0 : decide (0 ≤ (rd t334 x7_2)) = true := decide_eq_true c38
                     clear c38
                     by_cases c39 : (rd t334 x7_2) < (t343.length : Int)
                     · rw [if_pos c39] at H
                       have c39b0 : decide ((rd t334 x7_2) < (t343.length : Int)) = true := decide_eq_true c39
                       clear c39
                       by_cases c40 : (rd t343 (rd t334 x7_2)) ≥ 0
                       · rw [if_pos c40] at H
                         have c40b0 : decide (0 ≤ (rd t343 (rd t334 x7_2))) = true := decide_eq_true c40
                         clear c40
                         by_cases c41 : 0 ≤ (rd t343 (rd t334 x7_2))
                         · rw [if_pos c41] at H
                           have c41b0 : decide (0 ≤ (rd t343 (rd t334 x7_2))) = true := decide_eq_true c41
                           clear c41
                           by_cases c42 : (rd t343 (rd t334 x7_2)) < (x5_1.length : Int)
                           · rw [if_pos c42] at H
                             have c42b0 : decide ((rd t343 (rd t334 x7_2)) < (x5_1.length : Int)) = true := decide_eq_true c42
                             clear c42
                             by_cases c43 : (rd x5_1 (rd t343 (rd t334 x7_2))) ≤ x7_2
                             · rw [if_pos c43] at H
                               have c43b0 : decide ((rd x5_1 (rd t343 (rd t334 x7_2))) ≤ x7_2) = true := decide_eq_true c43
                               clear c43
                               obtain rfl := Option.some.inj H
                               have p351 : 0 ≤ (x7_2 : Int) := of_decide_eq_true (by first | (with_reducible assumption) | assumption)
                               have q351 : x7_2 < (t334.length : Int) := of_decide_eq_true (by first | (with_reducible assumption) | assumption)
                               obtain ⟨ad351, e351, hx351_0⟩ := Kd.at_int (Kd.R_reads' HO_3.out).2.2 x7_2 p351 q351
                               cases e351
                               replace p351 := eq_true p351
                               replace q351 := eq_true q351
                               obtain ⟨Ao44, co44, eo44⟩ := Kd.R_slice HO_4.out
                               subst eo44
                               have p352 : 0 ≤ ((rd t334 x7_2) : Int) := of_decide_eq_true (by first | (with_reducible assumption) | assumption)
                               have q352 : (rd t334 x7_2) < (t343.length : Int) := of_decide_eq_true (by first | (with_reducible assumption) | assumption)
                               obtain ⟨ad352, e352, hx352_0⟩ := Kd.at_int (Kd.R_reads' HO_4.out).2.2 (rd t334 x7_2) p352 q352
                               cases e352
                               replace p352 := eq_true p352
                               replace q352 := eq_true q352
                               obtain ⟨Ao45, co45, eo45⟩ := Kd.R_slice HO_5.out
                               subst eo45
                               have p353 : 0 ≤ ((rd t343 (rd t334 x7_2)) : Int) := of_decide_eq_true (by first | (with_reducible assumption) | assumption)
                               have q353 : (rd t343 (rd t334 x7_2)) < (x5_1.length : Int) := of_decide_eq_true (by first | (with_reducible assumption) | assumption)
                               obtain ⟨ad353, e353, hx353_0⟩ := Kd.at_int (Kd.R_reads' HO_5.out).2.2 (rd t343 (rd t334 x7_2)) p353 q353
                               cases e353
                               replace p353 := eq_true p353
                               replace q353 := eq_true q353
                               go_wp2
                               go_ret
                               exact ⟨by first | rfl | (simp [Z16, Z15] <;> rfl) | (simp [*, Z16, Z15] <;> rfl), by repeat (first | (with_reducible first | exact HB.out | apply Z7 | apply Z4 | apply Z6 | refine Z8 ?_ GE326.out) | exact HB.out)⟩
                             · rw [if_neg c43] at H
                               have c43b0 : decide ((rd x5_1 (rd t343 (rd t334 x7_2))) ≤ x7_2) = false := decide_eq_false c43
                               clear c43
                               have H' := Aside0.mk H
                               clear H
                               have p351 : 0 ≤ (x7_2 : Int) := of_decide_eq_true (by first | (with_reducible assumption) | assumption)
                               have q351 : x7_2 < (t334.length : Int) := of_decide_eq_true (by first | (with_reducible assumption) | assumption)
                               obtain ⟨ad351, e351, hx351_0⟩ := Kd.at_int (Kd.R_reads' HO_3.out).2.2 x7_2 p351 q351
                               cases e351
                               replace p351 := eq_true p351
                               replace q351 := eq_true q351
                               obtain ⟨Ao46, co46, eo46⟩ := Kd.R_slice HO_4.out
                               subst eo46
                               have p352 : 0 ≤ ((rd t334 x7_2) : Int) := of_decide_eq_true (by first | (with_reducible assumption) | assumption)
                               have q352 : (rd t334 x7_2) < (t343.length : Int) := of_decide_eq_true (by first | (with_reducible assumption) | assumption)
                               obtain ⟨ad352, e352, hx352_0⟩ := Kd.at_int (Kd.R_reads' HO_4.out).2.2 (rd t334 x7_2) p352 q352
                               cases e352
                               replace p352 := eq_true p352
                               replace q352 := eq_true q352
                               obtain ⟨Ao47, co47, eo47⟩ := Kd.R_slice HO_5.out
                               subst eo47
                               have p353 : 0 ≤ ((rd t343 (rd t334 x7_2)) : Int) := of_decide_eq_true (by first | (with_reducible assumption) | assumption)
                               have q353 : (rd t343 (rd t334 x7_2)) < (x5_1.length : Int) := of_decide_eq_true (by first | (with_reducible assumption) | assumption)
                               obtain ⟨ad353, e353, hx353_0⟩ := Kd.at_int (Kd.R_reads' HO_5.out).2.2 (rd t343 (rd t334 x7_2)) p353 q353
                               cases e353
                               replace p353 := eq_true p353
                               replace q353 := eq_true q353
                               go_wp2
                               go_roundg k2
                               case measure => have := HK1.out; have := HK2.out; omega
                               case rel => exact ⟨(wrap64 (x7_2 + 1)), (by first | rfl | (simp; done) | (simp [*]; done)), H', ⟨by have := HK1.out; have := HK2.out; omega⟩, ⟨by (with_reducible repeat (first | apply Kd.R_alloc | apply Kd.R_drewN | apply Kd.R_drew)); exact HO_3.out⟩, ⟨by (with_reducible repeat (first | apply Kd.R_alloc | apply Kd.R_drewN | apply Kd.R_drew)); exact HO_4.out⟩, ⟨by (with_reducible repeat (first | apply Kd.R_alloc | apply Kd.R_drewN | apply Kd.R_drew)); exact HO_5.out⟩, ⟨by (with_reducible repeat (first | apply Kd.N_alloc | apply Kd.N_drewN | apply Kd.N_drew)); exact HO_327004.out⟩, ⟨by (with_reducible repeat (first | refine Z0 ?_ _ | refine Z3 ?_ | refine Z1 ?_ _)); exact BK326.out⟩, ⟨by repeat (first | (with_reducible first | exact HB.out | apply Z7 | apply Z4 | apply Z6 | refine Z8 ?_ GE326.out) | exact HB.out)⟩⟩
                           · rw [if_neg c42] at H
                             exact absurd H (by simp)
                         · rw [if_neg c41] at H
                           exact absurd H (by simp)
                       · rw [if_neg c40] at H
                         have c40b0 : decide (0 ≤ (rd t343 (rd t334 x7_2))) = false := decide_eq_false c40
                         clear c40
                         have H' := Aside0.mk H
                         clear H
                         have p351 : 0 ≤ (x7_2 : Int) := of_decide_eq_true (by first | (with_reducible assumption) | assumption)
                         have q351 : x7_2 < (t334.length : Int) := of_decide_eq_true (by first | (with_reducible assumption) | assumption)
                         obtain ⟨ad351, e351, hx351_0⟩ := Kd.at_int (Kd.R_reads' HO_3.out).2.2 x7_2 p351 q351
                         cases e351
                         replace p351 := eq_true p351
                         replace q351 := eq_true q351
                         obtain ⟨Ao48, co48, eo48⟩ := Kd.R_slice HO_4.out
                         subst eo48
                         have p352 : 0 ≤ ((rd t334 x7_2) : Int) := of_decide_eq_true (by first | (with_reducible assumption) | assumption)
                         have q352 : (rd t334 x7_2) < (t343.length : Int) := of_decide_eq_true (by first | (with_reducible assumption) | assumption)
                         obtain ⟨ad352, e352, hx352_0⟩ := Kd.at_int (Kd.R_reads' HO_4.out).2.2 (rd t334 x7_2) p352 q352
                         cases e352
                         replace p352 := eq_true p352
                         replace q352 := eq_true q352
                         go_wp2
                         go_roundg k2
                         case measure => have := HK1.out; have := HK2.out; omega
                         case rel => exact ⟨(wrap64 (x7_2 + 1)), (by first | rfl | (simp; done) | (simp [*]; done)), H', ⟨by have := HK1.out; have := HK2.out; omega⟩, ⟨by (with_reducible repeat (first | apply Kd.R_alloc | apply Kd.R_drewN | apply Kd.R_drew)); exact HO_3.out⟩, ⟨by (with_reducible repeat (first | apply Kd.R_alloc | apply Kd.R_drewN | apply Kd.R_drew)); exact HO_4.out⟩, ⟨by (with_reducible repeat (first | apply Kd.R_alloc | apply Kd.R_drewN | apply Kd.R_drew)); exact HO_5.out⟩, ⟨by (with_reducible repeat (first | apply Kd.N_alloc | apply Kd.N_drewN | apply Kd.N_drew)); exact HO_327004.out⟩, ⟨by (with_reducible repeat (first | refine Z0 ?_ _ | refine Z3 ?_ | refine Z1 ?_ _)); exact BK326.out⟩, ⟨by repeat (first | (with_reducible first | exact HB.out | apply Z7 | apply Z4 | apply Z6 | refine Z8 ?_ GE326.out) | exact HB.out)⟩⟩
                     · rw [if_neg c39] at H
                       exact absurd H (by simp)
                   · rw [if_neg c38] at H
                     exact absurd H (by simp)
                 · rw [if_neg c37] at H
                   exact absurd H (by simp)
               · rw [if_neg c36] at H
                 have c36b0 : decide (x7_2 < (t334.length : Int)) = false := decide_eq_false c36
                 clear c36
                 replace H := Option.bind_eq_some_iff.mp H
                 obtain ⟨t354, A490, H⟩ := H
                 replace H : (some t354) = some r := H
                 have A49 := Aside0.mk A490
                 clear A490
                 obtain rfl := Option.some.inj H
                 go_wp2_with (first | ((with_reducible refine Z14 (f := 12) rfl ?_); refine goesL_ (some 64) rfl rfl Try.func12 (by kernel_rfl) rfl #[] rfl (by (try simp only [List.map_toArray, List.map_cons, List.map_nil]); first | done | rfl | (simp only [List.length_drop, List.length_take]; rfl)) ?_; (with_reducible refine (cruciblelaw17_awake.calls k2  t354 _ A49.out).mono ?_); rintro e w50 ⟨rfl, hb⟩; refine ⟨_, rfl, ?_⟩; have n0_ := Aside0.mk (Kd.R_below (by (with_reducible repeat (first | apply Kd.R_alloc | apply Kd.R_drewN | apply Kd.R_drew)); exact HO_3.out) hb); have n1_ := Aside0.mk (Kd.R_below (by (with_reducible repeat (first | apply Kd.R_alloc | apply Kd.R_drewN | apply Kd.R_drew)); exact HO_4.out) hb); have n2_ := Aside0.mk (Kd.R_below (by (with_reducible repeat (first | apply Kd.R_alloc | apply Kd.R_drewN | apply Kd.R_drew)); exact HO_5.out) hb); have n3_ := Aside0.mk (Kd.N_below (by (with_reducible repeat (first | apply Kd.N_alloc | apply Kd.N_drewN | apply Kd.N_drew)); exact HO_327004.out) hb); have n4_ := Aside0.mk (Z40 (g := gb326) (o := .cells #[.string t327, .int .i64 t328, .int .i64 t329, .int .i64 t330, .slice Ao16 t331.length co16] 24 (0, 0)) (by (with_reducible repeat (first | refine Z0 ?_ _ | refine Z3 ?_ | refine Z1 ?_ _)); exact BK326.out) hb); have n5_ := Aside0.mk (Z25 (by repeat (first | (with_reducible first | exact HB.out | apply Z7 | apply Z4 | apply Z6 | refine Z8 ?_ GE326.out) | exact HB.out)) hb); clear HO_3; clear HO_4; clear HO_5; clear HO_327004; clear BK326; clear HB; have HO_3 := n0_; have HO_4 := n1_; have HO_5 := n2_; have HO_327004 := n3_; have BK326 := n4_; have HB := n5_; clear n0_ n1_ n2_ n3_ n4_ n5_; (try clear hb); (try clear hb2); (try clear hk); (try clear hi)))
                 go_ret
                 exact ⟨by first | rfl | (simp [Z16, Z15] <;> rfl) | (simp [*, Z16, Z15] <;> rfl), by repeat (first | (with_reducible first | exact HB.out | apply Z7 | apply Z4 | apply Z6 | refine Z8 ?_ GE326.out) | exact HB.out)⟩
       · rw [if_neg c11] at H
         exact absurd H (by simp)
     · rw [if_neg c10] at H
       exact absurd H (by simp)
   · replace c8 := Bool.eq_false_iff.mpr c8
     subst c8
     have H1 : (some false) = some r := by rw [if_neg (show ¬ (false = true) by decide)] at H; exact H
     clear H
     have H := H1
     clear H1
     obtain rfl := Option.some.inj H
     go_enter Try.func3, Try.ntmps3
     go_wp2_with (first | ((with_reducible refine Z52 (N := 1) rfl ?_); refine Z51 ?hg (N := 1) ?hd (cs := #[.string a0_0, .int .i64 a0_1, .int .i64 a0_2, .int .i64 a0_3, .slice A0_4 l0_4.length c0_4]) (t := 24) ?hr ?_; (case hd => rfl); (case hg => rfl); (case hr => first | (go_simp; done) | (go_simp; rfl)); intro gb326 hg w51 hbox hb; have n0_ := Aside0.mk (Z25 (by repeat (first | (with_reducible first | exact HB.out | apply Z7 | apply Z4 | apply Z6) | exact HB.out)) hb); have n1_ := Aside0.mk (hbox); have n2_ := Aside0.mk ((by rw [hg]; exact (Z27 (by repeat (first | (with_reducible first | exact HB.out | apply Z7 | apply Z4 | apply Z6) | exact HB.out))) : w.heap.size ≤ gb326)); have n3_ := Aside0.mk ((by rw [hg]; exact (Z27 (by repeat (first | (with_reducible first | exact HB.out | apply Z7 | apply Z4 | apply Z6) | exact HB.out))) : w.heap.size ≤ gb326)); clear HB; have HB := n0_; have BK326 := n1_; have GW326 := n2_; have GE326 := n3_; clear n0_ n1_ n2_ n3_; clear hb hbox hg; have hcz52_0 : w51.cell? ⟨gb326, 0, none⟩ = some (.string a0_0) := (Z5 BK326.out 0).trans rfl; have hcz52_1 : w51.cell? ⟨gb326, 1, none⟩ = some (.int .i64 a0_1) := (Z5 BK326.out 1).trans rfl; have hcz52_2 : w51.cell? ⟨gb326, 2, none⟩ = some (.int .i64 a0_2) := (Z5 BK326.out 2).trans rfl; have hcz52_3 : w51.cell? ⟨gb326, 3, none⟩ = some (.int .i64 a0_3) := (Z5 BK326.out 3).trans rfl; have hcz52_4 : w51.cell? ⟨gb326, 4, none⟩ = some (.slice A0_4 l0_4.length c0_4) := (Z5 BK326.out 4).trans rfl; have hfz52_0 := Z2 BK326.out 0; have hfz52_1 := Z2 BK326.out 1; have hfz52_2 := Z2 BK326.out 2; have hfz52_3 := Z2 BK326.out 3; have hfz52_4 := Z2 BK326.out 4) | ((with_reducible refine Z14 (f := 9) rfl ?_); refine goesL_ (some 10) rfl rfl Try.func9 (by kernel_rfl) rfl #[.agg #[.string a0_0, .int .i64 a0_1, .int .i64 a0_2, .int .i64 a0_3, .slice A0_4 l0_4.length c0_4]] rfl (by (try simp only [List.map_toArray, List.map_cons, List.map_nil]); first | done | rfl | (simp only [List.length_drop, List.length_take]; rfl)) ?_; (with_reducible refine (cruciblelaw17_bare.calls k a0_0 a0_1 a0_2 a0_3 (fun k_ => k_ < w.heap.size) _ _ l0_4 t327 t328 t329 t330 t331 _ ?side1 A2.out).mono ?_); (case side1 => exact Kd.V_mk HC0_4.out (Kd.F_below (Kd.C_F k45_heap HR0_4.out) (by repeat (first | (with_reducible first | exact HB.out | apply Z7 | apply Z4 | apply Z6 | refine Z8 ?_ GE326.out) | exact HB.out)))); rintro e w53 ⟨v332, rfl, ho0, hb⟩; refine ⟨_, rfl, ?_⟩; have n0_ := Aside0.mk (Kd.N_lower (Kd.N_mono (ok' := fun k_ => k_ ≠ gb326) ho0 (fun k_ hk_ => Or.elim hk_ (fun hs_ => fun e_ => Nat.not_le.2 hs_ (by rw [e_]; exact GW326.out)) (fun hn_ => (Kd.freshB (g := gb326) (o := .cells #[.string a0_0, .int .i64 a0_1, .int .i64 a0_2, .int .i64 a0_3, .slice A0_4 l0_4.length c0_4] 24 (0, 0)) (by (with_reducible repeat (first | refine Z0 ?_ _ | refine Z3 ?_ | refine Z1 ?_ _)); exact BK326.out) k_ hn_)))) (Z27 (by repeat (first | (with_reducible first | exact HB.out | apply Z7 | apply Z4 | apply Z6 | refine Z8 ?_ GE326.out) | exact HB.out)))); have n1_ := Aside0.mk (Z40 (g := gb326) (o := .cells #[.string a0_0, .int .i64 a0_1, .int .i64 a0_2, .int .i64 a0_3, .slice A0_4 l0_4.length c0_4] 24 (0, 0)) (by (with_reducible repeat (first | refine Z0 ?_ _ | refine Z3 ?_ | refine Z1 ?_ _)); exact BK326.out) hb); have n2_ := Aside0.mk (Z25 (by repeat (first | (with_reducible first | exact HB.out | apply Z7 | apply Z4 | apply Z6 | refine Z8 ?_ GE326.out) | exact HB.out)) hb); clear BK326; clear HB; have HO333 := n0_; have BK326 := n1_; have HB := n2_; clear n0_ n1_ n2_; (try clear hb); (try clear hb2); (try clear hk); (try clear hi); (try clear ho0); have hcz54_0 : w53.cell? ⟨gb326, 0, none⟩ = some (.string a0_0) := (Z5 BK326.out 0).trans rfl; have hcz54_1 : w53.cell? ⟨gb326, 1, none⟩ = some (.int .i64 a0_1) := (Z5 BK326.out 1).trans rfl; have hcz54_2 : w53.cell? ⟨gb326, 2, none⟩ = some (.int .i64 a0_2) := (Z5 BK326.out 2).trans rfl; have hcz54_3 : w53.cell? ⟨gb326, 3, none⟩ = some (.int .i64 a0_3) := (Z5 BK326.out 3).trans rfl; have hcz54_4 : w53.cell? ⟨gb326, 4, none⟩ = some (.slice A0_4 l0_4.length c0_4) := (Z5 BK326.out 4).trans rfl; have hfz54_0 := Z2 BK326.out 0; have hfz54_1 := Z2 BK326.out 1; have hfz54_2 := Z2 BK326.out 2; have hfz54_3 := Z2 BK326.out 3; have hfz54_4 := Z2 BK326.out 4; obtain ⟨Ao55, co55, eo55⟩ := Kd.N_slice HO333.out; subst eo55) | ((with_reducible refine Z14 (f := 10) rfl ?_); refine goesL_ (some 12) rfl rfl Try.func10 (by kernel_rfl) rfl #[.agg #[.string t327, .int .i64 t328, .int .i64 t329, .int .i64 t330, .slice Ao55 t331.length co55]] rfl (by (try simp only [List.map_toArray, List.map_cons, List.map_nil]); first | done | rfl | (simp only [List.length_drop, List.length_take]; rfl)) ?_; (with_reducible refine (order_Postorder.calls k t327 t328 t329 t330 _ _ t331 t334 _ ?side1 ?side2 A3.out).mono ?_); (case side1 => refine (Kd.N_reads' (e := 45) (base := w.heap.size) (ok := fun k_ => k_ ≠ gb326) (n := t331.length) (c := co55) ?_).2.2; exact (by (with_reducible repeat (first | apply Kd.N_alloc | apply Kd.N_drewN | apply Kd.N_drew)); exact (Kd.N_mono (Kd.N_far (p := ⟨gb326, 4, none⟩) (Kd.N_far (p := ⟨gb326, 3, none⟩) (Kd.N_far (p := ⟨gb326, 2, none⟩) (Kd.N_far (p := ⟨gb326, 1, none⟩) (Kd.N_far (p := ⟨gb326, 0, none⟩) (Kd.N_mono HO333.out (fun k_ hk => (⟨hk, hk⟩ : _ ∧ k_ ≠ gb326))) (fun _ hk => hk.2) (.string t327)) (fun _ hk => hk.2) (.int .i64 t328)) (fun _ hk => hk.2) (.int .i64 t329)) (fun _ hk => hk.2) (.int .i64 t330)) (fun _ hk => hk.2) (.slice Ao55 t331.length co55)) (fun _ h_ => h_.1)))); (case side2 => exact (Kd.N_reads' HO333.out).2.1); rintro e w56 ⟨v335, rfl, ho0, hb⟩; refine ⟨_, rfl, ?_⟩; have n0_ := Aside0.mk (Kd.N_elder' (by (with_reducible repeat (first | apply Kd.N_alloc | apply Kd.N_drewN | apply Kd.N_drew)); exact (Kd.N_mono (Kd.N_far (p := ⟨gb326, 4, none⟩) (Kd.N_far (p := ⟨gb326, 3, none⟩) (Kd.N_far (p := ⟨gb326, 2, none⟩) (Kd.N_far (p := ⟨gb326, 1, none⟩) (Kd.N_far (p := ⟨gb326, 0, none⟩) (Kd.N_mono HO333.out (fun k_ hk => (⟨hk, hk⟩ : _ ∧ k_ ≠ gb326))) (fun _ hk => hk.2) (.string t327)) (fun _ hk => hk.2) (.int .i64 t328)) (fun _ hk => hk.2) (.int .i64 t329)) (fun _ hk => hk.2) (.int .i64 t330)) (fun _ hk => hk.2) (.slice Ao55 t331.length co55)) (fun _ h_ => h_.1))) (Kd.R_base ho0) hb); have n1_ := Aside0.mk (Kd.R_lower ho0 (Z27 (by repeat (first | (with_reducible first | exact HB.out | apply Z7 | apply Z4 | apply Z6 | refine Z8 ?_ GE326.out) | exact HB.out)))); have n2_ := Aside0.mk (Z40 (g := gb326) (o := .cells #[.string t327, .int .i64 t328, .int .i64 t329, .int .i64 t330, .slice Ao55 t331.length co55] 24 (0, 0)) (by (with_reducible repeat (first | refine Z0 ?_ _ | refine Z3 ?_ | refine Z1 ?_ _)); refine Z9 (cs := #[.string t327, .int .i64 t328, .int .i64 t329, .int .i64 t330, .slice A0_4 l0_4.length c0_4]) ?_ 4 _ rfl; (with_reducible repeat (first | refine Z0 ?_ _ | refine Z3 ?_ | refine Z1 ?_ _)); refine Z9 (cs := #[.string t327, .int .i64 t328, .int .i64 t329, .int .i64 a0_3, .slice A0_4 l0_4.length c0_4]) ?_ 3 _ rfl; (with_reducible repeat (first | refine Z0 ?_ _ | refine Z3 ?_ | refine Z1 ?_ _)); refine Z9 (cs := #[.string t327, .int .i64 t328, .int .i64 a0_2, .int .i64 a0_3, .slice A0_4 l0_4.length c0_4]) ?_ 2 _ rfl; (with_reducible repeat (first | refine Z0 ?_ _ | refine Z3 ?_ | refine Z1 ?_ _)); refine Z9 (cs := #[.string t327, .int .i64 a0_1, .int .i64 a0_2, .int .i64 a0_3, .slice A0_4 l0_4.length c0_4]) ?_ 1 _ rfl; (with_reducible repeat (first | refine Z0 ?_ _ | refine Z3 ?_ | refine Z1 ?_ _)); refine Z9 (cs := #[.string a0_0, .int .i64 a0_1, .int .i64 a0_2, .int .i64 a0_3, .slice A0_4 l0_4.length c0_4]) ?_ 0 _ rfl; (with_reducible repeat (first | refine Z0 ?_ _ | refine Z3 ?_ | refine Z1 ?_ _)); exact BK326.out) hb); have n3_ := Aside0.mk (Z25 (by repeat (first | (with_reducible first | exact HB.out | apply Z7 | apply Z4 | apply Z6 | refine Z8 ?_ GE326.out) | exact HB.out)) hb); clear HO333; clear BK326; clear HB; have HO333 := n0_; have HO336 := n1_; have BK326 := n2_; have HB := n3_; clear n0_ n1_ n2_ n3_; (try clear hb); (try clear hb2); (try clear hk); (try clear hi); (try clear ho0); have hcz57_0 : w56.cell? ⟨gb326, 0, none⟩ = some (.string t327) := (Z5 BK326.out 0).trans rfl; have hcz57_1 : w56.cell? ⟨gb326, 1, none⟩ = some (.int .i64 t328) := (Z5 BK326.out 1).trans rfl; have hcz57_2 : w56.cell? ⟨gb326, 2, none⟩ = some (.int .i64 t329) := (Z5 BK326.out 2).trans rfl; have hcz57_3 : w56.cell? ⟨gb326, 3, none⟩ = some (.int .i64 t330) := (Z5 BK326.out 3).trans rfl; have hcz57_4 : w56.cell? ⟨gb326, 4, none⟩ = some (.slice Ao55 t331.length co55) := (Z5 BK326.out 4).trans rfl; have hfz57_0 := Z2 BK326.out 0; have hfz57_1 := Z2 BK326.out 1; have hfz57_2 := Z2 BK326.out 2; have hfz57_3 := Z2 BK326.out 3; have hfz57_4 := Z2 BK326.out 4) | ((with_reducible refine Z14 (f := 11) rfl ?_); refine goesL_ (some 14) rfl rfl Try.func11 (by kernel_rfl) rfl #[.agg #[.string t327, .int .i64 t328, .int .i64 t329, .int .i64 t330, .slice Ao55 t331.length co55]] rfl (by (try simp only [List.map_toArray, List.map_cons, List.map_nil]); first | done | rfl | (simp only [List.length_drop, List.length_take]; rfl)) ?_; (with_reducible refine (cruciblelaw17_May.calls k t327 t328 t329 t330 _ _ t331 true _ ?side1 ?side2 A4.out).mono ?_); (case side1 => repeat (first | exact (Kd.N_reads' HO333.out).2.2 | (with_reducible refine Kd.C_alloc ?_ _) | (with_reducible refine Kd.C_drewN ?_ _) | (with_reducible refine Kd.C_drew ?_))); (case side2 => exact (Kd.N_reads' HO333.out).2.1); rintro e w58 ⟨rfl, hb⟩; refine ⟨_, rfl, ?_⟩; have n0_ := Aside0.mk (Kd.N_below (by (with_reducible repeat (first | apply Kd.N_alloc | apply Kd.N_drewN | apply Kd.N_drew)); exact HO333.out) hb); have n1_ := Aside0.mk (Kd.R_below (by (with_reducible repeat (first | apply Kd.R_alloc | apply Kd.R_drewN | apply Kd.R_drew)); exact HO336.out) hb); have n2_ := Aside0.mk (Z40 (g := gb326) (o := .cells #[.string t327, .int .i64 t328, .int .i64 t329, .int .i64 t330, .slice Ao55 t331.length co55] 24 (0, 0)) (by (with_reducible repeat (first | refine Z0 ?_ _ | refine Z3 ?_ | refine Z1 ?_ _)); exact BK326.out) hb); have n3_ := Aside0.mk (Z25 (by repeat (first | (with_reducible first | exact HB.out | apply Z7 | apply Z4 | apply Z6 | refine Z8 ?_ GE326.out) | exact HB.out)) hb); clear HO333; clear HO336; clear BK326; clear HB; have HO333 := n0_; have HO336 := n1_; have BK326 := n2_; have HB := n3_; clear n0_ n1_ n2_ n3_; (try clear hb); (try clear hb2); (try clear hk); (try clear hi); have hcz59_0 : w58.cell? ⟨gb326, 0, none⟩ = some (.string t327) := (Z5 BK326.out 0).trans rfl; have hcz59_1 : w58.cell? ⟨gb326, 1, none⟩ = some (.int .i64 t328) := (Z5 BK326.out 1).trans rfl; have hcz59_2 : w58.cell? ⟨gb326, 2, none⟩ = some (.int .i64 t329) := (Z5 BK326.out 2).trans rfl; have hcz59_3 : w58.cell? ⟨gb326, 3, none⟩ = some (.int .i64 t330) := (Z5 BK326.out 3).trans rfl; have hcz59_4 : w58.cell? ⟨gb326, 4, none⟩ = some (.slice Ao55 t331.length co55) := (Z5 BK326.out 4).trans rfl; have hfz59_0 := Z2 BK326.out 0; have hfz59_1 := Z2 BK326.out 1; have hfz59_2 := Z2 BK326.out 2; have hfz59_3 := Z2 BK326.out 3; have hfz59_4 := Z2 BK326.out 4) | ((with_reducible refine Z14 (f := 14) rfl ?_); refine goesL_ (some 19) rfl rfl Try.func14 (by kernel_rfl) rfl #[.agg #[.string t327, .int .i64 t328, .int .i64 t329, .int .i64 t330, .slice Ao55 t331.length co55]] rfl (by (try simp only [List.map_toArray, List.map_cons, List.map_nil]); first | done | rfl | (simp only [List.length_drop, List.length_take]; rfl)) ?_; (with_reducible refine (crucibleref17_Postorder.calls k t327 t328 t329 t330 _ _ t331 t339 _ ?side1 ?side2 A6.out).mono ?_); (case side1 => repeat (first | exact (Kd.N_reads' HO333.out).2.2 | (with_reducible refine Kd.C_alloc ?_ _) | (with_reducible refine Kd.C_drewN ?_ _) | (with_reducible refine Kd.C_drew ?_))); (case side2 => exact (Kd.N_reads' HO333.out).2.1); rintro e w60 ⟨v340, rfl, ho0, hb⟩; refine ⟨_, rfl, ?_⟩; have n0_ := Aside0.mk (Kd.N_elder' (by (with_reducible repeat (first | apply Kd.N_alloc | apply Kd.N_drewN | apply Kd.N_drew)); exact HO333.out) (Kd.R_base ho0) hb); have n1_ := Aside0.mk (Kd.R_elder' (by (with_reducible repeat (first | apply Kd.R_alloc | apply Kd.R_drewN | apply Kd.R_drew)); exact HO336.out) (Kd.R_base ho0) hb); have n2_ := Aside0.mk (Kd.R_lower (Kd.R_new' ho0 (Kd.R_lt (by (with_reducible repeat (first | apply Kd.R_alloc | apply Kd.R_drewN | apply Kd.R_drew)); exact HO336.out))) (Z27 (by repeat (first | (with_reducible first | exact HB.out | apply Z7 | apply Z4 | apply Z6 | refine Z8 ?_ GE326.out) | exact HB.out)))); have n3_ := Aside0.mk (Z40 (g := gb326) (o := .cells #[.string t327, .int .i64 t328, .int .i64 t329, .int .i64 t330, .slice Ao55 t331.length co55] 24 (0, 0)) (by (with_reducible repeat (first | refine Z0 ?_ _ | refine Z3 ?_ | refine Z1 ?_ _)); exact BK326.out) hb); have n4_ := Aside0.mk (Z25 (by repeat (first | (with_reducible first | exact HB.out | apply Z7 | apply Z4 | apply Z6 | refine Z8 ?_ GE326.out) | exact HB.out)) hb); clear HO333; clear HO336; clear BK326; clear HB; have HO333 := n0_; have HO336 := n1_; have HO341 := n2_; have BK326 := n3_; have HB := n4_; clear n0_ n1_ n2_ n3_ n4_; (try clear hb); (try clear hb2); (try clear hk); (try clear hi); (try clear ho0); obtain ⟨Ao61, co61, eo61⟩ := Kd.R_slice HO336.out; subst eo61; obtain ⟨Ao62, co62, eo62⟩ := Kd.R_slice HO341.out; subst eo62) | ((with_reducible refine Z14 (f := 13) rfl ?_); refine goesL_ (some 20) rfl rfl Try.func13 (by kernel_rfl) rfl #[.slice Ao61 t334.length co61, .slice Ao62 t339.length co62] rfl (by (try simp only [List.map_toArray, List.map_cons, List.map_nil]); first | done | rfl | (simp only [List.length_drop, List.length_take]; rfl)) ?_; (with_reducible refine (crucibleref14_SameInts.calls k _ _ t334 _ _ t339 false _ ?side1 ?side2 ?side3 ?side4 A7.out).mono ?_); (case side1 => repeat (first | exact (Kd.R_reads' HO336.out).2.2 | (with_reducible refine Kd.C_alloc ?_ _) | (with_reducible refine Kd.C_drewN ?_ _) | (with_reducible refine Kd.C_drew ?_))); (case side2 => exact (Kd.R_reads' HO336.out).2.1); (case side3 => repeat (first | exact (Kd.R_reads' HO341.out).2.2 | (with_reducible refine Kd.C_alloc ?_ _) | (with_reducible refine Kd.C_drewN ?_ _) | (with_reducible refine Kd.C_drew ?_))); (case side4 => exact (Kd.R_reads' HO341.out).2.1); rintro e w' ⟨rfl, ⟨nd, rfl⟩⟩; refine ⟨_, rfl, ?_⟩))
     go_ret
     exact ⟨by first | rfl | (simp [Z16, Z15] <;> rfl) | (simp [*, Z16, Z15] <;> rfl), by repeat (first | (with_reducible first | exact HB.out | apply Z7 | apply Z4 | apply Z6 | refine Z8 ?_ GE326.out) | exact HB.out)⟩
 · replace c5 := Bool.eq_false_iff.mpr c5
   subst c5
   have H1 : ((cruciblelaw17_awake.f k).bind fun t338 => (some t338)) = some r := by rw [if_neg (show ¬ (false = true) by decide)] at H; exact H
   clear H
   have H := H1
   clear H1
   replace H := Option.bind_eq_some_iff.mp H
   obtain ⟨t338, A630, H⟩ := H
   replace H : (some t338) = some r := H
   have A63 := Aside0.mk A630
   clear A630
   obtain rfl := Option.some.inj H
   go_enter Try.func3, Try.ntmps3
   go_wp2_with (first | ((with_reducible refine Z52 (N := 1) rfl ?_); refine Z51 ?hg (N := 1) ?hd (cs := #[.string a0_0, .int .i64 a0_1, .int .i64 a0_2, .int .i64 a0_3, .slice A0_4 l0_4.length c0_4]) (t := 24) ?hr ?_; (case hd => rfl); (case hg => rfl); (case hr => first | (go_simp; done) | (go_simp; rfl)); intro gb326 hg w64 hbox hb; have n0_ := Aside0.mk (Z25 (by repeat (first | (with_reducible first | exact HB.out | apply Z7 | apply Z4 | apply Z6) | exact HB.out)) hb); have n1_ := Aside0.mk (hbox); have n2_ := Aside0.mk ((by rw [hg]; exact (Z27 (by repeat (first | (with_reducible first | exact HB.out | apply Z7 | apply Z4 | apply Z6) | exact HB.out))) : w.heap.size ≤ gb326)); have n3_ := Aside0.mk ((by rw [hg]; exact (Z27 (by repeat (first | (with_reducible first | exact HB.out | apply Z7 | apply Z4 | apply Z6) | exact HB.out))) : w.heap.size ≤ gb326)); clear HB; have HB := n0_; have BK326 := n1_; have GW326 := n2_; have GE326 := n3_; clear n0_ n1_ n2_ n3_; clear hb hbox hg; have hcz65_0 : w64.cell? ⟨gb326, 0, none⟩ = some (.string a0_0) := (Z5 BK326.out 0).trans rfl; have hcz65_1 : w64.cell? ⟨gb326, 1, none⟩ = some (.int .i64 a0_1) := (Z5 BK326.out 1).trans rfl; have hcz65_2 : w64.cell? ⟨gb326, 2, none⟩ = some (.int .i64 a0_2) := (Z5 BK326.out 2).trans rfl; have hcz65_3 : w64.cell? ⟨gb326, 3, none⟩ = some (.int .i64 a0_3) := (Z5 BK326.out 3).trans rfl; have hcz65_4 : w64.cell? ⟨gb326, 4, none⟩ = some (.slice A0_4 l0_4.length c0_4) := (Z5 BK326.out 4).trans rfl; have hfz65_0 := Z2 BK326.out 0; have hfz65_1 := Z2 BK326.out 1; have hfz65_2 := Z2 BK326.out 2; have hfz65_3 := Z2 BK326.out 3; have hfz65_4 := Z2 BK326.out 4) | ((with_reducible refine Z14 (f := 9) rfl ?_); refine goesL_ (some 10) rfl rfl Try.func9 (by kernel_rfl) rfl #[.agg #[.string a0_0, .int .i64 a0_1, .int .i64 a0_2, .int .i64 a0_3, .slice A0_4 l0_4.length c0_4]] rfl (by (try simp only [List.map_toArray, List.map_cons, List.map_nil]); first | done | rfl | (simp only [List.length_drop, List.length_take]; rfl)) ?_; (with_reducible refine (cruciblelaw17_bare.calls k a0_0 a0_1 a0_2 a0_3 (fun k_ => k_ < w.heap.size) _ _ l0_4 t327 t328 t329 t330 t331 _ ?side1 A2.out).mono ?_); (case side1 => exact Kd.V_mk HC0_4.out (Kd.F_below (Kd.C_F k45_heap HR0_4.out) (by repeat (first | (with_reducible first | exact HB.out | apply Z7 | apply Z4 | apply Z6 | refine Z8 ?_ GE326.out) | exact HB.out)))); rintro e w66 ⟨v332, rfl, ho0, hb⟩; refine ⟨_, rfl, ?_⟩; have n0_ := Aside0.mk (Kd.N_lower (Kd.N_mono (ok' := fun k_ => k_ ≠ gb326) ho0 (fun k_ hk_ => Or.elim hk_ (fun hs_ => fun e_ => Nat.not_le.2 hs_ (by rw [e_]; exact GW326.out)) (fun hn_ => (Kd.freshB (g := gb326) (o := .cells #[.string a0_0, .int .i64 a0_1, .int .i64 a0_2, .int .i64 a0_3, .slice A0_4 l0_4.length c0_4] 24 (0, 0)) (by (with_reducible repeat (first | refine Z0 ?_ _ | refine Z3 ?_ | refine Z1 ?_ _)); exact BK326.out) k_ hn_)))) (Z27 (by repeat (first | (with_reducible first | exact HB.out | apply Z7 | apply Z4 | apply Z6 | refine Z8 ?_ GE326.out) | exact HB.out)))); have n1_ := Aside0.mk (Z40 (g := gb326) (o := .cells #[.string a0_0, .int .i64 a0_1, .int .i64 a0_2, .int .i64 a0_3, .slice A0_4 l0_4.length c0_4] 24 (0, 0)) (by (with_reducible repeat (first | refine Z0 ?_ _ | refine Z3 ?_ | refine Z1 ?_ _)); exact BK326.out) hb); have n2_ := Aside0.mk (Z25 (by repeat (first | (with_reducible first | exact HB.out | apply Z7 | apply Z4 | apply Z6 | refine Z8 ?_ GE326.out) | exact HB.out)) hb); clear BK326; clear HB; have HO333 := n0_; have BK326 := n1_; have HB := n2_; clear n0_ n1_ n2_; (try clear hb); (try clear hb2); (try clear hk); (try clear hi); (try clear ho0); have hcz67_0 : w66.cell? ⟨gb326, 0, none⟩ = some (.string a0_0) := (Z5 BK326.out 0).trans rfl; have hcz67_1 : w66.cell? ⟨gb326, 1, none⟩ = some (.int .i64 a0_1) := (Z5 BK326.out 1).trans rfl; have hcz67_2 : w66.cell? ⟨gb326, 2, none⟩ = some (.int .i64 a0_2) := (Z5 BK326.out 2).trans rfl; have hcz67_3 : w66.cell? ⟨gb326, 3, none⟩ = some (.int .i64 a0_3) := (Z5 BK326.out 3).trans rfl; have hcz67_4 : w66.cell? ⟨gb326, 4, none⟩ = some (.slice A0_4 l0_4.length c0_4) := (Z5 BK326.out 4).trans rfl; have hfz67_0 := Z2 BK326.out 0; have hfz67_1 := Z2 BK326.out 1; have hfz67_2 := Z2 BK326.out 2; have hfz67_3 := Z2 BK326.out 3; have hfz67_4 := Z2 BK326.out 4; obtain ⟨Ao68, co68, eo68⟩ := Kd.N_slice HO333.out; subst eo68) | ((with_reducible refine Z14 (f := 10) rfl ?_); refine goesL_ (some 12) rfl rfl Try.func10 (by kernel_rfl) rfl #[.agg #[.string t327, .int .i64 t328, .int .i64 t329, .int .i64 t330, .slice Ao68 t331.length co68]] rfl (by (try simp only [List.map_toArray, List.map_cons, List.map_nil]); first | done | rfl | (simp only [List.length_drop, List.length_take]; rfl)) ?_; (with_reducible refine (order_Postorder.calls k t327 t328 t329 t330 _ _ t331 t334 _ ?side1 ?side2 A3.out).mono ?_); (case side1 => refine (Kd.N_reads' (e := 45) (base := w.heap.size) (ok := fun k_ => k_ ≠ gb326) (n := t331.length) (c := co68) ?_).2.2; exact (by (with_reducible repeat (first | apply Kd.N_alloc | apply Kd.N_drewN | apply Kd.N_drew)); exact (Kd.N_mono (Kd.N_far (p := ⟨gb326, 4, none⟩) (Kd.N_far (p := ⟨gb326, 3, none⟩) (Kd.N_far (p := ⟨gb326, 2, none⟩) (Kd.N_far (p := ⟨gb326, 1, none⟩) (Kd.N_far (p := ⟨gb326, 0, none⟩) (Kd.N_mono HO333.out (fun k_ hk => (⟨hk, hk⟩ : _ ∧ k_ ≠ gb326))) (fun _ hk => hk.2) (.string t327)) (fun _ hk => hk.2) (.int .i64 t328)) (fun _ hk => hk.2) (.int .i64 t329)) (fun _ hk => hk.2) (.int .i64 t330)) (fun _ hk => hk.2) (.slice Ao68 t331.length co68)) (fun _ h_ => h_.1)))); (case side2 => exact (Kd.N_reads' HO333.out).2.1); rintro e w69 ⟨v335, rfl, ho0, hb⟩; refine ⟨_, rfl, ?_⟩; have n0_ := Aside0.mk (Kd.N_elder' (by (with_reducible repeat (first | apply Kd.N_alloc | apply Kd.N_drewN | apply Kd.N_drew)); exact (Kd.N_mono (Kd.N_far (p := ⟨gb326, 4, none⟩) (Kd.N_far (p := ⟨gb326, 3, none⟩) (Kd.N_far (p := ⟨gb326, 2, none⟩) (Kd.N_far (p := ⟨gb326, 1, none⟩) (Kd.N_far (p := ⟨gb326, 0, none⟩) (Kd.N_mono HO333.out (fun k_ hk => (⟨hk, hk⟩ : _ ∧ k_ ≠ gb326))) (fun _ hk => hk.2) (.string t327)) (fun _ hk => hk.2) (.int .i64 t328)) (fun _ hk => hk.2) (.int .i64 t329)) (fun _ hk => hk.2) (.int .i64 t330)) (fun _ hk => hk.2) (.slice Ao68 t331.length co68)) (fun _ h_ => h_.1))) (Kd.R_base ho0) hb); have n1_ := Aside0.mk (Kd.R_lower ho0 (Z27 (by repeat (first | (with_reducible first | exact HB.out | apply Z7 | apply Z4 | apply Z6 | refine Z8 ?_ GE326.out) | exact HB.out)))); have n2_ := Aside0.mk (Z40 (g := gb326) (o := .cells #[.string t327, .int .i64 t328, .int .i64 t329, .int .i64 t330, .slice Ao68 t331.length co68] 24 (0, 0)) (by (with_reducible repeat (first | refine Z0 ?_ _ | refine Z3 ?_ | refine Z1 ?_ _)); refine Z9 (cs := #[.string t327, .int .i64 t328, .int .i64 t329, .int .i64 t330, .slice A0_4 l0_4.length c0_4]) ?_ 4 _ rfl; (with_reducible repeat (first | refine Z0 ?_ _ | refine Z3 ?_ | refine Z1 ?_ _)); refine Z9 (cs := #[.string t327, .int .i64 t328, .int .i64 t329, .int .i64 a0_3, .slice A0_4 l0_4.length c0_4]) ?_ 3 _ rfl; (with_reducible repeat (first | refine Z0 ?_ _ | refine Z3 ?_ | refine Z1 ?_ _)); refine Z9 (cs := #[.string t327, .int .i64 t328, .int .i64 a0_2, .int .i64 a0_3, .slice A0_4 l0_4.length c0_4]) ?_ 2 _ rfl; (with_reducible repeat (first | refine Z0 ?_ _ | refine Z3 ?_ | refine Z1 ?_ _)); refine Z9 (cs := #[.string t327, .int .i64 a0_1, .int .i64 a0_2, .int .i64 a0_3, .slice A0_4 l0_4.length c0_4]) ?_ 1 _ rfl; (with_reducible repeat (first | refine Z0 ?_ _ | refine Z3 ?_ | refine Z1 ?_ _)); refine Z9 (cs := #[.string a0_0, .int .i64 a0_1, .int .i64 a0_2, .int .i64 a0_3, .slice A0_4 l0_4.length c0_4]) ?_ 0 _ rfl; (with_reducible repeat (first | refine Z0 ?_ _ | refine Z3 ?_ | refine Z1 ?_ _)); exact BK326.out) hb); have n3_ := Aside0.mk (Z25 (by repeat (first | (with_reducible first | exact HB.out | apply Z7 | apply Z4 | apply Z6 | refine Z8 ?_ GE326.out) | exact HB.out)) hb); clear HO333; clear BK326; clear HB; have HO333 := n0_; have HO336 := n1_; have BK326 := n2_; have HB := n3_; clear n0_ n1_ n2_ n3_; (try clear hb); (try clear hb2); (try clear hk); (try clear hi); (try clear ho0); have hcz70_0 : w69.cell? ⟨gb326, 0, none⟩ = some (.string t327) := (Z5 BK326.out 0).trans rfl; have hcz70_1 : w69.cell? ⟨gb326, 1, none⟩ = some (.int .i64 t328) := (Z5 BK326.out 1).trans rfl; have hcz70_2 : w69.cell? ⟨gb326, 2, none⟩ = some (.int .i64 t329) := (Z5 BK326.out 2).trans rfl; have hcz70_3 : w69.cell? ⟨gb326, 3, none⟩ = some (.int .i64 t330) := (Z5 BK326.out 3).trans rfl; have hcz70_4 : w69.cell? ⟨gb326, 4, none⟩ = some (.slice Ao68 t331.length co68) := (Z5 BK326.out 4).trans rfl; have hfz70_0 := Z2 BK326.out 0; have hfz70_1 := Z2 BK326.out 1; have hfz70_2 := Z2 BK326.out 2; have hfz70_3 := Z2 BK326.out 3; have hfz70_4 := Z2 BK326.out 4) | ((with_reducible refine Z14 (f := 11) rfl ?_); refine goesL_ (some 14) rfl rfl Try.func11 (by kernel_rfl) rfl #[.agg #[.string t327, .int .i64 t328, .int .i64 t329, .int .i64 t330, .slice Ao68 t331.length co68]] rfl (by (try simp only [List.map_toArray, List.map_cons, List.map_nil]); first | done | rfl | (simp only [List.length_drop, List.length_take]; rfl)) ?_; (with_reducible refine (cruciblelaw17_May.calls k t327 t328 t329 t330 _ _ t331 false _ ?side1 ?side2 A4.out).mono ?_); (case side1 => repeat (first | exact (Kd.N_reads' HO333.out).2.2 | (with_reducible refine Kd.C_alloc ?_ _) | (with_reducible refine Kd.C_drewN ?_ _) | (with_reducible refine Kd.C_drew ?_))); (case side2 => exact (Kd.N_reads' HO333.out).2.1); rintro e w71 ⟨rfl, hb⟩; refine ⟨_, rfl, ?_⟩; have n0_ := Aside0.mk (Kd.N_below (by (with_reducible repeat (first | apply Kd.N_alloc | apply Kd.N_drewN | apply Kd.N_drew)); exact HO333.out) hb); have n1_ := Aside0.mk (Kd.R_below (by (with_reducible repeat (first | apply Kd.R_alloc | apply Kd.R_drewN | apply Kd.R_drew)); exact HO336.out) hb); have n2_ := Aside0.mk (Z40 (g := gb326) (o := .cells #[.string t327, .int .i64 t328, .int .i64 t329, .int .i64 t330, .slice Ao68 t331.length co68] 24 (0, 0)) (by (with_reducible repeat (first | refine Z0 ?_ _ | refine Z3 ?_ | refine Z1 ?_ _)); exact BK326.out) hb); have n3_ := Aside0.mk (Z25 (by repeat (first | (with_reducible first | exact HB.out | apply Z7 | apply Z4 | apply Z6 | refine Z8 ?_ GE326.out) | exact HB.out)) hb); clear HO333; clear HO336; clear BK326; clear HB; have HO333 := n0_; have HO336 := n1_; have BK326 := n2_; have HB := n3_; clear n0_ n1_ n2_ n3_; (try clear hb); (try clear hb2); (try clear hk); (try clear hi)) | ((with_reducible refine Z14 (f := 12) rfl ?_); refine goesL_ (some 16) rfl rfl Try.func12 (by kernel_rfl) rfl #[] rfl (by (try simp only [List.map_toArray, List.map_cons, List.map_nil]); first | done | rfl | (simp only [List.length_drop, List.length_take]; rfl)) ?_; (with_reducible refine (cruciblelaw17_awake.calls k  t338 _ A63.out).mono ?_); rintro e w72 ⟨rfl, hb⟩; refine ⟨_, rfl, ?_⟩; have n0_ := Aside0.mk (Kd.N_below (by (with_reducible repeat (first | apply Kd.N_alloc | apply Kd.N_drewN | apply Kd.N_drew)); exact HO333.out) hb); have n1_ := Aside0.mk (Kd.R_below (by (with_reducible repeat (first | apply Kd.R_alloc | apply Kd.R_drewN | apply Kd.R_drew)); exact HO336.out) hb); have n2_ := Aside0.mk (Z40 (g := gb326) (o := .cells #[.string t327, .int .i64 t328, .int .i64 t329, .int .i64 t330, .slice Ao68 t331.length co68] 24 (0, 0)) (by (with_reducible repeat (first | refine Z0 ?_ _ | refine Z3 ?_ | refine Z1 ?_ _)); exact BK326.out) hb); have n3_ := Aside0.mk (Z25 (by repeat (first | (with_reducible first | exact HB.out | apply Z7 | apply Z4 | apply Z6 | refine Z8 ?_ GE326.out) | exact HB.out)) hb); clear HO333; clear HO336; clear BK326; clear HB; have HO333 := n0_; have HO336 := n1_; have BK326 := n2_; have HB := n3_; clear n0_ n1_ n2_ n3_; (try clear hb); (try clear hb2); (try clear hk); (try clear hi)))
   go_ret
   exact ⟨by first | rfl | (simp [Z16, Z15] <;> rfl) | (simp [*, Z16, Z15] <;> rfl), by repeat (first | (with_reducible first | exact HB.out | apply Z7 | apply Z4 | apply Z6 | refine Z8 ?_ GE326.out) | exact HB.out)⟩
end Go.Proofs.Ytbklmnieakefnaa.Q
