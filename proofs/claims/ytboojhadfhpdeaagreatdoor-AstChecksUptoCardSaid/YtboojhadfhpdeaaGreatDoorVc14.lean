/- A part of the proof, made small by a program: L8, N1, N2, N3, P0, R19, T1, T2, T3, T4, T5, T6, T7, T8, T9. -/
import Derived.Test.YtboojhadfhpdeaaGreatDoorVc4
import Derived.Test.YtboojhadfhpdeaaGreatDoorVc8
import Derived.Test.YtboojhadfhpdeaaGreatDoorVc11
import Derived.Test.YtboojhadfhpdeaaGreatDoorVc13
namespace Go.Proofs.YtboojhadfhpdeaaGreatDoor.Q
open Go.RowKit Go.Proofs.YtboojhadfhpdeaaGreatDoorW.PrintWords Go.Proofs.YtboojhadfhpdeaaGreatDoorW.PrintLast Go.Proofs.YtboojhadfhpdeaaGreatDoorW.PrintMore
set_option linter.unusedVariables false
set_option linter.unusedSimpArgs false
def d42 (x : S25) : Bool:=(x.f1.toList == ([] : List UInt8)) && (x.f2 == 0) && decide (2 ≤ x.f4.length) && decide ((nd x.f4 0).f0 = 16) && x.f4.tail.all (fun x => decide (x.f0 = 43))
set_option maxHeartbeats 8000000 in
set_option maxRecDepth 100000 in
theorem vars.a {x : S25} {A : Option Addr} {c : Nat} {w : World} (b : Bool) (hb : nmB x.f1 = b) (hk : x.f0 = 42) (hs : Sml x.f1) (h0 : (x.f1.toList == ([] : List UInt8)) = false) (hG : PremW w) (hn : ND w x A c) : Calls Tryz.prog 44 #[val x A c] w (AllP (d42 x) w):=by
 have b40 : (x.f0 == 40) = false:=by rw [hk];rfl
 have b41 : (x.f0 == 41) = false:=by rw [hk];rfl
 have b42 : (x.f0 == 42) = true:=by rw [hk];rfl
 have e0 : (x.f1.toList == ([] : List UInt8)) = false:=h0;have e1 : (x.f1.toList != ([] : List UInt8)) = true:=by rw [bne,h0];rfl
 have HH:=Aside0.mk (show d42 x = false from by unfold d42;rw [h0];rfl);clear h0;have E:=Env.start hG hn;have HC:=Aside0.mk hb;have HS:=Aside0.mk hs;clear hb hk hs hn hG;go_enter Tryz.func44,Tryz.ntmps44
 go_wp2_with (first
  | (go_at_call 66;with_reducible refine Env.call E E.out HC.out (name.all HS.out E.out.prem) (fun w1 E c0 c1 c2 c3 c4 c5 => ?_))
  | fail)
 replace E:=Aside0.mk (E.out.step (W1:=w1.drew) (below_drew1 (Below.refl _ _)));clear c0 c1 c2 c3 c4 c5;refine start_ (n:=27) (S:=fun w' => w'.cell? ⟨w.heap.size,1,none⟩ = some (.string x.f1) ∧ w'.cell? ⟨w.heap.size,2,none⟩ = some (.int .u32 x.f2) ∧ True) (ds:=[]) (Array.replicate 27 false) (by kernel_rfl) rfl rfl ⟨E.out.cells.2.1,E.out.cells.2.2.1,trivial⟩ (fun hHeld => ?_);refine with_tab (T:=rtab .any (opsOf Tryz.f44 9)) (by kernel_rfl) (fun HT_ => ?_);generalize w1.drew = w7 at E hHeld ⊢;refine rp 0 40 HT_ (h:=?_);refine rt 1 41 HT_ hHeld (h:=?_);refine rp 2 42 HT_ (h:=?_);refine rp 3 43 HT_ (h:=?_);refine ro 4 44 HT_ (h:=?_);refine ro 5 45 HT_ (h:=?_);refine ro 6 46 HT_ (h:=?_);refine rp 7 47 HT_ (h:=?_);refine rp 8 48 HT_ (h:=?_);refine ro 9 49 HT_ (h:=?_);refine ro 10 50 HT_ (h:=?_);refine ro 11 51 HT_ (h:=?_);refine rp 12 52 HT_ (h:=?_);refine rp 13 53 HT_ (h:=?_);refine ro 14 54 HT_ (h:=?_);refine ro 15 55 HT_ (h:=?_);refine ro 16 56 HT_ (h:=?_);refine ro 17 57 HT_ (h:=?_);refine ro 18 58 HT_ (h:=?_);refine rp 19 59 HT_ (h:=?_);refine rp 20 60 HT_ (h:=?_);refine ro 21 61 HT_ (h:=?_);refine ro 22 62 HT_ (h:=?_);refine ro 23 63 HT_ (h:=?_);refine ro 24 64 HT_ (h:=?_);refine rp 25 65 HT_ (h:=?_);refine rp 26 2 HT_ (h:=?_);refine rd_ HT_ ?_;try go_wp2
 go_ret
 exact ⟨by rw [HH.out];rfl,E.out.b⟩
set_option maxHeartbeats 8000000 in
set_option maxRecDepth 100000 in
theorem vars.b {x : S25} {A : Option Addr} {c : Nat} {w : World} (b : Bool) (hb : nmB x.f1 = b) (hk : x.f0 = 42) (hs : Sml x.f1) (h0 : (x.f1.toList == ([] : List UInt8)) = true) (h1 : (x.f2 == 0) = false) (hG : PremW w) (hn : ND w x A c) : Calls Tryz.prog 44 #[val x A c] w (AllP (d42 x) w):=by
 have b40 : (x.f0 == 40) = false:=by rw [hk];rfl
 have b41 : (x.f0 == 41) = false:=by rw [hk];rfl
 have b42 : (x.f0 == 42) = true:=by rw [hk];rfl
 have e0 : (x.f1.toList == ([] : List UInt8)) = true:=h0;have e1 : (x.f1.toList != ([] : List UInt8)) = false:=by rw [bne,h0];rfl
 have e2 : (x.f2 == 0) = false:=h1;have HH:=Aside0.mk (show d42 x = false from by unfold d42;rw [h0,h1];rfl);clear h0 h1;have E:=Env.start hG hn;have HC:=Aside0.mk hb;have HS:=Aside0.mk hs;clear hb hk hs hn hG;go_enter Tryz.func44,Tryz.ntmps44
 go_wp2_with (first
  | (go_at_call 66;with_reducible refine Env.call E E.out HC.out (name.all HS.out E.out.prem) (fun w1 E c0 c1 c2 c3 c4 c5 => ?_))
  | fail)
 replace E:=Aside0.mk (E.out.step (W1:=w1.drew) (below_drew1 (Below.refl _ _)));clear c0 c1 c2 c3 c4 c5;refine start_ (n:=27) (S:=fun w' => w'.cell? ⟨w.heap.size,1,none⟩ = some (.string x.f1) ∧ w'.cell? ⟨w.heap.size,2,none⟩ = some (.int .u32 x.f2) ∧ True) (ds:=[]) (Array.replicate 27 false) (by kernel_rfl) rfl rfl ⟨E.out.cells.2.1,E.out.cells.2.2.1,trivial⟩ (fun hHeld => ?_);refine with_tab (T:=rtab .any (opsOf Tryz.f44 9)) (by kernel_rfl) (fun HT_ => ?_);generalize w1.drew = w7 at E hHeld ⊢;refine rp 0 40 HT_ (h:=?_);refine rt 1 41 HT_ hHeld (h:=?_);refine rp 2 42 HT_ (h:=?_);refine rp 3 43 HT_ (h:=?_);refine rp 4 44 HT_ (h:=?_);refine rt 5 45 HT_ hHeld (h:=?_);refine rp 6 46 HT_ (h:=?_);refine rp 7 47 HT_ (h:=?_);refine rp 8 48 HT_ (h:=?_);refine ro 9 49 HT_ (h:=?_);refine ro 10 50 HT_ (h:=?_);refine ro 11 51 HT_ (h:=?_);refine rp 12 52 HT_ (h:=?_);refine rp 13 53 HT_ (h:=?_);refine ro 14 54 HT_ (h:=?_);refine ro 15 55 HT_ (h:=?_);refine ro 16 56 HT_ (h:=?_);refine ro 17 57 HT_ (h:=?_);refine ro 18 58 HT_ (h:=?_);refine rp 19 59 HT_ (h:=?_);refine rp 20 60 HT_ (h:=?_);refine ro 21 61 HT_ (h:=?_);refine ro 22 62 HT_ (h:=?_);refine ro 23 63 HT_ (h:=?_);refine ro 24 64 HT_ (h:=?_);refine rp 25 65 HT_ (h:=?_);refine rp 26 2 HT_ (h:=?_);refine rd_ HT_ ?_;try go_wp2
 go_ret
 exact ⟨by rw [HH.out];rfl,E.out.b⟩
set_option maxHeartbeats 8000000 in
set_option maxRecDepth 100000 in
theorem vars.c {x : S25} {A : Option Addr} {c : Nat} {w : World} (b : Bool) (hb : nmB x.f1 = b) (hk : x.f0 = 42) (hs : Sml x.f1) (h0 : (x.f1.toList == ([] : List UInt8)) = true) (h1 : (x.f2 == 0) = true) (h2 : ¬ 2 ≤ x.f4.length) (hG : PremW w) (hn : ND w x A c) : Calls Tryz.prog 44 #[val x A c] w (AllP (d42 x) w):=by
 have b40 : (x.f0 == 40) = false:=by rw [hk];rfl
 have b41 : (x.f0 == 41) = false:=by rw [hk];rfl
 have b42 : (x.f0 == 42) = true:=by rw [hk];rfl
 have e0 : (x.f1.toList == ([] : List UInt8)) = true:=h0;have e1 : (x.f1.toList != ([] : List UInt8)) = false:=by rw [bne,h0];rfl
 have e2 : (x.f2 == 0) = true:=h1;have e3 : decide ((x.f4.length : Int) ≥ 2) = false:=decide_eq_false (by omega);have e4 : decide (2 ≤ (x.f4.length : Int)) = false:=e3;have e5 : decide (2 ≤ x.f4.length) = false:=decide_eq_false h2;have HH:=Aside0.mk (show d42 x = false from by unfold d42;rw [h0,h1,e5];rfl);clear h0 h1 h2;have E:=Env.start hG hn;have HC:=Aside0.mk hb;have HS:=Aside0.mk hs;clear hb hk hs hn hG;go_enter Tryz.func44,Tryz.ntmps44
 go_wp2_with (first
  | (go_at_call 66;with_reducible refine Env.call E E.out HC.out (name.all HS.out E.out.prem) (fun w1 E c0 c1 c2 c3 c4 c5 => ?_))
  | fail)
 replace E:=Aside0.mk (E.out.step (W1:=w1.drew) (below_drew1 (Below.refl _ _)));clear c0 c1 c2 c3 c4 c5;refine start_ (n:=27) (S:=fun w' => w'.cell? ⟨w.heap.size,1,none⟩ = some (.string x.f1) ∧ w'.cell? ⟨w.heap.size,2,none⟩ = some (.int .u32 x.f2) ∧ True) (ds:=[]) (Array.replicate 27 false) (by kernel_rfl) rfl rfl ⟨E.out.cells.2.1,E.out.cells.2.2.1,trivial⟩ (fun hHeld => ?_);refine with_tab (T:=rtab .any (opsOf Tryz.f44 9)) (by kernel_rfl) (fun HT_ => ?_);generalize w1.drew = w7 at E hHeld ⊢;refine rp 0 40 HT_ (h:=?_);refine rt 1 41 HT_ hHeld (h:=?_);refine rp 2 42 HT_ (h:=?_);refine rp 3 43 HT_ (h:=?_);refine rp 4 44 HT_ (h:=?_);refine rt 5 45 HT_ hHeld (h:=?_);refine rp 6 46 HT_ (h:=?_);refine rp 7 47 HT_ (h:=?_);refine rp 8 48 HT_ (h:=?_);refine rp 9 49 HT_ (h:=?_);refine rp 10 50 HT_ (h:=?_);refine rp 11 51 HT_ (h:=?_);refine rp 12 52 HT_ (h:=?_);refine rp 13 53 HT_ (h:=?_);refine ro 14 54 HT_ (h:=?_);refine ro 15 55 HT_ (h:=?_);refine ro 16 56 HT_ (h:=?_);refine ro 17 57 HT_ (h:=?_);refine ro 18 58 HT_ (h:=?_);refine rp 19 59 HT_ (h:=?_);refine rp 20 60 HT_ (h:=?_);refine ro 21 61 HT_ (h:=?_);refine ro 22 62 HT_ (h:=?_);refine ro 23 63 HT_ (h:=?_);refine ro 24 64 HT_ (h:=?_);refine rp 25 65 HT_ (h:=?_);refine rp 26 2 HT_ (h:=?_);refine rd_ HT_ ?_;try go_wp2
 go_ret
 exact ⟨by rw [HH.out];rfl,E.out.b⟩
set_option maxHeartbeats 8000000 in
set_option maxRecDepth 100000 in
theorem vars.d {x : S25} {A : Option Addr} {c : Nat} {w : World} (b : Bool) (hb : nmB x.f1 = b) (hk : x.f0 = 42) (hs : Sml x.f1) (h0 : (x.f1.toList == ([] : List UInt8)) = true) (h1 : (x.f2 == 0) = true) (h2 : 2 ≤ x.f4.length) (h16 : (nd x.f4 0).f0 ≠ 16) (hG : PremW w) (hn : ND w x A c) : Calls Tryz.prog 44 #[val x A c] w (AllP (d42 x) w):=by
 have b40 : (x.f0 == 40) = false:=by rw [hk];rfl
 have b41 : (x.f0 == 41) = false:=by rw [hk];rfl
 have b42 : (x.f0 == 42) = true:=by rw [hk];rfl
 have e0 : (x.f1.toList == ([] : List UInt8)) = true:=h0;have e1 : (x.f1.toList != ([] : List UInt8)) = false:=by rw [bne,h0];rfl
 have e2 : (x.f2 == 0) = true:=h1;have e3 : decide ((x.f4.length : Int) ≥ 2) = true:=decide_eq_true (by omega);have e4 : decide (2 ≤ (x.f4.length : Int)) = true:=e3;have e5 : decide (2 ≤ x.f4.length) = true:=decide_eq_true h2;have HH:=Aside0.mk (show d42 x = false from by unfold d42;rw [h0,h1,e5,decide_eq_false h16];rfl);have t16 : ((nd x.f4 0).f0 == 16) = false:=beq_eq_false_iff_ne.2 h16;have hC:=hn.C;have hle:=hn.le;have hmax:=hn.C.2.1;obtain ⟨ad,A1,c1,rfl,_,k0,_⟩:=node_at hC 0 (by omega);rw [Nat.zero_mul,add_zero_] at k0;have HK0:=Aside0.mk k0;have q0 : 0 < x.f4.length:=by omega
 have p1 : (1 : Int) ≤ (x.f4.length : Int):=by omega
 have p2 : 1 ≤ x.f4.length:=by omega
 clear h0 h1 h2 h16 k0 hC hle hmax;have E:=Env.start hG hn;have HC:=Aside0.mk hb;have HS:=Aside0.mk hs;clear hb hk hs hn hG;go_enter Tryz.func44,Tryz.ntmps44
 go_wp2_with (first
  | (go_at_call 66;with_reducible refine Env.call E E.out HC.out (name.all HS.out E.out.prem) (fun w1 E c0 c1 c2 c3 c4 c5 => ?_))
  | fail)
 replace E:=Aside0.mk (E.out.step (W1:=w1.drew) (below_drew1 (Below.refl _ _)));clear c0 c1 c2 c3 c4 c5;refine start_ (n:=27) (S:=fun w' => w'.cell? ⟨w.heap.size,1,none⟩ = some (.string x.f1) ∧ w'.cell? ⟨w.heap.size,2,none⟩ = some (.int .u32 x.f2) ∧ w'.cell? ad = some (.int .i64 (nd x.f4 0).f0)) (ds:=[]) (Array.replicate 27 false) (by kernel_rfl) rfl rfl ⟨E.out.cells.2.1,E.out.cells.2.2.1,pw_cell_below E.out.b HK0.out⟩ (fun hHeld => ?_);refine with_tab (T:=rtab .any (opsOf Tryz.f44 9)) (by kernel_rfl) (fun HT_ => ?_);generalize w1.drew = w7 at E hHeld ⊢;refine rp 0 40 HT_ (h:=?_);refine rt 1 41 HT_ hHeld (h:=?_);refine rp 2 42 HT_ (h:=?_);refine rp 3 43 HT_ (h:=?_);refine rp 4 44 HT_ (h:=?_);refine rt 5 45 HT_ hHeld (h:=?_);refine rp 6 46 HT_ (h:=?_);refine rp 7 47 HT_ (h:=?_);refine rp 8 48 HT_ (h:=?_);refine rp 9 49 HT_ (h:=?_);refine rp 10 50 HT_ (h:=?_);refine rp 11 51 HT_ (h:=?_);refine rp 12 52 HT_ (h:=?_);refine rp 13 53 HT_ (h:=?_);refine rp 14 54 HT_ (h:=?_);refine rp 15 55 HT_ (h:=?_);refine rp 16 56 HT_ (h:=?_);refine rt 17 57 HT_ hHeld (h:=?_);refine rp 18 58 HT_ (h:=?_);refine rp 19 59 HT_ (h:=?_);refine rp 20 60 HT_ (h:=?_);refine ro 21 61 HT_ (h:=?_);refine ro 22 62 HT_ (h:=?_);refine ro 23 63 HT_ (h:=?_);refine ro 24 64 HT_ (h:=?_);refine rp 25 65 HT_ (h:=?_);refine rp 26 2 HT_ (h:=?_);refine rd_ HT_ ?_;try go_wp2
 go_ret
 exact ⟨by rw [HH.out];rfl,E.out.b⟩
set_option maxHeartbeats 8000000 in
set_option maxRecDepth 100000 in
theorem vars.e {x : S25} {A : Option Addr} {c : Nat} {w : World} (b : Bool) (hb : nmB x.f1 = b) (hk : x.f0 = 42) (hs : Sml x.f1) (h0 : (x.f1.toList == ([] : List UInt8)) = true) (h1 : (x.f2 == 0) = true) (h2 : 2 ≤ x.f4.length) (h16 : (nd x.f4 0).f0 = 16) (hG : PremW w) (hn : ND w x A c) : Calls Tryz.prog 44 #[val x A c] w (AllP (d42 x) w):=by
 have b40 : (x.f0 == 40) = false:=by rw [hk];rfl
 have b41 : (x.f0 == 41) = false:=by rw [hk];rfl
 have b42 : (x.f0 == 42) = true:=by rw [hk];rfl
 have e0 : (x.f1.toList == ([] : List UInt8)) = true:=h0;have e1 : (x.f1.toList != ([] : List UInt8)) = false:=by rw [bne,h0];rfl
 have e2 : (x.f2 == 0) = true:=h1;have e3 : decide ((x.f4.length : Int) ≥ 2) = true:=decide_eq_true (by omega);have e4 : decide (2 ≤ (x.f4.length : Int)) = true:=e3;have e5 : decide (2 ≤ x.f4.length) = true:=decide_eq_true h2;have HH:=Aside0.mk (show d42 x = x.f4.tail.all (fun x => decide (x.f0 = 43)) from by unfold d42;rw [h0,h1,e5,decide_eq_true h16];rfl);have t16 : ((nd x.f4 0).f0 == 16) = true:=by rw [h16];rfl
 have hC:=hn.C;have hle:=hn.le;have hmax:=hn.C.2.1;obtain ⟨ad,A1,c1,rfl,_,k0,_⟩:=node_at hC 0 (by omega);rw [Nat.zero_mul,add_zero_] at k0;have HK0:=Aside0.mk k0;have q0 : 0 < x.f4.length:=by omega
 have p1 : (1 : Int) ≤ (x.f4.length : Int):=by omega
 have p2 : 1 ≤ x.f4.length:=by omega
 have hcc : ¬ c = 1:=by omega
 have p3 : x.f4.length ≤ c:=hle;have HSL:=Aside0.mk (show Kd.C k25 w (some ⟨ad.block,ad.off + 6,none⟩) x.f4.tail.length x.f4.tail from by
  have h1:=Kd.C_drop (m:=1) hC (by omega) hle;rw [if_neg hcc,List.drop_one] at h1;exact h1)
 clear h0 h1 h2 h16 k0 hC hle hmax;have E:=Env.start hG hn;have HC:=Aside0.mk hb;have HS:=Aside0.mk hs;clear hb hk hs hn hG;go_enter Tryz.func44,Tryz.ntmps44
 go_wp2_with (first
  | (go_at_call 66;with_reducible refine Env.call E E.out HC.out (name.all HS.out E.out.prem) (fun w1 E c0 c1 c2 c3 c4 c5 => ?_))
  | fail)
 replace E:=Aside0.mk (E.out.step (W1:=w1.drew) (below_drew1 (Below.refl _ _)));clear c0 c1 c2 c3 c4 c5;refine start_ (n:=27) (S:=fun w' => w'.cell? ⟨w.heap.size,1,none⟩ = some (.string x.f1) ∧ w'.cell? ⟨w.heap.size,2,none⟩ = some (.int .u32 x.f2) ∧ w'.cell? ad = some (.int .i64 (nd x.f4 0).f0)) (ds:=[]) (Array.replicate 27 false) (by kernel_rfl) rfl rfl ⟨E.out.cells.2.1,E.out.cells.2.2.1,pw_cell_below E.out.b HK0.out⟩ (fun hHeld => ?_);refine with_tab (T:=rtab .any (opsOf Tryz.f44 9)) (by kernel_rfl) (fun HT_ => ?_);generalize w1.drew = w7 at E hHeld ⊢;refine rp 0 40 HT_ (h:=?_);refine rt 1 41 HT_ hHeld (h:=?_);refine rp 2 42 HT_ (h:=?_);refine rp 3 43 HT_ (h:=?_);refine rp 4 44 HT_ (h:=?_);refine rt 5 45 HT_ hHeld (h:=?_);refine rp 6 46 HT_ (h:=?_);refine rp 7 47 HT_ (h:=?_);refine rp 8 48 HT_ (h:=?_);refine rp 9 49 HT_ (h:=?_);refine rp 10 50 HT_ (h:=?_);refine rp 11 51 HT_ (h:=?_);refine rp 12 52 HT_ (h:=?_);refine rp 13 53 HT_ (h:=?_);refine rp 14 54 HT_ (h:=?_);refine rp 15 55 HT_ (h:=?_);refine rp 16 56 HT_ (h:=?_);refine rt 17 57 HT_ hHeld (h:=?_);refine rp 18 58 HT_ (h:=?_);refine rp 19 59 HT_ (h:=?_);refine rp 20 60 HT_ (h:=?_);refine rp 21 61 HT_ (h:=?_);refine rp 22 62 HT_ (h:=?_);refine rc 23 63 HT_ (h:=fun K hK => ?_);refine goes_ Tryz.func70 (by kernel_rfl) rfl #[.int .i64 43] (by rfl) rfl rfl (by (try simp only [List.map_toArray,List.map_cons,List.map_nil]);first|done|rfl) ((of.all 43 _).mono ?_);rintro e w8 ⟨q,rfl,hq,hB⟩;refine ⟨_,rfl,?_⟩;have HQ:=Aside0.mk hq;clear hq;replace E:=Aside0.mk (E.out.step hB);clear hB;refine hK.out _ _ ⟨E.out.cells.2.1,E.out.cells.2.2.1,pw_cell_below E.out.b HK0.out⟩ (fun hHeld => rn ?_);clear hK K;refine rc 24 64 HT_ (h:=fun K hK => ?_);refine goes_ Tryz.func33 (by kernel_rfl) rfl #[.slice (some ⟨ad.block,ad.off + 6,none⟩) (x.f4.length - 1) (c - 1),.func (.func 94) #[] #[.pointer (some ⟨q,0,none⟩)]] (by rfl) rfl rfl (by (try simp only [List.map_toArray,List.map_cons,List.map_nil]);first|done|rfl) ((every.at (x.f4.length - 1) x.f4.tail List.length_tail (some ⟨ad.block,ad.off + 6,none⟩) _ _ (Kd.C_below HSL.out E.out.b) 94 #[.pointer (some ⟨q,0,none⟩)] (fun x => decide (x.f0 = 43)) (enters_of Tryz.func94 (by kernel_rfl) rfl) (of1.any 43 q _ HQ.out)).mono ?_);rintro e w9 ⟨rfl,hB⟩;refine ⟨_,rfl,?_⟩;replace E:=Aside0.mk (E.out.step hB);clear hB;refine hK.out _ _ ⟨E.out.cells.2.1,E.out.cells.2.2.1,pw_cell_below E.out.b HK0.out⟩ (fun hHeld => rn ?_);clear hK K;refine rp 25 65 HT_ (h:=?_);refine rp 26 2 HT_ (h:=?_);refine rd_ HT_ ?_;try go_wp2
 go_ret
 exact ⟨by rw [HH.out];rfl,E.out.b⟩
theorem declarations.n42 {x : S25} {A : Option Addr} {c : Nat} {w : World} (hk : x.f0 = 42) (hs : Sml x.f1) (hG : PremW w) (hn : ND w x A c) : Calls Tryz.prog 44 #[val x A c] w (AllP (d42 x) w):=by
 cases h0 : (x.f1.toList == ([] : List UInt8)) with
 | false => exact vars.a _ rfl hk hs h0 hG hn
 | true =>
  cases h1 : (x.f2 == 0) with
  | false => exact vars.b _ rfl hk hs h0 h1 hG hn
  | true =>
   by_cases h2 : 2 ≤ x.f4.length
   · by_cases h16 : (nd x.f4 0).f0 = 16
     · exact vars.e _ rfl hk hs h0 h1 h2 h16 hG hn
     · exact vars.d _ rfl hk hs h0 h1 h2 h16 hG hn
   · exact vars.c _ rfl hk hs h0 h1 h2 hG hn
end Go.Proofs.YtboojhadfhpdeaaGreatDoor.Q
namespace Go.Proofs.YtboojhadfhpdeaaGreatDoor.Q
open Go.RowKit Go.Proofs.YtboojhadfhpdeaaGreatDoorW.PrintWords Go.Proofs.YtboojhadfhpdeaaGreatDoorW.PrintLast Go.Proofs.YtboojhadfhpdeaaGreatDoorW.PrintMore
set_option linter.unusedVariables false
set_option linter.unusedSimpArgs false
def exprsB (x : S25) : Bool:=if x.f0 = 1 then e1 x else if x.f0 = 2 then e2 x else if x.f0 = 3 then e3 x else if x.f0 = 4 then e4 x else if x.f0 = 5 then e5 x else if x.f0 = 6 then e6 x else if x.f0 = 7 then e6 x else if x.f0 = 8 then e8 x else if x.f0 = 9 then e9 x else if x.f0 = 10 then e10 x else if x.f0 = 11 then e11 x else if x.f0 = 12 then e12 x else if x.f0 = 13 then e13 x else if x.f0 = 14 then e14 x else if x.f0 = 15 then e15 x else if x.f0 = 16 then e16 x else false
noncomputable def stmtB (x : S25) : Bool:=if x.f0 = 47 then s47 x else if x.f0 = 48 then s48 x else if x.f0 = 49 then s49 x else if x.f0 = 50 then s50 x else if x.f0 = 51 then s51 x else if x.f0 = 52 then s52 x else if x.f0 = 55 then s55 x else s0 x
def declB (x : S25) : Bool:=if x.f0 = 40 then d40 x else if x.f0 = 41 then d41 x else if x.f0 = 42 then d42 x else if x.f0 = 43 then d43 x else if x.f0 = 44 then d44 x else if x.f0 = 45 then d45 x else if x.f0 = 46 then d46 x else false
def eNo (x : S25) : Bool:=false
set_option maxHeartbeats 8000000 in
set_option maxRecDepth 100000 in
theorem expressions.other {x : S25} {A : Option Addr} {c : Nat} {w : World} (h1 : x.f0 ≠ 1) (h2 : x.f0 ≠ 2) (h3 : x.f0 ≠ 3) (h4 : x.f0 ≠ 4) (h5 : x.f0 ≠ 5) (h6 : x.f0 ≠ 6) (h7 : x.f0 ≠ 7) (h8 : x.f0 ≠ 8) (h9 : x.f0 ≠ 9) (h10 : x.f0 ≠ 10) (h11 : x.f0 ≠ 11) (h12 : x.f0 ≠ 12) (h13 : x.f0 ≠ 13) (h14 : x.f0 ≠ 14) (h15 : x.f0 ≠ 15) (h16 : x.f0 ≠ 16) (hG : PremW w) (hn : ND w x A c) : Calls Tryz.prog 41 #[val x A c] w (AllP (eNo x) w):=by
 have E:=Env.start hG hn;clear hn hG;have b1 : (x.f0 == 1) = false:=beq_eq_false_iff_ne.2 h1;have b2 : (x.f0 == 2) = false:=beq_eq_false_iff_ne.2 h2;have b3 : (x.f0 == 3) = false:=beq_eq_false_iff_ne.2 h3;have b4 : (x.f0 == 4) = false:=beq_eq_false_iff_ne.2 h4;have b5 : (x.f0 == 5) = false:=beq_eq_false_iff_ne.2 h5;have b6 : (x.f0 == 6) = false:=beq_eq_false_iff_ne.2 h6;have b7 : (x.f0 == 7) = false:=beq_eq_false_iff_ne.2 h7;have b8 : (x.f0 == 8) = false:=beq_eq_false_iff_ne.2 h8;have b9 : (x.f0 == 9) = false:=beq_eq_false_iff_ne.2 h9;have b10 : (x.f0 == 10) = false:=beq_eq_false_iff_ne.2 h10;have b11 : (x.f0 == 11) = false:=beq_eq_false_iff_ne.2 h11;have b12 : (x.f0 == 12) = false:=beq_eq_false_iff_ne.2 h12;have b13 : (x.f0 == 13) = false:=beq_eq_false_iff_ne.2 h13;have b14 : (x.f0 == 14) = false:=beq_eq_false_iff_ne.2 h14;have b15 : (x.f0 == 15) = false:=beq_eq_false_iff_ne.2 h15;have b16 : (x.f0 == 16) = false:=beq_eq_false_iff_ne.2 h16;clear h1 h2 h3 h4 h5 h6 h7 h8 h9 h10 h11 h12 h13 h14 h15 h16;cases h0 : (x.f1.toList == ([] : List UInt8));all_goals
  try have h0m0 : (x.f1.toList != ([] : List UInt8)) = false:=by rw [bne,h0];rfl
  try have h0m0 : (x.f1.toList != ([] : List UInt8)) = true:=by rw [bne,h0];rfl
  go_enter Tryz.func41,Tryz.ntmps41
  go_wp2
  go_ret
  exact ⟨by unfold eNo;first|done|rfl,fin_⟩
section
variable {x : S25} {A : Option Addr} {c : Nat} {w : World}
theorem expressions.all (hs : Sml x.f1) (hG : PremW w) (hn : ND w x A c) : Calls Tryz.prog 41 #[val x A c] w (AllP (exprsB x) w):=by
 by_cases h1 : x.f0 = 1
 · rw [show exprsB x = e1 x from by unfold exprsB;rw [ if_pos h1]];exact expressions.k1 h1 hG hn
 by_cases h2 : x.f0 = 2
 · rw [show exprsB x = e2 x from by unfold exprsB;rw [if_neg h1,if_pos h2]];exact expressions.k2 h2 hG hn
 by_cases h3 : x.f0 = 3
 · rw [show exprsB x = e3 x from by unfold exprsB;rw [if_neg h1,if_neg h2,if_pos h3]];exact expressions.k3 h3 hG hn
 by_cases h4 : x.f0 = 4
 · rw [show exprsB x = e4 x from by unfold exprsB;rw [if_neg h1,if_neg h2,if_neg h3,if_pos h4]];exact expressions.k4 h4 hs hG hn
 by_cases h5 : x.f0 = 5
 · rw [show exprsB x = e5 x from by unfold exprsB;rw [if_neg h1,if_neg h2,if_neg h3,if_neg h4,if_pos h5]];exact expressions.k5 h5 hG hn
 by_cases h6 : x.f0 = 6
 · rw [show exprsB x = e6 x from by unfold exprsB;rw [if_neg h1,if_neg h2,if_neg h3,if_neg h4,if_neg h5,if_pos h6]];exact expressions.k6 h6 hs hG hn
 by_cases h7 : x.f0 = 7
 · rw [show exprsB x = e6 x from by unfold exprsB;rw [if_neg h1,if_neg h2,if_neg h3,if_neg h4,if_neg h5,if_neg h6,if_pos h7]];exact expressions.k7 h7 hs hG hn
 by_cases h8 : x.f0 = 8
 · rw [show exprsB x = e8 x from by unfold exprsB;rw [if_neg h1,if_neg h2,if_neg h3,if_neg h4,if_neg h5,if_neg h6,if_neg h7,if_pos h8]];exact expressions.k8 h8 hs hG hn
 by_cases h9 : x.f0 = 9
 · rw [show exprsB x = e9 x from by unfold exprsB;rw [if_neg h1,if_neg h2,if_neg h3,if_neg h4,if_neg h5,if_neg h6,if_neg h7,if_neg h8,if_pos h9]];exact expressions.k9 h9 hs hG hn
 by_cases h10 : x.f0 = 10
 · rw [show exprsB x = e10 x from by unfold exprsB;rw [if_neg h1,if_neg h2,if_neg h3,if_neg h4,if_neg h5,if_neg h6,if_neg h7,if_neg h8,if_neg h9,if_pos h10]];exact expressions.k10 h10 hs hG hn
 by_cases h11 : x.f0 = 11
 · rw [show exprsB x = e11 x from by unfold exprsB;rw [if_neg h1,if_neg h2,if_neg h3,if_neg h4,if_neg h5,if_neg h6,if_neg h7,if_neg h8,if_neg h9,if_neg h10,if_pos h11]];exact expressions.k11 h11 hs hG hn
 by_cases h12 : x.f0 = 12
 · rw [show exprsB x = e12 x from by unfold exprsB;rw [if_neg h1,if_neg h2,if_neg h3,if_neg h4,if_neg h5,if_neg h6,if_neg h7,if_neg h8,if_neg h9,if_neg h10,if_neg h11,if_pos h12]];exact expressions.k12 h12 hG hn
 by_cases h13 : x.f0 = 13
 · rw [show exprsB x = e13 x from by unfold exprsB;rw [if_neg h1,if_neg h2,if_neg h3,if_neg h4,if_neg h5,if_neg h6,if_neg h7,if_neg h8,if_neg h9,if_neg h10,if_neg h11,if_neg h12,if_pos h13]];exact expressions.k13 h13 hs hG hn
 by_cases h14 : x.f0 = 14
 · rw [show exprsB x = e14 x from by unfold exprsB;rw [if_neg h1,if_neg h2,if_neg h3,if_neg h4,if_neg h5,if_neg h6,if_neg h7,if_neg h8,if_neg h9,if_neg h10,if_neg h11,if_neg h12,if_neg h13,if_pos h14]];exact expressions.k14 h14 hG hn
 by_cases h15 : x.f0 = 15
 · rw [show exprsB x = e15 x from by unfold exprsB;rw [if_neg h1,if_neg h2,if_neg h3,if_neg h4,if_neg h5,if_neg h6,if_neg h7,if_neg h8,if_neg h9,if_neg h10,if_neg h11,if_neg h12,if_neg h13,if_neg h14,if_pos h15]];exact expressions.k15 h15 hG hn
 by_cases h16 : x.f0 = 16
 · rw [show exprsB x = e16 x from by unfold exprsB;rw [if_neg h1,if_neg h2,if_neg h3,if_neg h4,if_neg h5,if_neg h6,if_neg h7,if_neg h8,if_neg h9,if_neg h10,if_neg h11,if_neg h12,if_neg h13,if_neg h14,if_neg h15,if_pos h16]];exact expressions.k16 h16 hs hG hn
 rw [show exprsB x = eNo x from by unfold exprsB eNo;rw [if_neg h1,if_neg h2,if_neg h3,if_neg h4,if_neg h5,if_neg h6,if_neg h7,if_neg h8,if_neg h9,if_neg h10,if_neg h11,if_neg h12,if_neg h13,if_neg h14,if_neg h15,if_neg h16]];exact expressions.other h1 h2 h3 h4 h5 h6 h7 h8 h9 h10 h11 h12 h13 h14 h15 h16 hG hn
theorem statements.all (hG : PremW w) (hn : ND w x A c) : Calls Tryz.prog 43 #[val x A c] w (AllP (stmtB x) w):=by
 by_cases h47 : x.f0 = 47
 · rw [show stmtB x = s47 x from by unfold stmtB;rw [ if_pos h47]];exact statements.n47 h47 hG hn
 by_cases h48 : x.f0 = 48
 · rw [show stmtB x = s48 x from by unfold stmtB;rw [if_neg h47,if_pos h48]];exact statements.n48 h48 hG hn
 by_cases h49 : x.f0 = 49
 · rw [show stmtB x = s49 x from by unfold stmtB;rw [if_neg h47,if_neg h48,if_pos h49]];exact statements.n49 h49 hG hn
 by_cases h50 : x.f0 = 50
 · rw [show stmtB x = s50 x from by unfold stmtB;rw [if_neg h47,if_neg h48,if_neg h49,if_pos h50]];exact statements.n50 h50 hG hn
 by_cases h51 : x.f0 = 51
 · rw [show stmtB x = s51 x from by unfold stmtB;rw [if_neg h47,if_neg h48,if_neg h49,if_neg h50,if_pos h51]];exact statements.n51 h51 hG hn
 by_cases h52 : x.f0 = 52
 · rw [show stmtB x = s52 x from by unfold stmtB;rw [if_neg h47,if_neg h48,if_neg h49,if_neg h50,if_neg h51,if_pos h52]];exact statements.n52 h52 hG hn
 by_cases h55 : x.f0 = 55
 · rw [show stmtB x = s55 x from by unfold stmtB;rw [if_neg h47,if_neg h48,if_neg h49,if_neg h50,if_neg h51,if_neg h52,if_pos h55]];exact statements.n55 h55 hG hn
 rw [show stmtB x = s0 x from by unfold stmtB ;rw [if_neg h47,if_neg h48,if_neg h49,if_neg h50,if_neg h51,if_neg h52,if_neg h55]];exact statements.n0 h47 h48 h49 h50 h51 h52 h55 hG hn
theorem declarations.all (hs : Sml x.f1) (hG : PremW w) (hn : ND w x A c) : Calls Tryz.prog 44 #[val x A c] w (AllP (declB x) w):=by
 by_cases h40 : x.f0 = 40
 · rw [show declB x = d40 x from by unfold declB;rw [ if_pos h40]];exact declarations.n40 h40 hs hG hn
 by_cases h41 : x.f0 = 41
 · rw [show declB x = d41 x from by unfold declB;rw [if_neg h40,if_pos h41]];exact declarations.n41 h41 hs hG hn
 by_cases h42 : x.f0 = 42
 · rw [show declB x = d42 x from by unfold declB;rw [if_neg h40,if_neg h41,if_pos h42]];exact declarations.n42 h42 hs hG hn
 by_cases h43 : x.f0 = 43
 · rw [show declB x = d43 x from by unfold declB;rw [if_neg h40,if_neg h41,if_neg h42,if_pos h43]];exact declarations.n43 h43 hs hG hn
 by_cases h44 : x.f0 = 44
 · rw [show declB x = d44 x from by unfold declB;rw [if_neg h40,if_neg h41,if_neg h42,if_neg h43,if_pos h44]];exact declarations.n44 h44 hs hG hn
 by_cases h45 : x.f0 = 45
 · rw [show declB x = d45 x from by unfold declB;rw [if_neg h40,if_neg h41,if_neg h42,if_neg h43,if_neg h44,if_pos h45]];exact declarations.n45 h45 hs hG hn
 by_cases h46 : x.f0 = 46
 · rw [show declB x = d46 x from by unfold declB;rw [if_neg h40,if_neg h41,if_neg h42,if_neg h43,if_neg h44,if_neg h45,if_pos h46]];exact declarations.n46 h46 hs hG hn
 rw [show declB x = d0 x from by unfold declB d0;rw [if_neg h40,if_neg h41,if_neg h42,if_neg h43,if_neg h44,if_neg h45,if_neg h46]];exact declarations.n0 h40 h41 h42 h43 h44 h45 h46 hs hG hn
end
end Go.Proofs.YtboojhadfhpdeaaGreatDoor.Q
namespace Go.Proofs.YtboojhadfhpdeaaGreatDoor.Q
open Go.RowKit Go.Proofs.YtboojhadfhpdeaaGreatDoorW.PrintWords Go.Proofs.YtboojhadfhpdeaaGreatDoorW.PrintLast Go.Proofs.YtboojhadfhpdeaaGreatDoorW.PrintMore
set_option linter.unusedVariables false
set_option linter.unusedSimpArgs false
noncomputable def itB (x : S25) : Bool:=(if ((isE x) || (x.f0 == 16)) = true then (exprsB x) else (if (isS x) = true then (stmtB x) else (declB x)))
set_option maxHeartbeats 8000000 in
set_option maxRecDepth 100000 in
theorem itself.k1 {x : S25} {A : Option Addr} {c : Nat} {w : World} (hk : x.f0 = 1) (hs : Sml x.f1) (hG : PremW w) (hn : ND w x A c) : Calls Tryz.prog 32 #[val x A c] w (AllP (itB x) w):=by
 have E:=Env.start hG hn;clear hn hG;have b1 : (x.f0 == 1) = true:=by rw [hk];rfl
 have HK:=Aside0.mk hk;clear hk;have HS:=Aside0.mk hs;clear hs;cases h0 : (isE x);cases h2 : (x.f0 == 16);cases h3 : (isS x);cases h5 : (declB x);rotate_left 2;cases h4 : (stmtB x);rotate_right 2
 rotate_left 4;cases h1 : (exprsB x);rotate_right 4
 rotate_left 6;cases h1 : (exprsB x);rotate_right 6
 all_goals
  try (have HC0:=Aside0.mk h0;clear h0)
  try (have HC1:=Aside0.mk h1;clear h1)
  try (have HC3:=Aside0.mk h3;clear h3)
  try (have HC4:=Aside0.mk h4;clear h4)
  try (have HC5:=Aside0.mk h5;clear h5)
  go_enter Tryz.func32,Tryz.ntmps32
  go_wp2_with (first
   | (go_at_call 40;(try clear c0 c1 c2 c3 c4 c5);(with_reducible refine Env.call E E.out HC0.out (expression.all E.out.nd) (fun w1 E c0 c1 c2 c3 c4 c5 => ?_)))
   | (go_at_call 41;(try clear c0 c1 c2 c3 c4 c5);(with_reducible refine Env.call E E.out HC1.out (expressions.all HS.out E.out.prem E.out.nd) (fun w1 E c0 c1 c2 c3 c4 c5 => ?_)))
   | (go_at_call 42;(try clear c0 c1 c2 c3 c4 c5);(with_reducible refine Env.call E E.out HC3.out (statement.all E.out.nd) (fun w1 E c0 c1 c2 c3 c4 c5 => ?_)))
   | (go_at_call 43;(try clear c0 c1 c2 c3 c4 c5);(with_reducible refine Env.call E E.out HC4.out (statements.all E.out.prem E.out.nd) (fun w1 E c0 c1 c2 c3 c4 c5 => ?_)))
   | (go_at_call 44;(try clear c0 c1 c2 c3 c4 c5);(with_reducible refine Env.call E E.out HC5.out (declarations.all HS.out E.out.prem E.out.nd) (fun w1 E c0 c1 c2 c3 c4 c5 => ?_)))
   | fail)
  go_ret
  exact ⟨by unfold itB;(try rw [HC0.out]);(try rw [HC1.out]);(try rw [h2]);(try rw [HC3.out]);(try rw [HC4.out]);(try rw [HC5.out]);first|done|rfl,fin_⟩
set_option maxHeartbeats 8000000 in
set_option maxRecDepth 100000 in
theorem itself.k43 {x : S25} {A : Option Addr} {c : Nat} {w : World} (hk : x.f0 = 43) (hs : Sml x.f1) (hG : PremW w) (hn : ND w x A c) : Calls Tryz.prog 32 #[val x A c] w (AllP (itB x) w):=by
 have E:=Env.start hG hn;clear hn hG;have b1 : (x.f0 == 1) = false:=by rw [hk];rfl
 have b43 : (x.f0 == 43) = true:=by rw [hk];rfl
 have HK:=Aside0.mk hk;clear hk;have HS:=Aside0.mk hs;clear hs;cases h0 : (isE x);cases h2 : (x.f0 == 16);cases h3 : (isS x);cases h5 : (declB x);rotate_left 2;cases h4 : (stmtB x);rotate_right 2
 rotate_left 4;cases h1 : (exprsB x);rotate_right 4
 rotate_left 6;cases h1 : (exprsB x);rotate_right 6
 all_goals
  try (have HC0:=Aside0.mk h0;clear h0)
  try (have HC1:=Aside0.mk h1;clear h1)
  try (have HC3:=Aside0.mk h3;clear h3)
  try (have HC4:=Aside0.mk h4;clear h4)
  try (have HC5:=Aside0.mk h5;clear h5)
  go_enter Tryz.func32,Tryz.ntmps32
  go_wp2_with (first
   | (go_at_call 40;(try clear c0 c1 c2 c3 c4 c5);(with_reducible refine Env.call E E.out HC0.out (expression.all E.out.nd) (fun w1 E c0 c1 c2 c3 c4 c5 => ?_)))
   | (go_at_call 41;(try clear c0 c1 c2 c3 c4 c5);(with_reducible refine Env.call E E.out HC1.out (expressions.all HS.out E.out.prem E.out.nd) (fun w1 E c0 c1 c2 c3 c4 c5 => ?_)))
   | (go_at_call 42;(try clear c0 c1 c2 c3 c4 c5);(with_reducible refine Env.call E E.out HC3.out (statement.all E.out.nd) (fun w1 E c0 c1 c2 c3 c4 c5 => ?_)))
   | (go_at_call 43;(try clear c0 c1 c2 c3 c4 c5);(with_reducible refine Env.call E E.out HC4.out (statements.all E.out.prem E.out.nd) (fun w1 E c0 c1 c2 c3 c4 c5 => ?_)))
   | (go_at_call 44;(try clear c0 c1 c2 c3 c4 c5);(with_reducible refine Env.call E E.out HC5.out (declarations.all HS.out E.out.prem E.out.nd) (fun w1 E c0 c1 c2 c3 c4 c5 => ?_)))
   | fail)
  go_ret
  exact ⟨by unfold itB;(try rw [HC0.out]);(try rw [HC1.out]);(try rw [h2]);(try rw [HC3.out]);(try rw [HC4.out]);(try rw [HC5.out]);first|done|rfl,fin_⟩
set_option maxHeartbeats 8000000 in
set_option maxRecDepth 100000 in
theorem itself.k46 {x : S25} {A : Option Addr} {c : Nat} {w : World} (hk : x.f0 = 46) (hs : Sml x.f1) (hG : PremW w) (hn : ND w x A c) : Calls Tryz.prog 32 #[val x A c] w (AllP (itB x) w):=by
 have E:=Env.start hG hn;clear hn hG;have b1 : (x.f0 == 1) = false:=by rw [hk];rfl
 have b43 : (x.f0 == 43) = false:=by rw [hk];rfl
 have b46 : (x.f0 == 46) = true:=by rw [hk];rfl
 have HK:=Aside0.mk hk;clear hk;have HS:=Aside0.mk hs;clear hs;cases h0 : (isE x);cases h2 : (x.f0 == 16);cases h3 : (isS x);cases h5 : (declB x);rotate_left 2;cases h4 : (stmtB x);rotate_right 2
 rotate_left 4;cases h1 : (exprsB x);rotate_right 4
 rotate_left 6;cases h1 : (exprsB x);rotate_right 6
 all_goals
  try (have HC0:=Aside0.mk h0;clear h0)
  try (have HC1:=Aside0.mk h1;clear h1)
  try (have HC3:=Aside0.mk h3;clear h3)
  try (have HC4:=Aside0.mk h4;clear h4)
  try (have HC5:=Aside0.mk h5;clear h5)
  go_enter Tryz.func32,Tryz.ntmps32
  go_wp2_with (first
   | (go_at_call 40;(try clear c0 c1 c2 c3 c4 c5);(with_reducible refine Env.call E E.out HC0.out (expression.all E.out.nd) (fun w1 E c0 c1 c2 c3 c4 c5 => ?_)))
   | (go_at_call 41;(try clear c0 c1 c2 c3 c4 c5);(with_reducible refine Env.call E E.out HC1.out (expressions.all HS.out E.out.prem E.out.nd) (fun w1 E c0 c1 c2 c3 c4 c5 => ?_)))
   | (go_at_call 42;(try clear c0 c1 c2 c3 c4 c5);(with_reducible refine Env.call E E.out HC3.out (statement.all E.out.nd) (fun w1 E c0 c1 c2 c3 c4 c5 => ?_)))
   | (go_at_call 43;(try clear c0 c1 c2 c3 c4 c5);(with_reducible refine Env.call E E.out HC4.out (statements.all E.out.prem E.out.nd) (fun w1 E c0 c1 c2 c3 c4 c5 => ?_)))
   | (go_at_call 44;(try clear c0 c1 c2 c3 c4 c5);(with_reducible refine Env.call E E.out HC5.out (declarations.all HS.out E.out.prem E.out.nd) (fun w1 E c0 c1 c2 c3 c4 c5 => ?_)))
   | fail)
  go_ret
  exact ⟨by unfold itB;(try rw [HC0.out]);(try rw [HC1.out]);(try rw [h2]);(try rw [HC3.out]);(try rw [HC4.out]);(try rw [HC5.out]);first|done|rfl,fin_⟩
def itNo (x : S25) : Bool:=false
set_option maxHeartbeats 8000000 in
set_option maxRecDepth 100000 in
theorem itself.flag {x : S25} {A : Option Addr} {c : Nat} {w : World} (h1 : x.f0 ≠ 1) (h43 : x.f0 ≠ 43) (h46 : x.f0 ≠ 46) (hf : x.f3 = true) (hG : PremW w) (hn : ND w x A c) : Calls Tryz.prog 32 #[val x A c] w (AllP (itNo x) w):=by
 have E:=Env.start hG hn;clear hn hG;have b1 : (x.f0 == 1) = false:=beq_eq_false_iff_ne.2 h1;have b43 : (x.f0 == 43) = false:=beq_eq_false_iff_ne.2 h43;have b46 : (x.f0 == 46) = false:=beq_eq_false_iff_ne.2 h46;clear h1 h43 h46;go_enter Tryz.func32,Tryz.ntmps32
 go_wp2
 go_ret
 exact ⟨by unfold itNo;first|done|rfl,fin_⟩
set_option maxHeartbeats 8000000 in
set_option maxRecDepth 100000 in
theorem itself.plain {f0 : Int} {f1 : ByteArray} {f2 : Int} {l : List S25} {p : Int} {A : Option Addr} {c : Nat} {w : World} (h1 : f0 ≠ 1) (h43 : f0 ≠ 43) (h46 : f0 ≠ 46) (hs : Sml f1) (hG : PremW w) (hn : ND w ⟨f0,f1,f2,false,l,p⟩ A c) : Calls Tryz.prog 32 #[val ⟨f0,f1,f2,false,l,p⟩ A c] w (AllP (itB ⟨f0,f1,f2,false,l,p⟩) w):=by
 have E:=Env.start hG hn;clear hn hG;have b1 : (f0 == 1) = false:=beq_eq_false_iff_ne.2 h1;have b43 : (f0 == 43) = false:=beq_eq_false_iff_ne.2 h43;have b46 : (f0 == 46) = false:=beq_eq_false_iff_ne.2 h46;clear h1 h43 h46;have HS:=Aside0.mk hs;clear hs;cases h0 : (isE ⟨f0,f1,f2,false,l,p⟩);cases h2 : (f0 == 16);cases h3 : (isS ⟨f0,f1,f2,false,l,p⟩);cases h5 : (declB ⟨f0,f1,f2,false,l,p⟩);rotate_left 2;cases h4 : (stmtB ⟨f0,f1,f2,false,l,p⟩);rotate_right 2
 rotate_left 4;cases h1 : (exprsB ⟨f0,f1,f2,false,l,p⟩);rotate_right 4
 rotate_left 6;cases h1 : (exprsB ⟨f0,f1,f2,false,l,p⟩);rotate_right 6
 all_goals
  try (have HC0:=Aside0.mk h0;clear h0)
  try (have HC1:=Aside0.mk h1;clear h1)
  try (have HC3:=Aside0.mk h3;clear h3)
  try (have HC4:=Aside0.mk h4;clear h4)
  try (have HC5:=Aside0.mk h5;clear h5)
  go_enter Tryz.func32,Tryz.ntmps32
  go_wp2_with (first
   | (go_at_call 40;(try clear c0 c1 c2 c3 c4 c5);(with_reducible refine Env.call E E.out HC0.out (expression.all E.out.nd) (fun w1 E c0 c1 c2 c3 c4 c5 => ?_)))
   | (go_at_call 41;(try clear c0 c1 c2 c3 c4 c5);(with_reducible refine Env.call E E.out HC1.out (expressions.all HS.out E.out.prem E.out.nd) (fun w1 E c0 c1 c2 c3 c4 c5 => ?_)))
   | (go_at_call 42;(try clear c0 c1 c2 c3 c4 c5);(with_reducible refine Env.call E E.out HC3.out (statement.all E.out.nd) (fun w1 E c0 c1 c2 c3 c4 c5 => ?_)))
   | (go_at_call 43;(try clear c0 c1 c2 c3 c4 c5);(with_reducible refine Env.call E E.out HC4.out (statements.all E.out.prem E.out.nd) (fun w1 E c0 c1 c2 c3 c4 c5 => ?_)))
   | (go_at_call 44;(try clear c0 c1 c2 c3 c4 c5);(with_reducible refine Env.call E E.out HC5.out (declarations.all HS.out E.out.prem E.out.nd) (fun w1 E c0 c1 c2 c3 c4 c5 => ?_)))
   | fail)
  go_ret
  exact ⟨by unfold itB;(try rw [HC0.out]);(try rw [HC1.out]);(try rw [h2]);(try rw [HC3.out]);(try rw [HC4.out]);(try rw [HC5.out]);first|done|rfl,fin_⟩
noncomputable def itselfB (x : S25) : Bool:=if x.f0 = 1 ∨ x.f0 = 43 ∨ x.f0 = 46 then itB x else !x.f3 && itB x
theorem itself.all {x : S25} {A : Option Addr} {c : Nat} {w : World} (hs : Sml x.f1) (hG : PremW w) (hn : ND w x A c) : Calls Tryz.prog 32 #[val x A c] w (AllP (itselfB x) w):=by
 by_cases h1 : x.f0 = 1
 · rw [show itselfB x = itB x from by unfold itselfB;rw [if_pos (Or.inl h1)]];exact itself.k1 h1 hs hG hn
 · by_cases h43 : x.f0 = 43
   · rw [show itselfB x = itB x from by unfold itselfB;rw [if_pos (Or.inr (Or.inl h43))]];exact itself.k43 h43 hs hG hn
   · by_cases h46 : x.f0 = 46
     · rw [show itselfB x = itB x from by unfold itselfB;rw [if_pos (Or.inr (Or.inr h46))]];exact itself.k46 h46 hs hG hn
     · have hno : ¬ (x.f0 = 1 ∨ x.f0 = 43 ∨ x.f0 = 46):=by omega
       cases hf : x.f3 with
       | true =>
        rw [show itselfB x = itNo x from by unfold itselfB itNo;rw [if_neg hno,hf];rfl];exact itself.flag h1 h43 h46 hf hG hn
       | false =>
        rw [show itselfB x = itB x from by unfold itselfB;rw [if_neg hno,hf];rfl];obtain ⟨f0,f1,f2,f3,l,p⟩:=x;obtain rfl : f3 = false:=hf;exact itself.plain h1 h43 h46 hs hG hn
end Go.Proofs.YtboojhadfhpdeaaGreatDoor.Q
namespace Go.Proofs.YtboojhadfhpdeaaGreatDoor.Q
open Go.RowKit Go.Proofs.YtboojhadfhpdeaaGreatDoorW.PrintWords Go.Proofs.YtboojhadfhpdeaaGreatDoorW.PrintLast Go.Proofs.YtboojhadfhpdeaaGreatDoorW.PrintMore
set_option linter.unusedVariables false
set_option linter.unusedSimpArgs false
inductive SmlT : S25 → Prop
 | mk (x : S25) (h : Sml x.f1) (hk : ∀ y ∈ x.f4,SmlT y) : SmlT x
theorem SmlT.str {x : S25} (h : SmlT x) : Sml x.f1:=by cases h;assumption
theorem SmlT.kid {x y : S25} (h : SmlT x) (hy : y ∈ x.f4) : SmlT y:=by
 cases h with
 | mk _ _ hk => exact hk y hy
noncomputable def mayN : Nat → S25 → Bool
 | 0,_ => false
 | n + 1,x => itselfB x && x.f4.all (mayN n)
noncomputable def mayT (x : S25) : Bool:=mayN (SizeOf.sizeOf x + 1) x
theorem mayN_eq : ∀ (n m : Nat) (x : S25),SizeOf.sizeOf x < n → SizeOf.sizeOf x < m → mayN n x = mayN m x
 | 0,_,x,h,_ => absurd h (Nat.not_lt_zero _)
 | _ + 1,0,x,_,h => absurd h (Nat.not_lt_zero _)
 | n + 1,m + 1,x,h1,h2 => by
  unfold mayN;congr 1;rw [Bool.eq_iff_iff,List.all_eq_true,List.all_eq_true];have e : ∀ y ∈ x.f4,mayN n y = mayN m y:=fun y hy => mayN_eq n m y (by have:=size_kid hy;omega) (by have:=size_kid hy;omega)
  exact ⟨fun h y hy => by rw [← e y hy];exact h y hy,fun h y hy => by rw [e y hy];exact h y hy⟩
noncomputable def mayS (x : S25) : Bool:=(itselfB x) && (x.f4.all mayT)
theorem mayT_eq (x : S25) : mayT x = mayS x:=by
 show (itselfB x && x.f4.all (mayN (SizeOf.sizeOf x))) = _
 unfold mayS;congr 1;rw [Bool.eq_iff_iff,List.all_eq_true,List.all_eq_true];have e : ∀ y ∈ x.f4,mayN (SizeOf.sizeOf x) y = mayT y:=fun y hy => mayN_eq _ _ y (size_kid hy) (Nat.lt_succ_self _)
 exact ⟨fun h y hy => by rw [← e y hy];exact h y hy,fun h y hy => by rw [e y hy];exact h y hy⟩
set_option maxHeartbeats 8000000 in
set_option maxRecDepth 100000 in
theorem may.step {x : S25} {A : Option Addr} {c : Nat} {w : World} (hs : Sml x.f1) (ha : Asks 20 #[] mayT x.f4 w) (hG : PremW w) (hn : ND w x A c) : Calls Tryz.prog 20 #[val x A c] w (AllP (mayS x) w):=by
 have E:=Env.start hG hn;clear hn hG;have HS:=Aside0.mk hs;clear hs;have HA:=Aside0.mk ha;clear ha;cases h0 : (itselfB x);rotate_left 1;cases h1 : (x.f4.all mayT);rotate_right 1
 all_goals
  try (have HC0:=Aside0.mk h0;clear h0)
  try (have HC1:=Aside0.mk h1;clear h1)
  go_enter Tryz.func20,Tryz.ntmps20
  go_wp2_with (first
   | (go_at_call 32;(try clear c0 c1 c2 c3 c4 c5);(with_reducible refine Env.call E E.out HC0.out (itself.all HS.out E.out.prem E.out.nd) (fun w1 E c0 c1 c2 c3 c4 c5 => ?_)))
   | (go_at_call 33;(try clear c0 c1 c2 c3 c4 c5);(with_reducible refine Env.call E E.out HC1.out (every.calls x.f4 A c _ E.out.kids 20 #[] mayT (enters_of Tryz.func20 (by kernel_rfl) rfl) (HA.out.below E.out.b)) (fun w1 E c0 c1 c2 c3 c4 c5 => ?_)))
   | fail)
  go_ret
  exact ⟨by unfold mayS;(try rw [HC0.out]);(try rw [HC1.out]);first|done|rfl,fin_⟩
theorem may.fuel : ∀ (n : Nat) (x : S25),SizeOf.sizeOf x < n → SmlT x → ∀ (A : Option Addr) (c : Nat) (w : World),PremW w → ND w x A c → Calls Tryz.prog 20 #[val x A c] w (AllP (mayT x) w)
 | 0,_,h,_,_,_,_,_,_ => absurd h (Nat.not_lt_zero _)
 | n + 1,x,h,hs,A,c,w,hG,hn => by
  rw [mayT_eq];exact may.step hs.str (fun y hy W A c hW hn => by rw [Array.append_empty];exact may.fuel n y (by have:=size_kid hy;omega) (hs.kid hy) A c W (hG.below hW) hn) hG hn
theorem may.all {x : S25} {A : Option Addr} {c : Nat} {w : World} (hs : SmlT x) (hG : PremW w) (hn : ND w x A c) : Calls Tryz.prog 20 #[val x A c] w (AllP (mayT x) w):=may.fuel _ x (Nat.lt_succ_self _) hs A c w hG hn
def IntP (v : Int) (w : World) (e : Ending) (w' : World) : Prop:=e = .returned (.int .i64 v) ∧ Below w.heap.size w w'
noncomputable def chkV (r : Int) (x : S25) : Int:=if ((x.f0 != 40) || ((r == 0) || !(mayT x))) = true then 80 else 0
set_option maxHeartbeats 8000000 in
set_option maxRecDepth 100000 in
theorem Check.all {x : S25} {A : Option Addr} {c : Nat} {w : World} (k : Nat) (r : Int) (hr0 : ast_Size.f k x.f0 x.f1 x.f2 x.f3 x.f4 x.f5 = some r) (hs : SmlT x) (hG : PremW w) (hn : ND w x A c) : Calls Tryz.prog 8 #[val x A c] w (IntP (chkV r x) w):=by
 have E:=Env.start hG hn;clear hn hG;have HS:=Aside0.mk hs;have hr:=Aside0.mk hr0;clear hs hr0;cases h0 : (x.f0 != 40);cases h2 : (r == 0);cases h3 : (mayT x);all_goals
  try have h0m0 : (x.f0 == 40) = false:=by rw [bne] at h0;simpa using h0
  try have h0m0 : (x.f0 == 40) = true:=by rw [bne] at h0;simpa using h0
  try (have HC3:=Aside0.mk h3;clear h3)
  go_enter Tryz.func8,Tryz.ntmps8
  go_wp2_with (first
   | (go_at_call 16;(try clear c0 c1 c2 c3 c4 c5);(with_reducible refine (ast_Size.calls k _ _ _ _ A c _ _ r _ E.out.kids E.out.k.le hr.out).mono ?_);rintro e w1 ⟨rfl,hB⟩;replace E:=Aside0.mk (E.out.step hB);clear hB;obtain ⟨c0,c1,c2,c3,c4,c5⟩:=E.out.cells)
   | (go_at_call 20;(try clear c0 c1 c2 c3 c4 c5);(with_reducible refine Env.call E E.out HC3.out (may.all HS.out E.out.prem E.out.nd) (fun w1 E c0 c1 c2 c3 c4 c5 => ?_)))
   | fail)
  go_ret
  exact ⟨by unfold chkV;(try rw [h0]);(try rw [h2]);(try rw [HC3.out]);first|done|rfl,fin_⟩
end Go.Proofs.YtboojhadfhpdeaaGreatDoor.Q
namespace Go.Proofs.YtboojhadfhpdeaaGreatDoor.Q
open Go.RowKit Go.Proofs.YtboojhadfhpdeaaGreatDoorW.PrintWords Go.Proofs.YtboojhadfhpdeaaGreatDoor.Lex
set_option linter.unusedVariables false
set_option linter.unusedSimpArgs false
def partsB (x : S25) (a b c : Bool) : Bool:=(a || (x.f1.toList == ([] : List UInt8))) && (b || (x.f2 == 0)) && (c || !x.f3)
theorem parts_f (x : S25) (a b c : Bool) : crucibleref08_parts.f x.f0 x.f1 x.f2 x.f3 x.f4 x.f5 a b c = some (partsB x a b c):=by
 unfold crucibleref08_parts.f partsB;by_cases h1 : x.f1.toList = ([] : List UInt8) <;> by_cases h2 : x.f2 = 0 <;> cases a <;> cases b <;> cases c <;> simp [h1,h2]
theorem all_and {p q : S25 → Bool} (l : List S25) : (l.all p && l.all q) = l.all fun x => p x && q x:=by
 induction l with
 | nil => rfl
 | cons y l ih =>
  simp only [List.all_cons];rw [← ih];cases p y <;> cases q y <;> cases l.all p <;> cases l.all q <;> rfl
noncomputable def exB (x : S25) : Bool:=isE x && mayT x
noncomputable def stB (x : S25) : Bool:=isS x && mayT x
noncomputable def tyT (x : S25) : Bool:=decide (x.f0 = 16) && mayT x
theorem mayT_E {x : S25} (h1 : 1 ≤ x.f0) (h2 : x.f0 ≤ 16) : mayT x = ((decide (x.f0 = 1) || !x.f3) && exprsB x && x.f4.all mayT):=by
 rw [mayT_eq];unfold mayS itselfB itB;have hE : ((isE x) || (x.f0 == 16)) = true:=by
  unfold isE;by_cases h : x.f0 = 16
  · simp [h]
  · simp only [Bool.or_eq_true,Bool.and_eq_true,decide_eq_true_eq];exact Or.inl ⟨h1,by omega⟩
 rw [if_pos hE];by_cases h : x.f0 = 1
 · rw [if_pos (Or.inl h),decide_eq_true h];simp
 · rw [if_neg (by omega),decide_eq_false h];simp
theorem isE_of {x : S25} (h1 : 1 ≤ x.f0) (h2 : x.f0 ≤ 15) : isE x = true:=by
 unfold isE;rw [decide_eq_true h1,decide_eq_true h2];rfl
theorem typed_ref (x : S25) (hs : Sml x.f1) : Ev (fun k => crucibleref08_typed.f k x.f0 x.f1 x.f2 x.f3 x.f4 x.f5) (tyT x):=by
 unfold crucibleref08_typed.f tyT;by_cases h16 : x.f0 = 16
 · refine ev_pos h16 ?_;rw [parts_f,decide_eq_true h16,mayT_E (by omega) (by omega)];simp only [Option.bind_some];have e : exprsB x = e16 x:=by unfold exprsB;simp [h16]
   rw [e];cases hp : partsB x true false false with
   | true =>
    refine ev_pos rfl ?_;have h:=ty_ref x hs (decide ((x.f4.length : Int) > 0));unfold partsB at hp;simp only [Bool.true_or,Bool.false_or,Bool.true_and,Bool.and_eq_true,Bool.not_eq_true'] at hp;have e2 : (true && ((decide (x.f0 = 1) || !x.f3) && e16 x && x.f4.all mayT)) = (!decide ((x.f4.length : Int) > 0) && tyB x.f1):=by
     unfold e16;rw [hp.1,hp.2];by_cases h0 : x.f4.length = 0
     · have : x.f4 = []:=List.eq_nil_of_length_eq_zero h0;rw [this];cases tyB x.f1 <;> simp
     · rw [decide_eq_true (show (x.f4.length : Int) > 0 by omega),show ((x.f4.length : Int) == 0) = false from beq_eq_false_iff_ne.2 (by omega)];simp
    rw [e2];exact h
   | false =>
    refine ev_neg (by decide) ?_;have h:=ty_ref x hs true;unfold partsB at hp;simp only [Bool.true_or,Bool.false_or,Bool.true_and] at hp;have e2 : (true && ((decide (x.f0 = 1) || !x.f3) && e16 x && x.f4.all mayT)) = (!true && tyB x.f1):=by
     unfold e16;have h1 : decide (x.f0 = 1) = false:=decide_eq_false (by omega);rw [h1];cases h2 : (x.f2 == 0) with
     | false => simp
     | true =>
      rw [h2] at hp;cases h3 : x.f3 with
      | true => simp
      | false => rw [h3] at hp;cases hp
    rw [e2];exact h
 · refine ev_neg h16 ?_;rw [decide_eq_false h16];have h:=ty_ref x hs true;exact h
theorem shape1 (p : S25 → Bool) (l : List S25) : shapeB [p] l = (decide (l.length = 1) && p (nd l 0)):=by
 unfold shapeB shapeTo;simp [List.range_succ,pnth]
theorem shape2 (p q : S25 → Bool) (l : List S25) : shapeB [p,q] l = (decide (l.length = 2) && (p (nd l 0) && q (nd l 1))):=by
 unfold shapeB shapeTo;simp [List.range_succ,pnth]
theorem shape3 (p q r : S25 → Bool) (l : List S25) : shapeB [p,q,r] l = (decide (l.length = 3) && (p (nd l 0) && q (nd l 1) && r (nd l 2))):=by
 unfold shapeB shapeTo;simp [List.range_succ,pnth,Bool.and_assoc]
theorem shape4 (p q r s : S25 → Bool) (l : List S25) : shapeB [p,q,r,s] l = (decide (l.length = 4) && (p (nd l 0) && q (nd l 1) && r (nd l 2) && s (nd l 3))):=by
 unfold shapeB shapeTo;simp [List.range_succ,pnth,Bool.and_assoc]
theorem len1 {l : List S25} (h : l.length = 1) : ∃ a,l = [a]:=by
 match l,h with
 | [a],_ => exact ⟨a,rfl⟩
theorem len2 {l : List S25} (h : l.length = 2) : ∃ a b,l = [a,b]:=by
 match l,h with
 | [a,b],_ => exact ⟨a,b,rfl⟩
theorem len3 {l : List S25} (h : l.length = 3) : ∃ a b c,l = [a,b,c]:=by
 match l,h with
 | [a,b,c],_ => exact ⟨a,b,c,rfl⟩
theorem len4 {l : List S25} (h : l.length = 4) : ∃ a b c d,l = [a,b,c,d]:=by
 match l,h with
 | [a,b,c,d],_ => exact ⟨a,b,c,d,rfl⟩
def exs (n : Int) (x : S25) (p : S25 → Bool) : Bool:=(decide (n < 0) || ((x.f4.length : Int) == n)) && x.f4.all p
theorem exs0 (x : S25) (p q : S25 → Bool) : exs 0 x p = (((x.f4.length : Int) == 0) && x.f4.all q):=by
 unfold exs;by_cases h : x.f4.length = 0
 · rw [List.eq_nil_of_length_eq_zero h];rfl
 · rw [show ((x.f4.length : Int) == 0) = false from beq_eq_false_iff_ne.2 (by omega)];rfl
theorem exs1 (x : S25) : exs 1 x exB = (shapeB [isE] x.f4 && x.f4.all mayT):=by
 unfold exs;rw [shape1];by_cases h : x.f4.length = 1
 · obtain ⟨a,ha⟩:=len1 h;rw [ha];simp [nd,exB]
 · rw [decide_eq_false h,show ((x.f4.length : Int) == 1) = false from beq_eq_false_iff_ne.2 (by omega)];rfl
theorem exs2 (x : S25) : exs 2 x exB = (shapeB [isE,isE] x.f4 && x.f4.all mayT):=by
 unfold exs;rw [shape2];by_cases h : x.f4.length = 2
 · obtain ⟨a,b,ha⟩:=len2 h;rw [ha];simp [nd,exB];cases isE a <;> cases isE b <;> cases mayT a <;> cases mayT b <;> rfl
 · rw [decide_eq_false h,show ((x.f4.length : Int) == 2) = false from beq_eq_false_iff_ne.2 (by omega)];rfl
theorem exs3 (x : S25) : exs 3 x exB = (shapeB [isE,isE,isE] x.f4 && x.f4.all mayT):=by
 unfold exs;rw [shape3];by_cases h : x.f4.length = 3
 · obtain ⟨a,b,c,ha⟩:=len3 h;rw [ha];simp [nd,exB];cases isE a <;> cases isE b <;> cases isE c <;> cases mayT a <;> cases mayT b <;> cases mayT c <;> rfl
 · rw [decide_eq_false h,show ((x.f4.length : Int) == 3) = false from beq_eq_false_iff_ne.2 (by omega)];rfl
theorem exsn (x : S25) : exs (-1) x exB = (x.f4.all isE && x.f4.all mayT):=by
 unfold exs;rw [all_and];rfl
theorem isP_E {x : S25} (h : isP x = true) : isE x = true:=by
 unfold isP at h;simp only [Bool.or_eq_true,decide_eq_true_eq] at h;exact isE_of (by omega) (by omega)
theorem exsP (x : S25) : (exs 2 x exB && isP (nd x.f4 0)) = (shapeB [isP,isE] x.f4 && x.f4.all mayT):=by
 unfold exs;rw [shape2];by_cases h : x.f4.length = 2
 · obtain ⟨a,b,ha⟩:=len2 h;rw [ha];simp [nd,exB];cases hp : isP a with
   | true => rw [isP_E hp];cases isE b <;> cases mayT a <;> cases mayT b <;> rfl
   | false => cases isE a <;> cases isE b <;> cases mayT a <;> cases mayT b <;> rfl
 · rw [decide_eq_false h,show ((x.f4.length : Int) == 2) = false from beq_eq_false_iff_ne.2 (by omega)];rfl
theorem exB_of {x : S25} (h1 : 1 ≤ x.f0) (h2 : x.f0 ≤ 15) {b : Bool} (e : exprsB x = b) : exB x = ((decide (x.f0 = 1) || !x.f3) && b && x.f4.all mayT):=by
 unfold exB;rw [isE_of h1 h2,mayT_E h1 (by omega),e,Bool.true_and]
theorem cast_eq (x : S25) : (decide (x.f4.length = 2) && (tyT (nd x.f4 0) && exB (nd x.f4 1))) = (shapeB [fun x => decide (x.f0 = 16),isE] x.f4 && x.f4.all mayT):=by
 rw [shape2];by_cases h : x.f4.length = 2
 · obtain ⟨a,b,ha⟩:=len2 h;rw [ha];simp [nd,exB,tyT];cases decide (a.f0 = 16) <;> cases isE b <;> cases mayT a <;> cases mayT b <;> rfl
 · rw [decide_eq_false h];rfl
theorem size_eq (x : S25) : (decide (x.f4.length = 1) && (tyT (nd x.f4 0) || exB (nd x.f4 0))) = (shapeB [fun x => decide (x.f0 = 16) || isE x] x.f4 && x.f4.all mayT):=by
 rw [shape1];by_cases h : x.f4.length = 1
 · obtain ⟨a,ha⟩:=len1 h;rw [ha];simp [nd,exB,tyT];cases decide (a.f0 = 16) <;> cases isE a <;> cases mayT a <;> rfl
 · rw [decide_eq_false h];rfl
theorem isS_iff (x : S25) : isS x = true ↔ 47 ≤ x.f0 ∧ x.f0 ≤ 56:=by
 unfold isS;simp only [Bool.or_eq_true,Bool.and_eq_true,decide_eq_true_eq];omega
theorem isE_iff (x : S25) : isE x = true ↔ 1 ≤ x.f0 ∧ x.f0 ≤ 15:=by
 unfold isE;simp only [Bool.and_eq_true,decide_eq_true_eq]
theorem isE_no {x : S25} (h : ¬ (1 ≤ x.f0 ∧ x.f0 ≤ 15)) : isE x = false:=Bool.eq_false_iff.2 fun e => h ((isE_iff x).1 e)
theorem isS_no {x : S25} (h : ¬ (47 ≤ x.f0 ∧ x.f0 ≤ 56)) : isS x = false:=Bool.eq_false_iff.2 fun e => h ((isS_iff x).1 e)
theorem mayT_S {x : S25} (h : 47 ≤ x.f0 ∧ x.f0 ≤ 56) : mayT x = (!x.f3 && stmtB x && x.f4.all mayT):=by
 rw [mayT_eq];unfold mayS itselfB itB;rw [if_neg (by omega),isE_no (by omega),show (x.f0 == 16) = false from beq_eq_false_iff_ne.2 (by omega),(isS_iff x).2 h];rfl
theorem mayT_D {x : S25} (h : 40 ≤ x.f0 ∧ x.f0 ≤ 46) : mayT x = ((decide (x.f0 = 43) || decide (x.f0 = 46) || !x.f3) && declB x && x.f4.all mayT):=by
 rw [mayT_eq];unfold mayS itselfB itB;rw [isE_no (by omega),show (x.f0 == 16) = false from beq_eq_false_iff_ne.2 (by omega),isS_no (by omega)];by_cases h43 : x.f0 = 43
 · rw [if_pos (Or.inr (Or.inl h43)),decide_eq_true h43];rfl
 · by_cases h46 : x.f0 = 46
   · rw [if_pos (Or.inr (Or.inr h46)),decide_eq_true h46,decide_eq_false h43];rfl
   · rw [if_neg (by omega),decide_eq_false h43,decide_eq_false h46];rfl
noncomputable def noT (x : S25) : Bool:=decide (x.f0 = 56) && mayT x
noncomputable def liT (x : S25) : Bool:=decide (x.f0 = 44) && mayT x
theorem noE (y : S25) : (noT y || exB y) = (isN y && mayT y):=by
 unfold noT exB isN;cases decide (y.f0 = 56) <;> cases isE y <;> cases mayT y <;> rfl
theorem liT_eq {y : S25} (h : y.f0 = 44) : liT y = (partsB y false false false && (decide (y.f4.length ≠ 0) && y.f4.all exB)):=by
 unfold liT;rw [decide_eq_true h,mayT_D (by omega),show declB y = d44 y from by unfold declB;simp [h],decide_eq_false (show ¬ y.f0 = 43 by omega),decide_eq_false (show ¬ y.f0 = 46 by omega)];have e : y.f4.all exB = (y.f4.all isE && y.f4.all mayT):=by
  rw [all_and];rfl
 rw [e];unfold partsB d44;by_cases h0 : y.f4.length = 0
 · rw [decide_eq_false (show ¬ (y.f4.length : Int) > 0 by omega),decide_eq_false (show ¬ y.f4.length ≠ 0 by omega)];cases (y.f1.toList == ([] : List UInt8)) <;> cases (y.f2 == 0) <;> cases y.f3 <;> rfl
 · rw [decide_eq_true (show (y.f4.length : Int) > 0 by omega),decide_eq_true (show y.f4.length ≠ 0 from h0)];cases (y.f1.toList == ([] : List UInt8)) <;> cases (y.f2 == 0) <;> cases y.f3 <;> cases y.f4.all isE <;> cases y.f4.all mayT <;> rfl
noncomputable def endT (bare flag : Bool) (l : List S25) : Bool:=decide (l.length = 0) || (!bare && (decide (l.length = 1) && (exB (nd l 0) || (flag && liT (nd l 0)))))
noncomputable def vaT (bare : Bool) (x : S25) : Bool:=decide (x.f0 = 43) && mayT x && (!bare || bare1 x)
noncomputable def vaK (bare : Bool) (x : S25) : Bool:=if x.f3 = true then decide (x.f4.length ≠ 0) && ((noT (nd x.f4 0) || exB (nd x.f4 0)) && endT bare true (x.f4.drop 1)) else endT bare false x.f4
theorem nd_drop (l : List S25) (i : Nat) : nd (l.drop 1) i = nd l (i + 1):=by
 unfold nd;rw [List.getD_eq_getElem?_getD,List.getD_eq_getElem?_getD,List.getElem?_drop,Nat.add_comm]
theorem vaT_eq {x : S25} (h : x.f0 = 43) (bare : Bool) : vaT bare x = (partsB x true false true && (nmB x.f1 && vaK bare x)):=by
 unfold vaT;rw [decide_eq_true h,mayT_D (by omega),show declB x = d43 x from by unfold declB;simp [h],decide_eq_true h];unfold bare1 d43 partsB vaK varB endT;rw [decide_eq_true h];by_cases hf3 : x.f3 = true
 · rw [if_pos hf3,if_pos hf3,hf3]
   match hx : x.f4 with
   | [] => simp
   | [a] =>
    simp only [List.length_cons,List.length_nil,nd,List.getD_cons_zero,List.drop_succ_cons,List.drop_zero,List.all_cons,List.all_nil];rw [noE];cases isN a <;> cases mayT a <;> cases nmB x.f1 <;> cases (x.f2 == 0) <;> cases bare <;> simp
   | [a,b] =>
    simp only [List.length_cons,List.length_nil,nd,List.getD_cons_zero,List.getD_cons_succ,List.drop_succ_cons,List.drop_zero,List.all_cons,List.all_nil];rw [noE];unfold exB liT;cases isN a <;> cases mayT a <;> cases nmB x.f1 <;> cases (x.f2 == 0) <;> cases bare <;> cases isE b <;> cases decide (b.f0 = 44) <;> cases mayT b <;> simp
   | a :: b :: c :: t =>
    simp
 · have hff:=Bool.eq_false_iff.2 hf3;rw [if_neg hf3,if_neg hf3,hff]
   match hx : x.f4 with
   | [] => cases nmB x.f1 <;> cases (x.f2 == 0) <;> simp
   | [a] =>
    simp only [List.length_cons,List.length_nil,nd,List.getD_cons_zero,List.all_cons,List.all_nil];unfold exB liT;cases isE a <;> cases mayT a <;> cases nmB x.f1 <;> cases (x.f2 == 0) <;> cases bare <;> simp
   | a :: b :: t =>
    simp
noncomputable def vsT (bare : Bool) (x : S25) : Bool:=decide (x.f0 = 42) && mayT x && (!bare || x.f4.all bare1)
theorem vsT_eq {x : S25} (h : x.f0 = 42) (bare : Bool) : vsT bare x = (partsB x false false false && (decide (2 ≤ x.f4.length) && (tyT (nd x.f4 0) && (x.f4.drop 1).all (vaT bare)))):=by
 unfold vsT;rw [decide_eq_true h,mayT_D (by omega),show declB x = d42 x from by unfold declB;simp [h],decide_eq_false (show ¬ x.f0 = 43 by omega),decide_eq_false (show ¬ x.f0 = 46 by omega)];unfold d42 partsB
 match hx : x.f4 with
 | [] => simp
 | [a] => simp
 | a :: t =>
  simp only [List.drop_succ_cons,List.drop_zero,List.tail_cons,nd,List.getD_cons_zero,List.all_cons];have e : t.all (vaT bare) = (t.all (fun y => decide (y.f0 = 43)) && t.all mayT && (!bare || t.all bare1)):=by
   rw [all_and];cases bare with
   | false =>
    simp only [Bool.not_false,Bool.true_or,Bool.and_true];congr 1
    funext y
    unfold vaT;simp
   | true =>
    simp only [Bool.not_true,Bool.false_or];rw [all_and];rfl
  rw [e];by_cases h16 : a.f0 = 16
  · have hb : bare1 a = true:=by unfold bare1;rw [decide_eq_false (show ¬ a.f0 = 43 by omega)];rfl
    unfold tyT;rw [decide_eq_true h16,hb];cases (x.f1.toList == ([] : List UInt8)) <;> cases (x.f2 == 0) <;> cases x.f3 <;> cases decide (2 ≤ (a :: t).length) <;> cases mayT a <;> cases bare <;> cases t.all (fun y => decide (y.f0 = 43)) <;> cases t.all mayT <;> cases t.all bare1 <;> rfl
  · unfold tyT;rw [decide_eq_false h16];cases (x.f1.toList == ([] : List UInt8)) <;> cases (x.f2 == 0) <;> cases x.f3 <;> cases decide (2 ≤ (a :: t).length) <;> simp
noncomputable def recT (x : S25) : Bool:=decide (x.f0 = 41) && mayT x
noncomputable def blT (x : S25) : Bool:=decide (x.f0 = 47) && mayT x
theorem blT_eq {x : S25} (h : x.f0 = 47) : blT x = (partsB x false false false && x.f4.all (fun y => vsT false y || stB y)):=by
 unfold blT;rw [decide_eq_true h,mayT_S (by omega),show stmtB x = s47 x from by unfold stmtB;simp [h]];have e1 : x.f4.all (fun y => vsT false y || stB y) = (x.f4.all (fun y => isS y || decide (y.f0 = 42)) && x.f4.all mayT):=by
  rw [all_and];congr 1
  funext y
  unfold vsT stB;cases decide (y.f0 = 42) <;> cases mayT y <;> cases isS y <;> simp
 rw [e1];unfold s47 partsB;cases (x.f1.toList == ([] : List UInt8)) <;> cases (x.f2 == 0) <;> cases x.f3 <;> cases x.f4.all (fun y => isS y || decide (y.f0 = 42)) <;> cases x.f4.all mayT <;> rfl
noncomputable def paT (x : S25) : Bool:=decide (x.f0 = 46) && mayT x
theorem paT_eq {x : S25} (h : x.f0 = 46) : paT x = (decide (x.f2 ≤ 1) && (!(x.f3 && (x.f2 == 1)) && (nmB x.f1 && (decide (x.f4.length = 1) && tyT (nd x.f4 0))))):=by
 unfold paT;rw [decide_eq_true h,mayT_D (by omega),show declB x = d46 x from by unfold declB;simp [h],decide_eq_true h];unfold d46;rw [shape1];by_cases h1 : x.f4.length = 1
 · obtain ⟨a,ha⟩:=len1 h1;rw [ha];unfold tyT;simp only [List.length_cons,List.length_nil,nd,List.getD_cons_zero,List.all_cons,List.all_nil];cases nmB x.f1 <;> cases decide (x.f2 ≤ 1) <;> cases x.f3 <;> cases (x.f2 == 1) <;> cases decide (a.f0 = 16) <;> cases mayT a <;> cases decide (x.f0 = 43) <;> rfl
 · rw [decide_eq_false h1];cases nmB x.f1 <;> cases decide (x.f2 ≤ 1) <;> cases x.f3 <;> cases (x.f2 == 1) <;> cases decide (x.f0 = 43) <;> rfl
noncomputable def fnT (x : S25) : Bool:=decide (x.f0 = 45) && mayT x
theorem ends_of {l : List S25} (h : 2 ≤ l.length) : ∃ a m z,l = a :: (m ++ [z]):=by
 match l,h with
 | a :: b :: t,_ => exact ⟨a,(b :: t).dropLast,(b :: t).getLast (by simp),by rw [List.dropLast_concat_getLast]⟩
theorem fnT_eq {x : S25} (h : x.f0 = 45) : fnT x = (partsB x true false false && (nmB x.f1 && (decide (2 ≤ x.f4.length) && (tyT (nd x.f4 0) && (blT (nd x.f4 (x.f4.length - 1)) && ((x.f4.take (x.f4.length - 1)).drop 1).all paT))))):=by
 unfold fnT;rw [decide_eq_true h,mayT_D (by omega),show declB x = d45 x from by unfold declB;simp [h],decide_eq_false (show ¬ x.f0 = 43 by omega),decide_eq_false (show ¬ x.f0 = 46 by omega)];unfold d45 partsB funB;by_cases h2 : 2 ≤ x.f4.length
 · rw [decide_eq_true h2];obtain ⟨a,m,z,ha⟩:=ends_of h2;rw [ha];have e1 : (a :: (m ++ [z])).length - 1 = m.length + 1:=by simp
   have e2 : (a :: (m ++ [z])).take (m.length + 1) = a :: m:=by simp
   have e3 : nd (a :: (m ++ [z])) (m.length + 1) = z:=by simp [nd]
   have e4 : nd (a :: (m ++ [z])) 0 = a:=rfl;rw [e1,e2,e3,e4];simp only [List.tail_cons,List.drop_succ_cons,List.drop_zero,List.all_cons,List.all_append,List.all_nil];have e5 : m.all paT = (m.all (fun y => decide (y.f0 = 46)) && m.all mayT):=by
    rw [all_and];rfl
   rw [e5];unfold tyT blT;cases nmB x.f1 <;> cases (x.f2 == 0) <;> cases x.f3 <;> cases decide (a.f0 = 16) <;> cases decide (z.f0 = 47) <;> cases mayT a <;> cases mayT z <;> cases m.all (fun y => decide (y.f0 = 46)) <;> cases m.all mayT <;> rfl
 · rw [decide_eq_false h2];cases nmB x.f1 <;> cases (x.f2 == 0) <;> cases x.f3 <;> rfl
theorem open_same : ∀ (n : Nat) (x : S25),mayT x = true → openN n x = openM n x
 | 0,_,_ => rfl
 | n + 1,x,h => by
  have hk : ∀ y ∈ x.f4,mayT y = true:=by
   rw [mayT_eq] at h;unfold mayS at h;rw [Bool.and_eq_true,List.all_eq_true] at h;exact h.2
  have last (h0 : ¬ x.f4.length = 0) : openN n (nd x.f4 (x.f4.length - 1)) = openM n (nd x.f4 (x.f4.length - 1)):=open_same n _ (hk _ (nd_last h0));unfold openN openM;by_cases h49 : x.f0 = 49
  · rw [if_pos h49,if_pos h49];have h23 : x.f4.length = 2 ∨ x.f4.length = 3:=by
     rw [mayT_S (by omega),show stmtB x = s49 x from by unfold stmtB;simp [h49]] at h;unfold s49 at h;rw [show shapeB (gES.map (·.2)) x.f4 = shapeB [isE,isS] x.f4 from rfl,show shapeB (gESS.map (·.2)) x.f4 = shapeB [isE,isS,isS] x.f4 from rfl,shape2,shape3] at h;simp only [Bool.and_eq_true,Bool.or_eq_true,decide_eq_true_eq] at h;omega
    rcases h23 with h2|h3
    · rw [if_pos h2,if_pos h2]
    · rw [if_neg (by omega),if_neg (by omega),if_neg (by omega),if_pos h3,show x.f4.length - 1 = 2 by omega];have:=last (by omega);rw [show x.f4.length - 1 = 2 by omega] at this;exact this
  · rw [if_neg h49,if_neg h49];by_cases h5 : x.f0 = 50 ∨ x.f0 = 52
    · rw [if_pos h5,if_pos h5];by_cases h0 : x.f4.length = 0
      · rw [if_pos h0,if_pos h0]
      · rw [if_neg h0,if_neg h0,last h0]
    · rw [if_neg h5,if_neg h5]
theorem stB_eq {x : S25} (h : 47 ≤ x.f0 ∧ x.f0 ≤ 56) : stB x = (!x.f3 && stmtB x && x.f4.all mayT):=by
 unfold stB;rw [(isS_iff x).2 h,mayT_S h,Bool.true_and]
theorem st_all2 (p q : S25 → Bool) (l : List S25) : (decide (l.length = 2) && (p (nd l 0) && mayT (nd l 0) && (q (nd l 1) && mayT (nd l 1)))) = (shapeB [p,q] l && l.all mayT):=by
 rw [shape2];by_cases h : l.length = 2
 · obtain ⟨a,b,ha⟩:=len2 h;rw [ha];simp [nd];cases p a <;> cases q b <;> cases mayT a <;> cases mayT b <;> rfl
 · rw [decide_eq_false h];rfl
end Go.Proofs.YtboojhadfhpdeaaGreatDoor.Q
namespace Go.Proofs.YtboojhadfhpdeaaGreatDoor.Q
open Go.RowKit Go.Proofs.YtboojhadfhpdeaaGreatDoorW.PrintWords Go.Proofs.YtboojhadfhpdeaaGreatDoorW.PrintLast Go.Proofs.YtboojhadfhpdeaaGreatDoorW.PrintMore
attribute [local go_sem] max2_int min2_int max_two min_two max_three min_three max_four min_four
set_option linter.unusedVariables false
set_option linter.unusedSimpArgs false
def crucibleref08_Place.f (a0_0 : Int) (a0_1 : ByteArray) (a0_2 : Int) (a0_3 : Bool) (l0_4 : List (S25)) (a0_5 : Int) : Option (Bool):=if a0_0 = 4 then (some true) else (if a0_0 = 5 then (some true) else (if a0_0 = 6 then (some true) else (some (a0_0 == 7))))
set_option maxHeartbeats 8000000 in
set_option maxRecDepth 100000 in
theorem crucibleref08_Place.calls (a0_0 : Int) (a0_1 : ByteArray) (a0_2 : Int) (a0_3 : Bool) (A0_4 : Option Addr) (c0_4 : Nat) (l0_4 : List (S25)) (a0_5 : Int) (r : Bool) (w : World) (hr0_4 : Kd.C k25 w A0_4 l0_4.length l0_4) (hc0_4 : l0_4.length ≤ c0_4) (h : crucibleref08_Place.f a0_0 a0_1 a0_2 a0_3 l0_4 a0_5 = some r) :
 Calls Tryz.prog 98 #[.agg #[.int .i64 a0_0,.string a0_1,.int .u32 a0_2,.bool a0_3,.slice A0_4 l0_4.length c0_4,.int .i64 a0_5]] w fun e w' => e = .returned (.bool r) ∧ Below w.heap.size w w' := by
 have hu25:=Tryz.underlying25;have HR0_4:=Aside0.mk hr0_4;have HC0_4:=Aside0.mk hc0_4;clear hr0_4 hc0_4;have HB:=Aside0.mk (Below.refl w.heap.size w);have H : (if a0_0 = 4 then (some true) else (if a0_0 = 5 then (some true) else (if a0_0 = 6 then (some true) else (some (a0_0 == 7))))) = some r:=h;clear h;by_cases c2 : a0_0 = 4
 · rw [if_pos c2] at H;have c2b0 : (a0_0 == 4) = true:=beq_iff_eq.mpr c2;have c2b1 : (a0_0 != 4) = false:=bne_eq_false_iff_eq.mpr c2;clear c2;obtain rfl:=Option.some.inj H;go_enter Tryz.func98,Tryz.ntmps98
   go_wp2_with (first|((with_reducible refine gate_dst (N:=1) rfl ?_);refine box_event ?hg (N:=1) ?hd (cs:=#[.int .i64 a0_0,.string a0_1,.int .u32 a0_2,.bool a0_3,.slice A0_4 l0_4.length c0_4,.int .i64 a0_5]) (t:=25) ?hr ?_;(case hd => rfl);(case hg => rfl);(case hr => first|(go_simp;done)|(go_simp;rfl));intro gb106 hg w3 hbox hb;have n0_:=Aside0.mk (below_step (by repeat (first|(with_reducible first|exact HB.out|apply below_alloc|apply pw_below_drewN|apply below_drew1)|exact HB.out)) hb);have n1_:=Aside0.mk (hbox);have n2_:=Aside0.mk ((by rw [hg];exact (below_size (by repeat (first|(with_reducible first|exact HB.out|apply below_alloc|apply pw_below_drewN|apply below_drew1)|exact HB.out))) : w.heap.size ≤ gb106));have n3_:=Aside0.mk ((by rw [hg];exact (below_size (by repeat (first|(with_reducible first|exact HB.out|apply below_alloc|apply pw_below_drewN|apply below_drew1)|exact HB.out))) : w.heap.size ≤ gb106));clear HB;have HB:=n0_;have BK106:=n1_;have GW106:=n2_;have GE106:=n3_;clear n0_ n1_ n2_ n3_;clear hb hbox hg;have hcz4_0 : w3.cell? ⟨gb106,0,none⟩ = some (.int .i64 a0_0):=(blk_cell BK106.out 0).trans rfl;have hcz4_1 : w3.cell? ⟨gb106,1,none⟩ = some (.string a0_1):=(blk_cell BK106.out 1).trans rfl;have hcz4_2 : w3.cell? ⟨gb106,2,none⟩ = some (.int .u32 a0_2):=(blk_cell BK106.out 2).trans rfl;have hcz4_3 : w3.cell? ⟨gb106,3,none⟩ = some (.bool a0_3):=(blk_cell BK106.out 3).trans rfl;have hcz4_4 : w3.cell? ⟨gb106,4,none⟩ = some (.slice A0_4 l0_4.length c0_4):=(blk_cell BK106.out 4).trans rfl;have hcz4_5 : w3.cell? ⟨gb106,5,none⟩ = some (.int .i64 a0_5):=(blk_cell BK106.out 5).trans rfl;have hfz4_0:=blk_frozen BK106.out 0;have hfz4_1:=blk_frozen BK106.out 1;have hfz4_2:=blk_frozen BK106.out 2;have hfz4_3:=blk_frozen BK106.out 3;have hfz4_4:=blk_frozen BK106.out 4;have hfz4_5:=blk_frozen BK106.out 5))
   go_ret
   exact ⟨by first|rfl|(simp [errW_none,errW_some] <;> rfl)|(simp [*,errW_none,errW_some] <;> rfl),by repeat (first|(with_reducible first|exact HB.out|apply below_alloc|apply pw_below_drewN|apply below_drew1|refine below_set ?_ GE106.out)|exact HB.out)⟩
 · rw [if_neg c2] at H;have c2b0 : (a0_0 == 4) = false:=beq_eq_false_iff_ne.mpr c2;have c2b1 : (a0_0 != 4) = true:=bne_iff_ne.mpr c2;by_cases c5 : a0_0 = 5
   · rw [if_pos c5] at H;have c5b0 : (a0_0 == 5) = true:=beq_iff_eq.mpr c5;have c5b1 : (a0_0 != 5) = false:=bne_eq_false_iff_eq.mpr c5;clear c5;obtain rfl:=Option.some.inj H;go_enter Tryz.func98,Tryz.ntmps98
     go_wp2_with (first|((with_reducible refine gate_dst (N:=1) rfl ?_);refine box_event ?hg (N:=1) ?hd (cs:=#[.int .i64 a0_0,.string a0_1,.int .u32 a0_2,.bool a0_3,.slice A0_4 l0_4.length c0_4,.int .i64 a0_5]) (t:=25) ?hr ?_;(case hd => rfl);(case hg => rfl);(case hr => first|(go_simp;done)|(go_simp;rfl));intro gb106 hg w6 hbox hb;have n0_:=Aside0.mk (below_step (by repeat (first|(with_reducible first|exact HB.out|apply below_alloc|apply pw_below_drewN|apply below_drew1)|exact HB.out)) hb);have n1_:=Aside0.mk (hbox);have n2_:=Aside0.mk ((by rw [hg];exact (below_size (by repeat (first|(with_reducible first|exact HB.out|apply below_alloc|apply pw_below_drewN|apply below_drew1)|exact HB.out))) : w.heap.size ≤ gb106));have n3_:=Aside0.mk ((by rw [hg];exact (below_size (by repeat (first|(with_reducible first|exact HB.out|apply below_alloc|apply pw_below_drewN|apply below_drew1)|exact HB.out))) : w.heap.size ≤ gb106));clear HB;have HB:=n0_;have BK106:=n1_;have GW106:=n2_;have GE106:=n3_;clear n0_ n1_ n2_ n3_;clear hb hbox hg;have hcz7_0 : w6.cell? ⟨gb106,0,none⟩ = some (.int .i64 a0_0):=(blk_cell BK106.out 0).trans rfl;have hcz7_1 : w6.cell? ⟨gb106,1,none⟩ = some (.string a0_1):=(blk_cell BK106.out 1).trans rfl;have hcz7_2 : w6.cell? ⟨gb106,2,none⟩ = some (.int .u32 a0_2):=(blk_cell BK106.out 2).trans rfl;have hcz7_3 : w6.cell? ⟨gb106,3,none⟩ = some (.bool a0_3):=(blk_cell BK106.out 3).trans rfl;have hcz7_4 : w6.cell? ⟨gb106,4,none⟩ = some (.slice A0_4 l0_4.length c0_4):=(blk_cell BK106.out 4).trans rfl;have hcz7_5 : w6.cell? ⟨gb106,5,none⟩ = some (.int .i64 a0_5):=(blk_cell BK106.out 5).trans rfl;have hfz7_0:=blk_frozen BK106.out 0;have hfz7_1:=blk_frozen BK106.out 1;have hfz7_2:=blk_frozen BK106.out 2;have hfz7_3:=blk_frozen BK106.out 3;have hfz7_4:=blk_frozen BK106.out 4;have hfz7_5:=blk_frozen BK106.out 5))
     go_ret
     exact ⟨by first|rfl|(simp [errW_none,errW_some] <;> rfl)|(simp [*,errW_none,errW_some] <;> rfl),by repeat (first|(with_reducible first|exact HB.out|apply below_alloc|apply pw_below_drewN|apply below_drew1|refine below_set ?_ GE106.out)|exact HB.out)⟩
   · rw [if_neg c5] at H;have c5b0 : (a0_0 == 5) = false:=beq_eq_false_iff_ne.mpr c5;have c5b1 : (a0_0 != 5) = true:=bne_iff_ne.mpr c5;by_cases c8 : a0_0 = 6
     · rw [if_pos c8] at H;have c8b0 : (a0_0 == 6) = true:=beq_iff_eq.mpr c8;have c8b1 : (a0_0 != 6) = false:=bne_eq_false_iff_eq.mpr c8;clear c8;obtain rfl:=Option.some.inj H;go_enter Tryz.func98,Tryz.ntmps98
       go_wp2_with (first|((with_reducible refine gate_dst (N:=1) rfl ?_);refine box_event ?hg (N:=1) ?hd (cs:=#[.int .i64 a0_0,.string a0_1,.int .u32 a0_2,.bool a0_3,.slice A0_4 l0_4.length c0_4,.int .i64 a0_5]) (t:=25) ?hr ?_;(case hd => rfl);(case hg => rfl);(case hr => first|(go_simp;done)|(go_simp;rfl));intro gb106 hg w9 hbox hb;have n0_:=Aside0.mk (below_step (by repeat (first|(with_reducible first|exact HB.out|apply below_alloc|apply pw_below_drewN|apply below_drew1)|exact HB.out)) hb);have n1_:=Aside0.mk (hbox);have n2_:=Aside0.mk ((by rw [hg];exact (below_size (by repeat (first|(with_reducible first|exact HB.out|apply below_alloc|apply pw_below_drewN|apply below_drew1)|exact HB.out))) : w.heap.size ≤ gb106));have n3_:=Aside0.mk ((by rw [hg];exact (below_size (by repeat (first|(with_reducible first|exact HB.out|apply below_alloc|apply pw_below_drewN|apply below_drew1)|exact HB.out))) : w.heap.size ≤ gb106));clear HB;have HB:=n0_;have BK106:=n1_;have GW106:=n2_;have GE106:=n3_;clear n0_ n1_ n2_ n3_;clear hb hbox hg;have hcz10_0 : w9.cell? ⟨gb106,0,none⟩ = some (.int .i64 a0_0):=(blk_cell BK106.out 0).trans rfl;have hcz10_1 : w9.cell? ⟨gb106,1,none⟩ = some (.string a0_1):=(blk_cell BK106.out 1).trans rfl;have hcz10_2 : w9.cell? ⟨gb106,2,none⟩ = some (.int .u32 a0_2):=(blk_cell BK106.out 2).trans rfl;have hcz10_3 : w9.cell? ⟨gb106,3,none⟩ = some (.bool a0_3):=(blk_cell BK106.out 3).trans rfl;have hcz10_4 : w9.cell? ⟨gb106,4,none⟩ = some (.slice A0_4 l0_4.length c0_4):=(blk_cell BK106.out 4).trans rfl;have hcz10_5 : w9.cell? ⟨gb106,5,none⟩ = some (.int .i64 a0_5):=(blk_cell BK106.out 5).trans rfl;have hfz10_0:=blk_frozen BK106.out 0;have hfz10_1:=blk_frozen BK106.out 1;have hfz10_2:=blk_frozen BK106.out 2;have hfz10_3:=blk_frozen BK106.out 3;have hfz10_4:=blk_frozen BK106.out 4;have hfz10_5:=blk_frozen BK106.out 5))
       go_ret
       exact ⟨by first|rfl|(simp [errW_none,errW_some] <;> rfl)|(simp [*,errW_none,errW_some] <;> rfl),by repeat (first|(with_reducible first|exact HB.out|apply below_alloc|apply pw_below_drewN|apply below_drew1|refine below_set ?_ GE106.out)|exact HB.out)⟩
     · rw [if_neg c8] at H;have c8b0 : (a0_0 == 6) = false:=beq_eq_false_iff_ne.mpr c8;have c8b1 : (a0_0 != 6) = true:=bne_iff_ne.mpr c8;obtain rfl:=Option.some.inj H;go_enter Tryz.func98,Tryz.ntmps98
       go_wp2_with (first|((with_reducible refine gate_dst (N:=1) rfl ?_);refine box_event ?hg (N:=1) ?hd (cs:=#[.int .i64 a0_0,.string a0_1,.int .u32 a0_2,.bool a0_3,.slice A0_4 l0_4.length c0_4,.int .i64 a0_5]) (t:=25) ?hr ?_;(case hd => rfl);(case hg => rfl);(case hr => first|(go_simp;done)|(go_simp;rfl));intro gb106 hg w11 hbox hb;have n0_:=Aside0.mk (below_step (by repeat (first|(with_reducible first|exact HB.out|apply below_alloc|apply pw_below_drewN|apply below_drew1)|exact HB.out)) hb);have n1_:=Aside0.mk (hbox);have n2_:=Aside0.mk ((by rw [hg];exact (below_size (by repeat (first|(with_reducible first|exact HB.out|apply below_alloc|apply pw_below_drewN|apply below_drew1)|exact HB.out))) : w.heap.size ≤ gb106));have n3_:=Aside0.mk ((by rw [hg];exact (below_size (by repeat (first|(with_reducible first|exact HB.out|apply below_alloc|apply pw_below_drewN|apply below_drew1)|exact HB.out))) : w.heap.size ≤ gb106));clear HB;have HB:=n0_;have BK106:=n1_;have GW106:=n2_;have GE106:=n3_;clear n0_ n1_ n2_ n3_;clear hb hbox hg;have hcz12_0 : w11.cell? ⟨gb106,0,none⟩ = some (.int .i64 a0_0):=(blk_cell BK106.out 0).trans rfl;have hcz12_1 : w11.cell? ⟨gb106,1,none⟩ = some (.string a0_1):=(blk_cell BK106.out 1).trans rfl;have hcz12_2 : w11.cell? ⟨gb106,2,none⟩ = some (.int .u32 a0_2):=(blk_cell BK106.out 2).trans rfl;have hcz12_3 : w11.cell? ⟨gb106,3,none⟩ = some (.bool a0_3):=(blk_cell BK106.out 3).trans rfl;have hcz12_4 : w11.cell? ⟨gb106,4,none⟩ = some (.slice A0_4 l0_4.length c0_4):=(blk_cell BK106.out 4).trans rfl;have hcz12_5 : w11.cell? ⟨gb106,5,none⟩ = some (.int .i64 a0_5):=(blk_cell BK106.out 5).trans rfl;have hfz12_0:=blk_frozen BK106.out 0;have hfz12_1:=blk_frozen BK106.out 1;have hfz12_2:=blk_frozen BK106.out 2;have hfz12_3:=blk_frozen BK106.out 3;have hfz12_4:=blk_frozen BK106.out 4;have hfz12_5:=blk_frozen BK106.out 5))
       go_ret
       exact ⟨by first|rfl|(simp [errW_none,errW_some] <;> rfl)|(simp [*,errW_none,errW_some] <;> rfl),by repeat (first|(with_reducible first|exact HB.out|apply below_alloc|apply pw_below_drewN|apply below_drew1|refine below_set ?_ GE106.out)|exact HB.out)⟩
end Go.Proofs.YtboojhadfhpdeaaGreatDoor.Q
namespace Go.Proofs.YtboojhadfhpdeaaGreatDoor.Q
open Go.RowKit Go.Proofs.YtboojhadfhpdeaaGreatDoorW.PrintWords Go.Proofs.YtboojhadfhpdeaaGreatDoorW.PrintLast Go.Proofs.YtboojhadfhpdeaaGreatDoorW.PrintMore
set_option linter.unusedVariables false
set_option linter.unusedSimpArgs false
def KnowE (y : S25) : Prop:=∀ (A : Option Addr) (c : Nat) (w : World),PremW w → ND w y A c → Calls Tryz.prog 83 #[val y A c] w (AllP (exB y) w)
def KnowS (y : S25) : Prop:=∀ (A : Option Addr) (c : Nat) (w : World),PremW w → ND w y A c → Calls Tryz.prog 52 #[val y A c] w (AllP (stB y) w)
theorem KnowE.go {y : S25} {A : Option Addr} {c : Nat} {w : World} (h : KnowE y) (hG : PremW w) (hn : ND w y A c) : Calls Tryz.prog 83 #[val y A c] w (AllP (exB y) w):=h A c w hG hn
theorem KnowS.go {y : S25} {A : Option Addr} {c : Nat} {w : World} (h : KnowS y) (hG : PremW w) (hn : ND w y A c) : Calls Tryz.prog 52 #[val y A c] w (AllP (stB y) w):=h A c w hG hn
section
variable {s : ByteArray} {w : World}
theorem nameR.all (hs : Sml s) (hG : PremW w) : Calls Tryz.prog 34 #[.string s] w (AllP (nmB s) w):=by
 obtain ⟨k,hk⟩:=(nm_ref s hs).rounds;refine (crucibleref08_name.calls k s _ w hk).mono ?_;rintro e w' ⟨rfl,h⟩;exact ⟨rfl,h.below⟩
theorem signR.all (t : ByteArray) (ht : t.size ≤ 1000) (hs : Sml s) (hG : PremW w) : Calls Tryz.prog 97 #[.string t,.string s] w (AllP (oneL t.data.toList s.data.toList) w):=by
 obtain ⟨k,hk⟩:=(sign_ref t s ht hs).rounds;refine (crucibleref08_sign.calls k t s _ w hk).mono ?_;rintro e w' ⟨rfl,h⟩;exact ⟨rfl,h.below⟩
end
set_option maxHeartbeats 8000000 in
set_option maxRecDepth 100000 in
theorem partsR.all {x : S25} {A : Option Addr} {c : Nat} {w : World} (a b d : Bool) (hG : PremW w) (hn : ND w x A c) : Calls Tryz.prog 21 #[val x A c,.bool a,.bool b,.bool d] w (AllP (partsB x a b d) w):=by
 have E:=Env.start hG hn;clear hn hG;cases h0 : (a);cases h5 : (x.f1.toList == ([] : List UInt8));rotate_left 1;cases h1 : (b);rotate_right 1
 rotate_left 1;cases h4 : (x.f2 == 0);rotate_right 1
 rotate_left 2;cases h2 : (d);rotate_right 2
 rotate_left 2;cases h3 : (x.f3);rotate_right 2
 rotate_left 5;cases h2 : (d);rotate_right 5
 rotate_left 5;cases h3 : (x.f3);rotate_right 5
 rotate_left 8;cases h1 : (b);rotate_right 8
 rotate_left 8;cases h4 : (x.f2 == 0);rotate_right 8
 rotate_left 9;cases h2 : (d);rotate_right 9
 rotate_left 9;cases h3 : (x.f3);rotate_right 9
 rotate_left 12;cases h2 : (d);rotate_right 12
 rotate_left 12;cases h3 : (x.f3);rotate_right 12
 all_goals
  try have h4m0 : (x.f2 != 0) = false:=by rw [bne,h4];rfl
  try have h4m0 : (x.f2 != 0) = true:=by rw [bne,h4];rfl
  try have h5m0 : (x.f1.toList != ([] : List UInt8)) = false:=by rw [bne,h5];rfl
  try have h5m0 : (x.f1.toList != ([] : List UInt8)) = true:=by rw [bne,h5];rfl
  go_enter Tryz.func21,Tryz.ntmps21
  go_wp2
  go_ret
  exact ⟨by unfold partsB;(try rw [h0]);(try rw [h1]);(try rw [h2]);(try rw [h3]);(try rw [h4]);(try rw [h5]);first|done|rfl,fin_⟩
theorem kid_some {w : World} {A : Option Addr} {n : Nat} {xs : List S25} (h : Kd.C k25 w A n xs) (h0 : 0 < n) : ∃ ad,A = some ad:=by
 obtain ⟨ad,_,_,e,_⟩:=node_at h 0 h0;exact ⟨ad,e⟩
theorem len_of {n : Nat} {k : Nat} (h : ((n : Int) == (k : Int)) = true) : n = k:=by
 have:=beq_iff_eq.1 h;omega
theorem kid0 {w : World} {ad : Addr} {n : Nat} {xs : List S25} (h : Kd.C k25 w (some ad) n xs) (hi : 0 < n) : ∃ A' c',ND w (nd xs 0) A' c' ∧ w.cell? ad = some (.int .i64 (nd xs 0).f0) ∧ w.cell? ⟨ad.block,ad.off + 1,none⟩ = some (.string (nd xs 0).f1) ∧ w.cell? ⟨ad.block,ad.off + 2,none⟩ = some (.int .u32 (nd xs 0).f2) ∧ w.cell? ⟨ad.block,ad.off + 3,none⟩ = some (.bool (nd xs 0).f3) ∧ w.cell? ⟨ad.block,ad.off + 4,none⟩ = some (.slice A' (nd xs 0).f4.length c') ∧ w.cell? ⟨ad.block,ad.off + 5,none⟩ = some (.int .i64 (nd xs 0).f5):=by
 obtain ⟨ad1,A1,c1,e,hn,k0,k1,k2,k3,k4,k5⟩:=node_at h 0 hi;obtain rfl:=Option.some.inj e;rw [Nat.zero_mul,add_zero_] at k0 k1 k2 k3 k4 k5;exact ⟨A1,c1,hn,k0,k1,k2,k3,k4,k5⟩
theorem kid1 {w : World} {ad : Addr} {n : Nat} {xs : List S25} (h : Kd.C k25 w (some ad) n xs) (hi : 1 < n) : ∃ A' c',ND w (nd xs 1) A' c' ∧ w.cell? ⟨ad.block,ad.off + 6,none⟩ = some (.int .i64 (nd xs 1).f0) ∧ w.cell? ⟨ad.block,ad.off + 6 + 1,none⟩ = some (.string (nd xs 1).f1) ∧ w.cell? ⟨ad.block,ad.off + 6 + 2,none⟩ = some (.int .u32 (nd xs 1).f2) ∧ w.cell? ⟨ad.block,ad.off + 6 + 3,none⟩ = some (.bool (nd xs 1).f3) ∧ w.cell? ⟨ad.block,ad.off + 6 + 4,none⟩ = some (.slice A' (nd xs 1).f4.length c') ∧ w.cell? ⟨ad.block,ad.off + 6 + 5,none⟩ = some (.int .i64 (nd xs 1).f5):=by
 obtain ⟨ad1,A1,c1,e,hn,k0,k1,k2,k3,k4,k5⟩:=node_at h 1 hi;obtain rfl:=Option.some.inj e;exact ⟨A1,c1,hn,k0,k1,k2,k3,k4,k5⟩
theorem kid2 {w : World} {ad : Addr} {n : Nat} {xs : List S25} (h : Kd.C k25 w (some ad) n xs) (hi : 2 < n) : ∃ A' c',ND w (nd xs 2) A' c' ∧ w.cell? ⟨ad.block,ad.off + 12,none⟩ = some (.int .i64 (nd xs 2).f0) ∧ w.cell? ⟨ad.block,ad.off + 12 + 1,none⟩ = some (.string (nd xs 2).f1) ∧ w.cell? ⟨ad.block,ad.off + 12 + 2,none⟩ = some (.int .u32 (nd xs 2).f2) ∧ w.cell? ⟨ad.block,ad.off + 12 + 3,none⟩ = some (.bool (nd xs 2).f3) ∧ w.cell? ⟨ad.block,ad.off + 12 + 4,none⟩ = some (.slice A' (nd xs 2).f4.length c') ∧ w.cell? ⟨ad.block,ad.off + 12 + 5,none⟩ = some (.int .i64 (nd xs 2).f5):=by
 obtain ⟨ad1,A1,c1,e,hn,k0,k1,k2,k3,k4,k5⟩:=node_at h 2 hi;obtain rfl:=Option.some.inj e;exact ⟨A1,c1,hn,k0,k1,k2,k3,k4,k5⟩
theorem kid3 {w : World} {ad : Addr} {n : Nat} {xs : List S25} (h : Kd.C k25 w (some ad) n xs) (hi : 3 < n) : ∃ A' c',ND w (nd xs 3) A' c' ∧ w.cell? ⟨ad.block,ad.off + 18,none⟩ = some (.int .i64 (nd xs 3).f0) ∧ w.cell? ⟨ad.block,ad.off + 18 + 1,none⟩ = some (.string (nd xs 3).f1) ∧ w.cell? ⟨ad.block,ad.off + 18 + 2,none⟩ = some (.int .u32 (nd xs 3).f2) ∧ w.cell? ⟨ad.block,ad.off + 18 + 3,none⟩ = some (.bool (nd xs 3).f3) ∧ w.cell? ⟨ad.block,ad.off + 18 + 4,none⟩ = some (.slice A' (nd xs 3).f4.length c') ∧ w.cell? ⟨ad.block,ad.off + 18 + 5,none⟩ = some (.int .i64 (nd xs 3).f5):=by
 obtain ⟨ad1,A1,c1,e,hn,k0,k1,k2,k3,k4,k5⟩:=node_at h 3 hi;obtain rfl:=Option.some.inj e;exact ⟨A1,c1,hn,k0,k1,k2,k3,k4,k5⟩
def noS (x : S25) : Bool:=((x.f0 == 56) && (partsB x false false false) && ((x.f4.length : Int) == 0))
set_option maxHeartbeats 8000000 in
set_option maxRecDepth 100000 in
theorem noneR.s {x : S25} {A : Option Addr} {c : Nat} {w : World} (hG : PremW w) (hn : ND w x A c) : Calls Tryz.prog 49 #[val x A c] w (AllP (noS x) w):=by
 have E:=Env.start hG hn;clear hn hG;cases h0 : (x.f0 == 56);rotate_left 1;cases h1 : (partsB x false false false);rotate_right 1
 rotate_left 2;cases h2 : ((x.f4.length : Int) == 0);rotate_right 2
 all_goals
  try (have HC1:=Aside0.mk h1;clear h1)
  go_enter Tryz.func49,Tryz.ntmps49
  go_wp2_with (first
   | (go_at_call 21;(try clear c0 c1 c2 c3 c4 c5);(with_reducible refine Env.call E E.out HC1.out (partsR.all false false false E.out.prem E.out.nd) (fun w1 E c0 c1 c2 c3 c4 c5 => ?_)))
   | fail)
  go_ret
  exact ⟨by unfold noS;(try rw [h0]);(try rw [HC1.out]);(try rw [h2]);first|done|rfl,fin_⟩
theorem noS_eq (x : S25) : noS x = noT x:=by
 unfold noS noT;by_cases h : x.f0 = 56
 · rw [show (x.f0 == 56) = true from beq_iff_eq.2 h,decide_eq_true h,mayT_S (by omega),show stmtB x = s0 x from by unfold stmtB;simp [h]];unfold partsB s0;by_cases h0 : x.f4.length = 0
   · rw [List.eq_nil_of_length_eq_zero h0];cases (x.f1.toList == ([] : List UInt8)) <;> cases (x.f2 == 0) <;> cases x.f3 <;> rfl
   · rw [show ((x.f4.length : Int) == 0) = false from beq_eq_false_iff_ne.2 (by omega)];cases (x.f1.toList == ([] : List UInt8)) <;> cases (x.f2 == 0) <;> cases x.f3 <;> rfl
 · rw [show (x.f0 == 56) = false from beq_eq_false_iff_ne.2 h,decide_eq_false h];rfl
noncomputable def exS (x : S25) : Bool:=((decide (x.f0 ≥ 1)) && (decide (x.f0 ≤ 15)) && (exB x))
set_option maxHeartbeats 8000000 in
set_option maxRecDepth 100000 in
theorem exprR.s {x : S25} {A : Option Addr} {c : Nat} {w : World} (hk : KnowE x) (hG : PremW w) (hn : ND w x A c) : Calls Tryz.prog 50 #[val x A c] w (AllP (exS x) w):=by
 have E:=Env.start hG hn;clear hn hG;have HK:=Aside0.mk hk;clear hk;cases h0 : (decide (x.f0 ≥ 1));rotate_left 1;cases h1 : (decide (x.f0 ≤ 15));rotate_right 1
 rotate_left 2;cases h2 : (exB x);rotate_right 2
 all_goals
  try have h0m0 : decide (1 ≤ x.f0) = true:=h0
  try have h0m0 : decide (1 ≤ x.f0) = false:=h0
  try (have HC2:=Aside0.mk h2;clear h2)
  go_enter Tryz.func50,Tryz.ntmps50
  go_wp2_with (first
   | (go_at_call 83;(try clear c0 c1 c2 c3 c4 c5);(with_reducible refine Env.call E E.out HC2.out (KnowE.go HK.out E.out.prem E.out.nd) (fun w1 E c0 c1 c2 c3 c4 c5 => ?_)))
   | fail)
  go_ret
  exact ⟨by unfold exS;(try rw [h0]);(try rw [h1]);(try rw [HC2.out]);first|done|rfl,fin_⟩
theorem exS_eq (x : S25) : exS x = exB x:=by
 unfold exS exB isE;rw [show decide (x.f0 ≥ 1) = decide (1 ≤ x.f0) from rfl];cases decide (1 ≤ x.f0) <;> cases decide (x.f0 ≤ 15) <;> cases mayT x <;> rfl
section
variable {x : S25} {A : Option Addr} {c : Nat} {w : World}
theorem noneR.all (hG : PremW w) (hn : ND w x A c) : Calls Tryz.prog 49 #[val x A c] w (AllP (noT x) w):=by rw [← noS_eq];exact noneR.s hG hn
theorem exprR.all (hk : KnowE x) (hG : PremW w) (hn : ND w x A c) : Calls Tryz.prog 50 #[val x A c] w (AllP (exB x) w):=by rw [← exS_eq];exact exprR.s hk hG hn
end
theorem all_from {p : S25 → Bool} {l : List S25} {i : Nat} (h : ∀ j,i ≤ j → j < l.length → p (nd l j) = true) : (l.drop i).all p = true:=by
 rw [List.all_eq_true];intro y hy;obtain ⟨j,hj,rfl⟩:=List.mem_iff_getElem.1 hy;rw [List.length_drop] at hj;have:=h (i + j) (by omega) (by omega);rw [List.getElem_drop]
 rwa [show nd l (i + j) = l[i + j] from by simp [nd,show i + j < l.length by omega]] at this
theorem all_fails {p : S25 → Bool} {l : List S25} {i j : Nat} (hij : i ≤ j) (hj : j < l.length) (h : p (nd l j) = false) : (l.drop i).all p = false:=by
 rw [Bool.eq_false_iff,ne_eq,List.all_eq_true];intro h2;have:=h2 (nd l j) (by rw [show nd l j = l[j] from by simp [nd,hj]];exact List.mem_iff_getElem.2 ⟨j - i,by rw [List.length_drop];omega,by rw [List.getElem_drop];congr 1;omega⟩);rw [h] at this;cases this
theorem all_from0 {p : S25 → Bool} {l : List S25} (h : ∀ j,0 ≤ j → j < l.length → p (nd l j) = true) : l.all p = true:=all_from (i:=0) h
theorem all_fails0 {p : S25 → Bool} {l : List S25} {j : Nat} (hij : 0 ≤ j) (hj : j < l.length) (h : p (nd l j) = false) : l.all p = false:=all_fails (i:=0) hij hj h
theorem all_from1 {p : S25 → Bool} {l : List S25} (h : ∀ j,1 ≤ j → j < l.length → p (nd l j) = true) : l.tail.all p = true:=by rw [← List.drop_one];exact all_from h
theorem all_fails1 {p : S25 → Bool} {l : List S25} {j : Nat} (hij : 1 ≤ j) (hj : j < l.length) (h : p (nd l j) = false) : l.tail.all p = false:=by rw [← List.drop_one];exact all_fails hij hj h
theorem node_atS {w : World} {ad : Addr} {n : Nat} {xs : List S25} (h : Kd.C k25 w (some ad) n xs) {i : Nat} (hi : i < n) : ∃ A' c',ND w (nd xs i) A' c' ∧ w.cell? (ad.add (i * 6)) = some (.int .i64 (nd xs i).f0) ∧ w.cell? ⟨(ad.add (i * 6)).block,(ad.add (i * 6)).off + 1,none⟩ = some (.string (nd xs i).f1) ∧ w.cell? ⟨(ad.add (i * 6)).block,(ad.add (i * 6)).off + 2,none⟩ = some (.int .u32 (nd xs i).f2) ∧ w.cell? ⟨(ad.add (i * 6)).block,(ad.add (i * 6)).off + 3,none⟩ = some (.bool (nd xs i).f3) ∧ w.cell? ⟨(ad.add (i * 6)).block,(ad.add (i * 6)).off + 4,none⟩ = some (.slice A' (nd xs i).f4.length c') ∧ w.cell? ⟨(ad.add (i * 6)).block,(ad.add (i * 6)).off + 5,none⟩ = some (.int .i64 (nd xs i).f5):=by
 obtain ⟨ad1,A1,c1,e,hn,k0,k1,k2,k3,k4,k5⟩:=node_at h i hi;obtain rfl:=Option.some.inj e;exact ⟨A1,c1,hn,k0,k1,k2,k3,k4,k5⟩
end Go.Proofs.YtboojhadfhpdeaaGreatDoor.Q
namespace Go.Proofs.YtboojhadfhpdeaaGreatDoor.Q
open Go.RowKit Go.Proofs.YtboojhadfhpdeaaGreatDoorW.PrintWords Go.Proofs.YtboojhadfhpdeaaGreatDoorW.PrintLast Go.Proofs.YtboojhadfhpdeaaGreatDoorW.PrintMore
set_option linter.unusedVariables false
set_option linter.unusedSimpArgs false
set_option maxHeartbeats 8000000 in
set_option maxRecDepth 100000 in
theorem exprsR.p {x : S25} {A : Option Addr} {c : Nat} {w : World} (n : Int) (hge : n ≥ 0) (hq : (x.f4.length : Int) = n) (hk : ∀ y ∈ x.f4,KnowE y) (hG : PremW w) (hn : ND w x A c) : Calls Tryz.prog 51 #[val x A c,.int .i64 n] w (AllP (x.f4.all exB) w):=by
 have HMX:=Aside0.mk hn.C.2.1;have E:=Env.start hG hn;clear hn hG;have HK:=Aside0.mk hk;clear hk;have g1 : decide (n ≥ 0) = true:=decide_eq_true hge;have g2 : decide (0 ≤ n) = true:=g1;have g3 : ((x.f4.length : Int) != n) = false:=bne_eq_false_iff_eq.2 hq;have g4 : ((x.f4.length : Int) == n) = true:=beq_iff_eq.2 hq;have HQ:=Aside0.mk (And.intro hge hq);clear hge hq;go_enter Tryz.func51,Tryz.ntmps51
 go_wp2
 try clear c0 c1 c2 c3 c4 c5
 go_loopg [5] x.f4.length (fun kq v w' => ∃ i : Nat,v = .int .i64 i ∧ Aside0 (i + kq = x.f4.length + 0) ∧ Aside0 (0 ≤ i) ∧ Aside0 (∀ j,0 ≤ j → j < i → j < x.f4.length → exB (nd x.f4 j) = true) ∧ Aside0 (Env w x A c w'))
 case atStart => exact ⟨0,rfl,⟨by omega⟩,⟨Nat.le_refl _⟩,⟨fun j h1 h2 => by omega⟩,by first|exact E|exact ⟨E.out.alloc _⟩⟩
 case round =>
  obtain ⟨i,rfl,HI,H0,HP,E⟩:=hrel;obtain ⟨c0,c1,c2,c3,c4,c5⟩:=E.out.cells;by_cases hi : i < x.f4.length
  · have e1n : decide (i < x.f4.length) = true:=decide_eq_true hi;have e1 : decide ((i : Int) < (x.f4.length : Int)) = true:=decide_eq_true (by omega);have p1 : (0 : Int) ≤ (i : Int):=by omega
    have q1 : (i : Int) < (x.f4.length : Int):=by omega
    obtain ⟨ad,A',c',rfl,hnd,k0,k1,k2,k3,k4,k5⟩:=node_at E.out.kids i hi;have HND:=Aside0.mk hnd;have HIL:=Aside0.mk hi;have HMEM:=Aside0.mk (nd_mem hi);clear hi hnd;have w3 : wrap64 ((i : Int) + 1) = (i : Int) + 1:=by have:=HMX.out;have:=HIL.out;unfold wrap64;omega
    have w4 : IntKind.i64.wrap ((i : Int) + 1) = (i : Int) + 1:=(i64_w _).trans w3;cases hp0 : exB (nd x.f4 i);all_goals
     try (have HC0:=Aside0.mk hp0;clear hp0)
     go_wp2_with (first
      | (go_at_call 50;(try clear c0 c1 c2 c3 c4 c5);(with_reducible refine Env.call E E.out HC0.out (exprR.all (HK.out _ HMEM.out) E.out.prem HND.out) (fun w1 E c0 c1 c2 c3 c4 c5 => ?_));(try (clear k0 k1 k2 k3 k4 k5;obtain ⟨A2,c2_,hnd,k0,k1,k2,k3,k4,k5⟩:=node_atS E.out.kids HIL.out;have HND:=Aside0.mk hnd;clear hnd)))
      | fail)
     first
      | (go_ret;exact ⟨by rw [all_fails0 (p:=exB) H0.out HIL.out (by (try dsimp only);(try rw [HC0.out]);first|done|rfl)];rfl,fin_⟩)
      | (go_roundg (x.f4.length + 0 - (i + 1))
         case measure => have:=HI.out;have:=HIL.out;omega
         case rel => exact ⟨i + 1,by (try simp only [w4,w3]);rfl,⟨by have:=HI.out;have:=HIL.out;omega⟩,⟨by have:=H0.out;omega⟩,⟨fun j h1 h2 h3 => by
          by_cases hj : j = i
          · subst hj;(try dsimp only);(try rw [HC0.out]);first|done|rfl
          · exact HP.out j h1 (by omega) h3⟩,E⟩)
  · have e1n : decide (i < x.f4.length) = false:=decide_eq_false hi;have e1 : decide ((i : Int) < (x.f4.length : Int)) = false:=decide_eq_false (by omega);have HH:=Aside0.mk (all_from0 (p:=exB) (l:=x.f4) (fun j h1 h2 => HP.out j h1 (by omega) h2));clear hi HP HI;go_wp2
    go_ret
    exact ⟨by rw [HH.out];rfl,fin_⟩
set_option maxHeartbeats 8000000 in
set_option maxRecDepth 100000 in
theorem exprsR.n {x : S25} {A : Option Addr} {c : Nat} {w : World} (n : Int) (hge : ¬ n ≥ 0) (hk : ∀ y ∈ x.f4,KnowE y) (hG : PremW w) (hn : ND w x A c) : Calls Tryz.prog 51 #[val x A c,.int .i64 n] w (AllP (x.f4.all exB) w):=by
 have HMX:=Aside0.mk hn.C.2.1;have E:=Env.start hG hn;clear hn hG;have HK:=Aside0.mk hk;clear hk;have g1 : decide (n ≥ 0) = false:=decide_eq_false hge;have g2 : decide (0 ≤ n) = false:=g1;have HQ:=Aside0.mk hge;clear hge;go_enter Tryz.func51,Tryz.ntmps51
 go_wp2
 try clear c0 c1 c2 c3 c4 c5
 go_loopg [5] x.f4.length (fun kq v w' => ∃ i : Nat,v = .int .i64 i ∧ Aside0 (i + kq = x.f4.length + 0) ∧ Aside0 (0 ≤ i) ∧ Aside0 (∀ j,0 ≤ j → j < i → j < x.f4.length → exB (nd x.f4 j) = true) ∧ Aside0 (Env w x A c w'))
 case atStart => exact ⟨0,rfl,⟨by omega⟩,⟨Nat.le_refl _⟩,⟨fun j h1 h2 => by omega⟩,by first|exact E|exact ⟨E.out.alloc _⟩⟩
 case round =>
  obtain ⟨i,rfl,HI,H0,HP,E⟩:=hrel;obtain ⟨c0,c1,c2,c3,c4,c5⟩:=E.out.cells;by_cases hi : i < x.f4.length
  · have e1n : decide (i < x.f4.length) = true:=decide_eq_true hi;have e1 : decide ((i : Int) < (x.f4.length : Int)) = true:=decide_eq_true (by omega);have p1 : (0 : Int) ≤ (i : Int):=by omega
    have q1 : (i : Int) < (x.f4.length : Int):=by omega
    obtain ⟨ad,A',c',rfl,hnd,k0,k1,k2,k3,k4,k5⟩:=node_at E.out.kids i hi;have HND:=Aside0.mk hnd;have HIL:=Aside0.mk hi;have HMEM:=Aside0.mk (nd_mem hi);clear hi hnd;have w3 : wrap64 ((i : Int) + 1) = (i : Int) + 1:=by have:=HMX.out;have:=HIL.out;unfold wrap64;omega
    have w4 : IntKind.i64.wrap ((i : Int) + 1) = (i : Int) + 1:=(i64_w _).trans w3;cases hp0 : exB (nd x.f4 i);all_goals
     try (have HC0:=Aside0.mk hp0;clear hp0)
     go_wp2_with (first
      | (go_at_call 50;(try clear c0 c1 c2 c3 c4 c5);(with_reducible refine Env.call E E.out HC0.out (exprR.all (HK.out _ HMEM.out) E.out.prem HND.out) (fun w1 E c0 c1 c2 c3 c4 c5 => ?_));(try (clear k0 k1 k2 k3 k4 k5;obtain ⟨A2,c2_,hnd,k0,k1,k2,k3,k4,k5⟩:=node_atS E.out.kids HIL.out;have HND:=Aside0.mk hnd;clear hnd)))
      | fail)
     first
      | (go_ret;exact ⟨by rw [all_fails0 (p:=exB) H0.out HIL.out (by (try dsimp only);(try rw [HC0.out]);first|done|rfl)];rfl,fin_⟩)
      | (go_roundg (x.f4.length + 0 - (i + 1))
         case measure => have:=HI.out;have:=HIL.out;omega
         case rel => exact ⟨i + 1,by (try simp only [w4,w3]);rfl,⟨by have:=HI.out;have:=HIL.out;omega⟩,⟨by have:=H0.out;omega⟩,⟨fun j h1 h2 h3 => by
          by_cases hj : j = i
          · subst hj;(try dsimp only);(try rw [HC0.out]);first|done|rfl
          · exact HP.out j h1 (by omega) h3⟩,E⟩)
  · have e1n : decide (i < x.f4.length) = false:=decide_eq_false hi;have e1 : decide ((i : Int) < (x.f4.length : Int)) = false:=decide_eq_false (by omega);have HH:=Aside0.mk (all_from0 (p:=exB) (l:=x.f4) (fun j h1 h2 => HP.out j h1 (by omega) h2));clear hi HP HI;go_wp2
    go_ret
    exact ⟨by rw [HH.out];rfl,fin_⟩
set_option maxHeartbeats 8000000 in
set_option maxRecDepth 100000 in
theorem exprsR.f {x : S25} {A : Option Addr} {c : Nat} {w : World} (n : Int) (hge : n ≥ 0) (hq : (x.f4.length : Int) ≠ n) (hG : PremW w) (hn : ND w x A c) : Calls Tryz.prog 51 #[val x A c,.int .i64 n] w (AllP false w):=by
 have E:=Env.start hG hn;have g1 : decide (n ≥ 0) = true:=decide_eq_true hge;have g2 : decide (0 ≤ n) = true:=g1;have g3 : ((x.f4.length : Int) != n) = true:=bne_iff_ne.2 hq;have g4 : ((x.f4.length : Int) == n) = false:=beq_eq_false_iff_ne.2 hq;clear hn hG hge hq;go_enter Tryz.func51,Tryz.ntmps51
 go_wp2
 go_ret
 exact ⟨rfl,fin_⟩
theorem exprsR.all {x : S25} {A : Option Addr} {c : Nat} {w : World} (n : Int) (hk : ∀ y ∈ x.f4,KnowE y) (hG : PremW w) (hn : ND w x A c) : Calls Tryz.prog 51 #[val x A c,.int .i64 n] w (AllP (exs n x exB) w):=by
 unfold exs;by_cases hge : n ≥ 0
 · rw [decide_eq_false (show ¬ n < 0 by omega),Bool.false_or];by_cases hq : (x.f4.length : Int) = n
   · rw [show ((x.f4.length : Int) == n) = true from beq_iff_eq.2 hq,Bool.true_and];exact exprsR.p n hge hq hk hG hn
   · rw [show ((x.f4.length : Int) == n) = false from beq_eq_false_iff_ne.2 hq,Bool.false_and];exact exprsR.f n hge hq hG hn
 · rw [decide_eq_true (show n < 0 by omega),Bool.true_or,Bool.true_and];exact exprsR.n n hge hk hG hn
end Go.Proofs.YtboojhadfhpdeaaGreatDoor.Q
namespace Go.Proofs.YtboojhadfhpdeaaGreatDoor.Q
open Go.RowKit Go.Proofs.YtboojhadfhpdeaaGreatDoorW.PrintWords Go.Proofs.YtboojhadfhpdeaaGreatDoorW.PrintLast Go.Proofs.YtboojhadfhpdeaaGreatDoorW.PrintMore
set_option linter.unusedVariables false
set_option linter.unusedSimpArgs false
theorem len_dec (n k : Nat) : ((n : Int) == (k : Int)) = decide (n = k):=by
 by_cases h : n = k
 · rw [decide_eq_true h,h];simp
 · rw [decide_eq_false h];exact beq_eq_false_iff_ne.2 (by omega)
theorem exs_two {x : S25} (h : exs 2 x exB = true) : x.f4.length = 2:=by
 unfold exs at h;simp only [Bool.and_eq_true,Bool.or_eq_true,decide_eq_true_eq,beq_iff_eq] at h;omega
theorem placeR.all {x : S25} {A : Option Addr} {c : Nat} {w : World} (hn : ND w x A c) : Calls Tryz.prog 98 #[val x A c] w (AllP (isP x) w):=by
 have h : crucibleref08_Place.f x.f0 x.f1 x.f2 x.f3 x.f4 x.f5 = some (isP x):=by
  unfold crucibleref08_Place.f isP;by_cases h4 : x.f0 = 4 <;> by_cases h5 : x.f0 = 5 <;> by_cases h6 : x.f0 = 6 <;> by_cases h7 : x.f0 = 7 <;> simp [h4,h5,h6,h7]
 exact crucibleref08_Place.calls _ _ _ _ A c _ _ _ w hn.C hn.le h
theorem typedR.all {x : S25} {A : Option Addr} {c : Nat} {w : World} (hs : Sml x.f1) (hG : PremW w) (hn : ND w x A c) : Calls Tryz.prog 35 #[val x A c] w (AllP (tyT x) w):=by
 obtain ⟨k,hk⟩:=(typed_ref x hs).rounds;exact crucibleref08_typed.calls k _ _ _ _ A c _ _ _ w hn.C hn.le hk
noncomputable def m1 (x : S25) : Bool:=partsB x false true true && (x.f3 || decide (x.f2 < 2147483648)) && exs 0 x exB
set_option maxHeartbeats 8000000 in
set_option maxRecDepth 100000 in
theorem mayR.s1t {f0 : Int} {f1 : ByteArray} {f2 : Int} {l : List S25} {p : Int} {A : Option Addr} {c : Nat} {w : World} (h1 : f0 = 1) (hk2 : ∀ y ∈ l,KnowE y) (hG : PremW w) (hn : ND w ⟨f0,f1,f2,true,l,p⟩ A c) : Calls Tryz.prog 83 #[val ⟨f0,f1,f2,true,l,p⟩ A c] w (AllP (m1 ⟨f0,f1,f2,true,l,p⟩) w):=by
 have E:=Env.start hG hn;clear hn hG;have b1 : (f0 == 1) = true:=by rw [h1];rfl
 have H1:=Aside0.mk h1;clear h1;have HK:=Aside0.mk hk2;clear hk2;cases h0 : (partsB ⟨f0,f1,f2,true,l,p⟩ false true true);rotate_left 1;cases h1 : (exs 0 ⟨f0,f1,f2,true,l,p⟩ exB);rotate_right 1
 all_goals
  try (have HC0:=Aside0.mk h0;clear h0)
  try (have HC1:=Aside0.mk h1;clear h1)
  go_enter Tryz.func83,Tryz.ntmps83
  go_wp2_with (first
   | (go_at_call 21;(try clear c0 c1 c2 c3 c4 c5);(with_reducible refine Env.call E E.out HC0.out (partsR.all false true true E.out.prem E.out.nd) (fun w1 E c0 c1 c2 c3 c4 c5 => ?_)))
   | (go_at_call 51;(try clear c0 c1 c2 c3 c4 c5);(with_reducible refine Env.call E E.out HC1.out (exprsR.all 0 HK.out E.out.prem E.out.nd) (fun w1 E c0 c1 c2 c3 c4 c5 => ?_)))
   | fail)
  go_ret
  exact ⟨by unfold m1;(try rw [HC0.out]);(try rw [HC1.out]);first|done|rfl,fin_⟩
set_option maxHeartbeats 8000000 in
set_option maxRecDepth 100000 in
theorem mayR.s1f {f0 : Int} {f1 : ByteArray} {f2 : Int} {l : List S25} {p : Int} {A : Option Addr} {c : Nat} {w : World} (h1 : f0 = 1) (hk2 : ∀ y ∈ l,KnowE y) (hG : PremW w) (hn : ND w ⟨f0,f1,f2,false,l,p⟩ A c) : Calls Tryz.prog 83 #[val ⟨f0,f1,f2,false,l,p⟩ A c] w (AllP (m1 ⟨f0,f1,f2,false,l,p⟩) w):=by
 have E:=Env.start hG hn;clear hn hG;have b1 : (f0 == 1) = true:=by rw [h1];rfl
 have H1:=Aside0.mk h1;clear h1;have HK:=Aside0.mk hk2;clear hk2;cases h0 : (partsB ⟨f0,f1,f2,false,l,p⟩ false true true);rotate_left 1;cases h1 : (decide (f2 < 2147483648));rotate_right 1
 rotate_left 2;cases h2 : (exs 0 ⟨f0,f1,f2,false,l,p⟩ exB);rotate_right 2
 all_goals
  try (have HC0:=Aside0.mk h0;clear h0)
  try (have HC2:=Aside0.mk h2;clear h2)
  go_enter Tryz.func83,Tryz.ntmps83
  go_wp2_with (first
   | (go_at_call 21;(try clear c0 c1 c2 c3 c4 c5);(with_reducible refine Env.call E E.out HC0.out (partsR.all false true true E.out.prem E.out.nd) (fun w1 E c0 c1 c2 c3 c4 c5 => ?_)))
   | (go_at_call 51;(try clear c0 c1 c2 c3 c4 c5);(with_reducible refine Env.call E E.out HC2.out (exprsR.all 0 HK.out E.out.prem E.out.nd) (fun w1 E c0 c1 c2 c3 c4 c5 => ?_)))
   | fail)
  go_ret
  exact ⟨by unfold m1;(try rw [HC0.out]);(try rw [h1]);(try rw [HC2.out]);first|done|rfl,fin_⟩
theorem m1_eq {x : S25} (hk : x.f0 = 1) : m1 x = exB x:=by
 rw [exB_of (by omega) (by omega) (show exprsB x = e1 x from by unfold exprsB;simp [hk]),decide_eq_true hk];unfold e1 m1 partsB;rw [exs0 x exB mayT];cases (x.f1.toList == ([] : List UInt8)) <;> cases (x.f2 == 0) <;> cases x.f3 <;> cases ((x.f4.length : Int) == 0) <;> cases x.f4.all mayT <;> cases decide (x.f2 < 2147483648) <;> rfl
noncomputable def m2 (x : S25) : Bool:=((partsB x false true false) && (decide (x.f2 < 256)) && (exs 0 x exB))
set_option maxHeartbeats 8000000 in
set_option maxRecDepth 100000 in
theorem mayR.s2 {x : S25} {A : Option Addr} {c : Nat} {w : World} (hk : x.f0 = 2) (hs : Sml x.f1) (hks : ∀ y ∈ x.f4,Sml y.f1) (hk2 : ∀ y ∈ x.f4,KnowE y) (hG : PremW w) (hn : ND w x A c) : Calls Tryz.prog 83 #[val x A c] w (AllP (m2 x) w):=by
 have E:=Env.start hG hn;clear hn hG;have b1 : (x.f0 == 1) = false:=by rw [hk];rfl
 have b2 : (x.f0 == 2) = true:=by rw [hk];rfl
 have HK:=Aside0.mk hk;clear hk;have HS:=Aside0.mk hs;clear hs;have HK:=Aside0.mk hk2;clear hk2;have HKS:=Aside0.mk hks;clear hks;cases h0 : (partsB x false true false);rotate_left 1;cases h1 : (decide (x.f2 < 256));rotate_right 1
 rotate_left 2;cases h2 : (exs 0 x exB);rotate_right 2
 all_goals
  try (have HC0:=Aside0.mk h0;clear h0)
  try (have HC2:=Aside0.mk h2;clear h2)
  go_enter Tryz.func83,Tryz.ntmps83
  go_wp2_with (first
   | (go_at_call 21;(try clear c0 c1 c2 c3 c4 c5);(with_reducible refine Env.call E E.out HC0.out (partsR.all false true false E.out.prem E.out.nd) (fun w1 E c0 c1 c2 c3 c4 c5 => ?_)))
   | (go_at_call 51;(try clear c0 c1 c2 c3 c4 c5);(with_reducible refine Env.call E E.out HC2.out (exprsR.all 0 HK.out E.out.prem E.out.nd) (fun w1 E c0 c1 c2 c3 c4 c5 => ?_)))
   | fail)
  go_ret
  exact ⟨by unfold m2;(try rw [HC0.out]);(try rw [h1]);(try rw [HC2.out]);first|done|rfl,fin_⟩
theorem m2_eq {x : S25} (hk : x.f0 = 2) : m2 x = exB x:=by
 rw [exB_of (by omega) (by omega) (show exprsB x = e2 x from by unfold exprsB;simp [hk]),decide_eq_false (show ¬ x.f0 = 1 by omega)];unfold m2 e2 partsB;have e_:=exs0 x exB mayT;revert e_;generalize (x.f1.toList == ([] : List UInt8)) = b0;generalize (x.f2 == 0) = b1;generalize (x.f3) = b2;generalize ((x.f4.length : Int) == 0) = b3;generalize (x.f4.all mayT) = b4;generalize (decide (x.f2 < 256)) = b5;generalize (exs 0 x exB) = b6;clear hk;revert b0 b1 b2 b3 b4 b5 b6;decide
noncomputable def m3 (x : S25) : Bool:=((partsB x true false false) && (exs 0 x exB))
set_option maxHeartbeats 8000000 in
set_option maxRecDepth 100000 in
theorem mayR.s3 {x : S25} {A : Option Addr} {c : Nat} {w : World} (hk : x.f0 = 3) (hs : Sml x.f1) (hks : ∀ y ∈ x.f4,Sml y.f1) (hk2 : ∀ y ∈ x.f4,KnowE y) (hG : PremW w) (hn : ND w x A c) : Calls Tryz.prog 83 #[val x A c] w (AllP (m3 x) w):=by
 have E:=Env.start hG hn;clear hn hG;have b1 : (x.f0 == 1) = false:=by rw [hk];rfl
 have b2 : (x.f0 == 2) = false:=by rw [hk];rfl
 have b3 : (x.f0 == 3) = true:=by rw [hk];rfl
 have HK:=Aside0.mk hk;clear hk;have HS:=Aside0.mk hs;clear hs;have HK:=Aside0.mk hk2;clear hk2;have HKS:=Aside0.mk hks;clear hks;cases h0 : (partsB x true false false);rotate_left 1;cases h1 : (exs 0 x exB);rotate_right 1
 all_goals
  try (have HC0:=Aside0.mk h0;clear h0)
  try (have HC1:=Aside0.mk h1;clear h1)
  go_enter Tryz.func83,Tryz.ntmps83
  go_wp2_with (first
   | (go_at_call 21;(try clear c0 c1 c2 c3 c4 c5);(with_reducible refine Env.call E E.out HC0.out (partsR.all true false false E.out.prem E.out.nd) (fun w1 E c0 c1 c2 c3 c4 c5 => ?_)))
   | (go_at_call 51;(try clear c0 c1 c2 c3 c4 c5);(with_reducible refine Env.call E E.out HC1.out (exprsR.all 0 HK.out E.out.prem E.out.nd) (fun w1 E c0 c1 c2 c3 c4 c5 => ?_)))
   | fail)
  go_ret
  exact ⟨by unfold m3;(try rw [HC0.out]);(try rw [HC1.out]);first|done|rfl,fin_⟩
theorem m3_eq {x : S25} (hk : x.f0 = 3) : m3 x = exB x:=by
 rw [exB_of (by omega) (by omega) (show exprsB x = e3 x from by unfold exprsB;simp [hk]),decide_eq_false (show ¬ x.f0 = 1 by omega)];unfold m3 e3 partsB;have e_:=exs0 x exB mayT;revert e_;generalize (x.f1.toList == ([] : List UInt8)) = b0;generalize (x.f2 == 0) = b1;generalize (x.f3) = b2;generalize ((x.f4.length : Int) == 0) = b3;generalize (x.f4.all mayT) = b4;generalize (exs 0 x exB) = b5;clear hk;revert b0 b1 b2 b3 b4 b5;decide
noncomputable def m4 (x : S25) : Bool:=((partsB x true false false) && (nmB x.f1) && (exs 0 x exB))
set_option maxHeartbeats 8000000 in
set_option maxRecDepth 100000 in
theorem mayR.s4 {x : S25} {A : Option Addr} {c : Nat} {w : World} (hk : x.f0 = 4) (hs : Sml x.f1) (hks : ∀ y ∈ x.f4,Sml y.f1) (hk2 : ∀ y ∈ x.f4,KnowE y) (hG : PremW w) (hn : ND w x A c) : Calls Tryz.prog 83 #[val x A c] w (AllP (m4 x) w):=by
 have E:=Env.start hG hn;clear hn hG;have b1 : (x.f0 == 1) = false:=by rw [hk];rfl
 have b2 : (x.f0 == 2) = false:=by rw [hk];rfl
 have b3 : (x.f0 == 3) = false:=by rw [hk];rfl
 have b4 : (x.f0 == 4) = true:=by rw [hk];rfl
 have HK:=Aside0.mk hk;clear hk;have HS:=Aside0.mk hs;clear hs;have HK:=Aside0.mk hk2;clear hk2;have HKS:=Aside0.mk hks;clear hks;cases h0 : (partsB x true false false);rotate_left 1;cases h1 : (nmB x.f1);rotate_right 1
 rotate_left 2;cases h2 : (exs 0 x exB);rotate_right 2
 all_goals
  try (have HC0:=Aside0.mk h0;clear h0)
  try (have HC1:=Aside0.mk h1;clear h1)
  try (have HC2:=Aside0.mk h2;clear h2)
  go_enter Tryz.func83,Tryz.ntmps83
  go_wp2_with (first
   | (go_at_call 21;(try clear c0 c1 c2 c3 c4 c5);(with_reducible refine Env.call E E.out HC0.out (partsR.all true false false E.out.prem E.out.nd) (fun w1 E c0 c1 c2 c3 c4 c5 => ?_)))
   | (go_at_call 34;(try clear c0 c1 c2 c3 c4 c5);(with_reducible refine Env.call E E.out HC1.out (nameR.all HS.out E.out.prem) (fun w1 E c0 c1 c2 c3 c4 c5 => ?_)))
   | (go_at_call 51;(try clear c0 c1 c2 c3 c4 c5);(with_reducible refine Env.call E E.out HC2.out (exprsR.all 0 HK.out E.out.prem E.out.nd) (fun w1 E c0 c1 c2 c3 c4 c5 => ?_)))
   | fail)
  go_ret
  exact ⟨by unfold m4;(try rw [HC0.out]);(try rw [HC1.out]);(try rw [HC2.out]);first|done|rfl,fin_⟩
theorem m4_eq {x : S25} (hk : x.f0 = 4) : m4 x = exB x:=by
 rw [exB_of (by omega) (by omega) (show exprsB x = e4 x from by unfold exprsB;simp [hk]),decide_eq_false (show ¬ x.f0 = 1 by omega)];unfold m4 e4 partsB;have e_:=exs0 x exB mayT;revert e_;generalize (x.f1.toList == ([] : List UInt8)) = b0;generalize (x.f2 == 0) = b1;generalize (x.f3) = b2;generalize ((x.f4.length : Int) == 0) = b3;generalize (x.f4.all mayT) = b4;generalize (nmB x.f1) = b5;generalize (exs 0 x exB) = b6;clear hk;revert b0 b1 b2 b3 b4 b5 b6;decide
noncomputable def m5 (x : S25) : Bool:=((partsB x false false false) && (exs 2 x exB))
set_option maxHeartbeats 8000000 in
set_option maxRecDepth 100000 in
theorem mayR.s5 {x : S25} {A : Option Addr} {c : Nat} {w : World} (hk : x.f0 = 5) (hs : Sml x.f1) (hks : ∀ y ∈ x.f4,Sml y.f1) (hk2 : ∀ y ∈ x.f4,KnowE y) (hG : PremW w) (hn : ND w x A c) : Calls Tryz.prog 83 #[val x A c] w (AllP (m5 x) w):=by
 have E:=Env.start hG hn;clear hn hG;have b1 : (x.f0 == 1) = false:=by rw [hk];rfl
 have b2 : (x.f0 == 2) = false:=by rw [hk];rfl
 have b3 : (x.f0 == 3) = false:=by rw [hk];rfl
 have b4 : (x.f0 == 4) = false:=by rw [hk];rfl
 have b5 : (x.f0 == 5) = true:=by rw [hk];rfl
 have HK:=Aside0.mk hk;clear hk;have HS:=Aside0.mk hs;clear hs;have HK:=Aside0.mk hk2;clear hk2;have HKS:=Aside0.mk hks;clear hks;cases h0 : (partsB x false false false);rotate_left 1;cases h1 : (exs 2 x exB);rotate_right 1
 all_goals
  try (have HC0:=Aside0.mk h0;clear h0)
  try (have HC1:=Aside0.mk h1;clear h1)
  go_enter Tryz.func83,Tryz.ntmps83
  go_wp2_with (first
   | (go_at_call 21;(try clear c0 c1 c2 c3 c4 c5);(with_reducible refine Env.call E E.out HC0.out (partsR.all false false false E.out.prem E.out.nd) (fun w1 E c0 c1 c2 c3 c4 c5 => ?_)))
   | (go_at_call 51;(try clear c0 c1 c2 c3 c4 c5);(with_reducible refine Env.call E E.out HC1.out (exprsR.all 2 HK.out E.out.prem E.out.nd) (fun w1 E c0 c1 c2 c3 c4 c5 => ?_)))
   | fail)
  go_ret
  exact ⟨by unfold m5;(try rw [HC0.out]);(try rw [HC1.out]);first|done|rfl,fin_⟩
theorem m5_eq {x : S25} (hk : x.f0 = 5) : m5 x = exB x:=by
 rw [exB_of (by omega) (by omega) (show exprsB x = e5 x from by unfold exprsB;simp [hk]),decide_eq_false (show ¬ x.f0 = 1 by omega)];unfold m5 e5 partsB;rw [show shapeB (gEE.map (·.2)) x.f4 = shapeB [isE,isE] x.f4 from rfl];have e_:=exs2 x;revert e_;generalize (x.f1.toList == ([] : List UInt8)) = b0;generalize (x.f2 == 0) = b1;generalize (x.f3) = b2;generalize (x.f4.all mayT) = b3;generalize (shapeB [isE,isE] x.f4) = b4;generalize (exs 2 x exB) = b5;clear hk;revert b0 b1 b2 b3 b4 b5;decide
noncomputable def m6 (x : S25) : Bool:=((partsB x true false false) && (nmB x.f1) && (exs 1 x exB))
set_option maxHeartbeats 8000000 in
set_option maxRecDepth 100000 in
theorem mayR.s6 {x : S25} {A : Option Addr} {c : Nat} {w : World} (hk : x.f0 = 6) (hs : Sml x.f1) (hks : ∀ y ∈ x.f4,Sml y.f1) (hk2 : ∀ y ∈ x.f4,KnowE y) (hG : PremW w) (hn : ND w x A c) : Calls Tryz.prog 83 #[val x A c] w (AllP (m6 x) w):=by
 have E:=Env.start hG hn;clear hn hG;have b1 : (x.f0 == 1) = false:=by rw [hk];rfl
 have b2 : (x.f0 == 2) = false:=by rw [hk];rfl
 have b3 : (x.f0 == 3) = false:=by rw [hk];rfl
 have b4 : (x.f0 == 4) = false:=by rw [hk];rfl
 have b5 : (x.f0 == 5) = false:=by rw [hk];rfl
 have b6 : (x.f0 == 6) = true:=by rw [hk];rfl
 have HK:=Aside0.mk hk;clear hk;have HS:=Aside0.mk hs;clear hs;have HK:=Aside0.mk hk2;clear hk2;have HKS:=Aside0.mk hks;clear hks;cases h0 : (partsB x true false false);rotate_left 1;cases h1 : (nmB x.f1);rotate_right 1
 rotate_left 2;cases h2 : (exs 1 x exB);rotate_right 2
 all_goals
  try (have HC0:=Aside0.mk h0;clear h0)
  try (have HC1:=Aside0.mk h1;clear h1)
  try (have HC2:=Aside0.mk h2;clear h2)
  go_enter Tryz.func83,Tryz.ntmps83
  go_wp2_with (first
   | (go_at_call 21;(try clear c0 c1 c2 c3 c4 c5);(with_reducible refine Env.call E E.out HC0.out (partsR.all true false false E.out.prem E.out.nd) (fun w1 E c0 c1 c2 c3 c4 c5 => ?_)))
   | (go_at_call 34;(try clear c0 c1 c2 c3 c4 c5);(with_reducible refine Env.call E E.out HC1.out (nameR.all HS.out E.out.prem) (fun w1 E c0 c1 c2 c3 c4 c5 => ?_)))
   | (go_at_call 51;(try clear c0 c1 c2 c3 c4 c5);(with_reducible refine Env.call E E.out HC2.out (exprsR.all 1 HK.out E.out.prem E.out.nd) (fun w1 E c0 c1 c2 c3 c4 c5 => ?_)))
   | fail)
  go_ret
  exact ⟨by unfold m6;(try rw [HC0.out]);(try rw [HC1.out]);(try rw [HC2.out]);first|done|rfl,fin_⟩
theorem m6_eq {x : S25} (hk : x.f0 = 6) : m6 x = exB x:=by
 rw [exB_of (by omega) (by omega) (show exprsB x = e6 x from by unfold exprsB;simp [hk]),decide_eq_false (show ¬ x.f0 = 1 by omega)];unfold m6 e6 partsB;rw [show shapeB (gE.map (·.2)) x.f4 = shapeB [isE] x.f4 from rfl];have e_:=exs1 x;revert e_;generalize (x.f1.toList == ([] : List UInt8)) = b0;generalize (x.f2 == 0) = b1;generalize (x.f3) = b2;generalize (x.f4.all mayT) = b3;generalize (nmB x.f1) = b4;generalize (shapeB [isE] x.f4) = b5;generalize (exs 1 x exB) = b6;clear hk;revert b0 b1 b2 b3 b4 b5 b6;decide
set_option maxHeartbeats 8000000 in
set_option maxRecDepth 100000 in
theorem mayR.s7 {x : S25} {A : Option Addr} {c : Nat} {w : World} (hk : x.f0 = 7) (hs : Sml x.f1) (hks : ∀ y ∈ x.f4,Sml y.f1) (hk2 : ∀ y ∈ x.f4,KnowE y) (hG : PremW w) (hn : ND w x A c) : Calls Tryz.prog 83 #[val x A c] w (AllP (m6 x) w):=by
 have E:=Env.start hG hn;clear hn hG;have b1 : (x.f0 == 1) = false:=by rw [hk];rfl
 have b2 : (x.f0 == 2) = false:=by rw [hk];rfl
 have b3 : (x.f0 == 3) = false:=by rw [hk];rfl
 have b4 : (x.f0 == 4) = false:=by rw [hk];rfl
 have b5 : (x.f0 == 5) = false:=by rw [hk];rfl
 have b6 : (x.f0 == 6) = false:=by rw [hk];rfl
 have b7 : (x.f0 == 7) = true:=by rw [hk];rfl
 have HK:=Aside0.mk hk;clear hk;have HS:=Aside0.mk hs;clear hs;have HK:=Aside0.mk hk2;clear hk2;have HKS:=Aside0.mk hks;clear hks;cases h0 : (partsB x true false false);rotate_left 1;cases h1 : (nmB x.f1);rotate_right 1
 rotate_left 2;cases h2 : (exs 1 x exB);rotate_right 2
 all_goals
  try (have HC0:=Aside0.mk h0;clear h0)
  try (have HC1:=Aside0.mk h1;clear h1)
  try (have HC2:=Aside0.mk h2;clear h2)
  go_enter Tryz.func83,Tryz.ntmps83
  go_wp2_with (first
   | (go_at_call 21;(try clear c0 c1 c2 c3 c4 c5);(with_reducible refine Env.call E E.out HC0.out (partsR.all true false false E.out.prem E.out.nd) (fun w1 E c0 c1 c2 c3 c4 c5 => ?_)))
   | (go_at_call 34;(try clear c0 c1 c2 c3 c4 c5);(with_reducible refine Env.call E E.out HC1.out (nameR.all HS.out E.out.prem) (fun w1 E c0 c1 c2 c3 c4 c5 => ?_)))
   | (go_at_call 51;(try clear c0 c1 c2 c3 c4 c5);(with_reducible refine Env.call E E.out HC2.out (exprsR.all 1 HK.out E.out.prem E.out.nd) (fun w1 E c0 c1 c2 c3 c4 c5 => ?_)))
   | fail)
  go_ret
  exact ⟨by unfold m6;(try rw [HC0.out]);(try rw [HC1.out]);(try rw [HC2.out]);first|done|rfl,fin_⟩
theorem m7_eq {x : S25} (hk : x.f0 = 7) : m6 x = exB x:=by
 rw [exB_of (by omega) (by omega) (show exprsB x = e6 x from by unfold exprsB;simp [hk]),decide_eq_false (show ¬ x.f0 = 1 by omega)];unfold m6 e6 partsB;rw [show shapeB (gE.map (·.2)) x.f4 = shapeB [isE] x.f4 from rfl];have e_:=exs1 x;revert e_;generalize (x.f1.toList == ([] : List UInt8)) = b0;generalize (x.f2 == 0) = b1;generalize (x.f3) = b2;generalize (x.f4.all mayT) = b3;generalize (nmB x.f1) = b4;generalize (shapeB [isE] x.f4) = b5;generalize (exs 1 x exB) = b6;clear hk;revert b0 b1 b2 b3 b4 b5 b6;decide
end Go.Proofs.YtboojhadfhpdeaaGreatDoor.Q
namespace Go.Proofs.YtboojhadfhpdeaaGreatDoor.Q
open Go.RowKit Go.Proofs.YtboojhadfhpdeaaGreatDoorW.PrintWords Go.Proofs.YtboojhadfhpdeaaGreatDoorW.PrintLast Go.Proofs.YtboojhadfhpdeaaGreatDoorW.PrintMore
set_option linter.unusedVariables false
set_option linter.unusedSimpArgs false
noncomputable def m8 (x : S25) : Bool:=((partsB x true false false) && ((nmB x.f1) || (x.f1.toList == ([103,101,116,98,121,116,101] : List UInt8)) || (x.f1.toList == ([112,117,116,98,121,116,101] : List UInt8))) && (exs (-1) x exB))
set_option maxHeartbeats 8000000 in
set_option maxRecDepth 100000 in
theorem mayR.s8 {x : S25} {A : Option Addr} {c : Nat} {w : World} (hk : x.f0 = 8) (hs : Sml x.f1) (hks : ∀ y ∈ x.f4,Sml y.f1) (hk2 : ∀ y ∈ x.f4,KnowE y) (hG : PremW w) (hn : ND w x A c) : Calls Tryz.prog 83 #[val x A c] w (AllP (m8 x) w):=by
 have E:=Env.start hG hn;clear hn hG;have b1 : (x.f0 == 1) = false:=by rw [hk];rfl
 have b2 : (x.f0 == 2) = false:=by rw [hk];rfl
 have b3 : (x.f0 == 3) = false:=by rw [hk];rfl
 have b4 : (x.f0 == 4) = false:=by rw [hk];rfl
 have b5 : (x.f0 == 5) = false:=by rw [hk];rfl
 have b6 : (x.f0 == 6) = false:=by rw [hk];rfl
 have b7 : (x.f0 == 7) = false:=by rw [hk];rfl
 have b8 : (x.f0 == 8) = true:=by rw [hk];rfl
 have HK:=Aside0.mk hk;clear hk;have HS:=Aside0.mk hs;clear hs;have HK:=Aside0.mk hk2;clear hk2;have HKS:=Aside0.mk hks;clear hks;cases h0 : (partsB x true false false);rotate_left 1;cases h1 : (nmB x.f1);rotate_right 1
 rotate_left 1;cases h3 : (x.f1.toList == ([103,101,116,98,121,116,101] : List UInt8));rotate_right 1
 rotate_left 1;cases h4 : (x.f1.toList == ([112,117,116,98,121,116,101] : List UInt8));rotate_right 1
 rotate_left 2;cases h2 : (exs (-1) x exB);rotate_right 2
 rotate_left 4;cases h2 : (exs (-1) x exB);rotate_right 4
 rotate_left 6;cases h2 : (exs (-1) x exB);rotate_right 6
 all_goals
  try (have HC0:=Aside0.mk h0;clear h0)
  try (have HC1:=Aside0.mk h1;clear h1)
  try (have HC2:=Aside0.mk h2;clear h2)
  go_enter Tryz.func83,Tryz.ntmps83
  go_wp2_with (first
   | (go_at_call 21;(try clear c0 c1 c2 c3 c4 c5);(with_reducible refine Env.call E E.out HC0.out (partsR.all true false false E.out.prem E.out.nd) (fun w1 E c0 c1 c2 c3 c4 c5 => ?_)))
   | (go_at_call 34;(try clear c0 c1 c2 c3 c4 c5);(with_reducible refine Env.call E E.out HC1.out (nameR.all HS.out E.out.prem) (fun w1 E c0 c1 c2 c3 c4 c5 => ?_)))
   | (go_at_call 51;(try clear c0 c1 c2 c3 c4 c5);(with_reducible refine Env.call E E.out HC2.out (exprsR.all (-1) HK.out E.out.prem E.out.nd) (fun w1 E c0 c1 c2 c3 c4 c5 => ?_)))
   | fail)
  go_ret
  exact ⟨by unfold m8;(try rw [HC0.out]);(try rw [HC1.out]);(try rw [HC2.out]);(try rw [h3]);(try rw [h4]);first|done|rfl,fin_⟩
theorem m8_eq {x : S25} (hk : x.f0 = 8) : m8 x = exB x:=by
 rw [exB_of (by omega) (by omega) (show exprsB x = e8 x from by unfold exprsB;simp [hk]),decide_eq_false (show ¬ x.f0 = 1 by omega)];unfold m8 e8 partsB;have e_:=exsn x;revert e_;generalize (x.f1.toList == ([] : List UInt8)) = b0;generalize (x.f2 == 0) = b1;generalize (x.f3) = b2;generalize (x.f4.all mayT) = b3;generalize (nmB x.f1) = b4;generalize (x.f4.all isE) = b5;generalize (x.f1.toList == ([103,101,116,98,121,116,101] : List UInt8)) = b6;generalize (x.f1.toList == ([112,117,116,98,121,116,101] : List UInt8)) = b7;generalize (exs (-1) x exB) = b8;clear hk;revert b0 b1 b2 b3 b4 b5 b6 b7 b8;decide
noncomputable def m9 (x : S25) : Bool:=((partsB x true false false) && (oneL (⟨#[32,45,32,126,32,33,32,38,32]⟩ : ByteArray).data.toList x.f1.data.toList) && (exs 1 x exB))
set_option maxHeartbeats 8000000 in
set_option maxRecDepth 100000 in
theorem mayR.s9 {x : S25} {A : Option Addr} {c : Nat} {w : World} (hk : x.f0 = 9) (hs : Sml x.f1) (hks : ∀ y ∈ x.f4,Sml y.f1) (hk2 : ∀ y ∈ x.f4,KnowE y) (hG : PremW w) (hn : ND w x A c) : Calls Tryz.prog 83 #[val x A c] w (AllP (m9 x) w):=by
 have E:=Env.start hG hn;clear hn hG;have b1 : (x.f0 == 1) = false:=by rw [hk];rfl
 have b2 : (x.f0 == 2) = false:=by rw [hk];rfl
 have b3 : (x.f0 == 3) = false:=by rw [hk];rfl
 have b4 : (x.f0 == 4) = false:=by rw [hk];rfl
 have b5 : (x.f0 == 5) = false:=by rw [hk];rfl
 have b6 : (x.f0 == 6) = false:=by rw [hk];rfl
 have b7 : (x.f0 == 7) = false:=by rw [hk];rfl
 have b8 : (x.f0 == 8) = false:=by rw [hk];rfl
 have b9 : (x.f0 == 9) = true:=by rw [hk];rfl
 have HK:=Aside0.mk hk;clear hk;have HS:=Aside0.mk hs;clear hs;have HK:=Aside0.mk hk2;clear hk2;have HKS:=Aside0.mk hks;clear hks;cases h0 : (partsB x true false false);rotate_left 1;cases h1 : (oneL (⟨#[32,45,32,126,32,33,32,38,32]⟩ : ByteArray).data.toList x.f1.data.toList);rotate_right 1
 rotate_left 2;cases h2 : (exs 1 x exB);rotate_right 2
 all_goals
  try (have HC0:=Aside0.mk h0;clear h0)
  try (have HC1:=Aside0.mk h1;clear h1)
  try (have HC2:=Aside0.mk h2;clear h2)
  go_enter Tryz.func83,Tryz.ntmps83
  go_wp2_with (first
   | (go_at_call 21;(try clear c0 c1 c2 c3 c4 c5);(with_reducible refine Env.call E E.out HC0.out (partsR.all true false false E.out.prem E.out.nd) (fun w1 E c0 c1 c2 c3 c4 c5 => ?_)))
   | (go_at_call 97;(try clear c0 c1 c2 c3 c4 c5);(with_reducible refine Env.call E E.out HC1.out (signR.all (⟨#[32,45,32,126,32,33,32,38,32]⟩ : ByteArray) (by decide) HS.out E.out.prem) (fun w1 E c0 c1 c2 c3 c4 c5 => ?_)))
   | (go_at_call 51;(try clear c0 c1 c2 c3 c4 c5);(with_reducible refine Env.call E E.out HC2.out (exprsR.all 1 HK.out E.out.prem E.out.nd) (fun w1 E c0 c1 c2 c3 c4 c5 => ?_)))
   | fail)
  go_ret
  exact ⟨by unfold m9;(try rw [HC0.out]);(try rw [HC1.out]);(try rw [HC2.out]);first|done|rfl,fin_⟩
theorem m9_eq {x : S25} (hk : x.f0 = 9) : m9 x = exB x:=by
 rw [exB_of (by omega) (by omega) (show exprsB x = e9 x from by unfold exprsB;simp [hk]),decide_eq_false (show ¬ x.f0 = 1 by omega)];unfold m9 e9 partsB;rw [show shapeB (gE.map (·.2)) x.f4 = shapeB [isE] x.f4 from rfl,show oneB ⟨#[45,32,126,32,33,32,38]⟩ x.f1 = oneL (⟨#[32,45,32,126,32,33,32,38,32]⟩ : ByteArray).data.toList x.f1.data.toList from rfl];have e_:=exs1 x;revert e_;generalize (x.f1.toList == ([] : List UInt8)) = b0;generalize (x.f2 == 0) = b1;generalize (x.f3) = b2;generalize (x.f4.all mayT) = b3;generalize (oneL (⟨#[32,45,32,126,32,33,32,38,32]⟩ : ByteArray).data.toList x.f1.data.toList) = b4;generalize (shapeB [isE] x.f4) = b5;generalize (exs 1 x exB) = b6;clear hk;revert b0 b1 b2 b3 b4 b5 b6;decide
noncomputable def m10 (x : S25) : Bool:=((partsB x true false false) && (oneL (⟨#[32,42,32,47,32,37,32,43,32,45,32,60,60,32,62,62,32,60,32,62,32,60,61,32,62,61,32,61,61,32,33,61,32,38,32,94,32,124,32]⟩ : ByteArray).data.toList x.f1.data.toList) && (exs 2 x exB))
set_option maxHeartbeats 8000000 in
set_option maxRecDepth 100000 in
theorem mayR.s10 {x : S25} {A : Option Addr} {c : Nat} {w : World} (hk : x.f0 = 10) (hs : Sml x.f1) (hks : ∀ y ∈ x.f4,Sml y.f1) (hk2 : ∀ y ∈ x.f4,KnowE y) (hG : PremW w) (hn : ND w x A c) : Calls Tryz.prog 83 #[val x A c] w (AllP (m10 x) w):=by
 have E:=Env.start hG hn;clear hn hG;have b1 : (x.f0 == 1) = false:=by rw [hk];rfl
 have b2 : (x.f0 == 2) = false:=by rw [hk];rfl
 have b3 : (x.f0 == 3) = false:=by rw [hk];rfl
 have b4 : (x.f0 == 4) = false:=by rw [hk];rfl
 have b5 : (x.f0 == 5) = false:=by rw [hk];rfl
 have b6 : (x.f0 == 6) = false:=by rw [hk];rfl
 have b7 : (x.f0 == 7) = false:=by rw [hk];rfl
 have b8 : (x.f0 == 8) = false:=by rw [hk];rfl
 have b9 : (x.f0 == 9) = false:=by rw [hk];rfl
 have b10 : (x.f0 == 10) = true:=by rw [hk];rfl
 have HK:=Aside0.mk hk;clear hk;have HS:=Aside0.mk hs;clear hs;have HK:=Aside0.mk hk2;clear hk2;have HKS:=Aside0.mk hks;clear hks;cases h0 : (partsB x true false false);rotate_left 1;cases h1 : (oneL (⟨#[32,42,32,47,32,37,32,43,32,45,32,60,60,32,62,62,32,60,32,62,32,60,61,32,62,61,32,61,61,32,33,61,32,38,32,94,32,124,32]⟩ : ByteArray).data.toList x.f1.data.toList);rotate_right 1
 rotate_left 2;cases h2 : (exs 2 x exB);rotate_right 2
 all_goals
  try (have HC0:=Aside0.mk h0;clear h0)
  try (have HC1:=Aside0.mk h1;clear h1)
  try (have HC2:=Aside0.mk h2;clear h2)
  go_enter Tryz.func83,Tryz.ntmps83
  go_wp2_with (first
   | (go_at_call 21;(try clear c0 c1 c2 c3 c4 c5);(with_reducible refine Env.call E E.out HC0.out (partsR.all true false false E.out.prem E.out.nd) (fun w1 E c0 c1 c2 c3 c4 c5 => ?_)))
   | (go_at_call 97;(try clear c0 c1 c2 c3 c4 c5);(with_reducible refine Env.call E E.out HC1.out (signR.all (⟨#[32,42,32,47,32,37,32,43,32,45,32,60,60,32,62,62,32,60,32,62,32,60,61,32,62,61,32,61,61,32,33,61,32,38,32,94,32,124,32]⟩ : ByteArray) (by decide) HS.out E.out.prem) (fun w1 E c0 c1 c2 c3 c4 c5 => ?_)))
   | (go_at_call 51;(try clear c0 c1 c2 c3 c4 c5);(with_reducible refine Env.call E E.out HC2.out (exprsR.all 2 HK.out E.out.prem E.out.nd) (fun w1 E c0 c1 c2 c3 c4 c5 => ?_)))
   | fail)
  go_ret
  exact ⟨by unfold m10;(try rw [HC0.out]);(try rw [HC1.out]);(try rw [HC2.out]);first|done|rfl,fin_⟩
theorem m10_eq {x : S25} (hk : x.f0 = 10) : m10 x = exB x:=by
 rw [exB_of (by omega) (by omega) (show exprsB x = e10 x from by unfold exprsB;simp [hk]),decide_eq_false (show ¬ x.f0 = 1 by omega)];unfold m10 e10 partsB;rw [show shapeB (gEE.map (·.2)) x.f4 = shapeB [isE,isE] x.f4 from rfl,show oneB ⟨#[42,32,47,32,37,32,43,32,45,32,60,60,32,62,62,32,60,32,62,32,60,61,32,62,61,32,61,61,32,33,61,32,38,32,94,32,124]⟩ x.f1 = oneL (⟨#[32,42,32,47,32,37,32,43,32,45,32,60,60,32,62,62,32,60,32,62,32,60,61,32,62,61,32,61,61,32,33,61,32,38,32,94,32,124,32]⟩ : ByteArray).data.toList x.f1.data.toList from rfl];have e_:=exs2 x;revert e_;generalize (x.f1.toList == ([] : List UInt8)) = b0;generalize (x.f2 == 0) = b1;generalize (x.f3) = b2;generalize (x.f4.all mayT) = b3;generalize (oneL (⟨#[32,42,32,47,32,37,32,43,32,45,32,60,60,32,62,62,32,60,32,62,32,60,61,32,62,61,32,61,61,32,33,61,32,38,32,94,32,124,32]⟩ : ByteArray).data.toList x.f1.data.toList) = b4;generalize (shapeB [isE,isE] x.f4) = b5;generalize (exs 2 x exB) = b6;clear hk;revert b0 b1 b2 b3 b4 b5 b6;decide
noncomputable def m11 (x : S25) : Bool:=((partsB x true false false) && (oneL (⟨#[32,38,38,32,124,124,32]⟩ : ByteArray).data.toList x.f1.data.toList) && (exs 2 x exB))
set_option maxHeartbeats 8000000 in
set_option maxRecDepth 100000 in
theorem mayR.s11 {x : S25} {A : Option Addr} {c : Nat} {w : World} (hk : x.f0 = 11) (hs : Sml x.f1) (hks : ∀ y ∈ x.f4,Sml y.f1) (hk2 : ∀ y ∈ x.f4,KnowE y) (hG : PremW w) (hn : ND w x A c) : Calls Tryz.prog 83 #[val x A c] w (AllP (m11 x) w):=by
 have E:=Env.start hG hn;clear hn hG;have b1 : (x.f0 == 1) = false:=by rw [hk];rfl
 have b2 : (x.f0 == 2) = false:=by rw [hk];rfl
 have b3 : (x.f0 == 3) = false:=by rw [hk];rfl
 have b4 : (x.f0 == 4) = false:=by rw [hk];rfl
 have b5 : (x.f0 == 5) = false:=by rw [hk];rfl
 have b6 : (x.f0 == 6) = false:=by rw [hk];rfl
 have b7 : (x.f0 == 7) = false:=by rw [hk];rfl
 have b8 : (x.f0 == 8) = false:=by rw [hk];rfl
 have b9 : (x.f0 == 9) = false:=by rw [hk];rfl
 have b10 : (x.f0 == 10) = false:=by rw [hk];rfl
 have b11 : (x.f0 == 11) = true:=by rw [hk];rfl
 have HK:=Aside0.mk hk;clear hk;have HS:=Aside0.mk hs;clear hs;have HK:=Aside0.mk hk2;clear hk2;have HKS:=Aside0.mk hks;clear hks;cases h0 : (partsB x true false false);rotate_left 1;cases h1 : (oneL (⟨#[32,38,38,32,124,124,32]⟩ : ByteArray).data.toList x.f1.data.toList);rotate_right 1
 rotate_left 2;cases h2 : (exs 2 x exB);rotate_right 2
 all_goals
  try (have HC0:=Aside0.mk h0;clear h0)
  try (have HC1:=Aside0.mk h1;clear h1)
  try (have HC2:=Aside0.mk h2;clear h2)
  go_enter Tryz.func83,Tryz.ntmps83
  go_wp2_with (first
   | (go_at_call 21;(try clear c0 c1 c2 c3 c4 c5);(with_reducible refine Env.call E E.out HC0.out (partsR.all true false false E.out.prem E.out.nd) (fun w1 E c0 c1 c2 c3 c4 c5 => ?_)))
   | (go_at_call 97;(try clear c0 c1 c2 c3 c4 c5);(with_reducible refine Env.call E E.out HC1.out (signR.all (⟨#[32,38,38,32,124,124,32]⟩ : ByteArray) (by decide) HS.out E.out.prem) (fun w1 E c0 c1 c2 c3 c4 c5 => ?_)))
   | (go_at_call 51;(try clear c0 c1 c2 c3 c4 c5);(with_reducible refine Env.call E E.out HC2.out (exprsR.all 2 HK.out E.out.prem E.out.nd) (fun w1 E c0 c1 c2 c3 c4 c5 => ?_)))
   | fail)
  go_ret
  exact ⟨by unfold m11;(try rw [HC0.out]);(try rw [HC1.out]);(try rw [HC2.out]);first|done|rfl,fin_⟩
theorem m11_eq {x : S25} (hk : x.f0 = 11) : m11 x = exB x:=by
 rw [exB_of (by omega) (by omega) (show exprsB x = e11 x from by unfold exprsB;simp [hk]),decide_eq_false (show ¬ x.f0 = 1 by omega)];unfold m11 e11 partsB;rw [show shapeB (gEE.map (·.2)) x.f4 = shapeB [isE,isE] x.f4 from rfl,show oneB ⟨#[38,38,32,124,124]⟩ x.f1 = oneL (⟨#[32,38,38,32,124,124,32]⟩ : ByteArray).data.toList x.f1.data.toList from rfl];have e_:=exs2 x;revert e_;generalize (x.f1.toList == ([] : List UInt8)) = b0;generalize (x.f2 == 0) = b1;generalize (x.f3) = b2;generalize (x.f4.all mayT) = b3;generalize (oneL (⟨#[32,38,38,32,124,124,32]⟩ : ByteArray).data.toList x.f1.data.toList) = b4;generalize (shapeB [isE,isE] x.f4) = b5;generalize (exs 2 x exB) = b6;clear hk;revert b0 b1 b2 b3 b4 b5 b6;decide
end Go.Proofs.YtboojhadfhpdeaaGreatDoor.Q
namespace Go.Proofs.YtboojhadfhpdeaaGreatDoor.Q
open Go.RowKit Go.Proofs.YtboojhadfhpdeaaGreatDoorW.PrintWords Go.Proofs.YtboojhadfhpdeaaGreatDoorW.PrintLast Go.Proofs.YtboojhadfhpdeaaGreatDoorW.PrintMore
set_option linter.unusedVariables false
set_option linter.unusedSimpArgs false
noncomputable def m12 (x : S25) : Bool:=((partsB x false false false) && (exs 3 x exB))
set_option maxHeartbeats 8000000 in
set_option maxRecDepth 100000 in
theorem mayR.s12 {x : S25} {A : Option Addr} {c : Nat} {w : World} (hk : x.f0 = 12) (hs : Sml x.f1) (hks : ∀ y ∈ x.f4,Sml y.f1) (hk2 : ∀ y ∈ x.f4,KnowE y) (hG : PremW w) (hn : ND w x A c) : Calls Tryz.prog 83 #[val x A c] w (AllP (m12 x) w):=by
 have E:=Env.start hG hn;clear hn hG;have b1 : (x.f0 == 1) = false:=by rw [hk];rfl
 have b2 : (x.f0 == 2) = false:=by rw [hk];rfl
 have b3 : (x.f0 == 3) = false:=by rw [hk];rfl
 have b4 : (x.f0 == 4) = false:=by rw [hk];rfl
 have b5 : (x.f0 == 5) = false:=by rw [hk];rfl
 have b6 : (x.f0 == 6) = false:=by rw [hk];rfl
 have b7 : (x.f0 == 7) = false:=by rw [hk];rfl
 have b8 : (x.f0 == 8) = false:=by rw [hk];rfl
 have b9 : (x.f0 == 9) = false:=by rw [hk];rfl
 have b10 : (x.f0 == 10) = false:=by rw [hk];rfl
 have b11 : (x.f0 == 11) = false:=by rw [hk];rfl
 have b12 : (x.f0 == 12) = true:=by rw [hk];rfl
 have HK:=Aside0.mk hk;clear hk;have HS:=Aside0.mk hs;clear hs;have HK:=Aside0.mk hk2;clear hk2;have HKS:=Aside0.mk hks;clear hks;cases h0 : (partsB x false false false);rotate_left 1;cases h1 : (exs 3 x exB);rotate_right 1
 all_goals
  try (have HC0:=Aside0.mk h0;clear h0)
  try (have HC1:=Aside0.mk h1;clear h1)
  go_enter Tryz.func83,Tryz.ntmps83
  go_wp2_with (first
   | (go_at_call 21;(try clear c0 c1 c2 c3 c4 c5);(with_reducible refine Env.call E E.out HC0.out (partsR.all false false false E.out.prem E.out.nd) (fun w1 E c0 c1 c2 c3 c4 c5 => ?_)))
   | (go_at_call 51;(try clear c0 c1 c2 c3 c4 c5);(with_reducible refine Env.call E E.out HC1.out (exprsR.all 3 HK.out E.out.prem E.out.nd) (fun w1 E c0 c1 c2 c3 c4 c5 => ?_)))
   | fail)
  go_ret
  exact ⟨by unfold m12;(try rw [HC0.out]);(try rw [HC1.out]);first|done|rfl,fin_⟩
theorem m12_eq {x : S25} (hk : x.f0 = 12) : m12 x = exB x:=by
 rw [exB_of (by omega) (by omega) (show exprsB x = e12 x from by unfold exprsB;simp [hk]),decide_eq_false (show ¬ x.f0 = 1 by omega)];unfold m12 e12 partsB;rw [show shapeB (gEEE.map (·.2)) x.f4 = shapeB [isE,isE,isE] x.f4 from rfl];have e_:=exs3 x;revert e_;generalize (x.f1.toList == ([] : List UInt8)) = b0;generalize (x.f2 == 0) = b1;generalize (x.f3) = b2;generalize (x.f4.all mayT) = b3;generalize (shapeB [isE,isE,isE] x.f4) = b4;generalize (exs 3 x exB) = b5;clear hk;revert b0 b1 b2 b3 b4 b5;decide
noncomputable def m13 (x : S25) : Bool:=((partsB x true false false) && (oneL (⟨#[32,61,32,43,61,32,45,61,32,42,61,32,47,61,32,37,61,32,38,61,32,124,61,32,94,61,32,60,60,61,32,62,62,61,32]⟩ : ByteArray).data.toList x.f1.data.toList) && (exs 2 x exB) && (isP (nd x.f4 0)))
set_option maxHeartbeats 8000000 in
set_option maxRecDepth 100000 in
theorem mayR.s13 {x : S25} {A : Option Addr} {c : Nat} {w : World} (hk : x.f0 = 13) (hs : Sml x.f1) (hks : ∀ y ∈ x.f4,Sml y.f1) (hk2 : ∀ y ∈ x.f4,KnowE y) (hG : PremW w) (hn : ND w x A c) : Calls Tryz.prog 83 #[val x A c] w (AllP (m13 x) w):=by
 have E:=Env.start hG hn;clear hn hG;have b1 : (x.f0 == 1) = false:=by rw [hk];rfl
 have b2 : (x.f0 == 2) = false:=by rw [hk];rfl
 have b3 : (x.f0 == 3) = false:=by rw [hk];rfl
 have b4 : (x.f0 == 4) = false:=by rw [hk];rfl
 have b5 : (x.f0 == 5) = false:=by rw [hk];rfl
 have b6 : (x.f0 == 6) = false:=by rw [hk];rfl
 have b7 : (x.f0 == 7) = false:=by rw [hk];rfl
 have b8 : (x.f0 == 8) = false:=by rw [hk];rfl
 have b9 : (x.f0 == 9) = false:=by rw [hk];rfl
 have b10 : (x.f0 == 10) = false:=by rw [hk];rfl
 have b11 : (x.f0 == 11) = false:=by rw [hk];rfl
 have b12 : (x.f0 == 12) = false:=by rw [hk];rfl
 have b13 : (x.f0 == 13) = true:=by rw [hk];rfl
 have HK:=Aside0.mk hk;clear hk;have HS:=Aside0.mk hs;clear hs;have HK:=Aside0.mk hk2;clear hk2;have HKS:=Aside0.mk hks;clear hks;cases h0 : (partsB x true false false);rotate_left 1;cases h1 : (oneL (⟨#[32,61,32,43,61,32,45,61,32,42,61,32,47,61,32,37,61,32,38,61,32,124,61,32,94,61,32,60,60,61,32,62,62,61,32]⟩ : ByteArray).data.toList x.f1.data.toList);rotate_right 1
 rotate_left 2;cases h2 : (exs 2 x exB);rotate_right 2
 rotate_left 3;cases h3 : (isP (nd x.f4 0));rotate_right 3
 all_goals
  try (have HC0:=Aside0.mk h0;clear h0)
  try (have HC1:=Aside0.mk h1;clear h1)
  try (have HC2:=Aside0.mk h2;clear h2)
  try (have HC3:=Aside0.mk h3;clear h3)
  go_enter Tryz.func83,Tryz.ntmps83
  go_wp2_with (first
   | (go_at_call 21;(try clear c0 c1 c2 c3 c4 c5);(with_reducible refine Env.call E E.out HC0.out (partsR.all true false false E.out.prem E.out.nd) (fun w1 E c0 c1 c2 c3 c4 c5 => ?_)))
   | (go_at_call 97;(try clear c0 c1 c2 c3 c4 c5);(with_reducible refine Env.call E E.out HC1.out (signR.all (⟨#[32,61,32,43,61,32,45,61,32,42,61,32,47,61,32,37,61,32,38,61,32,124,61,32,94,61,32,60,60,61,32,62,62,61,32]⟩ : ByteArray) (by decide) HS.out E.out.prem) (fun w1 E c0 c1 c2 c3 c4 c5 => ?_)))
   | (go_at_call 51;(try clear c0 c1 c2 c3 c4 c5);(with_reducible refine Env.call E E.out HC2.out (exprsR.all 2 HK.out E.out.prem E.out.nd) (fun w1 E c0 c1 c2 c3 c4 c5 => ?_));(try (have HL:=Aside0.mk (exs_two HC2.out);obtain ⟨ad,rfl⟩:=kid_some E.out.kids (by have:=HL.out;omega);have q0 : 0 < x.f4.length:=(by have:=HL.out;omega);obtain ⟨A0,d0,hn0,k00,k01,k02,k03,k04,k05⟩:=kid0 E.out.kids (by have:=HL.out;omega);have HN0:=Aside0.mk hn0;clear hn0)))
   | (go_at_call 98;(try clear c0 c1 c2 c3 c4 c5);(with_reducible refine Env.call E E.out HC3.out (placeR.all HN0.out) (fun w1 E c0 c1 c2 c3 c4 c5 => ?_)))
   | fail)
  go_ret
  exact ⟨by unfold m13;(try rw [HC0.out]);(try rw [HC1.out]);(try rw [HC2.out]);(try rw [HC3.out]);first|done|rfl,fin_⟩
theorem m13_eq {x : S25} (hk : x.f0 = 13) : m13 x = exB x:=by
 rw [exB_of (by omega) (by omega) (show exprsB x = e13 x from by unfold exprsB;simp [hk]),decide_eq_false (show ¬ x.f0 = 1 by omega)];unfold m13 e13 partsB;rw [show shapeB (gPE.map (·.2)) x.f4 = shapeB [isP,isE] x.f4 from rfl,show oneB ⟨#[61,32,43,61,32,45,61,32,42,61,32,47,61,32,37,61,32,38,61,32,124,61,32,94,61,32,60,60,61,32,62,62,61]⟩ x.f1 = oneL (⟨#[32,61,32,43,61,32,45,61,32,42,61,32,47,61,32,37,61,32,38,61,32,124,61,32,94,61,32,60,60,61,32,62,62,61,32]⟩ : ByteArray).data.toList x.f1.data.toList from rfl];have e_:=exsP x;revert e_;generalize (x.f1.toList == ([] : List UInt8)) = b0;generalize (x.f2 == 0) = b1;generalize (x.f3) = b2;generalize (x.f4.all mayT) = b3;generalize (oneL (⟨#[32,61,32,43,61,32,45,61,32,42,61,32,47,61,32,37,61,32,38,61,32,124,61,32,94,61,32,60,60,61,32,62,62,61,32]⟩ : ByteArray).data.toList x.f1.data.toList) = b4;generalize (shapeB [isP,isE] x.f4) = b5;generalize (exs 2 x exB) = b6;generalize (isP (nd x.f4 0)) = b7;clear hk;revert b0 b1 b2 b3 b4 b5 b6 b7;decide
noncomputable def m14 (x : S25) : Bool:=((partsB x false false false) && ((x.f4.length : Int) == 2) && (tyT (nd x.f4 0)) && (exB (nd x.f4 1)))
set_option maxHeartbeats 8000000 in
set_option maxRecDepth 100000 in
theorem mayR.s14 {x : S25} {A : Option Addr} {c : Nat} {w : World} (hk : x.f0 = 14) (hs : Sml x.f1) (hks : ∀ y ∈ x.f4,Sml y.f1) (hk2 : ∀ y ∈ x.f4,KnowE y) (hG : PremW w) (hn : ND w x A c) : Calls Tryz.prog 83 #[val x A c] w (AllP (m14 x) w):=by
 have E:=Env.start hG hn;clear hn hG;have b1 : (x.f0 == 1) = false:=by rw [hk];rfl
 have b2 : (x.f0 == 2) = false:=by rw [hk];rfl
 have b3 : (x.f0 == 3) = false:=by rw [hk];rfl
 have b4 : (x.f0 == 4) = false:=by rw [hk];rfl
 have b5 : (x.f0 == 5) = false:=by rw [hk];rfl
 have b6 : (x.f0 == 6) = false:=by rw [hk];rfl
 have b7 : (x.f0 == 7) = false:=by rw [hk];rfl
 have b8 : (x.f0 == 8) = false:=by rw [hk];rfl
 have b9 : (x.f0 == 9) = false:=by rw [hk];rfl
 have b10 : (x.f0 == 10) = false:=by rw [hk];rfl
 have b11 : (x.f0 == 11) = false:=by rw [hk];rfl
 have b12 : (x.f0 == 12) = false:=by rw [hk];rfl
 have b13 : (x.f0 == 13) = false:=by rw [hk];rfl
 have b14 : (x.f0 == 14) = true:=by rw [hk];rfl
 have HK:=Aside0.mk hk;clear hk;have HS:=Aside0.mk hs;clear hs;have HK:=Aside0.mk hk2;clear hk2;have HKS:=Aside0.mk hks;clear hks;cases h0 : (partsB x false false false);rotate_left 1;cases h1 : ((x.f4.length : Int) == 2);rotate_right 1
 rotate_left 2;cases h2 : (tyT (nd x.f4 0));rotate_right 2
 rotate_left 3;cases h3 : (exB (nd x.f4 1));rotate_right 3
 all_goals
  try (have HC0:=Aside0.mk h0;clear h0)
  try (have HC2:=Aside0.mk h2;clear h2)
  try (have HC3:=Aside0.mk h3;clear h3)
  try have HL:=Aside0.mk (len_of (k:=2) h1)
  go_enter Tryz.func83,Tryz.ntmps83
  go_wp2_with (first
   | (go_at_call 21;(try clear c0 c1 c2 c3 c4 c5);(with_reducible refine Env.call E E.out HC0.out (partsR.all false false false E.out.prem E.out.nd) (fun w1 E c0 c1 c2 c3 c4 c5 => ?_));(try (have HLx:=HL.out;clear HLx;(try obtain ⟨ad,rfl⟩:=kid_some E.out.kids (by have:=HL.out;omega))));(try (have HLx:=HL.out;clear HLx;have q0 : 0 < x.f4.length:=(by have:=HL.out;omega);obtain ⟨A0,d0,hn0,k00,k01,k02,k03,k04,k05⟩:=kid0 E.out.kids (by have:=HL.out;omega);have HN0:=Aside0.mk hn0;clear hn0;have q1 : (1 : Int) < (x.f4.length : Int):=(by have:=HL.out;omega);obtain ⟨A1,d1,hn1,k10,k11,k12,k13,k14,k15⟩:=kid1 E.out.kids (by have:=HL.out;omega);have HN1:=Aside0.mk hn1;clear hn1)))
   | (go_at_call 35;(try clear c0 c1 c2 c3 c4 c5);(with_reducible refine Env.call E E.out HC2.out (typedR.all (HKS.out _ (nd_mem (by have:=HL.out;omega))) E.out.prem HN0.out) (fun w1 E c0 c1 c2 c3 c4 c5 => ?_));(try (have HLx:=HL.out;clear HLx;(try obtain ⟨ad,rfl⟩:=kid_some E.out.kids (by have:=HL.out;omega))));(try (have HLx:=HL.out;clear HLx;have q1 : (1 : Int) < (x.f4.length : Int):=(by have:=HL.out;omega);obtain ⟨A1,d1,hn1,k10,k11,k12,k13,k14,k15⟩:=kid1 E.out.kids (by have:=HL.out;omega);have HN1:=Aside0.mk hn1;clear hn1)))
   | (go_at_call 50;(try clear c0 c1 c2 c3 c4 c5);(with_reducible refine Env.call E E.out HC3.out (exprR.all (HK.out _ (nd_mem (by have:=HL.out;omega))) E.out.prem HN1.out) (fun w1 E c0 c1 c2 c3 c4 c5 => ?_)))
   | fail)
  go_ret
  exact ⟨by unfold m14;(try rw [HC0.out]);(try rw [h1]);(try rw [HC2.out]);(try rw [HC3.out]);first|done|rfl,fin_⟩
theorem m14_eq {x : S25} (hk : x.f0 = 14) : m14 x = exB x:=by
 rw [exB_of (by omega) (by omega) (show exprsB x = e14 x from by unfold exprsB;simp [hk]),decide_eq_false (show ¬ x.f0 = 1 by omega)];unfold m14 e14 partsB;rw [show ((x.f4.length : Int) == 2) = decide (x.f4.length = 2) from len_dec _ 2];have e_:=cast_eq x;revert e_;generalize (x.f1.toList == ([] : List UInt8)) = b0;generalize (x.f2 == 0) = b1;generalize (x.f3) = b2;generalize (x.f4.all mayT) = b3;generalize (shapeB [fun x => decide (x.f0 = 16),isE] x.f4) = b4;generalize (decide (x.f4.length = 2)) = b5;generalize (tyT (nd x.f4 0)) = b6;generalize (exB (nd x.f4 1)) = b7;clear hk;revert b0 b1 b2 b3 b4 b5 b6 b7;decide
noncomputable def m15 (x : S25) : Bool:=((partsB x false false false) && ((x.f4.length : Int) == 1) && ((tyT (nd x.f4 0)) || (exB (nd x.f4 0))))
set_option maxHeartbeats 8000000 in
set_option maxRecDepth 100000 in
theorem mayR.s15 {x : S25} {A : Option Addr} {c : Nat} {w : World} (hk : x.f0 = 15) (hs : Sml x.f1) (hks : ∀ y ∈ x.f4,Sml y.f1) (hk2 : ∀ y ∈ x.f4,KnowE y) (hG : PremW w) (hn : ND w x A c) : Calls Tryz.prog 83 #[val x A c] w (AllP (m15 x) w):=by
 have E:=Env.start hG hn;clear hn hG;have b1 : (x.f0 == 1) = false:=by rw [hk];rfl
 have b2 : (x.f0 == 2) = false:=by rw [hk];rfl
 have b3 : (x.f0 == 3) = false:=by rw [hk];rfl
 have b4 : (x.f0 == 4) = false:=by rw [hk];rfl
 have b5 : (x.f0 == 5) = false:=by rw [hk];rfl
 have b6 : (x.f0 == 6) = false:=by rw [hk];rfl
 have b7 : (x.f0 == 7) = false:=by rw [hk];rfl
 have b8 : (x.f0 == 8) = false:=by rw [hk];rfl
 have b9 : (x.f0 == 9) = false:=by rw [hk];rfl
 have b10 : (x.f0 == 10) = false:=by rw [hk];rfl
 have b11 : (x.f0 == 11) = false:=by rw [hk];rfl
 have b12 : (x.f0 == 12) = false:=by rw [hk];rfl
 have b13 : (x.f0 == 13) = false:=by rw [hk];rfl
 have b14 : (x.f0 == 14) = false:=by rw [hk];rfl
 have b15 : (x.f0 == 15) = true:=by rw [hk];rfl
 have HK:=Aside0.mk hk;clear hk;have HS:=Aside0.mk hs;clear hs;have HK:=Aside0.mk hk2;clear hk2;have HKS:=Aside0.mk hks;clear hks;cases h0 : (partsB x false false false);rotate_left 1;cases h1 : ((x.f4.length : Int) == 1);rotate_right 1
 rotate_left 2;cases h2 : (tyT (nd x.f4 0));rotate_right 2
 rotate_left 2;cases h3 : (exB (nd x.f4 0));rotate_right 2
 all_goals
  try (have HC0:=Aside0.mk h0;clear h0)
  try (have HC2:=Aside0.mk h2;clear h2)
  try (have HC3:=Aside0.mk h3;clear h3)
  try have HL:=Aside0.mk (len_of (k:=1) h1)
  go_enter Tryz.func83,Tryz.ntmps83
  go_wp2_with (first
   | (go_at_call 21;(try clear c0 c1 c2 c3 c4 c5);(with_reducible refine Env.call E E.out HC0.out (partsR.all false false false E.out.prem E.out.nd) (fun w1 E c0 c1 c2 c3 c4 c5 => ?_));(try (have HLx:=HL.out;clear HLx;(try obtain ⟨ad,rfl⟩:=kid_some E.out.kids (by have:=HL.out;omega))));(try (have HLx:=HL.out;clear HLx;have q0 : 0 < x.f4.length:=(by have:=HL.out;omega);obtain ⟨A0,d0,hn0,k00,k01,k02,k03,k04,k05⟩:=kid0 E.out.kids (by have:=HL.out;omega);have HN0:=Aside0.mk hn0;clear hn0)))
   | (go_at_call 35;(try clear c0 c1 c2 c3 c4 c5);(with_reducible refine Env.call E E.out HC2.out (typedR.all (HKS.out _ (nd_mem (by have:=HL.out;omega))) E.out.prem HN0.out) (fun w1 E c0 c1 c2 c3 c4 c5 => ?_));(try (have HLx:=HL.out;clear HLx;(try obtain ⟨ad,rfl⟩:=kid_some E.out.kids (by have:=HL.out;omega))));(try (have HLx:=HL.out;clear HLx;have q0 : 0 < x.f4.length:=(by have:=HL.out;omega);obtain ⟨A0,d0,hn0,k00,k01,k02,k03,k04,k05⟩:=kid0 E.out.kids (by have:=HL.out;omega);have HN0:=Aside0.mk hn0;clear hn0)))
   | (go_at_call 50;(try clear c0 c1 c2 c3 c4 c5);(with_reducible refine Env.call E E.out HC3.out (exprR.all (HK.out _ (nd_mem (by have:=HL.out;omega))) E.out.prem HN0.out) (fun w1 E c0 c1 c2 c3 c4 c5 => ?_)))
   | fail)
  go_ret
  exact ⟨by unfold m15;(try rw [HC0.out]);(try rw [h1]);(try rw [HC2.out]);(try rw [HC3.out]);first|done|rfl,fin_⟩
theorem m15_eq {x : S25} (hk : x.f0 = 15) : m15 x = exB x:=by
 rw [exB_of (by omega) (by omega) (show exprsB x = e15 x from by unfold exprsB;simp [hk]),decide_eq_false (show ¬ x.f0 = 1 by omega)];unfold m15 e15 partsB;rw [show shapeB (gT.map (·.2)) x.f4 = shapeB [fun x => decide (x.f0 = 16) || isE x] x.f4 from rfl,show ((x.f4.length : Int) == 1) = decide (x.f4.length = 1) from len_dec _ 1];have e_:=size_eq x;revert e_;generalize (x.f1.toList == ([] : List UInt8)) = b0;generalize (x.f2 == 0) = b1;generalize (x.f3) = b2;generalize (x.f4.all mayT) = b3;generalize (shapeB [fun x => decide (x.f0 = 16) || isE x] x.f4) = b4;generalize (decide (x.f4.length = 1)) = b5;generalize (tyT (nd x.f4 0)) = b6;generalize (exB (nd x.f4 0)) = b7;clear hk;revert b0 b1 b2 b3 b4 b5 b6 b7;decide
end Go.Proofs.YtboojhadfhpdeaaGreatDoor.Q
namespace Go.Proofs.YtboojhadfhpdeaaGreatDoor.Q
open Go.RowKit Go.Proofs.YtboojhadfhpdeaaGreatDoorW.PrintWords Go.Proofs.YtboojhadfhpdeaaGreatDoorW.PrintLast Go.Proofs.YtboojhadfhpdeaaGreatDoorW.PrintMore
set_option linter.unusedVariables false
set_option linter.unusedSimpArgs false
structure Kn (n : Nat) (x : S25) : Prop where
 le : SizeOf.sizeOf x ≤ n
 s : SmlT x
 e : ∀ y,SizeOf.sizeOf y < n → SmlT y → KnowE y
 t : ∀ y,SizeOf.sizeOf y < n → SmlT y → KnowS y
section
variable {n : Nat} {x : S25}
theorem Kn.kid (h : Kn n x) {y : S25} (hy : y ∈ x.f4) : Kn n y:=⟨by have:=size_kid hy;have:=h.le;omega,h.s.kid hy,h.e,h.t⟩
theorem Kn.kE (h : Kn n x) : ∀ y ∈ x.f4,KnowE y:=fun y hy => h.e y (by have:=size_kid hy;have:=h.le;omega) (h.s.kid hy)
theorem Kn.kS (h : Kn n x) : ∀ y ∈ x.f4,KnowS y:=fun y hy => h.t y (by have:=size_kid hy;have:=h.le;omega) (h.s.kid hy)
theorem Kn.kids (h : Kn n x) : ∀ y ∈ x.f4,Sml y.f1:=fun y hy => (h.s.kid hy).str
end
set_option maxHeartbeats 8000000 in
set_option maxRecDepth 100000 in
theorem mayR.no {x : S25} {A : Option Addr} {c : Nat} {w : World} (hk : ¬ (1 ≤ x.f0 ∧ x.f0 ≤ 15)) (hG : PremW w) (hn : ND w x A c) : Calls Tryz.prog 83 #[val x A c] w (AllP false w):=by
 have E:=Env.start hG hn;clear hn hG;have b1 : (x.f0 == 1) = false:=beq_eq_false_iff_ne.2 (by omega);have b2 : (x.f0 == 2) = false:=beq_eq_false_iff_ne.2 (by omega);have b3 : (x.f0 == 3) = false:=beq_eq_false_iff_ne.2 (by omega);have b4 : (x.f0 == 4) = false:=beq_eq_false_iff_ne.2 (by omega);have b5 : (x.f0 == 5) = false:=beq_eq_false_iff_ne.2 (by omega);have b6 : (x.f0 == 6) = false:=beq_eq_false_iff_ne.2 (by omega);have b7 : (x.f0 == 7) = false:=beq_eq_false_iff_ne.2 (by omega);have b8 : (x.f0 == 8) = false:=beq_eq_false_iff_ne.2 (by omega);have b9 : (x.f0 == 9) = false:=beq_eq_false_iff_ne.2 (by omega);have b10 : (x.f0 == 10) = false:=beq_eq_false_iff_ne.2 (by omega);have b11 : (x.f0 == 11) = false:=beq_eq_false_iff_ne.2 (by omega);have b12 : (x.f0 == 12) = false:=beq_eq_false_iff_ne.2 (by omega);have b13 : (x.f0 == 13) = false:=beq_eq_false_iff_ne.2 (by omega);have b14 : (x.f0 == 14) = false:=beq_eq_false_iff_ne.2 (by omega);have b15 : (x.f0 == 15) = false:=beq_eq_false_iff_ne.2 (by omega);clear hk;go_enter Tryz.func83,Tryz.ntmps83
 go_wp2
 go_ret
 exact ⟨rfl,fin_⟩
theorem mayR.all {n : Nat} {x : S25} {A : Option Addr} {c : Nat} {w : World} (hK : Kn n x) (hG : PremW w) (hn : ND w x A c) : Calls Tryz.prog 83 #[val x A c] w (AllP (exB x) w):=by
 have hE:=hK.kE;have hS:=hK.kids;have hs:=hK.s.str;by_cases h : x.f0 = 1
 · rw [← m1_eq h];cases x
   rename_i f0 f1 f2 f3 l p
   cases f3
   · exact mayR.s1f h hE hG hn
   · exact mayR.s1t h hE hG hn
 by_cases h2 : x.f0 = 2
 · rw [← m2_eq h2];exact mayR.s2 h2 hs hS hE hG hn
 by_cases h3 : x.f0 = 3
 · rw [← m3_eq h3];exact mayR.s3 h3 hs hS hE hG hn
 by_cases h4 : x.f0 = 4
 · rw [← m4_eq h4];exact mayR.s4 h4 hs hS hE hG hn
 by_cases h5 : x.f0 = 5
 · rw [← m5_eq h5];exact mayR.s5 h5 hs hS hE hG hn
 by_cases h6 : x.f0 = 6
 · rw [← m6_eq h6];exact mayR.s6 h6 hs hS hE hG hn
 by_cases h7 : x.f0 = 7
 · rw [← m7_eq h7];exact mayR.s7 h7 hs hS hE hG hn
 by_cases h8 : x.f0 = 8
 · rw [← m8_eq h8];exact mayR.s8 h8 hs hS hE hG hn
 by_cases h9 : x.f0 = 9
 · rw [← m9_eq h9];exact mayR.s9 h9 hs hS hE hG hn
 by_cases h10 : x.f0 = 10
 · rw [← m10_eq h10];exact mayR.s10 h10 hs hS hE hG hn
 by_cases h11 : x.f0 = 11
 · rw [← m11_eq h11];exact mayR.s11 h11 hs hS hE hG hn
 by_cases h12 : x.f0 = 12
 · rw [← m12_eq h12];exact mayR.s12 h12 hs hS hE hG hn
 by_cases h13 : x.f0 = 13
 · rw [← m13_eq h13];exact mayR.s13 h13 hs hS hE hG hn
 by_cases h14 : x.f0 = 14
 · rw [← m14_eq h14];exact mayR.s14 h14 hs hS hE hG hn
 by_cases h15 : x.f0 = 15
 · rw [← m15_eq h15];exact mayR.s15 h15 hs hS hE hG hn
 rw [show exB x = false from by unfold exB;rw [isE_no (by omega)];rfl];exact mayR.no (by omega) hG hn
end Go.Proofs.YtboojhadfhpdeaaGreatDoor.Q
namespace Go.Proofs.YtboojhadfhpdeaaGreatDoor.Q
open Go.RowKit Go.Proofs.YtboojhadfhpdeaaGreatDoorW.PrintWords Go.Proofs.YtboojhadfhpdeaaGreatDoorW.PrintLast Go.Proofs.YtboojhadfhpdeaaGreatDoorW.PrintMore
set_option linter.unusedVariables false
set_option linter.unusedSimpArgs false
section
variable {n : Nat} {x : S25}
theorem pos_dec (n : Nat) : decide ((n : Int) > 0) = decide (0 < n):=by
 by_cases h : 0 < n
 · rw [decide_eq_true h];exact decide_eq_true (by omega)
 · rw [decide_eq_false h];exact decide_eq_false (by omega)
theorem Kn.exp (h : Kn n x) {i : Nat} (hi : i < x.f4.length) : KnowE (nd x.f4 i):=h.kE _ (nd_mem hi)
end
noncomputable def vF (x : S25) (bare : Bool) : Bool:=((partsB x true false true) && (nmB x.f1) && (((x.f4.length : Int) == 0) || ((!(bare)) && (!(decide ((x.f4.length : Int) > 1))) && (exB (nd x.f4 0)))))
set_option maxHeartbeats 8000000 in
set_option maxRecDepth 100000 in
theorem varF {n : Nat} {f0 : Int} {f1 : ByteArray} {f2 : Int} {l : List S25} {p : Int} {A : Option Addr} {c : Nat} {w : World} (bare : Bool) (h43 : f0 = 43) (hK : Kn n ⟨f0,f1,f2,false,l,p⟩) (hG : PremW w) (hn : ND w ⟨f0,f1,f2,false,l,p⟩ A c) : Calls Tryz.prog 36 #[val ⟨f0,f1,f2,false,l,p⟩ A c,.bool bare] w (AllP (vF ⟨f0,f1,f2,false,l,p⟩ bare) w):=by
 have E:=Env.start hG hn;clear hn hG;have b1 : (f0 != 43) = false:=by rw [h43];rfl
 have b2 : (f0 == 43) = true:=by rw [h43];rfl
 clear h43;have HS:=Aside0.mk hK.s.str;have HK:=Aside0.mk hK;clear hK;cases h0 : (partsB ⟨f0,f1,f2,false,l,p⟩ true false true);rotate_left 1;cases h1 : (nmB f1);rotate_right 1
 rotate_left 2;cases h2 : ((l.length : Int) == 0);rotate_right 2
 rotate_left 2;cases h3 : (bare);rotate_right 2
 rotate_left 2;cases h4 : (decide ((l.length : Int) > 1));rotate_right 2
 rotate_left 2;cases h5 : (exB (nd l 0));rotate_right 2
 all_goals
  try (have HC0:=Aside0.mk h0;clear h0)
  try (have HC1:=Aside0.mk h1;clear h1)
  try have h4m0 : decide ((1 : Int) < l.length) = true:=h4
  try have h4m0 : decide ((1 : Int) < l.length) = false:=h4
  try (have HC5:=Aside0.mk h5;clear h5)
  try have HL : Aside0 (0 < l.length):=⟨by have:=beq_eq_false_iff_ne.1 h2;omega⟩
  go_enter Tryz.func36,Tryz.ntmps36
  go_wp2_with (first
   | (go_at_call 21;(try clear c0 c1 c2 c3 c4 c5);(with_reducible refine Env.call E E.out HC0.out (partsR.all true false true E.out.prem E.out.nd) (fun w1 E c0 c1 c2 c3 c4 c5 => ?_)))
   | (go_at_call 34;(try clear c0 c1 c2 c3 c4 c5);(with_reducible refine Env.call E E.out HC1.out (nameR.all HS.out E.out.prem) (fun w1 E c0 c1 c2 c3 c4 c5 => ?_));(try (have HLx:=HL.out;clear HLx;(try obtain ⟨ad,rfl⟩:=kid_some E.out.kids (by have:=HL.out;omega))));(try (have HLx:=HL.out;clear HLx;have q0 : 0 < l.length:=(by have:=HL.out;omega);obtain ⟨A0,d0,hn0,k00,k01,k02,k03,k04,k05⟩:=kid0 E.out.kids (by have:=HL.out;omega);have HN0:=Aside0.mk hn0;clear hn0)))
   | (go_at_call 50;(try clear c0 c1 c2 c3 c4 c5);(with_reducible refine Env.call E E.out HC5.out (exprR.all (HK.out.exp (by have:=HL.out;omega)) E.out.prem HN0.out) (fun w1 E c0 c1 c2 c3 c4 c5 => ?_)))
   | fail)
  all_goals (go_ret;exact ⟨by unfold vF;(try rw [HC0.out]);(try rw [HC1.out]);(try rw [h2]);(try rw [h3]);(try rw [h4]);(try rw [HC5.out]);first|done|rfl,fin_⟩)
noncomputable def vT (x : S25) (bare : Bool) : Bool:=((partsB x true false true) && (nmB x.f1) && (!((x.f4.length : Int) == 0)) && ((noT (nd x.f4 0)) || (exB (nd x.f4 0))) && ((((x.f4.length - 1 : Nat) : Int) == 0) || ((!(bare)) && (!(decide (((x.f4.length - 1 : Nat) : Int) > 1))) && ((((nd x.f4 1).f0 == 44) && (partsB (nd x.f4 1) false false false) && (decide (((nd x.f4 1).f4.length : Int) > 0)) && (exs (-1) (nd x.f4 1) exB)) || (exB (nd x.f4 1))))))
set_option maxHeartbeats 8000000 in
set_option maxRecDepth 100000 in
theorem varT {n : Nat} {f0 : Int} {f1 : ByteArray} {f2 : Int} {l : List S25} {p : Int} {A : Option Addr} {c : Nat} {w : World} (bare : Bool) (h43 : f0 = 43) (hK : Kn n ⟨f0,f1,f2,true,l,p⟩) (hG : PremW w) (hn : ND w ⟨f0,f1,f2,true,l,p⟩ A c) : Calls Tryz.prog 36 #[val ⟨f0,f1,f2,true,l,p⟩ A c,.bool bare] w (AllP (vT ⟨f0,f1,f2,true,l,p⟩ bare) w):=by
 have E:=Env.start hG hn;clear hn hG;have b1 : (f0 != 43) = false:=by rw [h43];rfl
 have b2 : (f0 == 43) = true:=by rw [h43];rfl
 clear h43;have HS:=Aside0.mk hK.s.str;have HK:=Aside0.mk hK;clear hK;cases h0 : (partsB ⟨f0,f1,f2,true,l,p⟩ true false true);rotate_left 1;cases h1 : (nmB f1);rotate_right 1
 rotate_left 2;cases h2 : ((l.length : Int) == 0);rotate_right 2
 rotate_left 2;cases h3 : (noT (nd l 0));rotate_right 2
 rotate_left 2;cases h12 : (exB (nd l 0));rotate_right 2
 rotate_left 3;cases h4 : (((l.length - 1 : Nat) : Int) == 0);rotate_right 3
 rotate_left 3;cases h5 : (bare);rotate_right 3
 rotate_left 3;cases h6 : (decide (((l.length - 1 : Nat) : Int) > 1));rotate_right 3
 rotate_left 3;cases h7 : ((nd l 1).f0 == 44);rotate_right 3
 rotate_left 3;cases h11 : (exB (nd l 1));rotate_right 3
 rotate_left 5;cases h8 : (partsB (nd l 1) false false false);rotate_right 5
 rotate_left 5;cases h11 : (exB (nd l 1));rotate_right 5
 rotate_left 7;cases h9 : (decide (((nd l 1).f4.length : Int) > 0));rotate_right 7
 rotate_left 7;cases h11 : (exB (nd l 1));rotate_right 7
 rotate_left 9;cases h10 : (exs (-1) (nd l 1) exB);rotate_right 9
 rotate_left 9;cases h11 : (exB (nd l 1));rotate_right 9
 rotate_left 15;cases h4 : (((l.length - 1 : Nat) : Int) == 0);rotate_right 15
 rotate_left 15;cases h5 : (bare);rotate_right 15
 rotate_left 15;cases h6 : (decide (((l.length - 1 : Nat) : Int) > 1));rotate_right 15
 rotate_left 15;cases h7 : ((nd l 1).f0 == 44);rotate_right 15
 rotate_left 15;cases h11 : (exB (nd l 1));rotate_right 15
 rotate_left 17;cases h8 : (partsB (nd l 1) false false false);rotate_right 17
 rotate_left 17;cases h11 : (exB (nd l 1));rotate_right 17
 rotate_left 19;cases h9 : (decide (((nd l 1).f4.length : Int) > 0));rotate_right 19
 rotate_left 19;cases h11 : (exB (nd l 1));rotate_right 19
 rotate_left 21;cases h10 : (exs (-1) (nd l 1) exB);rotate_right 21
 rotate_left 21;cases h11 : (exB (nd l 1));rotate_right 21
 all_goals
  try (have HC0:=Aside0.mk h0;clear h0)
  try (have HC1:=Aside0.mk h1;clear h1)
  try (have HC3:=Aside0.mk h3;clear h3)
  try have h6m0 : decide ((1 : Int) < ((l.length - 1 : Nat) : Int)) = true:=h6
  try have h6m0 : decide ((1 : Int) < ((l.length - 1 : Nat) : Int)) = false:=h6
  try (have HC8:=Aside0.mk h8;clear h8)
  try have h9m0 : decide (0 < (nd l 1).f4.length) = true:=(pos_dec _).symm.trans h9
  try have h9m0 : decide (0 < (nd l 1).f4.length) = false:=(pos_dec _).symm.trans h9
  try (have HC10:=Aside0.mk h10;clear h10)
  try (have HC11:=Aside0.mk h11;clear h11)
  try (have HC12:=Aside0.mk h12;clear h12)
  try have HL2 : Aside0 (1 < l.length):=⟨by have:=beq_eq_false_iff_ne.1 h4;omega⟩
  try (have HLx:=HL2.out;obtain ⟨c2,rfl⟩ : ∃ k,c = k + 2:=⟨c - 2,by have:=E.out.k.le;(try dsimp only at this);omega⟩;clear HLx)
  try have HL : Aside0 (0 < l.length):=⟨by have:=beq_eq_false_iff_ne.1 h2;omega⟩
  go_enter Tryz.func36,Tryz.ntmps36
  go_wp2_with (first
   | (go_at_call 21;(try clear c0 c1 c2 c3 c4 c5);(with_reducible refine Env.call E E.out HC0.out (partsR.all true false true E.out.prem E.out.nd) (fun w1 E c0 c1 c2 c3 c4 c5 => ?_)))
   | (go_at_call 34;(try clear c0 c1 c2 c3 c4 c5);(with_reducible refine Env.call E E.out HC1.out (nameR.all HS.out E.out.prem) (fun w1 E c0 c1 c2 c3 c4 c5 => ?_));(try (have HLx:=HL.out;clear HLx;obtain ⟨ad,rfl⟩:=kid_some E.out.kids (by have:=HL.out;omega)));(try (have HLx:=HL.out;clear HLx;have q0 : 0 < l.length:=(by have:=HL.out;omega);obtain ⟨A0,d0,hn0,k00,k01,k02,k03,k04,k05⟩:=kid0 E.out.kids (by have:=HL.out;omega);have HN0:=Aside0.mk hn0;clear hn0)))
   | (go_at_call 49;(try clear c0 c1 c2 c3 c4 c5);(with_reducible refine Env.call E E.out HC3.out (noneR.all E.out.prem HN0.out) (fun w1 E c0 c1 c2 c3 c4 c5 => ?_));(try (have HLx:=HL.out;clear HLx;obtain ⟨ad,rfl⟩:=kid_some E.out.kids (by have:=HL.out;omega)));(try (have HLx:=HL.out;clear HLx;have q0 : 0 < l.length:=(by have:=HL.out;omega);obtain ⟨A0,d0,hn0,k00,k01,k02,k03,k04,k05⟩:=kid0 E.out.kids (by have:=HL.out;omega);have HN0:=Aside0.mk hn0;clear hn0));(try (have HLx:=HL2.out;clear HLx;have q1 : (1 : Int) < (l.length : Int):=(by have:=HL2.out;omega);obtain ⟨A1,d1,hn1,k10,k11,k12,k13,k14,k15⟩:=kid1 E.out.kids (by have:=HL2.out;omega);have HN1:=Aside0.mk hn1;clear hn1)))
   | (go_at_call 21;(try clear c0 c1 c2 c3 c4 c5);(with_reducible refine Env.call E E.out HC8.out (partsR.all false false false E.out.prem HN1.out) (fun w1 E c0 c1 c2 c3 c4 c5 => ?_));(try (have HLx:=HL.out;clear HLx;obtain ⟨ad,rfl⟩:=kid_some E.out.kids (by have:=HL.out;omega)));(try (have HLx:=HL2.out;clear HLx;have q1 : (1 : Int) < (l.length : Int):=(by have:=HL2.out;omega);obtain ⟨A1,d1,hn1,k10,k11,k12,k13,k14,k15⟩:=kid1 E.out.kids (by have:=HL2.out;omega);have HN1:=Aside0.mk hn1;clear hn1)))
   | (go_at_call 51;(try clear c0 c1 c2 c3 c4 c5);(with_reducible refine Env.call E E.out HC10.out (exprsR.all (-1) (HK.out.kid (nd_mem (by have:=HL2.out;omega))).kE E.out.prem HN1.out) (fun w1 E c0 c1 c2 c3 c4 c5 => ?_));(try (have HLx:=HL.out;clear HLx;obtain ⟨ad,rfl⟩:=kid_some E.out.kids (by have:=HL.out;omega)));(try (have HLx:=HL2.out;clear HLx;have q1 : (1 : Int) < (l.length : Int):=(by have:=HL2.out;omega);obtain ⟨A1,d1,hn1,k10,k11,k12,k13,k14,k15⟩:=kid1 E.out.kids (by have:=HL2.out;omega);have HN1:=Aside0.mk hn1;clear hn1)))
   | (go_at_call 50;(try clear c0 c1 c2 c3 c4 c5);(with_reducible refine Env.call E E.out HC11.out (exprR.all (HK.out.exp (by have:=HL2.out;omega)) E.out.prem HN1.out) (fun w1 E c0 c1 c2 c3 c4 c5 => ?_)))
   | (go_at_call 50;(try clear c0 c1 c2 c3 c4 c5);(with_reducible refine Env.call E E.out HC12.out (exprR.all (HK.out.exp (by have:=HL.out;omega)) E.out.prem HN0.out) (fun w1 E c0 c1 c2 c3 c4 c5 => ?_));(try (have HLx:=HL.out;clear HLx;obtain ⟨ad,rfl⟩:=kid_some E.out.kids (by have:=HL.out;omega)));(try (have HLx:=HL2.out;clear HLx;have q1 : (1 : Int) < (l.length : Int):=(by have:=HL2.out;omega);obtain ⟨A1,d1,hn1,k10,k11,k12,k13,k14,k15⟩:=kid1 E.out.kids (by have:=HL2.out;omega);have HN1:=Aside0.mk hn1;clear hn1)))
   | fail)
  all_goals (go_ret;exact ⟨by unfold vT;(try rw [HC0.out]);(try rw [HC1.out]);(try rw [h2]);(try rw [HC3.out]);(try rw [h4]);(try rw [h5]);(try rw [h6]);(try rw [h7]);(try rw [HC8.out]);(try rw [h9]);(try rw [HC10.out]);(try rw [HC11.out]);(try rw [HC12.out]);first|done|rfl,fin_⟩)
theorem variableR.no {x : S25} {A : Option Addr} {c : Nat} {w : World} (bare : Bool) (hk : x.f0 ≠ 43) (hG : PremW w) (hn : ND w x A c) : Calls Tryz.prog 36 #[val x A c,.bool bare] w (AllP false w):=by
 have E:=Env.start hG hn;clear hn hG;have b1 : (x.f0 != 43) = true:=bne_iff_ne.2 hk;have b2 : (x.f0 == 43) = false:=beq_eq_false_iff_ne.2 hk;clear hk;go_enter Tryz.func36,Tryz.ntmps36
 go_wp2
 go_ret
 exact ⟨rfl,fin_⟩
theorem vF_eq {x : S25} (bare : Bool) (h : x.f0 = 43) (h3 : x.f3 = false) : vF x bare = vaT bare x:=by
 rw [vaT_eq h];unfold vF vaK endT;rw [h3,if_neg (by decide),show ((x.f4.length : Int) == 0) = decide (x.f4.length = 0) from len_dec _ 0];by_cases h0 : x.f4.length = 0
 · rw [decide_eq_true h0,Bool.true_or,Bool.true_or,Bool.and_assoc]
 by_cases h1 : x.f4.length = 1
 · rw [decide_eq_false h0,decide_eq_true h1,decide_eq_false (show ¬ (x.f4.length : Int) > 1 by omega)];cases partsB x true false true <;> cases nmB x.f1 <;> cases bare <;> cases exB (nd x.f4 0) <;> rfl
 · rw [decide_eq_false h0,decide_eq_false h1,decide_eq_true (show (x.f4.length : Int) > 1 by omega)];cases partsB x true false true <;> cases nmB x.f1 <;> cases bare <;> cases exB (nd x.f4 0) <;> rfl
theorem vT_eq {x : S25} (bare : Bool) (h : x.f0 = 43) (h3 : x.f3 = true) : vT x bare = vaT bare x:=by
 rw [vaT_eq h];unfold vT vaK endT;rw [h3,if_pos rfl,List.length_drop,nd_drop,show ((x.f4.length : Int) == 0) = decide (x.f4.length = 0) from len_dec _ 0,show (((x.f4.length - 1 : Nat) : Int) == 0) = decide (x.f4.length - 1 = 0) from len_dec _ 0];by_cases h0 : x.f4.length = 0
 · rw [decide_eq_true h0,decide_eq_false (show ¬ x.f4.length ≠ 0 from fun h => h h0)];cases partsB x true false true <;> cases nmB x.f1 <;> rfl
 rw [decide_eq_false h0,decide_eq_true (show x.f4.length ≠ 0 from h0)];by_cases h1 : x.f4.length - 1 = 0
 · rw [decide_eq_true h1];cases partsB x true false true <;> cases nmB x.f1 <;> cases noT (nd x.f4 0) <;> cases exB (nd x.f4 0) <;> rfl
 by_cases h2 : x.f4.length - 1 = 1
 · have e : ((nd x.f4 1).f0 == 44 && partsB (nd x.f4 1) false false false && decide (((nd x.f4 1).f4.length : Int) > 0) && exs (-1) (nd x.f4 1) exB) = liT (nd x.f4 1):=by
    by_cases h4 : (nd x.f4 1).f0 = 44
    · rw [liT_eq h4,show ((nd x.f4 1).f0 == 44) = true from beq_iff_eq.2 h4,show exs (-1) (nd x.f4 1) exB = (nd x.f4 1).f4.all exB from rfl,pos_dec,show decide (0 < (nd x.f4 1).f4.length) = decide ((nd x.f4 1).f4.length ≠ 0) from by congr 1;exact propext ⟨fun h => by omega,fun h => by omega⟩];cases partsB (nd x.f4 1) false false false <;> cases decide ((nd x.f4 1).f4.length ≠ 0) <;> rfl
    · unfold liT;rw [decide_eq_false h4,show ((nd x.f4 1).f0 == 44) = false from beq_eq_false_iff_ne.2 h4];rfl
   rw [e,decide_eq_false h1,decide_eq_true h2,decide_eq_false (show ¬ ((x.f4.length - 1 : Nat) : Int) > 1 by omega)];cases partsB x true false true <;> cases nmB x.f1 <;> cases noT (nd x.f4 0) <;> cases exB (nd x.f4 0) <;> cases bare <;> cases exB (nd x.f4 1) <;> cases liT (nd x.f4 1) <;> rfl
 · rw [decide_eq_false h1,decide_eq_false h2,decide_eq_true (show ((x.f4.length - 1 : Nat) : Int) > 1 by omega)];cases partsB x true false true <;> cases nmB x.f1 <;> cases noT (nd x.f4 0) <;> cases exB (nd x.f4 0) <;> cases bare <;> rfl
theorem variableR.all {n : Nat} {x : S25} {A : Option Addr} {c : Nat} {w : World} (bare : Bool) (hK : Kn n x) (hG : PremW w) (hn : ND w x A c) : Calls Tryz.prog 36 #[val x A c,.bool bare] w (AllP (vaT bare x) w):=by
 by_cases h : x.f0 = 43
 · cases h3 : x.f3 with
   | false =>
    rw [← vF_eq bare h h3];cases x;subst h3;exact varF bare h hK hG hn
   | true =>
    rw [← vT_eq bare h h3];cases x;subst h3;exact varT bare h hK hG hn
 · rw [show vaT bare x = false from by unfold vaT;rw [decide_eq_false h];rfl];exact variableR.no bare h hG hn
end Go.Proofs.YtboojhadfhpdeaaGreatDoor.Q
namespace Go.Proofs.YtboojhadfhpdeaaGreatDoor.Q
open Go.RowKit Go.Proofs.YtboojhadfhpdeaaGreatDoorW.PrintWords Go.Proofs.YtboojhadfhpdeaaGreatDoorW.PrintLast Go.Proofs.YtboojhadfhpdeaaGreatDoorW.PrintMore
set_option linter.unusedVariables false
set_option linter.unusedSimpArgs false
noncomputable def varsRP (x : S25) : Bool:=((partsB x false false false) && (!(decide ((x.f4.length : Int) < 2))) && (tyT (nd x.f4 0)))
set_option maxHeartbeats 8000000 in
set_option maxRecDepth 100000 in
theorem varsR.p {x : S25} {A : Option Addr} {c : Nat} {w : World} (bare : Bool) {n : Nat} (hk : x.f0 = 42) (hK : Kn n x) (hp0 : partsB x false false false = true) (hp1 : 2 ≤ x.f4.length) (hp2 : tyT (nd x.f4 0) = true) (hG : PremW w) (hn : ND w x A c) : Calls Tryz.prog 23 #[val x A c,.bool bare] w (AllP (x.f4.tail.all (vaT bare)) w):=by
 have HMX:=Aside0.mk hn.C.2.1;have E:=Env.start hG hn;clear hn hG;have b1 : (x.f0 != 42) = false:=by rw [hk];rfl
 have b2 : (x.f0 == 42) = true:=by rw [hk];rfl
 clear hk;have HS:=Aside0.mk hK.s.str;have HKS:=Aside0.mk hK.kids;have HK:=Aside0.mk hK;clear hK;have P0:=Aside0.mk hp0;have P1:=Aside0.mk hp1;have P2:=Aside0.mk hp2;have f1 : decide ((x.f4.length : Int) < 2) = false:=decide_eq_false (by omega);have HL : Aside0 (0 < x.f4.length):=⟨by omega⟩
 clear hp0;clear hp1;clear hp2;go_enter Tryz.func23,Tryz.ntmps23
 go_wp2_with (first
  | (go_at_call 21;(try clear c0 c1 c2 c3 c4 c5);(with_reducible refine Env.call E E.out P0.out (partsR.all false false false E.out.prem E.out.nd) (fun w1 E c0 c1 c2 c3 c4 c5 => ?_));(try (have HLx:=HL.out;clear HLx;obtain ⟨ad,rfl⟩:=kid_some E.out.kids (by have:=HL.out;omega)));(try (have HLx:=HL.out;clear HLx;have q0 : 0 < x.f4.length:=(by have:=HL.out;omega);obtain ⟨A0,d0,hn0,k00,k01,k02,k03,k04,k05⟩:=kid0 E.out.kids (by have:=HL.out;omega);have HN0:=Aside0.mk hn0;clear hn0)))
  | (go_at_call 35;(try clear c0 c1 c2 c3 c4 c5);(with_reducible refine Env.call E E.out P2.out (typedR.all (HKS.out _ (nd_mem (by have:=HL.out;omega))) E.out.prem HN0.out) (fun w1 E c0 c1 c2 c3 c4 c5 => ?_));skip)
  | fail)
 try clear c0 c1 c2 c3 c4 c5
 go_loopg [5] x.f4.length (fun kq v w' => ∃ i : Nat,v = .int .i64 i ∧ Aside0 (i + kq = x.f4.length + 1) ∧ Aside0 (1 ≤ i) ∧ Aside0 (∀ j,1 ≤ j → j < i → j < x.f4.length → (vaT bare) (nd x.f4 j) = true) ∧ Aside0 (Env w x (some ad) c w'))
 case atStart => exact ⟨1,rfl,⟨by omega⟩,⟨Nat.le_refl _⟩,⟨fun j h1 h2 => by omega⟩,by first|exact E|exact ⟨E.out.alloc _⟩⟩
 case round =>
  obtain ⟨i,rfl,HI,H0,HP,E⟩:=hrel;obtain ⟨c0,c1,c2,c3,c4,c5⟩:=E.out.cells;by_cases hi : i < x.f4.length
  · have e1n : decide (i < x.f4.length) = true:=decide_eq_true hi;have e1 : decide ((i : Int) < (x.f4.length : Int)) = true:=decide_eq_true (by omega);have p1 : (0 : Int) ≤ (i : Int):=by omega
    have q1 : (i : Int) < (x.f4.length : Int):=by omega
    obtain ⟨A',c',hnd,k0,k1,k2,k3,k4,k5⟩:=node_atS E.out.kids hi;have HND:=Aside0.mk hnd;have HIL:=Aside0.mk hi;have HMEM:=Aside0.mk (nd_mem hi);clear hi hnd;have w3 : wrap64 ((i : Int) + 1) = (i : Int) + 1:=by have:=HMX.out;have:=HIL.out;unfold wrap64;omega
    have w4 : IntKind.i64.wrap ((i : Int) + 1) = (i : Int) + 1:=(i64_w _).trans w3;cases hp0 : vaT bare (nd x.f4 i);all_goals
     try (have HC0:=Aside0.mk hp0;clear hp0)
     go_wp2_with (first
      | (go_at_call 36;(try clear c0 c1 c2 c3 c4 c5);(with_reducible refine Env.call E E.out HC0.out (variableR.all bare (HK.out.kid HMEM.out) E.out.prem HND.out) (fun w1 E c0 c1 c2 c3 c4 c5 => ?_));(try (clear k0 k1 k2 k3 k4 k5;obtain ⟨A2,c2_,hnd,k0,k1,k2,k3,k4,k5⟩:=node_atS E.out.kids HIL.out;have HND:=Aside0.mk hnd;clear hnd)))
      | fail)
     first
      | (go_ret;exact ⟨by rw [all_fails1 (p:=(vaT bare)) H0.out HIL.out (by (try dsimp only);(try rw [HC0.out]);first|done|rfl)];rfl,fin_⟩)
      | (go_roundg (x.f4.length + 1 - (i + 1))
         case measure => have:=HI.out;have:=HIL.out;omega
         case rel => exact ⟨i + 1,by (try simp only [w4,w3]);rfl,⟨by have:=HI.out;have:=HIL.out;omega⟩,⟨by have:=H0.out;omega⟩,⟨fun j h1 h2 h3 => by
          by_cases hj : j = i
          · subst hj;(try dsimp only);(try rw [HC0.out]);first|done|rfl
          · exact HP.out j h1 (by omega) h3⟩,E⟩)
  · have e1n : decide (i < x.f4.length) = false:=decide_eq_false hi;have e1 : decide ((i : Int) < (x.f4.length : Int)) = false:=decide_eq_false (by omega);have HH:=Aside0.mk (all_from1 (p:=(vaT bare)) (l:=x.f4) (fun j h1 h2 => HP.out j h1 (by omega) h2));clear hi HP HI;go_wp2
    go_ret
    exact ⟨by rw [HH.out];rfl,fin_⟩
set_option maxHeartbeats 8000000 in
set_option maxRecDepth 100000 in
theorem varsR.f {n : Nat} {x : S25} {A : Option Addr} {c : Nat} {w : World} (bare : Bool) (hk : x.f0 = 42) (hpre : varsRP x = false) (hK : Kn n x) (hG : PremW w) (hn : ND w x A c) : Calls Tryz.prog 23 #[val x A c,.bool bare] w (AllP (false) w):=by
 have E:=Env.start hG hn;clear hn hG;have b1 : (x.f0 != 42) = false:=by rw [hk];rfl
 have b2 : (x.f0 == 42) = true:=by rw [hk];rfl
 clear hk;have HS:=Aside0.mk hK.s.str;have HKS:=Aside0.mk hK.kids;have HK:=Aside0.mk hK;clear hK;cases h0 : (partsB x false false false);rotate_left 1;cases h1 : (decide ((x.f4.length : Int) < 2));rotate_right 1
 rotate_left 1;cases h2 : (tyT (nd x.f4 0));rotate_right 1
 rotate_left 2;(exact absurd (hpre.symm.trans (show varsRP x = true from by unfold varsRP;(try rw [h0]);(try rw [h1]);(try rw [h2]);first|done|rfl)) (by decide));rotate_right 2
 all_goals
  try (have HC0:=Aside0.mk h0;clear h0)
  try have h1m0 : decide ((2 : Int) > x.f4.length) = true:=h1
  try have h1m0 : decide ((2 : Int) > x.f4.length) = false:=h1
  try (have HC2:=Aside0.mk h2;clear h2)
  clear hpre;try have HL : Aside0 (0 < x.f4.length):=⟨by have:=of_decide_eq_false h1;omega⟩
  go_enter Tryz.func23,Tryz.ntmps23
  go_wp2_with (first
   | (go_at_call 21;(try clear c0 c1 c2 c3 c4 c5);(with_reducible refine Env.call E E.out HC0.out (partsR.all false false false E.out.prem E.out.nd) (fun w1 E c0 c1 c2 c3 c4 c5 => ?_));(try (have HLx:=HL.out;clear HLx;obtain ⟨ad,rfl⟩:=kid_some E.out.kids (by have:=HL.out;omega)));(try (have HLx:=HL.out;clear HLx;have q0 : 0 < x.f4.length:=(by have:=HL.out;omega);obtain ⟨A0,d0,hn0,k00,k01,k02,k03,k04,k05⟩:=kid0 E.out.kids (by have:=HL.out;omega);have HN0:=Aside0.mk hn0;clear hn0)))
   | (go_at_call 35;(try clear c0 c1 c2 c3 c4 c5);(with_reducible refine Env.call E E.out HC2.out (typedR.all (HKS.out _ (nd_mem (by have:=HL.out;omega))) E.out.prem HN0.out) (fun w1 E c0 c1 c2 c3 c4 c5 => ?_)))
   | fail)
  go_ret
  exact ⟨rfl,fin_⟩
set_option maxHeartbeats 8000000 in
set_option maxRecDepth 100000 in
theorem varsR.no {n : Nat} {x : S25} {A : Option Addr} {c : Nat} {w : World} (bare : Bool) (hk : x.f0 ≠ 42) (hG : PremW w) (hn : ND w x A c) : Calls Tryz.prog 23 #[val x A c,.bool bare] w (AllP (false) w):=by
 have E:=Env.start hG hn;clear hn hG;have b1 : (x.f0 != 42) = true:=bne_iff_ne.2 hk;have b2 : (x.f0 == 42) = false:=beq_eq_false_iff_ne.2 hk;clear hk;go_enter Tryz.func23,Tryz.ntmps23
 go_wp2
 go_ret
 exact ⟨rfl,fin_⟩
theorem varsR.all {n : Nat} {x : S25} {A : Option Addr} {c : Nat} {w : World} (bare : Bool) (hK : Kn n x) (hG : PremW w) (hn : ND w x A c) : Calls Tryz.prog 23 #[val x A c,.bool bare] w (AllP (vsT bare x) w):=by
 by_cases h : x.f0 = 42
 · rw [vsT_eq h,List.drop_one,← Bool.and_assoc,← Bool.and_assoc];have e : (partsB x false false false && decide (2 ≤ x.f4.length) && tyT (nd x.f4 0)) = varsRP x:=by
    unfold varsRP;rw [show (!decide ((x.f4.length : Int) < 2)) = decide (2 ≤ x.f4.length) from by by_cases h : 2 ≤ x.f4.length <;> simp [h] <;> omega]
   rw [e];cases hp : varsRP x with
   | false => exact varsR.f bare h hp hK hG hn
   | true =>
    rw [← e] at hp;simp only [Bool.and_eq_true,decide_eq_true_eq] at hp;exact varsR.p bare h hK hp.1.1 hp.1.2 hp.2 hG hn
 · rw [show vsT bare x = false from by unfold vsT;rw [decide_eq_false h];rfl];exact varsR.no (n:=0) bare h hG hn
end Go.Proofs.YtboojhadfhpdeaaGreatDoor.Q
namespace Go.Proofs.YtboojhadfhpdeaaGreatDoor.Q
open Go.RowKit Go.Proofs.YtboojhadfhpdeaaGreatDoorW.PrintWords Go.Proofs.YtboojhadfhpdeaaGreatDoorW.PrintLast Go.Proofs.YtboojhadfhpdeaaGreatDoorW.PrintMore
set_option linter.unusedVariables false
set_option linter.unusedSimpArgs false
def recordRP (x : S25) : Bool:=((partsB x true false false) && (nmB x.f1))
set_option maxHeartbeats 8000000 in
set_option maxRecDepth 100000 in
theorem recordR.p {x : S25} {A : Option Addr} {c : Nat} {w : World} {n : Nat} (hk : x.f0 = 41) (hK : Kn n x) (hp0 : partsB x true false false = true) (hp1 : nmB x.f1 = true) (hG : PremW w) (hn : ND w x A c) : Calls Tryz.prog 22 #[val x A c] w (AllP (x.f4.all (vsT true)) w):=by
 have HMX:=Aside0.mk hn.C.2.1;have E:=Env.start hG hn;clear hn hG;have b1 : (x.f0 != 41) = false:=by rw [hk];rfl
 have b2 : (x.f0 == 41) = true:=by rw [hk];rfl
 clear hk;have HS:=Aside0.mk hK.s.str;have HKS:=Aside0.mk hK.kids;have HK:=Aside0.mk hK;clear hK;have P0:=Aside0.mk hp0;have P1:=Aside0.mk hp1;clear hp0;clear hp1;go_enter Tryz.func22,Tryz.ntmps22
 go_wp2_with (first
  | (go_at_call 21;(try clear c0 c1 c2 c3 c4 c5);(with_reducible refine Env.call E E.out P0.out (partsR.all true false false E.out.prem E.out.nd) (fun w1 E c0 c1 c2 c3 c4 c5 => ?_));skip)
  | (go_at_call 34;(try clear c0 c1 c2 c3 c4 c5);(with_reducible refine Env.call E E.out P1.out (nameR.all HS.out E.out.prem) (fun w1 E c0 c1 c2 c3 c4 c5 => ?_));skip)
  | fail)
 try clear c0 c1 c2 c3 c4 c5
 go_loopg [3] x.f4.length (fun kq v w' => ∃ i : Nat,v = .int .i64 i ∧ Aside0 (i + kq = x.f4.length + 0) ∧ Aside0 (0 ≤ i) ∧ Aside0 (∀ j,0 ≤ j → j < i → j < x.f4.length → (vsT true) (nd x.f4 j) = true) ∧ Aside0 (Env w x A c w'))
 case atStart => exact ⟨0,rfl,⟨by omega⟩,⟨Nat.le_refl _⟩,⟨fun j h1 h2 => by omega⟩,by first|exact E|exact ⟨E.out.alloc _⟩⟩
 case round =>
  obtain ⟨i,rfl,HI,H0,HP,E⟩:=hrel;obtain ⟨c0,c1,c2,c3,c4,c5⟩:=E.out.cells;by_cases hi : i < x.f4.length
  · have e1n : decide (i < x.f4.length) = true:=decide_eq_true hi;have e1 : decide ((i : Int) < (x.f4.length : Int)) = true:=decide_eq_true (by omega);have p1 : (0 : Int) ≤ (i : Int):=by omega
    have q1 : (i : Int) < (x.f4.length : Int):=by omega
    obtain ⟨ad,A',c',rfl,hnd,k0,k1,k2,k3,k4,k5⟩:=node_at E.out.kids i hi;have HND:=Aside0.mk hnd;have HIL:=Aside0.mk hi;have HMEM:=Aside0.mk (nd_mem hi);clear hi hnd;have w3 : wrap64 ((i : Int) + 1) = (i : Int) + 1:=by have:=HMX.out;have:=HIL.out;unfold wrap64;omega
    have w4 : IntKind.i64.wrap ((i : Int) + 1) = (i : Int) + 1:=(i64_w _).trans w3;cases hp0 : vsT true (nd x.f4 i);all_goals
     try (have HC0:=Aside0.mk hp0;clear hp0)
     go_wp2_with (first
      | (go_at_call 23;(try clear c0 c1 c2 c3 c4 c5);(with_reducible refine Env.call E E.out HC0.out (varsR.all true (HK.out.kid HMEM.out) E.out.prem HND.out) (fun w1 E c0 c1 c2 c3 c4 c5 => ?_));(try (clear k0 k1 k2 k3 k4 k5;obtain ⟨A2,c2_,hnd,k0,k1,k2,k3,k4,k5⟩:=node_atS E.out.kids HIL.out;have HND:=Aside0.mk hnd;clear hnd)))
      | fail)
     first
      | (go_ret;exact ⟨by rw [all_fails0 (p:=(vsT true)) H0.out HIL.out (by (try dsimp only);(try rw [HC0.out]);first|done|rfl)];rfl,fin_⟩)
      | (go_roundg (x.f4.length + 0 - (i + 1))
         case measure => have:=HI.out;have:=HIL.out;omega
         case rel => exact ⟨i + 1,by (try simp only [w4,w3]);rfl,⟨by have:=HI.out;have:=HIL.out;omega⟩,⟨by have:=H0.out;omega⟩,⟨fun j h1 h2 h3 => by
          by_cases hj : j = i
          · subst hj;(try dsimp only);(try rw [HC0.out]);first|done|rfl
          · exact HP.out j h1 (by omega) h3⟩,E⟩)
  · have e1n : decide (i < x.f4.length) = false:=decide_eq_false hi;have e1 : decide ((i : Int) < (x.f4.length : Int)) = false:=decide_eq_false (by omega);have HH:=Aside0.mk (all_from0 (p:=(vsT true)) (l:=x.f4) (fun j h1 h2 => HP.out j h1 (by omega) h2));clear hi HP HI;go_wp2
    go_ret
    exact ⟨by rw [HH.out];rfl,fin_⟩
set_option maxHeartbeats 8000000 in
set_option maxRecDepth 100000 in
theorem recordR.f {n : Nat} {x : S25} {A : Option Addr} {c : Nat} {w : World} (hk : x.f0 = 41) (hpre : recordRP x = false) (hK : Kn n x) (hG : PremW w) (hn : ND w x A c) : Calls Tryz.prog 22 #[val x A c] w (AllP (false) w):=by
 have E:=Env.start hG hn;clear hn hG;have b1 : (x.f0 != 41) = false:=by rw [hk];rfl
 have b2 : (x.f0 == 41) = true:=by rw [hk];rfl
 clear hk;have HS:=Aside0.mk hK.s.str;have HKS:=Aside0.mk hK.kids;have HK:=Aside0.mk hK;clear hK;cases h0 : (partsB x true false false);rotate_left 1;cases h1 : (nmB x.f1);rotate_right 1
 rotate_left 2;(exact absurd (hpre.symm.trans (show recordRP x = true from by unfold recordRP;(try rw [h0]);(try rw [h1]);first|done|rfl)) (by decide));rotate_right 2
 all_goals
  try (have HC0:=Aside0.mk h0;clear h0)
  try (have HC1:=Aside0.mk h1;clear h1)
  clear hpre;go_enter Tryz.func22,Tryz.ntmps22
  go_wp2_with (first
   | (go_at_call 21;(try clear c0 c1 c2 c3 c4 c5);(with_reducible refine Env.call E E.out HC0.out (partsR.all true false false E.out.prem E.out.nd) (fun w1 E c0 c1 c2 c3 c4 c5 => ?_)))
   | (go_at_call 34;(try clear c0 c1 c2 c3 c4 c5);(with_reducible refine Env.call E E.out HC1.out (nameR.all HS.out E.out.prem) (fun w1 E c0 c1 c2 c3 c4 c5 => ?_)))
   | fail)
  go_ret
  exact ⟨rfl,fin_⟩
set_option maxHeartbeats 8000000 in
set_option maxRecDepth 100000 in
theorem recordR.no {n : Nat} {x : S25} {A : Option Addr} {c : Nat} {w : World} (hk : x.f0 ≠ 41) (hG : PremW w) (hn : ND w x A c) : Calls Tryz.prog 22 #[val x A c] w (AllP (false) w):=by
 have E:=Env.start hG hn;clear hn hG;have b1 : (x.f0 != 41) = true:=bne_iff_ne.2 hk;have b2 : (x.f0 == 41) = false:=beq_eq_false_iff_ne.2 hk;clear hk;go_enter Tryz.func22,Tryz.ntmps22
 go_wp2
 go_ret
 exact ⟨rfl,fin_⟩
theorem recordR.all {n : Nat} {x : S25} {A : Option Addr} {c : Nat} {w : World} (hK : Kn n x) (hG : PremW w) (hn : ND w x A c) : Calls Tryz.prog 22 #[val x A c] w (AllP (recT x) w):=by
 by_cases h : x.f0 = 41
 · have e : recT x = (recordRP x && x.f4.all (vsT true)):=by
    have e1 : x.f4.all (vsT true) = (x.f4.all bareB && x.f4.all mayT):=by
     rw [all_and];congr 1
     funext y
     unfold vsT bareB;cases decide (y.f0 = 42) <;> cases mayT y <;> cases y.f4.all bare1 <;> rfl
    unfold recT;rw [decide_eq_true h,mayT_D (by omega),show declB x = d41 x from by unfold declB;simp [h],decide_eq_false (show ¬ x.f0 = 43 by omega),decide_eq_false (show ¬ x.f0 = 46 by omega),e1];unfold d41 recordRP partsB;cases nmB x.f1 <;> cases (x.f2 == 0) <;> cases x.f3 <;> cases x.f4.all bareB <;> cases x.f4.all mayT <;> simp
   rw [e];cases hp : recordRP x with
   | false => exact recordR.f h hp hK hG hn
   | true =>
    unfold recordRP at hp;rw [Bool.and_eq_true] at hp;exact recordR.p h hK hp.1 hp.2 hG hn
 · rw [show recT x = false from by unfold recT;rw [decide_eq_false h];rfl];exact recordR.no (n:=0) h hG hn
def blockRP (x : S25) : Bool:=((partsB x false false false))
set_option maxHeartbeats 8000000 in
set_option maxRecDepth 100000 in
theorem blockR.p {x : S25} {A : Option Addr} {c : Nat} {w : World} {n : Nat} (hk : x.f0 = 47) (hK : Kn n x) (hp0 : partsB x false false false = true) (hG : PremW w) (hn : ND w x A c) : Calls Tryz.prog 37 #[val x A c] w (AllP (x.f4.all (fun y => vsT false y || stB y)) w):=by
 have HMX:=Aside0.mk hn.C.2.1;have E:=Env.start hG hn;clear hn hG;have b1 : (x.f0 != 47) = false:=by rw [hk];rfl
 have b2 : (x.f0 == 47) = true:=by rw [hk];rfl
 clear hk;have HS:=Aside0.mk hK.s.str;have HKS:=Aside0.mk hK.kids;have HK:=Aside0.mk hK;clear hK;have P0:=Aside0.mk hp0;clear hp0;go_enter Tryz.func37,Tryz.ntmps37
 go_wp2_with (first
  | (go_at_call 21;(try clear c0 c1 c2 c3 c4 c5);(with_reducible refine Env.call E E.out P0.out (partsR.all false false false E.out.prem E.out.nd) (fun w1 E c0 c1 c2 c3 c4 c5 => ?_));skip)
  | fail)
 try clear c0 c1 c2 c3 c4 c5
 go_loopg [3] x.f4.length (fun kq v w' => ∃ i : Nat,v = .int .i64 i ∧ Aside0 (i + kq = x.f4.length + 0) ∧ Aside0 (0 ≤ i) ∧ Aside0 (∀ j,0 ≤ j → j < i → j < x.f4.length → (fun y => vsT false y || stB y) (nd x.f4 j) = true) ∧ Aside0 (Env w x A c w'))
 case atStart => exact ⟨0,rfl,⟨by omega⟩,⟨Nat.le_refl _⟩,⟨fun j h1 h2 => by omega⟩,by first|exact E|exact ⟨E.out.alloc _⟩⟩
 case round =>
  obtain ⟨i,rfl,HI,H0,HP,E⟩:=hrel;obtain ⟨c0,c1,c2,c3,c4,c5⟩:=E.out.cells;by_cases hi : i < x.f4.length
  · have e1n : decide (i < x.f4.length) = true:=decide_eq_true hi;have e1 : decide ((i : Int) < (x.f4.length : Int)) = true:=decide_eq_true (by omega);have p1 : (0 : Int) ≤ (i : Int):=by omega
    have q1 : (i : Int) < (x.f4.length : Int):=by omega
    obtain ⟨ad,A',c',rfl,hnd,k0,k1,k2,k3,k4,k5⟩:=node_at E.out.kids i hi;have HND:=Aside0.mk hnd;have HIL:=Aside0.mk hi;have HMEM:=Aside0.mk (nd_mem hi);clear hi hnd;have w3 : wrap64 ((i : Int) + 1) = (i : Int) + 1:=by have:=HMX.out;have:=HIL.out;unfold wrap64;omega
    have w4 : IntKind.i64.wrap ((i : Int) + 1) = (i : Int) + 1:=(i64_w _).trans w3;cases hp0 : vsT false (nd x.f4 i);rotate_left 0;cases hp1 : stB (nd x.f4 i);rotate_right 0
    all_goals
     try (have HC0:=Aside0.mk hp0;clear hp0)
     try (have HC1:=Aside0.mk hp1;clear hp1)
     go_wp2_with (first
      | (go_at_call 23;(try clear c0 c1 c2 c3 c4 c5);(with_reducible refine Env.call E E.out HC0.out (varsR.all false (HK.out.kid HMEM.out) E.out.prem HND.out) (fun w1 E c0 c1 c2 c3 c4 c5 => ?_));(try (clear k0 k1 k2 k3 k4 k5;obtain ⟨A2,c2_,hnd,k0,k1,k2,k3,k4,k5⟩:=node_atS E.out.kids HIL.out;have HND:=Aside0.mk hnd;clear hnd)))
      | (go_at_call 52;(try clear c0 c1 c2 c3 c4 c5);(with_reducible refine Env.call E E.out HC1.out (KnowS.go (HK.out.kS _ HMEM.out) E.out.prem HND.out) (fun w1 E c0 c1 c2 c3 c4 c5 => ?_));(try (clear k0 k1 k2 k3 k4 k5;obtain ⟨A2,c2_,hnd,k0,k1,k2,k3,k4,k5⟩:=node_atS E.out.kids HIL.out;have HND:=Aside0.mk hnd;clear hnd)))
      | fail)
     first
      | (go_ret;exact ⟨by rw [all_fails0 (p:=(fun y => vsT false y || stB y)) H0.out HIL.out (by (try dsimp only);(try rw [HC0.out]);(try rw [HC1.out]);first|done|rfl)];rfl,fin_⟩)
      | (go_roundg (x.f4.length + 0 - (i + 1))
         case measure => have:=HI.out;have:=HIL.out;omega
         case rel => exact ⟨i + 1,by (try simp only [w4,w3]);rfl,⟨by have:=HI.out;have:=HIL.out;omega⟩,⟨by have:=H0.out;omega⟩,⟨fun j h1 h2 h3 => by
          by_cases hj : j = i
          · subst hj;(try dsimp only);(try rw [HC0.out]);(try rw [HC1.out]);first|done|rfl
          · exact HP.out j h1 (by omega) h3⟩,E⟩)
  · have e1n : decide (i < x.f4.length) = false:=decide_eq_false hi;have e1 : decide ((i : Int) < (x.f4.length : Int)) = false:=decide_eq_false (by omega);have HH:=Aside0.mk (all_from0 (p:=(fun y => vsT false y || stB y)) (l:=x.f4) (fun j h1 h2 => HP.out j h1 (by omega) h2));clear hi HP HI;go_wp2
    go_ret
    exact ⟨by rw [HH.out];rfl,fin_⟩
set_option maxHeartbeats 8000000 in
set_option maxRecDepth 100000 in
theorem blockR.f {n : Nat} {x : S25} {A : Option Addr} {c : Nat} {w : World} (hk : x.f0 = 47) (hpre : blockRP x = false) (hK : Kn n x) (hG : PremW w) (hn : ND w x A c) : Calls Tryz.prog 37 #[val x A c] w (AllP (false) w):=by
 have E:=Env.start hG hn;clear hn hG;have b1 : (x.f0 != 47) = false:=by rw [hk];rfl
 have b2 : (x.f0 == 47) = true:=by rw [hk];rfl
 clear hk;have HS:=Aside0.mk hK.s.str;have HKS:=Aside0.mk hK.kids;have HK:=Aside0.mk hK;clear hK;cases h0 : (partsB x false false false);rotate_left 1;(exact absurd (hpre.symm.trans (show blockRP x = true from by unfold blockRP;(try rw [h0]);first|done|rfl)) (by decide));rotate_right 1
 try (have HC0:=Aside0.mk h0;clear h0)
 clear hpre;go_enter Tryz.func37,Tryz.ntmps37
 go_wp2_with (first
  | (go_at_call 21;(try clear c0 c1 c2 c3 c4 c5);(with_reducible refine Env.call E E.out HC0.out (partsR.all false false false E.out.prem E.out.nd) (fun w1 E c0 c1 c2 c3 c4 c5 => ?_)))
  | fail)
 go_ret
 exact ⟨rfl,fin_⟩
set_option maxHeartbeats 8000000 in
set_option maxRecDepth 100000 in
theorem blockR.no {n : Nat} {x : S25} {A : Option Addr} {c : Nat} {w : World} (hk : x.f0 ≠ 47) (hG : PremW w) (hn : ND w x A c) : Calls Tryz.prog 37 #[val x A c] w (AllP (false) w):=by
 have E:=Env.start hG hn;clear hn hG;have b1 : (x.f0 != 47) = true:=bne_iff_ne.2 hk;have b2 : (x.f0 == 47) = false:=beq_eq_false_iff_ne.2 hk;clear hk;go_enter Tryz.func37,Tryz.ntmps37
 go_wp2
 go_ret
 exact ⟨rfl,fin_⟩
theorem blockR.all {n : Nat} {x : S25} {A : Option Addr} {c : Nat} {w : World} (hK : Kn n x) (hG : PremW w) (hn : ND w x A c) : Calls Tryz.prog 37 #[val x A c] w (AllP (blT x) w):=by
 by_cases h : x.f0 = 47
 · rw [blT_eq h];cases hp : partsB x false false false with
   | false => exact blockR.f h (show blockRP x = false from by unfold blockRP;rw [hp]) hK hG hn
   | true => exact blockR.p h hK hp hG hn
 · rw [show blT x = false from by unfold blT;rw [decide_eq_false h];rfl];exact blockR.no (n:=0) h hG hn
end Go.Proofs.YtboojhadfhpdeaaGreatDoor.Q
