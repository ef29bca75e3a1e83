/- Proved: for every tree whose reading is of bulk at most 1048576, AstChecks returns true and the tree reads as it did. Condition: that bound, as the given statement states it. -/
import Derived.Test.YtboojhadfhpdeaaGreatDoorVc2
import Derived.Test.YtboojhadfhpdeaaGreatDoorVc4
import Derived.Test.YtboojhadfhpdeaaGreatDoorVc8
import Derived.Test.YtboojhadfhpdeaaGreatDoorVc12
import Derived.Test.YtboojhadfhpdeaaGreatDoorVc14
namespace Go.Proofs.YtboojhadfhpdeaaGreatDoor.Q
open Go.RowKit Go.Proofs.YtboojhadfhpdeaaGreatDoorW.PrintWords Go.Proofs.YtboojhadfhpdeaaGreatDoorW.PrintLast Go.Proofs.YtboojhadfhpdeaaGreatDoorW.PrintMore
set_option linter.unusedVariables false
set_option linter.unusedSimpArgs false
theorem openR.all {x : S25} {A : Option Addr} {c : Nat} {w : World} (hn : ND w x A c) : Calls Tryz.prog 84 #[val x A c] w (AllP (openR x) w) :=
 crucibleref08_open.calls _ _ _ _ _ A c _ _ _ w hn.C hn.le (open_ref _ x (fit_of_C hn.C) (Nat.lt_succ_self _))
section
variable {n : Nat} {x : S25}
theorem Kn.st (h : Kn n x) {i : Nat} (hi : i < x.f4.length) : KnowS (nd x.f4 i):=h.kS _ (nd_mem hi)
end
noncomputable def q47 (x : S25) : Bool:=((partsB x false false false) && (blT x))
set_option maxHeartbeats 8000000 in
set_option maxRecDepth 100000 in
theorem stR.s47 {x : S25} {A : Option Addr} {c : Nat} {w : World} {n : Nat} (hk : x.f0 = 47) (hK : Kn n x) (hG : PremW w) (hn : ND w x A c) : Calls Tryz.prog 52 #[val x A c] w (AllP (q47 x) w):=by
 have E:=Env.start hG hn;clear hn hG;have b47 : (x.f0 == 47) = true:=by rw [hk];rfl
 have b48 : (x.f0 == 48) = false:=by rw [hk];rfl
 have b49 : (x.f0 == 49) = false:=by rw [hk];rfl
 have b50 : (x.f0 == 50) = false:=by rw [hk];rfl
 have b51 : (x.f0 == 51) = false:=by rw [hk];rfl
 have b52 : (x.f0 == 52) = false:=by rw [hk];rfl
 have b53 : (x.f0 == 53) = false:=by rw [hk];rfl
 have b54 : (x.f0 == 54) = false:=by rw [hk];rfl
 have b55 : (x.f0 == 55) = false:=by rw [hk];rfl
 have b56 : (x.f0 == 56) = false:=by rw [hk];rfl
 have HK:=Aside0.mk hk;clear hk;have HK:=Aside0.mk hK;clear hK;cases h0 : (partsB x false false false);rotate_left 1;cases h1 : (blT x);rotate_right 1
 all_goals
  try (have HC0:=Aside0.mk h0;clear h0)
  try (have HC1:=Aside0.mk h1;clear h1)
  go_enter Tryz.func52,Tryz.ntmps52
  go_wp2_with (first
   | (go_at_call 21;(try clear c0 c1 c2 c3 c4 c5);(with_reducible refine Env.call E E.out HC0.out (partsR.all false false false E.out.prem E.out.nd) (fun w1 E c0 c1 c2 c3 c4 c5 => ?_)))
   | (go_at_call 37;(try clear c0 c1 c2 c3 c4 c5);(with_reducible refine Env.call E E.out HC1.out (blockR.all HK.out E.out.prem E.out.nd) (fun w1 E c0 c1 c2 c3 c4 c5 => ?_)))
   | fail)
  go_ret
  exact ⟨by unfold q47;(try rw [HC0.out]);(try rw [HC1.out]);first|done|rfl,fin_⟩
noncomputable def q48 (x : S25) : Bool:=((partsB x false false false) && (exs 1 x exB))
set_option maxHeartbeats 8000000 in
set_option maxRecDepth 100000 in
theorem stR.s48 {x : S25} {A : Option Addr} {c : Nat} {w : World} {n : Nat} (hk : x.f0 = 48) (hK : Kn n x) (hG : PremW w) (hn : ND w x A c) : Calls Tryz.prog 52 #[val x A c] w (AllP (q48 x) w):=by
 have E:=Env.start hG hn;clear hn hG;have b47 : (x.f0 == 47) = false:=by rw [hk];rfl
 have b48 : (x.f0 == 48) = true:=by rw [hk];rfl
 have b49 : (x.f0 == 49) = false:=by rw [hk];rfl
 have b50 : (x.f0 == 50) = false:=by rw [hk];rfl
 have b51 : (x.f0 == 51) = false:=by rw [hk];rfl
 have b52 : (x.f0 == 52) = false:=by rw [hk];rfl
 have b53 : (x.f0 == 53) = false:=by rw [hk];rfl
 have b54 : (x.f0 == 54) = false:=by rw [hk];rfl
 have b55 : (x.f0 == 55) = false:=by rw [hk];rfl
 have b56 : (x.f0 == 56) = false:=by rw [hk];rfl
 have HK:=Aside0.mk hk;clear hk;have HK:=Aside0.mk hK;clear hK;cases h0 : (partsB x false false false);rotate_left 1;cases h1 : (exs 1 x exB);rotate_right 1
 all_goals
  try (have HC0:=Aside0.mk h0;clear h0)
  try (have HC1:=Aside0.mk h1;clear h1)
  go_enter Tryz.func52,Tryz.ntmps52
  go_wp2_with (first
   | (go_at_call 21;(try clear c0 c1 c2 c3 c4 c5);(with_reducible refine Env.call E E.out HC0.out (partsR.all false false false E.out.prem E.out.nd) (fun w1 E c0 c1 c2 c3 c4 c5 => ?_)))
   | (go_at_call 51;(try clear c0 c1 c2 c3 c4 c5);(with_reducible refine Env.call E E.out HC1.out (exprsR.all 1 HK.out.kE E.out.prem E.out.nd) (fun w1 E c0 c1 c2 c3 c4 c5 => ?_)))
   | fail)
  go_ret
  exact ⟨by unfold q48;(try rw [HC0.out]);(try rw [HC1.out]);first|done|rfl,fin_⟩
noncomputable def q49 (x : S25) : Bool:=((partsB x false false false) && (((x.f4.length : Int) == 2) || (((x.f4.length : Int) == 3) && (stB (nd x.f4 2)) && (!(openR (nd x.f4 1))))) && (exB (nd x.f4 0)) && (stB (nd x.f4 1)))
set_option maxHeartbeats 8000000 in
set_option maxRecDepth 100000 in
theorem stR.s49 {x : S25} {A : Option Addr} {c : Nat} {w : World} {n : Nat} (hk : x.f0 = 49) (hK : Kn n x) (hG : PremW w) (hn : ND w x A c) : Calls Tryz.prog 52 #[val x A c] w (AllP (q49 x) w):=by
 have E:=Env.start hG hn;clear hn hG;have b47 : (x.f0 == 47) = false:=by rw [hk];rfl
 have b48 : (x.f0 == 48) = false:=by rw [hk];rfl
 have b49 : (x.f0 == 49) = true:=by rw [hk];rfl
 have b50 : (x.f0 == 50) = false:=by rw [hk];rfl
 have b51 : (x.f0 == 51) = false:=by rw [hk];rfl
 have b52 : (x.f0 == 52) = false:=by rw [hk];rfl
 have b53 : (x.f0 == 53) = false:=by rw [hk];rfl
 have b54 : (x.f0 == 54) = false:=by rw [hk];rfl
 have b55 : (x.f0 == 55) = false:=by rw [hk];rfl
 have b56 : (x.f0 == 56) = false:=by rw [hk];rfl
 have HK:=Aside0.mk hk;clear hk;have HK:=Aside0.mk hK;clear hK;cases h0 : (partsB x false false false);rotate_left 1;cases h1 : ((x.f4.length : Int) == 2);rotate_right 1
 rotate_left 1;cases h4 : ((x.f4.length : Int) == 3);rotate_right 1
 rotate_left 2;cases h5 : (stB (nd x.f4 2));rotate_right 2
 rotate_left 3;cases h6 : (openR (nd x.f4 1));rotate_right 3
 rotate_left 3;cases h2 : (exB (nd x.f4 0));rotate_right 3
 rotate_left 4;cases h3 : (stB (nd x.f4 1));rotate_right 4
 rotate_left 7;cases h2 : (exB (nd x.f4 0));rotate_right 7
 rotate_left 8;cases h3 : (stB (nd x.f4 1));rotate_right 8
 all_goals
  try (have HC0:=Aside0.mk h0;clear h0)
  try (have HC2:=Aside0.mk h2;clear h2)
  try (have HC3:=Aside0.mk h3;clear h3)
  try (have HC5:=Aside0.mk h5;clear h5)
  try (have HC6:=Aside0.mk h6;clear h6)
  try have HL:=Aside0.mk (len_of (k:=3) h4)
  try have HL:=Aside0.mk (len_of (k:=2) h1)
  go_enter Tryz.func52,Tryz.ntmps52
  go_wp2_with (first
   | (go_at_call 21;(try clear c0 c1 c2 c3 c4 c5);(with_reducible refine Env.call E E.out HC0.out (partsR.all false false false E.out.prem E.out.nd) (fun w1 E c0 c1 c2 c3 c4 c5 => ?_));(try (have HLx:=HL.out;clear HLx;obtain ⟨ad,rfl⟩:=kid_some E.out.kids (by have:=HL.out;omega)));(try (have HLx:=HL.out;clear HLx;have q0 : 0 < x.f4.length:=(by have:=HL.out;omega);obtain ⟨A0,d0,hn0,k00,k01,k02,k03,k04,k05⟩:=kid0 E.out.kids (by have:=HL.out;omega);have HN0:=Aside0.mk hn0;clear hn0));(try (have HLx:=HL.out;clear HLx;have q1 : (1 : Int) < (x.f4.length : Int):=(by have:=HL.out;omega);obtain ⟨A1,d1,hn1,k10,k11,k12,k13,k14,k15⟩:=kid1 E.out.kids (by have:=HL.out;omega);have HN1:=Aside0.mk hn1;clear hn1));(try (have HLx:=HL.out;clear HLx;have q2 : (2 : Int) < (x.f4.length : Int):=(by have:=HL.out;omega);obtain ⟨A2,d2,hn2,k20,k21,k22,k23,k24,k25⟩:=kid2 E.out.kids (by have:=HL.out;omega);have HN2:=Aside0.mk hn2;clear hn2)))
   | (go_at_call 50;(try clear c0 c1 c2 c3 c4 c5);(with_reducible refine Env.call E E.out HC2.out (exprR.all (HK.out.exp (by have:=HL.out;omega)) E.out.prem HN0.out) (fun w1 E c0 c1 c2 c3 c4 c5 => ?_));(try (have HLx:=HL.out;clear HLx;obtain ⟨ad,rfl⟩:=kid_some E.out.kids (by have:=HL.out;omega)));(try (have HLx:=HL.out;clear HLx;have q0 : 0 < x.f4.length:=(by have:=HL.out;omega);obtain ⟨A0,d0,hn0,k00,k01,k02,k03,k04,k05⟩:=kid0 E.out.kids (by have:=HL.out;omega);have HN0:=Aside0.mk hn0;clear hn0));(try (have HLx:=HL.out;clear HLx;have q1 : (1 : Int) < (x.f4.length : Int):=(by have:=HL.out;omega);obtain ⟨A1,d1,hn1,k10,k11,k12,k13,k14,k15⟩:=kid1 E.out.kids (by have:=HL.out;omega);have HN1:=Aside0.mk hn1;clear hn1));(try (have HLx:=HL.out;clear HLx;have q2 : (2 : Int) < (x.f4.length : Int):=(by have:=HL.out;omega);obtain ⟨A2,d2,hn2,k20,k21,k22,k23,k24,k25⟩:=kid2 E.out.kids (by have:=HL.out;omega);have HN2:=Aside0.mk hn2;clear hn2)))
   | (go_at_call 52;(try clear c0 c1 c2 c3 c4 c5);(with_reducible refine Env.call E E.out HC3.out (KnowS.go (HK.out.st (by have:=HL.out;omega)) E.out.prem HN1.out) (fun w1 E c0 c1 c2 c3 c4 c5 => ?_)))
   | (go_at_call 52;(try clear c0 c1 c2 c3 c4 c5);(with_reducible refine Env.call E E.out HC5.out (KnowS.go (HK.out.st (by have:=HL.out;omega)) E.out.prem HN2.out) (fun w1 E c0 c1 c2 c3 c4 c5 => ?_));(try (have HLx:=HL.out;clear HLx;obtain ⟨ad,rfl⟩:=kid_some E.out.kids (by have:=HL.out;omega)));(try (have HLx:=HL.out;clear HLx;have q0 : 0 < x.f4.length:=(by have:=HL.out;omega);obtain ⟨A0,d0,hn0,k00,k01,k02,k03,k04,k05⟩:=kid0 E.out.kids (by have:=HL.out;omega);have HN0:=Aside0.mk hn0;clear hn0));(try (have HLx:=HL.out;clear HLx;have q1 : (1 : Int) < (x.f4.length : Int):=(by have:=HL.out;omega);obtain ⟨A1,d1,hn1,k10,k11,k12,k13,k14,k15⟩:=kid1 E.out.kids (by have:=HL.out;omega);have HN1:=Aside0.mk hn1;clear hn1));(try (have HLx:=HL.out;clear HLx;have q2 : (2 : Int) < (x.f4.length : Int):=(by have:=HL.out;omega);obtain ⟨A2,d2,hn2,k20,k21,k22,k23,k24,k25⟩:=kid2 E.out.kids (by have:=HL.out;omega);have HN2:=Aside0.mk hn2;clear hn2)))
   | (go_at_call 84;(try clear c0 c1 c2 c3 c4 c5);(with_reducible refine Env.call E E.out HC6.out (openR.all HN1.out) (fun w1 E c0 c1 c2 c3 c4 c5 => ?_));(try (have HLx:=HL.out;clear HLx;obtain ⟨ad,rfl⟩:=kid_some E.out.kids (by have:=HL.out;omega)));(try (have HLx:=HL.out;clear HLx;have q0 : 0 < x.f4.length:=(by have:=HL.out;omega);obtain ⟨A0,d0,hn0,k00,k01,k02,k03,k04,k05⟩:=kid0 E.out.kids (by have:=HL.out;omega);have HN0:=Aside0.mk hn0;clear hn0));(try (have HLx:=HL.out;clear HLx;have q1 : (1 : Int) < (x.f4.length : Int):=(by have:=HL.out;omega);obtain ⟨A1,d1,hn1,k10,k11,k12,k13,k14,k15⟩:=kid1 E.out.kids (by have:=HL.out;omega);have HN1:=Aside0.mk hn1;clear hn1));(try (have HLx:=HL.out;clear HLx;have q2 : (2 : Int) < (x.f4.length : Int):=(by have:=HL.out;omega);obtain ⟨A2,d2,hn2,k20,k21,k22,k23,k24,k25⟩:=kid2 E.out.kids (by have:=HL.out;omega);have HN2:=Aside0.mk hn2;clear hn2)))
   | fail)
  go_ret
  exact ⟨by unfold q49;(try rw [HC0.out]);(try rw [h1]);(try rw [HC2.out]);(try rw [HC3.out]);(try rw [h4]);(try rw [HC5.out]);(try rw [HC6.out]);first|done|rfl,fin_⟩
noncomputable def q50 (x : S25) : Bool:=((partsB x false false false) && ((x.f4.length : Int) == 2) && (exB (nd x.f4 0)) && (stB (nd x.f4 1)))
set_option maxHeartbeats 8000000 in
set_option maxRecDepth 100000 in
theorem stR.s50 {x : S25} {A : Option Addr} {c : Nat} {w : World} {n : Nat} (hk : x.f0 = 50) (hK : Kn n x) (hG : PremW w) (hn : ND w x A c) : Calls Tryz.prog 52 #[val x A c] w (AllP (q50 x) w):=by
 have E:=Env.start hG hn;clear hn hG;have b47 : (x.f0 == 47) = false:=by rw [hk];rfl
 have b48 : (x.f0 == 48) = false:=by rw [hk];rfl
 have b49 : (x.f0 == 49) = false:=by rw [hk];rfl
 have b50 : (x.f0 == 50) = true:=by rw [hk];rfl
 have b51 : (x.f0 == 51) = false:=by rw [hk];rfl
 have b52 : (x.f0 == 52) = false:=by rw [hk];rfl
 have b53 : (x.f0 == 53) = false:=by rw [hk];rfl
 have b54 : (x.f0 == 54) = false:=by rw [hk];rfl
 have b55 : (x.f0 == 55) = false:=by rw [hk];rfl
 have b56 : (x.f0 == 56) = false:=by rw [hk];rfl
 have HK:=Aside0.mk hk;clear hk;have HK:=Aside0.mk hK;clear hK;cases h0 : (partsB x false false false);rotate_left 1;cases h1 : ((x.f4.length : Int) == 2);rotate_right 1
 rotate_left 2;cases h2 : (exB (nd x.f4 0));rotate_right 2
 rotate_left 3;cases h3 : (stB (nd x.f4 1));rotate_right 3
 all_goals
  try (have HC0:=Aside0.mk h0;clear h0)
  try (have HC2:=Aside0.mk h2;clear h2)
  try (have HC3:=Aside0.mk h3;clear h3)
  try have HL:=Aside0.mk (len_of (k:=2) h1)
  go_enter Tryz.func52,Tryz.ntmps52
  go_wp2_with (first
   | (go_at_call 21;(try clear c0 c1 c2 c3 c4 c5);(with_reducible refine Env.call E E.out HC0.out (partsR.all false false false E.out.prem E.out.nd) (fun w1 E c0 c1 c2 c3 c4 c5 => ?_));(try (have HLx:=HL.out;clear HLx;obtain ⟨ad,rfl⟩:=kid_some E.out.kids (by have:=HL.out;omega)));(try (have HLx:=HL.out;clear HLx;have q0 : 0 < x.f4.length:=(by have:=HL.out;omega);obtain ⟨A0,d0,hn0,k00,k01,k02,k03,k04,k05⟩:=kid0 E.out.kids (by have:=HL.out;omega);have HN0:=Aside0.mk hn0;clear hn0));(try (have HLx:=HL.out;clear HLx;have q1 : (1 : Int) < (x.f4.length : Int):=(by have:=HL.out;omega);obtain ⟨A1,d1,hn1,k10,k11,k12,k13,k14,k15⟩:=kid1 E.out.kids (by have:=HL.out;omega);have HN1:=Aside0.mk hn1;clear hn1));(try (have HLx:=HL.out;clear HLx;have q2 : (2 : Int) < (x.f4.length : Int):=(by have:=HL.out;omega);obtain ⟨A2,d2,hn2,k20,k21,k22,k23,k24,k25⟩:=kid2 E.out.kids (by have:=HL.out;omega);have HN2:=Aside0.mk hn2;clear hn2)))
   | (go_at_call 50;(try clear c0 c1 c2 c3 c4 c5);(with_reducible refine Env.call E E.out HC2.out (exprR.all (HK.out.exp (by have:=HL.out;omega)) E.out.prem HN0.out) (fun w1 E c0 c1 c2 c3 c4 c5 => ?_));(try (have HLx:=HL.out;clear HLx;obtain ⟨ad,rfl⟩:=kid_some E.out.kids (by have:=HL.out;omega)));(try (have HLx:=HL.out;clear HLx;have q0 : 0 < x.f4.length:=(by have:=HL.out;omega);obtain ⟨A0,d0,hn0,k00,k01,k02,k03,k04,k05⟩:=kid0 E.out.kids (by have:=HL.out;omega);have HN0:=Aside0.mk hn0;clear hn0));(try (have HLx:=HL.out;clear HLx;have q1 : (1 : Int) < (x.f4.length : Int):=(by have:=HL.out;omega);obtain ⟨A1,d1,hn1,k10,k11,k12,k13,k14,k15⟩:=kid1 E.out.kids (by have:=HL.out;omega);have HN1:=Aside0.mk hn1;clear hn1));(try (have HLx:=HL.out;clear HLx;have q2 : (2 : Int) < (x.f4.length : Int):=(by have:=HL.out;omega);obtain ⟨A2,d2,hn2,k20,k21,k22,k23,k24,k25⟩:=kid2 E.out.kids (by have:=HL.out;omega);have HN2:=Aside0.mk hn2;clear hn2)))
   | (go_at_call 52;(try clear c0 c1 c2 c3 c4 c5);(with_reducible refine Env.call E E.out HC3.out (KnowS.go (HK.out.st (by have:=HL.out;omega)) E.out.prem HN1.out) (fun w1 E c0 c1 c2 c3 c4 c5 => ?_)))
   | fail)
  go_ret
  exact ⟨by unfold q50;(try rw [HC0.out]);(try rw [h1]);(try rw [HC2.out]);(try rw [HC3.out]);first|done|rfl,fin_⟩
noncomputable def q51 (x : S25) : Bool:=((partsB x false false false) && ((x.f4.length : Int) == 2) && (stB (nd x.f4 0)) && (exB (nd x.f4 1)))
set_option maxHeartbeats 8000000 in
set_option maxRecDepth 100000 in
theorem stR.s51 {x : S25} {A : Option Addr} {c : Nat} {w : World} {n : Nat} (hk : x.f0 = 51) (hK : Kn n x) (hG : PremW w) (hn : ND w x A c) : Calls Tryz.prog 52 #[val x A c] w (AllP (q51 x) w):=by
 have E:=Env.start hG hn;clear hn hG;have b47 : (x.f0 == 47) = false:=by rw [hk];rfl
 have b48 : (x.f0 == 48) = false:=by rw [hk];rfl
 have b49 : (x.f0 == 49) = false:=by rw [hk];rfl
 have b50 : (x.f0 == 50) = false:=by rw [hk];rfl
 have b51 : (x.f0 == 51) = true:=by rw [hk];rfl
 have b52 : (x.f0 == 52) = false:=by rw [hk];rfl
 have b53 : (x.f0 == 53) = false:=by rw [hk];rfl
 have b54 : (x.f0 == 54) = false:=by rw [hk];rfl
 have b55 : (x.f0 == 55) = false:=by rw [hk];rfl
 have b56 : (x.f0 == 56) = false:=by rw [hk];rfl
 have HK:=Aside0.mk hk;clear hk;have HK:=Aside0.mk hK;clear hK;cases h0 : (partsB x false false false);rotate_left 1;cases h1 : ((x.f4.length : Int) == 2);rotate_right 1
 rotate_left 2;cases h2 : (stB (nd x.f4 0));rotate_right 2
 rotate_left 3;cases h3 : (exB (nd x.f4 1));rotate_right 3
 all_goals
  try (have HC0:=Aside0.mk h0;clear h0)
  try (have HC2:=Aside0.mk h2;clear h2)
  try (have HC3:=Aside0.mk h3;clear h3)
  try have HL:=Aside0.mk (len_of (k:=2) h1)
  go_enter Tryz.func52,Tryz.ntmps52
  go_wp2_with (first
   | (go_at_call 21;(try clear c0 c1 c2 c3 c4 c5);(with_reducible refine Env.call E E.out HC0.out (partsR.all false false false E.out.prem E.out.nd) (fun w1 E c0 c1 c2 c3 c4 c5 => ?_));(try (have HLx:=HL.out;clear HLx;obtain ⟨ad,rfl⟩:=kid_some E.out.kids (by have:=HL.out;omega)));(try (have HLx:=HL.out;clear HLx;have q0 : 0 < x.f4.length:=(by have:=HL.out;omega);obtain ⟨A0,d0,hn0,k00,k01,k02,k03,k04,k05⟩:=kid0 E.out.kids (by have:=HL.out;omega);have HN0:=Aside0.mk hn0;clear hn0));(try (have HLx:=HL.out;clear HLx;have q1 : (1 : Int) < (x.f4.length : Int):=(by have:=HL.out;omega);obtain ⟨A1,d1,hn1,k10,k11,k12,k13,k14,k15⟩:=kid1 E.out.kids (by have:=HL.out;omega);have HN1:=Aside0.mk hn1;clear hn1));(try (have HLx:=HL.out;clear HLx;have q2 : (2 : Int) < (x.f4.length : Int):=(by have:=HL.out;omega);obtain ⟨A2,d2,hn2,k20,k21,k22,k23,k24,k25⟩:=kid2 E.out.kids (by have:=HL.out;omega);have HN2:=Aside0.mk hn2;clear hn2)))
   | (go_at_call 52;(try clear c0 c1 c2 c3 c4 c5);(with_reducible refine Env.call E E.out HC2.out (KnowS.go (HK.out.st (by have:=HL.out;omega)) E.out.prem HN0.out) (fun w1 E c0 c1 c2 c3 c4 c5 => ?_));(try (have HLx:=HL.out;clear HLx;obtain ⟨ad,rfl⟩:=kid_some E.out.kids (by have:=HL.out;omega)));(try (have HLx:=HL.out;clear HLx;have q0 : 0 < x.f4.length:=(by have:=HL.out;omega);obtain ⟨A0,d0,hn0,k00,k01,k02,k03,k04,k05⟩:=kid0 E.out.kids (by have:=HL.out;omega);have HN0:=Aside0.mk hn0;clear hn0));(try (have HLx:=HL.out;clear HLx;have q1 : (1 : Int) < (x.f4.length : Int):=(by have:=HL.out;omega);obtain ⟨A1,d1,hn1,k10,k11,k12,k13,k14,k15⟩:=kid1 E.out.kids (by have:=HL.out;omega);have HN1:=Aside0.mk hn1;clear hn1));(try (have HLx:=HL.out;clear HLx;have q2 : (2 : Int) < (x.f4.length : Int):=(by have:=HL.out;omega);obtain ⟨A2,d2,hn2,k20,k21,k22,k23,k24,k25⟩:=kid2 E.out.kids (by have:=HL.out;omega);have HN2:=Aside0.mk hn2;clear hn2)))
   | (go_at_call 50;(try clear c0 c1 c2 c3 c4 c5);(with_reducible refine Env.call E E.out HC3.out (exprR.all (HK.out.exp (by have:=HL.out;omega)) E.out.prem HN1.out) (fun w1 E c0 c1 c2 c3 c4 c5 => ?_)))
   | fail)
  go_ret
  exact ⟨by unfold q51;(try rw [HC0.out]);(try rw [h1]);(try rw [HC2.out]);(try rw [HC3.out]);first|done|rfl,fin_⟩
noncomputable def q53 (x : S25) : Bool:=((partsB x false false false) && ((x.f4.length : Int) == 0))
set_option maxHeartbeats 8000000 in
set_option maxRecDepth 100000 in
theorem stR.s53 {x : S25} {A : Option Addr} {c : Nat} {w : World} {n : Nat} (hk : x.f0 = 53) (hK : Kn n x) (hG : PremW w) (hn : ND w x A c) : Calls Tryz.prog 52 #[val x A c] w (AllP (q53 x) w):=by
 have E:=Env.start hG hn;clear hn hG;have b47 : (x.f0 == 47) = false:=by rw [hk];rfl
 have b48 : (x.f0 == 48) = false:=by rw [hk];rfl
 have b49 : (x.f0 == 49) = false:=by rw [hk];rfl
 have b50 : (x.f0 == 50) = false:=by rw [hk];rfl
 have b51 : (x.f0 == 51) = false:=by rw [hk];rfl
 have b52 : (x.f0 == 52) = false:=by rw [hk];rfl
 have b53 : (x.f0 == 53) = true:=by rw [hk];rfl
 have b54 : (x.f0 == 54) = false:=by rw [hk];rfl
 have b55 : (x.f0 == 55) = false:=by rw [hk];rfl
 have b56 : (x.f0 == 56) = false:=by rw [hk];rfl
 have HK:=Aside0.mk hk;clear hk;have HK:=Aside0.mk hK;clear hK;cases h0 : (partsB x false false false);rotate_left 1;cases h1 : ((x.f4.length : Int) == 0);rotate_right 1
 all_goals
  try (have HC0:=Aside0.mk h0;clear h0)
  go_enter Tryz.func52,Tryz.ntmps52
  go_wp2_with (first
   | (go_at_call 21;(try clear c0 c1 c2 c3 c4 c5);(with_reducible refine Env.call E E.out HC0.out (partsR.all false false false E.out.prem E.out.nd) (fun w1 E c0 c1 c2 c3 c4 c5 => ?_)))
   | fail)
  go_ret
  exact ⟨by unfold q53;(try rw [HC0.out]);(try rw [h1]);first|done|rfl,fin_⟩
set_option maxHeartbeats 8000000 in
set_option maxRecDepth 100000 in
theorem stR.s54 {x : S25} {A : Option Addr} {c : Nat} {w : World} {n : Nat} (hk : x.f0 = 54) (hK : Kn n x) (hG : PremW w) (hn : ND w x A c) : Calls Tryz.prog 52 #[val x A c] w (AllP (q53 x) w):=by
 have E:=Env.start hG hn;clear hn hG;have b47 : (x.f0 == 47) = false:=by rw [hk];rfl
 have b48 : (x.f0 == 48) = false:=by rw [hk];rfl
 have b49 : (x.f0 == 49) = false:=by rw [hk];rfl
 have b50 : (x.f0 == 50) = false:=by rw [hk];rfl
 have b51 : (x.f0 == 51) = false:=by rw [hk];rfl
 have b52 : (x.f0 == 52) = false:=by rw [hk];rfl
 have b53 : (x.f0 == 53) = false:=by rw [hk];rfl
 have b54 : (x.f0 == 54) = true:=by rw [hk];rfl
 have b55 : (x.f0 == 55) = false:=by rw [hk];rfl
 have b56 : (x.f0 == 56) = false:=by rw [hk];rfl
 have HK:=Aside0.mk hk;clear hk;have HK:=Aside0.mk hK;clear hK;cases h0 : (partsB x false false false);rotate_left 1;cases h1 : ((x.f4.length : Int) == 0);rotate_right 1
 all_goals
  try (have HC0:=Aside0.mk h0;clear h0)
  go_enter Tryz.func52,Tryz.ntmps52
  go_wp2_with (first
   | (go_at_call 21;(try clear c0 c1 c2 c3 c4 c5);(with_reducible refine Env.call E E.out HC0.out (partsR.all false false false E.out.prem E.out.nd) (fun w1 E c0 c1 c2 c3 c4 c5 => ?_)))
   | fail)
  go_ret
  exact ⟨by unfold q53;(try rw [HC0.out]);(try rw [h1]);first|done|rfl,fin_⟩
noncomputable def q55 (x : S25) : Bool:=((partsB x false false false) && (((x.f4.length : Int) == 0) || (exs 1 x exB)))
set_option maxHeartbeats 8000000 in
set_option maxRecDepth 100000 in
theorem stR.s55 {x : S25} {A : Option Addr} {c : Nat} {w : World} {n : Nat} (hk : x.f0 = 55) (hK : Kn n x) (hG : PremW w) (hn : ND w x A c) : Calls Tryz.prog 52 #[val x A c] w (AllP (q55 x) w):=by
 have E:=Env.start hG hn;clear hn hG;have b47 : (x.f0 == 47) = false:=by rw [hk];rfl
 have b48 : (x.f0 == 48) = false:=by rw [hk];rfl
 have b49 : (x.f0 == 49) = false:=by rw [hk];rfl
 have b50 : (x.f0 == 50) = false:=by rw [hk];rfl
 have b51 : (x.f0 == 51) = false:=by rw [hk];rfl
 have b52 : (x.f0 == 52) = false:=by rw [hk];rfl
 have b53 : (x.f0 == 53) = false:=by rw [hk];rfl
 have b54 : (x.f0 == 54) = false:=by rw [hk];rfl
 have b55 : (x.f0 == 55) = true:=by rw [hk];rfl
 have b56 : (x.f0 == 56) = false:=by rw [hk];rfl
 have HK:=Aside0.mk hk;clear hk;have HK:=Aside0.mk hK;clear hK;cases h0 : (partsB x false false false);rotate_left 1;cases h1 : ((x.f4.length : Int) == 0);rotate_right 1
 rotate_left 1;cases h2 : (exs 1 x exB);rotate_right 1
 all_goals
  try (have HC0:=Aside0.mk h0;clear h0)
  try (have HC2:=Aside0.mk h2;clear h2)
  go_enter Tryz.func52,Tryz.ntmps52
  go_wp2_with (first
   | (go_at_call 21;(try clear c0 c1 c2 c3 c4 c5);(with_reducible refine Env.call E E.out HC0.out (partsR.all false false false E.out.prem E.out.nd) (fun w1 E c0 c1 c2 c3 c4 c5 => ?_)))
   | (go_at_call 51;(try clear c0 c1 c2 c3 c4 c5);(with_reducible refine Env.call E E.out HC2.out (exprsR.all 1 HK.out.kE E.out.prem E.out.nd) (fun w1 E c0 c1 c2 c3 c4 c5 => ?_)))
   | fail)
  go_ret
  exact ⟨by unfold q55;(try rw [HC0.out]);(try rw [h1]);(try rw [HC2.out]);first|done|rfl,fin_⟩
set_option maxHeartbeats 8000000 in
set_option maxRecDepth 100000 in
theorem stR.s56 {x : S25} {A : Option Addr} {c : Nat} {w : World} {n : Nat} (hk : x.f0 = 56) (hK : Kn n x) (hG : PremW w) (hn : ND w x A c) : Calls Tryz.prog 52 #[val x A c] w (AllP (q53 x) w):=by
 have E:=Env.start hG hn;clear hn hG;have b47 : (x.f0 == 47) = false:=by rw [hk];rfl
 have b48 : (x.f0 == 48) = false:=by rw [hk];rfl
 have b49 : (x.f0 == 49) = false:=by rw [hk];rfl
 have b50 : (x.f0 == 50) = false:=by rw [hk];rfl
 have b51 : (x.f0 == 51) = false:=by rw [hk];rfl
 have b52 : (x.f0 == 52) = false:=by rw [hk];rfl
 have b53 : (x.f0 == 53) = false:=by rw [hk];rfl
 have b54 : (x.f0 == 54) = false:=by rw [hk];rfl
 have b55 : (x.f0 == 55) = false:=by rw [hk];rfl
 have b56 : (x.f0 == 56) = true:=by rw [hk];rfl
 have HK:=Aside0.mk hk;clear hk;have HK:=Aside0.mk hK;clear hK;cases h0 : (partsB x false false false);rotate_left 1;cases h1 : ((x.f4.length : Int) == 0);rotate_right 1
 all_goals
  try (have HC0:=Aside0.mk h0;clear h0)
  go_enter Tryz.func52,Tryz.ntmps52
  go_wp2_with (first
   | (go_at_call 21;(try clear c0 c1 c2 c3 c4 c5);(with_reducible refine Env.call E E.out HC0.out (partsR.all false false false E.out.prem E.out.nd) (fun w1 E c0 c1 c2 c3 c4 c5 => ?_)))
   | fail)
  go_ret
  exact ⟨by unfold q53;(try rw [HC0.out]);(try rw [h1]);first|done|rfl,fin_⟩
set_option maxHeartbeats 8000000 in
set_option maxRecDepth 100000 in
theorem stR.no {x : S25} {A : Option Addr} {c : Nat} {w : World} (b : Bool) (hb : partsB x false false false = b) (hk : ¬ (47 ≤ x.f0 ∧ x.f0 ≤ 56)) (hG : PremW w) (hn : ND w x A c) : Calls Tryz.prog 52 #[val x A c] w (AllP false w):=by
 have E:=Env.start hG hn;clear hn hG;have b47 : (x.f0 == 47) = false:=beq_eq_false_iff_ne.2 (by omega);have b48 : (x.f0 == 48) = false:=beq_eq_false_iff_ne.2 (by omega);have b49 : (x.f0 == 49) = false:=beq_eq_false_iff_ne.2 (by omega);have b50 : (x.f0 == 50) = false:=beq_eq_false_iff_ne.2 (by omega);have b51 : (x.f0 == 51) = false:=beq_eq_false_iff_ne.2 (by omega);have b52 : (x.f0 == 52) = false:=beq_eq_false_iff_ne.2 (by omega);have b53 : (x.f0 == 53) = false:=beq_eq_false_iff_ne.2 (by omega);have b54 : (x.f0 == 54) = false:=beq_eq_false_iff_ne.2 (by omega);have b55 : (x.f0 == 55) = false:=beq_eq_false_iff_ne.2 (by omega);have b56 : (x.f0 == 56) = false:=beq_eq_false_iff_ne.2 (by omega);have P0:=Aside0.mk hb;clear hk hb;cases b;all_goals
  go_enter Tryz.func52,Tryz.ntmps52
  go_wp2_with (first
   | (go_at_call 21;(try clear c0 c1 c2 c3 c4 c5);(with_reducible refine Env.call E E.out P0.out (partsR.all false false false E.out.prem E.out.nd) (fun w1 E c0 c1 c2 c3 c4 c5 => ?_));skip)
   | fail)
  go_ret
  exact ⟨rfl,fin_⟩
end Go.Proofs.YtboojhadfhpdeaaGreatDoor.Q
namespace Go.Proofs.YtboojhadfhpdeaaGreatDoor.Q
open Go.RowKit Go.Proofs.YtboojhadfhpdeaaGreatDoorW.PrintWords Go.Proofs.YtboojhadfhpdeaaGreatDoorW.PrintLast Go.Proofs.YtboojhadfhpdeaaGreatDoorW.PrintMore
set_option linter.unusedVariables false
set_option linter.unusedSimpArgs false
theorem nd_take {l : List S25} {m j : Nat} (h : j < m) : nd (l.take m) j = nd l j:=by
 unfold nd;rw [List.getD_eq_getElem?_getD,List.getD_eq_getElem?_getD,List.getElem?_take_of_lt h]
theorem allm_from {p : S25 → Bool} {l : List S25} {m i : Nat} (hm : m ≤ l.length) (h : ∀ j,i ≤ j → j < m → p (nd l j) = true) : ((l.take m).drop i).all p = true :=
 all_from fun j h1 h2 => by rw [List.length_take] at h2;rw [nd_take (by omega)];exact h j h1 (by omega)
theorem allm_fails {p : S25 → Bool} {l : List S25} {m i j : Nat} (hm : m ≤ l.length) (hij : i ≤ j) (hj : j < m) (h : p (nd l j) = false) : ((l.take m).drop i).all p = false :=
 all_fails hij (by rw [List.length_take];omega) (by rw [nd_take hj];exact h)
set_option maxHeartbeats 8000000 in
set_option maxRecDepth 100000 in
theorem stR.p52 {x : S25} {A : Option Addr} {c : Nat} {w : World} {n : Nat} (hk : x.f0 = 52) (hK : Kn n x) (hp0 : partsB x false false false = true) (hl : x.f4.length = 4) (hp1 : stB (nd x.f4 3) = true) (hG : PremW w) (hn : ND w x A c) : Calls Tryz.prog 52 #[val x A c] w (AllP (((x.f4.take (3)).drop 0).all (fun y => noT y || exB y)) w):=by
 have HMX:=Aside0.mk hn.C.2.1;have E:=Env.start hG hn;clear hn hG;have b47 : (x.f0 == 47) = false:=by rw [hk];rfl
 have b48 : (x.f0 == 48) = false:=by rw [hk];rfl
 have b49 : (x.f0 == 49) = false:=by rw [hk];rfl
 have b50 : (x.f0 == 50) = false:=by rw [hk];rfl
 have b51 : (x.f0 == 51) = false:=by rw [hk];rfl
 have b52 : (x.f0 == 52) = true:=by rw [hk];rfl
 have b53 : (x.f0 == 53) = false:=by rw [hk];rfl
 have b54 : (x.f0 == 54) = false:=by rw [hk];rfl
 have b55 : (x.f0 == 55) = false:=by rw [hk];rfl
 have b56 : (x.f0 == 56) = false:=by rw [hk];rfl
 have HK:=Aside0.mk hk;clear hk;have HK:=Aside0.mk hK;clear hK;have P0:=Aside0.mk hp0;have P1:=Aside0.mk hp1;have HL:=Aside0.mk hl;have HM : Aside0 (3 ≤ x.f4.length):=⟨by omega⟩
 have l1 : ((x.f4.length : Int) == 4) = true:=beq_iff_eq.2 (by omega);have l2 : ((x.f4.length : Int) != 4) = false:=bne_eq_false_iff_eq.2 (by omega);clear hp0 hp1 hl;go_enter Tryz.func52,Tryz.ntmps52
 go_wp2_with (first
  | (go_at_call 21;(try clear c0 c1 c2 c3 c4 c5);(with_reducible refine Env.call E E.out P0.out (partsR.all false false false E.out.prem E.out.nd) (fun w1 E c0 c1 c2 c3 c4 c5 => ?_));(try (have HLx:=HL.out;clear HLx;obtain ⟨ad,rfl⟩:=kid_some E.out.kids (by have:=HL.out;omega)));(try (have HLx:=HL.out;clear HLx;have q3 : (3 : Int) < (x.f4.length : Int):=(by have:=HL.out;omega);obtain ⟨A3,d3,hn3,k30,k31,k32,k33,k34,k35⟩:=kid3 E.out.kids (by have:=HL.out;omega);have HN3:=Aside0.mk hn3;clear hn3)))
  | (go_at_call 52;(try clear c0 c1 c2 c3 c4 c5);(with_reducible refine Env.call E E.out P1.out (KnowS.go (HK.out.st (by have:=HL.out;omega)) E.out.prem HN3.out) (fun w1 E c0 c1 c2 c3 c4 c5 => ?_));skip)
  | fail)
 try clear c0 c1 c2 c3 c4 c5
 go_loopg [4] (3) (fun kq v w' => ∃ i : Nat,v = .int .i64 i ∧ Aside0 (i + kq = (3) + 0) ∧ Aside0 (0 ≤ i) ∧ Aside0 (∀ j,0 ≤ j → j < i → j < (3) → (fun y => noT y || exB y) (nd x.f4 j) = true) ∧ Aside0 (Env w x (some ad) c w'))
 case atStart => exact ⟨0,rfl,⟨by omega⟩,⟨Nat.le_refl _⟩,⟨fun j h1 h2 => by omega⟩,by first|exact E|exact ⟨E.out.alloc _⟩⟩
 case round =>
  obtain ⟨i,rfl,HI,H0,HP,E⟩:=hrel;obtain ⟨c0,c1,c2,c3,c4,c5⟩:=E.out.cells;by_cases hi : i < (3)
  · have e1n : decide (i < (3)) = true:=decide_eq_true hi;have e1 : decide ((i : Int) < 3) = true:=decide_eq_true (by omega);have p1 : (0 : Int) ≤ (i : Int):=by omega
    have q1 : (i : Int) < (x.f4.length : Int):=by have:=HM.out;omega
    obtain ⟨A',c',hnd,k0,k1,k2,k3,k4,k5⟩:=node_atS E.out.kids (show i < x.f4.length by have:=HM.out;omega);have HND:=Aside0.mk hnd;have HIL : Aside0 (i < x.f4.length):=⟨by have:=HM.out;omega⟩
    have HIM:=Aside0.mk hi;have HMEM:=Aside0.mk (nd_mem HIL.out);clear hi hnd;have w3 : wrap64 ((i : Int) + 1) = (i : Int) + 1:=by have:=HMX.out;have:=HIL.out;unfold wrap64;omega
    have w4 : IntKind.i64.wrap ((i : Int) + 1) = (i : Int) + 1:=(i64_w _).trans w3;cases hp0 : noT (nd x.f4 i);rotate_left 0;cases hp1 : exB (nd x.f4 i);rotate_right 0
    all_goals
     try (have HC0:=Aside0.mk hp0;clear hp0)
     try (have HC1:=Aside0.mk hp1;clear hp1)
     go_wp2_with (first
      | (go_at_call 49;(try clear c0 c1 c2 c3 c4 c5);(with_reducible refine Env.call E E.out HC0.out (noneR.all E.out.prem HND.out) (fun w1 E c0 c1 c2 c3 c4 c5 => ?_));(try (clear k0 k1 k2 k3 k4 k5;obtain ⟨A2,c2_,hnd,k0,k1,k2,k3,k4,k5⟩:=node_atS E.out.kids HIL.out;have HND:=Aside0.mk hnd;clear hnd)))
      | (go_at_call 50;(try clear c0 c1 c2 c3 c4 c5);(with_reducible refine Env.call E E.out HC1.out (exprR.all (HK.out.exp HIL.out) E.out.prem HND.out) (fun w1 E c0 c1 c2 c3 c4 c5 => ?_));(try (clear k0 k1 k2 k3 k4 k5;obtain ⟨A2,c2_,hnd,k0,k1,k2,k3,k4,k5⟩:=node_atS E.out.kids HIL.out;have HND:=Aside0.mk hnd;clear hnd)))
      | fail)
     first
      | (go_ret;exact ⟨by rw [allm_fails (p:=(fun y => noT y || exB y)) HM.out H0.out HIM.out (by (try dsimp only);(try rw [HC0.out]);(try rw [HC1.out]);first|done|rfl)];rfl,fin_⟩)
      | (go_roundg ((3) + 0 - (i + 1))
         case measure => have:=HI.out;have:=HIM.out;omega
         case rel => exact ⟨i + 1,by (try simp only [w4,w3]);rfl,⟨by have:=HI.out;have:=HIM.out;omega⟩,⟨by have:=H0.out;omega⟩,⟨fun j h1 h2 h3 => by
          by_cases hj : j = i
          · subst hj;(try dsimp only);(try rw [HC0.out]);(try rw [HC1.out]);first|done|rfl
          · exact HP.out j h1 (by omega) h3⟩,E⟩)
  · have e1n : decide (i < (3)) = false:=decide_eq_false hi;have e1 : decide ((i : Int) < 3) = false:=decide_eq_false (by omega);have HH:=Aside0.mk (allm_from (p:=(fun y => noT y || exB y)) (l:=x.f4) (m:=3) (i:=0) HM.out (fun j h1 h2 => HP.out j h1 (by omega) h2));clear hi HP HI;go_wp2
    go_ret
    exact ⟨by rw [HH.out];rfl,fin_⟩
noncomputable def stR52 (x : S25) : Bool:=((partsB x false false false) && ((x.f4.length : Int) == 4) && (stB (nd x.f4 3)))
set_option maxHeartbeats 8000000 in
set_option maxRecDepth 100000 in
theorem stR.f52 {n : Nat} {x : S25} {A : Option Addr} {c : Nat} {w : World} (hk : x.f0 = 52) (hpre : stR52 x = false) (hK : Kn n x) (hG : PremW w) (hn : ND w x A c) : Calls Tryz.prog 52 #[val x A c] w (AllP (false) w):=by
 have E:=Env.start hG hn;clear hn hG;have b47 : (x.f0 == 47) = false:=by rw [hk];rfl
 have b48 : (x.f0 == 48) = false:=by rw [hk];rfl
 have b49 : (x.f0 == 49) = false:=by rw [hk];rfl
 have b50 : (x.f0 == 50) = false:=by rw [hk];rfl
 have b51 : (x.f0 == 51) = false:=by rw [hk];rfl
 have b52 : (x.f0 == 52) = true:=by rw [hk];rfl
 have b53 : (x.f0 == 53) = false:=by rw [hk];rfl
 have b54 : (x.f0 == 54) = false:=by rw [hk];rfl
 have b55 : (x.f0 == 55) = false:=by rw [hk];rfl
 have b56 : (x.f0 == 56) = false:=by rw [hk];rfl
 have HK:=Aside0.mk hk;clear hk;have HK:=Aside0.mk hK;clear hK;cases h0 : (partsB x false false false);rotate_left 1;cases h1 : ((x.f4.length : Int) == 4);rotate_right 1
 rotate_left 2;cases h2 : (stB (nd x.f4 3));rotate_right 2
 rotate_left 3;(exact absurd (hpre.symm.trans (show stR52 x = true from by unfold stR52;(try rw [h0]);(try rw [h1]);(try rw [h2]);first|done|rfl)) (by decide));rotate_right 3
 all_goals
  try (have HC0:=Aside0.mk h0;clear h0)
  try have h1m0 : ((x.f4.length : Int) != 4) = false:=by unfold bne;rw [h1];rfl
  try have h1m0 : ((x.f4.length : Int) != 4) = true:=by unfold bne;rw [h1];rfl
  try (have HC2:=Aside0.mk h2;clear h2)
  clear hpre;try have HL:=Aside0.mk (len_of (k:=4) h1)
  go_enter Tryz.func52,Tryz.ntmps52
  go_wp2_with (first
   | (go_at_call 21;(try clear c0 c1 c2 c3 c4 c5);(with_reducible refine Env.call E E.out HC0.out (partsR.all false false false E.out.prem E.out.nd) (fun w1 E c0 c1 c2 c3 c4 c5 => ?_));(try (have HLx:=HL.out;clear HLx;obtain ⟨ad,rfl⟩:=kid_some E.out.kids (by have:=HL.out;omega)));(try (have HLx:=HL.out;clear HLx;have q3 : (3 : Int) < (x.f4.length : Int):=(by have:=HL.out;omega);obtain ⟨A3,d3,hn3,k30,k31,k32,k33,k34,k35⟩:=kid3 E.out.kids (by have:=HL.out;omega);have HN3:=Aside0.mk hn3;clear hn3)))
   | (go_at_call 52;(try clear c0 c1 c2 c3 c4 c5);(with_reducible refine Env.call E E.out HC2.out (KnowS.go (HK.out.st (by have:=HL.out;omega)) E.out.prem HN3.out) (fun w1 E c0 c1 c2 c3 c4 c5 => ?_)))
   | fail)
  go_ret
  exact ⟨rfl,fin_⟩
end Go.Proofs.YtboojhadfhpdeaaGreatDoor.Q
namespace Go.Proofs.YtboojhadfhpdeaaGreatDoor.Q
open Go.RowKit Go.Proofs.YtboojhadfhpdeaaGreatDoorW.PrintWords Go.Proofs.YtboojhadfhpdeaaGreatDoorW.PrintLast Go.Proofs.YtboojhadfhpdeaaGreatDoorW.PrintMore
set_option linter.unusedVariables false
set_option linter.unusedSimpArgs false
theorem q47_eq {x : S25} (h : x.f0 = 47) : q47 x = stB x:=by
 have e : blT x = stB x:=by
  unfold blT stB;rw [decide_eq_true h,(isS_iff x).2 (by omega)]
 unfold q47;rw [← e,blT_eq h];cases partsB x false false false <;> rfl
theorem q48_eq {x : S25} (h : x.f0 = 48) : q48 x = stB x:=by
 rw [stB_eq (by omega),show stmtB x = s48 x from by unfold stmtB;simp [h]];unfold q48 s48 partsB;rw [exs1,show shapeB (gE.map (·.2)) x.f4 = shapeB [isE] x.f4 from rfl];cases (x.f1.toList == ([] : List UInt8)) <;> cases (x.f2 == 0) <;> cases x.f3 <;> cases shapeB [isE] x.f4 <;> cases x.f4.all mayT <;> rfl
theorem q49_eq {x : S25} (h : x.f0 = 49) : q49 x = stB x:=by
 rw [stB_eq (by omega),show stmtB x = s49 x from by unfold stmtB;simp [h]];unfold q49 s49 partsB;rw [show shapeB (gES.map (·.2)) x.f4 = shapeB [isE,isS] x.f4 from rfl,show shapeB (gESS.map (·.2)) x.f4 = shapeB [isE,isS,isS] x.f4 from rfl,shape2,shape3,show ((x.f4.length : Int) == 2) = decide (x.f4.length = 2) from len_dec _ 2,show ((x.f4.length : Int) == 3) = decide (x.f4.length = 3) from len_dec _ 3];by_cases h2 : x.f4.length = 2
 · rw [decide_eq_true h2,decide_eq_false (show ¬ x.f4.length = 3 by omega)];obtain ⟨a,b,ha⟩:=len2 h2;rw [ha];simp only [nd,List.getD_cons_zero,List.getD_cons_succ,List.all_cons,List.all_nil];unfold stB exB;cases (x.f1.toList == ([] : List UInt8)) <;> cases (x.f2 == 0) <;> cases x.f3 <;> cases isE a <;> cases isS b <;> cases mayT a <;> cases mayT b <;> rfl
 · rw [decide_eq_false h2];by_cases h3 : x.f4.length = 3
   · rw [decide_eq_true h3];obtain ⟨a,b,c,ha⟩:=len3 h3;rw [ha];simp only [nd,List.getD_cons_zero,List.getD_cons_succ,List.all_cons,List.all_nil];unfold stB exB;cases hb : mayT b with
     | true =>
      rw [show openA b = openR b from open_same _ b hb];cases (x.f1.toList == ([] : List UInt8)) <;> cases (x.f2 == 0) <;> cases x.f3 <;> cases isE a <;> cases isS b <;> cases isS c <;> cases mayT a <;> cases mayT c <;> cases openR b <;> rfl
     | false => cases (x.f1.toList == ([] : List UInt8)) <;> cases (x.f2 == 0) <;> cases x.f3 <;> cases isE a <;> cases isS b <;> cases isS c <;> cases mayT a <;> cases mayT c <;> cases openR b <;> cases openA b <;> rfl
   · rw [decide_eq_false h3];cases (x.f1.toList == ([] : List UInt8)) <;> cases (x.f2 == 0) <;> cases x.f3 <;> rfl
theorem q50_eq {x : S25} (h : x.f0 = 50) : q50 x = stB x:=by
 rw [stB_eq (by omega),show stmtB x = s50 x from by unfold stmtB;simp [h]];unfold q50 s50 partsB;have e:=st_all2 isE isS x.f4;rw [show shapeB (gES.map (·.2)) x.f4 = shapeB [isE,isS] x.f4 from rfl,show ((x.f4.length : Int) == 2) = decide (x.f4.length = 2) from len_dec _ 2,show exB (nd x.f4 0) = (isE (nd x.f4 0) && mayT (nd x.f4 0)) from rfl,show stB (nd x.f4 1) = (isS (nd x.f4 1) && mayT (nd x.f4 1)) from rfl];revert e;generalize decide (x.f4.length = 2) = a;generalize (isE (nd x.f4 0) && mayT (nd x.f4 0)) = b;generalize (isS (nd x.f4 1) && mayT (nd x.f4 1)) = c;generalize shapeB [isE,isS] x.f4 = d;generalize x.f4.all mayT = f;cases (x.f1.toList == ([] : List UInt8)) <;> cases (x.f2 == 0) <;> cases x.f3 <;> cases a <;> cases b <;> cases c <;> cases d <;> cases f <;> simp
theorem q51_eq {x : S25} (h : x.f0 = 51) : q51 x = stB x:=by
 rw [stB_eq (by omega),show stmtB x = s51 x from by unfold stmtB;simp [h]];unfold q51 s51 partsB;have e:=st_all2 isS isE x.f4;rw [show shapeB (gSE.map (·.2)) x.f4 = shapeB [isS,isE] x.f4 from rfl,show ((x.f4.length : Int) == 2) = decide (x.f4.length = 2) from len_dec _ 2,show exB (nd x.f4 1) = (isE (nd x.f4 1) && mayT (nd x.f4 1)) from rfl,show stB (nd x.f4 0) = (isS (nd x.f4 0) && mayT (nd x.f4 0)) from rfl];revert e;generalize decide (x.f4.length = 2) = a;generalize (isS (nd x.f4 0) && mayT (nd x.f4 0)) = b;generalize (isE (nd x.f4 1) && mayT (nd x.f4 1)) = c;generalize shapeB [isS,isE] x.f4 = d;generalize x.f4.all mayT = f;cases (x.f1.toList == ([] : List UInt8)) <;> cases (x.f2 == 0) <;> cases x.f3 <;> cases a <;> cases b <;> cases c <;> cases d <;> cases f <;> simp
theorem q52_eq {x : S25} (h : x.f0 = 52) : (stR52 x && ((x.f4.take 3).drop 0).all (fun y => noT y || exB y)) = stB x:=by
 rw [stB_eq (by omega),show stmtB x = s52 x from by unfold stmtB;simp [h]];unfold stR52 s52 partsB;rw [show shapeB (gNNNS.map (·.2)) x.f4 = shapeB [isN,isN,isN,isS] x.f4 from rfl,shape4,show ((x.f4.length : Int) == 4) = decide (x.f4.length = 4) from len_dec _ 4,List.drop_zero];by_cases h4 : x.f4.length = 4
 · rw [decide_eq_true h4];obtain ⟨a,b,c,d,ha⟩:=len4 h4;rw [ha];simp only [nd,List.getD_cons_zero,List.getD_cons_succ,List.all_cons,List.all_nil,List.take_succ_cons,List.take_zero,noE];unfold stB;cases (x.f1.toList == ([] : List UInt8)) <;> cases (x.f2 == 0) <;> cases x.f3 <;> cases isN a <;> cases isN b <;> cases isN c <;> cases isS d <;> cases mayT a <;> cases mayT b <;> cases mayT c <;> cases mayT d <;> rfl
 · rw [decide_eq_false h4];cases (x.f1.toList == ([] : List UInt8)) <;> cases (x.f2 == 0) <;> cases x.f3 <;> cases x.f4.all mayT <;> cases (x.f4.take 3).all (fun y => noT y || exB y) <;> rfl
theorem q53_eq {x : S25} (h : x.f0 = 53 ∨ x.f0 = 54 ∨ x.f0 = 56) : q53 x = stB x:=by
 rw [stB_eq (by omega),show stmtB x = s0 x from by unfold stmtB;rw [if_neg (by omega),if_neg (by omega),if_neg (by omega),if_neg (by omega),if_neg (by omega),if_neg (by omega),if_neg (by omega)]];unfold q53 s0 partsB;by_cases h0 : x.f4.length = 0
 · rw [List.eq_nil_of_length_eq_zero h0];cases (x.f1.toList == ([] : List UInt8)) <;> cases (x.f2 == 0) <;> cases x.f3 <;> rfl
 · rw [show ((x.f4.length : Int) == 0) = false from beq_eq_false_iff_ne.2 (by omega)];cases (x.f1.toList == ([] : List UInt8)) <;> cases (x.f2 == 0) <;> cases x.f3 <;> rfl
theorem q55_eq {x : S25} (h : x.f0 = 55) : q55 x = stB x:=by
 rw [stB_eq (by omega),show stmtB x = s55 x from by unfold stmtB;simp [h]];unfold q55 s55 partsB exs;rw [show x.f4.all exB = (x.f4.all isE && x.f4.all mayT) from by rw [all_and];rfl];by_cases h0 : x.f4.length = 0
 · rw [List.eq_nil_of_length_eq_zero h0];cases (x.f1.toList == ([] : List UInt8)) <;> cases (x.f2 == 0) <;> cases x.f3 <;> rfl
 · rw [show ((x.f4.length : Int) == 0) = false from beq_eq_false_iff_ne.2 (by omega)];by_cases h1 : x.f4.length = 1
   · rw [show ((x.f4.length : Int) == 1) = true from beq_iff_eq.2 (by omega),decide_eq_true (show (x.f4.length : Int) ≤ 1 by omega)];cases (x.f1.toList == ([] : List UInt8)) <;> cases (x.f2 == 0) <;> cases x.f3 <;> cases x.f4.all isE <;> cases x.f4.all mayT <;> rfl
   · rw [show ((x.f4.length : Int) == 1) = false from beq_eq_false_iff_ne.2 (by omega),decide_eq_false (show ¬ (x.f4.length : Int) ≤ 1 by omega)];cases (x.f1.toList == ([] : List UInt8)) <;> cases (x.f2 == 0) <;> cases x.f3 <;> rfl
theorem statementR.all {n : Nat} {x : S25} {A : Option Addr} {c : Nat} {w : World} (hK : Kn n x) (hG : PremW w) (hn : ND w x A c) : Calls Tryz.prog 52 #[val x A c] w (AllP (stB x) w):=by
 by_cases h47 : x.f0 = 47
 · rw [← q47_eq h47];exact stR.s47 h47 hK hG hn
 by_cases h48 : x.f0 = 48
 · rw [← q48_eq h48];exact stR.s48 h48 hK hG hn
 by_cases h49 : x.f0 = 49
 · rw [← q49_eq h49];exact stR.s49 h49 hK hG hn
 by_cases h50 : x.f0 = 50
 · rw [← q50_eq h50];exact stR.s50 h50 hK hG hn
 by_cases h51 : x.f0 = 51
 · rw [← q51_eq h51];exact stR.s51 h51 hK hG hn
 by_cases h55 : x.f0 = 55
 · rw [← q55_eq h55];exact stR.s55 h55 hK hG hn
 by_cases h53 : x.f0 = 53
 · rw [← q53_eq (Or.inl h53)];exact stR.s53 h53 hK hG hn
 by_cases h54 : x.f0 = 54
 · rw [← q53_eq (Or.inr (Or.inl h54))];exact stR.s54 h54 hK hG hn
 by_cases h56 : x.f0 = 56
 · rw [← q53_eq (Or.inr (Or.inr h56))];exact stR.s56 h56 hK hG hn
 by_cases h52 : x.f0 = 52
 · rw [← q52_eq h52];cases hp : stR52 x with
   | false => exact stR.f52 h52 hp hK hG hn
   | true =>
    unfold stR52 at hp;simp only [Bool.and_eq_true,beq_iff_eq] at hp;exact stR.p52 h52 hK hp.1.1 (by omega) hp.2 hG hn
 rw [show stB x = false from by unfold stB;rw [isS_no (by omega)];rfl];exact stR.no _ rfl (by omega) hG hn
end Go.Proofs.YtboojhadfhpdeaaGreatDoor.Q
namespace Go.Proofs.YtboojhadfhpdeaaGreatDoor.Q
open Go.RowKit Go.Proofs.YtboojhadfhpdeaaGreatDoorW.PrintWords Go.Proofs.YtboojhadfhpdeaaGreatDoorW.PrintLast Go.Proofs.YtboojhadfhpdeaaGreatDoorW.PrintMore
set_option linter.unusedVariables false
set_option linter.unusedSimpArgs false
abbrev put6 (W : World) (g : Nat) (y : S25) (A : Option Addr) (c : Nat) : World:=(((((W.setCell ⟨g,0,none⟩ (.int .i64 y.f0)).setCell ⟨g,1,none⟩ (.string y.f1)).setCell ⟨g,2,none⟩ (.int .u32 y.f2)).setCell ⟨g,3,none⟩ (.bool y.f3)).setCell ⟨g,4,none⟩ (.slice A y.f4.length c)).setCell ⟨g,5,none⟩ (.int .i64 y.f5)
def zero6 : Array Value:=#[.int .i64 0,.string (⟨#[]⟩ : ByteArray),.int .u32 0,.bool false,.slice none 0 0,.int .i64 0]
section
variable {w W : World} {x y : S25} {A A' : Option Addr} {c c' g : Nat}
theorem Env.lt (E : Env w x A c W) : w.heap.size < W.heap.size:=blk_lt E.n
theorem put_below {B : Nat} {w W : World} (h : Below B w W) (hg : B ≤ g) : Below B w (put6 W g y A' c'):=by
 have s (j : Nat) (v : Value) {W : World} (h : Below B w W) : Below B w (W.setCell ⟨g,j,none⟩ v):=h.setCell hg _;exact s _ _ (s _ _ (s _ _ (s _ _ (s _ _ (s _ _ h)))))
theorem Env.put (E : Env w x A c W) (hg : w.heap.size < g) : Env w x A c (put6 W g y A' c'):=by
 refine ⟨put_below E.b (by omega),?_,E.k,E.g⟩;have ne : w.heap.size ≠ g:=by omega
 unfold put6;exact blk_far (blk_far (blk_far (blk_far (blk_far (blk_far E.n ne _) ne _) ne _) ne _) ne _) ne _
theorem NB.put (h : W.heap[g]? = some (.cells zero6 25 (0,0))) : NB (put6 W g y A' c') g y A' c' := by
 unfold put6 NB;exact blk_put (cs:=#[.int .i64 y.f0,.string y.f1,.int .u32 y.f2,.bool y.f3,.slice A' y.f4.length c',.int .i64 0]) (blk_put (cs:=#[.int .i64 y.f0,.string y.f1,.int .u32 y.f2,.bool y.f3,.slice none 0 0,.int .i64 0]) (blk_put (cs:=#[.int .i64 y.f0,.string y.f1,.int .u32 y.f2,.bool false,.slice none 0 0,.int .i64 0]) (blk_put (cs:=#[.int .i64 y.f0,.string y.f1,.int .u32 0,.bool false,.slice none 0 0,.int .i64 0]) (blk_put (cs:=#[.int .i64 y.f0,.string (⟨#[]⟩ : ByteArray),.int .u32 0,.bool false,.slice none 0 0,.int .i64 0]) (blk_put (cs:=zero6) h 0 _ rfl) 1 _ rfl) 2 _ rfl) 3 _ rfl) 4 _ rfl) 5 _ rfl
end
section
variable {w w' W W0 : World} {x y : S25} {A A' : Option Addr} {c c' : Nat}
theorem Env.box (E : Env w x A c W0) (k : ND W0 y A' c') (hb : Below W0.heap.size W0 W) (hz : W.heap[W0.heap.size]? = some (.cells zero6 25 (0,0))) : Env W0 y A' c' (put6 W W0.heap.size y A' c') :=
 ⟨put_below hb (Nat.le_refl _),NB.put hz,k,E.prem⟩
theorem Env.call2 {v b : Bool} {f : FuncId} {args : Array Value} {Q : Ending → World → Prop} (E : Env w x A c W) (F : Env w' y A' c' W) (hb : b = v) (h : Calls Tryz.prog f args W (AllP b W))
 (K : ∀ w1,Aside0 (Env w x A c w1) → Aside0 (Env w' y A' c' w1) → Q (.returned (.bool v)) w1) : Calls Tryz.prog f args W Q:=by
 subst hb;refine h.mono ?_;rintro e w1 ⟨rfl,hB⟩;exact K w1 ⟨E.step hB⟩ ⟨F.step hB⟩
end
noncomputable def paR (y : S25) : Bool:=((y.f0 == 46) && (partsB y true true true) && (!(decide (y.f2 > 1))) && (!((y.f3) && (y.f2 == 1))) && (nmB y.f1) && ((y.f4.length : Int) == 1) && (tyT (nd y.f4 0)))
theorem paR_eq (y : S25) : paR y = paT y:=by
 by_cases h : y.f0 = 46
 · rw [paT_eq h];unfold paR;rw [show (y.f0 == 46) = true from beq_iff_eq.2 h,show partsB y true true true = true from rfl,show ((y.f4.length : Int) == 1) = decide (y.f4.length = 1) from len_dec _ 1];by_cases h1 : y.f2 > 1
   · rw [decide_eq_true h1,decide_eq_false (show ¬ y.f2 ≤ 1 by omega)];rfl
   · rw [decide_eq_false h1,decide_eq_true (show y.f2 ≤ 1 by omega)];cases y.f3 <;> cases (y.f2 == 1) <;> cases nmB y.f1 <;> cases decide (y.f4.length = 1) <;> rfl
 · unfold paR paT;rw [decide_eq_false h,show (y.f0 == 46) = false from beq_eq_false_iff_ne.2 h];rfl
set_option maxHeartbeats 8000000 in
set_option maxRecDepth 100000 in
theorem functionR.p {x : S25} {A : Option Addr} {c : Nat} {w : World} {n m : Nat} (hk : x.f0 = 45) (hK : Kn n x) (hm : x.f4.length = m + 1) (hm1 : 1 ≤ m) (hp0 : partsB x true false false = true) (hp1 : nmB x.f1 = true) (hp2 : tyT (nd x.f4 0) = true) (hp3 : blT (nd x.f4 m) = true) (hG : PremW w) (hn : ND w x A c) : Calls Tryz.prog 24 #[val x A c] w (AllP (((x.f4.take (m)).drop 1).all paR) w):=by
 have HMX:=Aside0.mk hn.C.2.1;have E:=Env.start hG hn;clear hn hG;have b1 : (x.f0 != 45) = false:=by rw [hk];rfl
 have b2 : (x.f0 == 45) = true:=by rw [hk];rfl
 clear hk;have HS:=Aside0.mk hK.s.str;have HKS:=Aside0.mk hK.kids;have HK:=Aside0.mk hK;clear hK;have P0:=Aside0.mk hp0;have P1:=Aside0.mk hp1;have P2:=Aside0.mk hp2;have P3:=Aside0.mk hp3;have HL : Aside0 (0 < x.f4.length):=⟨by omega⟩
 have HM1:=Aside0.mk hm;have HM : Aside0 (m ≤ x.f4.length):=⟨by omega⟩
 have wm : wrap64 ((x.f4.length : Int) - 1) = (m : Int):=by have:=HMX.out;unfold wrap64;omega
 have wm2 : IntKind.i64.wrap ((x.f4.length : Int) - 1) = (m : Int):=(i64_w _).trans wm;have m1 : decide ((m : Int) < 1) = false:=decide_eq_false (by omega);have pm : (0 : Int) ≤ (m : Int):=by omega
 have qm : (m : Int) < (x.f4.length : Int):=by omega
 clear hp0 hp1 hp2 hp3 hm hm1;go_enter Tryz.func24,Tryz.ntmps24
 go_wp2_with (first
  | (go_at_call 21;(try clear c0 c1 c2 c3 c4 c5);(with_reducible refine Env.call E E.out P0.out (partsR.all true false false E.out.prem E.out.nd) (fun w1 E c0 c1 c2 c3 c4 c5 => ?_));(try (have HLx:=HL.out;clear HLx;obtain ⟨ad,rfl⟩:=kid_some E.out.kids (by have:=HL.out;omega)));(try (have HLx:=HL.out;clear HLx;have q0 : 0 < x.f4.length:=(by have:=HL.out;omega);obtain ⟨A0,d0,hn0,k00,k01,k02,k03,k04,k05⟩:=kid0 E.out.kids (by have:=HL.out;omega);have HN0:=Aside0.mk hn0;clear hn0)))
  | (go_at_call 34;(try clear c0 c1 c2 c3 c4 c5);(with_reducible refine Env.call E E.out P1.out (nameR.all HS.out E.out.prem) (fun w1 E c0 c1 c2 c3 c4 c5 => ?_));(try (have HLx:=HL.out;clear HLx;have q0 : 0 < x.f4.length:=(by have:=HL.out;omega);obtain ⟨A0,d0,hn0,k00,k01,k02,k03,k04,k05⟩:=kid0 E.out.kids (by have:=HL.out;omega);have HN0:=Aside0.mk hn0;clear hn0)))
  | (go_at_call 35;(try clear c0 c1 c2 c3 c4 c5);(with_reducible refine Env.call E E.out P2.out (typedR.all (HKS.out _ (nd_mem (by have:=HL.out;omega))) E.out.prem HN0.out) (fun w1 E c0 c1 c2 c3 c4 c5 => ?_));(try (obtain ⟨A9,d9,hn9,k90,k91,k92,k93,k94,k95⟩:=node_atS E.out.kids (i:=m) (by have:=HM1.out;omega);have HN9:=Aside0.mk hn9;clear hn9)))
  | (go_at_call 37;(try clear c0 c1 c2 c3 c4 c5);(with_reducible refine Env.call E E.out P3.out (blockR.all (HK.out.kid (nd_mem (by have:=HM1.out;omega))) E.out.prem HN9.out) (fun w1 E c0 c1 c2 c3 c4 c5 => ?_));skip)
  | fail)
 try clear c0 c1 c2 c3 c4 c5
 go_loopg [4] (m) (fun kq v w' => ∃ i : Nat,v = .int .i64 i ∧ Aside0 (i + kq = (m) + 1) ∧ Aside0 (1 ≤ i) ∧ Aside0 (∀ j,1 ≤ j → j < i → j < (m) → paR (nd x.f4 j) = true) ∧ Aside0 (Env w x (some ad) c w'))
 case atStart => exact ⟨1,rfl,⟨by omega⟩,⟨Nat.le_refl _⟩,⟨fun j h1 h2 => by omega⟩,by first|exact E|exact ⟨E.out.alloc _⟩⟩
 case round =>
  obtain ⟨i,rfl,HI,H0,HP,E⟩:=hrel;obtain ⟨c0,c1,c2,c3,c4,c5⟩:=E.out.cells;by_cases hi : i < (m)
  · have e1n : decide (i < (m)) = true:=decide_eq_true hi;have e1 : decide ((i : Int) < (m : Int)) = true:=decide_eq_true (by omega);have p1 : (0 : Int) ≤ (i : Int):=by omega
    have q1 : (i : Int) < (x.f4.length : Int):=by have:=HM.out;omega
    obtain ⟨A',c',hnd,k0,k1,k2,k3,k4,k5⟩:=node_atS E.out.kids (show i < x.f4.length by have:=HM.out;omega);have HND:=Aside0.mk hnd;have HIL : Aside0 (i < x.f4.length):=⟨by have:=HM.out;omega⟩
    have HIM:=Aside0.mk hi;have HMEM:=Aside0.mk (nd_mem HIL.out);clear hi hnd;have w3 : wrap64 ((i : Int) + 1) = (i : Int) + 1:=by have:=HMX.out;have:=HIL.out;unfold wrap64;omega
    have w4 : IntKind.i64.wrap ((i : Int) + 1) = (i : Int) + 1:=(i64_w _).trans w3;cases h0 : ((nd x.f4 i).f0 == 46);rotate_left 1;cases h1 : (partsB (nd x.f4 i) true true true);rotate_right 1
    rotate_left 2;cases h2 : (decide ((nd x.f4 i).f2 > 1));rotate_right 2
    rotate_left 2;cases h3 : ((nd x.f4 i).f3);rotate_right 2
    rotate_left 2;cases h5 : (nmB (nd x.f4 i).f1);rotate_right 2
    rotate_left 3;cases h6 : (((nd x.f4 i).f4.length : Int) == 1);rotate_right 3
    rotate_left 4;cases h7 : (tyT (nd (nd x.f4 i).f4 0));rotate_right 4
    rotate_left 6;cases h4 : ((nd x.f4 i).f2 == 1);rotate_right 6
    rotate_left 6;cases h5 : (nmB (nd x.f4 i).f1);rotate_right 6
    rotate_left 7;cases h6 : (((nd x.f4 i).f4.length : Int) == 1);rotate_right 7
    rotate_left 8;cases h7 : (tyT (nd (nd x.f4 i).f4 0));rotate_right 8
    all_goals
     try have h0m0 : ((nd x.f4 i).f0 != 46) = false:=by unfold bne;rw [h0];rfl
     try have h0m0 : ((nd x.f4 i).f0 != 46) = true:=by unfold bne;rw [h0];rfl
     try (have HC1:=Aside0.mk h1;clear h1)
     try have h2m0 : decide (1 < (nd x.f4 i).f2) = true:=h2
     try have h2m0 : decide (1 < (nd x.f4 i).f2) = false:=h2
     try (have HC3:=Aside0.mk h3;clear h3)
     try (have HC5:=Aside0.mk h5;clear h5)
     try have h6m0 : (((nd x.f4 i).f4.length : Int) != 1) = false:=by unfold bne;rw [h6];rfl
     try have h6m0 : (((nd x.f4 i).f4.length : Int) != 1) = true:=by unfold bne;rw [h6];rfl
     try (have HC7:=Aside0.mk h7;clear h7)
     try have HLy:=Aside0.mk (len_of (k:=1) h6)
     go_wp2_with (first
     | ((with_reducible refine gate_dst (N:=5) rfl ?_);refine box_event ?hg (N:=5) ?hd (cs:=zero6) (t:=25) ?hr ?_;(case hd => rfl);(case hg => rfl);(case hr => first|(go_simp;done)|(go_simp;rfl));intro gb hg w1 hbox hb;subst hg;have EW:=E;have GE:=Aside0.mk EW.out.lt;have ne1:=Nat.ne_of_gt GE.out;have ne2:=Nat.ne_of_lt GE.out;replace E:=Aside0.mk (EW.out.step hb);(try clear c0 c1 c2 c3 c4 c5);obtain ⟨c0,c1,c2,c3,c4,c5⟩:=E.out.cells;(try clear k0 k1 k2 k3 k4 k5);have HB0:=Aside0.mk hb;have BK:=Aside0.mk hbox;clear hb hbox;have z0:=(blk_cell BK.out 0).trans (show zero6[0]? = some (.int .i64 0) from rfl);have f0:=blk_frozen BK.out 0;have z1:=(blk_cell BK.out 1).trans (show zero6[1]? = some (.string (⟨#[]⟩ : ByteArray)) from rfl);have f1:=blk_frozen BK.out 1;have z2:=(blk_cell BK.out 2).trans (show zero6[2]? = some (.int .u32 0) from rfl);have f2:=blk_frozen BK.out 2;have z3:=(blk_cell BK.out 3).trans (show zero6[3]? = some (.bool false) from rfl);have f3:=blk_frozen BK.out 3;have z4:=(blk_cell BK.out 4).trans (show zero6[4]? = some (.slice none 0 0) from rfl);have f4:=blk_frozen BK.out 4;have z5:=(blk_cell BK.out 5).trans (show zero6[5]? = some (.int .i64 0) from rfl);have f5:=blk_frozen BK.out 5)
       | (go_at_call 21;(try clear c0 c1 c2 c3 c4 c5);(try clear p0 p1 p2 p3 p4 p5);(try clear z0 z1 z2 z3 z4 z5 f0 f1 f2 f3 f4 f5);(with_reducible refine Env.call2 (E.out.put GE.out) (Env.box EW.out HND.out HB0.out BK.out) HC1.out (partsR.all true true true (E.out.put GE.out).prem (Env.box EW.out HND.out HB0.out BK.out).nd) (fun w1 E F => ?_));clear BK HB0 EW;obtain ⟨c0,c1,c2,c3,c4,c5⟩:=E.out.cells;obtain ⟨p0,p1,p2,p3,p4,p5⟩:=F.out.cells;(try have h3:=HC3.out))
       | (go_at_call 34;(try clear c0 c1 c2 c3 c4 c5);(try clear p0 p1 p2 p3 p4 p5);(try clear z0 z1 z2 z3 z4 z5 f0 f1 f2 f3 f4 f5);(with_reducible refine Env.call2 E.out F.out HC5.out (nameR.all (HKS.out _ HMEM.out) E.out.prem) (fun w1 E F => ?_));obtain ⟨c0,c1,c2,c3,c4,c5⟩:=E.out.cells;obtain ⟨p0,p1,p2,p3,p4,p5⟩:=F.out.cells;(try (have HLx:=HLy.out;obtain ⟨ad2,rfl⟩:=kid_some F.out.kids (by omega);clear HLx));(try (have HLx:=HLy.out;have q0 : (0 : Int) < ((nd x.f4 i).f4.length : Int):=(by omega);have q0n : 0 < (nd x.f4 i).f4.length:=(by omega);clear HLx;obtain ⟨A0,d0,hn0,k00,k01,k02,k03,k04,k05⟩:=kid0 F.out.kids (by have:=HLy.out;omega);have HN0:=Aside0.mk hn0;clear hn0)))
       | (go_at_call 35;(try clear c0 c1 c2 c3 c4 c5);(try clear p0 p1 p2 p3 p4 p5);(try clear z0 z1 z2 z3 z4 z5 f0 f1 f2 f3 f4 f5);(with_reducible refine Env.call2 E.out F.out HC7.out (typedR.all ((HK.out.kid HMEM.out).kids _ (nd_mem (by have:=HLy.out;omega))) E.out.prem HN0.out) (fun w1 E F => ?_));obtain ⟨c0,c1,c2,c3,c4,c5⟩:=E.out.cells;obtain ⟨p0,p1,p2,p3,p4,p5⟩:=F.out.cells)
       | fail)
     first
     | (go_ret;exact ⟨by rw [allm_fails (p:=paR) HM.out H0.out HIM.out (by (try dsimp only);unfold paR;(try rw [h0]);(try rw [HC1.out]);(try rw [h2]);(try rw [HC3.out]);(try rw [h4]);(try rw [HC5.out]);(try rw [h6]);(try rw [HC7.out]);first|done|rfl)];rfl,by first|with_reducible exact E.out.b|with_reducible exact (E.out.put GE.out).b⟩)
     | (go_roundg (m + 1 - (i + 1))
        case measure => have:=HI.out;have:=HIM.out;omega
        case rel => exact ⟨i + 1,by (try simp only [w4,w3]);rfl,⟨by have:=HI.out;have:=HIM.out;omega⟩,⟨by have:=H0.out;omega⟩,⟨fun j j1 j2 j3 => by
         by_cases hj : j = i
         · subst hj;(try dsimp only);unfold paR;(try rw [h0]);(try rw [HC1.out]);(try rw [h2]);(try rw [HC3.out]);(try rw [h4]);(try rw [HC5.out]);(try rw [h6]);(try rw [HC7.out]);first|done|rfl
         · exact HP.out j j1 (by omega) j3⟩,E⟩)
  · have e1n : decide (i < (m)) = false:=decide_eq_false hi;have e1 : decide ((i : Int) < (m : Int)) = false:=decide_eq_false (by omega);have HH:=Aside0.mk (allm_from (p:=paR) (l:=x.f4) (m:=m) (i:=1) HM.out (fun j h1 h2 => HP.out j h1 (by omega) h2));clear hi HP HI;go_wp2
    go_ret
    exact ⟨by rw [HH.out];rfl,fin_⟩
noncomputable def functionRP (x : S25) (m : Nat) : Bool:=((partsB x true false false) && (nmB x.f1) && (!(decide ((m : Int) < 1))) && (tyT (nd x.f4 0)) && (blT (nd x.f4 m)))
set_option maxHeartbeats 8000000 in
set_option maxRecDepth 100000 in
theorem functionR.f {n m : Nat} {x : S25} {A : Option Addr} {c : Nat} {w : World} (hk : x.f0 = 45) (hK : Kn n x) (hm : x.f4.length = m + 1) (hpre : functionRP x m = false) (hG : PremW w) (hn : ND w x A c) : Calls Tryz.prog 24 #[val x A c] w (AllP (false) w):=by
 have HMX:=Aside0.mk hn.C.2.1;have E:=Env.start hG hn;clear hn hG;have b1 : (x.f0 != 45) = false:=by rw [hk];rfl
 have b2 : (x.f0 == 45) = true:=by rw [hk];rfl
 clear hk;have HS:=Aside0.mk hK.s.str;have HKS:=Aside0.mk hK.kids;have HK:=Aside0.mk hK;clear hK;have HM1:=Aside0.mk hm;have HL : Aside0 (0 < x.f4.length):=⟨by omega⟩
 have wm : wrap64 ((x.f4.length : Int) - 1) = (m : Int):=by have:=HMX.out;unfold wrap64;omega
 have wm2 : IntKind.i64.wrap ((x.f4.length : Int) - 1) = (m : Int):=(i64_w _).trans wm;have pm : (0 : Int) ≤ (m : Int):=by omega
 have qm : (m : Int) < (x.f4.length : Int):=by omega
 clear hm;cases h0 : (partsB x true false false);rotate_left 1;cases h1 : (nmB x.f1);rotate_right 1
 rotate_left 2;cases h2 : (decide ((m : Int) < 1));rotate_right 2
 rotate_left 2;cases h3 : (tyT (nd x.f4 0));rotate_right 2
 rotate_left 3;cases h4 : (blT (nd x.f4 m));rotate_right 3
 rotate_left 4;(exact absurd (hpre.symm.trans (show functionRP x m = true from by unfold functionRP;(try rw [h0]);(try rw [h1]);(try rw [h2]);(try rw [h3]);(try rw [h4]);first|done|rfl)) (by decide));rotate_right 4
 all_goals
  try (have HC0:=Aside0.mk h0;clear h0)
  try (have HC1:=Aside0.mk h1;clear h1)
  try (have HC3:=Aside0.mk h3;clear h3)
  try (have HC4:=Aside0.mk h4;clear h4)
  clear hpre;go_enter Tryz.func24,Tryz.ntmps24
  go_wp2_with (first
   | (go_at_call 21;(try clear c0 c1 c2 c3 c4 c5);(with_reducible refine Env.call E E.out HC0.out (partsR.all true false false E.out.prem E.out.nd) (fun w1 E c0 c1 c2 c3 c4 c5 => ?_));(try (have HLx:=HL.out;clear HLx;obtain ⟨ad,rfl⟩:=kid_some E.out.kids (by have:=HL.out;omega)));(try (have HLx:=HL.out;clear HLx;have q0 : 0 < x.f4.length:=(by have:=HL.out;omega);obtain ⟨A0,d0,hn0,k00,k01,k02,k03,k04,k05⟩:=kid0 E.out.kids (by have:=HL.out;omega);have HN0:=Aside0.mk hn0;clear hn0)))
   | (go_at_call 34;(try clear c0 c1 c2 c3 c4 c5);(with_reducible refine Env.call E E.out HC1.out (nameR.all HS.out E.out.prem) (fun w1 E c0 c1 c2 c3 c4 c5 => ?_));(try (have HLx:=HL.out;clear HLx;have q0 : 0 < x.f4.length:=(by have:=HL.out;omega);obtain ⟨A0,d0,hn0,k00,k01,k02,k03,k04,k05⟩:=kid0 E.out.kids (by have:=HL.out;omega);have HN0:=Aside0.mk hn0;clear hn0)))
   | (go_at_call 35;(try clear c0 c1 c2 c3 c4 c5);(with_reducible refine Env.call E E.out HC3.out (typedR.all (HKS.out _ (nd_mem (by have:=HL.out;omega))) E.out.prem HN0.out) (fun w1 E c0 c1 c2 c3 c4 c5 => ?_));(try (obtain ⟨A9,d9,hn9,k90,k91,k92,k93,k94,k95⟩:=node_atS E.out.kids (i:=m) (by have:=HM1.out;have:=HL.out;omega);have HN9:=Aside0.mk hn9;clear hn9)))
   | (go_at_call 37;(try clear c0 c1 c2 c3 c4 c5);(with_reducible refine Env.call E E.out HC4.out (blockR.all (HK.out.kid (nd_mem (by have:=HM1.out;omega))) E.out.prem HN9.out) (fun w1 E c0 c1 c2 c3 c4 c5 => ?_)))
   | fail)
  go_ret
  exact ⟨rfl,fin_⟩
set_option maxHeartbeats 8000000 in
set_option maxRecDepth 100000 in
theorem functionR.e {n : Nat} {x : S25} {A : Option Addr} {c : Nat} {w : World} (p : Bool) (hp : partsB x true false false = p) (q : Bool) (hq : nmB x.f1 = q) (hk : x.f0 = 45) (hK : Kn n x) (hm : x.f4.length = 0) (hG : PremW w) (hn : ND w x A c) : Calls Tryz.prog 24 #[val x A c] w (AllP (false) w):=by
 have E:=Env.start hG hn;clear hn hG;have b1 : (x.f0 != 45) = false:=by rw [hk];rfl
 have b2 : (x.f0 == 45) = true:=by rw [hk];rfl
 clear hk;have HS:=Aside0.mk hK.s.str;have HKS:=Aside0.mk hK.kids;have HK:=Aside0.mk hK;clear hK;have P0:=Aside0.mk hp;have P1:=Aside0.mk hq;have wm : wrap64 ((x.f4.length : Int) - 1) = -1:=by unfold wrap64;omega
 have wm2 : IntKind.i64.wrap ((x.f4.length : Int) - 1) = -1:=(i64_w _).trans wm;clear hm hp hq;cases p <;> cases q
 all_goals
  go_enter Tryz.func24,Tryz.ntmps24
  go_wp2_with (first
   | (go_at_call 21;(try clear c0 c1 c2 c3 c4 c5);(with_reducible refine Env.call E E.out P0.out (partsR.all true false false E.out.prem E.out.nd) (fun w1 E c0 c1 c2 c3 c4 c5 => ?_));skip)
   | (go_at_call 34;(try clear c0 c1 c2 c3 c4 c5);(with_reducible refine Env.call E E.out P1.out (nameR.all HS.out E.out.prem) (fun w1 E c0 c1 c2 c3 c4 c5 => ?_));skip)
   | fail)
  go_ret
  exact ⟨rfl,fin_⟩
theorem functionR.no {x : S25} {A : Option Addr} {c : Nat} {w : World} (hk : x.f0 ≠ 45) (hG : PremW w) (hn : ND w x A c) : Calls Tryz.prog 24 #[val x A c] w (AllP (false) w):=by
 have E:=Env.start hG hn;clear hn hG;have b1 : (x.f0 != 45) = true:=bne_iff_ne.2 hk;have b2 : (x.f0 == 45) = false:=beq_eq_false_iff_ne.2 hk;clear hk;go_enter Tryz.func24,Tryz.ntmps24
 go_wp2
 go_ret
 exact ⟨rfl,fin_⟩
end Go.Proofs.YtboojhadfhpdeaaGreatDoor.Q
namespace Go.Proofs.YtboojhadfhpdeaaGreatDoor.Q
open Go.RowKit Go.Proofs.YtboojhadfhpdeaaGreatDoorW.PrintWords Go.Proofs.YtboojhadfhpdeaaGreatDoorW.PrintLast Go.Proofs.YtboojhadfhpdeaaGreatDoorW.PrintMore
set_option linter.unusedVariables false
set_option linter.unusedSimpArgs false
theorem functionR.all {n : Nat} {x : S25} {A : Option Addr} {c : Nat} {w : World} (hK : Kn n x) (hG : PremW w) (hn : ND w x A c) : Calls Tryz.prog 24 #[val x A c] w (AllP (fnT x) w):=by
 by_cases h : x.f0 = 45
 · rw [fnT_eq h];by_cases h0 : x.f4.length = 0
   · have e : (partsB x true false false && (nmB x.f1 && (decide (2 ≤ x.f4.length) && (tyT (nd x.f4 0) && (blT (nd x.f4 (x.f4.length - 1)) && ((x.f4.take (x.f4.length - 1)).drop 1).all paT))))) = false:=by
      rw [decide_eq_false (show ¬ 2 ≤ x.f4.length by omega)];cases partsB x true false false <;> cases nmB x.f1 <;> rfl
     rw [e];exact functionR.e _ rfl _ rfl h hK h0 hG hn
   · obtain ⟨m,hm⟩ : ∃ m,x.f4.length = m + 1:=⟨x.f4.length - 1,by omega⟩
     have e : (partsB x true false false && (nmB x.f1 && (decide (2 ≤ x.f4.length) && (tyT (nd x.f4 0) && (blT (nd x.f4 (x.f4.length - 1)) && ((x.f4.take (x.f4.length - 1)).drop 1).all paT))))) = (functionRP x m && ((x.f4.take m).drop 1).all paR):=by
      rw [show x.f4.length - 1 = m by omega,show (paT : S25 → Bool) = paR from funext fun y => (paR_eq y).symm];unfold functionRP;by_cases h1 : 2 ≤ x.f4.length
      · rw [decide_eq_true h1,decide_eq_false (show ¬ (m : Int) < 1 by omega)];cases partsB x true false false <;> cases nmB x.f1 <;> cases tyT (nd x.f4 0) <;> cases blT (nd x.f4 m) <;> rfl
      · rw [decide_eq_false h1,decide_eq_true (show (m : Int) < 1 by omega)];cases partsB x true false false <;> cases nmB x.f1 <;> rfl
     rw [e];cases hp : functionRP x m with
     | false => exact functionR.f h hK hm hp hG hn
     | true =>
      unfold functionRP at hp;simp only [Bool.and_eq_true,Bool.not_eq_true',decide_eq_false_iff_not] at hp;exact functionR.p h hK hm (by omega) hp.1.1.1.1 hp.1.1.1.2 hp.1.2 hp.2 hG hn
 · rw [show fnT x = false from by unfold fnT;rw [decide_eq_false h];rfl];exact functionR.no h hG hn
end Go.Proofs.YtboojhadfhpdeaaGreatDoor.Q
namespace Go.Proofs.YtboojhadfhpdeaaGreatDoor.Q
open Go.RowKit Go.Proofs.YtboojhadfhpdeaaGreatDoorW.PrintWords Go.Proofs.YtboojhadfhpdeaaGreatDoorW.PrintLast Go.Proofs.YtboojhadfhpdeaaGreatDoorW.PrintMore
set_option linter.unusedVariables false
set_option linter.unusedSimpArgs false
noncomputable def chk1 (y : S25) : Bool:=recT y || (vsT false y || fnT y)
def chkI (b : Bool) : Int:=if b = true then 0 else 80
set_option maxHeartbeats 8000000 in
set_option maxRecDepth 100000 in
theorem checkR.p {x : S25} {A : Option Addr} {c : Nat} {w : World} {n k : Nat} {r : Int} (hr : crucibleref08_Size.f k x.f0 x.f1 x.f2 x.f3 x.f4 x.f5 = some r) (hK : Kn n x) (h0 : x.f0 = 40) (hr0 : r ≠ 0) (hp : partsB x false false false = true) (hG : PremW w) (hn : ND w x A c) : Calls Tryz.prog 9 #[val x A c] w (IntP (chkI (((x.f4.take (x.f4.length)).drop 0).all chk1)) w):=by
 have HMX:=Aside0.mk hn.C.2.1;have E:=Env.start hG hn;clear hn hG;have HR:=Aside0.mk hr;clear hr;have HK:=Aside0.mk hK;clear hK;have HM : Aside0 (x.f4.length ≤ x.f4.length):=⟨Nat.le_refl _⟩
 have b1 : (x.f0 != 40) = false:=by rw [h0];rfl
 have b2 : (x.f0 == 40) = true:=by rw [h0];rfl
 have b3 : (r == 0) = false:=beq_eq_false_iff_ne.2 hr0;have P0:=Aside0.mk hp;clear hp h0 hr0;go_enter Tryz.func9,Tryz.ntmps9
 go_wp2_with (first
  | (go_at_call 13;(try clear c0 c1 c2 c3 c4 c5);(with_reducible refine (crucibleref08_Size.calls k _ _ _ _ A c _ _ r _ E.out.kids E.out.k.le HR.out).mono ?_);rintro e w1 ⟨rfl,hB⟩;replace E:=Aside0.mk (E.out.step hB);clear hB;obtain ⟨c0,c1,c2,c3,c4,c5⟩:=E.out.cells)
  | (go_at_call 21;(try clear c0 c1 c2 c3 c4 c5);(with_reducible refine Env.call E E.out P0.out (partsR.all false false false E.out.prem E.out.nd) (fun w1 E c0 c1 c2 c3 c4 c5 => ?_));skip)
  | fail)
 try clear c0 c1 c2 c3 c4 c5
 go_loopg [3] (x.f4.length) (fun kq v w' => ∃ i : Nat,v = .int .i64 i ∧ Aside0 (i + kq = (x.f4.length) + 0) ∧ Aside0 (0 ≤ i) ∧ Aside0 (∀ j,0 ≤ j → j < i → j < (x.f4.length) → chk1 (nd x.f4 j) = true) ∧ Aside0 (Env w x A c w'))
 case atStart => exact ⟨0,rfl,⟨by omega⟩,⟨Nat.le_refl _⟩,⟨fun j h1 h2 => by omega⟩,by first|exact E|exact ⟨E.out.alloc _⟩⟩
 case round =>
  obtain ⟨i,rfl,HI,H0,HP,E⟩:=hrel;obtain ⟨c0,c1,c2,c3,c4,c5⟩:=E.out.cells;by_cases hi : i < (x.f4.length)
  · have e1n : decide (i < (x.f4.length)) = true:=decide_eq_true hi;have e1 : decide ((i : Int) < (x.f4.length : Int)) = true:=decide_eq_true (by omega);have p1 : (0 : Int) ≤ (i : Int):=by omega
    have q1 : (i : Int) < (x.f4.length : Int):=by have:=HM.out;omega
    obtain ⟨ad,A',c',rfl,hnd,k0,k1,k2,k3,k4,k5⟩:=node_at E.out.kids i (show i < x.f4.length by have:=HM.out;omega);have HND:=Aside0.mk hnd;have HIL : Aside0 (i < x.f4.length):=⟨by have:=HM.out;omega⟩
    have HIM:=Aside0.mk hi;have HMEM:=Aside0.mk (nd_mem HIL.out);clear hi hnd;have w3 : wrap64 ((i : Int) + 1) = (i : Int) + 1:=by have:=HMX.out;have:=HIL.out;unfold wrap64;omega
    have w4 : IntKind.i64.wrap ((i : Int) + 1) = (i : Int) + 1:=(i64_w _).trans w3;cases h0 : (recT (nd x.f4 i));cases h1 : (vsT false (nd x.f4 i));cases h2 : (fnT (nd x.f4 i));all_goals
     try (have HC0:=Aside0.mk h0;clear h0)
     try (have HC1:=Aside0.mk h1;clear h1)
     try (have HC2:=Aside0.mk h2;clear h2)
     go_wp2_with (first
     | ((with_reducible refine gate_dst (N:=4) rfl ?_);refine box_event ?hg (N:=4) ?hd (cs:=zero6) (t:=25) ?hr ?_;(case hd => rfl);(case hg => rfl);(case hr => first|(go_simp;done)|(go_simp;rfl));intro gb hg w1 hbox hb;subst hg;have EW:=E;have GE:=Aside0.mk EW.out.lt;have ne1:=Nat.ne_of_gt GE.out;have ne2:=Nat.ne_of_lt GE.out;replace E:=Aside0.mk (EW.out.step hb);(try clear c0 c1 c2 c3 c4 c5);obtain ⟨c0,c1,c2,c3,c4,c5⟩:=E.out.cells;(try clear k0 k1 k2 k3 k4 k5);have HB0:=Aside0.mk hb;have BK:=Aside0.mk hbox;clear hb hbox;have z0:=(blk_cell BK.out 0).trans (show zero6[0]? = some (.int .i64 0) from rfl);have f0:=blk_frozen BK.out 0;have z1:=(blk_cell BK.out 1).trans (show zero6[1]? = some (.string (⟨#[]⟩ : ByteArray)) from rfl);have f1:=blk_frozen BK.out 1;have z2:=(blk_cell BK.out 2).trans (show zero6[2]? = some (.int .u32 0) from rfl);have f2:=blk_frozen BK.out 2;have z3:=(blk_cell BK.out 3).trans (show zero6[3]? = some (.bool false) from rfl);have f3:=blk_frozen BK.out 3;have z4:=(blk_cell BK.out 4).trans (show zero6[4]? = some (.slice none 0 0) from rfl);have f4:=blk_frozen BK.out 4;have z5:=(blk_cell BK.out 5).trans (show zero6[5]? = some (.int .i64 0) from rfl);have f5:=blk_frozen BK.out 5)
       | (go_at_call 22;(try clear c0 c1 c2 c3 c4 c5);(try clear p0 p1 p2 p3 p4 p5);(try clear z0 z1 z2 z3 z4 z5 f0 f1 f2 f3 f4 f5);(with_reducible refine Env.call2 (E.out.put GE.out) (Env.box EW.out HND.out HB0.out BK.out) HC0.out (recordR.all (HK.out.kid HMEM.out) (E.out.put GE.out).prem (Env.box EW.out HND.out HB0.out BK.out).nd) (fun w1 E F => ?_));clear BK HB0 EW;obtain ⟨c0,c1,c2,c3,c4,c5⟩:=E.out.cells;obtain ⟨p0,p1,p2,p3,p4,p5⟩:=F.out.cells)
       | (go_at_call 23;(try clear c0 c1 c2 c3 c4 c5);(try clear p0 p1 p2 p3 p4 p5);(try clear z0 z1 z2 z3 z4 z5 f0 f1 f2 f3 f4 f5);(with_reducible refine Env.call2 E.out F.out HC1.out (varsR.all false (HK.out.kid HMEM.out) E.out.prem F.out.nd) (fun w1 E F => ?_));obtain ⟨c0,c1,c2,c3,c4,c5⟩:=E.out.cells;obtain ⟨p0,p1,p2,p3,p4,p5⟩:=F.out.cells)
       | (go_at_call 24;(try clear c0 c1 c2 c3 c4 c5);(try clear p0 p1 p2 p3 p4 p5);(try clear z0 z1 z2 z3 z4 z5 f0 f1 f2 f3 f4 f5);(with_reducible refine Env.call2 E.out F.out HC2.out (functionR.all (HK.out.kid HMEM.out) E.out.prem F.out.nd) (fun w1 E F => ?_));obtain ⟨c0,c1,c2,c3,c4,c5⟩:=E.out.cells;obtain ⟨p0,p1,p2,p3,p4,p5⟩:=F.out.cells)
       | fail)
     first
     | (go_ret;exact ⟨by rw [allm_fails (p:=chk1) HM.out H0.out HIM.out (by (try dsimp only);unfold chk1;(try rw [HC0.out]);(try rw [HC1.out]);(try rw [HC2.out]);first|done|rfl)];rfl,by first|with_reducible exact E.out.b|with_reducible exact (E.out.put GE.out).b⟩)
     | (go_roundg ((x.f4.length) + 0 - (i + 1))
        case measure => have:=HI.out;have:=HIM.out;omega
        case rel => exact ⟨i + 1,by (try simp only [w4,w3]);rfl,⟨by have:=HI.out;have:=HIM.out;omega⟩,⟨by have:=H0.out;omega⟩,⟨fun j j1 j2 j3 => by
         by_cases hj : j = i
         · subst hj;(try dsimp only);unfold chk1;(try rw [HC0.out]);(try rw [HC1.out]);(try rw [HC2.out]);first|done|rfl
         · exact HP.out j j1 (by omega) j3⟩,E⟩)
  · have e1n : decide (i < (x.f4.length)) = false:=decide_eq_false hi;have e1 : decide ((i : Int) < (x.f4.length : Int)) = false:=decide_eq_false (by omega);have HH:=Aside0.mk (allm_from (p:=chk1) (l:=x.f4) (m:=x.f4.length) (i:=0) HM.out (fun j h1 h2 => HP.out j h1 (by omega) h2));clear hi HP HI;go_wp2
    go_ret
    exact ⟨by rw [HH.out];rfl,fin_⟩
set_option maxHeartbeats 8000000 in
set_option maxRecDepth 100000 in
theorem checkR.f {x : S25} {A : Option Addr} {c : Nat} {w : World} {n k : Nat} {r : Int} (hr : crucibleref08_Size.f k x.f0 x.f1 x.f2 x.f3 x.f4 x.f5 = some r) (hK : Kn n x) (hpre : ((r == 0) || ((x.f0 != 40) || !(partsB x false false false))) = true) (hG : PremW w) (hn : ND w x A c) : Calls Tryz.prog 9 #[val x A c] w (IntP 80 w):=by
 have E:=Env.start hG hn;clear hn hG;have HR:=Aside0.mk hr;clear hr;have HK:=Aside0.mk hK;clear hK;cases h0 : (r == 0);cases h1 : (x.f0 != 40);cases h2 : partsB x false false false;rotate_left 1
 · rw [h0,h1,h2] at hpre;cases hpre
 rotate_right 1
 all_goals
  clear hpre;try have h1m : (x.f0 == 40) = false:=by rw [bne] at h1;simpa using h1
  try have h1m : (x.f0 == 40) = true:=by rw [bne] at h1;simpa using h1
  try (have P0:=Aside0.mk h2;clear h2)
  go_enter Tryz.func9,Tryz.ntmps9
  go_wp2_with (first
   | (go_at_call 13;(try clear c0 c1 c2 c3 c4 c5);(with_reducible refine (crucibleref08_Size.calls k _ _ _ _ A c _ _ r _ E.out.kids E.out.k.le HR.out).mono ?_);rintro e w1 ⟨rfl,hB⟩;replace E:=Aside0.mk (E.out.step hB);clear hB;obtain ⟨c0,c1,c2,c3,c4,c5⟩:=E.out.cells)
   | (go_at_call 21;(try clear c0 c1 c2 c3 c4 c5);(with_reducible refine Env.call E E.out P0.out (partsR.all false false false E.out.prem E.out.nd) (fun w1 E c0 c1 c2 c3 c4 c5 => ?_));skip)
   | fail)
  go_ret
  exact ⟨rfl,fin_⟩
theorem checkR.all {x : S25} {A : Option Addr} {c : Nat} {w : World} {n k : Nat} {r : Int} (hr : crucibleref08_Size.f k x.f0 x.f1 x.f2 x.f3 x.f4 x.f5 = some r) (hK : Kn n x) (hG : PremW w) (hn : ND w x A c) : Calls Tryz.prog 9 #[val x A c] w (IntP (chkV r x) w):=by
 by_cases h : ((r == 0) || ((x.f0 != 40) || !(partsB x false false false))) = true
 · have e : chkV r x = 80:=by
    unfold chkV;rw [if_pos];cases h0 : (r == 0) with
    | true => simp
    | false =>
     cases h1 : (x.f0 != 40) with
     | true => rfl
     | false =>
      rw [h0,h1] at h;have h40 : x.f0 = 40:=by simpa using h1
      have hp : partsB x false false false = false:=by simpa using h
      have : mayT x = false:=by
       rw [mayT_D (by omega),show declB x = d40 x from by unfold declB;simp [h40],decide_eq_false (show ¬ x.f0 = 43 by omega),decide_eq_false (show ¬ x.f0 = 46 by omega)];unfold partsB at hp;unfold d40;revert hp;cases (x.f1.toList == ([] : List UInt8)) <;> cases (x.f2 == 0) <;> cases x.f3 <;> simp
      rw [this];rfl
   rw [e];exact checkR.f hr hK h hG hn
 · have hq:=Bool.eq_false_iff.2 h;simp only [Bool.or_eq_false_iff,Bool.not_eq_false'] at hq;obtain ⟨h0,h1,hp⟩:=hq;have h40 : x.f0 = 40:=by simpa using h1
   have e : chkV r x = chkI (((x.f4.take (x.f4.length)).drop 0).all chk1):=by
    rw [List.take_length,List.drop_zero];unfold chkI;have e1 : x.f4.all chk1 = (x.f4.all (fun y => decide (y.f0 = 41) || decide (y.f0 = 42) || decide (y.f0 = 45)) && x.f4.all mayT):=by
     rw [all_and];congr 1
     funext y
     unfold chk1 recT vsT fnT;cases decide (y.f0 = 41) <;> cases decide (y.f0 = 42) <;> cases decide (y.f0 = 45) <;> cases mayT y <;> rfl
    unfold chkV;rw [e1,h0,h1,mayT_D (by omega),show declB x = d40 x from by unfold declB;simp [h40],decide_eq_false (show ¬ x.f0 = 43 by omega),decide_eq_false (show ¬ x.f0 = 46 by omega)];unfold partsB at hp;unfold d40;revert hp;cases (x.f1.toList == ([] : List UInt8)) <;> cases (x.f2 == 0) <;> cases x.f3 <;> cases x.f4.all (fun y => decide (y.f0 = 41) || decide (y.f0 = 42) || decide (y.f0 = 45)) <;> cases x.f4.all mayT <;> simp
   rw [e];exact checkR.p hr hK h40 (by simpa using h0) hp hG hn
theorem know_all : ∀ n,∀ y,SizeOf.sizeOf y < n → SmlT y → KnowE y ∧ KnowS y
 | 0,_,h,_ => absurd h (Nat.not_lt_zero _)
 | n + 1,y,h,hs => by
  have hK : Kn n y:=⟨by omega,hs,fun z hz h1 => (know_all n z hz h1).1,fun z hz h1 => (know_all n z hz h1).2⟩
  exact ⟨fun A c w hG hn => mayR.all hK hG hn,fun A c w hG hn => statementR.all hK hG hn⟩
theorem refCheck.all {x : S25} {A : Option Addr} {c : Nat} {w : World} {k : Nat} {r : Int} (hr : crucibleref08_Size.f k x.f0 x.f1 x.f2 x.f3 x.f4 x.f5 = some r) (hs : SmlT x) (hG : PremW w) (hn : ND w x A c) : Calls Tryz.prog 9 #[val x A c] w (IntP (chkV r x) w) :=
 checkR.all hr (⟨Nat.le_refl _,hs,fun z hz h1 => (know_all _ z hz h1).1,fun z hz h1 => (know_all _ z hz h1).2⟩ : Kn (SizeOf.sizeOf x) x) hG hn
end Go.Proofs.YtboojhadfhpdeaaGreatDoor.Q
namespace Go.Proofs.YtboojhadfhpdeaaGreatDoor.Q
open Go.RowKit Go.Proofs.YtboojhadfhpdeaaGreatDoorW.PrintWords
theorem size_both {x : S25} (hf : Fit x) : ∃ k r,ast_Size.f k x.f0 x.f1 x.f2 x.f3 x.f4 x.f5 = some r ∧ Ev (fun k => crucibleref08_Size.f k x.f0 x.f1 x.f2 x.f3 x.f4 x.f5) r:=by
 obtain ⟨k,r,r0,r1,e1,e2⟩:=count_all hf 0 (by omega) (by omega);refine ⟨k,if r ≤ 262144 then r else 0,?_,Ev.of (fun k => crucibleref08_Size.mono _ _ _ _ _ _ k) (k:=k) ?_⟩
 · unfold ast_Size.f;rw [e1,Option.bind_some];by_cases h : r ≤ 262144
   · rw [if_pos h,if_pos h]
   · rw [if_neg h,if_neg h]
 · unfold crucibleref08_Size.f;rw [e2,Option.bind_some];by_cases h : r ≤ 262144
   · rw [if_pos h,if_neg (by omega)]
   · rw [if_neg h,if_pos (by omega)]
noncomputable def szV (x : S25) : Int:=@Classical.epsilon Int ⟨0⟩ fun r => ∃ k,ast_Size.f k x.f0 x.f1 x.f2 x.f3 x.f4 x.f5 = some r ∧ Ev (fun k => crucibleref08_Size.f k x.f0 x.f1 x.f2 x.f3 x.f4 x.f5) r
theorem szV_spec {x : S25} (hf : Fit x) : ∃ k,ast_Size.f k x.f0 x.f1 x.f2 x.f3 x.f4 x.f5 = some (szV x) ∧ Ev (fun k => crucibleref08_Size.f k x.f0 x.f1 x.f2 x.f3 x.f4 x.f5) (szV x):=by
 obtain ⟨k,r,h1,h2⟩:=size_both hf;exact @Classical.epsilon_spec Int (fun r => ∃ k,ast_Size.f k x.f0 x.f1 x.f2 x.f3 x.f4 x.f5 = some r ∧ Ev (fun k => crucibleref08_Size.f k x.f0 x.f1 x.f2 x.f3 x.f4 x.f5) r) ⟨r,k,h1,h2⟩
open Classical in
noncomputable def ast_Check.f (a0 : Int) (a1 : ByteArray) (a2 : Int) (a3 : Bool) (l : List S25) (a5 : Int) : Option Int:=if SmlT ⟨a0,a1,a2,a3,l,a5⟩ then some (chkV (szV ⟨a0,a1,a2,a3,l,a5⟩) ⟨a0,a1,a2,a3,l,a5⟩) else none
theorem ast_Check.calls (a0 : Int) (a1 : ByteArray) (a2 : Int) (a3 : Bool) (A : Option Addr) (c : Nat) (l : List S25) (a5 : Int) (r : Int) (w : World) (hr : Kd.C k25 w A l.length l) (hc : l.length ≤ c) (hG : PremW w) (h : ast_Check.f a0 a1 a2 a3 l a5 = some r) :
 Calls Tryz.prog 8 #[.agg #[.int .i64 a0,.string a1,.int .u32 a2,.bool a3,.slice A l.length c,.int .i64 a5]] w fun e w' => e = .returned (.int .i64 r) ∧ Below w.heap.size w w' := by
 unfold ast_Check.f at h
 split at h
 · rename_i hs
   obtain rfl:=Option.some.inj h;have hf : Fit ⟨a0,a1,a2,a3,l,a5⟩:=fit_of_C hr;obtain ⟨k,h1,_⟩:=szV_spec hf;exact Check.all (x:=⟨a0,a1,a2,a3,l,a5⟩) k _ h1 hs hG ⟨hc,hr⟩
 · cases h
open Classical in
noncomputable def crucibleref08_Check.f (_k : Nat) (a0 : Int) (a1 : ByteArray) (a2 : Int) (a3 : Bool) (l : List S25) (a5 : Int) : Option Int:=if SmlT ⟨a0,a1,a2,a3,l,a5⟩ then some (chkV (szV ⟨a0,a1,a2,a3,l,a5⟩) ⟨a0,a1,a2,a3,l,a5⟩) else none
theorem crucibleref08_Check.mono : ∀ a0 a1 a2 a3 a4 a5 k,LeO (crucibleref08_Check.f k a0 a1 a2 a3 a4 a5) (crucibleref08_Check.f (k + 1) a0 a1 a2 a3 a4 a5):=fun _ _ _ _ _ _ _ => LeO.refl _
theorem crucibleref08_Check.calls (k : Nat) (a0 : Int) (a1 : ByteArray) (a2 : Int) (a3 : Bool) (A : Option Addr) (c : Nat) (l : List S25) (a5 : Int) (r : Int) (w : World) (hr : Kd.C k25 w A l.length l) (hc : l.length ≤ c) (hG : PremW w) (h : crucibleref08_Check.f k a0 a1 a2 a3 l a5 = some r) :
 Calls Tryz.prog 9 #[.agg #[.int .i64 a0,.string a1,.int .u32 a2,.bool a3,.slice A l.length c,.int .i64 a5]] w fun e w' => e = .returned (.int .i64 r) ∧ Below w.heap.size w w' := by
 unfold crucibleref08_Check.f at h
 split at h
 · rename_i hs
   obtain rfl:=Option.some.inj h;have hf : Fit ⟨a0,a1,a2,a3,l,a5⟩:=fit_of_C hr;obtain ⟨_,_,h2⟩:=szV_spec hf;obtain ⟨k2,h3⟩:=h2.rounds;exact refCheck.all (x:=⟨a0,a1,a2,a3,l,a5⟩) h3 hs hG ⟨hc,hr⟩
 · cases h
end Go.Proofs.YtboojhadfhpdeaaGreatDoor.Q
namespace Go.Proofs.YtboojhadfhpdeaaGreatDoor.Q
open Go.RowKit Go.Proofs.YtboojhadfhpdeaaGreatDoorW.PrintWords Go.Proofs.YtboojhadfhpdeaaGreatDoorW.PrintLast Go.Proofs.YtboojhadfhpdeaaGreatDoorW.PrintMore
attribute [local go_sem] max2_int min2_int max_two min_two max_three min_three max_four min_four
set_option linter.unusedVariables false
set_option linter.unusedSimpArgs false
set_option linter.unusedSectionVars false
noncomputable def cruciblelaw08_AstChecks.f (k : Nat) (a0_0 : Int) (a0_1 : ByteArray) (a0_2 : Int) (a0_3 : Bool) (l0_4 : List (S25)) (a0_5 : Int) : Option (Bool):=(ast_Check.f a0_0 a0_1 a0_2 a0_3 l0_4 a0_5).bind fun t197 => ((crucibleref08_Check.f k a0_0 a0_1 a0_2 a0_3 l0_4 a0_5).bind fun t198 => (if t197 = t198 then ((cruciblelaw08_awake.f).bind fun t199 => (some t199)) else (some false)))
theorem cruciblelaw08_AstChecks.mono : ∀ a0 a1 a2 a3 a4 a5 k,LeO (cruciblelaw08_AstChecks.f k a0 a1 a2 a3 a4 a5) (cruciblelaw08_AstChecks.f (k + 1) a0 a1 a2 a3 a4 a5):=by
 intro a0 a1 a2 a3 a4 a5 k;unfold cruciblelaw08_AstChecks.f
 repeat' first
  | (with_reducible exact crucibleref08_Check.mono _ _ _ _ _ _ _)
  | (with_reducible exact LeO.refl _)
  | (with_reducible exact LeO.none _)
  | (with_reducible refine LeO.ite ?_ ?_)
  | (with_reducible refine LeO.bind ?_ (fun _ => ?_))
  | exact crucibleref08_Check.mono _ _ _ _ _ _ _
  | exact LeO.none _
  | refine LeO.ite ?_ ?_
  | refine LeO.bind ?_ (fun _ => ?_)
def cruciblelaw08_AstChecks.T1 : Bool × List (List Nat × List Nat):=(true,[([],[]),([0],[0]),([],[]),([2,1],[2]),([1,3],[1,3]),([4,3],[4]),([5,5],[5]),([5,6],[5,6]),([7,6,0,1,2,3,4,5,6,7],[7])])
def cruciblelaw08_AstChecks.B1 : List Nat:=[0,1,0,7,15,31,63,127,255]
theorem cruciblelaw08_AstChecks.tab1 : rtab .any (opsOf Tryz.f3 1) = cruciblelaw08_AstChecks.T1:=by kernel_rfl
theorem cruciblelaw08_AstChecks.bits1 : waitsOk cruciblelaw08_AstChecks.T1.2 cruciblelaw08_AstChecks.B1 = true:=by kernel_rfl
set_option maxHeartbeats 8000000 in
set_option maxRecDepth 100000 in
theorem cruciblelaw08_AstChecks.calls (k : Nat) (a0_0 : Int) (a0_1 : ByteArray) (a0_2 : Int) (a0_3 : Bool) (A0_4 : Option Addr) (c0_4 : Nat) (l0_4 : List (S25)) (a0_5 : Int) (r : Bool) (w : World) (hr0_4 : Kd.C k25 w A0_4 l0_4.length l0_4) (hc0_4 : l0_4.length ≤ c0_4) (hG : PremW w) (h : cruciblelaw08_AstChecks.f k a0_0 a0_1 a0_2 a0_3 l0_4 a0_5 = some r) :
 Calls Tryz.prog 3 #[.agg #[.int .i64 a0_0,.string a0_1,.int .u32 a0_2,.bool a0_3,.slice A0_4 l0_4.length c0_4,.int .i64 a0_5]] w fun e w' => e = .returned (.bool r) ∧ Below w.heap.size w w' := by
 have hu25:=Tryz.underlying25;have HR0_4:=Aside0.mk hr0_4;have HC0_4:=Aside0.mk hc0_4;clear hr0_4 hc0_4;have HG:=Aside0.mk hG;clear hG;have HB:=Aside0.mk (Below.refl w.heap.size w);have H : ((ast_Check.f a0_0 a0_1 a0_2 a0_3 l0_4 a0_5).bind fun t197 => ((crucibleref08_Check.f k a0_0 a0_1 a0_2 a0_3 l0_4 a0_5).bind fun t198 => (if t197 = t198 then ((cruciblelaw08_awake.f).bind fun t199 => (some t199)) else (some false)))) = some r:=h;clear h;replace H:=Option.bind_eq_some_iff.mp H;obtain ⟨t197,A20,H⟩:=H;replace H : ((crucibleref08_Check.f k a0_0 a0_1 a0_2 a0_3 l0_4 a0_5).bind fun t198 => (if t197 = t198 then ((cruciblelaw08_awake.f).bind fun t199 => (some t199)) else (some false))) = some r:=H;have A2:=Aside0.mk A20;clear A20;replace H:=Option.bind_eq_some_iff.mp H;obtain ⟨t198,A30,H⟩:=H;replace H : (if t197 = t198 then ((cruciblelaw08_awake.f).bind fun t199 => (some t199)) else (some false)) = some r:=H;have A3:=Aside0.mk A30;clear A30;by_cases c4 : t197 = t198
 · rw [if_pos c4] at H;have c4b0 : (t197 == t198) = true:=beq_iff_eq.mpr c4;have c4b1 : (t197 != t198) = false:=bne_eq_false_iff_eq.mpr c4;clear c4;replace H:=Option.bind_eq_some_iff.mp H;obtain ⟨t199,A50,H⟩:=H;replace H : (some t199) = some r:=H;have A5:=Aside0.mk A50;clear A50;obtain rfl:=Option.some.inj H;go_enter Tryz.func3,Tryz.ntmps3
   try go_wp2_with (first|((with_reducible refine gate_dst (N:=1) rfl ?_);refine box_event ?hg (N:=1) ?hd (cs:=#[.int .i64 a0_0,.string a0_1,.int .u32 a0_2,.bool a0_3,.slice A0_4 l0_4.length c0_4,.int .i64 a0_5]) (t:=25) ?hr ?_;(case hd => rfl);(case hg => rfl);(case hr => first|(go_simp;done)|(go_simp;rfl));intro gb196 hg w6 hbox hb;have n0_:=Aside0.mk (below_step (by repeat (first|(with_reducible first|exact HB.out|apply below_alloc|apply pw_below_drewN|apply below_drew1)|exact HB.out)) hb);have n1_:=Aside0.mk (hbox);have n2_:=Aside0.mk ((by rw [hg];exact (below_size (by repeat (first|(with_reducible first|exact HB.out|apply below_alloc|apply pw_below_drewN|apply below_drew1)|exact HB.out))) : w.heap.size ≤ gb196));have n3_:=Aside0.mk ((by rw [hg];exact (below_size (by repeat (first|(with_reducible first|exact HB.out|apply below_alloc|apply pw_below_drewN|apply below_drew1)|exact HB.out))) : w.heap.size ≤ gb196));clear HB;have HB:=n0_;have BK196:=n1_;have GW196:=n2_;have GE196:=n3_;clear n0_ n1_ n2_ n3_;clear hb hbox hg))
   have n0_:=Aside0.mk (blk_drew BK196.out);have n1_:=Aside0.mk (below_drew1 HB.out);clear BK196;clear HB;have BK196:=n0_;have HB:=n1_;clear n0_ n1_;refine start_ (n:=9) (S:=fun w' => w'.cell? ⟨gb196,0,none⟩ = some (.int .i64 a0_0) ∧ w'.cell? ⟨gb196,1,none⟩ = some (.string a0_1) ∧ w'.cell? ⟨gb196,2,none⟩ = some (.int .u32 a0_2) ∧ w'.cell? ⟨gb196,3,none⟩ = some (.bool a0_3) ∧ w'.cell? ⟨gb196,4,none⟩ = some (.slice A0_4 l0_4.length c0_4) ∧ w'.cell? ⟨gb196,5,none⟩ = some (.int .i64 a0_5)) (ds:=[]) #[false,false,false,false,false,false,false,false,false] (by kernel_rfl) rfl rfl ⟨(blk_cell BK196.out 0).trans rfl,(blk_cell BK196.out 1).trans rfl,(blk_cell BK196.out 2).trans rfl,(blk_cell BK196.out 3).trans rfl,(blk_cell BK196.out 4).trans rfl,(blk_cell BK196.out 5).trans rfl⟩ (fun hHeld => ?_);refine with_tabW cruciblelaw08_AstChecks.tab1 cruciblelaw08_AstChecks.bits1 (fun HT_ HW_ => ?_);generalize w6.drew = w7 at BK196 HB hHeld ⊢;refine take_ (i:=0) (N:=some 3) (v:=?_) (a' := ?_) #[true,false,false,false,false,false,false,false,false] rfl rfl (take_ofW HT_.out HW_.out (by kernel_rfl)) (fun _ _ _ h => h) (Or.inl ⟨by rfl,?_⟩) hHeld ?_ ?_;rotate_left
   · rintro w' ⟨s0,s1,s2,s3,s4,s5⟩;go_simp
     with_reducible rfl
   rotate_left
   · simp only [Act.put,List.setIfInBounds_toArray,List.set_cons_zero,List.set_cons_succ,i64_w,i32_w];rfl
   refine take_ (i:=2) (N:=some 5) (v:=?_) (a' := ?_) #[true,false,true,false,false,false,false,false,false] rfl rfl (take_ofW HT_.out HW_.out (by kernel_rfl)) (fun _ _ _ h => h) (Or.inl ⟨by rfl,?_⟩) hHeld ?_ ?_;rotate_left
   · rintro w' ⟨s0,s1,s2,s3,s4,s5⟩;go_simp
     with_reducible rfl
   rotate_left
   · simp only [Act.put,List.setIfInBounds_toArray,List.set_cons_zero,List.set_cons_succ,i64_w,i32_w];rfl
   refine one_ (i:=1) (N:=some 4) #[true,true,true,false,false,false,false,false,false] rfl rfl (one_of HT_.out (by kernel_rfl)) (by decide) (fun K hK => ?_);refine goes_ Tryz.func8 (by kernel_rfl) rfl #[.agg #[.int .i64 a0_0,.string a0_1,.int .u32 a0_2,.bool a0_3,.slice A0_4 l0_4.length c0_4,.int .i64 a0_5]] (by rfl) rfl rfl (by (try simp only [List.map_toArray,List.map_cons,List.map_nil]);first|done|rfl|(simp only [List.length_drop,List.length_take];rfl)) ?_
   with_reducible refine (ast_Check.calls a0_0 a0_1 a0_2 a0_3 _ _ l0_4 a0_5 t197 _ ?side1 ?side2 ?side3 A2.out).mono ?_
   (case side1 => repeat (first|exact (Kd.C_below HR0_4.out HB.out)|(with_reducible refine Kd.C_alloc ?_ _)|(with_reducible refine Kd.C_drewN ?_ _)|(with_reducible refine Kd.C_drew ?_)));(case side2 => exact HC0_4.out);(case side3 => refine PremW.below HG.out ?_;repeat (first|(with_reducible first|exact HB.out|apply below_alloc|apply pw_below_drewN|apply below_drew1|refine below_set ?_ GE196.out)|exact HB.out));rintro e w8 ⟨rfl,hb⟩;refine ⟨_,rfl,?_⟩;have n0_:=Aside0.mk (blk_below (g:=gb196) (o:=.cells #[.int .i64 a0_0,.string a0_1,.int .u32 a0_2,.bool a0_3,.slice A0_4 l0_4.length c0_4,.int .i64 a0_5] 25 (0,0)) (by (with_reducible repeat (first|refine blk_drewN ?_ _|refine blk_drew ?_|refine blk_alloc ?_ _));exact BK196.out) hb);have n1_:=Aside0.mk (below_step (by repeat (first|(with_reducible first|exact HB.out|apply below_alloc|apply pw_below_drewN|apply below_drew1|refine below_set ?_ GE196.out)|exact HB.out)) hb);clear BK196;clear HB;have BK196:=n0_;have HB:=n1_;clear n0_ n1_;(try clear hb);(try clear hb2);(try clear hk);(try clear hi);refine hK.out _ _ ⟨(blk_cell BK196.out 0).trans rfl,(blk_cell BK196.out 1).trans rfl,(blk_cell BK196.out 2).trans rfl,(blk_cell BK196.out 3).trans rfl,(blk_cell BK196.out 4).trans rfl,(blk_cell BK196.out 5).trans rfl⟩ (fun hHeld => ?_);clear hK K;refine norm_ (a' := ?_) ?_ ?_;rotate_left
   · show Act.put _ (some 4) _ = _
     simp only [Act.put,List.setIfInBounds_toArray,List.set_cons_zero,List.set_cons_succ,i64_w,i32_w];rfl
   refine one_ (i:=3) (N:=some 6) #[true,true,true,true,false,false,false,false,false] rfl rfl (one_of HT_.out (by kernel_rfl)) (by decide) (fun K hK => ?_);refine goes_ Tryz.func9 (by kernel_rfl) rfl #[.agg #[.int .i64 a0_0,.string a0_1,.int .u32 a0_2,.bool a0_3,.slice A0_4 l0_4.length c0_4,.int .i64 a0_5]] (by rfl) rfl rfl (by (try simp only [List.map_toArray,List.map_cons,List.map_nil]);first|done|rfl|(simp only [List.length_drop,List.length_take];rfl)) ?_
   with_reducible refine (crucibleref08_Check.calls k a0_0 a0_1 a0_2 a0_3 _ _ l0_4 a0_5 t198 _ ?side1 ?side2 ?side3 A3.out).mono ?_
   (case side1 => repeat (first|exact (Kd.C_below HR0_4.out HB.out)|(with_reducible refine Kd.C_alloc ?_ _)|(with_reducible refine Kd.C_drewN ?_ _)|(with_reducible refine Kd.C_drew ?_)));(case side2 => exact HC0_4.out);(case side3 => refine PremW.below HG.out ?_;repeat (first|(with_reducible first|exact HB.out|apply below_alloc|apply pw_below_drewN|apply below_drew1|refine below_set ?_ GE196.out)|exact HB.out));rintro e w9 ⟨rfl,hb⟩;refine ⟨_,rfl,?_⟩;have n0_:=Aside0.mk (blk_below (g:=gb196) (o:=.cells #[.int .i64 a0_0,.string a0_1,.int .u32 a0_2,.bool a0_3,.slice A0_4 l0_4.length c0_4,.int .i64 a0_5] 25 (0,0)) (by (with_reducible repeat (first|refine blk_drewN ?_ _|refine blk_drew ?_|refine blk_alloc ?_ _));exact BK196.out) hb);have n1_:=Aside0.mk (below_step (by repeat (first|(with_reducible first|exact HB.out|apply below_alloc|apply pw_below_drewN|apply below_drew1|refine below_set ?_ GE196.out)|exact HB.out)) hb);clear BK196;clear HB;have BK196:=n0_;have HB:=n1_;clear n0_ n1_;(try clear hb);(try clear hb2);(try clear hk);(try clear hi);refine hK.out _ _ ⟨(blk_cell BK196.out 0).trans rfl,(blk_cell BK196.out 1).trans rfl,(blk_cell BK196.out 2).trans rfl,(blk_cell BK196.out 3).trans rfl,(blk_cell BK196.out 4).trans rfl,(blk_cell BK196.out 5).trans rfl⟩ (fun hHeld => ?_);clear hK K;refine norm_ (a' := ?_) ?_ ?_;rotate_left
   · show Act.put _ (some 6) _ = _
     simp only [Act.put,List.setIfInBounds_toArray,List.set_cons_zero,List.set_cons_succ,i64_w,i32_w];rfl
   refine pure_ (i:=4) (N:=some 7) (v:=?_) (a' := ?_) #[true,true,true,true,true,false,false,false,false] rfl rfl (any_of HT_.out (by kernel_rfl)) (fun _ _ _ h => h) (Or.inl ⟨by rfl,?_⟩) ?_ ?_;rotate_left
   · intro w';go_simp
     with_reducible rfl
   rotate_left
   · simp only [Act.put,List.setIfInBounds_toArray,List.set_cons_zero,List.set_cons_succ,i64_w,i32_w];rfl
   refine pure_ (i:=5) (N:=some 8) (v:=?_) (a' := ?_) #[true,true,true,true,true,true,false,false,false] rfl rfl (any_of HT_.out (by kernel_rfl)) (fun _ _ _ h => h) (Or.inl ⟨by rfl,?_⟩) ?_ ?_;rotate_left
   · intro w';go_simp
     with_reducible rfl
   rotate_left
   · simp only [Act.put,List.setIfInBounds_toArray,List.set_cons_zero,List.set_cons_succ,i64_w,i32_w];rfl
   refine one_ (i:=6) (N:=some 9) #[true,true,true,true,true,true,true,false,false] rfl rfl (one_of HT_.out (by kernel_rfl)) (by decide) (fun K hK => ?_);refine goes_ Tryz.func10 (by kernel_rfl) rfl #[] (by rfl) rfl rfl (by (try simp only [List.map_toArray,List.map_cons,List.map_nil]);first|done|rfl|(simp only [List.length_drop,List.length_take];rfl)) ?_
   with_reducible refine (cruciblelaw08_awake.calls  t199 _ ?side1 A5.out).mono ?_
   (case side1 => refine PremW.below HG.out ?_;repeat (first|(with_reducible first|exact HB.out|apply below_alloc|apply pw_below_drewN|apply below_drew1|refine below_set ?_ GE196.out)|exact HB.out));rintro e w10 ⟨rfl,hb⟩;refine ⟨_,rfl,?_⟩;have n0_:=Aside0.mk (blk_below (g:=gb196) (o:=.cells #[.int .i64 a0_0,.string a0_1,.int .u32 a0_2,.bool a0_3,.slice A0_4 l0_4.length c0_4,.int .i64 a0_5] 25 (0,0)) (by (with_reducible repeat (first|refine blk_drewN ?_ _|refine blk_drew ?_|refine blk_alloc ?_ _));exact BK196.out) hb);have n1_:=Aside0.mk (below_step (by repeat (first|(with_reducible first|exact HB.out|apply below_alloc|apply pw_below_drewN|apply below_drew1|refine below_set ?_ GE196.out)|exact HB.out)) hb);clear BK196;clear HB;have BK196:=n0_;have HB:=n1_;clear n0_ n1_;(try clear hb);(try clear hb2);(try clear hk);(try clear hi);refine hK.out _ _ ⟨(blk_cell BK196.out 0).trans rfl,(blk_cell BK196.out 1).trans rfl,(blk_cell BK196.out 2).trans rfl,(blk_cell BK196.out 3).trans rfl,(blk_cell BK196.out 4).trans rfl,(blk_cell BK196.out 5).trans rfl⟩ (fun hHeld => ?_);clear hK K;refine norm_ (a' := ?_) ?_ ?_;rotate_left
   · show Act.put _ (some 9) _ = _
     simp only [Act.put,List.setIfInBounds_toArray,List.set_cons_zero,List.set_cons_succ,i64_w,i32_w];rfl
   refine pure_ (i:=7) (N:=some 10) (v:=?_) (a' := ?_) #[true,true,true,true,true,true,true,true,false] rfl rfl (any_of HT_.out (by kernel_rfl)) (fun _ _ _ h => h) (Or.inl ⟨by rfl,?_⟩) ?_ ?_;rotate_left
   · intro w';go_simp
     with_reducible rfl
   rotate_left
   · simp only [Act.put,List.setIfInBounds_toArray,List.set_cons_zero,List.set_cons_succ,i64_w,i32_w];rfl
   refine pure_ (i:=8) (N:=some 2) (v:=?_) (a' := ?_) #[true,true,true,true,true,true,true,true,true] rfl rfl (any_of HT_.out (by kernel_rfl)) (fun _ _ _ h => h) (Or.inl ⟨by rfl,?_⟩) ?_ ?_;rotate_left
   · intro w';go_simp
     with_reducible rfl
   rotate_left
   · simp only [Act.put,List.setIfInBounds_toArray,List.set_cons_zero,List.set_cons_succ,i64_w,i32_w];rfl
   refine done_ (done_of HT_.out (by kernel_rfl)) ?_;try go_wp2
   go_ret
   exact ⟨by first|rfl|(simp [errW_none,errW_some] <;> rfl)|(simp [*,errW_none,errW_some] <;> rfl),by repeat (first|(with_reducible first|exact HB.out|apply below_alloc|apply pw_below_drewN|apply below_drew1|refine below_set ?_ GE196.out)|exact HB.out)⟩
 · rw [if_neg c4] at H;have c4b0 : (t197 == t198) = false:=beq_eq_false_iff_ne.mpr c4;have c4b1 : (t197 != t198) = true:=bne_iff_ne.mpr c4;obtain rfl:=Option.some.inj H;go_enter Tryz.func3,Tryz.ntmps3
   try go_wp2_with (first|((with_reducible refine gate_dst (N:=1) rfl ?_);refine box_event ?hg (N:=1) ?hd (cs:=#[.int .i64 a0_0,.string a0_1,.int .u32 a0_2,.bool a0_3,.slice A0_4 l0_4.length c0_4,.int .i64 a0_5]) (t:=25) ?hr ?_;(case hd => rfl);(case hg => rfl);(case hr => first|(go_simp;done)|(go_simp;rfl));intro gb196 hg w11 hbox hb;have n0_:=Aside0.mk (below_step (by repeat (first|(with_reducible first|exact HB.out|apply below_alloc|apply pw_below_drewN|apply below_drew1)|exact HB.out)) hb);have n1_:=Aside0.mk (hbox);have n2_:=Aside0.mk ((by rw [hg];exact (below_size (by repeat (first|(with_reducible first|exact HB.out|apply below_alloc|apply pw_below_drewN|apply below_drew1)|exact HB.out))) : w.heap.size ≤ gb196));have n3_:=Aside0.mk ((by rw [hg];exact (below_size (by repeat (first|(with_reducible first|exact HB.out|apply below_alloc|apply pw_below_drewN|apply below_drew1)|exact HB.out))) : w.heap.size ≤ gb196));clear HB;have HB:=n0_;have BK196:=n1_;have GW196:=n2_;have GE196:=n3_;clear n0_ n1_ n2_ n3_;clear hb hbox hg))
   have n0_:=Aside0.mk (blk_drew BK196.out);have n1_:=Aside0.mk (below_drew1 HB.out);clear BK196;clear HB;have BK196:=n0_;have HB:=n1_;clear n0_ n1_;refine start_ (n:=9) (S:=fun w' => w'.cell? ⟨gb196,0,none⟩ = some (.int .i64 a0_0) ∧ w'.cell? ⟨gb196,1,none⟩ = some (.string a0_1) ∧ w'.cell? ⟨gb196,2,none⟩ = some (.int .u32 a0_2) ∧ w'.cell? ⟨gb196,3,none⟩ = some (.bool a0_3) ∧ w'.cell? ⟨gb196,4,none⟩ = some (.slice A0_4 l0_4.length c0_4) ∧ w'.cell? ⟨gb196,5,none⟩ = some (.int .i64 a0_5)) (ds:=[]) #[false,false,false,false,false,false,false,false,false] (by kernel_rfl) rfl rfl ⟨(blk_cell BK196.out 0).trans rfl,(blk_cell BK196.out 1).trans rfl,(blk_cell BK196.out 2).trans rfl,(blk_cell BK196.out 3).trans rfl,(blk_cell BK196.out 4).trans rfl,(blk_cell BK196.out 5).trans rfl⟩ (fun hHeld => ?_);refine with_tabW cruciblelaw08_AstChecks.tab1 cruciblelaw08_AstChecks.bits1 (fun HT_ HW_ => ?_);generalize w11.drew = w12 at BK196 HB hHeld ⊢;refine take_ (i:=0) (N:=some 3) (v:=?_) (a' := ?_) #[true,false,false,false,false,false,false,false,false] rfl rfl (take_ofW HT_.out HW_.out (by kernel_rfl)) (fun _ _ _ h => h) (Or.inl ⟨by rfl,?_⟩) hHeld ?_ ?_;rotate_left
   · rintro w' ⟨s0,s1,s2,s3,s4,s5⟩;go_simp
     with_reducible rfl
   rotate_left
   · simp only [Act.put,List.setIfInBounds_toArray,List.set_cons_zero,List.set_cons_succ,i64_w,i32_w];rfl
   refine take_ (i:=2) (N:=some 5) (v:=?_) (a' := ?_) #[true,false,true,false,false,false,false,false,false] rfl rfl (take_ofW HT_.out HW_.out (by kernel_rfl)) (fun _ _ _ h => h) (Or.inl ⟨by rfl,?_⟩) hHeld ?_ ?_;rotate_left
   · rintro w' ⟨s0,s1,s2,s3,s4,s5⟩;go_simp
     with_reducible rfl
   rotate_left
   · simp only [Act.put,List.setIfInBounds_toArray,List.set_cons_zero,List.set_cons_succ,i64_w,i32_w];rfl
   refine one_ (i:=1) (N:=some 4) #[true,true,true,false,false,false,false,false,false] rfl rfl (one_of HT_.out (by kernel_rfl)) (by decide) (fun K hK => ?_);refine goes_ Tryz.func8 (by kernel_rfl) rfl #[.agg #[.int .i64 a0_0,.string a0_1,.int .u32 a0_2,.bool a0_3,.slice A0_4 l0_4.length c0_4,.int .i64 a0_5]] (by rfl) rfl rfl (by (try simp only [List.map_toArray,List.map_cons,List.map_nil]);first|done|rfl|(simp only [List.length_drop,List.length_take];rfl)) ?_
   with_reducible refine (ast_Check.calls a0_0 a0_1 a0_2 a0_3 _ _ l0_4 a0_5 t197 _ ?side1 ?side2 ?side3 A2.out).mono ?_
   (case side1 => repeat (first|exact (Kd.C_below HR0_4.out HB.out)|(with_reducible refine Kd.C_alloc ?_ _)|(with_reducible refine Kd.C_drewN ?_ _)|(with_reducible refine Kd.C_drew ?_)));(case side2 => exact HC0_4.out);(case side3 => refine PremW.below HG.out ?_;repeat (first|(with_reducible first|exact HB.out|apply below_alloc|apply pw_below_drewN|apply below_drew1|refine below_set ?_ GE196.out)|exact HB.out));rintro e w13 ⟨rfl,hb⟩;refine ⟨_,rfl,?_⟩;have n0_:=Aside0.mk (blk_below (g:=gb196) (o:=.cells #[.int .i64 a0_0,.string a0_1,.int .u32 a0_2,.bool a0_3,.slice A0_4 l0_4.length c0_4,.int .i64 a0_5] 25 (0,0)) (by (with_reducible repeat (first|refine blk_drewN ?_ _|refine blk_drew ?_|refine blk_alloc ?_ _));exact BK196.out) hb);have n1_:=Aside0.mk (below_step (by repeat (first|(with_reducible first|exact HB.out|apply below_alloc|apply pw_below_drewN|apply below_drew1|refine below_set ?_ GE196.out)|exact HB.out)) hb);clear BK196;clear HB;have BK196:=n0_;have HB:=n1_;clear n0_ n1_;(try clear hb);(try clear hb2);(try clear hk);(try clear hi);refine hK.out _ _ ⟨(blk_cell BK196.out 0).trans rfl,(blk_cell BK196.out 1).trans rfl,(blk_cell BK196.out 2).trans rfl,(blk_cell BK196.out 3).trans rfl,(blk_cell BK196.out 4).trans rfl,(blk_cell BK196.out 5).trans rfl⟩ (fun hHeld => ?_);clear hK K;refine norm_ (a' := ?_) ?_ ?_;rotate_left
   · show Act.put _ (some 4) _ = _
     simp only [Act.put,List.setIfInBounds_toArray,List.set_cons_zero,List.set_cons_succ,i64_w,i32_w];rfl
   refine one_ (i:=3) (N:=some 6) #[true,true,true,true,false,false,false,false,false] rfl rfl (one_of HT_.out (by kernel_rfl)) (by decide) (fun K hK => ?_);refine goes_ Tryz.func9 (by kernel_rfl) rfl #[.agg #[.int .i64 a0_0,.string a0_1,.int .u32 a0_2,.bool a0_3,.slice A0_4 l0_4.length c0_4,.int .i64 a0_5]] (by rfl) rfl rfl (by (try simp only [List.map_toArray,List.map_cons,List.map_nil]);first|done|rfl|(simp only [List.length_drop,List.length_take];rfl)) ?_
   with_reducible refine (crucibleref08_Check.calls k a0_0 a0_1 a0_2 a0_3 _ _ l0_4 a0_5 t198 _ ?side1 ?side2 ?side3 A3.out).mono ?_
   (case side1 => repeat (first|exact (Kd.C_below HR0_4.out HB.out)|(with_reducible refine Kd.C_alloc ?_ _)|(with_reducible refine Kd.C_drewN ?_ _)|(with_reducible refine Kd.C_drew ?_)));(case side2 => exact HC0_4.out);(case side3 => refine PremW.below HG.out ?_;repeat (first|(with_reducible first|exact HB.out|apply below_alloc|apply pw_below_drewN|apply below_drew1|refine below_set ?_ GE196.out)|exact HB.out));rintro e w14 ⟨rfl,hb⟩;refine ⟨_,rfl,?_⟩;have n0_:=Aside0.mk (blk_below (g:=gb196) (o:=.cells #[.int .i64 a0_0,.string a0_1,.int .u32 a0_2,.bool a0_3,.slice A0_4 l0_4.length c0_4,.int .i64 a0_5] 25 (0,0)) (by (with_reducible repeat (first|refine blk_drewN ?_ _|refine blk_drew ?_|refine blk_alloc ?_ _));exact BK196.out) hb);have n1_:=Aside0.mk (below_step (by repeat (first|(with_reducible first|exact HB.out|apply below_alloc|apply pw_below_drewN|apply below_drew1|refine below_set ?_ GE196.out)|exact HB.out)) hb);clear BK196;clear HB;have BK196:=n0_;have HB:=n1_;clear n0_ n1_;(try clear hb);(try clear hb2);(try clear hk);(try clear hi);refine hK.out _ _ ⟨(blk_cell BK196.out 0).trans rfl,(blk_cell BK196.out 1).trans rfl,(blk_cell BK196.out 2).trans rfl,(blk_cell BK196.out 3).trans rfl,(blk_cell BK196.out 4).trans rfl,(blk_cell BK196.out 5).trans rfl⟩ (fun hHeld => ?_);clear hK K;refine norm_ (a' := ?_) ?_ ?_;rotate_left
   · show Act.put _ (some 6) _ = _
     simp only [Act.put,List.setIfInBounds_toArray,List.set_cons_zero,List.set_cons_succ,i64_w,i32_w];rfl
   refine pure_ (i:=4) (N:=some 7) (v:=?_) (a' := ?_) #[true,true,true,true,true,false,false,false,false] rfl rfl (any_of HT_.out (by kernel_rfl)) (fun _ _ _ h => h) (Or.inl ⟨by rfl,?_⟩) ?_ ?_;rotate_left
   · intro w';go_simp
     with_reducible rfl
   rotate_left
   · simp only [Act.put,List.setIfInBounds_toArray,List.set_cons_zero,List.set_cons_succ,i64_w,i32_w];rfl
   refine pure_ (i:=5) (N:=some 8) (v:=?_) (a' := ?_) #[true,true,true,true,true,true,false,false,false] rfl rfl (any_of HT_.out (by kernel_rfl)) (fun _ _ _ h => h) (Or.inl ⟨by rfl,?_⟩) ?_ ?_;rotate_left
   · intro w';go_simp
     with_reducible rfl
   rotate_left
   · simp only [Act.put,List.setIfInBounds_toArray,List.set_cons_zero,List.set_cons_succ,i64_w,i32_w];rfl
   refine pure_ (i:=6) (N:=some 9) (v:=undef) (a' := ?_) #[true,true,true,true,true,true,true,false,false] rfl rfl (any_of HT_.out (by kernel_rfl)) (fun _ _ _ h => h) (Or.inr ⟨by rfl,rfl⟩) ?_ ?_;rotate_left
   · simp only [Act.put,List.setIfInBounds_toArray,List.set_cons_zero,List.set_cons_succ,i64_w,i32_w];rfl
   refine pure_ (i:=7) (N:=some 10) (v:=?_) (a' := ?_) #[true,true,true,true,true,true,true,true,false] rfl rfl (any_of HT_.out (by kernel_rfl)) (fun _ _ _ h => h) (Or.inl ⟨by rfl,?_⟩) ?_ ?_;rotate_left
   · intro w';go_simp
     with_reducible rfl
   rotate_left
   · simp only [Act.put,List.setIfInBounds_toArray,List.set_cons_zero,List.set_cons_succ,i64_w,i32_w];rfl
   refine pure_ (i:=8) (N:=some 2) (v:=?_) (a' := ?_) #[true,true,true,true,true,true,true,true,true] rfl rfl (any_of HT_.out (by kernel_rfl)) (fun _ _ _ h => h) (Or.inl ⟨by rfl,?_⟩) ?_ ?_;rotate_left
   · intro w';go_simp
     with_reducible rfl
   rotate_left
   · simp only [Act.put,List.setIfInBounds_toArray,List.set_cons_zero,List.set_cons_succ,i64_w,i32_w];rfl
   refine done_ (done_of HT_.out (by kernel_rfl)) ?_;try go_wp2
   go_ret
   exact ⟨by first|rfl|(simp [errW_none,errW_some] <;> rfl)|(simp [*,errW_none,errW_some] <;> rfl),by repeat (first|(with_reducible first|exact HB.out|apply below_alloc|apply pw_below_drewN|apply below_drew1|refine below_set ?_ GE196.out)|exact HB.out)⟩
end Go.Proofs.YtboojhadfhpdeaaGreatDoor.Q
namespace Go.Proofs.YtboojhadfhpdeaaGreatDoor.Q
open Go.RowKit Go.Proofs.YtboojhadfhpdeaaGreatDoorW.PrintWords
theorem checks_all {x : S25} {A : Option Addr} {c : Nat} {w : World} (hs : SmlT x) (hG : PremW w) (hn : ND w x A c) : Calls Tryz.prog 3 #[val x A c] w fun e w' => e = .returned (.bool true) ∧ Below w.heap.size w w' := by
 refine cruciblelaw08_AstChecks.calls 0 _ _ _ _ A c _ _ true w hn.C hn.le hG ?_;unfold cruciblelaw08_AstChecks.f ast_Check.f crucibleref08_Check.f;rw [if_pos (by cases x;exact hs)];simp only [Option.bind_some,if_true];rfl
end Go.Proofs.YtboojhadfhpdeaaGreatDoor.Q
namespace Go.Proofs.YtboojhadfhpdeaaGreatDoor.Q
theorem sum_mem : ∀ {l : List Nat} {n : Nat},n ∈ l → n ≤ l.sum
 | a :: l,n,h => by
  rcases List.mem_cons.1 h with rfl|h
  · simp
  · have:=sum_mem h;simp only [List.sum_cons];omega
theorem smlT_of_WT {x : S25} {b : Nat} (h : WT x b) : b ≤ 1048576 → SmlT x:=by
 induction h with
 | mk x ws hl hk ih =>
  intro hb;refine SmlT.mk x (by unfold Sml;omega) (fun y hy => ?_);obtain ⟨i,hi,rfl⟩:=List.mem_iff_getElem.1 hy;have hw : i < ws.length:=by omega
  have hm:=sum_mem (List.getElem_mem hw);exact ih i _ _ (List.getElem?_eq_getElem hi) (List.getElem?_eq_getElem hw) (by omega)
end Go.Proofs.YtboojhadfhpdeaaGreatDoor.Q
namespace Go.Proofs.YtboojhadfhpdeaaGreatDoor.astChecks
open Go.ChangeShapes Go.WideShapes Go.ChangeAt Go.RowKit
set_option linter.unusedVariables false
theorem laid_met (os : Os) : laidMet Tryz.prog Rows.astChecksUptoRow.laid (((Frame.laidWorld os)).forCall (fun _ _ => 0) ⟨#[],#[Value.agg #[.int .i64 0,.string ByteArray.empty,.int .u32 0,.bool false,.slice none 0 0,.int .i64 0]],[]⟩).memory :=
 laidMet_of_run' 10 (by kernel_rfl) (by kernel_rfl)
theorem reads (os : Os) {H : Type} (enc : TypeId × Value → H) : ∃ places,DataW.whole enc Tryz.prog ((Frame.laidWorld os).forCall (fun _ _ => 0) ⟨#[],#[Value.agg #[.int .i64 0,.string ByteArray.empty,.int .u32 0,.bool false,.slice none 0 0,.int .i64 0]],[]⟩).memory Tryz.f3.params.toList Rows.astChecksSpec.vars false (#[Value.agg #[.int .i64 0,.string ByteArray.empty,.int .u32 0,.bool false,.slice none 0 0,.int .i64 0]] : Array Value).toList 8 = some ([.agg [.lit (.int .i64 0),.lit (.string []),.lit (.int .u32 0),.lit (.bool false),.nil,.lit (.int .i64 0)]],[],places) :=
 ⟨[],by kernel_rfl⟩
set_option maxRecDepth 100000 in
theorem lifted (os : Os) (started : os.Started) (H : Type) (enc : TypeId × Value → H) (F : Stop.Interp) :
 ReturnsInHanded {} Tryz.checked os 3 .any ((Rows.OpenSpec.upto Rows.astChecksSpec).preRow enc Tryz.prog Tryz.f3 Rows.astChecksUptoRow.domain false Rows.astChecksUptoRow.laid) (((Rows.OpenSpec.upto Rows.astChecksSpec).at F).post enc Tryz.prog Tryz.f3 false true false false):=by
 obtain ⟨places,hx⟩:=reads os enc;refine returnsInHanded_of_row (C:=Tryz.checked) (s:=(Rows.OpenSpec.upto Rows.astChecksSpec)) Frame.own started (by kernel_rfl) Tryz.func3
  (witness_row_atRef (enc:=enc) (C:=Tryz.checked) false (Frame.laidWorld os) #[Value.agg #[.int .i64 0,.string ByteArray.empty,.int .u32 0,.bool false,.slice none 0 0,.int .i64 0]] rfl (by kernel_rfl) (by kernel_rfl) (by kernel_rfl)
   (OpenSpec.preRow_of_cond 8 hx (by kernel_rfl) (fun k hk => by cases hk;kernel_rfl) (by kernel_rfl) (laid_met os))) ?_
 intro W base args ds gs before hval0 hW _ hcond hsz0 hL hS _;have hval : ∀ (j : Nat) t v,Tryz.f3.params[j]? = some t → args[j]? = some v → Value.okWide Tryz.prog W .any base t v:=hval0;have hW' := hW;obtain ⟨p,q,hA0,hV,rfl,hfz,hnd⟩:=hW;have hA : DataW.TrodAll enc Tryz.prog W 0 (fun _ => true) true Tryz.f3.params.toList args.toList ds p:=hA0;rw [Tryz.params3] at hA hval;obtain ⟨v0,vs0,d0,ds0,p0,q0,hargs,rfl,rfl,h0,r0⟩:=trodAll_cons hA;obtain ⟨rfl,rfl,rfl⟩:=trodAll_nil r0;obtain rfl : args = #[v0]:=by cases args;simp_all
 obtain ⟨rfl,rfl⟩:=trodVars_none hV;obtain ⟨cs0,rfl,hz0⟩:=okWide_struct Tryz.underlying25 (hval 0 25 v0 rfl rfl);have k0:=h0;have lt0 : ∀ x ∈ p0,x.block < W.heap.size:=by obtain ⟨m,hm⟩:=k0;exact DataW.trod_lt m _ _ _ hm
 obtain ⟨fuel0,hf0⟩:=h0;obtain ⟨x0,b0,hK0,hw0,hb0⟩:=Q.rd_25w fuel0 _ _ hf0;obtain ⟨A0,c0,hcs0,hle0,hC0⟩:=Q.k25_open hK0;have he0 : cs0 = #[.int .i64 x0.f0,.string x0.f1,.int .u32 x0.f2,.bool x0.f3,.slice A0 x0.f4.length c0,.int .i64 x0.f5]:=by
  have:=congrArg List.toArray hcs0
  simpa [Value.cells] using this
 have hb:=of_decide_eq_true (hcond _ rfl);simp only [List.append_nil,Rows.uptoBulkAll,Nat.add_zero] at hb;clear hA0 hval0 hsz0;refine Go.Proofs.YtboojhadfhpdeaaGreatDoorW.PrintWords.calls_of_args (by rw [he0]) ((Q.checks_all (Q.smlT_of_WT hw0 (Nat.le_trans hb0 hb)) (Frame.prem hS) ⟨hle0,hC0⟩).mono fun e W' ⟨he,bel⟩ => ?_);subst he;exact ⟨_,rfl,_,_,_,[],_,[],hW',trodAll_mk1 (shut_bool Tryz.underlying4 _),(trodAll_cons_mk (Below.trod Frame.laidOut (by kernel_rfl) (of_decide_eq_true (by kernel_rfl)) k0 bel lt0) trodAll_mk0),rfl,bel.frame _,fun h => by cases h⟩
theorem said : Rows.AstChecksUptoSaid :=
 OpenClaim.holds_of_cond 3 Tryz.f3 rfl rfl rfl rfl rfl rfl rfl ⟨rfl,rfl,rfl,rfl,rfl⟩ rfl rfl rfl rfl rfl (by kernel_rfl) Tryz.func3 (by kernel_rfl)
  (of_decide_eq_true (by kernel_rfl)) (by unfold Func.isWrapper;first|(rw [if_pos (by decide +kernel)];kernel_rfl)|(rw [if_neg (by decide +kernel)];exact ⟨rfl,rfl⟩))
  (fun os started H enc _ F => by rw [OpenClaim.pre_eq_preRow];exact lifted os started H enc F)
theorem plain (f : FuncId) (fn : Func) (hf : Tryz.pinned.checked.prog.funcNamed "crucible/cruciblelaw08.AstChecks" = some f) (hfn : Tryz.pinned.checked.prog.funcs[f]? = some fn) :
 false = Tryz.pinned.checked.prog.looks [] ∧ ∀ (j : Nat) t,fn.params[j]? = some t → Tryz.pinned.checked.prog.wantsStandIn t = false:=by
 obtain rfl : f = 3:=Option.some.inj ((show Tryz.prog.funcNamed "crucible/cruciblelaw08.AstChecks" = some 3 by kernel_rfl).symm.trans hf) |>.symm
 obtain rfl : fn = Tryz.f3:=(Option.some.inj (Tryz.func3.symm.trans hfn)).symm;refine ⟨by kernel_rfl,fun j t ht => ?_⟩;rw [Tryz.params3] at ht;have hm : t ∈ (#[25] : Array TypeId):=Array.mem_of_getElem? ht;obtain rfl : t = 25:=by simpa using hm
 exact (show Tryz.prog.wantsStandIn 25 = false by kernel_rfl)
theorem card : Rows.AstChecksUptoCardSaid :=
 Claim7.holds_tied_plain_at .later [] _ _ _ _ said (fun _ h => by cases h) (by kernel_rfl) (fun _ h => by cases h) astChecksUpto_row_tie rfl ⟨rfl,rfl⟩ (by kernel_rfl) rfl plain (by kernel_rfl)
end Go.Proofs.YtboojhadfhpdeaaGreatDoor.astChecks
