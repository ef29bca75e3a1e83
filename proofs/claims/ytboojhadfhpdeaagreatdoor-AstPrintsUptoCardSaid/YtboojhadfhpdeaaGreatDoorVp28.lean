/- Proved: for every tree whose reading is of bulk at most 1048576, AstPrints returns true and the tree reads as it did. Condition: that bound, as the given statement states it. -/
import Derived.Lib.LaidU8
import Derived.Test.YtboojhadfhpdeaaGreatDoorVp2
import Derived.Test.YtboojhadfhpdeaaGreatDoorVp4
import Derived.Test.YtboojhadfhpdeaaGreatDoorVp13
import Derived.Test.YtboojhadfhpdeaaGreatDoorVp17
import Derived.Test.YtboojhadfhpdeaaGreatDoorVp18
import Derived.Test.YtboojhadfhpdeaaGreatDoorVp20
import Derived.Test.YtboojhadfhpdeaaGreatDoorVp21
import Derived.Test.YtboojhadfhpdeaaGreatDoorVp22
import Derived.Test.YtboojhadfhpdeaaGreatDoorVp27
set_option linter.unusedVariables false
set_option linter.unusedSimpArgs false
set_option maxHeartbeats 8000000
set_option maxRecDepth 100000
namespace Go.Proofs.YtboojhadfhpdeaaGreatDoor.Q
open Go.RowKit Go.Proofs.YtboojhadfhpdeaaGreatDoorW.PrintWords Go.Proofs.YtboojhadfhpdeaaGreatDoorW.PrintLast Go.Proofs.YtboojhadfhpdeaaGreatDoorW.PrintMore
noncomputable def qC (x : ak) : List Int:=BH (iQ (SizeOf.sizeOf x)) x.f4
noncomputable def Di (c : Int) (x : ak) : ByteArray:=if c = 0 then (if 1048576 < (qC x).length then ⟨#[]⟩ else strOfNums (qC x)) else ⟨#[]⟩
noncomputable def Dj (c : Int) (x : ak) : Int:=if c = 0 then (if 1048576 < (qC x).length then 3 else 0) else c
def GL (s : ByteArray) (e : Int) (w : World) (en : Ending) (w' : World) : Prop:=en = .returned (.tuple #[.string s,.int .i64 e]) ∧ Below w.heap.size w w'
theorem xY {r : Int} {x : ak} (h : gX r x = 0) : x.f0 = 40 ∧ bK x = true:=by
 unfold gX at h;by_cases h1 : ((x.f0 != 40) || ((r == 0) || !(bK x))) = true
 · rw [if_pos h1] at h;cases h
 · rw [Bool.not_eq_true] at h1;simp only [Bool.or_eq_false_iff,bne_eq_false_iff_eq,Bool.not_eq_false'] at h1;exact ⟨h1.1,h1.2.2⟩
theorem Lu {x : ak} (h : bK x = true) (hk : x.f0 = 40) : ∀ y ∈ x.f4,pG y = true:=by
 obtain ⟨h1,h2⟩:=uf h (by omega);rw [show fQ x = d40 x from by unfold fQ;simp [hk]] at h1;unfold d40 at h1;simp only [Bool.and_eq_true,List.all_eq_true,Bool.or_eq_true,decide_eq_true_eq] at h1;intro y hy;unfold pG;rw [h2 y hy,Bool.and_true];simp only [Bool.or_eq_true,decide_eq_true_eq];rcases h1.2 y hy with (h3|h3)|h3
 · exact .inr (.inl h3)
 · exact .inr (.inr (.inl h3))
 · exact .inr (.inr (.inr h3))
theorem PX.row {t b p : Nat} {l : List Int} {w : World} (h : PX t b p l w) : ∃ A c,w.heap[p]? = some (.cells #[.slice A l.length c] t (0,0)) ∧ (convert 40 9 (.slice A l.length c)).run Tryz.prog w = .ok (.string (strOfNums l)) w:=by
 obtain ⟨v,h1,h2⟩:=h.ex;have h3:=oC (P:=Tryz.prog) (src:=40) (dst:=9) (e:=5) rfl rfl rfl h2;obtain ⟨A,c,rfl⟩:=rF h2;exact ⟨A,c,h1,h3⟩
theorem rG.no {x : ak} {A : Option Addr} {c : Nat} {w : World} {k : Nat} {r : Int} (hr : jW.f k x.f0 x.f1 x.f2 x.f3 x.f4 x.f5 = some r) (hs : nI x) (hm : Tm x) (hG : aH w) (hT : Tb w) (hl : (qC x).length ≤ 70368744177664) (hn : ND w x A c) (hz : gX r x ≠ 0) : Calls Tryz.prog 11 #[val x A c] w (GL (Di (gX r x) x) (Dj (gX r x) x) w):=by
 have HR:=Am hr;have HS:=Am hs;have HP:=Am (show Di (gX r x) x = ⟨#[]⟩ ∧ Dj (gX r x) x = gX r x from by unfold Di Dj;rw [if_neg hz,if_neg hz];exact ⟨rfl,rfl⟩);have b0 : (gX r x != 0) = true:=bne_iff_ne.2 hz;have b1 : (gX r x == 0) = false:=beq_eq_false_iff_ne.2 hz;have E:=Env.start hG hn;clear hr hs hG hn hm hT hl hz;go_enter Tryz.func11,Tryz.ntmps11
 go_wp2_with (first
  | (go_at_call 8;(try clear c0 c1 c2 c3 c4 c5);((refine (Check.all k r HR.out HS.out E.out.bH E.out.nd).mono ?_);rintro e w1 ⟨rfl,hB⟩;replace E:=Am (E.out.step hB);clear hB;obtain ⟨c0,c1,c2,c3,c4,c5⟩:=E.out.cells;(try have hz:=HZ.out)))
  | fail)
 first|go_ret2|go_ret
 exact ⟨by rw [HP.out.1,HP.out.2];rfl,E.out.b⟩
theorem rG.long {x : ak} {A : Option Addr} {c : Nat} {w : World} {k : Nat} {r : Int} (hr : jW.f k x.f0 x.f1 x.f2 x.f3 x.f4 x.f5 = some r) (hs : nI x) (hm : Tm x) (hG : aH w) (hT : Tb w) (hl : (qC x).length ≤ 70368744177664) (hn : ND w x A c) (hz : gX r x = 0) (hL : 1048576 < (qC x).length) : Calls Tryz.prog 11 #[val x A c] w (GL (Di (gX r x) x) (Dj (gX r x) x) w):=by
 have HR:=Am hr;have HS:=Am hs;have HTX:=Am hT;have HG0:=Am hG;have HLL:=Am hl;obtain ⟨hk,hy⟩:=xY hz;have HKK:=Am (show ∀ y ∈ x.f4,ug (SizeOf.sizeOf x) y from fun y hy' => (knP _).l y (dI hy') (Lu hy hk y hy') (hm.kid hy'));have HP:=Am (show Di (gX r x) x = ⟨#[]⟩ ∧ Dj (gX r x) x = 3 from by unfold Di Dj;rw [if_pos hz,if_pos hz,if_pos hL,if_pos hL];exact ⟨rfl,rfl⟩);have HZ:=Am (show gX r x = 0 from hz);have b0 : (gX r x != 0) = false:=by rw [bne,hz];rfl
 have b1 : (gX r x == 0) = true:=by rw [hz];rfl
 have g1 : decide ((1048576 : Int) < ((qC x).length : Int)) = true:=decide_eq_true (by omega);have g2 : decide (1048576 < (qC x).length) = true:=decide_eq_true hL;have oI:=Am hn;have E:=Env.start hG hn;clear hr hs hG hn hm hT hl hL hk hy hz;go_enter Tryz.func11,Tryz.ntmps11
 go_wp2_with (first
  | (go_at_call 8;(try clear c0 c1 c2 c3 c4 c5);((refine (Check.all k r HR.out HS.out E.out.bH E.out.nd).mono ?_);rintro e w1 ⟨rfl,hB⟩;replace E:=Am (E.out.step hB);clear hB;obtain ⟨c0,c1,c2,c3,c4,c5⟩:=E.out.cells;(try have hz:=HZ.out)))
  | (refine Aj rfl rfl rfl rfl ?_;rintro g w2 hg hz2 hB;have HST:=Am (show St false g w (qC x) (BH (iQ (SizeOf.sizeOf x)) x.f4 ++ []) w2 from ⟨Z25 E.out.b hB,⟨[],by rw [List.append_nil];rfl,[],⟨by have:=E.out.b.size;omega,(Z25 E.out.b hB).size,_,hz2,by exact ⟨rfl,.inl ⟨rfl,rfl⟩⟩⟩,.inl rfl⟩,HLL.out,HG0.out,HTX.out⟩);replace E:=Am (E.out.step hB);clear hg hz2 hB c0 c1 c2 c3 c4 c5;obtain ⟨c0,c1,c2,c3,c4,c5⟩:=E.out.cells)
  | (go_at_call 26;((refine (allP.all HKK.out HST.out oI.out.C).mono ?_);rintro e w3 ⟨rfl,hst,hfr⟩;have HFI:=Am (show St false g w (qC x) [] w3 from hst);clear hst hfr c0 c1 c2 c3 c4 c5;obtain ⟨m3,hm3,l3,hx3,hl3⟩:=HFI.out.ex;rw [List.append_nil] at hm3;obtain rfl : l3 = m3:=hl3.resolve_right (fun h => absurd h.1 (by decide));subst hm3;obtain ⟨A3,d3,hp3,hcv⟩:=hx3.row;have cp3:=(Z5 hp3 0).trans (show #[Value.slice A3 (qC x).length d3][0]? = some (.slice A3 (qC x).length d3) from rfl);clear hx3 hl3 hp3))
  | fail)
 first|go_ret2|go_ret
 exact ⟨by rw [HP.out.1,HP.out.2];rfl,HFI.out.b⟩
theorem rG.all {x : ak} {A : Option Addr} {c : Nat} {w : World} {k : Nat} {r : Int} (hr : jW.f k x.f0 x.f1 x.f2 x.f3 x.f4 x.f5 = some r) (hs : nI x) (hm : Tm x) (hG : aH w) (hT : Tb w) (hl : (qC x).length ≤ 70368744177664) (hn : ND w x A c) (hz : gX r x = 0) (hL : ¬ 1048576 < (qC x).length) : Calls Tryz.prog 11 #[val x A c] w (GL (Di (gX r x) x) (Dj (gX r x) x) w):=by
 have HR:=Am hr;have HS:=Am hs;have HTX:=Am hT;have HG0:=Am hG;have HLL:=Am hl;obtain ⟨hk,hy⟩:=xY hz;have HKK:=Am (show ∀ y ∈ x.f4,ug (SizeOf.sizeOf x) y from fun y hy' => (knP _).l y (dI hy') (Lu hy hk y hy') (hm.kid hy'));have HP:=Am (show Di (gX r x) x = strOfNums (qC x) ∧ Dj (gX r x) x = 0 from by unfold Di Dj;rw [if_pos hz,if_pos hz,if_neg hL,if_neg hL];exact ⟨rfl,rfl⟩);have HZ:=Am (show gX r x = 0 from hz);have b0 : (gX r x != 0) = false:=by rw [bne,hz];rfl
 have b1 : (gX r x == 0) = true:=by rw [hz];rfl
 have g1 : decide ((1048576 : Int) < ((qC x).length : Int)) = false:=decide_eq_false (by omega);have g2 : decide (1048576 < (qC x).length) = false:=decide_eq_false hL;have oI:=Am hn;have E:=Env.start hG hn;clear hr hs hG hn hm hT hl hL hk hy hz;go_enter Tryz.func11,Tryz.ntmps11
 go_wp2_with (first
  | (go_at_call 8;(try clear c0 c1 c2 c3 c4 c5);((refine (Check.all k r HR.out HS.out E.out.bH E.out.nd).mono ?_);rintro e w1 ⟨rfl,hB⟩;replace E:=Am (E.out.step hB);clear hB;obtain ⟨c0,c1,c2,c3,c4,c5⟩:=E.out.cells;(try have hz:=HZ.out)))
  | (refine Aj rfl rfl rfl rfl ?_;rintro g w2 hg hz2 hB;have HST:=Am (show St false g w (qC x) (BH (iQ (SizeOf.sizeOf x)) x.f4 ++ []) w2 from ⟨Z25 E.out.b hB,⟨[],by rw [List.append_nil];rfl,[],⟨by have:=E.out.b.size;omega,(Z25 E.out.b hB).size,_,hz2,by exact ⟨rfl,.inl ⟨rfl,rfl⟩⟩⟩,.inl rfl⟩,HLL.out,HG0.out,HTX.out⟩);replace E:=Am (E.out.step hB);clear hg hz2 hB c0 c1 c2 c3 c4 c5;obtain ⟨c0,c1,c2,c3,c4,c5⟩:=E.out.cells)
  | (go_at_call 26;((refine (allP.all HKK.out HST.out oI.out.C).mono ?_);rintro e w3 ⟨rfl,hst,hfr⟩;have HFI:=Am (show St false g w (qC x) [] w3 from hst);clear hst hfr c0 c1 c2 c3 c4 c5;obtain ⟨m3,hm3,l3,hx3,hl3⟩:=HFI.out.ex;rw [List.append_nil] at hm3;obtain rfl : l3 = m3:=hl3.resolve_right (fun h => absurd h.1 (by decide));subst hm3;obtain ⟨A3,d3,hp3,hcv⟩:=hx3.row;have cp3:=(Z5 hp3 0).trans (show #[Value.slice A3 (qC x).length d3][0]? = some (.slice A3 (qC x).length d3) from rfl);clear hx3 hl3 hp3))
  | fail)
 first|go_ret2|go_ret
 exact ⟨by rw [HP.out.1,HP.out.2];rfl,HFI.out.b⟩
theorem rG.any {x : ak} {A : Option Addr} {c : Nat} {w : World} {k : Nat} {r : Int} (hr : jW.f k x.f0 x.f1 x.f2 x.f3 x.f4 x.f5 = some r) (hs : nI x) (hm : Tm x) (hG : aH w) (hT : Tb w) (hl : (qC x).length ≤ 70368744177664) (hn : ND w x A c) : Calls Tryz.prog 11 #[val x A c] w (GL (Di (gX r x) x) (Dj (gX r x) x) w):=by
 by_cases hz : gX r x = 0
 · by_cases hL : 1048576 < (qC x).length
   · exact rG.long hr hs hm hG hT hl hn hz hL
   · exact rG.all hr hs hm hG hT hl hn hz hL
 · exact rG.no hr hs hm hG hT hl hn hz
theorem mY (n k : Nat) : ((n : Int) == (k : Int)) = decide (n = k):=by
 by_cases h : n = k
 · rw [decide_eq_true h,h];simp
 · rw [decide_eq_false h];exact beq_eq_false_iff_ne.2 (by omega)
theorem exs_two {x : ak} (h : exs 2 x bJ = true) : x.f4.length = 2:=by
 unfold exs at h;simp only [Bool.and_eq_true,Bool.or_eq_true,decide_eq_true_eq,beq_iff_eq] at h;omega
theorem placeR.all {x : ak} {A : Option Addr} {c : Nat} {w : World} (hn : ND w x A c) : Calls Tryz.prog 98 #[val x A c] w (bg (EH x) w):=by
 have h : jc.f x.f0 x.f1 x.f2 x.f3 x.f4 x.f5 = some (EH x):=by
  unfold jc.f EH;by_cases h4 : x.f0 = 4 <;> by_cases h5 : x.f0 = 5 <;> by_cases h6 : x.f0 = 6 <;> by_cases h7 : x.f0 = 7 <;> simp [h4,h5,h6,h7]
 exact jc.calls _ _ _ _ A c _ _ _ w hn.C hn.le h
theorem vX.all {x : ak} {A : Option Addr} {c : Nat} {w : World} (hs : gY x.f1) (hG : aH w) (hn : ND w x A c) : Calls Tryz.prog 35 #[val x A c] w (bg (uN x) w):=by
 obtain ⟨k,hk⟩:=(MH x hs).rounds;exact bF.calls k _ _ _ _ A c _ _ _ w hn.C hn.le hk
noncomputable def m1 (x : ak) : Bool:=aI x false true true && (x.f3 || decide (x.f2 < 2147483648)) && exs 0 x bJ
theorem kT.s1t {f0 : Int} {f1 : ByteArray} {f2 : Int} {l : List ak} {p : Int} {A : Option Addr} {c : Nat} {w : World} (h1 : f0 = 1) (hk2 : ∀ y ∈ l,jJ y) (hG : aH w) (hn : ND w ⟨f0,f1,f2,true,l,p⟩ A c) : Calls Tryz.prog 83 #[val ⟨f0,f1,f2,true,l,p⟩ A c] w (bg (m1 ⟨f0,f1,f2,true,l,p⟩) w):=by
 have E:=Env.start hG hn;clear hn hG;have b1 : (f0 == 1) = true:=by rw [h1];rfl
 have H1:=Am h1;clear h1;have HK:=Am hk2;clear hk2;cases h0 : (aI ⟨f0,f1,f2,true,l,p⟩ false true true);rotate_left 1;cases h1 : (exs 0 ⟨f0,f1,f2,true,l,p⟩ bJ);rotate_right 1
 all_goals
  try (have fF:=Am h0;clear h0)
  try (have jK:=Am h1;clear h1)
  go_enter Tryz.func83,Tryz.ntmps83
  go_wp2_with (first
   | (go_at_call 21;(try clear c0 c1 c2 c3 c4 c5);(with_reducible refine Env.call E E.out fF.out (eX.all false true true E.out.bH E.out.nd) (fun w1 E c0 c1 c2 c3 c4 c5 => ?_)))
   | (go_at_call 51;(try clear c0 c1 c2 c3 c4 c5);(with_reducible refine Env.call E E.out jK.out (jl.all 0 HK.out E.out.bH E.out.nd) (fun w1 E c0 c1 c2 c3 c4 c5 => ?_)))
   | fail)
  go_ret
  exact ⟨by unfold m1;(try rw [fF.out]);(try rw [jK.out]);first|done|rfl,dS⟩
theorem kT.s1f {f0 : Int} {f1 : ByteArray} {f2 : Int} {l : List ak} {p : Int} {A : Option Addr} {c : Nat} {w : World} (h1 : f0 = 1) (hk2 : ∀ y ∈ l,jJ y) (hG : aH w) (hn : ND w ⟨f0,f1,f2,false,l,p⟩ A c) : Calls Tryz.prog 83 #[val ⟨f0,f1,f2,false,l,p⟩ A c] w (bg (m1 ⟨f0,f1,f2,false,l,p⟩) w):=by
 have E:=Env.start hG hn;clear hn hG;have b1 : (f0 == 1) = true:=by rw [h1];rfl
 have H1:=Am h1;clear h1;have HK:=Am hk2;clear hk2;cases h0 : (aI ⟨f0,f1,f2,false,l,p⟩ false true true);rotate_left 1;cases h1 : (decide (f2 < 2147483648));rotate_right 1
 rotate_left 2;cases h2 : (exs 0 ⟨f0,f1,f2,false,l,p⟩ bJ);rotate_right 2
 all_goals
  try (have fF:=Am h0;clear h0)
  try (have HC2:=Am h2;clear h2)
  go_enter Tryz.func83,Tryz.ntmps83
  go_wp2_with (first
   | (go_at_call 21;(try clear c0 c1 c2 c3 c4 c5);(with_reducible refine Env.call E E.out fF.out (eX.all false true true E.out.bH E.out.nd) (fun w1 E c0 c1 c2 c3 c4 c5 => ?_)))
   | (go_at_call 51;(try clear c0 c1 c2 c3 c4 c5);(with_reducible refine Env.call E E.out HC2.out (jl.all 0 HK.out E.out.bH E.out.nd) (fun w1 E c0 c1 c2 c3 c4 c5 => ?_)))
   | fail)
  go_ret
  exact ⟨by unfold m1;(try rw [fF.out]);(try rw [h1]);(try rw [HC2.out]);first|done|rfl,dS⟩
theorem m1_eq {x : ak} (hk : x.f0 = 1) : m1 x = bJ x:=by
 rw [lJ (by omega) (by omega) (show aV x = e1 x from by unfold aV;simp [hk]),decide_eq_true hk];unfold e1 m1 aI;rw [exs0 x bJ bK];cases (x.f1.toList == ([] : List UInt8)) <;> cases (x.f2 == 0) <;> cases x.f3 <;> cases ((x.f4.length : Int) == 0) <;> cases x.f4.all bK <;> cases decide (x.f2 < 2147483648) <;> rfl
noncomputable def m2 (x : ak) : Bool:=((aI x false true false) && (decide (x.f2 < 256)) && (exs 0 x bJ))
theorem kT.s2 {x : ak} {A : Option Addr} {c : Nat} {w : World} (hk : x.f0 = 2) (hs : gY x.f1) (hks : ∀ y ∈ x.f4,gY y.f1) (hk2 : ∀ y ∈ x.f4,jJ y) (hG : aH w) (hn : ND w x A c) : Calls Tryz.prog 83 #[val x A c] w (bg (m2 x) w):=by
 have E:=Env.start hG hn;clear hn hG;have b1:=Yf hk 1 rfl
 have b2:=Yt hk 2 rfl
 have HK:=Am hk;clear hk;have HS:=Am hs;clear hs;have HK:=Am hk2;clear hk2;have xZ:=Am hks;clear hks;cases h0 : (aI x false true false);rotate_left 1;cases h1 : (decide (x.f2 < 256));rotate_right 1
 rotate_left 2;cases h2 : (exs 0 x bJ);rotate_right 2
 all_goals
  try (have fF:=Am h0;clear h0)
  try (have HC2:=Am h2;clear h2)
  go_enter Tryz.func83,Tryz.ntmps83
  go_wp2_with (first
   | (go_at_call 21;(try clear c0 c1 c2 c3 c4 c5);(with_reducible refine Env.call E E.out fF.out (eX.all false true false E.out.bH E.out.nd) (fun w1 E c0 c1 c2 c3 c4 c5 => ?_)))
   | (go_at_call 51;(try clear c0 c1 c2 c3 c4 c5);(with_reducible refine Env.call E E.out HC2.out (jl.all 0 HK.out E.out.bH E.out.nd) (fun w1 E c0 c1 c2 c3 c4 c5 => ?_)))
   | fail)
  go_ret
  exact ⟨by unfold m2;(try rw [fF.out]);(try rw [h1]);(try rw [HC2.out]);first|done|rfl,dS⟩
theorem m2_eq {x : ak} (hk : x.f0 = 2) : m2 x = bJ x:=by
 rw [lJ (by omega) (by omega) (show aV x = e2 x from by unfold aV;simp [hk]),decide_eq_false (show ¬ x.f0 = 1 by omega)];unfold m2 e2 aI;have e_:=exs0 x bJ bK;revert e_;generalize (x.f1.toList == ([] : List UInt8)) = b0;generalize (x.f2 == 0) = b1;generalize (x.f3) = b2;generalize ((x.f4.length : Int) == 0) = b3;generalize (x.f4.all bK) = b4;generalize (decide (x.f2 < 256)) = b5;generalize (exs 0 x bJ) = b6;clear hk;revert b0 b1 b2 b3 b4 b5 b6;decide
noncomputable def m3 (x : ak) : Bool:=((aI x true false false) && (exs 0 x bJ))
theorem kT.s3 {x : ak} {A : Option Addr} {c : Nat} {w : World} (hk : x.f0 = 3) (hs : gY x.f1) (hks : ∀ y ∈ x.f4,gY y.f1) (hk2 : ∀ y ∈ x.f4,jJ y) (hG : aH w) (hn : ND w x A c) : Calls Tryz.prog 83 #[val x A c] w (bg (m3 x) w):=by
 have E:=Env.start hG hn;clear hn hG;have b1:=Yf hk 1 rfl
 have b2:=Yf hk 2 rfl
 have b3:=Yt hk 3 rfl
 have HK:=Am hk;clear hk;have HS:=Am hs;clear hs;have HK:=Am hk2;clear hk2;have xZ:=Am hks;clear hks;cases h0 : (aI x true false false);rotate_left 1;cases h1 : (exs 0 x bJ);rotate_right 1
 all_goals
  try (have fF:=Am h0;clear h0)
  try (have jK:=Am h1;clear h1)
  go_enter Tryz.func83,Tryz.ntmps83
  go_wp2_with (first
   | (go_at_call 21;(try clear c0 c1 c2 c3 c4 c5);(with_reducible refine Env.call E E.out fF.out (eX.all true false false E.out.bH E.out.nd) (fun w1 E c0 c1 c2 c3 c4 c5 => ?_)))
   | (go_at_call 51;(try clear c0 c1 c2 c3 c4 c5);(with_reducible refine Env.call E E.out jK.out (jl.all 0 HK.out E.out.bH E.out.nd) (fun w1 E c0 c1 c2 c3 c4 c5 => ?_)))
   | fail)
  go_ret
  exact ⟨by unfold m3;(try rw [fF.out]);(try rw [jK.out]);first|done|rfl,dS⟩
theorem m3_eq {x : ak} (hk : x.f0 = 3) : m3 x = bJ x:=by
 rw [lJ (by omega) (by omega) (show aV x = e3 x from by unfold aV;simp [hk]),decide_eq_false (show ¬ x.f0 = 1 by omega)];unfold m3 e3 aI;have e_:=exs0 x bJ bK;revert e_;generalize (x.f1.toList == ([] : List UInt8)) = b0;generalize (x.f2 == 0) = b1;generalize (x.f3) = b2;generalize ((x.f4.length : Int) == 0) = b3;generalize (x.f4.all bK) = b4;generalize (exs 0 x bJ) = b5;clear hk;revert b0 b1 b2 b3 b4 b5;decide
noncomputable def m4 (x : ak) : Bool:=((aI x true false false) && (jD x.f1) && (exs 0 x bJ))
theorem kT.s4 {x : ak} {A : Option Addr} {c : Nat} {w : World} (hk : x.f0 = 4) (hs : gY x.f1) (hks : ∀ y ∈ x.f4,gY y.f1) (hk2 : ∀ y ∈ x.f4,jJ y) (hG : aH w) (hn : ND w x A c) : Calls Tryz.prog 83 #[val x A c] w (bg (m4 x) w):=by
 have E:=Env.start hG hn;clear hn hG;have b1:=Yf hk 1 rfl
 have b2:=Yf hk 2 rfl
 have b3:=Yf hk 3 rfl
 have b4:=Yt hk 4 rfl
 have HK:=Am hk;clear hk;have HS:=Am hs;clear hs;have HK:=Am hk2;clear hk2;have xZ:=Am hks;clear hks;cases h0 : (aI x true false false);rotate_left 1;cases h1 : (jD x.f1);rotate_right 1
 rotate_left 2;cases h2 : (exs 0 x bJ);rotate_right 2
 all_goals
  try (have fF:=Am h0;clear h0)
  try (have jK:=Am h1;clear h1)
  try (have HC2:=Am h2;clear h2)
  go_enter Tryz.func83,Tryz.ntmps83
  go_wp2_with (first
   | (go_at_call 21;(try clear c0 c1 c2 c3 c4 c5);(with_reducible refine Env.call E E.out fF.out (eX.all true false false E.out.bH E.out.nd) (fun w1 E c0 c1 c2 c3 c4 c5 => ?_)))
   | (go_at_call 34;(try clear c0 c1 c2 c3 c4 c5);(with_reducible refine Env.call E E.out jK.out (sF.all HS.out E.out.bH) (fun w1 E c0 c1 c2 c3 c4 c5 => ?_)))
   | (go_at_call 51;(try clear c0 c1 c2 c3 c4 c5);(with_reducible refine Env.call E E.out HC2.out (jl.all 0 HK.out E.out.bH E.out.nd) (fun w1 E c0 c1 c2 c3 c4 c5 => ?_)))
   | fail)
  go_ret
  exact ⟨by unfold m4;(try rw [fF.out]);(try rw [jK.out]);(try rw [HC2.out]);first|done|rfl,dS⟩
theorem m4_eq {x : ak} (hk : x.f0 = 4) : m4 x = bJ x:=by
 rw [lJ (by omega) (by omega) (show aV x = e4 x from by unfold aV;simp [hk]),decide_eq_false (show ¬ x.f0 = 1 by omega)];unfold m4 e4 aI;have e_:=exs0 x bJ bK;revert e_;generalize (x.f1.toList == ([] : List UInt8)) = b0;generalize (x.f2 == 0) = b1;generalize (x.f3) = b2;generalize ((x.f4.length : Int) == 0) = b3;generalize (x.f4.all bK) = b4;generalize (jD x.f1) = b5;generalize (exs 0 x bJ) = b6;clear hk;revert b0 b1 b2 b3 b4 b5 b6;decide
noncomputable def m5 (x : ak) : Bool:=((aI x false false false) && (exs 2 x bJ))
theorem kT.s5 {x : ak} {A : Option Addr} {c : Nat} {w : World} (hk : x.f0 = 5) (hs : gY x.f1) (hks : ∀ y ∈ x.f4,gY y.f1) (hk2 : ∀ y ∈ x.f4,jJ y) (hG : aH w) (hn : ND w x A c) : Calls Tryz.prog 83 #[val x A c] w (bg (m5 x) w):=by
 have E:=Env.start hG hn;clear hn hG;have b1:=Yf hk 1 rfl
 have b2:=Yf hk 2 rfl
 have b3:=Yf hk 3 rfl
 have b4:=Yf hk 4 rfl
 have b5:=Yt hk 5 rfl
 have HK:=Am hk;clear hk;have HS:=Am hs;clear hs;have HK:=Am hk2;clear hk2;have xZ:=Am hks;clear hks;cases h0 : (aI x false false false);rotate_left 1;cases h1 : (exs 2 x bJ);rotate_right 1
 all_goals
  try (have fF:=Am h0;clear h0)
  try (have jK:=Am h1;clear h1)
  go_enter Tryz.func83,Tryz.ntmps83
  go_wp2_with (first
   | (go_at_call 21;(try clear c0 c1 c2 c3 c4 c5);(with_reducible refine Env.call E E.out fF.out (eX.all false false false E.out.bH E.out.nd) (fun w1 E c0 c1 c2 c3 c4 c5 => ?_)))
   | (go_at_call 51;(try clear c0 c1 c2 c3 c4 c5);(with_reducible refine Env.call E E.out jK.out (jl.all 2 HK.out E.out.bH E.out.nd) (fun w1 E c0 c1 c2 c3 c4 c5 => ?_)))
   | fail)
  go_ret
  exact ⟨by unfold m5;(try rw [fF.out]);(try rw [jK.out]);first|done|rfl,dS⟩
theorem m5_eq {x : ak} (hk : x.f0 = 5) : m5 x = bJ x:=by
 rw [lJ (by omega) (by omega) (show aV x = e5 x from by unfold aV;simp [hk]),decide_eq_false (show ¬ x.f0 = 1 by omega)];unfold m5 e5 aI;rw [show aU (zM.map (·.2)) x.f4 = aU [gQ,gQ] x.f4 from rfl];have e_:=exs2 x;revert e_;generalize (x.f1.toList == ([] : List UInt8)) = b0;generalize (x.f2 == 0) = b1;generalize (x.f3) = b2;generalize (x.f4.all bK) = b3;generalize (aU [gQ,gQ] x.f4) = b4;generalize (exs 2 x bJ) = b5;clear hk;revert b0 b1 b2 b3 b4 b5;decide
noncomputable def m6 (x : ak) : Bool:=((aI x true false false) && (jD x.f1) && (exs 1 x bJ))
theorem kT.s6 {x : ak} {A : Option Addr} {c : Nat} {w : World} (hk : x.f0 = 6) (hs : gY x.f1) (hks : ∀ y ∈ x.f4,gY y.f1) (hk2 : ∀ y ∈ x.f4,jJ y) (hG : aH w) (hn : ND w x A c) : Calls Tryz.prog 83 #[val x A c] w (bg (m6 x) w):=by
 have E:=Env.start hG hn;clear hn hG;have b1:=Yf hk 1 rfl
 have b2:=Yf hk 2 rfl
 have b3:=Yf hk 3 rfl
 have b4:=Yf hk 4 rfl
 have b5:=Yf hk 5 rfl
 have b6:=Yt hk 6 rfl
 have HK:=Am hk;clear hk;have HS:=Am hs;clear hs;have HK:=Am hk2;clear hk2;have xZ:=Am hks;clear hks;cases h0 : (aI x true false false);rotate_left 1;cases h1 : (jD x.f1);rotate_right 1
 rotate_left 2;cases h2 : (exs 1 x bJ);rotate_right 2
 all_goals
  try (have fF:=Am h0;clear h0)
  try (have jK:=Am h1;clear h1)
  try (have HC2:=Am h2;clear h2)
  go_enter Tryz.func83,Tryz.ntmps83
  go_wp2_with (first
   | (go_at_call 21;(try clear c0 c1 c2 c3 c4 c5);(with_reducible refine Env.call E E.out fF.out (eX.all true false false E.out.bH E.out.nd) (fun w1 E c0 c1 c2 c3 c4 c5 => ?_)))
   | (go_at_call 34;(try clear c0 c1 c2 c3 c4 c5);(with_reducible refine Env.call E E.out jK.out (sF.all HS.out E.out.bH) (fun w1 E c0 c1 c2 c3 c4 c5 => ?_)))
   | (go_at_call 51;(try clear c0 c1 c2 c3 c4 c5);(with_reducible refine Env.call E E.out HC2.out (jl.all 1 HK.out E.out.bH E.out.nd) (fun w1 E c0 c1 c2 c3 c4 c5 => ?_)))
   | fail)
  go_ret
  exact ⟨by unfold m6;(try rw [fF.out]);(try rw [jK.out]);(try rw [HC2.out]);first|done|rfl,dS⟩
theorem m6_eq {x : ak} (hk : x.f0 = 6) : m6 x = bJ x:=by
 rw [lJ (by omega) (by omega) (show aV x = e6 x from by unfold aV;simp [hk]),decide_eq_false (show ¬ x.f0 = 1 by omega)];unfold m6 e6 aI;rw [show aU (gE.map (·.2)) x.f4 = aU [gQ] x.f4 from rfl];have e_:=exs1 x;revert e_;generalize (x.f1.toList == ([] : List UInt8)) = b0;generalize (x.f2 == 0) = b1;generalize (x.f3) = b2;generalize (x.f4.all bK) = b3;generalize (jD x.f1) = b4;generalize (aU [gQ] x.f4) = b5;generalize (exs 1 x bJ) = b6;clear hk;revert b0 b1 b2 b3 b4 b5 b6;decide
theorem kT.s7 {x : ak} {A : Option Addr} {c : Nat} {w : World} (hk : x.f0 = 7) (hs : gY x.f1) (hks : ∀ y ∈ x.f4,gY y.f1) (hk2 : ∀ y ∈ x.f4,jJ y) (hG : aH w) (hn : ND w x A c) : Calls Tryz.prog 83 #[val x A c] w (bg (m6 x) w):=by
 have E:=Env.start hG hn;clear hn hG;have b1:=Yf hk 1 rfl
 have b2:=Yf hk 2 rfl
 have b3:=Yf hk 3 rfl
 have b4:=Yf hk 4 rfl
 have b5:=Yf hk 5 rfl
 have b6:=Yf hk 6 rfl
 have b7:=Yt hk 7 rfl
 have HK:=Am hk;clear hk;have HS:=Am hs;clear hs;have HK:=Am hk2;clear hk2;have xZ:=Am hks;clear hks;cases h0 : (aI x true false false);rotate_left 1;cases h1 : (jD x.f1);rotate_right 1
 rotate_left 2;cases h2 : (exs 1 x bJ);rotate_right 2
 all_goals
  try (have fF:=Am h0;clear h0)
  try (have jK:=Am h1;clear h1)
  try (have HC2:=Am h2;clear h2)
  go_enter Tryz.func83,Tryz.ntmps83
  go_wp2_with (first
   | (go_at_call 21;(try clear c0 c1 c2 c3 c4 c5);(with_reducible refine Env.call E E.out fF.out (eX.all true false false E.out.bH E.out.nd) (fun w1 E c0 c1 c2 c3 c4 c5 => ?_)))
   | (go_at_call 34;(try clear c0 c1 c2 c3 c4 c5);(with_reducible refine Env.call E E.out jK.out (sF.all HS.out E.out.bH) (fun w1 E c0 c1 c2 c3 c4 c5 => ?_)))
   | (go_at_call 51;(try clear c0 c1 c2 c3 c4 c5);(with_reducible refine Env.call E E.out HC2.out (jl.all 1 HK.out E.out.bH E.out.nd) (fun w1 E c0 c1 c2 c3 c4 c5 => ?_)))
   | fail)
  go_ret
  exact ⟨by unfold m6;(try rw [fF.out]);(try rw [jK.out]);(try rw [HC2.out]);first|done|rfl,dS⟩
theorem m7_eq {x : ak} (hk : x.f0 = 7) : m6 x = bJ x:=by
 rw [lJ (by omega) (by omega) (show aV x = e6 x from by unfold aV;simp [hk]),decide_eq_false (show ¬ x.f0 = 1 by omega)];unfold m6 e6 aI;rw [show aU (gE.map (·.2)) x.f4 = aU [gQ] x.f4 from rfl];have e_:=exs1 x;revert e_;generalize (x.f1.toList == ([] : List UInt8)) = b0;generalize (x.f2 == 0) = b1;generalize (x.f3) = b2;generalize (x.f4.all bK) = b3;generalize (jD x.f1) = b4;generalize (aU [gQ] x.f4) = b5;generalize (exs 1 x bJ) = b6;clear hk;revert b0 b1 b2 b3 b4 b5 b6;decide
noncomputable def m8 (x : ak) : Bool:=((aI x true false false) && ((jD x.f1) || (x.f1.toList == ([103,101,116,98,121,116,101] : List UInt8)) || (x.f1.toList == ([112,117,116,98,121,116,101] : List UInt8))) && (exs (-1) x bJ))
theorem kT.s8 {x : ak} {A : Option Addr} {c : Nat} {w : World} (hk : x.f0 = 8) (hs : gY x.f1) (hks : ∀ y ∈ x.f4,gY y.f1) (hk2 : ∀ y ∈ x.f4,jJ y) (hG : aH w) (hn : ND w x A c) : Calls Tryz.prog 83 #[val x A c] w (bg (m8 x) w):=by
 have E:=Env.start hG hn;clear hn hG;have b1:=Yf hk 1 rfl
 have b2:=Yf hk 2 rfl
 have b3:=Yf hk 3 rfl
 have b4:=Yf hk 4 rfl
 have b5:=Yf hk 5 rfl
 have b6:=Yf hk 6 rfl
 have b7:=Yf hk 7 rfl
 have b8:=Yt hk 8 rfl
 have HK:=Am hk;clear hk;have HS:=Am hs;clear hs;have HK:=Am hk2;clear hk2;have xZ:=Am hks;clear hks;cases h0 : (aI x true false false);rotate_left 1;cases h1 : (jD x.f1);rotate_right 1
 rotate_left 1;cases h3 : (x.f1.toList == ([103,101,116,98,121,116,101] : List UInt8));rotate_right 1
 rotate_left 1;cases h4 : (x.f1.toList == ([112,117,116,98,121,116,101] : List UInt8));rotate_right 1
 rotate_left 2;cases h2 : (exs (-1) x bJ);rotate_right 2
 rotate_left 4;cases h2 : (exs (-1) x bJ);rotate_right 4
 rotate_left 6;cases h2 : (exs (-1) x bJ);rotate_right 6
 all_goals
  try (have fF:=Am h0;clear h0)
  try (have jK:=Am h1;clear h1)
  try (have HC2:=Am h2;clear h2)
  go_enter Tryz.func83,Tryz.ntmps83
  go_wp2_with (first
   | (go_at_call 21;(try clear c0 c1 c2 c3 c4 c5);(with_reducible refine Env.call E E.out fF.out (eX.all true false false E.out.bH E.out.nd) (fun w1 E c0 c1 c2 c3 c4 c5 => ?_)))
   | (go_at_call 34;(try clear c0 c1 c2 c3 c4 c5);(with_reducible refine Env.call E E.out jK.out (sF.all HS.out E.out.bH) (fun w1 E c0 c1 c2 c3 c4 c5 => ?_)))
   | (go_at_call 51;(try clear c0 c1 c2 c3 c4 c5);(with_reducible refine Env.call E E.out HC2.out (jl.all (-1) HK.out E.out.bH E.out.nd) (fun w1 E c0 c1 c2 c3 c4 c5 => ?_)))
   | fail)
  go_ret
  exact ⟨by unfold m8;(try rw [fF.out]);(try rw [jK.out]);(try rw [HC2.out]);(try rw [h3]);(try rw [h4]);first|done|rfl,dS⟩
theorem m8_eq {x : ak} (hk : x.f0 = 8) : m8 x = bJ x:=by
 rw [lJ (by omega) (by omega) (show aV x = e8 x from by unfold aV;simp [hk]),decide_eq_false (show ¬ x.f0 = 1 by omega)];unfold m8 e8 aI;have e_:=exsn x;revert e_;generalize (x.f1.toList == ([] : List UInt8)) = b0;generalize (x.f2 == 0) = b1;generalize (x.f3) = b2;generalize (x.f4.all bK) = b3;generalize (jD x.f1) = b4;generalize (x.f4.all gQ) = b5;generalize (x.f1.toList == ([103,101,116,98,121,116,101] : List UInt8)) = b6;generalize (x.f1.toList == ([112,117,116,98,121,116,101] : List UInt8)) = b7;generalize (exs (-1) x bJ) = b8;clear hk;revert b0 b1 b2 b3 b4 b5 b6 b7 b8;decide
noncomputable def m9 (x : ak) : Bool:=((aI x true false false) && (nP (⟨#[32,45,32,126,32,33,32,38,32]⟩ : ByteArray).data.toList x.f1.data.toList) && (exs 1 x bJ))
theorem kT.s9 {x : ak} {A : Option Addr} {c : Nat} {w : World} (hk : x.f0 = 9) (hs : gY x.f1) (hks : ∀ y ∈ x.f4,gY y.f1) (hk2 : ∀ y ∈ x.f4,jJ y) (hG : aH w) (hn : ND w x A c) : Calls Tryz.prog 83 #[val x A c] w (bg (m9 x) w):=by
 have E:=Env.start hG hn;clear hn hG;have b1:=Yf hk 1 rfl
 have b2:=Yf hk 2 rfl
 have b3:=Yf hk 3 rfl
 have b4:=Yf hk 4 rfl
 have b5:=Yf hk 5 rfl
 have b6:=Yf hk 6 rfl
 have b7:=Yf hk 7 rfl
 have b8:=Yf hk 8 rfl
 have b9:=Yt hk 9 rfl
 have HK:=Am hk;clear hk;have HS:=Am hs;clear hs;have HK:=Am hk2;clear hk2;have xZ:=Am hks;clear hks;cases h0 : (aI x true false false);rotate_left 1;cases h1 : (nP (⟨#[32,45,32,126,32,33,32,38,32]⟩ : ByteArray).data.toList x.f1.data.toList);rotate_right 1
 rotate_left 2;cases h2 : (exs 1 x bJ);rotate_right 2
 all_goals
  try (have fF:=Am h0;clear h0)
  try (have jK:=Am h1;clear h1)
  try (have HC2:=Am h2;clear h2)
  go_enter Tryz.func83,Tryz.ntmps83
  go_wp2_with (first
   | (go_at_call 21;(try clear c0 c1 c2 c3 c4 c5);(with_reducible refine Env.call E E.out fF.out (eX.all true false false E.out.bH E.out.nd) (fun w1 E c0 c1 c2 c3 c4 c5 => ?_)))
   | (go_at_call 97;(try clear c0 c1 c2 c3 c4 c5);(with_reducible refine Env.call E E.out jK.out (KP.all (⟨#[32,45,32,126,32,33,32,38,32]⟩ : ByteArray) (by decide) HS.out E.out.bH) (fun w1 E c0 c1 c2 c3 c4 c5 => ?_)))
   | (go_at_call 51;(try clear c0 c1 c2 c3 c4 c5);(with_reducible refine Env.call E E.out HC2.out (jl.all 1 HK.out E.out.bH E.out.nd) (fun w1 E c0 c1 c2 c3 c4 c5 => ?_)))
   | fail)
  go_ret
  exact ⟨by unfold m9;(try rw [fF.out]);(try rw [jK.out]);(try rw [HC2.out]);first|done|rfl,dS⟩
theorem m9_eq {x : ak} (hk : x.f0 = 9) : m9 x = bJ x:=by
 rw [lJ (by omega) (by omega) (show aV x = e9 x from by unfold aV;simp [hk]),decide_eq_false (show ¬ x.f0 = 1 by omega)];unfold m9 e9 aI;rw [show aU (gE.map (·.2)) x.f4 = aU [gQ] x.f4 from rfl,show pq ⟨#[45,32,126,32,33,32,38]⟩ x.f1 = nP (⟨#[32,45,32,126,32,33,32,38,32]⟩ : ByteArray).data.toList x.f1.data.toList from rfl];have e_:=exs1 x;revert e_;generalize (x.f1.toList == ([] : List UInt8)) = b0;generalize (x.f2 == 0) = b1;generalize (x.f3) = b2;generalize (x.f4.all bK) = b3;generalize (nP (⟨#[32,45,32,126,32,33,32,38,32]⟩ : ByteArray).data.toList x.f1.data.toList) = b4;generalize (aU [gQ] x.f4) = b5;generalize (exs 1 x bJ) = b6;clear hk;revert b0 b1 b2 b3 b4 b5 b6;decide
noncomputable def m10 (x : ak) : Bool:=((aI x true false false) && (nP (⟨#[32,42,32,47,32,37,32,43,32,45,32,60,60,32,62,62,32,60,32,62,32,60,61,32,62,61,32,61,61,32,33,61,32,38,32,94,32,124,32]⟩ : ByteArray).data.toList x.f1.data.toList) && (exs 2 x bJ))
theorem kT.s10 {x : ak} {A : Option Addr} {c : Nat} {w : World} (hk : x.f0 = 10) (hs : gY x.f1) (hks : ∀ y ∈ x.f4,gY y.f1) (hk2 : ∀ y ∈ x.f4,jJ y) (hG : aH w) (hn : ND w x A c) : Calls Tryz.prog 83 #[val x A c] w (bg (m10 x) w):=by
 have E:=Env.start hG hn;clear hn hG;have b1:=Yf hk 1 rfl
 have b2:=Yf hk 2 rfl
 have b3:=Yf hk 3 rfl
 have b4:=Yf hk 4 rfl
 have b5:=Yf hk 5 rfl
 have b6:=Yf hk 6 rfl
 have b7:=Yf hk 7 rfl
 have b8:=Yf hk 8 rfl
 have b9:=Yf hk 9 rfl
 have b10:=Yt hk 10 rfl
 have HK:=Am hk;clear hk;have HS:=Am hs;clear hs;have HK:=Am hk2;clear hk2;have xZ:=Am hks;clear hks;cases h0 : (aI x true false false);rotate_left 1;cases h1 : (nP (⟨#[32,42,32,47,32,37,32,43,32,45,32,60,60,32,62,62,32,60,32,62,32,60,61,32,62,61,32,61,61,32,33,61,32,38,32,94,32,124,32]⟩ : ByteArray).data.toList x.f1.data.toList);rotate_right 1
 rotate_left 2;cases h2 : (exs 2 x bJ);rotate_right 2
 all_goals
  try (have fF:=Am h0;clear h0)
  try (have jK:=Am h1;clear h1)
  try (have HC2:=Am h2;clear h2)
  go_enter Tryz.func83,Tryz.ntmps83
  go_wp2_with (first
   | (go_at_call 21;(try clear c0 c1 c2 c3 c4 c5);(with_reducible refine Env.call E E.out fF.out (eX.all true false false E.out.bH E.out.nd) (fun w1 E c0 c1 c2 c3 c4 c5 => ?_)))
   | (go_at_call 97;(try clear c0 c1 c2 c3 c4 c5);(with_reducible refine Env.call E E.out jK.out (KP.all (⟨#[32,42,32,47,32,37,32,43,32,45,32,60,60,32,62,62,32,60,32,62,32,60,61,32,62,61,32,61,61,32,33,61,32,38,32,94,32,124,32]⟩ : ByteArray) (by decide) HS.out E.out.bH) (fun w1 E c0 c1 c2 c3 c4 c5 => ?_)))
   | (go_at_call 51;(try clear c0 c1 c2 c3 c4 c5);(with_reducible refine Env.call E E.out HC2.out (jl.all 2 HK.out E.out.bH E.out.nd) (fun w1 E c0 c1 c2 c3 c4 c5 => ?_)))
   | fail)
  go_ret
  exact ⟨by unfold m10;(try rw [fF.out]);(try rw [jK.out]);(try rw [HC2.out]);first|done|rfl,dS⟩
theorem m10_eq {x : ak} (hk : x.f0 = 10) : m10 x = bJ x:=by
 rw [lJ (by omega) (by omega) (show aV x = e10 x from by unfold aV;simp [hk]),decide_eq_false (show ¬ x.f0 = 1 by omega)];unfold m10 e10 aI;rw [show aU (zM.map (·.2)) x.f4 = aU [gQ,gQ] x.f4 from rfl,show pq ⟨#[42,32,47,32,37,32,43,32,45,32,60,60,32,62,62,32,60,32,62,32,60,61,32,62,61,32,61,61,32,33,61,32,38,32,94,32,124]⟩ x.f1 = nP (⟨#[32,42,32,47,32,37,32,43,32,45,32,60,60,32,62,62,32,60,32,62,32,60,61,32,62,61,32,61,61,32,33,61,32,38,32,94,32,124,32]⟩ : ByteArray).data.toList x.f1.data.toList from rfl];have e_:=exs2 x;revert e_;generalize (x.f1.toList == ([] : List UInt8)) = b0;generalize (x.f2 == 0) = b1;generalize (x.f3) = b2;generalize (x.f4.all bK) = b3;generalize (nP (⟨#[32,42,32,47,32,37,32,43,32,45,32,60,60,32,62,62,32,60,32,62,32,60,61,32,62,61,32,61,61,32,33,61,32,38,32,94,32,124,32]⟩ : ByteArray).data.toList x.f1.data.toList) = b4;generalize (aU [gQ,gQ] x.f4) = b5;generalize (exs 2 x bJ) = b6;clear hk;revert b0 b1 b2 b3 b4 b5 b6;decide
noncomputable def m11 (x : ak) : Bool:=((aI x true false false) && (nP (⟨#[32,38,38,32,124,124,32]⟩ : ByteArray).data.toList x.f1.data.toList) && (exs 2 x bJ))
theorem kT.s11 {x : ak} {A : Option Addr} {c : Nat} {w : World} (hk : x.f0 = 11) (hs : gY x.f1) (hks : ∀ y ∈ x.f4,gY y.f1) (hk2 : ∀ y ∈ x.f4,jJ y) (hG : aH w) (hn : ND w x A c) : Calls Tryz.prog 83 #[val x A c] w (bg (m11 x) w):=by
 have E:=Env.start hG hn;clear hn hG;have b1:=Yf hk 1 rfl
 have b2:=Yf hk 2 rfl
 have b3:=Yf hk 3 rfl
 have b4:=Yf hk 4 rfl
 have b5:=Yf hk 5 rfl
 have b6:=Yf hk 6 rfl
 have b7:=Yf hk 7 rfl
 have b8:=Yf hk 8 rfl
 have b9:=Yf hk 9 rfl
 have b10:=Yf hk 10 rfl
 have b11:=Yt hk 11 rfl
 have HK:=Am hk;clear hk;have HS:=Am hs;clear hs;have HK:=Am hk2;clear hk2;have xZ:=Am hks;clear hks;cases h0 : (aI x true false false);rotate_left 1;cases h1 : (nP (⟨#[32,38,38,32,124,124,32]⟩ : ByteArray).data.toList x.f1.data.toList);rotate_right 1
 rotate_left 2;cases h2 : (exs 2 x bJ);rotate_right 2
 all_goals
  try (have fF:=Am h0;clear h0)
  try (have jK:=Am h1;clear h1)
  try (have HC2:=Am h2;clear h2)
  go_enter Tryz.func83,Tryz.ntmps83
  go_wp2_with (first
   | (go_at_call 21;(try clear c0 c1 c2 c3 c4 c5);(with_reducible refine Env.call E E.out fF.out (eX.all true false false E.out.bH E.out.nd) (fun w1 E c0 c1 c2 c3 c4 c5 => ?_)))
   | (go_at_call 97;(try clear c0 c1 c2 c3 c4 c5);(with_reducible refine Env.call E E.out jK.out (KP.all (⟨#[32,38,38,32,124,124,32]⟩ : ByteArray) (by decide) HS.out E.out.bH) (fun w1 E c0 c1 c2 c3 c4 c5 => ?_)))
   | (go_at_call 51;(try clear c0 c1 c2 c3 c4 c5);(with_reducible refine Env.call E E.out HC2.out (jl.all 2 HK.out E.out.bH E.out.nd) (fun w1 E c0 c1 c2 c3 c4 c5 => ?_)))
   | fail)
  go_ret
  exact ⟨by unfold m11;(try rw [fF.out]);(try rw [jK.out]);(try rw [HC2.out]);first|done|rfl,dS⟩
theorem m11_eq {x : ak} (hk : x.f0 = 11) : m11 x = bJ x:=by
 rw [lJ (by omega) (by omega) (show aV x = e11 x from by unfold aV;simp [hk]),decide_eq_false (show ¬ x.f0 = 1 by omega)];unfold m11 e11 aI;rw [show aU (zM.map (·.2)) x.f4 = aU [gQ,gQ] x.f4 from rfl,show pq ⟨#[38,38,32,124,124]⟩ x.f1 = nP (⟨#[32,38,38,32,124,124,32]⟩ : ByteArray).data.toList x.f1.data.toList from rfl];have e_:=exs2 x;revert e_;generalize (x.f1.toList == ([] : List UInt8)) = b0;generalize (x.f2 == 0) = b1;generalize (x.f3) = b2;generalize (x.f4.all bK) = b3;generalize (nP (⟨#[32,38,38,32,124,124,32]⟩ : ByteArray).data.toList x.f1.data.toList) = b4;generalize (aU [gQ,gQ] x.f4) = b5;generalize (exs 2 x bJ) = b6;clear hk;revert b0 b1 b2 b3 b4 b5 b6;decide
noncomputable def m12 (x : ak) : Bool:=((aI x false false false) && (exs 3 x bJ))
theorem kT.s12 {x : ak} {A : Option Addr} {c : Nat} {w : World} (hk : x.f0 = 12) (hs : gY x.f1) (hks : ∀ y ∈ x.f4,gY y.f1) (hk2 : ∀ y ∈ x.f4,jJ y) (hG : aH w) (hn : ND w x A c) : Calls Tryz.prog 83 #[val x A c] w (bg (m12 x) w):=by
 have E:=Env.start hG hn;clear hn hG;have b1:=Yf hk 1 rfl
 have b2:=Yf hk 2 rfl
 have b3:=Yf hk 3 rfl
 have b4:=Yf hk 4 rfl
 have b5:=Yf hk 5 rfl
 have b6:=Yf hk 6 rfl
 have b7:=Yf hk 7 rfl
 have b8:=Yf hk 8 rfl
 have b9:=Yf hk 9 rfl
 have b10:=Yf hk 10 rfl
 have b11:=Yf hk 11 rfl
 have b12:=Yt hk 12 rfl
 have HK:=Am hk;clear hk;have HS:=Am hs;clear hs;have HK:=Am hk2;clear hk2;have xZ:=Am hks;clear hks;cases h0 : (aI x false false false);rotate_left 1;cases h1 : (exs 3 x bJ);rotate_right 1
 all_goals
  try (have fF:=Am h0;clear h0)
  try (have jK:=Am h1;clear h1)
  go_enter Tryz.func83,Tryz.ntmps83
  go_wp2_with (first
   | (go_at_call 21;(try clear c0 c1 c2 c3 c4 c5);(with_reducible refine Env.call E E.out fF.out (eX.all false false false E.out.bH E.out.nd) (fun w1 E c0 c1 c2 c3 c4 c5 => ?_)))
   | (go_at_call 51;(try clear c0 c1 c2 c3 c4 c5);(with_reducible refine Env.call E E.out jK.out (jl.all 3 HK.out E.out.bH E.out.nd) (fun w1 E c0 c1 c2 c3 c4 c5 => ?_)))
   | fail)
  go_ret
  exact ⟨by unfold m12;(try rw [fF.out]);(try rw [jK.out]);first|done|rfl,dS⟩
theorem m12_eq {x : ak} (hk : x.f0 = 12) : m12 x = bJ x:=by
 rw [lJ (by omega) (by omega) (show aV x = e12 x from by unfold aV;simp [hk]),decide_eq_false (show ¬ x.f0 = 1 by omega)];unfold m12 e12 aI;rw [show aU (xE.map (·.2)) x.f4 = aU [gQ,gQ,gQ] x.f4 from rfl];have e_:=exs3 x;revert e_;generalize (x.f1.toList == ([] : List UInt8)) = b0;generalize (x.f2 == 0) = b1;generalize (x.f3) = b2;generalize (x.f4.all bK) = b3;generalize (aU [gQ,gQ,gQ] x.f4) = b4;generalize (exs 3 x bJ) = b5;clear hk;revert b0 b1 b2 b3 b4 b5;decide
noncomputable def m13 (x : ak) : Bool:=((aI x true false false) && (nP (⟨#[32,61,32,43,61,32,45,61,32,42,61,32,47,61,32,37,61,32,38,61,32,124,61,32,94,61,32,60,60,61,32,62,62,61,32]⟩ : ByteArray).data.toList x.f1.data.toList) && (exs 2 x bJ) && (EH (nd x.f4 0)))
theorem kT.s13 {x : ak} {A : Option Addr} {c : Nat} {w : World} (hk : x.f0 = 13) (hs : gY x.f1) (hks : ∀ y ∈ x.f4,gY y.f1) (hk2 : ∀ y ∈ x.f4,jJ y) (hG : aH w) (hn : ND w x A c) : Calls Tryz.prog 83 #[val x A c] w (bg (m13 x) w):=by
 have E:=Env.start hG hn;clear hn hG;have b1:=Yf hk 1 rfl
 have b2:=Yf hk 2 rfl
 have b3:=Yf hk 3 rfl
 have b4:=Yf hk 4 rfl
 have b5:=Yf hk 5 rfl
 have b6:=Yf hk 6 rfl
 have b7:=Yf hk 7 rfl
 have b8:=Yf hk 8 rfl
 have b9:=Yf hk 9 rfl
 have b10:=Yf hk 10 rfl
 have b11:=Yf hk 11 rfl
 have b12:=Yf hk 12 rfl
 have b13:=Yt hk 13 rfl
 have HK:=Am hk;clear hk;have HS:=Am hs;clear hs;have HK:=Am hk2;clear hk2;have xZ:=Am hks;clear hks;cases h0 : (aI x true false false);rotate_left 1;cases h1 : (nP (⟨#[32,61,32,43,61,32,45,61,32,42,61,32,47,61,32,37,61,32,38,61,32,124,61,32,94,61,32,60,60,61,32,62,62,61,32]⟩ : ByteArray).data.toList x.f1.data.toList);rotate_right 1
 rotate_left 2;cases h2 : (exs 2 x bJ);rotate_right 2
 rotate_left 3;cases h3 : (EH (nd x.f4 0));rotate_right 3
 all_goals
  try (have fF:=Am h0;clear h0)
  try (have jK:=Am h1;clear h1)
  try (have HC2:=Am h2;clear h2)
  try (have kR:=Am h3;clear h3)
  go_enter Tryz.func83,Tryz.ntmps83
  go_wp2_with (first
   | (go_at_call 21;(try clear c0 c1 c2 c3 c4 c5);(with_reducible refine Env.call E E.out fF.out (eX.all true false false E.out.bH E.out.nd) (fun w1 E c0 c1 c2 c3 c4 c5 => ?_)))
   | (go_at_call 97;(try clear c0 c1 c2 c3 c4 c5);(with_reducible refine Env.call E E.out jK.out (KP.all (⟨#[32,61,32,43,61,32,45,61,32,42,61,32,47,61,32,37,61,32,38,61,32,124,61,32,94,61,32,60,60,61,32,62,62,61,32]⟩ : ByteArray) (by decide) HS.out E.out.bH) (fun w1 E c0 c1 c2 c3 c4 c5 => ?_)))
   | (go_at_call 51;(try clear c0 c1 c2 c3 c4 c5);(with_reducible refine Env.call E E.out HC2.out (jl.all 2 HK.out E.out.bH E.out.nd) (fun w1 E c0 c1 c2 c3 c4 c5 => ?_));(try (have HL:=Am (exs_two HC2.out);obtain ⟨ad,rfl⟩:=aT E.out.kids (by have:=HL.out;omega);have q0 : 0 < x.f4.length:=(by have:=HL.out;omega);obtain ⟨A0,d0,hn0,bP,bQ,bT,bU,bV,bW⟩:=oN E.out.kids (by have:=HL.out;omega);have gJ:=Am hn0;clear hn0)))
   | (go_at_call 98;(try clear c0 c1 c2 c3 c4 c5);(with_reducible refine Env.call E E.out kR.out (placeR.all gJ.out) (fun w1 E c0 c1 c2 c3 c4 c5 => ?_)))
   | fail)
  go_ret
  exact ⟨by unfold m13;(try rw [fF.out]);(try rw [jK.out]);(try rw [HC2.out]);(try rw [kR.out]);first|done|rfl,dS⟩
theorem m13_eq {x : ak} (hk : x.f0 = 13) : m13 x = bJ x:=by
 rw [lJ (by omega) (by omega) (show aV x = e13 x from by unfold aV;simp [hk]),decide_eq_false (show ¬ x.f0 = 1 by omega)];unfold m13 e13 aI;rw [show aU (Ib.map (·.2)) x.f4 = aU [EH,gQ] x.f4 from rfl,show pq ⟨#[61,32,43,61,32,45,61,32,42,61,32,47,61,32,37,61,32,38,61,32,124,61,32,94,61,32,60,60,61,32,62,62,61]⟩ x.f1 = nP (⟨#[32,61,32,43,61,32,45,61,32,42,61,32,47,61,32,37,61,32,38,61,32,124,61,32,94,61,32,60,60,61,32,62,62,61,32]⟩ : ByteArray).data.toList x.f1.data.toList from rfl];have e_:=exsP x;revert e_;generalize (x.f1.toList == ([] : List UInt8)) = b0;generalize (x.f2 == 0) = b1;generalize (x.f3) = b2;generalize (x.f4.all bK) = b3;generalize (nP (⟨#[32,61,32,43,61,32,45,61,32,42,61,32,47,61,32,37,61,32,38,61,32,124,61,32,94,61,32,60,60,61,32,62,62,61,32]⟩ : ByteArray).data.toList x.f1.data.toList) = b4;generalize (aU [EH,gQ] x.f4) = b5;generalize (exs 2 x bJ) = b6;generalize (EH (nd x.f4 0)) = b7;clear hk;revert b0 b1 b2 b3 b4 b5 b6 b7;decide
noncomputable def m14 (x : ak) : Bool:=((aI x false false false) && ((x.f4.length : Int) == 2) && (uN (nd x.f4 0)) && (bJ (nd x.f4 1)))
theorem kT.s14 {x : ak} {A : Option Addr} {c : Nat} {w : World} (hk : x.f0 = 14) (hs : gY x.f1) (hks : ∀ y ∈ x.f4,gY y.f1) (hk2 : ∀ y ∈ x.f4,jJ y) (hG : aH w) (hn : ND w x A c) : Calls Tryz.prog 83 #[val x A c] w (bg (m14 x) w):=by
 have E:=Env.start hG hn;clear hn hG;have b1:=Yf hk 1 rfl
 have b2:=Yf hk 2 rfl
 have b3:=Yf hk 3 rfl
 have b4:=Yf hk 4 rfl
 have b5:=Yf hk 5 rfl
 have b6:=Yf hk 6 rfl
 have b7:=Yf hk 7 rfl
 have b8:=Yf hk 8 rfl
 have b9:=Yf hk 9 rfl
 have b10:=Yf hk 10 rfl
 have b11:=Yf hk 11 rfl
 have b12:=Yf hk 12 rfl
 have b13:=Yf hk 13 rfl
 have b14:=Yt hk 14 rfl
 have HK:=Am hk;clear hk;have HS:=Am hs;clear hs;have HK:=Am hk2;clear hk2;have xZ:=Am hks;clear hks;cases h0 : (aI x false false false);rotate_left 1;cases h1 : ((x.f4.length : Int) == 2);rotate_right 1
 rotate_left 2;cases h2 : (uN (nd x.f4 0));rotate_right 2
 rotate_left 3;cases h3 : (bJ (nd x.f4 1));rotate_right 3
 all_goals
  try (have fF:=Am h0;clear h0)
  try (have HC2:=Am h2;clear h2)
  try (have kR:=Am h3;clear h3)
  try have HL:=Am (tY (k:=2) h1)
  go_enter Tryz.func83,Tryz.ntmps83
  go_wp2_with (first
   | (go_at_call 21;(try clear c0 c1 c2 c3 c4 c5);(with_reducible refine Env.call E E.out fF.out (eX.all false false false E.out.bH E.out.nd) (fun w1 E c0 c1 c2 c3 c4 c5 => ?_));(try (have gI:=HL.out;clear gI;(try obtain ⟨ad,rfl⟩:=aT E.out.kids (by have:=HL.out;omega))));(try (have gI:=HL.out;clear gI;have q0 : 0 < x.f4.length:=(by have:=HL.out;omega);obtain ⟨A0,d0,hn0,bP,bQ,bT,bU,bV,bW⟩:=oN E.out.kids (by have:=HL.out;omega);have gJ:=Am hn0;clear hn0;have q1 : (1 : Int) < (x.f4.length : Int):=(by have:=HL.out;omega);obtain ⟨A1,d1,hn1,k10,k11,k12,k13,k14,k15⟩:=vN E.out.kids (by have:=HL.out;omega);have iO:=Am hn1;clear hn1)))
   | (go_at_call 35;(try clear c0 c1 c2 c3 c4 c5);(with_reducible refine Env.call E E.out HC2.out (vX.all (xZ.out _ (aQ (by have:=HL.out;omega))) E.out.bH gJ.out) (fun w1 E c0 c1 c2 c3 c4 c5 => ?_));(try (have gI:=HL.out;clear gI;(try obtain ⟨ad,rfl⟩:=aT E.out.kids (by have:=HL.out;omega))));(try (have gI:=HL.out;clear gI;have q1 : (1 : Int) < (x.f4.length : Int):=(by have:=HL.out;omega);obtain ⟨A1,d1,hn1,k10,k11,k12,k13,k14,k15⟩:=vN E.out.kids (by have:=HL.out;omega);have iO:=Am hn1;clear hn1)))
   | (go_at_call 50;(try clear c0 c1 c2 c3 c4 c5);(with_reducible refine Env.call E E.out kR.out (qR.all (HK.out _ (aQ (by have:=HL.out;omega))) E.out.bH iO.out) (fun w1 E c0 c1 c2 c3 c4 c5 => ?_)))
   | fail)
  go_ret
  exact ⟨by unfold m14;(try rw [fF.out]);(try rw [h1]);(try rw [HC2.out]);(try rw [kR.out]);first|done|rfl,dS⟩
theorem m14_eq {x : ak} (hk : x.f0 = 14) : m14 x = bJ x:=by
 rw [lJ (by omega) (by omega) (show aV x = e14 x from by unfold aV;simp [hk]),decide_eq_false (show ¬ x.f0 = 1 by omega)];unfold m14 e14 aI;rw [show ((x.f4.length : Int) == 2) = decide (x.f4.length = 2) from mY _ 2];have e_:=cast_eq x;revert e_;generalize (x.f1.toList == ([] : List UInt8)) = b0;generalize (x.f2 == 0) = b1;generalize (x.f3) = b2;generalize (x.f4.all bK) = b3;generalize (aU [fun x => decide (x.f0 = 16),gQ] x.f4) = b4;generalize (decide (x.f4.length = 2)) = b5;generalize (uN (nd x.f4 0)) = b6;generalize (bJ (nd x.f4 1)) = b7;clear hk;revert b0 b1 b2 b3 b4 b5 b6 b7;decide
noncomputable def m15 (x : ak) : Bool:=((aI x false false false) && ((x.f4.length : Int) == 1) && ((uN (nd x.f4 0)) || (bJ (nd x.f4 0))))
theorem kT.s15 {x : ak} {A : Option Addr} {c : Nat} {w : World} (hk : x.f0 = 15) (hs : gY x.f1) (hks : ∀ y ∈ x.f4,gY y.f1) (hk2 : ∀ y ∈ x.f4,jJ y) (hG : aH w) (hn : ND w x A c) : Calls Tryz.prog 83 #[val x A c] w (bg (m15 x) w):=by
 have E:=Env.start hG hn;clear hn hG;have b1:=Yf hk 1 rfl
 have b2:=Yf hk 2 rfl
 have b3:=Yf hk 3 rfl
 have b4:=Yf hk 4 rfl
 have b5:=Yf hk 5 rfl
 have b6:=Yf hk 6 rfl
 have b7:=Yf hk 7 rfl
 have b8:=Yf hk 8 rfl
 have b9:=Yf hk 9 rfl
 have b10:=Yf hk 10 rfl
 have b11:=Yf hk 11 rfl
 have b12:=Yf hk 12 rfl
 have b13:=Yf hk 13 rfl
 have b14:=Yf hk 14 rfl
 have b15:=Yt hk 15 rfl
 have HK:=Am hk;clear hk;have HS:=Am hs;clear hs;have HK:=Am hk2;clear hk2;have xZ:=Am hks;clear hks;cases h0 : (aI x false false false);rotate_left 1;cases h1 : ((x.f4.length : Int) == 1);rotate_right 1
 rotate_left 2;cases h2 : (uN (nd x.f4 0));rotate_right 2
 rotate_left 2;cases h3 : (bJ (nd x.f4 0));rotate_right 2
 all_goals
  try (have fF:=Am h0;clear h0)
  try (have HC2:=Am h2;clear h2)
  try (have kR:=Am h3;clear h3)
  try have HL:=Am (tY (k:=1) h1)
  go_enter Tryz.func83,Tryz.ntmps83
  go_wp2_with (first
   | (go_at_call 21;(try clear c0 c1 c2 c3 c4 c5);(with_reducible refine Env.call E E.out fF.out (eX.all false false false E.out.bH E.out.nd) (fun w1 E c0 c1 c2 c3 c4 c5 => ?_));(try (have gI:=HL.out;clear gI;(try obtain ⟨ad,rfl⟩:=aT E.out.kids (by have:=HL.out;omega))));(try (have gI:=HL.out;clear gI;have q0 : 0 < x.f4.length:=(by have:=HL.out;omega);obtain ⟨A0,d0,hn0,bP,bQ,bT,bU,bV,bW⟩:=oN E.out.kids (by have:=HL.out;omega);have gJ:=Am hn0;clear hn0)))
   | (go_at_call 35;(try clear c0 c1 c2 c3 c4 c5);(with_reducible refine Env.call E E.out HC2.out (vX.all (xZ.out _ (aQ (by have:=HL.out;omega))) E.out.bH gJ.out) (fun w1 E c0 c1 c2 c3 c4 c5 => ?_));(try (have gI:=HL.out;clear gI;(try obtain ⟨ad,rfl⟩:=aT E.out.kids (by have:=HL.out;omega))));(try (have gI:=HL.out;clear gI;have q0 : 0 < x.f4.length:=(by have:=HL.out;omega);obtain ⟨A0,d0,hn0,bP,bQ,bT,bU,bV,bW⟩:=oN E.out.kids (by have:=HL.out;omega);have gJ:=Am hn0;clear hn0)))
   | (go_at_call 50;(try clear c0 c1 c2 c3 c4 c5);(with_reducible refine Env.call E E.out kR.out (qR.all (HK.out _ (aQ (by have:=HL.out;omega))) E.out.bH gJ.out) (fun w1 E c0 c1 c2 c3 c4 c5 => ?_)))
   | fail)
  go_ret
  exact ⟨by unfold m15;(try rw [fF.out]);(try rw [h1]);(try rw [HC2.out]);(try rw [kR.out]);first|done|rfl,dS⟩
theorem m15_eq {x : ak} (hk : x.f0 = 15) : m15 x = bJ x:=by
 rw [lJ (by omega) (by omega) (show aV x = e15 x from by unfold aV;simp [hk]),decide_eq_false (show ¬ x.f0 = 1 by omega)];unfold m15 e15 aI;rw [show aU (gT.map (·.2)) x.f4 = aU [fun x => decide (x.f0 = 16) || gQ x] x.f4 from rfl,show ((x.f4.length : Int) == 1) = decide (x.f4.length = 1) from mY _ 1];have e_:=size_eq x;revert e_;generalize (x.f1.toList == ([] : List UInt8)) = b0;generalize (x.f2 == 0) = b1;generalize (x.f3) = b2;generalize (x.f4.all bK) = b3;generalize (aU [fun x => decide (x.f0 = 16) || gQ x] x.f4) = b4;generalize (decide (x.f4.length = 1)) = b5;generalize (uN (nd x.f4 0)) = b6;generalize (bJ (nd x.f4 0)) = b7;clear hk;revert b0 b1 b2 b3 b4 b5 b6 b7;decide
structure Kn (n : Nat) (x : ak) : Prop where
 le : SizeOf.sizeOf x ≤ n
 s : nI x
 e : ∀ y,SizeOf.sizeOf y < n → nI y → jJ y
 t : ∀ y,SizeOf.sizeOf y < n → nI y → qQ y
section
variable {n : Nat} {x : ak}
theorem Kn.kid (h : Kn n x) {y : ak} (hy : y ∈ x.f4) : Kn n y:=⟨by have:=dI hy;have:=h.le;omega,h.s.kid hy,h.e,h.t⟩
theorem Kn.kE (h : Kn n x) : ∀ y ∈ x.f4,jJ y:=fun y hy => h.e y (by have:=dI hy;have:=h.le;omega) (h.s.kid hy)
theorem Kn.kS (h : Kn n x) : ∀ y ∈ x.f4,qQ y:=fun y hy => h.t y (by have:=dI hy;have:=h.le;omega) (h.s.kid hy)
theorem Kn.kids (h : Kn n x) : ∀ y ∈ x.f4,gY y.f1:=fun y hy => (h.s.kid hy).str
end
theorem kT.no {x : ak} {A : Option Addr} {c : Nat} {w : World} (hk : ¬ (1 ≤ x.f0 ∧ x.f0 ≤ 15)) (hG : aH w) (hn : ND w x A c) : Calls Tryz.prog 83 #[val x A c] w (bg false w):=by
 have E:=Env.start hG hn;clear hn hG;have b1 : (x.f0 == 1) = false:=beq_eq_false_iff_ne.2 (by omega);have b2 : (x.f0 == 2) = false:=beq_eq_false_iff_ne.2 (by omega);have b3 : (x.f0 == 3) = false:=beq_eq_false_iff_ne.2 (by omega);have b4 : (x.f0 == 4) = false:=beq_eq_false_iff_ne.2 (by omega);have b5 : (x.f0 == 5) = false:=beq_eq_false_iff_ne.2 (by omega);have b6 : (x.f0 == 6) = false:=beq_eq_false_iff_ne.2 (by omega);have b7 : (x.f0 == 7) = false:=beq_eq_false_iff_ne.2 (by omega);have b8 : (x.f0 == 8) = false:=beq_eq_false_iff_ne.2 (by omega);have b9 : (x.f0 == 9) = false:=beq_eq_false_iff_ne.2 (by omega);have b10 : (x.f0 == 10) = false:=beq_eq_false_iff_ne.2 (by omega);have b11 : (x.f0 == 11) = false:=beq_eq_false_iff_ne.2 (by omega);have b12 : (x.f0 == 12) = false:=beq_eq_false_iff_ne.2 (by omega);have b13 : (x.f0 == 13) = false:=beq_eq_false_iff_ne.2 (by omega);have b14 : (x.f0 == 14) = false:=beq_eq_false_iff_ne.2 (by omega);have b15 : (x.f0 == 15) = false:=beq_eq_false_iff_ne.2 (by omega);clear hk;go_enter Tryz.func83,Tryz.ntmps83
 go_wp2
 go_ret
 exact ⟨rfl,dS⟩
theorem kT.all {n : Nat} {x : ak} {A : Option Addr} {c : Nat} {w : World} (hK : Kn n x) (hG : aH w) (hn : ND w x A c) : Calls Tryz.prog 83 #[val x A c] w (bg (bJ x) w):=by
 have hE:=hK.kE;have hS:=hK.kids;have hs:=hK.s.str;by_cases h : x.f0 = 1
 · rw [← m1_eq h];cases x
   rename_i f0 f1 f2 f3 l p
   cases f3
   · exact kT.s1f h hE hG hn
   · exact kT.s1t h hE hG hn
 by_cases h2 : x.f0 = 2
 · rw [← m2_eq h2];exact kT.s2 h2 hs hS hE hG hn
 by_cases h3 : x.f0 = 3
 · rw [← m3_eq h3];exact kT.s3 h3 hs hS hE hG hn
 by_cases h4 : x.f0 = 4
 · rw [← m4_eq h4];exact kT.s4 h4 hs hS hE hG hn
 by_cases h5 : x.f0 = 5
 · rw [← m5_eq h5];exact kT.s5 h5 hs hS hE hG hn
 by_cases h6 : x.f0 = 6
 · rw [← m6_eq h6];exact kT.s6 h6 hs hS hE hG hn
 by_cases h7 : x.f0 = 7
 · rw [← m7_eq h7];exact kT.s7 h7 hs hS hE hG hn
 by_cases h8 : x.f0 = 8
 · rw [← m8_eq h8];exact kT.s8 h8 hs hS hE hG hn
 by_cases h9 : x.f0 = 9
 · rw [← m9_eq h9];exact kT.s9 h9 hs hS hE hG hn
 by_cases h10 : x.f0 = 10
 · rw [← m10_eq h10];exact kT.s10 h10 hs hS hE hG hn
 by_cases h11 : x.f0 = 11
 · rw [← m11_eq h11];exact kT.s11 h11 hs hS hE hG hn
 by_cases h12 : x.f0 = 12
 · rw [← m12_eq h12];exact kT.s12 h12 hs hS hE hG hn
 by_cases h13 : x.f0 = 13
 · rw [← m13_eq h13];exact kT.s13 h13 hs hS hE hG hn
 by_cases Ie : x.f0 = 14
 · rw [← m14_eq Ie];exact kT.s14 Ie hs hS hE hG hn
 by_cases h15 : x.f0 = 15
 · rw [← m15_eq h15];exact kT.s15 h15 hs hS hE hG hn
 rw [show bJ x = false from by unfold bJ;rw [Ih (by omega)];rfl];exact kT.no (by omega) hG hn
section
variable {n : Nat} {x : ak}
theorem Ez (n : Nat) : decide ((n : Int) > 0) = decide (0 < n):=by
 by_cases h : 0 < n
 · rw [decide_eq_true h];exact decide_eq_true (by omega)
 · rw [decide_eq_false h];exact decide_eq_false (by omega)
theorem Kn.exp (h : Kn n x) {i : Nat} (hi : i < x.f4.length) : jJ (nd x.f4 i):=h.kE _ (aQ hi)
end
noncomputable def vF (x : ak) (bare : Bool) : Bool:=((aI x true false true) && (jD x.f1) && (((x.f4.length : Int) == 0) || ((!(bare)) && (!(decide ((x.f4.length : Int) > 1))) && (bJ (nd x.f4 0)))))
theorem varF {n : Nat} {f0 : Int} {f1 : ByteArray} {f2 : Int} {l : List ak} {p : Int} {A : Option Addr} {c : Nat} {w : World} (bare : Bool) (h43 : f0 = 43) (hK : Kn n ⟨f0,f1,f2,false,l,p⟩) (hG : aH w) (hn : ND w ⟨f0,f1,f2,false,l,p⟩ A c) : Calls Tryz.prog 36 #[val ⟨f0,f1,f2,false,l,p⟩ A c,.bool bare] w (bg (vF ⟨f0,f1,f2,false,l,p⟩ bare) w):=by
 have E:=Env.start hG hn;clear hn hG;have b1 : (f0 != 43) = false:=by rw [h43];rfl
 have b2 : (f0 == 43) = true:=by rw [h43];rfl
 clear h43;have HS:=Am hK.s.str;have HK:=Am hK;clear hK;cases h0 : (aI ⟨f0,f1,f2,false,l,p⟩ true false true);rotate_left 1;cases h1 : (jD f1);rotate_right 1
 rotate_left 2;cases h2 : ((l.length : Int) == 0);rotate_right 2
 rotate_left 2;cases h3 : (bare);rotate_right 2
 rotate_left 2;cases h4 : (decide ((l.length : Int) > 1));rotate_right 2
 rotate_left 2;cases h5 : (bJ (nd l 0));rotate_right 2
 all_goals
  try (have fF:=Am h0;clear h0)
  try (have jK:=Am h1;clear h1)
  try have h4m0 : decide ((1 : Int) < l.length) = true:=h4
  try have h4m0 : decide ((1 : Int) < l.length) = false:=h4
  try (have yw:=Am h5;clear h5)
  try have HL : Ad (0 < l.length):=⟨by have:=beq_eq_false_iff_ne.1 h2;omega⟩
  go_enter Tryz.func36,Tryz.ntmps36
  go_wp2_with (first
   | (go_at_call 21;(try clear c0 c1 c2 c3 c4 c5);(with_reducible refine Env.call E E.out fF.out (eX.all true false true E.out.bH E.out.nd) (fun w1 E c0 c1 c2 c3 c4 c5 => ?_)))
   | (go_at_call 34;(try clear c0 c1 c2 c3 c4 c5);(with_reducible refine Env.call E E.out jK.out (sF.all HS.out E.out.bH) (fun w1 E c0 c1 c2 c3 c4 c5 => ?_));(try (have gI:=HL.out;clear gI;(try obtain ⟨ad,rfl⟩:=aT E.out.kids (by have:=HL.out;omega))));(try (have gI:=HL.out;clear gI;have q0 : 0 < l.length:=(by have:=HL.out;omega);obtain ⟨A0,d0,hn0,bP,bQ,bT,bU,bV,bW⟩:=oN E.out.kids (by have:=HL.out;omega);have gJ:=Am hn0;clear hn0)))
   | (go_at_call 50;(try clear c0 c1 c2 c3 c4 c5);(with_reducible refine Env.call E E.out yw.out (qR.all (HK.out.exp (by have:=HL.out;omega)) E.out.bH gJ.out) (fun w1 E c0 c1 c2 c3 c4 c5 => ?_)))
   | fail)
  all_goals (go_ret;exact ⟨by unfold vF;(try rw [fF.out]);(try rw [jK.out]);(try rw [h2]);(try rw [h3]);(try rw [h4]);(try rw [yw.out]);first|done|rfl,dS⟩)
noncomputable def vT (x : ak) (bare : Bool) : Bool:=((aI x true false true) && (jD x.f1) && (!((x.f4.length : Int) == 0)) && ((noT (nd x.f4 0)) || (bJ (nd x.f4 0))) && ((((x.f4.length - 1 : Nat) : Int) == 0) || ((!(bare)) && (!(decide (((x.f4.length - 1 : Nat) : Int) > 1))) && ((((nd x.f4 1).f0 == 44) && (aI (nd x.f4 1) false false false) && (decide (((nd x.f4 1).f4.length : Int) > 0)) && (exs (-1) (nd x.f4 1) bJ)) || (bJ (nd x.f4 1))))))
theorem varT {n : Nat} {f0 : Int} {f1 : ByteArray} {f2 : Int} {l : List ak} {p : Int} {A : Option Addr} {c : Nat} {w : World} (bare : Bool) (h43 : f0 = 43) (hK : Kn n ⟨f0,f1,f2,true,l,p⟩) (hG : aH w) (hn : ND w ⟨f0,f1,f2,true,l,p⟩ A c) : Calls Tryz.prog 36 #[val ⟨f0,f1,f2,true,l,p⟩ A c,.bool bare] w (bg (vT ⟨f0,f1,f2,true,l,p⟩ bare) w):=by
 have E:=Env.start hG hn;clear hn hG;have b1 : (f0 != 43) = false:=by rw [h43];rfl
 have b2 : (f0 == 43) = true:=by rw [h43];rfl
 clear h43;have HS:=Am hK.s.str;have HK:=Am hK;clear hK;cases h0 : (aI ⟨f0,f1,f2,true,l,p⟩ true false true);rotate_left 1;cases h1 : (jD f1);rotate_right 1
 rotate_left 2;cases h2 : ((l.length : Int) == 0);rotate_right 2
 rotate_left 2;cases h3 : (noT (nd l 0));rotate_right 2
 rotate_left 2;cases h12 : (bJ (nd l 0));rotate_right 2
 rotate_left 3;cases h4 : (((l.length - 1 : Nat) : Int) == 0);rotate_right 3
 rotate_left 3;cases h5 : (bare);rotate_right 3
 rotate_left 3;cases h6 : (decide (((l.length - 1 : Nat) : Int) > 1));rotate_right 3
 rotate_left 3;cases h7 : ((nd l 1).f0 == 44);rotate_right 3
 rotate_left 3;cases h11 : (bJ (nd l 1));rotate_right 3
 rotate_left 5;cases h8 : (aI (nd l 1) false false false);rotate_right 5
 rotate_left 5;cases h11 : (bJ (nd l 1));rotate_right 5
 rotate_left 7;cases h9 : (decide (((nd l 1).f4.length : Int) > 0));rotate_right 7
 rotate_left 7;cases h11 : (bJ (nd l 1));rotate_right 7
 rotate_left 9;cases h10 : (exs (-1) (nd l 1) bJ);rotate_right 9
 rotate_left 9;cases h11 : (bJ (nd l 1));rotate_right 9
 rotate_left 15;cases h4 : (((l.length - 1 : Nat) : Int) == 0);rotate_right 15
 rotate_left 15;cases h5 : (bare);rotate_right 15
 rotate_left 15;cases h6 : (decide (((l.length - 1 : Nat) : Int) > 1));rotate_right 15
 rotate_left 15;cases h7 : ((nd l 1).f0 == 44);rotate_right 15
 rotate_left 15;cases h11 : (bJ (nd l 1));rotate_right 15
 rotate_left 17;cases h8 : (aI (nd l 1) false false false);rotate_right 17
 rotate_left 17;cases h11 : (bJ (nd l 1));rotate_right 17
 rotate_left 19;cases h9 : (decide (((nd l 1).f4.length : Int) > 0));rotate_right 19
 rotate_left 19;cases h11 : (bJ (nd l 1));rotate_right 19
 rotate_left 21;cases h10 : (exs (-1) (nd l 1) bJ);rotate_right 21
 rotate_left 21;cases h11 : (bJ (nd l 1));rotate_right 21
 all_goals
  try (have fF:=Am h0;clear h0)
  try (have jK:=Am h1;clear h1)
  try (have kR:=Am h3;clear h3)
  try have h6m0 : decide ((1 : Int) < ((l.length - 1 : Nat) : Int)) = true:=h6
  try have h6m0 : decide ((1 : Int) < ((l.length - 1 : Nat) : Int)) = false:=h6
  try (have HC8:=Am h8;clear h8)
  try have h9m0 : decide (0 < (nd l 1).f4.length) = true:=(Ez _).symm.trans h9
  try have h9m0 : decide (0 < (nd l 1).f4.length) = false:=(Ez _).symm.trans h9
  try (have MZ:=Am h10;clear h10)
  try (have HC11:=Am h11;clear h11)
  try (have HC12:=Am h12;clear h12)
  try have HL2 : Ad (1 < l.length):=⟨by have:=beq_eq_false_iff_ne.1 h4;omega⟩
  try (have gI:=HL2.out;obtain ⟨c2,rfl⟩ : ∃ k,c = k + 2:=⟨c - 2,by have:=E.out.k.le;(try dsimp only at this);omega⟩;clear gI)
  try have HL : Ad (0 < l.length):=⟨by have:=beq_eq_false_iff_ne.1 h2;omega⟩
  go_enter Tryz.func36,Tryz.ntmps36
  go_wp2_with (first
   | (go_at_call 21;(try clear c0 c1 c2 c3 c4 c5);(with_reducible refine Env.call E E.out fF.out (eX.all true false true E.out.bH E.out.nd) (fun w1 E c0 c1 c2 c3 c4 c5 => ?_)))
   | (go_at_call 34;(try clear c0 c1 c2 c3 c4 c5);(with_reducible refine Env.call E E.out jK.out (sF.all HS.out E.out.bH) (fun w1 E c0 c1 c2 c3 c4 c5 => ?_));(try (have gI:=HL.out;clear gI;obtain ⟨ad,rfl⟩:=aT E.out.kids (by have:=HL.out;omega)));(try (have gI:=HL.out;clear gI;have q0 : 0 < l.length:=(by have:=HL.out;omega);obtain ⟨A0,d0,hn0,bP,bQ,bT,bU,bV,bW⟩:=oN E.out.kids (by have:=HL.out;omega);have gJ:=Am hn0;clear hn0)))
   | (go_at_call 49;(try clear c0 c1 c2 c3 c4 c5);(with_reducible refine Env.call E E.out kR.out (KQ.all E.out.bH gJ.out) (fun w1 E c0 c1 c2 c3 c4 c5 => ?_));(try (have gI:=HL.out;clear gI;obtain ⟨ad,rfl⟩:=aT E.out.kids (by have:=HL.out;omega)));(try (have gI:=HL.out;clear gI;have q0 : 0 < l.length:=(by have:=HL.out;omega);obtain ⟨A0,d0,hn0,bP,bQ,bT,bU,bV,bW⟩:=oN E.out.kids (by have:=HL.out;omega);have gJ:=Am hn0;clear hn0));(try (have gI:=HL2.out;clear gI;have q1 : (1 : Int) < (l.length : Int):=(by have:=HL2.out;omega);obtain ⟨A1,d1,hn1,k10,k11,k12,k13,k14,k15⟩:=vN E.out.kids (by have:=HL2.out;omega);have iO:=Am hn1;clear hn1)))
   | (go_at_call 21;(try clear c0 c1 c2 c3 c4 c5);(with_reducible refine Env.call E E.out HC8.out (eX.all false false false E.out.bH iO.out) (fun w1 E c0 c1 c2 c3 c4 c5 => ?_));(try (have gI:=HL.out;clear gI;obtain ⟨ad,rfl⟩:=aT E.out.kids (by have:=HL.out;omega)));(try (have gI:=HL2.out;clear gI;have q1 : (1 : Int) < (l.length : Int):=(by have:=HL2.out;omega);obtain ⟨A1,d1,hn1,k10,k11,k12,k13,k14,k15⟩:=vN E.out.kids (by have:=HL2.out;omega);have iO:=Am hn1;clear hn1)))
   | (go_at_call 51;(try clear c0 c1 c2 c3 c4 c5);(with_reducible refine Env.call E E.out MZ.out (jl.all (-1) (HK.out.kid (aQ (by have:=HL2.out;omega))).kE E.out.bH iO.out) (fun w1 E c0 c1 c2 c3 c4 c5 => ?_));(try (have gI:=HL.out;clear gI;obtain ⟨ad,rfl⟩:=aT E.out.kids (by have:=HL.out;omega)));(try (have gI:=HL2.out;clear gI;have q1 : (1 : Int) < (l.length : Int):=(by have:=HL2.out;omega);obtain ⟨A1,d1,hn1,k10,k11,k12,k13,k14,k15⟩:=vN E.out.kids (by have:=HL2.out;omega);have iO:=Am hn1;clear hn1)))
   | (go_at_call 50;(try clear c0 c1 c2 c3 c4 c5);(with_reducible refine Env.call E E.out HC11.out (qR.all (HK.out.exp (by have:=HL2.out;omega)) E.out.bH iO.out) (fun w1 E c0 c1 c2 c3 c4 c5 => ?_)))
   | (go_at_call 50;(try clear c0 c1 c2 c3 c4 c5);(with_reducible refine Env.call E E.out HC12.out (qR.all (HK.out.exp (by have:=HL.out;omega)) E.out.bH gJ.out) (fun w1 E c0 c1 c2 c3 c4 c5 => ?_));(try (have gI:=HL.out;clear gI;obtain ⟨ad,rfl⟩:=aT E.out.kids (by have:=HL.out;omega)));(try (have gI:=HL2.out;clear gI;have q1 : (1 : Int) < (l.length : Int):=(by have:=HL2.out;omega);obtain ⟨A1,d1,hn1,k10,k11,k12,k13,k14,k15⟩:=vN E.out.kids (by have:=HL2.out;omega);have iO:=Am hn1;clear hn1)))
   | fail)
  all_goals (go_ret;exact ⟨by unfold vT;(try rw [fF.out]);(try rw [jK.out]);(try rw [h2]);(try rw [kR.out]);(try rw [h4]);(try rw [h5]);(try rw [h6]);(try rw [h7]);(try rw [HC8.out]);(try rw [h9]);(try rw [MZ.out]);(try rw [HC11.out]);(try rw [HC12.out]);first|done|rfl,dS⟩)
theorem yY.no {x : ak} {A : Option Addr} {c : Nat} {w : World} (bare : Bool) (hk : x.f0 ≠ 43) (hG : aH w) (hn : ND w x A c) : Calls Tryz.prog 36 #[val x A c,.bool bare] w (bg false w):=by
 have E:=Env.start hG hn;clear hn hG;have b1 : (x.f0 != 43) = true:=bne_iff_ne.2 hk;have b2 : (x.f0 == 43) = false:=beq_eq_false_iff_ne.2 hk;clear hk;go_enter Tryz.func36,Tryz.ntmps36
 go_wp2
 go_ret
 exact ⟨rfl,dS⟩
theorem vF_eq {x : ak} (bare : Bool) (h : x.f0 = 43) (h3 : x.f3 = false) : vF x bare = Ii bare x:=by
 rw [vaT_eq h];unfold vF vaK endT;rw [h3,if_neg (by decide),show ((x.f4.length : Int) == 0) = decide (x.f4.length = 0) from mY _ 0];by_cases h0 : x.f4.length = 0
 · rw [decide_eq_true h0,Bool.true_or,Bool.true_or,Bool.and_assoc]
 by_cases h1 : x.f4.length = 1
 · rw [decide_eq_false h0,decide_eq_true h1,decide_eq_false (show ¬ (x.f4.length : Int) > 1 by omega)];cases aI x true false true <;> cases jD x.f1 <;> cases bare <;> cases bJ (nd x.f4 0) <;> rfl
 · rw [decide_eq_false h0,decide_eq_false h1,decide_eq_true (show (x.f4.length : Int) > 1 by omega)];cases aI x true false true <;> cases jD x.f1 <;> cases bare <;> cases bJ (nd x.f4 0) <;> rfl
theorem vT_eq {x : ak} (bare : Bool) (h : x.f0 = 43) (h3 : x.f3 = true) : vT x bare = Ii bare x:=by
 rw [vaT_eq h];unfold vT vaK endT;rw [h3,if_pos rfl,List.length_drop,iP,show ((x.f4.length : Int) == 0) = decide (x.f4.length = 0) from mY _ 0,show (((x.f4.length - 1 : Nat) : Int) == 0) = decide (x.f4.length - 1 = 0) from mY _ 0];by_cases h0 : x.f4.length = 0
 · rw [decide_eq_true h0,decide_eq_false (show ¬ x.f4.length ≠ 0 from fun h => h h0)];cases aI x true false true <;> cases jD x.f1 <;> rfl
 rw [decide_eq_false h0,decide_eq_true (show x.f4.length ≠ 0 from h0)];by_cases h1 : x.f4.length - 1 = 0
 · rw [decide_eq_true h1];cases aI x true false true <;> cases jD x.f1 <;> cases noT (nd x.f4 0) <;> cases bJ (nd x.f4 0) <;> rfl
 by_cases h2 : x.f4.length - 1 = 1
 · have e : ((nd x.f4 1).f0 == 44 && aI (nd x.f4 1) false false false && decide (((nd x.f4 1).f4.length : Int) > 0) && exs (-1) (nd x.f4 1) bJ) = liT (nd x.f4 1):=by
    by_cases h4 : (nd x.f4 1).f0 = 44
    · rw [liT_eq h4,show ((nd x.f4 1).f0 == 44) = true from beq_iff_eq.2 h4,show exs (-1) (nd x.f4 1) bJ = (nd x.f4 1).f4.all bJ from rfl,Ez,show decide (0 < (nd x.f4 1).f4.length) = decide ((nd x.f4 1).f4.length ≠ 0) from by congr 1;exact propext ⟨fun h => by omega,fun h => by omega⟩];cases aI (nd x.f4 1) false false false <;> cases decide ((nd x.f4 1).f4.length ≠ 0) <;> rfl
    · unfold liT;rw [decide_eq_false h4,show ((nd x.f4 1).f0 == 44) = false from beq_eq_false_iff_ne.2 h4];rfl
   rw [e,decide_eq_false h1,decide_eq_true h2,decide_eq_false (show ¬ ((x.f4.length - 1 : Nat) : Int) > 1 by omega)];cases aI x true false true <;> cases jD x.f1 <;> cases noT (nd x.f4 0) <;> cases bJ (nd x.f4 0) <;> cases bare <;> cases bJ (nd x.f4 1) <;> cases liT (nd x.f4 1) <;> rfl
 · rw [decide_eq_false h1,decide_eq_false h2,decide_eq_true (show ((x.f4.length - 1 : Nat) : Int) > 1 by omega)];cases aI x true false true <;> cases jD x.f1 <;> cases noT (nd x.f4 0) <;> cases bJ (nd x.f4 0) <;> cases bare <;> rfl
theorem yY.all {n : Nat} {x : ak} {A : Option Addr} {c : Nat} {w : World} (bare : Bool) (hK : Kn n x) (hG : aH w) (hn : ND w x A c) : Calls Tryz.prog 36 #[val x A c,.bool bare] w (bg (Ii bare x) w):=by
 by_cases h : x.f0 = 43
 · cases h3 : x.f3 with
   | false =>
    rw [← vF_eq bare h h3];cases x;subst h3;exact varF bare h hK hG hn
   | true =>
    rw [← vT_eq bare h h3];cases x;subst h3;exact varT bare h hK hG hn
 · rw [show Ii bare x = false from by unfold Ii;rw [decide_eq_false h];rfl];exact yY.no bare h hG hn
noncomputable def yZ (x : ak) : Bool:=((aI x false false false) && (!(decide ((x.f4.length : Int) < 2))) && (uN (nd x.f4 0)))
theorem yc.p {x : ak} {A : Option Addr} {c : Nat} {w : World} (bare : Bool) {n : Nat} (hk : x.f0 = 42) (hK : Kn n x) (hp0 : aI x false false false = true) (hp1 : 2 ≤ x.f4.length) (hp2 : uN (nd x.f4 0) = true) (hG : aH w) (hn : ND w x A c) : Calls Tryz.prog 23 #[val x A c,.bool bare] w (bg (x.f4.tail.all (Ii bare)) w):=by
 have uI:=Am hn.C.2.1;have E:=Env.start hG hn;clear hn hG;have b1 : (x.f0 != 42) = false:=by rw [hk];rfl
 have b2:=Yt hk 42 rfl
 clear hk;have HS:=Am hK.s.str;have xZ:=Am hK.kids;have HK:=Am hK;clear hK;have P0:=Am hp0;have P1:=Am hp1;have P2:=Am hp2;have f1 : decide ((x.f4.length : Int) < 2) = false:=decide_eq_false (by omega);have HL : Ad (0 < x.f4.length):=⟨by omega⟩
 clear hp0;clear hp1;clear hp2;go_enter Tryz.func23,Tryz.ntmps23
 go_wp2_with (first
  | (go_at_call 21;(try clear c0 c1 c2 c3 c4 c5);(with_reducible refine Env.call E E.out P0.out (eX.all false false false E.out.bH E.out.nd) (fun w1 E c0 c1 c2 c3 c4 c5 => ?_));(try (have gI:=HL.out;clear gI;obtain ⟨ad,rfl⟩:=aT E.out.kids (by have:=HL.out;omega)));(try (have gI:=HL.out;clear gI;have q0 : 0 < x.f4.length:=(by have:=HL.out;omega);obtain ⟨A0,d0,hn0,bP,bQ,bT,bU,bV,bW⟩:=oN E.out.kids (by have:=HL.out;omega);have gJ:=Am hn0;clear hn0)))
  | (go_at_call 35;(try clear c0 c1 c2 c3 c4 c5);(with_reducible refine Env.call E E.out P2.out (vX.all (xZ.out _ (aQ (by have:=HL.out;omega))) E.out.bH gJ.out) (fun w1 E c0 c1 c2 c3 c4 c5 => ?_));skip)
  | fail)
 try clear c0 c1 c2 c3 c4 c5
 go_loopg [5] x.f4.length (fun kq v w' => ∃ i : Nat,v = .int .i64 i ∧ Ad (i + kq = x.f4.length + 1) ∧ Ad (1 ≤ i) ∧ Ad (∀ j,1 ≤ j → j < i → j < x.f4.length → (Ii bare) (nd x.f4 j) = true) ∧ Ad (Env w x (some ad) c w'))
 case atStart => exact ⟨1,rfl,⟨by omega⟩,⟨Nat.le_refl _⟩,⟨fun j h1 h2 => by omega⟩,by first|exact E|exact ⟨E.out.alloc _⟩⟩
 case round =>
  obtain ⟨i,rfl,HI,H0,HP,E⟩:=hrel;obtain ⟨c0,c1,c2,c3,c4,c5⟩:=E.out.cells;by_cases hi : i < x.f4.length
  · have qp : decide (i < x.f4.length) = true:=decide_eq_true hi;have e1 : decide ((i : Int) < (x.f4.length : Int)) = true:=decide_eq_true (by omega);have p1 : (0 : Int) ≤ (i : Int):=by omega
    have q1 : (i : Int) < (x.f4.length : Int):=by omega
    obtain ⟨A',c',hnd,k0,k1,k2,k3,k4,k5⟩:=jO E.out.kids hi;have uM:=Am hnd;have gZ:=Am hi;have jU:=Am (aQ hi);clear hi hnd;have w3 : wrap64 ((i : Int) + 1) = (i : Int) + 1:=by have:=uI.out;have:=gZ.out;unfold wrap64;omega
    have w4 : IntKind.i64.wrap ((i : Int) + 1) = (i : Int) + 1:=(bY _).trans w3;cases hp0 : Ii bare (nd x.f4 i);all_goals
     try (have fF:=Am hp0;clear hp0)
     go_wp2_with (first
      | (go_at_call 36;(try clear c0 c1 c2 c3 c4 c5);(with_reducible refine Env.call E E.out fF.out (yY.all bare (HK.out.kid jU.out) E.out.bH uM.out) (fun w1 E c0 c1 c2 c3 c4 c5 => ?_));(try (clear k0 k1 k2 k3 k4 k5;obtain ⟨A2,c2_,hnd,k0,k1,k2,k3,k4,k5⟩:=jO E.out.kids gZ.out;have uM:=Am hnd;clear hnd)))
      | fail)
     first
      | (go_ret;exact ⟨by rw [Ij (p:=(Ii bare)) H0.out gZ.out (by (try dsimp only);(try rw [fF.out]);first|done|rfl)];rfl,dS⟩)
      | (go_roundg (x.f4.length + 1 - (i + 1))
         case measure => have:=HI.out;have:=gZ.out;omega
         case rel => exact ⟨i + 1,by (try simp only [w4,w3]);rfl,⟨by have:=HI.out;have:=gZ.out;omega⟩,⟨by have:=H0.out;omega⟩,⟨fun j h1 h2 h3 => by
          by_cases hj : j = i
          · subst hj;(try dsimp only);(try rw [fF.out]);first|done|rfl
          · exact HP.out j h1 (by omega) h3⟩,E⟩)
  · have qp : decide (i < x.f4.length) = false:=decide_eq_false hi;have e1 : decide ((i : Int) < (x.f4.length : Int)) = false:=decide_eq_false (by omega);have HH:=Am (MI (p:=(Ii bare)) (l:=x.f4) (fun j h1 h2 => HP.out j h1 (by omega) h2));clear hi HP HI;go_wp2
    go_ret
    exact ⟨by rw [HH.out];rfl,dS⟩
theorem yc.f {n : Nat} {x : ak} {A : Option Addr} {c : Nat} {w : World} (bare : Bool) (hk : x.f0 = 42) (hpre : yZ x = false) (hK : Kn n x) (hG : aH w) (hn : ND w x A c) : Calls Tryz.prog 23 #[val x A c,.bool bare] w (bg (false) w):=by
 have E:=Env.start hG hn;clear hn hG;have b1 : (x.f0 != 42) = false:=by rw [hk];rfl
 have b2:=Yt hk 42 rfl
 clear hk;have HS:=Am hK.s.str;have xZ:=Am hK.kids;have HK:=Am hK;clear hK;cases h0 : (aI x false false false);rotate_left 1;cases h1 : (decide ((x.f4.length : Int) < 2));rotate_right 1
 rotate_left 1;cases h2 : (uN (nd x.f4 0));rotate_right 1
 rotate_left 2;(exact absurd (hpre.symm.trans (show yZ x = true from by unfold yZ;(try rw [h0]);(try rw [h1]);(try rw [h2]);first|done|rfl)) (by decide));rotate_right 2
 all_goals
  try (have fF:=Am h0;clear h0)
  try have iL : decide ((2 : Int) > x.f4.length) = true:=h1
  try have iL : decide ((2 : Int) > x.f4.length) = false:=h1
  try (have HC2:=Am h2;clear h2)
  clear hpre;try have HL : Ad (0 < x.f4.length):=⟨by have:=of_decide_eq_false h1;omega⟩
  go_enter Tryz.func23,Tryz.ntmps23
  go_wp2_with (first
   | (go_at_call 21;(try clear c0 c1 c2 c3 c4 c5);(with_reducible refine Env.call E E.out fF.out (eX.all false false false E.out.bH E.out.nd) (fun w1 E c0 c1 c2 c3 c4 c5 => ?_));(try (have gI:=HL.out;clear gI;obtain ⟨ad,rfl⟩:=aT E.out.kids (by have:=HL.out;omega)));(try (have gI:=HL.out;clear gI;have q0 : 0 < x.f4.length:=(by have:=HL.out;omega);obtain ⟨A0,d0,hn0,bP,bQ,bT,bU,bV,bW⟩:=oN E.out.kids (by have:=HL.out;omega);have gJ:=Am hn0;clear hn0)))
   | (go_at_call 35;(try clear c0 c1 c2 c3 c4 c5);(with_reducible refine Env.call E E.out HC2.out (vX.all (xZ.out _ (aQ (by have:=HL.out;omega))) E.out.bH gJ.out) (fun w1 E c0 c1 c2 c3 c4 c5 => ?_)))
   | fail)
  go_ret
  exact ⟨rfl,dS⟩
theorem yc.no {n : Nat} {x : ak} {A : Option Addr} {c : Nat} {w : World} (bare : Bool) (hk : x.f0 ≠ 42) (hG : aH w) (hn : ND w x A c) : Calls Tryz.prog 23 #[val x A c,.bool bare] w (bg (false) w):=by
 have E:=Env.start hG hn;clear hn hG;have b1 : (x.f0 != 42) = true:=bne_iff_ne.2 hk;have b2 : (x.f0 == 42) = false:=beq_eq_false_iff_ne.2 hk;clear hk;go_enter Tryz.func23,Tryz.ntmps23
 go_wp2
 go_ret
 exact ⟨rfl,dS⟩
theorem yc.all {n : Nat} {x : ak} {A : Option Addr} {c : Nat} {w : World} (bare : Bool) (hK : Kn n x) (hG : aH w) (hn : ND w x A c) : Calls Tryz.prog 23 #[val x A c,.bool bare] w (bg (zO bare x) w):=by
 by_cases h : x.f0 = 42
 · rw [vsT_eq h,List.drop_one,← Bool.and_assoc,← Bool.and_assoc];have e : (aI x false false false && decide (2 ≤ x.f4.length) && uN (nd x.f4 0)) = yZ x:=by
    unfold yZ;rw [show (!decide ((x.f4.length : Int) < 2)) = decide (2 ≤ x.f4.length) from by by_cases h : 2 ≤ x.f4.length <;> simp [h] <;> omega]
   rw [e];cases hp : yZ x with
   | false => exact yc.f bare h hp hK hG hn
   | true =>
    rw [← e] at hp;simp only [Bool.and_eq_true,decide_eq_true_eq] at hp;exact yc.p bare h hK hp.1.1 hp.1.2 hp.2 hG hn
 · rw [show zO bare x = false from by unfold zO;rw [decide_eq_false h];rfl];exact yc.no (n:=0) bare h hG hn
def oV (x : ak) : Bool:=((aI x true false false) && (jD x.f1))
theorem rU.p {x : ak} {A : Option Addr} {c : Nat} {w : World} {n : Nat} (hk : x.f0 = 41) (hK : Kn n x) (hp0 : aI x true false false = true) (hp1 : jD x.f1 = true) (hG : aH w) (hn : ND w x A c) : Calls Tryz.prog 22 #[val x A c] w (bg (x.f4.all (zO true)) w):=by
 have uI:=Am hn.C.2.1;have E:=Env.start hG hn;clear hn hG;have b1 : (x.f0 != 41) = false:=by rw [hk];rfl
 have b2:=Yt hk 41 rfl
 clear hk;have HS:=Am hK.s.str;have xZ:=Am hK.kids;have HK:=Am hK;clear hK;have P0:=Am hp0;have P1:=Am hp1;clear hp0;clear hp1;go_enter Tryz.func22,Tryz.ntmps22
 go_wp2_with (first
  | (go_at_call 21;(try clear c0 c1 c2 c3 c4 c5);(with_reducible refine Env.call E E.out P0.out (eX.all true false false E.out.bH E.out.nd) (fun w1 E c0 c1 c2 c3 c4 c5 => ?_));skip)
  | (go_at_call 34;(try clear c0 c1 c2 c3 c4 c5);(with_reducible refine Env.call E E.out P1.out (sF.all HS.out E.out.bH) (fun w1 E c0 c1 c2 c3 c4 c5 => ?_));skip)
  | fail)
 try clear c0 c1 c2 c3 c4 c5
 go_loopg [3] x.f4.length (fun kq v w' => ∃ i : Nat,v = .int .i64 i ∧ Ad (i + kq = x.f4.length + 0) ∧ Ad (0 ≤ i) ∧ Ad (∀ j,0 ≤ j → j < i → j < x.f4.length → (zO true) (nd x.f4 j) = true) ∧ Ad (Env w x A c w'))
 case atStart => exact ⟨0,rfl,⟨by omega⟩,⟨Nat.le_refl _⟩,⟨fun j h1 h2 => by omega⟩,by first|exact E|exact ⟨E.out.alloc _⟩⟩
 case round =>
  obtain ⟨i,rfl,HI,H0,HP,E⟩:=hrel;obtain ⟨c0,c1,c2,c3,c4,c5⟩:=E.out.cells;by_cases hi : i < x.f4.length
  · have qp : decide (i < x.f4.length) = true:=decide_eq_true hi;have e1 : decide ((i : Int) < (x.f4.length : Int)) = true:=decide_eq_true (by omega);have p1 : (0 : Int) ≤ (i : Int):=by omega
    have q1 : (i : Int) < (x.f4.length : Int):=by omega
    obtain ⟨ad,A',c',rfl,hnd,k0,k1,k2,k3,k4,k5⟩:=fG E.out.kids i hi;have uM:=Am hnd;have gZ:=Am hi;have jU:=Am (aQ hi);clear hi hnd;have w3 : wrap64 ((i : Int) + 1) = (i : Int) + 1:=by have:=uI.out;have:=gZ.out;unfold wrap64;omega
    have w4 : IntKind.i64.wrap ((i : Int) + 1) = (i : Int) + 1:=(bY _).trans w3;cases hp0 : zO true (nd x.f4 i);all_goals
     try (have fF:=Am hp0;clear hp0)
     go_wp2_with (first
      | (go_at_call 23;(try clear c0 c1 c2 c3 c4 c5);(with_reducible refine Env.call E E.out fF.out (yc.all true (HK.out.kid jU.out) E.out.bH uM.out) (fun w1 E c0 c1 c2 c3 c4 c5 => ?_));(try (clear k0 k1 k2 k3 k4 k5;obtain ⟨A2,c2_,hnd,k0,k1,k2,k3,k4,k5⟩:=jO E.out.kids gZ.out;have uM:=Am hnd;clear hnd)))
      | fail)
     first
      | (go_ret;exact ⟨by rw [rP (p:=(zO true)) H0.out gZ.out (by (try dsimp only);(try rw [fF.out]);first|done|rfl)];rfl,dS⟩)
      | (go_roundg (x.f4.length + 0 - (i + 1))
         case measure => have:=HI.out;have:=gZ.out;omega
         case rel => exact ⟨i + 1,by (try simp only [w4,w3]);rfl,⟨by have:=HI.out;have:=gZ.out;omega⟩,⟨by have:=H0.out;omega⟩,⟨fun j h1 h2 h3 => by
          by_cases hj : j = i
          · subst hj;(try dsimp only);(try rw [fF.out]);first|done|rfl
          · exact HP.out j h1 (by omega) h3⟩,E⟩)
  · have qp : decide (i < x.f4.length) = false:=decide_eq_false hi;have e1 : decide ((i : Int) < (x.f4.length : Int)) = false:=decide_eq_false (by omega);have HH:=Am (uH (p:=(zO true)) (l:=x.f4) (fun j h1 h2 => HP.out j h1 (by omega) h2));clear hi HP HI;go_wp2
    go_ret
    exact ⟨by rw [HH.out];rfl,dS⟩
theorem rU.f {n : Nat} {x : ak} {A : Option Addr} {c : Nat} {w : World} (hk : x.f0 = 41) (hpre : oV x = false) (hK : Kn n x) (hG : aH w) (hn : ND w x A c) : Calls Tryz.prog 22 #[val x A c] w (bg (false) w):=by
 have E:=Env.start hG hn;clear hn hG;have b1 : (x.f0 != 41) = false:=by rw [hk];rfl
 have b2:=Yt hk 41 rfl
 clear hk;have HS:=Am hK.s.str;have xZ:=Am hK.kids;have HK:=Am hK;clear hK;cases h0 : (aI x true false false);rotate_left 1;cases h1 : (jD x.f1);rotate_right 1
 rotate_left 2;(exact absurd (hpre.symm.trans (show oV x = true from by unfold oV;(try rw [h0]);(try rw [h1]);first|done|rfl)) (by decide));rotate_right 2
 all_goals
  try (have fF:=Am h0;clear h0)
  try (have jK:=Am h1;clear h1)
  clear hpre;go_enter Tryz.func22,Tryz.ntmps22
  go_wp2_with (first
   | (go_at_call 21;(try clear c0 c1 c2 c3 c4 c5);(with_reducible refine Env.call E E.out fF.out (eX.all true false false E.out.bH E.out.nd) (fun w1 E c0 c1 c2 c3 c4 c5 => ?_)))
   | (go_at_call 34;(try clear c0 c1 c2 c3 c4 c5);(with_reducible refine Env.call E E.out jK.out (sF.all HS.out E.out.bH) (fun w1 E c0 c1 c2 c3 c4 c5 => ?_)))
   | fail)
  go_ret
  exact ⟨rfl,dS⟩
theorem rU.no {n : Nat} {x : ak} {A : Option Addr} {c : Nat} {w : World} (hk : x.f0 ≠ 41) (hG : aH w) (hn : ND w x A c) : Calls Tryz.prog 22 #[val x A c] w (bg (false) w):=by
 have E:=Env.start hG hn;clear hn hG;have b1 : (x.f0 != 41) = true:=bne_iff_ne.2 hk;have b2 : (x.f0 == 41) = false:=beq_eq_false_iff_ne.2 hk;clear hk;go_enter Tryz.func22,Tryz.ntmps22
 go_wp2
 go_ret
 exact ⟨rfl,dS⟩
theorem rU.all {n : Nat} {x : ak} {A : Option Addr} {c : Nat} {w : World} (hK : Kn n x) (hG : aH w) (hn : ND w x A c) : Calls Tryz.prog 22 #[val x A c] w (bg (FT x) w):=by
 by_cases h : x.f0 = 41
 · have e : FT x = (oV x && x.f4.all (zO true)):=by
    have e1 : x.f4.all (zO true) = (x.f4.all su && x.f4.all bK):=by
     rw [og];congr 1
     funext y
     unfold zO su;cases decide (y.f0 = 42) <;> cases bK y <;> cases y.f4.all kZ <;> rfl
    unfold FT;rw [decide_eq_true h,rO (by omega),show fQ x = d41 x from by unfold fQ;simp [h],decide_eq_false (show ¬ x.f0 = 43 by omega),decide_eq_false (show ¬ x.f0 = 46 by omega),e1];unfold d41 oV aI;cases jD x.f1 <;> cases (x.f2 == 0) <;> cases x.f3 <;> cases x.f4.all su <;> cases x.f4.all bK <;> simp
   rw [e];cases hp : oV x with
   | false => exact rU.f h hp hK hG hn
   | true =>
    unfold oV at hp;rw [Bool.and_eq_true] at hp;exact rU.p h hK hp.1 hp.2 hG hn
 · rw [show FT x = false from by unfold FT;rw [decide_eq_false h];rfl];exact rU.no (n:=0) h hG hn
def yg (x : ak) : Bool:=((aI x false false false))
theorem rV.p {x : ak} {A : Option Addr} {c : Nat} {w : World} {n : Nat} (hk : x.f0 = 47) (hK : Kn n x) (hp0 : aI x false false false = true) (hG : aH w) (hn : ND w x A c) : Calls Tryz.prog 37 #[val x A c] w (bg (x.f4.all (fun y => zO false y || stB y)) w):=by
 have uI:=Am hn.C.2.1;have E:=Env.start hG hn;clear hn hG;have b1 : (x.f0 != 47) = false:=by rw [hk];rfl
 have b2:=Yt hk 47 rfl
 clear hk;have HS:=Am hK.s.str;have xZ:=Am hK.kids;have HK:=Am hK;clear hK;have P0:=Am hp0;clear hp0;go_enter Tryz.func37,Tryz.ntmps37
 go_wp2_with (first
  | (go_at_call 21;(try clear c0 c1 c2 c3 c4 c5);(with_reducible refine Env.call E E.out P0.out (eX.all false false false E.out.bH E.out.nd) (fun w1 E c0 c1 c2 c3 c4 c5 => ?_));skip)
  | fail)
 try clear c0 c1 c2 c3 c4 c5
 go_loopg [3] x.f4.length (fun kq v w' => ∃ i : Nat,v = .int .i64 i ∧ Ad (i + kq = x.f4.length + 0) ∧ Ad (0 ≤ i) ∧ Ad (∀ j,0 ≤ j → j < i → j < x.f4.length → (fun y => zO false y || stB y) (nd x.f4 j) = true) ∧ Ad (Env w x A c w'))
 case atStart => exact ⟨0,rfl,⟨by omega⟩,⟨Nat.le_refl _⟩,⟨fun j h1 h2 => by omega⟩,by first|exact E|exact ⟨E.out.alloc _⟩⟩
 case round =>
  obtain ⟨i,rfl,HI,H0,HP,E⟩:=hrel;obtain ⟨c0,c1,c2,c3,c4,c5⟩:=E.out.cells;by_cases hi : i < x.f4.length
  · have qp : decide (i < x.f4.length) = true:=decide_eq_true hi;have e1 : decide ((i : Int) < (x.f4.length : Int)) = true:=decide_eq_true (by omega);have p1 : (0 : Int) ≤ (i : Int):=by omega
    have q1 : (i : Int) < (x.f4.length : Int):=by omega
    obtain ⟨ad,A',c',rfl,hnd,k0,k1,k2,k3,k4,k5⟩:=fG E.out.kids i hi;have uM:=Am hnd;have gZ:=Am hi;have jU:=Am (aQ hi);clear hi hnd;have w3 : wrap64 ((i : Int) + 1) = (i : Int) + 1:=by have:=uI.out;have:=gZ.out;unfold wrap64;omega
    have w4 : IntKind.i64.wrap ((i : Int) + 1) = (i : Int) + 1:=(bY _).trans w3;cases hp0 : zO false (nd x.f4 i);rotate_left 0;cases hp1 : stB (nd x.f4 i);rotate_right 0
    all_goals
     try (have fF:=Am hp0;clear hp0)
     try (have jK:=Am hp1;clear hp1)
     go_wp2_with (first
      | (go_at_call 23;(try clear c0 c1 c2 c3 c4 c5);(with_reducible refine Env.call E E.out fF.out (yc.all false (HK.out.kid jU.out) E.out.bH uM.out) (fun w1 E c0 c1 c2 c3 c4 c5 => ?_));(try (clear k0 k1 k2 k3 k4 k5;obtain ⟨A2,c2_,hnd,k0,k1,k2,k3,k4,k5⟩:=jO E.out.kids gZ.out;have uM:=Am hnd;clear hnd)))
      | (go_at_call 52;(try clear c0 c1 c2 c3 c4 c5);(with_reducible refine Env.call E E.out jK.out (qQ.go (HK.out.kS _ jU.out) E.out.bH uM.out) (fun w1 E c0 c1 c2 c3 c4 c5 => ?_));(try (clear k0 k1 k2 k3 k4 k5;obtain ⟨A2,c2_,hnd,k0,k1,k2,k3,k4,k5⟩:=jO E.out.kids gZ.out;have uM:=Am hnd;clear hnd)))
      | fail)
     first
      | (go_ret;exact ⟨by rw [rP (p:=(fun y => zO false y || stB y)) H0.out gZ.out (by (try dsimp only);(try rw [fF.out]);(try rw [jK.out]);first|done|rfl)];rfl,dS⟩)
      | (go_roundg (x.f4.length + 0 - (i + 1))
         case measure => have:=HI.out;have:=gZ.out;omega
         case rel => exact ⟨i + 1,by (try simp only [w4,w3]);rfl,⟨by have:=HI.out;have:=gZ.out;omega⟩,⟨by have:=H0.out;omega⟩,⟨fun j h1 h2 h3 => by
          by_cases hj : j = i
          · subst hj;(try dsimp only);(try rw [fF.out]);(try rw [jK.out]);first|done|rfl
          · exact HP.out j h1 (by omega) h3⟩,E⟩)
  · have qp : decide (i < x.f4.length) = false:=decide_eq_false hi;have e1 : decide ((i : Int) < (x.f4.length : Int)) = false:=decide_eq_false (by omega);have HH:=Am (uH (p:=(fun y => zO false y || stB y)) (l:=x.f4) (fun j h1 h2 => HP.out j h1 (by omega) h2));clear hi HP HI;go_wp2
    go_ret
    exact ⟨by rw [HH.out];rfl,dS⟩
theorem rV.f {n : Nat} {x : ak} {A : Option Addr} {c : Nat} {w : World} (hk : x.f0 = 47) (hpre : yg x = false) (hK : Kn n x) (hG : aH w) (hn : ND w x A c) : Calls Tryz.prog 37 #[val x A c] w (bg (false) w):=by
 have E:=Env.start hG hn;clear hn hG;have b1 : (x.f0 != 47) = false:=by rw [hk];rfl
 have b2:=Yt hk 47 rfl
 clear hk;have HS:=Am hK.s.str;have xZ:=Am hK.kids;have HK:=Am hK;clear hK;cases h0 : (aI x false false false);rotate_left 1;(exact absurd (hpre.symm.trans (show yg x = true from by unfold yg;(try rw [h0]);first|done|rfl)) (by decide));rotate_right 1
 try (have fF:=Am h0;clear h0)
 clear hpre;go_enter Tryz.func37,Tryz.ntmps37
 go_wp2_with (first
  | (go_at_call 21;(try clear c0 c1 c2 c3 c4 c5);(with_reducible refine Env.call E E.out fF.out (eX.all false false false E.out.bH E.out.nd) (fun w1 E c0 c1 c2 c3 c4 c5 => ?_)))
  | fail)
 go_ret
 exact ⟨rfl,dS⟩
theorem rV.no {n : Nat} {x : ak} {A : Option Addr} {c : Nat} {w : World} (hk : x.f0 ≠ 47) (hG : aH w) (hn : ND w x A c) : Calls Tryz.prog 37 #[val x A c] w (bg (false) w):=by
 have E:=Env.start hG hn;clear hn hG;have b1 : (x.f0 != 47) = true:=bne_iff_ne.2 hk;have b2 : (x.f0 == 47) = false:=beq_eq_false_iff_ne.2 hk;clear hk;go_enter Tryz.func37,Tryz.ntmps37
 go_wp2
 go_ret
 exact ⟨rfl,dS⟩
theorem rV.all {n : Nat} {x : ak} {A : Option Addr} {c : Nat} {w : World} (hK : Kn n x) (hG : aH w) (hn : ND w x A c) : Calls Tryz.prog 37 #[val x A c] w (bg (Ed x) w):=by
 by_cases h : x.f0 = 47
 · rw [blT_eq h];cases hp : aI x false false false with
   | false => exact rV.f h (show yg x = false from by unfold yg;rw [hp]) hK hG hn
   | true => exact rV.p h hK hp hG hn
 · rw [show Ed x = false from by unfold Ed;rw [decide_eq_false h];rfl];exact rV.no (n:=0) h hG hn
theorem zq.all {x : ak} {A : Option Addr} {c : Nat} {w : World} (hn : ND w x A c) : Calls Tryz.prog 84 #[val x A c] w (bg (zq x) w) :=
 dA.calls _ _ _ _ _ A c _ _ _ w hn.C hn.le (Ar _ x (Ap hn.C) (Nat.lt_succ_self _))
section
variable {n : Nat} {x : ak}
theorem Kn.st (h : Kn n x) {i : Nat} (hi : i < x.f4.length) : qQ (nd x.f4 i):=h.kS _ (aQ hi)
end
noncomputable def q47 (x : ak) : Bool:=((aI x false false false) && (Ed x))
theorem AX.s47 {x : ak} {A : Option Addr} {c : Nat} {w : World} {n : Nat} (hk : x.f0 = 47) (hK : Kn n x) (hG : aH w) (hn : ND w x A c) : Calls Tryz.prog 52 #[val x A c] w (bg (q47 x) w):=by
 have E:=Env.start hG hn;clear hn hG;have nZ:=Yt hk 47 rfl
 have rH:=Yf hk 48 rfl
 have oM:=Yf hk 49 rfl
 have oW:=Yf hk 50 rfl
 have pz:=Yf hk 51 rfl
 have qj:=Yf hk 52 rfl
 have uY:=Yf hk 53 rfl
 have uZ:=Yf hk 54 rfl
 have uF:=Yf hk 55 rfl
 have oZ:=Yf hk 56 rfl
 have HK:=Am hk;clear hk;have HK:=Am hK;clear hK;cases h0 : (aI x false false false);rotate_left 1;cases h1 : (Ed x);rotate_right 1
 all_goals
  try (have fF:=Am h0;clear h0)
  try (have jK:=Am h1;clear h1)
  go_enter Tryz.func52,Tryz.ntmps52
  go_wp2_with (first
   | (go_at_call 21;(try clear c0 c1 c2 c3 c4 c5);(with_reducible refine Env.call E E.out fF.out (eX.all false false false E.out.bH E.out.nd) (fun w1 E c0 c1 c2 c3 c4 c5 => ?_)))
   | (go_at_call 37;(try clear c0 c1 c2 c3 c4 c5);(with_reducible refine Env.call E E.out jK.out (rV.all HK.out E.out.bH E.out.nd) (fun w1 E c0 c1 c2 c3 c4 c5 => ?_)))
   | fail)
  go_ret
  exact ⟨by unfold q47;(try rw [fF.out]);(try rw [jK.out]);first|done|rfl,dS⟩
noncomputable def q48 (x : ak) : Bool:=((aI x false false false) && (exs 1 x bJ))
theorem AX.s48 {x : ak} {A : Option Addr} {c : Nat} {w : World} {n : Nat} (hk : x.f0 = 48) (hK : Kn n x) (hG : aH w) (hn : ND w x A c) : Calls Tryz.prog 52 #[val x A c] w (bg (q48 x) w):=by
 have E:=Env.start hG hn;clear hn hG;have nZ:=Yf hk 47 rfl
 have rH:=Yt hk 48 rfl
 have oM:=Yf hk 49 rfl
 have oW:=Yf hk 50 rfl
 have pz:=Yf hk 51 rfl
 have qj:=Yf hk 52 rfl
 have uY:=Yf hk 53 rfl
 have uZ:=Yf hk 54 rfl
 have uF:=Yf hk 55 rfl
 have oZ:=Yf hk 56 rfl
 have HK:=Am hk;clear hk;have HK:=Am hK;clear hK;cases h0 : (aI x false false false);rotate_left 1;cases h1 : (exs 1 x bJ);rotate_right 1
 all_goals
  try (have fF:=Am h0;clear h0)
  try (have jK:=Am h1;clear h1)
  go_enter Tryz.func52,Tryz.ntmps52
  go_wp2_with (first
   | (go_at_call 21;(try clear c0 c1 c2 c3 c4 c5);(with_reducible refine Env.call E E.out fF.out (eX.all false false false E.out.bH E.out.nd) (fun w1 E c0 c1 c2 c3 c4 c5 => ?_)))
   | (go_at_call 51;(try clear c0 c1 c2 c3 c4 c5);(with_reducible refine Env.call E E.out jK.out (jl.all 1 HK.out.kE E.out.bH E.out.nd) (fun w1 E c0 c1 c2 c3 c4 c5 => ?_)))
   | fail)
  go_ret
  exact ⟨by unfold q48;(try rw [fF.out]);(try rw [jK.out]);first|done|rfl,dS⟩
noncomputable def q49 (x : ak) : Bool:=((aI x false false false) && (((x.f4.length : Int) == 2) || (((x.f4.length : Int) == 3) && (stB (nd x.f4 2)) && (!(zq (nd x.f4 1))))) && (bJ (nd x.f4 0)) && (stB (nd x.f4 1)))
theorem AX.s49 {x : ak} {A : Option Addr} {c : Nat} {w : World} {n : Nat} (hk : x.f0 = 49) (hK : Kn n x) (hG : aH w) (hn : ND w x A c) : Calls Tryz.prog 52 #[val x A c] w (bg (q49 x) w):=by
 have E:=Env.start hG hn;clear hn hG;have nZ:=Yf hk 47 rfl
 have rH:=Yf hk 48 rfl
 have oM:=Yt hk 49 rfl
 have oW:=Yf hk 50 rfl
 have pz:=Yf hk 51 rfl
 have qj:=Yf hk 52 rfl
 have uY:=Yf hk 53 rfl
 have uZ:=Yf hk 54 rfl
 have uF:=Yf hk 55 rfl
 have oZ:=Yf hk 56 rfl
 have HK:=Am hk;clear hk;have HK:=Am hK;clear hK;cases h0 : (aI x false false false);rotate_left 1;cases h1 : ((x.f4.length : Int) == 2);rotate_right 1
 rotate_left 1;cases h4 : ((x.f4.length : Int) == 3);rotate_right 1
 rotate_left 2;cases h5 : (stB (nd x.f4 2));rotate_right 2
 rotate_left 3;cases h6 : (zq (nd x.f4 1));rotate_right 3
 rotate_left 3;cases h2 : (bJ (nd x.f4 0));rotate_right 3
 rotate_left 4;cases h3 : (stB (nd x.f4 1));rotate_right 4
 rotate_left 7;cases h2 : (bJ (nd x.f4 0));rotate_right 7
 rotate_left 8;cases h3 : (stB (nd x.f4 1));rotate_right 8
 all_goals
  try (have fF:=Am h0;clear h0)
  try (have HC2:=Am h2;clear h2)
  try (have kR:=Am h3;clear h3)
  try (have yw:=Am h5;clear h5)
  try (have HC6:=Am h6;clear h6)
  try have HL:=Am (tY (k:=3) h4)
  try have HL:=Am (tY (k:=2) h1)
  go_enter Tryz.func52,Tryz.ntmps52
  go_wp2_with (first
   | (go_at_call 21;(try clear c0 c1 c2 c3 c4 c5);(with_reducible refine Env.call E E.out fF.out (eX.all false false false E.out.bH E.out.nd) (fun w1 E c0 c1 c2 c3 c4 c5 => ?_));(try (have gI:=HL.out;clear gI;obtain ⟨ad,rfl⟩:=aT E.out.kids (by have:=HL.out;omega)));(try (have gI:=HL.out;clear gI;have q0 : 0 < x.f4.length:=(by have:=HL.out;omega);obtain ⟨A0,d0,hn0,bP,bQ,bT,bU,bV,bW⟩:=oN E.out.kids (by have:=HL.out;omega);have gJ:=Am hn0;clear hn0));(try (have gI:=HL.out;clear gI;have q1 : (1 : Int) < (x.f4.length : Int):=(by have:=HL.out;omega);obtain ⟨A1,d1,hn1,k10,k11,k12,k13,k14,k15⟩:=vN E.out.kids (by have:=HL.out;omega);have iO:=Am hn1;clear hn1));(try (have gI:=HL.out;clear gI;have q2 : (2 : Int) < (x.f4.length : Int):=(by have:=HL.out;omega);obtain ⟨A2,d2,hn2,k20,k21,k22,k23,k24,k25⟩:=Ee E.out.kids (by have:=HL.out;omega);have Bd:=Am hn2;clear hn2)))
   | (go_at_call 50;(try clear c0 c1 c2 c3 c4 c5);(with_reducible refine Env.call E E.out HC2.out (qR.all (HK.out.exp (by have:=HL.out;omega)) E.out.bH gJ.out) (fun w1 E c0 c1 c2 c3 c4 c5 => ?_));(try (have gI:=HL.out;clear gI;obtain ⟨ad,rfl⟩:=aT E.out.kids (by have:=HL.out;omega)));(try (have gI:=HL.out;clear gI;have q0 : 0 < x.f4.length:=(by have:=HL.out;omega);obtain ⟨A0,d0,hn0,bP,bQ,bT,bU,bV,bW⟩:=oN E.out.kids (by have:=HL.out;omega);have gJ:=Am hn0;clear hn0));(try (have gI:=HL.out;clear gI;have q1 : (1 : Int) < (x.f4.length : Int):=(by have:=HL.out;omega);obtain ⟨A1,d1,hn1,k10,k11,k12,k13,k14,k15⟩:=vN E.out.kids (by have:=HL.out;omega);have iO:=Am hn1;clear hn1));(try (have gI:=HL.out;clear gI;have q2 : (2 : Int) < (x.f4.length : Int):=(by have:=HL.out;omega);obtain ⟨A2,d2,hn2,k20,k21,k22,k23,k24,k25⟩:=Ee E.out.kids (by have:=HL.out;omega);have Bd:=Am hn2;clear hn2)))
   | (go_at_call 52;(try clear c0 c1 c2 c3 c4 c5);(with_reducible refine Env.call E E.out kR.out (qQ.go (HK.out.st (by have:=HL.out;omega)) E.out.bH iO.out) (fun w1 E c0 c1 c2 c3 c4 c5 => ?_)))
   | (go_at_call 52;(try clear c0 c1 c2 c3 c4 c5);(with_reducible refine Env.call E E.out yw.out (qQ.go (HK.out.st (by have:=HL.out;omega)) E.out.bH Bd.out) (fun w1 E c0 c1 c2 c3 c4 c5 => ?_));(try (have gI:=HL.out;clear gI;obtain ⟨ad,rfl⟩:=aT E.out.kids (by have:=HL.out;omega)));(try (have gI:=HL.out;clear gI;have q0 : 0 < x.f4.length:=(by have:=HL.out;omega);obtain ⟨A0,d0,hn0,bP,bQ,bT,bU,bV,bW⟩:=oN E.out.kids (by have:=HL.out;omega);have gJ:=Am hn0;clear hn0));(try (have gI:=HL.out;clear gI;have q1 : (1 : Int) < (x.f4.length : Int):=(by have:=HL.out;omega);obtain ⟨A1,d1,hn1,k10,k11,k12,k13,k14,k15⟩:=vN E.out.kids (by have:=HL.out;omega);have iO:=Am hn1;clear hn1));(try (have gI:=HL.out;clear gI;have q2 : (2 : Int) < (x.f4.length : Int):=(by have:=HL.out;omega);obtain ⟨A2,d2,hn2,k20,k21,k22,k23,k24,k25⟩:=Ee E.out.kids (by have:=HL.out;omega);have Bd:=Am hn2;clear hn2)))
   | (go_at_call 84;(try clear c0 c1 c2 c3 c4 c5);(with_reducible refine Env.call E E.out HC6.out (zq.all iO.out) (fun w1 E c0 c1 c2 c3 c4 c5 => ?_));(try (have gI:=HL.out;clear gI;obtain ⟨ad,rfl⟩:=aT E.out.kids (by have:=HL.out;omega)));(try (have gI:=HL.out;clear gI;have q0 : 0 < x.f4.length:=(by have:=HL.out;omega);obtain ⟨A0,d0,hn0,bP,bQ,bT,bU,bV,bW⟩:=oN E.out.kids (by have:=HL.out;omega);have gJ:=Am hn0;clear hn0));(try (have gI:=HL.out;clear gI;have q1 : (1 : Int) < (x.f4.length : Int):=(by have:=HL.out;omega);obtain ⟨A1,d1,hn1,k10,k11,k12,k13,k14,k15⟩:=vN E.out.kids (by have:=HL.out;omega);have iO:=Am hn1;clear hn1));(try (have gI:=HL.out;clear gI;have q2 : (2 : Int) < (x.f4.length : Int):=(by have:=HL.out;omega);obtain ⟨A2,d2,hn2,k20,k21,k22,k23,k24,k25⟩:=Ee E.out.kids (by have:=HL.out;omega);have Bd:=Am hn2;clear hn2)))
   | fail)
  go_ret
  exact ⟨by unfold q49;(try rw [fF.out]);(try rw [h1]);(try rw [HC2.out]);(try rw [kR.out]);(try rw [h4]);(try rw [yw.out]);(try rw [HC6.out]);first|done|rfl,dS⟩
noncomputable def q50 (x : ak) : Bool:=((aI x false false false) && ((x.f4.length : Int) == 2) && (bJ (nd x.f4 0)) && (stB (nd x.f4 1)))
theorem AX.s50 {x : ak} {A : Option Addr} {c : Nat} {w : World} {n : Nat} (hk : x.f0 = 50) (hK : Kn n x) (hG : aH w) (hn : ND w x A c) : Calls Tryz.prog 52 #[val x A c] w (bg (q50 x) w):=by
 have E:=Env.start hG hn;clear hn hG;have nZ:=Yf hk 47 rfl
 have rH:=Yf hk 48 rfl
 have oM:=Yf hk 49 rfl
 have oW:=Yt hk 50 rfl
 have pz:=Yf hk 51 rfl
 have qj:=Yf hk 52 rfl
 have uY:=Yf hk 53 rfl
 have uZ:=Yf hk 54 rfl
 have uF:=Yf hk 55 rfl
 have oZ:=Yf hk 56 rfl
 have HK:=Am hk;clear hk;have HK:=Am hK;clear hK;cases h0 : (aI x false false false);rotate_left 1;cases h1 : ((x.f4.length : Int) == 2);rotate_right 1
 rotate_left 2;cases h2 : (bJ (nd x.f4 0));rotate_right 2
 rotate_left 3;cases h3 : (stB (nd x.f4 1));rotate_right 3
 all_goals
  try (have fF:=Am h0;clear h0)
  try (have HC2:=Am h2;clear h2)
  try (have kR:=Am h3;clear h3)
  try have HL:=Am (tY (k:=2) h1)
  go_enter Tryz.func52,Tryz.ntmps52
  go_wp2_with (first
   | (go_at_call 21;(try clear c0 c1 c2 c3 c4 c5);(with_reducible refine Env.call E E.out fF.out (eX.all false false false E.out.bH E.out.nd) (fun w1 E c0 c1 c2 c3 c4 c5 => ?_));(try (have gI:=HL.out;clear gI;obtain ⟨ad,rfl⟩:=aT E.out.kids (by have:=HL.out;omega)));(try (have gI:=HL.out;clear gI;have q0 : 0 < x.f4.length:=(by have:=HL.out;omega);obtain ⟨A0,d0,hn0,bP,bQ,bT,bU,bV,bW⟩:=oN E.out.kids (by have:=HL.out;omega);have gJ:=Am hn0;clear hn0));(try (have gI:=HL.out;clear gI;have q1 : (1 : Int) < (x.f4.length : Int):=(by have:=HL.out;omega);obtain ⟨A1,d1,hn1,k10,k11,k12,k13,k14,k15⟩:=vN E.out.kids (by have:=HL.out;omega);have iO:=Am hn1;clear hn1));(try (have gI:=HL.out;clear gI;have q2 : (2 : Int) < (x.f4.length : Int):=(by have:=HL.out;omega);obtain ⟨A2,d2,hn2,k20,k21,k22,k23,k24,k25⟩:=Ee E.out.kids (by have:=HL.out;omega);have Bd:=Am hn2;clear hn2)))
   | (go_at_call 50;(try clear c0 c1 c2 c3 c4 c5);(with_reducible refine Env.call E E.out HC2.out (qR.all (HK.out.exp (by have:=HL.out;omega)) E.out.bH gJ.out) (fun w1 E c0 c1 c2 c3 c4 c5 => ?_));(try (have gI:=HL.out;clear gI;obtain ⟨ad,rfl⟩:=aT E.out.kids (by have:=HL.out;omega)));(try (have gI:=HL.out;clear gI;have q0 : 0 < x.f4.length:=(by have:=HL.out;omega);obtain ⟨A0,d0,hn0,bP,bQ,bT,bU,bV,bW⟩:=oN E.out.kids (by have:=HL.out;omega);have gJ:=Am hn0;clear hn0));(try (have gI:=HL.out;clear gI;have q1 : (1 : Int) < (x.f4.length : Int):=(by have:=HL.out;omega);obtain ⟨A1,d1,hn1,k10,k11,k12,k13,k14,k15⟩:=vN E.out.kids (by have:=HL.out;omega);have iO:=Am hn1;clear hn1));(try (have gI:=HL.out;clear gI;have q2 : (2 : Int) < (x.f4.length : Int):=(by have:=HL.out;omega);obtain ⟨A2,d2,hn2,k20,k21,k22,k23,k24,k25⟩:=Ee E.out.kids (by have:=HL.out;omega);have Bd:=Am hn2;clear hn2)))
   | (go_at_call 52;(try clear c0 c1 c2 c3 c4 c5);(with_reducible refine Env.call E E.out kR.out (qQ.go (HK.out.st (by have:=HL.out;omega)) E.out.bH iO.out) (fun w1 E c0 c1 c2 c3 c4 c5 => ?_)))
   | fail)
  go_ret
  exact ⟨by unfold q50;(try rw [fF.out]);(try rw [h1]);(try rw [HC2.out]);(try rw [kR.out]);first|done|rfl,dS⟩
noncomputable def q51 (x : ak) : Bool:=((aI x false false false) && ((x.f4.length : Int) == 2) && (stB (nd x.f4 0)) && (bJ (nd x.f4 1)))
theorem AX.s51 {x : ak} {A : Option Addr} {c : Nat} {w : World} {n : Nat} (hk : x.f0 = 51) (hK : Kn n x) (hG : aH w) (hn : ND w x A c) : Calls Tryz.prog 52 #[val x A c] w (bg (q51 x) w):=by
 have E:=Env.start hG hn;clear hn hG;have nZ:=Yf hk 47 rfl
 have rH:=Yf hk 48 rfl
 have oM:=Yf hk 49 rfl
 have oW:=Yf hk 50 rfl
 have pz:=Yt hk 51 rfl
 have qj:=Yf hk 52 rfl
 have uY:=Yf hk 53 rfl
 have uZ:=Yf hk 54 rfl
 have uF:=Yf hk 55 rfl
 have oZ:=Yf hk 56 rfl
 have HK:=Am hk;clear hk;have HK:=Am hK;clear hK;cases h0 : (aI x false false false);rotate_left 1;cases h1 : ((x.f4.length : Int) == 2);rotate_right 1
 rotate_left 2;cases h2 : (stB (nd x.f4 0));rotate_right 2
 rotate_left 3;cases h3 : (bJ (nd x.f4 1));rotate_right 3
 all_goals
  try (have fF:=Am h0;clear h0)
  try (have HC2:=Am h2;clear h2)
  try (have kR:=Am h3;clear h3)
  try have HL:=Am (tY (k:=2) h1)
  go_enter Tryz.func52,Tryz.ntmps52
  go_wp2_with (first
   | (go_at_call 21;(try clear c0 c1 c2 c3 c4 c5);(with_reducible refine Env.call E E.out fF.out (eX.all false false false E.out.bH E.out.nd) (fun w1 E c0 c1 c2 c3 c4 c5 => ?_));(try (have gI:=HL.out;clear gI;obtain ⟨ad,rfl⟩:=aT E.out.kids (by have:=HL.out;omega)));(try (have gI:=HL.out;clear gI;have q0 : 0 < x.f4.length:=(by have:=HL.out;omega);obtain ⟨A0,d0,hn0,bP,bQ,bT,bU,bV,bW⟩:=oN E.out.kids (by have:=HL.out;omega);have gJ:=Am hn0;clear hn0));(try (have gI:=HL.out;clear gI;have q1 : (1 : Int) < (x.f4.length : Int):=(by have:=HL.out;omega);obtain ⟨A1,d1,hn1,k10,k11,k12,k13,k14,k15⟩:=vN E.out.kids (by have:=HL.out;omega);have iO:=Am hn1;clear hn1));(try (have gI:=HL.out;clear gI;have q2 : (2 : Int) < (x.f4.length : Int):=(by have:=HL.out;omega);obtain ⟨A2,d2,hn2,k20,k21,k22,k23,k24,k25⟩:=Ee E.out.kids (by have:=HL.out;omega);have Bd:=Am hn2;clear hn2)))
   | (go_at_call 52;(try clear c0 c1 c2 c3 c4 c5);(with_reducible refine Env.call E E.out HC2.out (qQ.go (HK.out.st (by have:=HL.out;omega)) E.out.bH gJ.out) (fun w1 E c0 c1 c2 c3 c4 c5 => ?_));(try (have gI:=HL.out;clear gI;obtain ⟨ad,rfl⟩:=aT E.out.kids (by have:=HL.out;omega)));(try (have gI:=HL.out;clear gI;have q0 : 0 < x.f4.length:=(by have:=HL.out;omega);obtain ⟨A0,d0,hn0,bP,bQ,bT,bU,bV,bW⟩:=oN E.out.kids (by have:=HL.out;omega);have gJ:=Am hn0;clear hn0));(try (have gI:=HL.out;clear gI;have q1 : (1 : Int) < (x.f4.length : Int):=(by have:=HL.out;omega);obtain ⟨A1,d1,hn1,k10,k11,k12,k13,k14,k15⟩:=vN E.out.kids (by have:=HL.out;omega);have iO:=Am hn1;clear hn1));(try (have gI:=HL.out;clear gI;have q2 : (2 : Int) < (x.f4.length : Int):=(by have:=HL.out;omega);obtain ⟨A2,d2,hn2,k20,k21,k22,k23,k24,k25⟩:=Ee E.out.kids (by have:=HL.out;omega);have Bd:=Am hn2;clear hn2)))
   | (go_at_call 50;(try clear c0 c1 c2 c3 c4 c5);(with_reducible refine Env.call E E.out kR.out (qR.all (HK.out.exp (by have:=HL.out;omega)) E.out.bH iO.out) (fun w1 E c0 c1 c2 c3 c4 c5 => ?_)))
   | fail)
  go_ret
  exact ⟨by unfold q51;(try rw [fF.out]);(try rw [h1]);(try rw [HC2.out]);(try rw [kR.out]);first|done|rfl,dS⟩
noncomputable def q53 (x : ak) : Bool:=((aI x false false false) && ((x.f4.length : Int) == 0))
theorem AX.s53 {x : ak} {A : Option Addr} {c : Nat} {w : World} {n : Nat} (hk : x.f0 = 53) (hK : Kn n x) (hG : aH w) (hn : ND w x A c) : Calls Tryz.prog 52 #[val x A c] w (bg (q53 x) w):=by
 have E:=Env.start hG hn;clear hn hG;have nZ:=Yf hk 47 rfl
 have rH:=Yf hk 48 rfl
 have oM:=Yf hk 49 rfl
 have oW:=Yf hk 50 rfl
 have pz:=Yf hk 51 rfl
 have qj:=Yf hk 52 rfl
 have uY:=Yt hk 53 rfl
 have uZ:=Yf hk 54 rfl
 have uF:=Yf hk 55 rfl
 have oZ:=Yf hk 56 rfl
 have HK:=Am hk;clear hk;have HK:=Am hK;clear hK;cases h0 : (aI x false false false);rotate_left 1;cases h1 : ((x.f4.length : Int) == 0);rotate_right 1
 all_goals
  try (have fF:=Am h0;clear h0)
  go_enter Tryz.func52,Tryz.ntmps52
  go_wp2_with (first
   | (go_at_call 21;(try clear c0 c1 c2 c3 c4 c5);(with_reducible refine Env.call E E.out fF.out (eX.all false false false E.out.bH E.out.nd) (fun w1 E c0 c1 c2 c3 c4 c5 => ?_)))
   | fail)
  go_ret
  exact ⟨by unfold q53;(try rw [fF.out]);(try rw [h1]);first|done|rfl,dS⟩
theorem AX.s54 {x : ak} {A : Option Addr} {c : Nat} {w : World} {n : Nat} (hk : x.f0 = 54) (hK : Kn n x) (hG : aH w) (hn : ND w x A c) : Calls Tryz.prog 52 #[val x A c] w (bg (q53 x) w):=by
 have E:=Env.start hG hn;clear hn hG;have nZ:=Yf hk 47 rfl
 have rH:=Yf hk 48 rfl
 have oM:=Yf hk 49 rfl
 have oW:=Yf hk 50 rfl
 have pz:=Yf hk 51 rfl
 have qj:=Yf hk 52 rfl
 have uY:=Yf hk 53 rfl
 have uZ:=Yt hk 54 rfl
 have uF:=Yf hk 55 rfl
 have oZ:=Yf hk 56 rfl
 have HK:=Am hk;clear hk;have HK:=Am hK;clear hK;cases h0 : (aI x false false false);rotate_left 1;cases h1 : ((x.f4.length : Int) == 0);rotate_right 1
 all_goals
  try (have fF:=Am h0;clear h0)
  go_enter Tryz.func52,Tryz.ntmps52
  go_wp2_with (first
   | (go_at_call 21;(try clear c0 c1 c2 c3 c4 c5);(with_reducible refine Env.call E E.out fF.out (eX.all false false false E.out.bH E.out.nd) (fun w1 E c0 c1 c2 c3 c4 c5 => ?_)))
   | fail)
  go_ret
  exact ⟨by unfold q53;(try rw [fF.out]);(try rw [h1]);first|done|rfl,dS⟩
noncomputable def q55 (x : ak) : Bool:=((aI x false false false) && (((x.f4.length : Int) == 0) || (exs 1 x bJ)))
theorem AX.s55 {x : ak} {A : Option Addr} {c : Nat} {w : World} {n : Nat} (hk : x.f0 = 55) (hK : Kn n x) (hG : aH w) (hn : ND w x A c) : Calls Tryz.prog 52 #[val x A c] w (bg (q55 x) w):=by
 have E:=Env.start hG hn;clear hn hG;have nZ:=Yf hk 47 rfl
 have rH:=Yf hk 48 rfl
 have oM:=Yf hk 49 rfl
 have oW:=Yf hk 50 rfl
 have pz:=Yf hk 51 rfl
 have qj:=Yf hk 52 rfl
 have uY:=Yf hk 53 rfl
 have uZ:=Yf hk 54 rfl
 have uF:=Yt hk 55 rfl
 have oZ:=Yf hk 56 rfl
 have HK:=Am hk;clear hk;have HK:=Am hK;clear hK;cases h0 : (aI x false false false);rotate_left 1;cases h1 : ((x.f4.length : Int) == 0);rotate_right 1
 rotate_left 1;cases h2 : (exs 1 x bJ);rotate_right 1
 all_goals
  try (have fF:=Am h0;clear h0)
  try (have HC2:=Am h2;clear h2)
  go_enter Tryz.func52,Tryz.ntmps52
  go_wp2_with (first
   | (go_at_call 21;(try clear c0 c1 c2 c3 c4 c5);(with_reducible refine Env.call E E.out fF.out (eX.all false false false E.out.bH E.out.nd) (fun w1 E c0 c1 c2 c3 c4 c5 => ?_)))
   | (go_at_call 51;(try clear c0 c1 c2 c3 c4 c5);(with_reducible refine Env.call E E.out HC2.out (jl.all 1 HK.out.kE E.out.bH E.out.nd) (fun w1 E c0 c1 c2 c3 c4 c5 => ?_)))
   | fail)
  go_ret
  exact ⟨by unfold q55;(try rw [fF.out]);(try rw [h1]);(try rw [HC2.out]);first|done|rfl,dS⟩
theorem AX.s56 {x : ak} {A : Option Addr} {c : Nat} {w : World} {n : Nat} (hk : x.f0 = 56) (hK : Kn n x) (hG : aH w) (hn : ND w x A c) : Calls Tryz.prog 52 #[val x A c] w (bg (q53 x) w):=by
 have E:=Env.start hG hn;clear hn hG;have nZ:=Yf hk 47 rfl
 have rH:=Yf hk 48 rfl
 have oM:=Yf hk 49 rfl
 have oW:=Yf hk 50 rfl
 have pz:=Yf hk 51 rfl
 have qj:=Yf hk 52 rfl
 have uY:=Yf hk 53 rfl
 have uZ:=Yf hk 54 rfl
 have uF:=Yf hk 55 rfl
 have oZ:=Yt hk 56 rfl
 have HK:=Am hk;clear hk;have HK:=Am hK;clear hK;cases h0 : (aI x false false false);rotate_left 1;cases h1 : ((x.f4.length : Int) == 0);rotate_right 1
 all_goals
  try (have fF:=Am h0;clear h0)
  go_enter Tryz.func52,Tryz.ntmps52
  go_wp2_with (first
   | (go_at_call 21;(try clear c0 c1 c2 c3 c4 c5);(with_reducible refine Env.call E E.out fF.out (eX.all false false false E.out.bH E.out.nd) (fun w1 E c0 c1 c2 c3 c4 c5 => ?_)))
   | fail)
  go_ret
  exact ⟨by unfold q53;(try rw [fF.out]);(try rw [h1]);first|done|rfl,dS⟩
theorem AX.no {x : ak} {A : Option Addr} {c : Nat} {w : World} (b : Bool) (hb : aI x false false false = b) (hk : ¬ (47 ≤ x.f0 ∧ x.f0 ≤ 56)) (hG : aH w) (hn : ND w x A c) : Calls Tryz.prog 52 #[val x A c] w (bg false w):=by
 have E:=Env.start hG hn;clear hn hG;have nZ : (x.f0 == 47) = false:=beq_eq_false_iff_ne.2 (by omega);have rH : (x.f0 == 48) = false:=beq_eq_false_iff_ne.2 (by omega);have oM : (x.f0 == 49) = false:=beq_eq_false_iff_ne.2 (by omega);have oW : (x.f0 == 50) = false:=beq_eq_false_iff_ne.2 (by omega);have pz : (x.f0 == 51) = false:=beq_eq_false_iff_ne.2 (by omega);have qj : (x.f0 == 52) = false:=beq_eq_false_iff_ne.2 (by omega);have uY : (x.f0 == 53) = false:=beq_eq_false_iff_ne.2 (by omega);have uZ : (x.f0 == 54) = false:=beq_eq_false_iff_ne.2 (by omega);have uF : (x.f0 == 55) = false:=beq_eq_false_iff_ne.2 (by omega);have oZ : (x.f0 == 56) = false:=beq_eq_false_iff_ne.2 (by omega);have P0:=Am hb;clear hk hb;cases b;all_goals
  go_enter Tryz.func52,Tryz.ntmps52
  go_wp2_with (first
   | (go_at_call 21;(try clear c0 c1 c2 c3 c4 c5);(with_reducible refine Env.call E E.out P0.out (eX.all false false false E.out.bH E.out.nd) (fun w1 E c0 c1 c2 c3 c4 c5 => ?_));skip)
   | fail)
  go_ret
  exact ⟨rfl,dS⟩
theorem LC {l : List ak} {m j : Nat} (h : j < m) : nd (l.take m) j = nd l j:=by
 unfold nd;rw [List.getD_eq_getElem?_getD,List.getD_eq_getElem?_getD,List.getElem?_take_of_lt h]
theorem y8 {p : ak → Bool} {l : List ak} {m i : Nat} (hm : m ≤ l.length) (h : ∀ j,i ≤ j → j < m → p (nd l j) = true) : ((l.take m).drop i).all p = true :=
 Aw fun j h1 h2 => by rw [List.length_take] at h2;rw [LC (by omega)];exact h j h1 (by omega)
theorem vY {p : ak → Bool} {l : List ak} {m i j : Nat} (hm : m ≤ l.length) (hij : i ≤ j) (hj : j < m) (h : p (nd l j) = false) : ((l.take m).drop i).all p = false :=
 yN hij (by rw [List.length_take];omega) (by rw [LC hj];exact h)
theorem AX.p52 {x : ak} {A : Option Addr} {c : Nat} {w : World} {n : Nat} (hk : x.f0 = 52) (hK : Kn n x) (hp0 : aI x false false false = true) (hl : x.f4.length = 4) (hp1 : stB (nd x.f4 3) = true) (hG : aH w) (hn : ND w x A c) : Calls Tryz.prog 52 #[val x A c] w (bg (((x.f4.take (3)).drop 0).all (fun y => noT y || bJ y)) w):=by
 have uI:=Am hn.C.2.1;have E:=Env.start hG hn;clear hn hG;have nZ:=Yf hk 47 rfl
 have rH:=Yf hk 48 rfl
 have oM:=Yf hk 49 rfl
 have oW:=Yf hk 50 rfl
 have pz:=Yf hk 51 rfl
 have qj:=Yt hk 52 rfl
 have uY:=Yf hk 53 rfl
 have uZ:=Yf hk 54 rfl
 have uF:=Yf hk 55 rfl
 have oZ:=Yf hk 56 rfl
 have HK:=Am hk;clear hk;have HK:=Am hK;clear hK;have P0:=Am hp0;have P1:=Am hp1;have HL:=Am hl;have HM : Ad (3 ≤ x.f4.length):=⟨by omega⟩
 have l1 : ((x.f4.length : Int) == 4) = true:=beq_iff_eq.2 (by omega);have l2 : ((x.f4.length : Int) != 4) = false:=bne_eq_false_iff_eq.2 (by omega);clear hp0 hp1 hl;go_enter Tryz.func52,Tryz.ntmps52
 go_wp2_with (first
  | (go_at_call 21;(try clear c0 c1 c2 c3 c4 c5);(with_reducible refine Env.call E E.out P0.out (eX.all false false false E.out.bH E.out.nd) (fun w1 E c0 c1 c2 c3 c4 c5 => ?_));(try (have gI:=HL.out;clear gI;obtain ⟨ad,rfl⟩:=aT E.out.kids (by have:=HL.out;omega)));(try (have gI:=HL.out;clear gI;have q3 : (3 : Int) < (x.f4.length : Int):=(by have:=HL.out;omega);obtain ⟨A3,d3,hn3,k30,k31,k32,k33,k34,uh⟩:=kid3 E.out.kids (by have:=HL.out;omega);have HN3:=Am hn3;clear hn3)))
  | (go_at_call 52;(try clear c0 c1 c2 c3 c4 c5);(with_reducible refine Env.call E E.out P1.out (qQ.go (HK.out.st (by have:=HL.out;omega)) E.out.bH HN3.out) (fun w1 E c0 c1 c2 c3 c4 c5 => ?_));skip)
  | fail)
 try clear c0 c1 c2 c3 c4 c5
 go_loopg [4] (3) (fun kq v w' => ∃ i : Nat,v = .int .i64 i ∧ Ad (i + kq = (3) + 0) ∧ Ad (0 ≤ i) ∧ Ad (∀ j,0 ≤ j → j < i → j < (3) → (fun y => noT y || bJ y) (nd x.f4 j) = true) ∧ Ad (Env w x (some ad) c w'))
 case atStart => exact ⟨0,rfl,⟨by omega⟩,⟨Nat.le_refl _⟩,⟨fun j h1 h2 => by omega⟩,by first|exact E|exact ⟨E.out.alloc _⟩⟩
 case round =>
  obtain ⟨i,rfl,HI,H0,HP,E⟩:=hrel;obtain ⟨c0,c1,c2,c3,c4,c5⟩:=E.out.cells;by_cases hi : i < (3)
  · have qp : decide (i < (3)) = true:=decide_eq_true hi;have e1 : decide ((i : Int) < 3) = true:=decide_eq_true (by omega);have p1 : (0 : Int) ≤ (i : Int):=by omega
    have q1 : (i : Int) < (x.f4.length : Int):=by have:=HM.out;omega
    obtain ⟨A',c',hnd,k0,k1,k2,k3,k4,k5⟩:=jO E.out.kids (show i < x.f4.length by have:=HM.out;omega);have uM:=Am hnd;have gZ : Ad (i < x.f4.length):=⟨by have:=HM.out;omega⟩
    have HIM:=Am hi;have jU:=Am (aQ gZ.out);clear hi hnd;have w3 : wrap64 ((i : Int) + 1) = (i : Int) + 1:=by have:=uI.out;have:=gZ.out;unfold wrap64;omega
    have w4 : IntKind.i64.wrap ((i : Int) + 1) = (i : Int) + 1:=(bY _).trans w3;cases hp0 : noT (nd x.f4 i);rotate_left 0;cases hp1 : bJ (nd x.f4 i);rotate_right 0
    all_goals
     try (have fF:=Am hp0;clear hp0)
     try (have jK:=Am hp1;clear hp1)
     go_wp2_with (first
      | (go_at_call 49;(try clear c0 c1 c2 c3 c4 c5);(with_reducible refine Env.call E E.out fF.out (KQ.all E.out.bH uM.out) (fun w1 E c0 c1 c2 c3 c4 c5 => ?_));(try (clear k0 k1 k2 k3 k4 k5;obtain ⟨A2,c2_,hnd,k0,k1,k2,k3,k4,k5⟩:=jO E.out.kids gZ.out;have uM:=Am hnd;clear hnd)))
      | (go_at_call 50;(try clear c0 c1 c2 c3 c4 c5);(with_reducible refine Env.call E E.out jK.out (qR.all (HK.out.exp gZ.out) E.out.bH uM.out) (fun w1 E c0 c1 c2 c3 c4 c5 => ?_));(try (clear k0 k1 k2 k3 k4 k5;obtain ⟨A2,c2_,hnd,k0,k1,k2,k3,k4,k5⟩:=jO E.out.kids gZ.out;have uM:=Am hnd;clear hnd)))
      | fail)
     first
      | (go_ret;exact ⟨by rw [vY (p:=(fun y => noT y || bJ y)) HM.out H0.out HIM.out (by (try dsimp only);(try rw [fF.out]);(try rw [jK.out]);first|done|rfl)];rfl,dS⟩)
      | (go_roundg ((3) + 0 - (i + 1))
         case measure => have:=HI.out;have:=HIM.out;omega
         case rel => exact ⟨i + 1,by (try simp only [w4,w3]);rfl,⟨by have:=HI.out;have:=HIM.out;omega⟩,⟨by have:=H0.out;omega⟩,⟨fun j h1 h2 h3 => by
          by_cases hj : j = i
          · subst hj;(try dsimp only);(try rw [fF.out]);(try rw [jK.out]);first|done|rfl
          · exact HP.out j h1 (by omega) h3⟩,E⟩)
  · have qp : decide (i < (3)) = false:=decide_eq_false hi;have e1 : decide ((i : Int) < 3) = false:=decide_eq_false (by omega);have HH:=Am (y8 (p:=(fun y => noT y || bJ y)) (l:=x.f4) (m:=3) (i:=0) HM.out (fun j h1 h2 => HP.out j h1 (by omega) h2));clear hi HP HI;go_wp2
    go_ret
    exact ⟨by rw [HH.out];rfl,dS⟩
noncomputable def AY (x : ak) : Bool:=((aI x false false false) && ((x.f4.length : Int) == 4) && (stB (nd x.f4 3)))
theorem AX.f52 {n : Nat} {x : ak} {A : Option Addr} {c : Nat} {w : World} (hk : x.f0 = 52) (hpre : AY x = false) (hK : Kn n x) (hG : aH w) (hn : ND w x A c) : Calls Tryz.prog 52 #[val x A c] w (bg (false) w):=by
 have E:=Env.start hG hn;clear hn hG;have nZ:=Yf hk 47 rfl
 have rH:=Yf hk 48 rfl
 have oM:=Yf hk 49 rfl
 have oW:=Yf hk 50 rfl
 have pz:=Yf hk 51 rfl
 have qj:=Yt hk 52 rfl
 have uY:=Yf hk 53 rfl
 have uZ:=Yf hk 54 rfl
 have uF:=Yf hk 55 rfl
 have oZ:=Yf hk 56 rfl
 have HK:=Am hk;clear hk;have HK:=Am hK;clear hK;cases h0 : (aI x false false false);rotate_left 1;cases h1 : ((x.f4.length : Int) == 4);rotate_right 1
 rotate_left 2;cases h2 : (stB (nd x.f4 3));rotate_right 2
 rotate_left 3;(exact absurd (hpre.symm.trans (show AY x = true from by unfold AY;(try rw [h0]);(try rw [h1]);(try rw [h2]);first|done|rfl)) (by decide));rotate_right 3
 all_goals
  try (have fF:=Am h0;clear h0)
  try have iL : ((x.f4.length : Int) != 4) = false:=by unfold bne;rw [h1];rfl
  try have iL : ((x.f4.length : Int) != 4) = true:=by unfold bne;rw [h1];rfl
  try (have HC2:=Am h2;clear h2)
  clear hpre;try have HL:=Am (tY (k:=4) h1)
  go_enter Tryz.func52,Tryz.ntmps52
  go_wp2_with (first
   | (go_at_call 21;(try clear c0 c1 c2 c3 c4 c5);(with_reducible refine Env.call E E.out fF.out (eX.all false false false E.out.bH E.out.nd) (fun w1 E c0 c1 c2 c3 c4 c5 => ?_));(try (have gI:=HL.out;clear gI;obtain ⟨ad,rfl⟩:=aT E.out.kids (by have:=HL.out;omega)));(try (have gI:=HL.out;clear gI;have q3 : (3 : Int) < (x.f4.length : Int):=(by have:=HL.out;omega);obtain ⟨A3,d3,hn3,k30,k31,k32,k33,k34,uh⟩:=kid3 E.out.kids (by have:=HL.out;omega);have HN3:=Am hn3;clear hn3)))
   | (go_at_call 52;(try clear c0 c1 c2 c3 c4 c5);(with_reducible refine Env.call E E.out HC2.out (qQ.go (HK.out.st (by have:=HL.out;omega)) E.out.bH HN3.out) (fun w1 E c0 c1 c2 c3 c4 c5 => ?_)))
   | fail)
  go_ret
  exact ⟨rfl,dS⟩
theorem q47_eq {x : ak} (h : x.f0 = 47) : q47 x = stB x:=by
 have e : Ed x = stB x:=by
  unfold Ed stB;rw [decide_eq_true h,(uG x).2 (by omega)]
 unfold q47;rw [← e,blT_eq h];cases aI x false false false <;> rfl
theorem q48_eq {x : ak} (h : x.f0 = 48) : q48 x = stB x:=by
 rw [vM (by omega),show eU x = s48 x from by unfold eU;simp [h]];unfold q48 s48 aI;rw [exs1,show aU (gE.map (·.2)) x.f4 = aU [gQ] x.f4 from rfl];cases (x.f1.toList == ([] : List UInt8)) <;> cases (x.f2 == 0) <;> cases x.f3 <;> cases aU [gQ] x.f4 <;> cases x.f4.all bK <;> rfl
theorem q49_eq {x : ak} (h : x.f0 = 49) : q49 x = stB x:=by
 rw [vM (by omega),show eU x = s49 x from by unfold eU;simp [h]];unfold q49 s49 aI;rw [show aU (gES.map (·.2)) x.f4 = aU [gQ,isS] x.f4 from rfl,show aU (FH.map (·.2)) x.f4 = aU [gQ,isS,isS] x.f4 from rfl,shape2,shape3,show ((x.f4.length : Int) == 2) = decide (x.f4.length = 2) from mY _ 2,show ((x.f4.length : Int) == 3) = decide (x.f4.length = 3) from mY _ 3];by_cases h2 : x.f4.length = 2
 · rw [decide_eq_true h2,decide_eq_false (show ¬ x.f4.length = 3 by omega)];obtain ⟨a,b,ha⟩:=len2 h2;rw [ha];simp only [nd,List.getD_cons_zero,List.getD_cons_succ,List.all_cons,List.all_nil];unfold stB bJ;cases (x.f1.toList == ([] : List UInt8)) <;> cases (x.f2 == 0) <;> cases x.f3 <;> cases gQ a <;> cases isS b <;> cases bK a <;> cases bK b <;> rfl
 · rw [decide_eq_false h2];by_cases h3 : x.f4.length = 3
   · rw [decide_eq_true h3];obtain ⟨a,b,c,ha⟩:=len3 h3;rw [ha];simp only [nd,List.getD_cons_zero,List.getD_cons_succ,List.all_cons,List.all_nil];unfold stB bJ;cases hb : bK b with
     | true =>
      rw [show FN b = zq b from CP _ b hb];cases (x.f1.toList == ([] : List UInt8)) <;> cases (x.f2 == 0) <;> cases x.f3 <;> cases gQ a <;> cases isS b <;> cases isS c <;> cases bK a <;> cases bK c <;> cases zq b <;> rfl
     | false => cases (x.f1.toList == ([] : List UInt8)) <;> cases (x.f2 == 0) <;> cases x.f3 <;> cases gQ a <;> cases isS b <;> cases isS c <;> cases bK a <;> cases bK c <;> cases zq b <;> cases FN b <;> rfl
   · rw [decide_eq_false h3];cases (x.f1.toList == ([] : List UInt8)) <;> cases (x.f2 == 0) <;> cases x.f3 <;> rfl
theorem q50_eq {x : ak} (h : x.f0 = 50) : q50 x = stB x:=by
 rw [vM (by omega),show eU x = s50 x from by unfold eU;simp [h]];unfold q50 s50 aI;have e:=KO gQ isS x.f4;rw [show aU (gES.map (·.2)) x.f4 = aU [gQ,isS] x.f4 from rfl,show ((x.f4.length : Int) == 2) = decide (x.f4.length = 2) from mY _ 2,show bJ (nd x.f4 0) = (gQ (nd x.f4 0) && bK (nd x.f4 0)) from rfl,show stB (nd x.f4 1) = (isS (nd x.f4 1) && bK (nd x.f4 1)) from rfl];revert e;generalize decide (x.f4.length = 2) = a;generalize (gQ (nd x.f4 0) && bK (nd x.f4 0)) = b;generalize (isS (nd x.f4 1) && bK (nd x.f4 1)) = c;generalize aU [gQ,isS] x.f4 = d;generalize x.f4.all bK = f;cases (x.f1.toList == ([] : List UInt8)) <;> cases (x.f2 == 0) <;> cases x.f3 <;> cases a <;> cases b <;> cases c <;> cases d <;> cases f <;> simp
theorem q51_eq {x : ak} (h : x.f0 = 51) : q51 x = stB x:=by
 rw [vM (by omega),show eU x = s51 x from by unfold eU;simp [h]];unfold q51 s51 aI;have e:=KO isS gQ x.f4;rw [show aU (gSE.map (·.2)) x.f4 = aU [isS,gQ] x.f4 from rfl,show ((x.f4.length : Int) == 2) = decide (x.f4.length = 2) from mY _ 2,show bJ (nd x.f4 1) = (gQ (nd x.f4 1) && bK (nd x.f4 1)) from rfl,show stB (nd x.f4 0) = (isS (nd x.f4 0) && bK (nd x.f4 0)) from rfl];revert e;generalize decide (x.f4.length = 2) = a;generalize (isS (nd x.f4 0) && bK (nd x.f4 0)) = b;generalize (gQ (nd x.f4 1) && bK (nd x.f4 1)) = c;generalize aU [isS,gQ] x.f4 = d;generalize x.f4.all bK = f;cases (x.f1.toList == ([] : List UInt8)) <;> cases (x.f2 == 0) <;> cases x.f3 <;> cases a <;> cases b <;> cases c <;> cases d <;> cases f <;> simp
theorem q52_eq {x : ak} (h : x.f0 = 52) : (AY x && ((x.f4.take 3).drop 0).all (fun y => noT y || bJ y)) = stB x:=by
 rw [vM (by omega),show eU x = s52 x from by unfold eU;simp [h]];unfold AY s52 aI;rw [show aU (Ai.map (·.2)) x.f4 = aU [BD,BD,BD,isS] x.f4 from rfl,shape4,show ((x.f4.length : Int) == 4) = decide (x.f4.length = 4) from mY _ 4,List.drop_zero];by_cases h4 : x.f4.length = 4
 · rw [decide_eq_true h4];obtain ⟨a,b,c,d,ha⟩:=len4 h4;rw [ha];simp only [nd,List.getD_cons_zero,List.getD_cons_succ,List.all_cons,List.all_nil,List.take_succ_cons,List.take_zero,noE];unfold stB;cases (x.f1.toList == ([] : List UInt8)) <;> cases (x.f2 == 0) <;> cases x.f3 <;> cases BD a <;> cases BD b <;> cases BD c <;> cases isS d <;> cases bK a <;> cases bK b <;> cases bK c <;> cases bK d <;> rfl
 · rw [decide_eq_false h4];cases (x.f1.toList == ([] : List UInt8)) <;> cases (x.f2 == 0) <;> cases x.f3 <;> cases x.f4.all bK <;> cases (x.f4.take 3).all (fun y => noT y || bJ y) <;> rfl
theorem IU {x : ak} (h : x.f0 = 53 ∨ x.f0 = 54 ∨ x.f0 = 56) : q53 x = stB x:=by
 rw [vM (by omega),show eU x = s0 x from by unfold eU;rw [if_neg (by omega),if_neg (by omega),if_neg (by omega),if_neg (by omega),if_neg (by omega),if_neg (by omega),if_neg (by omega)]];unfold q53 s0 aI;by_cases h0 : x.f4.length = 0
 · rw [List.eq_nil_of_length_eq_zero h0];cases (x.f1.toList == ([] : List UInt8)) <;> cases (x.f2 == 0) <;> cases x.f3 <;> rfl
 · rw [show ((x.f4.length : Int) == 0) = false from beq_eq_false_iff_ne.2 (by omega)];cases (x.f1.toList == ([] : List UInt8)) <;> cases (x.f2 == 0) <;> cases x.f3 <;> rfl
theorem q55_eq {x : ak} (h : x.f0 = 55) : q55 x = stB x:=by
 rw [vM (by omega),show eU x = s55 x from by unfold eU;simp [h]];unfold q55 s55 aI exs;rw [show x.f4.all bJ = (x.f4.all gQ && x.f4.all bK) from by rw [og];rfl];by_cases h0 : x.f4.length = 0
 · rw [List.eq_nil_of_length_eq_zero h0];cases (x.f1.toList == ([] : List UInt8)) <;> cases (x.f2 == 0) <;> cases x.f3 <;> rfl
 · rw [show ((x.f4.length : Int) == 0) = false from beq_eq_false_iff_ne.2 (by omega)];by_cases h1 : x.f4.length = 1
   · rw [show ((x.f4.length : Int) == 1) = true from beq_iff_eq.2 (by omega),decide_eq_true (show (x.f4.length : Int) ≤ 1 by omega)];cases (x.f1.toList == ([] : List UInt8)) <;> cases (x.f2 == 0) <;> cases x.f3 <;> cases x.f4.all gQ <;> cases x.f4.all bK <;> rfl
   · rw [show ((x.f4.length : Int) == 1) = false from beq_eq_false_iff_ne.2 (by omega),decide_eq_false (show ¬ (x.f4.length : Int) ≤ 1 by omega)];cases (x.f1.toList == ([] : List UInt8)) <;> cases (x.f2 == 0) <;> cases x.f3 <;> rfl
theorem IV.all {n : Nat} {x : ak} {A : Option Addr} {c : Nat} {w : World} (hK : Kn n x) (hG : aH w) (hn : ND w x A c) : Calls Tryz.prog 52 #[val x A c] w (bg (stB x) w):=by
 by_cases h47 : x.f0 = 47
 · rw [← q47_eq h47];exact AX.s47 h47 hK hG hn
 by_cases h48 : x.f0 = 48
 · rw [← q48_eq h48];exact AX.s48 h48 hK hG hn
 by_cases sD : x.f0 = 49
 · rw [← q49_eq sD];exact AX.s49 sD hK hG hn
 by_cases h50 : x.f0 = 50
 · rw [← q50_eq h50];exact AX.s50 h50 hK hG hn
 by_cases EI : x.f0 = 51
 · rw [← q51_eq EI];exact AX.s51 EI hK hG hn
 by_cases EJ : x.f0 = 55
 · rw [← q55_eq EJ];exact AX.s55 EJ hK hG hn
 by_cases h53 : x.f0 = 53
 · rw [← IU (Or.inl h53)];exact AX.s53 h53 hK hG hn
 by_cases h54 : x.f0 = 54
 · rw [← IU (Or.inr (Or.inl h54))];exact AX.s54 h54 hK hG hn
 by_cases ql : x.f0 = 56
 · rw [← IU (Or.inr (Or.inr ql))];exact AX.s56 ql hK hG hn
 by_cases zN : x.f0 = 52
 · rw [← q52_eq zN];cases hp : AY x with
   | false => exact AX.f52 zN hp hK hG hn
   | true =>
    unfold AY at hp;simp only [Bool.and_eq_true,beq_iff_eq] at hp;exact AX.p52 zN hK hp.1.1 (by omega) hp.2 hG hn
 rw [show stB x = false from by unfold stB;rw [isS_no (by omega)];rfl];exact AX.no _ rfl (by omega) hG hn
abbrev Nk (W : World) (g : Nat) (y : ak) (A : Option Addr) (c : Nat) : World:=(((((W.setCell ⟨g,0,none⟩ (.int .i64 y.f0)).setCell ⟨g,1,none⟩ (.string y.f1)).setCell ⟨g,2,none⟩ (.int .u32 y.f2)).setCell ⟨g,3,none⟩ (.bool y.f3)).setCell ⟨g,4,none⟩ (.slice A y.f4.length c)).setCell ⟨g,5,none⟩ (.int .i64 y.f5)
def zero6 : Array Value:=#[.int .i64 0,.string (⟨#[]⟩ : ByteArray),.int .u32 0,.bool false,.slice none 0 0,.int .i64 0]
section
variable {w W : World} {x y : ak} {A A' : Option Addr} {c c' g : Nat}
theorem Env.lt (E : Env w x A c W) : w.heap.size < W.heap.size:=jf E.n
theorem Dk {B : Nat} {w W : World} (h : Below B w W) (hg : B ≤ g) : Below B w (Nk W g y A' c'):=by
 have s (j : Nat) (v : Value) {W : World} (h : Below B w W) : Below B w (W.setCell ⟨g,j,none⟩ v):=h.setCell hg _;exact s _ _ (s _ _ (s _ _ (s _ _ (s _ _ (s _ _ h)))))
theorem Env.put (E : Env w x A c W) (hg : w.heap.size < g) : Env w x A c (Nk W g y A' c'):=by
 refine ⟨Dk E.b (by omega),?_,E.k,E.g⟩;have ne : w.heap.size ≠ g:=by omega
 unfold Nk;exact Np (Np (Np (Np (Np (Np E.n ne _) ne _) ne _) ne _) ne _) ne _
theorem NB.put (h : W.heap[g]? = some (.cells zero6 25 (0,0))) : NB (Nk W g y A' c') g y A' c' := by
 unfold Nk NB;exact Z9 (cs:=#[.int .i64 y.f0,.string y.f1,.int .u32 y.f2,.bool y.f3,.slice A' y.f4.length c',.int .i64 0]) (Z9 (cs:=#[.int .i64 y.f0,.string y.f1,.int .u32 y.f2,.bool y.f3,.slice none 0 0,.int .i64 0]) (Z9 (cs:=#[.int .i64 y.f0,.string y.f1,.int .u32 y.f2,.bool false,.slice none 0 0,.int .i64 0]) (Z9 (cs:=#[.int .i64 y.f0,.string y.f1,.int .u32 0,.bool false,.slice none 0 0,.int .i64 0]) (Z9 (cs:=#[.int .i64 y.f0,.string (⟨#[]⟩ : ByteArray),.int .u32 0,.bool false,.slice none 0 0,.int .i64 0]) (Z9 (cs:=zero6) h 0 _ rfl) 1 _ rfl) 2 _ rfl) 3 _ rfl) 4 _ rfl) 5 _ rfl
end
section
variable {w w' W W0 : World} {x y : ak} {A A' : Option Addr} {c c' : Nat}
theorem Env.box (E : Env w x A c W0) (k : ND W0 y A' c') (hb : Below W0.heap.size W0 W) (hz : W.heap[W0.heap.size]? = some (.cells zero6 25 (0,0))) : Env W0 y A' c' (Nk W W0.heap.size y A' c') :=
 ⟨Dk hb (Nat.le_refl _),NB.put hz,k,E.bH⟩
theorem Env.Dl {v b : Bool} {f : FuncId} {args : Array Value} {Q : Ending → World → Prop} (E : Env w x A c W) (F : Env w' y A' c' W) (hb : b = v) (h : Calls Tryz.prog f args W (bg b W))
 (K : ∀ w1,Ad (Env w x A c w1) → Ad (Env w' y A' c' w1) → Q (.returned (.bool v)) w1) : Calls Tryz.prog f args W Q:=by
 subst hb;refine h.mono ?_;rintro e w1 ⟨rfl,hB⟩;exact K w1 ⟨E.step hB⟩ ⟨F.step hB⟩
end
noncomputable def paR (y : ak) : Bool:=((y.f0 == 46) && (aI y true true true) && (!(decide (y.f2 > 1))) && (!((y.f3) && (y.f2 == 1))) && (jD y.f1) && ((y.f4.length : Int) == 1) && (uN (nd y.f4 0)))
theorem paR_eq (y : ak) : paR y = paT y:=by
 by_cases h : y.f0 = 46
 · rw [paT_eq h];unfold paR;rw [show (y.f0 == 46) = true from beq_iff_eq.2 h,show aI y true true true = true from rfl,show ((y.f4.length : Int) == 1) = decide (y.f4.length = 1) from mY _ 1];by_cases h1 : y.f2 > 1
   · rw [decide_eq_true h1,decide_eq_false (show ¬ y.f2 ≤ 1 by omega)];rfl
   · rw [decide_eq_false h1,decide_eq_true (show y.f2 ≤ 1 by omega)];cases y.f3 <;> cases (y.f2 == 1) <;> cases jD y.f1 <;> cases decide (y.f4.length = 1) <;> rfl
 · unfold paR paT;rw [decide_eq_false h,show (y.f0 == 46) = false from beq_eq_false_iff_ne.2 h];rfl
theorem kX.p {x : ak} {A : Option Addr} {c : Nat} {w : World} {n m : Nat} (hk : x.f0 = 45) (hK : Kn n x) (hm : x.f4.length = m + 1) (hm1 : 1 ≤ m) (hp0 : aI x true false false = true) (hp1 : jD x.f1 = true) (hp2 : uN (nd x.f4 0) = true) (hp3 : Ed (nd x.f4 m) = true) (hG : aH w) (hn : ND w x A c) : Calls Tryz.prog 24 #[val x A c] w (bg (((x.f4.take (m)).drop 1).all paR) w):=by
 have uI:=Am hn.C.2.1;have E:=Env.start hG hn;clear hn hG;have b1 : (x.f0 != 45) = false:=by rw [hk];rfl
 have b2:=Yt hk 45 rfl
 clear hk;have HS:=Am hK.s.str;have xZ:=Am hK.kids;have HK:=Am hK;clear hK;have P0:=Am hp0;have P1:=Am hp1;have P2:=Am hp2;have P3:=Am hp3;have HL : Ad (0 < x.f4.length):=⟨by omega⟩
 have NC:=Am hm;have HM : Ad (m ≤ x.f4.length):=⟨by omega⟩
 have wm : wrap64 ((x.f4.length : Int) - 1) = (m : Int):=by have:=uI.out;unfold wrap64;omega
 have wm2 : IntKind.i64.wrap ((x.f4.length : Int) - 1) = (m : Int):=(bY _).trans wm;have m1 : decide ((m : Int) < 1) = false:=decide_eq_false (by omega);have pm : (0 : Int) ≤ (m : Int):=by omega
 have qm : (m : Int) < (x.f4.length : Int):=by omega
 clear hp0 hp1 hp2 hp3 hm hm1;go_enter Tryz.func24,Tryz.ntmps24
 go_wp2_with (first
  | (go_at_call 21;(try clear c0 c1 c2 c3 c4 c5);(with_reducible refine Env.call E E.out P0.out (eX.all true false false E.out.bH E.out.nd) (fun w1 E c0 c1 c2 c3 c4 c5 => ?_));(try (have gI:=HL.out;clear gI;obtain ⟨ad,rfl⟩:=aT E.out.kids (by have:=HL.out;omega)));(try (have gI:=HL.out;clear gI;have q0 : 0 < x.f4.length:=(by have:=HL.out;omega);obtain ⟨A0,d0,hn0,bP,bQ,bT,bU,bV,bW⟩:=oN E.out.kids (by have:=HL.out;omega);have gJ:=Am hn0;clear hn0)))
  | (go_at_call 34;(try clear c0 c1 c2 c3 c4 c5);(with_reducible refine Env.call E E.out P1.out (sF.all HS.out E.out.bH) (fun w1 E c0 c1 c2 c3 c4 c5 => ?_));(try (have gI:=HL.out;clear gI;have q0 : 0 < x.f4.length:=(by have:=HL.out;omega);obtain ⟨A0,d0,hn0,bP,bQ,bT,bU,bV,bW⟩:=oN E.out.kids (by have:=HL.out;omega);have gJ:=Am hn0;clear hn0)))
  | (go_at_call 35;(try clear c0 c1 c2 c3 c4 c5);(with_reducible refine Env.call E E.out P2.out (vX.all (xZ.out _ (aQ (by have:=HL.out;omega))) E.out.bH gJ.out) (fun w1 E c0 c1 c2 c3 c4 c5 => ?_));(try (obtain ⟨A9,d9,hn9,k90,k91,k92,k93,k94,k95⟩:=jO E.out.kids (i:=m) (by have:=NC.out;omega);have HN9:=Am hn9;clear hn9)))
  | (go_at_call 37;(try clear c0 c1 c2 c3 c4 c5);(with_reducible refine Env.call E E.out P3.out (rV.all (HK.out.kid (aQ (by have:=NC.out;omega))) E.out.bH HN9.out) (fun w1 E c0 c1 c2 c3 c4 c5 => ?_));skip)
  | fail)
 try clear c0 c1 c2 c3 c4 c5
 go_loopg [4] (m) (fun kq v w' => ∃ i : Nat,v = .int .i64 i ∧ Ad (i + kq = (m) + 1) ∧ Ad (1 ≤ i) ∧ Ad (∀ j,1 ≤ j → j < i → j < (m) → paR (nd x.f4 j) = true) ∧ Ad (Env w x (some ad) c w'))
 case atStart => exact ⟨1,rfl,⟨by omega⟩,⟨Nat.le_refl _⟩,⟨fun j h1 h2 => by omega⟩,by first|exact E|exact ⟨E.out.alloc _⟩⟩
 case round =>
  obtain ⟨i,rfl,HI,H0,HP,E⟩:=hrel;obtain ⟨c0,c1,c2,c3,c4,c5⟩:=E.out.cells;by_cases hi : i < (m)
  · have qp : decide (i < (m)) = true:=decide_eq_true hi;have e1 : decide ((i : Int) < (m : Int)) = true:=decide_eq_true (by omega);have p1 : (0 : Int) ≤ (i : Int):=by omega
    have q1 : (i : Int) < (x.f4.length : Int):=by have:=HM.out;omega
    obtain ⟨A',c',hnd,k0,k1,k2,k3,k4,k5⟩:=jO E.out.kids (show i < x.f4.length by have:=HM.out;omega);have uM:=Am hnd;have gZ : Ad (i < x.f4.length):=⟨by have:=HM.out;omega⟩
    have HIM:=Am hi;have jU:=Am (aQ gZ.out);clear hi hnd;have w3 : wrap64 ((i : Int) + 1) = (i : Int) + 1:=by have:=uI.out;have:=gZ.out;unfold wrap64;omega
    have w4 : IntKind.i64.wrap ((i : Int) + 1) = (i : Int) + 1:=(bY _).trans w3;cases h0 : ((nd x.f4 i).f0 == 46);rotate_left 1;cases h1 : (aI (nd x.f4 i) true true true);rotate_right 1
    rotate_left 2;cases h2 : (decide ((nd x.f4 i).f2 > 1));rotate_right 2
    rotate_left 2;cases h3 : ((nd x.f4 i).f3);rotate_right 2
    rotate_left 2;cases h5 : (jD (nd x.f4 i).f1);rotate_right 2
    rotate_left 3;cases h6 : (((nd x.f4 i).f4.length : Int) == 1);rotate_right 3
    rotate_left 4;cases h7 : (uN (nd (nd x.f4 i).f4 0));rotate_right 4
    rotate_left 6;cases h4 : ((nd x.f4 i).f2 == 1);rotate_right 6
    rotate_left 6;cases h5 : (jD (nd x.f4 i).f1);rotate_right 6
    rotate_left 7;cases h6 : (((nd x.f4 i).f4.length : Int) == 1);rotate_right 7
    rotate_left 8;cases h7 : (uN (nd (nd x.f4 i).f4 0));rotate_right 8
    all_goals
     try have iU : ((nd x.f4 i).f0 != 46) = false:=by unfold bne;rw [h0];rfl
     try have iU : ((nd x.f4 i).f0 != 46) = true:=by unfold bne;rw [h0];rfl
     try (have jK:=Am h1;clear h1)
     try have h2m0 : decide (1 < (nd x.f4 i).f2) = true:=h2
     try have h2m0 : decide (1 < (nd x.f4 i).f2) = false:=h2
     try (have kR:=Am h3;clear h3)
     try (have yw:=Am h5;clear h5)
     try have h6m0 : (((nd x.f4 i).f4.length : Int) != 1) = false:=by unfold bne;rw [h6];rfl
     try have h6m0 : (((nd x.f4 i).f4.length : Int) != 1) = true:=by unfold bne;rw [h6];rfl
     try (have HC7:=Am h7;clear h7)
     try have HLy:=Am (tY (k:=1) h6)
     go_wp2_with (first
     | ((with_reducible refine jM (N:=5) rfl ?_);refine kL ?hg (N:=5) ?hd (cs:=zero6) (t:=25) ?hr ?_;(case hd => rfl);(case hg => rfl);(case hr => first|(go_simp;done)|(go_simp;rfl));intro gb hg w1 hbox hb;subst hg;have EW:=E;have GE:=Am EW.out.lt;have ne1:=Nat.ne_of_gt GE.out;have ne2:=Nat.ne_of_lt GE.out;replace E:=Am (EW.out.step hb);(try clear c0 c1 c2 c3 c4 c5);obtain ⟨c0,c1,c2,c3,c4,c5⟩:=E.out.cells;(try clear k0 k1 k2 k3 k4 k5);have HB0:=Am hb;have BK:=Am hbox;clear hb hbox;have z0:=(Z5 BK.out 0).trans (show zero6[0]? = some (.int .i64 0) from rfl);have f0:=Z2 BK.out 0;have z1:=(Z5 BK.out 1).trans (show zero6[1]? = some (.string (⟨#[]⟩ : ByteArray)) from rfl);have f1:=Z2 BK.out 1;have z2:=(Z5 BK.out 2).trans (show zero6[2]? = some (.int .u32 0) from rfl);have f2:=Z2 BK.out 2;have z3:=(Z5 BK.out 3).trans (show zero6[3]? = some (.bool false) from rfl);have f3:=Z2 BK.out 3;have z4:=(Z5 BK.out 4).trans (show zero6[4]? = some (.slice none 0 0) from rfl);have f4:=Z2 BK.out 4;have z5:=(Z5 BK.out 5).trans (show zero6[5]? = some (.int .i64 0) from rfl);have f5:=Z2 BK.out 5)
       | (go_at_call 21;(try clear c0 c1 c2 c3 c4 c5);(try clear p0 p1 p2 p3 p4 p5);(try clear z0 z1 z2 z3 z4 z5 f0 f1 f2 f3 f4 f5);(with_reducible refine Env.Dl (E.out.put GE.out) (Env.box EW.out uM.out HB0.out BK.out) jK.out (eX.all true true true (E.out.put GE.out).bH (Env.box EW.out uM.out HB0.out BK.out).nd) (fun w1 E F => ?_));clear BK HB0 EW;obtain ⟨c0,c1,c2,c3,c4,c5⟩:=E.out.cells;obtain ⟨p0,p1,p2,p3,p4,p5⟩:=F.out.cells;(try have h3:=kR.out))
       | (go_at_call 34;(try clear c0 c1 c2 c3 c4 c5);(try clear p0 p1 p2 p3 p4 p5);(try clear z0 z1 z2 z3 z4 z5 f0 f1 f2 f3 f4 f5);(with_reducible refine Env.Dl E.out F.out yw.out (sF.all (xZ.out _ jU.out) E.out.bH) (fun w1 E F => ?_));obtain ⟨c0,c1,c2,c3,c4,c5⟩:=E.out.cells;obtain ⟨p0,p1,p2,p3,p4,p5⟩:=F.out.cells;(try (have gI:=HLy.out;obtain ⟨ad2,rfl⟩:=aT F.out.kids (by omega);clear gI));(try (have gI:=HLy.out;have q0 : (0 : Int) < ((nd x.f4 i).f4.length : Int):=(by omega);have q0n : 0 < (nd x.f4 i).f4.length:=(by omega);clear gI;obtain ⟨A0,d0,hn0,bP,bQ,bT,bU,bV,bW⟩:=oN F.out.kids (by have:=HLy.out;omega);have gJ:=Am hn0;clear hn0)))
       | (go_at_call 35;(try clear c0 c1 c2 c3 c4 c5);(try clear p0 p1 p2 p3 p4 p5);(try clear z0 z1 z2 z3 z4 z5 f0 f1 f2 f3 f4 f5);(with_reducible refine Env.Dl E.out F.out HC7.out (vX.all ((HK.out.kid jU.out).kids _ (aQ (by have:=HLy.out;omega))) E.out.bH gJ.out) (fun w1 E F => ?_));obtain ⟨c0,c1,c2,c3,c4,c5⟩:=E.out.cells;obtain ⟨p0,p1,p2,p3,p4,p5⟩:=F.out.cells)
       | fail)
     first
     | (go_ret;exact ⟨by rw [vY (p:=paR) HM.out H0.out HIM.out (by (try dsimp only);unfold paR;(try rw [h0]);(try rw [jK.out]);(try rw [h2]);(try rw [kR.out]);(try rw [h4]);(try rw [yw.out]);(try rw [h6]);(try rw [HC7.out]);first|done|rfl)];rfl,by first|with_reducible exact E.out.b|with_reducible exact (E.out.put GE.out).b⟩)
     | (go_roundg (m + 1 - (i + 1))
        case measure => have:=HI.out;have:=HIM.out;omega
        case rel => exact ⟨i + 1,by (try simp only [w4,w3]);rfl,⟨by have:=HI.out;have:=HIM.out;omega⟩,⟨by have:=H0.out;omega⟩,⟨fun j j1 j2 j3 => by
         by_cases hj : j = i
         · subst hj;(try dsimp only);unfold paR;(try rw [h0]);(try rw [jK.out]);(try rw [h2]);(try rw [kR.out]);(try rw [h4]);(try rw [yw.out]);(try rw [h6]);(try rw [HC7.out]);first|done|rfl
         · exact HP.out j j1 (by omega) j3⟩,E⟩)
  · have qp : decide (i < (m)) = false:=decide_eq_false hi;have e1 : decide ((i : Int) < (m : Int)) = false:=decide_eq_false (by omega);have HH:=Am (y8 (p:=paR) (l:=x.f4) (m:=m) (i:=1) HM.out (fun j h1 h2 => HP.out j h1 (by omega) h2));clear hi HP HI;go_wp2
    go_ret
    exact ⟨by rw [HH.out];rfl,dS⟩
noncomputable def lM (x : ak) (m : Nat) : Bool:=((aI x true false false) && (jD x.f1) && (!(decide ((m : Int) < 1))) && (uN (nd x.f4 0)) && (Ed (nd x.f4 m)))
theorem kX.f {n m : Nat} {x : ak} {A : Option Addr} {c : Nat} {w : World} (hk : x.f0 = 45) (hK : Kn n x) (hm : x.f4.length = m + 1) (hpre : lM x m = false) (hG : aH w) (hn : ND w x A c) : Calls Tryz.prog 24 #[val x A c] w (bg (false) w):=by
 have uI:=Am hn.C.2.1;have E:=Env.start hG hn;clear hn hG;have b1 : (x.f0 != 45) = false:=by rw [hk];rfl
 have b2:=Yt hk 45 rfl
 clear hk;have HS:=Am hK.s.str;have xZ:=Am hK.kids;have HK:=Am hK;clear hK;have NC:=Am hm;have HL : Ad (0 < x.f4.length):=⟨by omega⟩
 have wm : wrap64 ((x.f4.length : Int) - 1) = (m : Int):=by have:=uI.out;unfold wrap64;omega
 have wm2 : IntKind.i64.wrap ((x.f4.length : Int) - 1) = (m : Int):=(bY _).trans wm;have pm : (0 : Int) ≤ (m : Int):=by omega
 have qm : (m : Int) < (x.f4.length : Int):=by omega
 clear hm;cases h0 : (aI x true false false);rotate_left 1;cases h1 : (jD x.f1);rotate_right 1
 rotate_left 2;cases h2 : (decide ((m : Int) < 1));rotate_right 2
 rotate_left 2;cases h3 : (uN (nd x.f4 0));rotate_right 2
 rotate_left 3;cases h4 : (Ed (nd x.f4 m));rotate_right 3
 rotate_left 4;(exact absurd (hpre.symm.trans (show lM x m = true from by unfold lM;(try rw [h0]);(try rw [h1]);(try rw [h2]);(try rw [h3]);(try rw [h4]);first|done|rfl)) (by decide));rotate_right 4
 all_goals
  try (have fF:=Am h0;clear h0)
  try (have jK:=Am h1;clear h1)
  try (have kR:=Am h3;clear h3)
  try (have Eb:=Am h4;clear h4)
  clear hpre;go_enter Tryz.func24,Tryz.ntmps24
  go_wp2_with (first
   | (go_at_call 21;(try clear c0 c1 c2 c3 c4 c5);(with_reducible refine Env.call E E.out fF.out (eX.all true false false E.out.bH E.out.nd) (fun w1 E c0 c1 c2 c3 c4 c5 => ?_));(try (have gI:=HL.out;clear gI;obtain ⟨ad,rfl⟩:=aT E.out.kids (by have:=HL.out;omega)));(try (have gI:=HL.out;clear gI;have q0 : 0 < x.f4.length:=(by have:=HL.out;omega);obtain ⟨A0,d0,hn0,bP,bQ,bT,bU,bV,bW⟩:=oN E.out.kids (by have:=HL.out;omega);have gJ:=Am hn0;clear hn0)))
   | (go_at_call 34;(try clear c0 c1 c2 c3 c4 c5);(with_reducible refine Env.call E E.out jK.out (sF.all HS.out E.out.bH) (fun w1 E c0 c1 c2 c3 c4 c5 => ?_));(try (have gI:=HL.out;clear gI;have q0 : 0 < x.f4.length:=(by have:=HL.out;omega);obtain ⟨A0,d0,hn0,bP,bQ,bT,bU,bV,bW⟩:=oN E.out.kids (by have:=HL.out;omega);have gJ:=Am hn0;clear hn0)))
   | (go_at_call 35;(try clear c0 c1 c2 c3 c4 c5);(with_reducible refine Env.call E E.out kR.out (vX.all (xZ.out _ (aQ (by have:=HL.out;omega))) E.out.bH gJ.out) (fun w1 E c0 c1 c2 c3 c4 c5 => ?_));(try (obtain ⟨A9,d9,hn9,k90,k91,k92,k93,k94,k95⟩:=jO E.out.kids (i:=m) (by have:=NC.out;have:=HL.out;omega);have HN9:=Am hn9;clear hn9)))
   | (go_at_call 37;(try clear c0 c1 c2 c3 c4 c5);(with_reducible refine Env.call E E.out Eb.out (rV.all (HK.out.kid (aQ (by have:=NC.out;omega))) E.out.bH HN9.out) (fun w1 E c0 c1 c2 c3 c4 c5 => ?_)))
   | fail)
  go_ret
  exact ⟨rfl,dS⟩
theorem kX.e {n : Nat} {x : ak} {A : Option Addr} {c : Nat} {w : World} (p : Bool) (hp : aI x true false false = p) (q : Bool) (hq : jD x.f1 = q) (hk : x.f0 = 45) (hK : Kn n x) (hm : x.f4.length = 0) (hG : aH w) (hn : ND w x A c) : Calls Tryz.prog 24 #[val x A c] w (bg (false) w):=by
 have E:=Env.start hG hn;clear hn hG;have b1 : (x.f0 != 45) = false:=by rw [hk];rfl
 have b2:=Yt hk 45 rfl
 clear hk;have HS:=Am hK.s.str;have xZ:=Am hK.kids;have HK:=Am hK;clear hK;have P0:=Am hp;have P1:=Am hq;have wm : wrap64 ((x.f4.length : Int) - 1) = -1:=by unfold wrap64;omega
 have wm2 : IntKind.i64.wrap ((x.f4.length : Int) - 1) = -1:=(bY _).trans wm;clear hm hp hq;cases p <;> cases q
 all_goals
  go_enter Tryz.func24,Tryz.ntmps24
  go_wp2_with (first
   | (go_at_call 21;(try clear c0 c1 c2 c3 c4 c5);(with_reducible refine Env.call E E.out P0.out (eX.all true false false E.out.bH E.out.nd) (fun w1 E c0 c1 c2 c3 c4 c5 => ?_));skip)
   | (go_at_call 34;(try clear c0 c1 c2 c3 c4 c5);(with_reducible refine Env.call E E.out P1.out (sF.all HS.out E.out.bH) (fun w1 E c0 c1 c2 c3 c4 c5 => ?_));skip)
   | fail)
  go_ret
  exact ⟨rfl,dS⟩
theorem kX.no {x : ak} {A : Option Addr} {c : Nat} {w : World} (hk : x.f0 ≠ 45) (hG : aH w) (hn : ND w x A c) : Calls Tryz.prog 24 #[val x A c] w (bg (false) w):=by
 have E:=Env.start hG hn;clear hn hG;have b1 : (x.f0 != 45) = true:=bne_iff_ne.2 hk;have b2 : (x.f0 == 45) = false:=beq_eq_false_iff_ne.2 hk;clear hk;go_enter Tryz.func24,Tryz.ntmps24
 go_wp2
 go_ret
 exact ⟨rfl,dS⟩
theorem kX.all {n : Nat} {x : ak} {A : Option Addr} {c : Nat} {w : World} (hK : Kn n x) (hG : aH w) (hn : ND w x A c) : Calls Tryz.prog 24 #[val x A c] w (bg (fnT x) w):=by
 by_cases h : x.f0 = 45
 · rw [fnT_eq h];by_cases h0 : x.f4.length = 0
   · have e : (aI x true false false && (jD x.f1 && (decide (2 ≤ x.f4.length) && (uN (nd x.f4 0) && (Ed (nd x.f4 (x.f4.length - 1)) && ((x.f4.take (x.f4.length - 1)).drop 1).all paT))))) = false:=by
      rw [decide_eq_false (show ¬ 2 ≤ x.f4.length by omega)];cases aI x true false false <;> cases jD x.f1 <;> rfl
     rw [e];exact kX.e _ rfl _ rfl h hK h0 hG hn
   · obtain ⟨m,hm⟩ : ∃ m,x.f4.length = m + 1:=⟨x.f4.length - 1,by omega⟩
     have e : (aI x true false false && (jD x.f1 && (decide (2 ≤ x.f4.length) && (uN (nd x.f4 0) && (Ed (nd x.f4 (x.f4.length - 1)) && ((x.f4.take (x.f4.length - 1)).drop 1).all paT))))) = (lM x m && ((x.f4.take m).drop 1).all paR):=by
      rw [show x.f4.length - 1 = m by omega,show (paT : ak → Bool) = paR from funext fun y => (paR_eq y).symm];unfold lM;by_cases h1 : 2 ≤ x.f4.length
      · rw [decide_eq_true h1,decide_eq_false (show ¬ (m : Int) < 1 by omega)];cases aI x true false false <;> cases jD x.f1 <;> cases uN (nd x.f4 0) <;> cases Ed (nd x.f4 m) <;> rfl
      · rw [decide_eq_false h1,decide_eq_true (show (m : Int) < 1 by omega)];cases aI x true false false <;> cases jD x.f1 <;> rfl
     rw [e];cases hp : lM x m with
     | false => exact kX.f h hK hm hp hG hn
     | true =>
      unfold lM at hp;simp only [Bool.and_eq_true,Bool.not_eq_true',decide_eq_false_iff_not] at hp;exact kX.p h hK hm (by omega) hp.1.1.1.1 hp.1.1.1.2 hp.1.2 hp.2 hG hn
 · rw [show fnT x = false from by unfold fnT;rw [decide_eq_false h];rfl];exact kX.no h hG hn
noncomputable def EC (y : ak) : Bool:=FT y || (zO false y || fnT y)
def chkI (b : Bool) : Int:=if b = true then 0 else 80
theorem AZ.p {x : ak} {A : Option Addr} {c : Nat} {w : World} {n k : Nat} {r : Int} (hr : bI.f k x.f0 x.f1 x.f2 x.f3 x.f4 x.f5 = some r) (hK : Kn n x) (h0 : x.f0 = 40) (hr0 : r ≠ 0) (hp : aI x false false false = true) (hG : aH w) (hn : ND w x A c) : Calls Tryz.prog 9 #[val x A c] w (IntP (chkI (((x.f4.take (x.f4.length)).drop 0).all EC)) w):=by
 have uI:=Am hn.C.2.1;have E:=Env.start hG hn;clear hn hG;have HR:=Am hr;clear hr;have HK:=Am hK;clear hK;have HM : Ad (x.f4.length ≤ x.f4.length):=⟨Nat.le_refl _⟩
 have b1 : (x.f0 != 40) = false:=by rw [h0];rfl
 have b2 : (x.f0 == 40) = true:=by rw [h0];rfl
 have b3 : (r == 0) = false:=beq_eq_false_iff_ne.2 hr0;have P0:=Am hp;clear hp h0 hr0;go_enter Tryz.func9,Tryz.ntmps9
 go_wp2_with (first
  | (go_at_call 13;(try clear c0 c1 c2 c3 c4 c5);(with_reducible refine (bI.calls k _ _ _ _ A c _ _ r _ E.out.kids E.out.k.le HR.out).mono ?_);rintro e w1 ⟨rfl,hB⟩;replace E:=Am (E.out.step hB);clear hB;obtain ⟨c0,c1,c2,c3,c4,c5⟩:=E.out.cells)
  | (go_at_call 21;(try clear c0 c1 c2 c3 c4 c5);(with_reducible refine Env.call E E.out P0.out (eX.all false false false E.out.bH E.out.nd) (fun w1 E c0 c1 c2 c3 c4 c5 => ?_));skip)
  | fail)
 try clear c0 c1 c2 c3 c4 c5
 go_loopg [3] (x.f4.length) (fun kq v w' => ∃ i : Nat,v = .int .i64 i ∧ Ad (i + kq = (x.f4.length) + 0) ∧ Ad (0 ≤ i) ∧ Ad (∀ j,0 ≤ j → j < i → j < (x.f4.length) → EC (nd x.f4 j) = true) ∧ Ad (Env w x A c w'))
 case atStart => exact ⟨0,rfl,⟨by omega⟩,⟨Nat.le_refl _⟩,⟨fun j h1 h2 => by omega⟩,by first|exact E|exact ⟨E.out.alloc _⟩⟩
 case round =>
  obtain ⟨i,rfl,HI,H0,HP,E⟩:=hrel;obtain ⟨c0,c1,c2,c3,c4,c5⟩:=E.out.cells;by_cases hi : i < (x.f4.length)
  · have qp : decide (i < (x.f4.length)) = true:=decide_eq_true hi;have e1 : decide ((i : Int) < (x.f4.length : Int)) = true:=decide_eq_true (by omega);have p1 : (0 : Int) ≤ (i : Int):=by omega
    have q1 : (i : Int) < (x.f4.length : Int):=by have:=HM.out;omega
    obtain ⟨ad,A',c',rfl,hnd,k0,k1,k2,k3,k4,k5⟩:=fG E.out.kids i (show i < x.f4.length by have:=HM.out;omega);have uM:=Am hnd;have gZ : Ad (i < x.f4.length):=⟨by have:=HM.out;omega⟩
    have HIM:=Am hi;have jU:=Am (aQ gZ.out);clear hi hnd;have w3 : wrap64 ((i : Int) + 1) = (i : Int) + 1:=by have:=uI.out;have:=gZ.out;unfold wrap64;omega
    have w4 : IntKind.i64.wrap ((i : Int) + 1) = (i : Int) + 1:=(bY _).trans w3;cases h0 : (FT (nd x.f4 i));cases h1 : (zO false (nd x.f4 i));cases h2 : (fnT (nd x.f4 i));all_goals
     try (have fF:=Am h0;clear h0)
     try (have jK:=Am h1;clear h1)
     try (have HC2:=Am h2;clear h2)
     go_wp2_with (first
     | ((with_reducible refine jM (N:=4) rfl ?_);refine kL ?hg (N:=4) ?hd (cs:=zero6) (t:=25) ?hr ?_;(case hd => rfl);(case hg => rfl);(case hr => first|(go_simp;done)|(go_simp;rfl));intro gb hg w1 hbox hb;subst hg;have EW:=E;have GE:=Am EW.out.lt;have ne1:=Nat.ne_of_gt GE.out;have ne2:=Nat.ne_of_lt GE.out;replace E:=Am (EW.out.step hb);(try clear c0 c1 c2 c3 c4 c5);obtain ⟨c0,c1,c2,c3,c4,c5⟩:=E.out.cells;(try clear k0 k1 k2 k3 k4 k5);have HB0:=Am hb;have BK:=Am hbox;clear hb hbox;have z0:=(Z5 BK.out 0).trans (show zero6[0]? = some (.int .i64 0) from rfl);have f0:=Z2 BK.out 0;have z1:=(Z5 BK.out 1).trans (show zero6[1]? = some (.string (⟨#[]⟩ : ByteArray)) from rfl);have f1:=Z2 BK.out 1;have z2:=(Z5 BK.out 2).trans (show zero6[2]? = some (.int .u32 0) from rfl);have f2:=Z2 BK.out 2;have z3:=(Z5 BK.out 3).trans (show zero6[3]? = some (.bool false) from rfl);have f3:=Z2 BK.out 3;have z4:=(Z5 BK.out 4).trans (show zero6[4]? = some (.slice none 0 0) from rfl);have f4:=Z2 BK.out 4;have z5:=(Z5 BK.out 5).trans (show zero6[5]? = some (.int .i64 0) from rfl);have f5:=Z2 BK.out 5)
       | (go_at_call 22;(try clear c0 c1 c2 c3 c4 c5);(try clear p0 p1 p2 p3 p4 p5);(try clear z0 z1 z2 z3 z4 z5 f0 f1 f2 f3 f4 f5);(with_reducible refine Env.Dl (E.out.put GE.out) (Env.box EW.out uM.out HB0.out BK.out) fF.out (rU.all (HK.out.kid jU.out) (E.out.put GE.out).bH (Env.box EW.out uM.out HB0.out BK.out).nd) (fun w1 E F => ?_));clear BK HB0 EW;obtain ⟨c0,c1,c2,c3,c4,c5⟩:=E.out.cells;obtain ⟨p0,p1,p2,p3,p4,p5⟩:=F.out.cells)
       | (go_at_call 23;(try clear c0 c1 c2 c3 c4 c5);(try clear p0 p1 p2 p3 p4 p5);(try clear z0 z1 z2 z3 z4 z5 f0 f1 f2 f3 f4 f5);(with_reducible refine Env.Dl E.out F.out jK.out (yc.all false (HK.out.kid jU.out) E.out.bH F.out.nd) (fun w1 E F => ?_));obtain ⟨c0,c1,c2,c3,c4,c5⟩:=E.out.cells;obtain ⟨p0,p1,p2,p3,p4,p5⟩:=F.out.cells)
       | (go_at_call 24;(try clear c0 c1 c2 c3 c4 c5);(try clear p0 p1 p2 p3 p4 p5);(try clear z0 z1 z2 z3 z4 z5 f0 f1 f2 f3 f4 f5);(with_reducible refine Env.Dl E.out F.out HC2.out (kX.all (HK.out.kid jU.out) E.out.bH F.out.nd) (fun w1 E F => ?_));obtain ⟨c0,c1,c2,c3,c4,c5⟩:=E.out.cells;obtain ⟨p0,p1,p2,p3,p4,p5⟩:=F.out.cells)
       | fail)
     first
     | (go_ret;exact ⟨by rw [vY (p:=EC) HM.out H0.out HIM.out (by (try dsimp only);unfold EC;(try rw [fF.out]);(try rw [jK.out]);(try rw [HC2.out]);first|done|rfl)];rfl,by first|with_reducible exact E.out.b|with_reducible exact (E.out.put GE.out).b⟩)
     | (go_roundg ((x.f4.length) + 0 - (i + 1))
        case measure => have:=HI.out;have:=HIM.out;omega
        case rel => exact ⟨i + 1,by (try simp only [w4,w3]);rfl,⟨by have:=HI.out;have:=HIM.out;omega⟩,⟨by have:=H0.out;omega⟩,⟨fun j j1 j2 j3 => by
         by_cases hj : j = i
         · subst hj;(try dsimp only);unfold EC;(try rw [fF.out]);(try rw [jK.out]);(try rw [HC2.out]);first|done|rfl
         · exact HP.out j j1 (by omega) j3⟩,E⟩)
  · have qp : decide (i < (x.f4.length)) = false:=decide_eq_false hi;have e1 : decide ((i : Int) < (x.f4.length : Int)) = false:=decide_eq_false (by omega);have HH:=Am (y8 (p:=EC) (l:=x.f4) (m:=x.f4.length) (i:=0) HM.out (fun j h1 h2 => HP.out j h1 (by omega) h2));clear hi HP HI;go_wp2
    go_ret
    exact ⟨by rw [HH.out];rfl,dS⟩
theorem AZ.f {x : ak} {A : Option Addr} {c : Nat} {w : World} {n k : Nat} {r : Int} (hr : bI.f k x.f0 x.f1 x.f2 x.f3 x.f4 x.f5 = some r) (hK : Kn n x) (hpre : ((r == 0) || ((x.f0 != 40) || !(aI x false false false))) = true) (hG : aH w) (hn : ND w x A c) : Calls Tryz.prog 9 #[val x A c] w (IntP 80 w):=by
 have E:=Env.start hG hn;clear hn hG;have HR:=Am hr;clear hr;have HK:=Am hK;clear hK;cases h0 : (r == 0);cases h1 : (x.f0 != 40);cases h2 : aI x false false false;rotate_left 1
 · rw [h0,h1,h2] at hpre;cases hpre
 rotate_right 1
 all_goals
  clear hpre;try have h1m : (x.f0 == 40) = false:=by rw [bne] at h1;simpa using h1
  try have h1m : (x.f0 == 40) = true:=by rw [bne] at h1;simpa using h1
  try (have P0:=Am h2;clear h2)
  go_enter Tryz.func9,Tryz.ntmps9
  go_wp2_with (first
   | (go_at_call 13;(try clear c0 c1 c2 c3 c4 c5);(with_reducible refine (bI.calls k _ _ _ _ A c _ _ r _ E.out.kids E.out.k.le HR.out).mono ?_);rintro e w1 ⟨rfl,hB⟩;replace E:=Am (E.out.step hB);clear hB;obtain ⟨c0,c1,c2,c3,c4,c5⟩:=E.out.cells)
   | (go_at_call 21;(try clear c0 c1 c2 c3 c4 c5);(with_reducible refine Env.call E E.out P0.out (eX.all false false false E.out.bH E.out.nd) (fun w1 E c0 c1 c2 c3 c4 c5 => ?_));skip)
   | fail)
  go_ret
  exact ⟨rfl,dS⟩
theorem AZ.all {x : ak} {A : Option Addr} {c : Nat} {w : World} {n k : Nat} {r : Int} (hr : bI.f k x.f0 x.f1 x.f2 x.f3 x.f4 x.f5 = some r) (hK : Kn n x) (hG : aH w) (hn : ND w x A c) : Calls Tryz.prog 9 #[val x A c] w (IntP (gX r x) w):=by
 by_cases h : ((r == 0) || ((x.f0 != 40) || !(aI x false false false))) = true
 · have e : gX r x = 80:=by
    unfold gX;rw [if_pos];cases h0 : (r == 0) with
    | true => simp
    | false =>
     cases h1 : (x.f0 != 40) with
     | true => rfl
     | false =>
      rw [h0,h1] at h;have EK : x.f0 = 40:=by simpa using h1
      have hp : aI x false false false = false:=by simpa using h
      have : bK x = false:=by
       rw [rO (by omega),show fQ x = d40 x from by unfold fQ;simp [EK],decide_eq_false (show ¬ x.f0 = 43 by omega),decide_eq_false (show ¬ x.f0 = 46 by omega)];unfold aI at hp;unfold d40;revert hp;cases (x.f1.toList == ([] : List UInt8)) <;> cases (x.f2 == 0) <;> cases x.f3 <;> simp
      rw [this];rfl
   rw [e];exact AZ.f hr hK h hG hn
 · have hq:=Bool.eq_false_iff.2 h;simp only [Bool.or_eq_false_iff,Bool.not_eq_false'] at hq;obtain ⟨h0,h1,hp⟩:=hq;have EK : x.f0 = 40:=by simpa using h1
   have e : gX r x = chkI (((x.f4.take (x.f4.length)).drop 0).all EC):=by
    rw [List.take_length,List.drop_zero];unfold chkI;have e1 : x.f4.all EC = (x.f4.all (fun y => decide (y.f0 = 41) || decide (y.f0 = 42) || decide (y.f0 = 45)) && x.f4.all bK):=by
     rw [og];congr 1
     funext y
     unfold EC FT zO fnT;cases decide (y.f0 = 41) <;> cases decide (y.f0 = 42) <;> cases decide (y.f0 = 45) <;> cases bK y <;> rfl
    unfold gX;rw [e1,h0,h1,rO (by omega),show fQ x = d40 x from by unfold fQ;simp [EK],decide_eq_false (show ¬ x.f0 = 43 by omega),decide_eq_false (show ¬ x.f0 = 46 by omega)];unfold aI at hp;unfold d40;revert hp;cases (x.f1.toList == ([] : List UInt8)) <;> cases (x.f2 == 0) <;> cases x.f3 <;> cases x.f4.all (fun y => decide (y.f0 = 41) || decide (y.f0 = 42) || decide (y.f0 = 45)) <;> cases x.f4.all bK <;> simp
   rw [e];exact AZ.p hr hK EK (by simpa using h0) hp hG hn
theorem yh : ∀ n,∀ y,SizeOf.sizeOf y < n → nI y → jJ y ∧ qQ y
 | 0,_,h,_ => absurd h (Nat.not_lt_zero _)
 | n + 1,y,h,hs => by
  have hK : Kn n y:=⟨by omega,hs,fun z hz h1 => (yh n z hz h1).1,fun z hz h1 => (yh n z hz h1).2⟩
  exact ⟨fun A c w hG hn => kT.all hK hG hn,fun A c w hG hn => IV.all hK hG hn⟩
theorem Ba.all {x : ak} {A : Option Addr} {c : Nat} {w : World} {k : Nat} {r : Int} (hr : bI.f k x.f0 x.f1 x.f2 x.f3 x.f4 x.f5 = some r) (hs : nI x) (hG : aH w) (hn : ND w x A c) : Calls Tryz.prog 9 #[val x A c] w (IntP (gX r x) w) :=
 AZ.all hr (⟨Nat.le_refl _,hs,fun z hz h1 => (yh _ z hz h1).1,fun z hz h1 => (yh _ z hz h1).2⟩ : Kn (SizeOf.sizeOf x) x) hG hn
section
variable {ops : Array Oper} {rest : List Oper} {o : Oper} {a : Act} {Q : Exit → Act → World → Prop} {W : World}
theorem GN (hgd : o.guard = none) {N : Tmp} (_hd : o.dst = some N) {p : Operand} (ho : o.op = .box 46 p) (hx : a.eval p = .agg #[.slice none 0 0])
 (K : ∀ g w',W.heap.size ≤ g → w'.heap[g]? = some (.cells #[.slice none 0 0] 46 (0,0)) → Below W.heap.size W w' → wpList Tryz.prog ops Q rest (a.put o.dst (.pointer (some ⟨g,0,none⟩))) w') : wpList Tryz.prog ops Q (o :: rest) a W:=by
 refine kL hgd _hd (cs:=#[.slice none 0 0]) (t:=46) ?_ (fun g hg w1 h1 h2 => K g w1 (by omega) h1 h2);simp only [execOp,ho,hx];go_simp;try rfl
end
theorem vZ.no {x : ak} {A : Option Addr} {c : Nat} {w : World} {k : Nat} {r : Int} (hr : bI.f k x.f0 x.f1 x.f2 x.f3 x.f4 x.f5 = some r) (hs : nI x) (hm : Tm x) (hG : aH w) (hT : Tb w) (hl : (qC x).length ≤ 70368744177664) (hn : ND w x A c) (hz : gX r x ≠ 0) : Calls Tryz.prog 12 #[val x A c] w (GL (Di (gX r x) x) (Dj (gX r x) x) w):=by
 have HR:=Am hr;have HS:=Am hs;have HP:=Am (show Di (gX r x) x = ⟨#[]⟩ ∧ Dj (gX r x) x = gX r x from by unfold Di Dj;rw [if_neg hz,if_neg hz];exact ⟨rfl,rfl⟩);have b0 : (gX r x != 0) = true:=bne_iff_ne.2 hz;have b1 : (gX r x == 0) = false:=beq_eq_false_iff_ne.2 hz;have E:=Env.start hG hn;clear hr hs hG hn hm hT hl hz;go_enter Tryz.func12,Tryz.ntmps12
 go_wp2_with (first
  | (go_at_call 9;(try clear c0 c1 c2 c3 c4 c5);((refine (Ba.all HR.out HS.out E.out.bH E.out.nd).mono ?_);rintro e w1 ⟨rfl,hB⟩;replace E:=Am (E.out.step hB);clear hB;obtain ⟨c0,c1,c2,c3,c4,c5⟩:=E.out.cells;(try have hz:=HZ.out)))
  | fail)
 first|go_ret2|go_ret
 exact ⟨by rw [HP.out.1,HP.out.2];rfl,E.out.b⟩
theorem vZ.long {x : ak} {A : Option Addr} {c : Nat} {w : World} {k : Nat} {r : Int} (hr : bI.f k x.f0 x.f1 x.f2 x.f3 x.f4 x.f5 = some r) (hs : nI x) (hm : Tm x) (hG : aH w) (hT : Tb w) (hl : (qC x).length ≤ 70368744177664) (hn : ND w x A c) (hz : gX r x = 0) (hL : 1048576 < (qC x).length) : Calls Tryz.prog 12 #[val x A c] w (GL (Di (gX r x) x) (Dj (gX r x) x) w):=by
 have HR:=Am hr;have HS:=Am hs;have HTX:=Am hT;have HG0:=Am hG;have HLL:=Am hl;have HL2:=Am hL;obtain ⟨hk,hy⟩:=xY hz;have HKK:=Am (show ∀ y ∈ x.f4,rQ (SizeOf.sizeOf x) y from fun y hy' => knL _ y (dI hy') (Lu hy hk y hy') (hm.kid hy'));have HP:=Am (show Di (gX r x) x = ⟨#[]⟩ ∧ Dj (gX r x) x = 3 from by unfold Di Dj;rw [if_pos hz,if_pos hz,if_pos hL,if_pos hL];exact ⟨rfl,rfl⟩);have HZ:=Am (show gX r x = 0 from hz);have b0 : (gX r x != 0) = false:=by rw [bne,hz];rfl
 have b1 : (gX r x == 0) = true:=by rw [hz];rfl
 have oI:=Am hn;have E:=Env.start hG hn;clear hr hs hG hn hm hT hl hL hk hy hz;go_enter Tryz.func12,Tryz.ntmps12
 go_wp2_with (first
  | (go_at_call 9;(try clear c0 c1 c2 c3 c4 c5);((refine (Ba.all HR.out HS.out E.out.bH E.out.nd).mono ?_);rintro e w1 ⟨rfl,hB⟩;replace E:=Am (E.out.step hB);clear hB;obtain ⟨c0,c1,c2,c3,c4,c5⟩:=E.out.cells;(try have hz:=HZ.out)))
  | (refine GN rfl rfl rfl rfl ?_;rintro g w2 hg hz2 hB;have HST:=Am (show St true g w (qC x) (BH (iQ (SizeOf.sizeOf x)) x.f4 ++ []) w2 from ⟨Z25 E.out.b hB,⟨[],by rw [List.append_nil];rfl,[],⟨by have:=E.out.b.size;omega,(Z25 E.out.b hB).size,_,hz2,by exact ⟨rfl,.inl ⟨rfl,rfl⟩⟩⟩,.inl rfl⟩,HLL.out,HG0.out,HTX.out⟩);replace E:=Am (E.out.step hB);clear hg hz2 hB c0 c1 c2 c3 c4 c5;obtain ⟨c0,c1,c2,c3,c4,c5⟩:=E.out.cells)
  | (go_at_call 27;((refine (allR.all HKK.out HST.out oI.out.C).mono ?_);rintro e w3 ⟨rfl,hst,hfr⟩;have HFI:=Am (show St true g w (qC x) [] w3 from hst);clear hst hfr c0 c1 c2 c3 c4 c5;obtain ⟨m3,hm3,l3,hx3,hl3⟩:=HFI.out.ex;rw [List.append_nil] at hm3;subst hm3;have hll : 1048576 < l3.length:=hl3.elim (fun h => (by rw [h];exact HL2.out)) (fun h => h.2.1);have g1 : decide ((1048576 : Int) < (l3.length : Int)) = true:=decide_eq_true (by omega);have g2 : decide (1048576 < l3.length) = true:=decide_eq_true hll;clear hll hl3;obtain ⟨A3,d3,hp3,hcv⟩:=hx3.row;have cp3:=(Z5 hp3 0).trans (show #[Value.slice A3 l3.length d3][0]? = some (.slice A3 l3.length d3) from rfl);clear hx3 hp3))
  | fail)
 first|go_ret2|go_ret
 exact ⟨by rw [HP.out.1,HP.out.2];rfl,HFI.out.b⟩
theorem vZ.all {x : ak} {A : Option Addr} {c : Nat} {w : World} {k : Nat} {r : Int} (hr : bI.f k x.f0 x.f1 x.f2 x.f3 x.f4 x.f5 = some r) (hs : nI x) (hm : Tm x) (hG : aH w) (hT : Tb w) (hl : (qC x).length ≤ 70368744177664) (hn : ND w x A c) (hz : gX r x = 0) (hL : ¬ 1048576 < (qC x).length) : Calls Tryz.prog 12 #[val x A c] w (GL (Di (gX r x) x) (Dj (gX r x) x) w):=by
 have HR:=Am hr;have HS:=Am hs;have HTX:=Am hT;have HG0:=Am hG;have HLL:=Am hl;have HL2:=Am hL;obtain ⟨hk,hy⟩:=xY hz;have HKK:=Am (show ∀ y ∈ x.f4,rQ (SizeOf.sizeOf x) y from fun y hy' => knL _ y (dI hy') (Lu hy hk y hy') (hm.kid hy'));have HP:=Am (show Di (gX r x) x = strOfNums (qC x) ∧ Dj (gX r x) x = 0 from by unfold Di Dj;rw [if_pos hz,if_pos hz,if_neg hL,if_neg hL];exact ⟨rfl,rfl⟩);have HZ:=Am (show gX r x = 0 from hz);have b0 : (gX r x != 0) = false:=by rw [bne,hz];rfl
 have b1 : (gX r x == 0) = true:=by rw [hz];rfl
 have oI:=Am hn;have E:=Env.start hG hn;clear hr hs hG hn hm hT hl hL hk hy hz;go_enter Tryz.func12,Tryz.ntmps12
 go_wp2_with (first
  | (go_at_call 9;(try clear c0 c1 c2 c3 c4 c5);((refine (Ba.all HR.out HS.out E.out.bH E.out.nd).mono ?_);rintro e w1 ⟨rfl,hB⟩;replace E:=Am (E.out.step hB);clear hB;obtain ⟨c0,c1,c2,c3,c4,c5⟩:=E.out.cells;(try have hz:=HZ.out)))
  | (refine GN rfl rfl rfl rfl ?_;rintro g w2 hg hz2 hB;have HST:=Am (show St true g w (qC x) (BH (iQ (SizeOf.sizeOf x)) x.f4 ++ []) w2 from ⟨Z25 E.out.b hB,⟨[],by rw [List.append_nil];rfl,[],⟨by have:=E.out.b.size;omega,(Z25 E.out.b hB).size,_,hz2,by exact ⟨rfl,.inl ⟨rfl,rfl⟩⟩⟩,.inl rfl⟩,HLL.out,HG0.out,HTX.out⟩);replace E:=Am (E.out.step hB);clear hg hz2 hB c0 c1 c2 c3 c4 c5;obtain ⟨c0,c1,c2,c3,c4,c5⟩:=E.out.cells)
  | (go_at_call 27;((refine (allR.all HKK.out HST.out oI.out.C).mono ?_);rintro e w3 ⟨rfl,hst,hfr⟩;have HFI:=Am (show St true g w (qC x) [] w3 from hst);clear hst hfr c0 c1 c2 c3 c4 c5;obtain ⟨m3,hm3,l3,hx3,hl3⟩:=HFI.out.ex;rw [List.append_nil] at hm3;subst hm3;obtain rfl : l3 = qC x:=hl3.resolve_right (fun h => HL2.out h.2.2);have g1 : decide ((1048576 : Int) < ((qC x).length : Int)) = false:=decide_eq_false (by have:=HL2.out;omega);have g2 : decide (1048576 < (qC x).length) = false:=decide_eq_false HL2.out;clear hl3;obtain ⟨A3,d3,hp3,hcv⟩:=hx3.row;have cp3:=(Z5 hp3 0).trans (show #[Value.slice A3 (qC x).length d3][0]? = some (.slice A3 (qC x).length d3) from rfl);clear hx3 hp3))
  | fail)
 first|go_ret2|go_ret
 exact ⟨by rw [HP.out.1,HP.out.2];rfl,HFI.out.b⟩
theorem vZ.any {x : ak} {A : Option Addr} {c : Nat} {w : World} {k : Nat} {r : Int} (hr : bI.f k x.f0 x.f1 x.f2 x.f3 x.f4 x.f5 = some r) (hs : nI x) (hm : Tm x) (hG : aH w) (hT : Tb w) (hl : (qC x).length ≤ 70368744177664) (hn : ND w x A c) : Calls Tryz.prog 12 #[val x A c] w (GL (Di (gX r x) x) (Dj (gX r x) x) w):=by
 by_cases hz : gX r x = 0
 · by_cases hL : 1048576 < (qC x).length
   · exact vZ.long hr hs hm hG hT hl hn hz hL
   · exact vZ.all hr hs hm hG hT hl hn hz hL
 · exact vZ.no hr hs hm hG hT hl hn hz
theorem ED : ∀ {l : List Nat} {n : Nat},n ∈ l → n ≤ l.sum
 | a :: l,n,h => by
  rcases List.mem_cons.1 h with rfl|h
  · simp
  · have:=ED h;simp only [List.sum_cons];omega
theorem IW {x : ak} {b : Nat} (h : WT x b) : b ≤ 1048576 → nI x:=by
 induction h with
 | mk x ws hl hk hr ih =>
  intro hb;refine nI.mk x (by unfold gY;omega) (fun y hy => ?_);obtain ⟨i,hi,rfl⟩:=List.mem_iff_getElem.1 hy;have hw : i < ws.length:=by omega
  have hm:=ED (List.getElem_mem hw);exact ih i _ _ (List.getElem?_eq_getElem hi) (List.getElem?_eq_getElem hw) (by omega)
theorem Nl {x : ak} (hf : Fit x) : ∃ k r,jW.f k x.f0 x.f1 x.f2 x.f3 x.f4 x.f5 = some r ∧ Ev (fun k => bI.f k x.f0 x.f1 x.f2 x.f3 x.f4 x.f5) r:=by
 obtain ⟨k,r,r0,r1,e1,e2⟩:=MF hf 0 (by omega) (by omega);refine ⟨k,if r ≤ 262144 then r else 0,?_,Ev.of (fun k => bI.mono _ _ _ _ _ _ k) (k:=k) ?_⟩
 · unfold jW.f;rw [e1,Option.bind_some];by_cases h : r ≤ 262144
   · rw [if_pos h,if_pos h]
   · rw [if_neg h,if_neg h]
 · unfold bI.f;rw [e2,Option.bind_some];by_cases h : r ≤ 262144
   · rw [if_pos h,if_neg (by omega)]
   · rw [if_neg h,if_pos (by omega)]
def LawP (w : World) (e : Ending) (w' : World) : Prop:=e = .returned (.bool true) ∧ Below w.heap.size w w'
theorem GR {x : ak} {A : Option Addr} {c : Nat} {w : World} {k k' : Nat} {r : Int} (hr : jW.f k x.f0 x.f1 x.f2 x.f3 x.f4 x.f5 = some r) (hr' : bI.f k' x.f0 x.f1 x.f2 x.f3 x.f4 x.f5 = some r) (hs : nI x) (hm : Tm x) (hG : aH w) (hT : Tb w) (hl : (qC x).length ≤ 70368744177664) (hn : ND w x A c) : Calls Tryz.prog 4 #[val x A c] w (LawP w):=by
 have HR:=Am hr;have HR' := Ad.mk hr';have HS:=Am hs;have HM:=Am hm;have HT:=Am hT;have HL:=Am hl;have E:=Env.start hG hn;clear hr hr' hs hm hG hT hl hn;go_enter Tryz.func4,Tryz.ntmps4
 go_wp2_with (first
  | (go_at_call 11;(try clear c0 c1 c2 c3 c4 c5);((refine (rG.any HR.out HS.out HM.out E.out.bH (HT.out.below E.out.b) HL.out E.out.nd).mono ?_);rintro e w1 ⟨rfl,hB⟩;replace E:=Am (E.out.step hB);clear hB;obtain ⟨c0,c1,c2,c3,c4,c5⟩:=E.out.cells))
  | (go_at_call 12;(try clear c0 c1 c2 c3 c4 c5);((refine (vZ.any HR'.out HS.out HM.out E.out.bH (HT.out.below E.out.b) HL.out E.out.nd).mono ?_);rintro e w1 ⟨rfl,hB⟩;replace E:=Am (E.out.step hB);clear hB;obtain ⟨c0,c1,c2,c3,c4,c5⟩:=E.out.cells))
  | (go_at_call 10;(try clear c0 c1 c2 c3 c4 c5);((refine (awake.calls _ E.out.bH).mono ?_);rintro e w1 ⟨rfl,hB⟩;replace E:=Am (E.out.step hB);clear hB))
  | fail)
 go_ret
 exact ⟨by first|rfl|(simp;done),E.out.b⟩
theorem tm_of_WT {x : ak} {b : Nat} (h : WT x b) : b ≤ 1048576 → Tm x:=by
 induction h with
 | mk x ws hl hk hr ih =>
  intro hb;refine Tm.mk x (by unfold gY;omega) hr (fun y hy => ?_);obtain ⟨i,hi,rfl⟩:=List.mem_iff_getElem.1 hy;have hw : i < ws.length:=by omega
  have hm:=ED (List.getElem_mem hw);exact ih i _ _ (List.getElem?_eq_getElem hi) (List.getElem?_eq_getElem hw) (by omega)
open Go.Proofs.YtboojhadfhpdeaaGreatDoor.Lex
inductive WL : List ak → List Nat → Prop
 | nil : WL [] []
 | cons {y : ak} {w : Nat} {l : List ak} {ws : List Nat} (h : WT y w) (t : WL l ws) : WL (y :: l) (w :: ws)
theorem WL.of : ∀ {l : List ak} {ws : List Nat},ws.length = l.length → (∀ (i : Nat) (y : ak) (n : Nat),l[i]? = some y → ws[i]? = some n → WT y n) → WL l ws
 | [],[],_,_ => .nil
 | y :: l,w :: ws,h,hk => .cons (hk 0 y w rfl rfl) (WL.of (by simpa using h) fun i y n h1 h2 => hk (i + 1) y n (by simpa using h1) (by simpa using h2))
 | [],_ :: _,h,_ => by simp at h
 | _ :: _,[],h,_ => by simp at h
theorem WT.parts {x : ak} {b : Nat} (h : WT x b) : ∃ ws,WL x.f4 ws ∧ b = x.f1.size + 1 + ws.sum ∧ 0 ≤ x.f2 ∧ x.f2 < 4294967296:=by
 cases h with
 | mk _ ws hl hk hr => exact ⟨ws,WL.of hl hk,rfl,hr.1,hr.2⟩
theorem WL.nd : ∀ {l : List ak} {ws : List Nat},WL l ws → ∀ i,WT (nd l i) (ws.getD i 0) ∨ (nd l i = z25 ∧ ws.getD i 0 = 0)
 | _,_,.nil,i => .inr ⟨by unfold Q.nd;simp,by simp⟩
 | _,_,.cons h t,0 => .inl h
 | _,_,.cons h t,i + 1 => WL.nd t i
theorem WL.drop : ∀ {l : List ak} {ws : List Nat},WL l ws → WL (l.drop 1) (ws.drop 1)
 | _,_,.nil => .nil
 | _,_,.cons _ t => t
theorem WL.take : ∀ {l : List ak} {ws : List Nat},WL l ws → ∀ k,WL (l.take k) (ws.take k)
 | _,_,.nil,k => by simp;exact .nil
 | _,_,.cons h t,0 => .nil
 | _,_,.cons h t,k + 1 => .cons h (WL.take t k)
theorem GU (ws : List Nat) : ws.getD 0 0 + (ws.drop 1).sum = ws.sum:=by
 cases ws with
 | nil => rfl
 | cons a l => simp
theorem GV : ∀ (ws : List Nat) (k : Nat),(ws.take k).sum + ws.getD k 0 ≤ ws.sum
 | [],k => by simp
 | a :: l,0 => by simp
 | a :: l,k + 1 => by
  have:=GV l k;simp only [List.take_succ_cons,List.sum_cons,List.getD_cons_succ];omega
theorem yj : ∀ (ws : List Nat),ws.getD 0 0 + ws.getD 1 0 + ws.getD 2 0 + ws.getD 3 0 ≤ ws.sum
 | [] => by simp
 | [a] => by simp
 | [a,b] => by simp
 | [a,b,c] => by simp [Nat.add_assoc]
 | a :: b :: c :: d :: l => by simp only [List.getD_cons_zero,List.getD_cons_succ,List.sum_cons];omega
theorem LD : ∀ (d u : Nat),u < 10 ^ (d + 1) → (Lib.decDigits u).length ≤ d + 1
 | d,u,h => by
  rw [Lib.decDigits]
  split
  · simp
  · match d,h with
    | 0,h => omega
    | d + 1,h =>
     have:=LD d (u / 10) (by rw [Nat.pow_succ] at h;omega);simp only [List.length_append,List.length_cons,List.length_nil];omega
theorem quo_len (s : ByteArray) : (bytesOf (quoS s)).length ≤ 4 * s.size + 2:=by
 have h : ∀ l : Bs,(l.flatMap qb).length ≤ 4 * l.length:=by
  intro l;induction l with
  | nil => simp
  | cons c t ih =>
   have:=Ik c;simp only [List.flatMap_cons,List.length_append,List.length_cons];omega
 have h2:=h s.data.toList;have h3 : s.data.toList.length = s.size:=by rw [Array.length_toList];rfl
 rw [h3] at h2;unfold bytesOf quoS quote;simp only [List.length_map,List.length_append,List.length_cons,List.length_nil];omega
theorem Dn (n : Nat) : dX n z25 = []:=by
 cases n with
 | zero => rfl
 | succ n => unfold dX z25;simp
theorem lnT_z (n : Nat) : (iQ n z25).length ≤ 2:=by
 cases n with
 | zero => simp [iQ]
 | succ n => unfold iQ z25 Nc;simp [bytesOf]
theorem EF {y : ak} {w : Nat} (h : WT y w) : y.f1.size + 1 ≤ w:=by
 obtain ⟨ws,_,e,_⟩:=h.parts;omega
theorem at_len {e : ak → List Int} (y : ak) (k : Int) : (oO e y k).length ≤ (e y).length + 2:=by
 unfold oO
 split
 · simp only [List.length_append,bytesOf,List.length_map,Array.length_toList,List.size_toArray,List.length_cons,List.length_nil];simp;omega
 · omega
theorem IX {e : ak → List Int} (he : ∀ y w,WT y w → (e y).length + 8 ≤ 64 * w) : ∀ {l : List ak} {ws : List Nat} (b : Bool),WL l ws → (GZ e b l).length ≤ 64 * ws.sum
 | _,_,_,.nil => by simp [GZ]
 | _,_,b,.cons (y:=y) (w:=w) h t => by
  have h1:=he y w h;have h2:=at_len (e:=e) y 0;have h3:=IX he false t;unfold GZ;simp only [List.length_append,List.sum_cons];have h4 : (if b = true then [] else bytesOf ⟨#[44,32]⟩).length ≤ 2:=by split <;> simp [bytesOf]
  omega
theorem uj {e : ak → List Int} (he : ∀ y w,WT y w → (e y).length + 8 ≤ 64 * w) (hz : (e z25).length = 0) {l : List ak} {ws : List Nat} (h : WL l ws) (i : Nat) : (e (nd l i)).length ≤ 64 * ws.getD i 0:=by
 rcases h.nd i with h1 | ⟨h1,h2⟩
 · have:=he _ _ h1;omega
 · rw [h1,h2,hz];omega
theorem IY {l : List ak} {ws : List Nat} (h : WL l ws) (i : Nat) : (nd l i).f1.size ≤ ws.getD i 0:=by
 rcases h.nd i with h1 | ⟨h1,h2⟩
 · have:=EF h1;omega
 · rw [h1,h2];exact Nat.le_of_eq rfl
theorem LG (a : Nat) : (hexS.extract a (a + 1)).size ≤ 1:=by
 rw [ByteArray.size_extract];omega
theorem yt (a : Array UInt8) : (⟨a⟩ : ByteArray).size = a.size:=rfl
theorem bl (a : Array UInt8) : (bytesOf ⟨a⟩).length = a.size:=by simp [bytesOf]
theorem wo : ∀ (n : Nat) (x : ak) (b : Nat),WT x b → (dX n x).length + 8 ≤ 64 * b
 | 0,x,b,h => by
  have:=EF h;unfold dX;simp only [List.length_nil];omega
 | n + 1,x,b,h => by
  obtain ⟨ws,hw,rfl,hr1,hr2⟩:=h.parts;have he:=wo n;have hz : (dX n z25).length = 0:=by rw [Dn];rfl
  have s4:=yj ws;have n0:=uj he hz hw 0;have n1:=uj he hz hw 1;have n2:=uj he hz hw 2;have t0:=IY hw 0;have a0:=fun k => at_len (e:=dX n) (nd x.f4 0) k
  have a1:=fun k => at_len (e:=dX n) (nd x.f4 1) k
  have a2:=fun k => at_len (e:=dX n) (nd x.f4 2) k
  have l0:=IX he true hw;have q:=quo_len x.f1;have d:=LD 9 x.f2.toNat (by omega);by_cases c1 : x.f0 = 1
  · rw [Df c1];have e1 : (if x.f3 = true then bytesOf ⟨#[117]⟩ else []).length ≤ 1:=by split <;> simp [bytesOf]
    unfold ex1;rw [List.length_append];have e2 : (bytesOf (MC x.f2)).length = (Lib.decDigits x.f2.toNat).length:=by unfold MC bytesOf;simp
    omega
  by_cases c2 : x.f0 = 2
  · rw [KX c2];unfold ex2;simp only [List.length_append,bl,bytesOf_length,yt];have q1:=LG (x.f2 / 16).toNat;have q2:=LG (x.f2 % 16).toNat;have q3 : (#[39,92,120] : Array UInt8).size = 3:=rfl;have q4 : (#[39] : Array UInt8).size = 1:=rfl;omega
  by_cases c3 : x.f0 = 3
  · rw [KY c3];unfold ex3;omega
  by_cases c4 : x.f0 = 4
  · rw [KZ c4];unfold ex4;rw [bytesOf_length];omega
  by_cases c5 : x.f0 = 5
  · rw [La c5];have:=a0 13;have:=a1 0;unfold ex5;simp only [List.length_append,bl,List.size_toArray,List.length_cons,List.length_nil];omega
  by_cases c6 : x.f0 = 6
  · rw [Lc c6];have:=a0 13;unfold ex6;simp only [List.length_append,bl,bytesOf_length,yt,List.size_toArray,List.length_cons,List.length_nil];omega
  by_cases c7 : x.f0 = 7
  · rw [Ld c7];have:=a0 13;unfold ex7;simp only [List.length_append,bl,bytesOf_length,yt,List.size_toArray,List.length_cons,List.length_nil];omega
  by_cases c8 : x.f0 = 8
  · rw [Le c8];unfold ex8;simp only [List.length_append,bl,bytesOf_length,yt,List.size_toArray,List.length_cons,List.length_nil];omega
  by_cases c9 : x.f0 = 9
  · rw [AL c9];have e1 : (if (nd x.f4 0).f0 = 9 ∧ (nd x.f4 0).f1.toList = x.f1.toList then bytesOf ⟨#[32]⟩ else []).length ≤ 1:=by split <;> simp [bytesOf]
    have:=a0 12;unfold ex9;rw [List.length_append,List.length_append,bytesOf_length];omega
  by_cases c10 : x.f0 = 10 ∨ x.f0 = 11
  · rw [show dX (n + 1) x = Ep (dX n) x from by rcases c10 with c|c;exact Il c;exact Io c];have:=a0 (yT x.f1);have:=a1 (yT x.f1 + 1);unfold Ep;simp only [List.length_append,bl,bytesOf_length,yt,List.size_toArray,List.length_cons,List.length_nil];omega
  by_cases c12 : x.f0 = 12
  · rw [Ip c12];have:=a0 2;have:=a1 0;have:=a2 1;unfold ex12;simp only [List.length_append,bl,List.size_toArray,List.length_cons,List.length_nil];omega
  by_cases c13 : x.f0 = 13
  · rw [Iq c13];have:=a0 13;have:=a1 0;unfold ex13;simp only [List.length_append,bl,bytesOf_length,yt,List.size_toArray,List.length_cons,List.length_nil];omega
  by_cases c14 : x.f0 = 14
  · rw [Es c14];have:=a1 12;unfold ex14;simp only [List.length_append,bl,bytesOf_length,yt,List.size_toArray,List.length_cons,List.length_nil];omega
  by_cases c15 : x.f0 = 15
  · rw [yU c15];have:=a0 12;unfold Gy;by_cases c16 : (nd x.f4 0).f0 = 16
    · rw [if_pos c16];simp only [List.length_append,bl,bytesOf_length,yt,List.size_toArray,List.length_cons,List.length_nil];omega
    rw [if_neg c16];by_cases c17 : (nd x.f4 0).f0 = 14
    · rw [if_pos c17];simp only [List.length_append,bl,List.size_toArray,List.length_cons,List.length_nil];omega
    · rw [if_neg c17];simp only [List.length_append,bl,List.size_toArray,List.length_cons,List.length_nil];omega
  · unfold dX;rw [if_neg c1,if_neg c2,if_neg c3,if_neg c4,if_neg c5,if_neg c6,if_neg c7,if_neg c8,if_neg c9,if_neg c10,if_neg c12,if_neg c13,if_neg c14,if_neg c15];simp only [List.length_nil];omega
theorem EG {e : ak → List Int} (y : ak) : (sK e y).length ≤ (e y).length + 2:=by
 unfold sK
 split
 · simp
 · exact at_len y 0
theorem li_len {n : Nat} {y : ak} {w : Nat} (h : WT y w) : (GZ (dX n) true y.f4).length ≤ 64 * w:=by
 obtain ⟨ws,hw,rfl,_⟩:=h.parts;have:=IX (wo n) true hw;omega
theorem nd_li {n : Nat} {l : List ak} {ws : List Nat} (h : WL l ws) (i : Nat) : (GZ (dX n) true (nd l i).f4).length ≤ 64 * ws.getD i 0:=by
 rcases h.nd i with h1 | ⟨h1,h2⟩
 · exact li_len h1
 · rw [h1,h2];exact Nat.le_of_eq rfl
theorem LH {n : Nat} {l : List ak} {ws : List Nat} (h : WL l ws) : (qU (dX n) l).length ≤ 64 * ws.getD 0 0 + 5:=by
 have h1:=nd_li (n:=n) h 0;have h2:=uj (wo n) (by rw [Dn];rfl) h 0;have h3:=at_len (e:=dX n) (nd l 0) 0;unfold qU;by_cases c : l.length = 0
 · rw [if_pos c];simp
 rw [if_neg c];by_cases d : (nd l 0).f0 = 44
 · rw [if_pos d];simp only [List.length_append,bl,yt,List.size_toArray,List.length_cons,List.length_nil];omega
 · rw [if_neg d];simp only [List.length_append,bl,yt,List.size_toArray,List.length_cons,List.length_nil];omega
theorem getD_drop (ws : List Nat) : (ws.drop 1).getD 0 0 = ws.getD 1 0:=by
 rw [List.getD_eq_getElem?_getD,List.getD_eq_getElem?_getD,List.getElem?_drop]
theorem var_len {n : Nat} {y : ak} {w : Nat} (h : WT y w) : (ku (dX n) y).length + 10 ≤ 64 * w:=by
 obtain ⟨ws,hw,rfl,_⟩:=h.parts;have s4:=yj ws;have n0:=uj (wo n) (by rw [Dn];rfl) hw 0;have h1:=EG (e:=dX n) (nd y.f4 0);have h2:=LH (n:=n) hw;have h3:=LH (n:=n) hw.drop;rw [getD_drop] at h3;unfold ku;by_cases c : y.f3 = true
 · rw [if_pos c];simp only [List.length_append,bl,bytesOf_length,yt,List.size_toArray,List.length_cons,List.length_nil];omega
 · rw [if_neg c];simp only [List.length_append,bytesOf_length];omega
theorem vr_len {n : Nat} : ∀ {l : List ak} {ws : List Nat} (b : Bool),WL l ws → (vrG (dX n) b l).length ≤ 64 * ws.sum
 | _,_,_,.nil => by simp [vrG]
 | _,_,b,.cons (y:=y) (w:=w) h t => by
  have h1:=var_len (n:=n) h;have h3:=vr_len (n:=n) false t;have h4 : (if b = true then [] else bytesOf ⟨#[44,32]⟩).length ≤ 2:=by split <;> simp [bytesOf]
  unfold vrG;simp only [List.length_append,List.sum_cons];omega
theorem pa_len {y : ak} {w : Nat} (h : WT y w) : (paG y).length + 10 ≤ 64 * w:=by
 obtain ⟨ws,hw,rfl,_⟩:=h.parts;have s4:=yj ws;have t0:=IY hw 0;have h4 : (if y.f3 = true then bytesOf ⟨#[91,93]⟩ else []).length ≤ 2:=by split <;> simp [bytesOf]
 have h5 : (sG y.f2).size ≤ 1:=by unfold sG;split;exact Nat.le_of_eq rfl;exact Nat.zero_le _
 unfold paG;simp only [List.length_append,bytesOf_length,yt,List.size_toArray,List.length_cons,List.length_nil];omega
theorem LJ : ∀ {l : List ak} {ws : List Nat} (b : Bool),WL l ws → (vV b l).length ≤ 64 * ws.sum
 | _,_,_,.nil => by simp [vV]
 | _,_,b,.cons (y:=y) (w:=w) h t => by
  have h1:=pa_len h;have h3:=LJ false t;have h4 : (if b = true then [] else bytesOf ⟨#[44,32]⟩).length ≤ 2:=by split <;> simp [bytesOf]
  unfold vV;simp only [List.length_append,List.sum_cons];omega
theorem Bc {e : ak → List Int} (he : ∀ y w,WT y w → (e y).length + 8 ≤ 64 * w) : ∀ {l : List ak} {ws : List Nat},WL l ws → (BH e l).length ≤ 64 * ws.sum
 | _,_,.nil => by simp [BH]
 | _,_,.cons (y:=y) (w:=w) h t => by
  have h1:=he y w h;have h3:=Bc he t;unfold BH;simp only [List.length_append,List.sum_cons];omega
theorem IZ {e : ak → List Int} {a b : ByteArray} (y : ak) : (Ny e a y b).length ≤ (e y).length + a.size + b.size + 5:=by
 have:=at_len (e:=e) y 0;unfold Ny;simp only [List.length_append,bytesOf_length,yt,List.size_toArray,List.length_cons,List.length_nil];omega
theorem ln_len : ∀ (n : Nat) (x : ak) (b : Nat),WT x b → (iQ n x).length + 8 ≤ 64 * b
 | 0,x,b,h => by
  have:=EF h;unfold iQ;simp only [List.length_nil];omega
 | n + 1,x,b,h => by
  obtain ⟨ws,hw,rfl,hr1,hr2⟩:=h.parts;have hl:=ln_len n;have s4:=yj ws;have sd:=GU ws;have t0:=IY hw 0;have e0:=uj (wo n) (by rw [Dn];rfl) hw 0;have e1:=uj (wo n) (by rw [Dn];rfl) hw 1;have e2:=uj (wo n) (by rw [Dn];rfl) hw 2;have hll : ∀ i,(iQ n (nd x.f4 i)).length ≤ 64 * ws.getD i 0 + 2:=fun i => by
   rcases hw.nd i with h1 | ⟨h1,h2⟩
   · have:=hl _ _ h1;omega
   · rw [h1,h2];have:=lnT_z n;omega
  have l0:=hll 0;have l1:=hll 1;have l2:=hll 2;have l3:=hll 3;have a0:=at_len (e:=dX n) (nd x.f4 0) 0;have i0:=EG (e:=dX n) (nd x.f4 0);have i1:=EG (e:=dX n) (nd x.f4 1);have i2:=EG (e:=dX n) (nd x.f4 2);have al:=Bc hl hw;by_cases Nv : x.f0 = 41
  · rw [Iz Nv];unfold ln41 Lj;simp only [List.length_append,bytesOf_length,yt,List.size_toArray,List.length_cons,List.length_nil];omega
  by_cases c42 : x.f0 = 42
  · rw [IB c42];have:=vr_len (n:=n) true hw.drop;unfold ln42;simp only [List.length_append,bytesOf_length,yt,List.size_toArray,List.length_cons,List.length_nil];omega
  by_cases c45 : x.f0 = 45
  · rw [IC c45];have p1:=LJ true (hw.take (x.f4.length - 1)).drop;have p2:=GV ws (x.f4.length - 1);have p3:=GU (ws.take (x.f4.length - 1));have p4 : (BH (iQ n) (nd x.f4 (x.f4.length - 1)).f4).length ≤ 64 * ws.getD (x.f4.length - 1) 0:=by
     rcases hw.nd (x.f4.length - 1) with h1 | ⟨h1,h2⟩
     · obtain ⟨vs,hv,e,_⟩:=h1.parts;have:=Bc hl hv;omega
     · rw [h1,h2];exact Nat.le_of_eq rfl
    have p5 : ws.getD 0 0 ≤ ws.sum:=by omega
    unfold ln45 Lj;simp only [List.length_append,bytesOf_length,yt,List.size_toArray,List.length_cons,List.length_nil];by_cases p6 : x.f4.length - 1 = 0
    · rw [p6] at p1 p2 p3 p4 ⊢;simp only [List.take_zero,List.drop_nil,List.sum_nil] at p1 p3;simp only [List.take_zero,List.drop_nil] at p1 ⊢;simp only [vV,List.length_nil] at p1 ⊢;obtain hq|hq:=hw.nd 0
      · obtain ⟨vs,hv,e,_⟩:=hq.parts;have:=Bc hl hv;omega
      · rw [hq.1] at t0 ⊢;have z1 : (BH (iQ n) z25.f4).length = 0:=rfl;have z2 : z25.f1.size = 0:=rfl;omega
    · have p7 : (ws.take (x.f4.length - 1)).getD 0 0 = ws.getD 0 0:=by
       rw [List.getD_eq_getElem?_getD,List.getD_eq_getElem?_getD,List.getElem?_take,if_pos (by omega)]
      omega
  by_cases c47 : x.f0 = 47
  · rw [Ey c47];unfold ln47 Lj;simp only [List.length_append,bytesOf_length,yt,List.size_toArray,List.length_cons,List.length_nil];omega
  by_cases Nw : x.f0 = 48
  · rw [IE Nw];unfold ln48;simp only [List.length_append,bytesOf_length,yt,List.size_toArray,List.length_cons,List.length_nil];omega
  by_cases c49 : x.f0 = 49
  · rw [AQ c49];have h1:=IZ (e:=dX n) (a:=⟨#[105,102]⟩) (b:=⟨#[10]⟩) (nd x.f4 0);have h2 : (if 2 < x.f4.length then bytesOf ⟨#[101,108,115,101,10]⟩ ++ iQ n (nd x.f4 2) else []).length ≤ 5 + (iQ n (nd x.f4 2)).length:=by
     split
     · simp only [List.length_append,bytesOf_length,yt,List.size_toArray,List.length_cons,List.length_nil];omega
     · simp
    simp only [yt,List.size_toArray,List.length_cons,List.length_nil] at h1;unfold Iu;rw [List.length_append,List.length_append];omega
  by_cases c50 : x.f0 = 50
  · rw [IG c50];have h1:=IZ (e:=dX n) (a:=⟨#[119,104,105,108,101]⟩) (b:=⟨#[10]⟩) (nd x.f4 0);simp only [yt,List.size_toArray,List.length_cons,List.length_nil] at h1;unfold ln50;rw [List.length_append];omega
  by_cases c51 : x.f0 = 51
  · rw [II c51];have h1:=IZ (e:=dX n) (a:=⟨#[119,104,105,108,101]⟩) (b:=⟨#[59]⟩) (nd x.f4 1);simp only [yt,List.size_toArray,List.length_cons,List.length_nil] at h1;unfold ln51;simp only [List.length_append,bytesOf_length,yt,List.size_toArray,List.length_cons,List.length_nil];omega
  by_cases c52 : x.f0 = 52
  · rw [IJ c52];unfold Iw;simp only [List.length_append,bytesOf_length,yt,List.size_toArray,List.length_cons,List.length_nil];omega
  by_cases c53 : x.f0 = 53
  · rw [IK c53];unfold ln53;simp only [List.length_append,bytesOf_length,yt,List.size_toArray,List.length_cons,List.length_nil];omega
  by_cases c54 : x.f0 = 54
  · rw [IL c54];unfold ln54;simp only [List.length_append,bytesOf_length,yt,List.size_toArray,List.length_cons,List.length_nil];omega
  by_cases c55 : x.f0 = 55
  · rw [AU c55];have h2 : (if 0 < x.f4.length then bytesOf ⟨#[32]⟩ ++ oO (dX n) (nd x.f4 0) 0 else []).length ≤ 1 + (oO (dX n) (nd x.f4 0) 0).length:=by
     split
     · simp only [List.length_append,bytesOf_length,yt,List.size_toArray,List.length_cons,List.length_nil];omega
     · simp
    unfold Iy;rw [List.length_append,List.length_append];simp only [List.length_append,bytesOf_length,yt,List.size_toArray,List.length_cons,List.length_nil] at h2 ⊢;omega
  · unfold iQ;rw [if_neg Nv,if_neg c42,if_neg c45,if_neg c47,if_neg Nw,if_neg c49,if_neg c50,if_neg c51,if_neg c52,if_neg c53,if_neg c54,if_neg c55];unfold Nc;simp only [List.length_append,bytesOf_length,yt,List.size_toArray,List.length_cons,List.length_nil];omega
theorem tx_len {x : ak} {b : Nat} (h : WT x b) (hb : b ≤ 1048576) : (qC x).length ≤ 70368744177664:=by
 obtain ⟨ws,hw,rfl,_⟩:=h.parts;have:=Bc (ln_len (SizeOf.sizeOf x)) hw;unfold qC;omega
def lstU : List (String × DataW Unit):=[("math/bits.deBruijn32tab",Rows.laid_math_bits_deBruijn32tab),("math/bits.deBruijn64tab",Rows.laid_math_bits_deBruijn64tab),("internal/strconv.uint64pow10",Rows.laid_internal_strconv_uint64pow10)]
theorem table {W : World} (h : laidMet Tryz.prog lstU W) : Tb W:=by
 obtain ⟨g',t',cs,fuel,p,hg',ht',hvar,hd⟩:=Lib.laidMet.reads h (n := "internal/strconv.uint64pow10") (d:=Rows.laid_internal_strconv_uint64pow10) (by simp [lstU]);obtain rfl:=Option.some.inj (globU.symm.trans hg');obtain rfl:=Option.some.inj ((show (Tryz.prog.globals[1]?).map (·.type) = some 112 by kernel_rfl).symm.trans ht');rw [show (Rows.laid_internal_strconv_uint64pow10 : DataW Unit) = Lib.tabData .u64 Lib.pow10Tab by kernel_rfl] at hd;unfold Tb Lib.TabIs;rw [hvar,← Lib.cells_of_tab Tryz.underlying112 Tryz.underlying89 (by kernel_rfl) (by kernel_rfl) hd]
theorem I4 {x : ak} {b : Nat} {A : Option Addr} {c : Nat} {w : World} (h : WT x b) (hb : b ≤ 1048576) (hG : aH w) (hT : Tb w) (hn : ND w x A c) : Calls Tryz.prog 4 #[val x A c] w (LawP w):=by
 obtain ⟨k,r,h1,h2⟩:=Nl (Ap hn.C);obtain ⟨k',h3⟩:=h2.rounds;exact GR h1 h3 (IW h hb) (tm_of_WT h hb) hG hT (tx_len h hb) hn
end Go.Proofs.YtboojhadfhpdeaaGreatDoor.Q
namespace Go.Proofs.YtboojhadfhpdeaaGreatDoor.astPrints
open Go.ChangeShapes Go.WideShapes Go.ChangeAt Go.RowKit
theorem laid_met (os : Os) : laidMet Tryz.prog Rows.astPrintsUptoRow.laid (((Frame.laidWorld os)).forCall (fun _ _ => 0) ⟨#[],#[Value.agg #[.int .i64 0,.string ByteArray.empty,.int .u32 0,.bool false,.slice none 0 0,.int .i64 0]],[]⟩).memory :=
 laidMet_of_run' 10 (by kernel_rfl) (by kernel_rfl)
theorem reads (os : Os) {H : Type} (enc : TypeId × Value → H) : ∃ places,DataW.whole enc Tryz.prog ((Frame.laidWorld os).forCall (fun _ _ => 0) ⟨#[],#[Value.agg #[.int .i64 0,.string ByteArray.empty,.int .u32 0,.bool false,.slice none 0 0,.int .i64 0]],[]⟩).memory Tryz.f4.params.toList Rows.astPrintsSpec.vars false (#[Value.agg #[.int .i64 0,.string ByteArray.empty,.int .u32 0,.bool false,.slice none 0 0,.int .i64 0]] : Array Value).toList 8 = some ([.agg [.lit (.int .i64 0),.lit (.string []),.lit (.int .u32 0),.lit (.bool false),.nil,.lit (.int .i64 0)]],[],places) :=
 ⟨[],by kernel_rfl⟩
theorem lifted (os : Os) (started : os.Started) (H : Type) (enc : TypeId × Value → H) (F : Stop.Interp) :
 ReturnsInHanded {} Tryz.checked os 4 .any ((Rows.OpenSpec.upto Rows.astPrintsSpec).preRow enc Tryz.prog Tryz.f4 Rows.astPrintsUptoRow.domain false Rows.astPrintsUptoRow.laid) (((Rows.OpenSpec.upto Rows.astPrintsSpec).at F).post enc Tryz.prog Tryz.f4 false true false false):=by
 obtain ⟨places,hx⟩:=reads os enc;refine returnsInHanded_of_row (C:=Tryz.checked) (s:=(Rows.OpenSpec.upto Rows.astPrintsSpec)) Frame.own started (by kernel_rfl) Tryz.func4
  (witness_row_atRef (enc:=enc) (C:=Tryz.checked) false (Frame.laidWorld os) #[Value.agg #[.int .i64 0,.string ByteArray.empty,.int .u32 0,.bool false,.slice none 0 0,.int .i64 0]] rfl (by kernel_rfl) (by kernel_rfl) (by kernel_rfl)
   (OpenSpec.preRow_of_cond 8 hx (by kernel_rfl) (fun k hk => by cases hk;kernel_rfl) (by kernel_rfl) (laid_met os))) ?_
 intro W base args ds gs before hval0 hW _ hcond hsz0 hL hS _;have hval : ∀ (j : Nat) t v,Tryz.f4.params[j]? = some t → args[j]? = some v → Value.okWide Tryz.prog W .any base t v:=hval0;have hW' := hW;obtain ⟨p,q,hA0,hV,rfl,hfz,hnd⟩:=hW;have hA : DataW.TrodAll enc Tryz.prog W 0 (fun _ => true) true Tryz.f4.params.toList args.toList ds p:=hA0;rw [Tryz.params4] at hA hval;obtain ⟨v0,vs0,d0,ds0,p0,q0,hargs,rfl,rfl,h0,r0⟩:=trodAll_cons hA;obtain ⟨rfl,rfl,rfl⟩:=trodAll_nil r0;obtain rfl : args = #[v0]:=by cases args;simp_all
 obtain ⟨rfl,rfl⟩:=trodVars_none hV;obtain ⟨cs0,rfl,hz0⟩:=okWide_struct Tryz.underlying25 (hval 0 25 v0 rfl rfl);have k0:=h0;have lt0 : ∀ x ∈ p0,x.block < W.heap.size:=by obtain ⟨m,hm⟩:=k0;exact DataW.trod_lt m _ _ _ hm
 obtain ⟨fuel0,hf0⟩:=h0;obtain ⟨x0,b0,hK0,hw0,hb0⟩:=Q.rd_25w fuel0 _ _ hf0;obtain ⟨A0,c0,hcs0,hle0,hC0⟩:=Q.wJ hK0;have he0 : cs0 = #[.int .i64 x0.f0,.string x0.f1,.int .u32 x0.f2,.bool x0.f3,.slice A0 x0.f4.length c0,.int .i64 x0.f5]:=by
  have:=congrArg List.toArray hcs0
  simpa [Value.cells] using this
 have hb:=of_decide_eq_true (hcond _ rfl);simp only [List.append_nil,Rows.uptoBulkAll,Nat.add_zero] at hb;clear hA0 hval0 hsz0;refine Go.Proofs.YtboojhadfhpdeaaGreatDoorW.PrintWords.Bl (by rw [he0]) ((Q.I4 hw0 (Nat.le_trans hb0 hb) (Frame.bH hS) (Q.table hL) ⟨hle0,hC0⟩).mono fun e W' ⟨he,bel⟩ => ?_);subst he;exact ⟨_,rfl,_,_,_,[],_,[],hW',trodAll_mk1 (shut_bool Tryz.underlying4 _),(trodAll_cons_mk (Below.trod Frame.laidOut (by kernel_rfl) (of_decide_eq_true (by kernel_rfl)) k0 bel lt0) trodAll_mk0),rfl,bel.frame _,fun h => by cases h⟩
theorem said : Rows.AstPrintsUptoSaid :=
 OpenClaim.holds_of_cond 4 Tryz.f4 rfl rfl rfl rfl rfl rfl rfl ⟨rfl,rfl,rfl,rfl,rfl⟩ rfl rfl rfl rfl rfl (by kernel_rfl) Tryz.func4 (by kernel_rfl)
  (of_decide_eq_true (by kernel_rfl)) (by unfold Func.isWrapper;first|(rw [if_pos (by decide +kernel)];kernel_rfl)|(rw [if_neg (by decide +kernel)];exact ⟨rfl,rfl⟩))
  (fun os started H enc _ F => by rw [OpenClaim.pre_eq_preRow];exact lifted os started H enc F)
theorem plain (f : FuncId) (fn : Func) (hf : Tryz.pinned.checked.prog.funcNamed "crucible/cruciblelaw08.AstPrints" = some f) (hfn : Tryz.pinned.checked.prog.funcs[f]? = some fn) :
 false = Tryz.pinned.checked.prog.looks [] ∧ ∀ (j : Nat) t,fn.params[j]? = some t → Tryz.pinned.checked.prog.wantsStandIn t = false:=by
 obtain rfl : f = 4:=Option.some.inj ((show Tryz.prog.funcNamed "crucible/cruciblelaw08.AstPrints" = some 4 by kernel_rfl).symm.trans hf) |>.symm
 obtain rfl : fn = Tryz.f4:=(Option.some.inj (Tryz.func4.symm.trans hfn)).symm;refine ⟨by kernel_rfl,fun j t ht => ?_⟩;rw [Tryz.params4] at ht;have hm : t ∈ (#[25] : Array TypeId):=Array.mem_of_getElem? ht;obtain rfl : t = 25:=by simpa using hm
 exact (show Tryz.prog.wantsStandIn 25 = false by kernel_rfl)
theorem card : Rows.AstPrintsUptoCardSaid :=
 Claim7.holds_tied_plain_at .later [] _ _ _ _ said (fun _ h => by cases h) (by kernel_rfl) (fun _ h => by cases h) astPrintsUpto_row_tie rfl ⟨rfl,rfl⟩ (by kernel_rfl) rfl plain (by kernel_rfl)
end Go.Proofs.YtboojhadfhpdeaaGreatDoor.astPrints
