/- A part of the proof, made small by a program: V1, V2, V3, V4, V5, V6, V7, V8, V9, V10, V11, V12, U18, UI, UJ, U19, U20. -/
import Derived.Laws.DeepStrings4
import Derived.Shelf.Spec.SlicesInsertGrow
import Derived.Test.YtboojhadfhpdeaaGreatDoorVp6
import Derived.Test.YtboojhadfhpdeaaGreatDoorVp22
import Derived.Test.YtboojhadfhpdeaaGreatDoorVp23
import Derived.Test.YtboojhadfhpdeaaGreatDoorVp26
set_option linter.unusedVariables false
set_option linter.unusedSimpArgs false
set_option maxHeartbeats 8000000
set_option maxRecDepth 100000
namespace Go.Proofs.YtboojhadfhpdeaaGreatDoor.Q
open Go.RowKit Go.Proofs.YtboojhadfhpdeaaGreatDoorW.PrintWords Go.Proofs.YtboojhadfhpdeaaGreatDoorW.PrintLast Go.Proofs.YtboojhadfhpdeaaGreatDoorW.PrintMore
theorem SE.dZ {p : Nat} {w0 : World} {F r : List Int} {ws W : World} {a : ByteArray} {Q : Ending → World → Prop} (E : Ad (SE true p w0 F (bytesOf a ++ r) ws W)) (K : ∀ w1,Ad (SE true p w0 F r ws w1) → Q (.returned (.tuple #[])) w1) : Calls Tryz.prog 60 #[.pointer (some ⟨p,0,none⟩),.string a] W Q:=SE.call E E.out (fun h => Nh.all h) K
theorem listR.all {n : Nat} {xs : List ak} {p : Nat} {w0 w : World} {F r : List Int} {A : Option Addr} {c : Nat} (hk : ∀ y ∈ xs,jL n y) (h : St true p w0 F (GZ (dX n) true xs ++ r) w) (hC : Kd.C k25 w0 A xs.length xs) : Calls Tryz.prog 88 #[.pointer (some ⟨p,0,none⟩),.slice A xs.length c] w (gW true p w0 F r (.tuple #[]) w):=by
 have HC:=Am hC;have uI:=Am hC.2.1;have E:=SE.start h;clear h hC;have HK:=Am hk;clear hk;go_enter Tryz.func88,Tryz.ntmps88
 go_wp2
 go_loopg [4] xs.length (fun kq v w' => ∃ i : Nat,v = .int .i64 i ∧ Ad (i + kq = xs.length) ∧ Ad (SE true p w0 F (GZ (dX n) (i == 0) (xs.drop i) ++ r) w w'))
 case atStart => exact ⟨0,rfl,⟨by omega⟩,E⟩
 case round =>
  obtain ⟨i,rfl,HI,E⟩:=hrel;by_cases hi : i < xs.length
  · have qp : decide (i < xs.length) = true:=decide_eq_true hi;have e1 : decide ((i : Int) < (xs.length : Int)) = true:=decide_eq_true (by omega);have p1 : (0 : Int) ≤ (i : Int):=by omega
    have q1 : (i : Int) < (xs.length : Int):=by omega
    have gZ:=Am hi;have jU:=Am (aQ hi);have w3 : wrap64 ((i : Int) + 1) = (i : Int) + 1:=by have:=uI.out;unfold wrap64;omega
    have w4 : IntKind.i64.wrap ((i : Int) + 1) = (i : Int) + 1:=(bY _).trans w3;obtain ⟨ad,A',c',rfl,hn,hkn⟩:=uX HC.out i hi;have HN:=Am hn;have oI:=Am hkn;obtain ⟨k0,k1,k2,k3,k4,k5⟩:=oI.out.at E.out.st.b;rw [ls_at hi] at E;(try simp only [List.append_assoc] at E);clear hn hkn;by_cases h0 : i = 0
    · have g1 : decide ((0 : Int) < (i : Int)) = false:=decide_eq_false (by omega);have g2 : decide (0 < i) = false:=decide_eq_false (by omega);rw [if_pos (beq_iff_eq.2 h0),List.nil_append] at E;have H0:=Am h0;clear h0 hi;go_wp2_with (first
       | (go_at_call 63;(with_reducible refine SE.call E E.out (fun st => atR.all (HK.out _ jU.out) st HN.out) (fun w1 E => ?_)))
       | fail)
      go_roundg (xs.length - (i + 1))
      case measure => have:=HI.out;have:=gZ.out;omega
      case rel => exact ⟨i + 1,by (try simp only [w4,w3]);rfl,⟨by have:=HI.out;have:=gZ.out;omega⟩,E⟩
    · have g1 : decide ((0 : Int) < (i : Int)) = true:=decide_eq_true (by omega);have g2 : decide (0 < i) = true:=decide_eq_true (by omega);rw [if_neg (by simpa using h0)] at E;have H0:=Am h0;clear h0 hi;go_wp2_with (first
       | (go_at_call 60;(with_reducible refine SE.dZ E (fun w1 E => ?_));(try (clear k0 k1 k2 k3 k4 k5;obtain ⟨k0,k1,k2,k3,k4,k5⟩:=oI.out.at E.out.st.b)))
       | (go_at_call 63;(with_reducible refine SE.call E E.out (fun st => atR.all (HK.out _ jU.out) st HN.out) (fun w1 E => ?_)))
       | fail)
      go_roundg (xs.length - (i + 1))
      case measure => have:=HI.out;have:=gZ.out;omega
      case rel => exact ⟨i + 1,by (try simp only [w4,w3]);rfl,⟨by have:=HI.out;have:=gZ.out;omega⟩,E⟩
  · have qp : decide (i < xs.length) = false:=decide_eq_false hi;have e1 : decide ((i : Int) < (xs.length : Int)) = false:=decide_eq_false (by omega);rw [ls_end hi] at E;clear hi HI;go_wp2
    first|go_end0|(refine bodyPost_ret (results_none rfl _ _ _) rfl ?_)
    exact ⟨rfl,E.out.st,E.out.fr⟩
open Go.Proofs.YtboojhadfhpdeaaGreatDoor.Lex
theorem GH {u : Nat} (acc : List Int) {k : Nat} (hu : u < 4294967296) (hl : acc.length ≤ 100) (h : 0 < u ∨ acc = []) : aW.l0 (k + 1) (u : Int) acc = aW.l0 k ((u / 10 : Nat) : Int) (((48 + u % 10 : Nat) : Int) :: acc):=by
 have e1 : ((48 + Int.tmod (u : Int) 10) % 4294967296) % 256 = ((48 + u % 10 : Nat) : Int):=by rw [Int.tmod_eq_emod_of_nonneg (by omega)];omega
 have e2 : Int.tdiv (u : Int) 10 % 4294967296 = ((u / 10 : Nat) : Int):=by rw [Int.tdiv_eq_ediv_of_nonneg (by omega)];omega
 conv => lhs;unfold aW.l0
 rw [e1,e2];by_cases h0 : 0 < u
 · rw [if_pos (show (u : Int) > 0 by omega),Option.bind_some,if_pos (by simp only [List.length_cons,List.length_nil];omega)];rfl
 · obtain rfl:=h.resolve_left h0;rw [if_neg (show ¬ (u : Int) > 0 by omega),if_pos (show (([] : List Int).length : Int) = 0 from rfl),Option.bind_some,if_pos (by simp only [List.length_cons,List.length_nil];omega)];rfl
theorem dec_done {acc : List Int} {k : Nat} (h : acc.length ≠ 0) : aW.l0 (k + 1) ((0 : Nat) : Int) acc = some (strOfNums acc):=by
 unfold aW.l0;rw [if_neg (by omega),if_neg (by omega)]
theorem GI : ∀ (d u : Nat) (acc : List Int),u < 10 ^ (d + 1) → u < 4294967296 → acc.length + d ≤ 99 → (0 < u ∨ acc = []) → ∃ k,aW.l0 k (u : Int) acc = some (strOfNums (enc (Lib.decDigits u) ++ acc))
 | d,u,acc,h1,h2,h3,h4 => by
  by_cases h : u < 10
  · refine ⟨2,?_⟩;rw [GH acc h2 (by omega) h4,show u / 10 = 0 by omega,dec_done (by simp),Lib.decDigits_one h];congr 2;show _ = ((UInt8.ofNat (48 + u)).toNat : Int) :: acc
    rw [UInt8.toNat_ofNat_of_lt' (by first|omega|(simp;omega)|(show 48 + _ < 256;omega))];congr 2;omega
  · match d,h1,h3 with
    | 0,h1,_ => omega
    | d + 1,h1,h3 =>
     obtain ⟨k,hk⟩:=GI d (u / 10) (((48 + u % 10 : Nat) : Int) :: acc) (by rw [Nat.pow_succ] at h1;omega) (by omega) (by simp only [List.length_cons];omega) (.inl (by omega));refine ⟨k + 1,?_⟩;rw [GH acc h2 (by omega) h4,hk]
     conv => rhs;rw [Lib.decDigits,dif_neg h]
     congr 2;unfold enc;rw [List.map_append,List.append_assoc];congr 1;show _ = ((UInt8.ofNat (48 + u % 10)).toNat : Int) :: acc
     rw [UInt8.toNat_ofNat_of_lt' (by first|omega|(simp;omega)|(show 48 + _ < 256;omega))]
theorem decR.all {v : Int} (h : 0 ≤ v ∧ v < 4294967296) (w : World) : Calls Tryz.prog 122 #[.int .u32 v] w fun e w' => e = .returned (.string (MC v)) ∧ Below w.heap.size w w' := by
 obtain ⟨u,rfl⟩:=Int.eq_ofNat_of_zero_le h.1;obtain ⟨k,hk⟩:=GI 9 u [] (by omega) (by omega) (by decide) (.inr rfl);rw [List.append_nil,Em] at hk;refine (aW.calls k u _ w hk).mono ?_;rintro e w' ⟨rfl,h⟩;exact ⟨rfl,h⟩
theorem QuoteR.all {s : ByteArray} (hs : gY s) (w : World) : Calls Tryz.prog 123 #[.string s] w fun e w' => e = .returned (.string (quoS s)) ∧ Below w.heap.size w w' := by
 obtain ⟨k,hk⟩:=(MX s hs).rounds;refine (lC.calls k s _ w hk).mono ?_;rintro e w' ⟨rfl,h⟩;exact ⟨rfl,by first|exact h|exact h.below⟩
theorem mW.k1t {p : Nat} {w0 w : World} {F r : List Int} {x : ak} {A : Option Addr} {c : Nat} {n : Nat} (h2 : 0 ≤ x.f2 ∧ x.f2 < 4294967296) (h3 : x.f3 = true) (hk : x.f0 = 1) (h : St true p w0 F (dX (n + 1) x ++ r) w) (hn : ND w0 x A c) : Calls Tryz.prog 109 #[.pointer (some ⟨p,0,none⟩),val x A c] w (gW true p w0 F r (.tuple #[]) w):=by
 have b1:=Yt hk 1 rfl
 have b2:=Yf hk 2 rfl
 have b3:=Yf hk 3 rfl
 have b4:=Yf hk 4 rfl
 have b8:=Yf hk 8 rfl
 have HF:=Am h2;have H3:=Am h3;clear h3 h2;rw [Df hk] at h;unfold ex1 at h;rw [if_pos H3.out] at h;simp only [List.append_assoc,List.nil_append] at h;have E:=PE.start h hn;clear h hn;have HKK:=Am hk;clear hk;go_enter Tryz.func109,Tryz.ntmps109
 go_wp2_with (first
  | (go_at_call 60;(try clear c0 c1 c2 c3 c4 c5);(with_reducible first|refine PE.dZ E ?_|refine PE.eG E ?_|refine PE.eH E ?_|refine PE.eF E ?_);intro w1 E c0 c1 c2 c3 c4 c5)
  | (go_at_call 122;(try clear c0 c1 c2 c3 c4 c5);(with_reducible refine PE.still E E.out (decR.all HF.out _) (fun w1 E c0 c1 c2 c3 c4 c5 => ?_));(try have h3:=H3.out))
  | fail)
 first|go_end0|go_ret|(refine bodyPost_ret (results_none rfl _ _ _) rfl ?_)
 exact ⟨rfl,E.out.st,E.out.fr⟩
theorem mW.k1f {p : Nat} {w0 w : World} {F r : List Int} {x : ak} {A : Option Addr} {c : Nat} {n : Nat} (h2 : 0 ≤ x.f2 ∧ x.f2 < 4294967296) (h3 : x.f3 = false) (hk : x.f0 = 1) (h : St true p w0 F (dX (n + 1) x ++ r) w) (hn : ND w0 x A c) : Calls Tryz.prog 109 #[.pointer (some ⟨p,0,none⟩),val x A c] w (gW true p w0 F r (.tuple #[]) w):=by
 have b1:=Yt hk 1 rfl
 have b2:=Yf hk 2 rfl
 have b3:=Yf hk 3 rfl
 have b4:=Yf hk 4 rfl
 have b8:=Yf hk 8 rfl
 have HF:=Am h2;have H3:=Am h3;clear h3 h2;rw [Df hk] at h;unfold ex1 at h;rw [if_neg (by rw [H3.out];decide)] at h;simp only [List.append_assoc,List.nil_append] at h;have E:=PE.start h hn;clear h hn;have HKK:=Am hk;clear hk;go_enter Tryz.func109,Tryz.ntmps109
 go_wp2_with (first
  | (go_at_call 60;(try clear c0 c1 c2 c3 c4 c5);(with_reducible first|refine PE.dZ E ?_|refine PE.eG E ?_|refine PE.eH E ?_|refine PE.eF E ?_);intro w1 E c0 c1 c2 c3 c4 c5)
  | (go_at_call 122;(try clear c0 c1 c2 c3 c4 c5);(with_reducible refine PE.still E E.out (decR.all HF.out _) (fun w1 E c0 c1 c2 c3 c4 c5 => ?_));(try have h3:=H3.out))
  | fail)
 first|go_end0|go_ret|(refine bodyPost_ret (results_none rfl _ _ _) rfl ?_)
 exact ⟨rfl,E.out.st,E.out.fr⟩
theorem mW.k4 {p : Nat} {w0 w : World} {F r : List Int} {x : ak} {A : Option Addr} {c : Nat} {n : Nat} (hk : x.f0 = 4) (h : St true p w0 F (dX (n + 1) x ++ r) w) (hn : ND w0 x A c) : Calls Tryz.prog 109 #[.pointer (some ⟨p,0,none⟩),val x A c] w (gW true p w0 F r (.tuple #[]) w):=by
 have b1:=Yf hk 1 rfl
 have b2:=Yf hk 2 rfl
 have b3:=Yf hk 3 rfl
 have b4:=Yt hk 4 rfl
 have b8:=Yf hk 8 rfl
 rw [KZ hk] at h;unfold ex4 at h;(try simp only [List.append_assoc] at h);have E:=PE.start h hn;clear h hn;have HKK:=Am hk;clear hk;go_enter Tryz.func109,Tryz.ntmps109
 go_wp2_with (first
  | (go_at_call 60;(try clear c0 c1 c2 c3 c4 c5);(with_reducible first|refine PE.dZ E ?_|refine PE.eG E ?_|refine PE.eH E ?_|refine PE.eF E ?_);intro w1 E c0 c1 c2 c3 c4 c5)
  | fail)
 first|go_end0|go_ret|(refine bodyPost_ret (results_none rfl _ _ _) rfl ?_)
 exact ⟨rfl,E.out.st,E.out.fr⟩
theorem mW.k3 {p : Nat} {w0 w : World} {F r : List Int} {x : ak} {A : Option Addr} {c : Nat} {n : Nat} (hs : gY x.f1) (hk : x.f0 = 3) (h : St true p w0 F (dX (n + 1) x ++ r) w) (hn : ND w0 x A c) : Calls Tryz.prog 109 #[.pointer (some ⟨p,0,none⟩),val x A c] w (gW true p w0 F r (.tuple #[]) w):=by
 have b1:=Yf hk 1 rfl
 have b2:=Yf hk 2 rfl
 have b3:=Yt hk 3 rfl
 have b4:=Yf hk 4 rfl
 have b8:=Yf hk 8 rfl
 have HS:=Am hs;clear hs;rw [KY hk] at h;unfold ex3 at h;(try simp only [List.append_assoc] at h);have E:=PE.start h hn;clear h hn;have HKK:=Am hk;clear hk;go_enter Tryz.func109,Tryz.ntmps109
 go_wp2_with (first
  | (go_at_call 60;(try clear c0 c1 c2 c3 c4 c5);(with_reducible first|refine PE.dZ E ?_|refine PE.eG E ?_|refine PE.eH E ?_|refine PE.eF E ?_);intro w1 E c0 c1 c2 c3 c4 c5)
  | (go_at_call 123;(try clear c0 c1 c2 c3 c4 c5);(with_reducible refine PE.still E E.out (QuoteR.all HS.out _) (fun w1 E c0 c1 c2 c3 c4 c5 => ?_)))
  | fail)
 first|go_end0|go_ret|(refine bodyPost_ret (results_none rfl _ _ _) rfl ?_)
 exact ⟨rfl,E.out.st,E.out.fr⟩
theorem mW.k8 {p : Nat} {w0 w : World} {F r : List Int} {x : ak} {A : Option Addr} {c : Nat} {n : Nat} (hs : gY x.f1) (he : ∀ y ∈ x.f4,jL n y) (hk : x.f0 = 8) (h : St true p w0 F (dX (n + 1) x ++ r) w) (hn : ND w0 x A c) : Calls Tryz.prog 109 #[.pointer (some ⟨p,0,none⟩),val x A c] w (gW true p w0 F r (.tuple #[]) w):=by
 have b1:=Yf hk 1 rfl
 have b2:=Yf hk 2 rfl
 have b3:=Yf hk 3 rfl
 have b4:=Yf hk 4 rfl
 have b8:=Yt hk 8 rfl
 have z1 : (9223372036854775807 < x.f1.size + 1) = False:=eq_false (by unfold gY at hs;omega);have HE:=Am he;clear he hs;rw [Le hk] at h;unfold ex8 at h;(try simp only [List.append_assoc] at h);have E:=PE.start h hn;clear h hn;have HKK:=Am hk;clear hk;go_enter Tryz.func109,Tryz.ntmps109
 go_wp2_with (first
  | (go_at_call 60;(try clear c0 c1 c2 c3 c4 c5);(with_reducible first|refine PE.dZ E ?_|refine PE.eG E ?_|refine PE.eH E ?_|refine PE.eF E ?_);intro w1 E c0 c1 c2 c3 c4 c5)
  | (go_at_call 88;(try clear c0 c1 c2 c3 c4 c5);(with_reducible refine PE.call E E.out (fun st => listR.all HE.out st E.out.k.C) (fun w1 E c0 c1 c2 c3 c4 c5 => ?_)))
  | fail)
 first|go_end0|go_ret|(refine bodyPost_ret (results_none rfl _ _ _) rfl ?_)
 exact ⟨rfl,E.out.st,E.out.fr⟩
theorem lK.k5 {p : Nat} {w0 w : World} {F r : List Int} {x : ak} {A : Option Addr} {c : Nat} {n : Nat} (hx : bJ x = true) (he : ∀ y ∈ x.f4,bJ y = true → jL n y) (hk : x.f0 = 5) (h : St true p w0 F (dX (n + 1) x ++ r) w) (hn : ND w0 x A c) : Calls Tryz.prog 90 #[.pointer (some ⟨p,0,none⟩),val x A c] w (gW true p w0 F r (.tuple #[]) w):=by
 obtain ⟨hl,hx0,hx1⟩:=ex_5 hx hk;have nR : (0 : Int) < (x.f4.length : Int):=by omega
 have nS : 0 < x.f4.length:=by omega
 have yV : (1 : Int) < (x.f4.length : Int):=by omega
 have yX : 1 < x.f4.length:=by omega
 obtain ⟨ad,rfl⟩:=aT hn.C (show 0 < x.f4.length by omega);obtain ⟨A0,d0,hn0,hk0⟩:=ng hn.C (show 0 < x.f4.length by omega);have gJ:=Am hn0;have dD:=Am hk0;obtain ⟨A1,d1,hn1,hk1⟩:=yx hn.C (show 1 < x.f4.length by omega);have iO:=Am hn1;have dN:=Am hk1;have b5:=Yt hk 5 rfl
 have b6:=Yf hk 6 rfl
 have b7:=Yf hk 7 rfl
 have b9:=Yf hk 9 rfl
 have b14:=Yf hk 14 rfl
 have b15:=Yf hk 15 rfl
 have b10:=Yf hk 10 rfl
 have b11:=Yf hk 11 rfl
 have b12:=Yf hk 12 rfl
 have b13:=Yf hk 13 rfl
 have jZ:=Am (he _ (aQ (show 0 < x.f4.length by omega)) hx0);have qA:=Am (he _ (aQ (show 1 < x.f4.length by omega)) hx1);clear he hx hx0 hx1;have jY:=Am hl;clear hl;rw [La hk] at h;unfold ex5 at h;(try simp only [List.append_assoc] at h);have E:=PE.start h hn;clear h hn;obtain ⟨bP,bQ,bT,bU,bV,bW⟩:=dD.out.at E.out.st.b;clear hn0 hk0;obtain ⟨k10,k11,k12,k13,k14,k15⟩:=dN.out.at E.out.st.b;clear hn1 hk1;have HKK:=Am hk;clear hk;go_enter Tryz.func90,Tryz.ntmps90
 go_wp2_with (first
  | (go_at_call 60;(try clear c0 c1 c2 c3 c4 c5);(with_reducible first|refine PE.dZ E ?_|refine PE.eG E ?_|refine PE.eH E ?_|refine PE.eF E ?_);intro w1 E c0 c1 c2 c3 c4 c5;(try ((try clear bP bQ bT bU bV bW);obtain ⟨bP,bQ,bT,bU,bV,bW⟩:=dD.out.at E.out.st.b));(try ((try clear k10 k11 k12 k13 k14 k15);obtain ⟨k10,k11,k12,k13,k14,k15⟩:=dN.out.at E.out.st.b)))
  | (go_at_call 63;(try clear c0 c1 c2 c3 c4 c5);(with_reducible refine PE.call E E.out (fun st => atR.all jZ.out st gJ.out) (fun w1 E c0 c1 c2 c3 c4 c5 => ?_));(try ((try clear bP bQ bT bU bV bW);obtain ⟨bP,bQ,bT,bU,bV,bW⟩:=dD.out.at E.out.st.b));(try ((try clear k10 k11 k12 k13 k14 k15);obtain ⟨k10,k11,k12,k13,k14,k15⟩:=dN.out.at E.out.st.b)))
  | (go_at_call 63;(try clear c0 c1 c2 c3 c4 c5);(with_reducible refine PE.call E E.out (fun st => atR.all qA.out st iO.out) (fun w1 E c0 c1 c2 c3 c4 c5 => ?_));(try ((try clear bP bQ bT bU bV bW);obtain ⟨bP,bQ,bT,bU,bV,bW⟩:=dD.out.at E.out.st.b));(try ((try clear k10 k11 k12 k13 k14 k15);obtain ⟨k10,k11,k12,k13,k14,k15⟩:=dN.out.at E.out.st.b)))
  | fail)
 first|go_end0|go_ret|(refine bodyPost_ret (results_none rfl _ _ _) rfl ?_)
 exact ⟨rfl,E.out.st,E.out.fr⟩
theorem lK.k6 {p : Nat} {w0 w : World} {F r : List Int} {x : ak} {A : Option Addr} {c : Nat} {n : Nat} (hs : gY x.f1) (hx : bJ x = true) (he : ∀ y ∈ x.f4,bJ y = true → jL n y) (hk : x.f0 = 6) (h : St true p w0 F (dX (n + 1) x ++ r) w) (hn : ND w0 x A c) : Calls Tryz.prog 90 #[.pointer (some ⟨p,0,none⟩),val x A c] w (gW true p w0 F r (.tuple #[]) w):=by
 obtain ⟨hl,hx0⟩:=ex_6 hx hk;have nR : (0 : Int) < (x.f4.length : Int):=by omega
 have nS : 0 < x.f4.length:=by omega
 obtain ⟨ad,rfl⟩:=aT hn.C (show 0 < x.f4.length by omega);obtain ⟨A0,d0,hn0,hk0⟩:=ng hn.C (show 0 < x.f4.length by omega);have gJ:=Am hn0;have dD:=Am hk0;have b5:=Yf hk 5 rfl
 have b6:=Yt hk 6 rfl
 have b7:=Yf hk 7 rfl
 have b9:=Yf hk 9 rfl
 have b14:=Yf hk 14 rfl
 have b15:=Yf hk 15 rfl
 have b10:=Yf hk 10 rfl
 have b11:=Yf hk 11 rfl
 have b12:=Yf hk 12 rfl
 have b13:=Yf hk 13 rfl
 have z0 : (9223372036854775807 < 1 + x.f1.size) = False:=eq_false (by have:=hs;unfold gY at this;omega);have jZ:=Am (he _ (aQ (show 0 < x.f4.length by omega)) hx0);clear he hx hx0;have jY:=Am hl;clear hl;rw [Lc hk] at h;unfold ex6 at h;(try simp only [List.append_assoc] at h);have E:=PE.start h hn;clear h hn;obtain ⟨bP,bQ,bT,bU,bV,bW⟩:=dD.out.at E.out.st.b;clear hn0 hk0;have HKK:=Am hk;clear hk;go_enter Tryz.func90,Tryz.ntmps90
 go_wp2_with (first
  | (go_at_call 60;(try clear c0 c1 c2 c3 c4 c5);(with_reducible first|refine PE.dZ E ?_|refine PE.eG E ?_|refine PE.eH E ?_|refine PE.eF E ?_);intro w1 E c0 c1 c2 c3 c4 c5;(try ((try clear bP bQ bT bU bV bW);obtain ⟨bP,bQ,bT,bU,bV,bW⟩:=dD.out.at E.out.st.b)))
  | (go_at_call 63;(try clear c0 c1 c2 c3 c4 c5);(with_reducible refine PE.call E E.out (fun st => atR.all jZ.out st gJ.out) (fun w1 E c0 c1 c2 c3 c4 c5 => ?_));(try ((try clear bP bQ bT bU bV bW);obtain ⟨bP,bQ,bT,bU,bV,bW⟩:=dD.out.at E.out.st.b)))
  | fail)
 first|go_end0|go_ret|(refine bodyPost_ret (results_none rfl _ _ _) rfl ?_)
 exact ⟨rfl,E.out.st,E.out.fr⟩
theorem lK.k7 {p : Nat} {w0 w : World} {F r : List Int} {x : ak} {A : Option Addr} {c : Nat} {n : Nat} (hs : gY x.f1) (hx : bJ x = true) (he : ∀ y ∈ x.f4,bJ y = true → jL n y) (hk : x.f0 = 7) (h : St true p w0 F (dX (n + 1) x ++ r) w) (hn : ND w0 x A c) : Calls Tryz.prog 90 #[.pointer (some ⟨p,0,none⟩),val x A c] w (gW true p w0 F r (.tuple #[]) w):=by
 obtain ⟨hl,hx0⟩:=ex_7 hx hk;have nR : (0 : Int) < (x.f4.length : Int):=by omega
 have nS : 0 < x.f4.length:=by omega
 obtain ⟨ad,rfl⟩:=aT hn.C (show 0 < x.f4.length by omega);obtain ⟨A0,d0,hn0,hk0⟩:=ng hn.C (show 0 < x.f4.length by omega);have gJ:=Am hn0;have dD:=Am hk0;have b5:=Yf hk 5 rfl
 have b6:=Yf hk 6 rfl
 have b7:=Yt hk 7 rfl
 have b9:=Yf hk 9 rfl
 have b14:=Yf hk 14 rfl
 have b15:=Yf hk 15 rfl
 have b10:=Yf hk 10 rfl
 have b11:=Yf hk 11 rfl
 have b12:=Yf hk 12 rfl
 have b13:=Yf hk 13 rfl
 have z0 : (9223372036854775807 < 2 + x.f1.size) = False:=eq_false (by have:=hs;unfold gY at this;omega);have jZ:=Am (he _ (aQ (show 0 < x.f4.length by omega)) hx0);clear he hx hx0;have jY:=Am hl;clear hl;rw [Ld hk] at h;unfold ex7 at h;(try simp only [List.append_assoc] at h);have E:=PE.start h hn;clear h hn;obtain ⟨bP,bQ,bT,bU,bV,bW⟩:=dD.out.at E.out.st.b;clear hn0 hk0;have HKK:=Am hk;clear hk;go_enter Tryz.func90,Tryz.ntmps90
 go_wp2_with (first
  | (go_at_call 60;(try clear c0 c1 c2 c3 c4 c5);(with_reducible first|refine PE.dZ E ?_|refine PE.eG E ?_|refine PE.eH E ?_|refine PE.eF E ?_);intro w1 E c0 c1 c2 c3 c4 c5;(try ((try clear bP bQ bT bU bV bW);obtain ⟨bP,bQ,bT,bU,bV,bW⟩:=dD.out.at E.out.st.b)))
  | (go_at_call 63;(try clear c0 c1 c2 c3 c4 c5);(with_reducible refine PE.call E E.out (fun st => atR.all jZ.out st gJ.out) (fun w1 E c0 c1 c2 c3 c4 c5 => ?_));(try ((try clear bP bQ bT bU bV bW);obtain ⟨bP,bQ,bT,bU,bV,bW⟩:=dD.out.at E.out.st.b)))
  | fail)
 first|go_end0|go_ret|(refine bodyPost_ret (results_none rfl _ _ _) rfl ?_)
 exact ⟨rfl,E.out.st,E.out.fr⟩
theorem lK.k12 {p : Nat} {w0 w : World} {F r : List Int} {x : ak} {A : Option Addr} {c : Nat} {n : Nat} (hx : bJ x = true) (he : ∀ y ∈ x.f4,bJ y = true → jL n y) (hk : x.f0 = 12) (h : St true p w0 F (dX (n + 1) x ++ r) w) (hn : ND w0 x A c) : Calls Tryz.prog 90 #[.pointer (some ⟨p,0,none⟩),val x A c] w (gW true p w0 F r (.tuple #[]) w):=by
 obtain ⟨hl,hx0,hx1,hx2⟩:=ex_12 hx hk;have nR : (0 : Int) < (x.f4.length : Int):=by omega
 have nS : 0 < x.f4.length:=by omega
 have yV : (1 : Int) < (x.f4.length : Int):=by omega
 have yX : 1 < x.f4.length:=by omega
 have q2a : (2 : Int) < (x.f4.length : Int):=by omega
 have q2b : 2 < x.f4.length:=by omega
 obtain ⟨ad,rfl⟩:=aT hn.C (show 0 < x.f4.length by omega);obtain ⟨A0,d0,hn0,hk0⟩:=ng hn.C (show 0 < x.f4.length by omega);have gJ:=Am hn0;have dD:=Am hk0;obtain ⟨A1,d1,hn1,hk1⟩:=yx hn.C (show 1 < x.f4.length by omega);have iO:=Am hn1;have dN:=Am hk1;obtain ⟨A2,d2,hn2,hk2⟩:=kd2 hn.C (show 2 < x.f4.length by omega);have Bd:=Am hn2;have uz:=Am hk2;have b5:=Yf hk 5 rfl
 have b6:=Yf hk 6 rfl
 have b7:=Yf hk 7 rfl
 have b9:=Yf hk 9 rfl
 have b14:=Yf hk 14 rfl
 have b15:=Yf hk 15 rfl
 have b10:=Yf hk 10 rfl
 have b11:=Yf hk 11 rfl
 have b12:=Yt hk 12 rfl
 have b13:=Yf hk 13 rfl
 have jZ:=Am (he _ (aQ (show 0 < x.f4.length by omega)) hx0);have qA:=Am (he _ (aQ (show 1 < x.f4.length by omega)) hx1);have HE2:=Am (he _ (aQ (show 2 < x.f4.length by omega)) hx2);clear he hx hx0 hx1 hx2;have jY:=Am hl;clear hl;rw [Ip hk] at h;unfold ex12 at h;(try simp only [List.append_assoc] at h);have E:=PE.start h hn;clear h hn;obtain ⟨bP,bQ,bT,bU,bV,bW⟩:=dD.out.at E.out.st.b;clear hn0 hk0;obtain ⟨k10,k11,k12,k13,k14,k15⟩:=dN.out.at E.out.st.b;clear hn1 hk1;obtain ⟨k20,k21,k22,k23,k24,k25⟩:=uz.out.at E.out.st.b;clear hn2 hk2;have HKK:=Am hk;clear hk;go_enter Tryz.func90,Tryz.ntmps90
 go_wp2_with (first
  | (go_at_call 60;(try clear c0 c1 c2 c3 c4 c5);(with_reducible first|refine PE.dZ E ?_|refine PE.eG E ?_|refine PE.eH E ?_|refine PE.eF E ?_);intro w1 E c0 c1 c2 c3 c4 c5;(try ((try clear bP bQ bT bU bV bW);obtain ⟨bP,bQ,bT,bU,bV,bW⟩:=dD.out.at E.out.st.b));(try ((try clear k10 k11 k12 k13 k14 k15);obtain ⟨k10,k11,k12,k13,k14,k15⟩:=dN.out.at E.out.st.b));(try ((try clear k20 k21 k22 k23 k24 k25);obtain ⟨k20,k21,k22,k23,k24,k25⟩:=uz.out.at E.out.st.b)))
  | (go_at_call 63;(try clear c0 c1 c2 c3 c4 c5);(with_reducible refine PE.call E E.out (fun st => atR.all jZ.out st gJ.out) (fun w1 E c0 c1 c2 c3 c4 c5 => ?_));(try ((try clear bP bQ bT bU bV bW);obtain ⟨bP,bQ,bT,bU,bV,bW⟩:=dD.out.at E.out.st.b));(try ((try clear k10 k11 k12 k13 k14 k15);obtain ⟨k10,k11,k12,k13,k14,k15⟩:=dN.out.at E.out.st.b));(try ((try clear k20 k21 k22 k23 k24 k25);obtain ⟨k20,k21,k22,k23,k24,k25⟩:=uz.out.at E.out.st.b)))
  | (go_at_call 63;(try clear c0 c1 c2 c3 c4 c5);(with_reducible refine PE.call E E.out (fun st => atR.all qA.out st iO.out) (fun w1 E c0 c1 c2 c3 c4 c5 => ?_));(try ((try clear bP bQ bT bU bV bW);obtain ⟨bP,bQ,bT,bU,bV,bW⟩:=dD.out.at E.out.st.b));(try ((try clear k10 k11 k12 k13 k14 k15);obtain ⟨k10,k11,k12,k13,k14,k15⟩:=dN.out.at E.out.st.b));(try ((try clear k20 k21 k22 k23 k24 k25);obtain ⟨k20,k21,k22,k23,k24,k25⟩:=uz.out.at E.out.st.b)))
  | (go_at_call 63;(try clear c0 c1 c2 c3 c4 c5);(with_reducible refine PE.call E E.out (fun st => atR.all HE2.out st Bd.out) (fun w1 E c0 c1 c2 c3 c4 c5 => ?_));(try ((try clear bP bQ bT bU bV bW);obtain ⟨bP,bQ,bT,bU,bV,bW⟩:=dD.out.at E.out.st.b));(try ((try clear k10 k11 k12 k13 k14 k15);obtain ⟨k10,k11,k12,k13,k14,k15⟩:=dN.out.at E.out.st.b));(try ((try clear k20 k21 k22 k23 k24 k25);obtain ⟨k20,k21,k22,k23,k24,k25⟩:=uz.out.at E.out.st.b)))
  | fail)
 first|go_end0|go_ret|(refine bodyPost_ret (results_none rfl _ _ _) rfl ?_)
 exact ⟨rfl,E.out.st,E.out.fr⟩
theorem lK.k13 {p : Nat} {w0 w : World} {F r : List Int} {x : ak} {A : Option Addr} {c : Nat} {n : Nat} (hs : gY x.f1) (hx : bJ x = true) (he : ∀ y ∈ x.f4,bJ y = true → jL n y) (hk : x.f0 = 13) (h : St true p w0 F (dX (n + 1) x ++ r) w) (hn : ND w0 x A c) : Calls Tryz.prog 90 #[.pointer (some ⟨p,0,none⟩),val x A c] w (gW true p w0 F r (.tuple #[]) w):=by
 obtain ⟨hl,hx0,hx1⟩:=ex_13 hx hk;have nR : (0 : Int) < (x.f4.length : Int):=by omega
 have nS : 0 < x.f4.length:=by omega
 have yV : (1 : Int) < (x.f4.length : Int):=by omega
 have yX : 1 < x.f4.length:=by omega
 obtain ⟨ad,rfl⟩:=aT hn.C (show 0 < x.f4.length by omega);obtain ⟨A0,d0,hn0,hk0⟩:=ng hn.C (show 0 < x.f4.length by omega);have gJ:=Am hn0;have dD:=Am hk0;obtain ⟨A1,d1,hn1,hk1⟩:=yx hn.C (show 1 < x.f4.length by omega);have iO:=Am hn1;have dN:=Am hk1;have b5:=Yf hk 5 rfl
 have b6:=Yf hk 6 rfl
 have b7:=Yf hk 7 rfl
 have b9:=Yf hk 9 rfl
 have b14:=Yf hk 14 rfl
 have b15:=Yf hk 15 rfl
 have b10:=Yf hk 10 rfl
 have b11:=Yf hk 11 rfl
 have b12:=Yf hk 12 rfl
 have b13:=Yt hk 13 rfl
 have z0 : (9223372036854775807 < 1 + x.f1.size) = False:=eq_false (by have:=hs;unfold gY at this;omega);have z1 : (9223372036854775807 < 1 + x.f1.size + 1) = False:=eq_false (by have:=hs;unfold gY at this;omega);have jZ:=Am (he _ (aQ (show 0 < x.f4.length by omega)) hx0);have qA:=Am (he _ (aQ (show 1 < x.f4.length by omega)) hx1);clear he hx hx0 hx1;have jY:=Am hl;clear hl;rw [Iq hk] at h;unfold ex13 at h;(try simp only [List.append_assoc] at h);have E:=PE.start h hn;clear h hn;obtain ⟨bP,bQ,bT,bU,bV,bW⟩:=dD.out.at E.out.st.b;clear hn0 hk0;obtain ⟨k10,k11,k12,k13,k14,k15⟩:=dN.out.at E.out.st.b;clear hn1 hk1;have HKK:=Am hk;clear hk;go_enter Tryz.func90,Tryz.ntmps90
 go_wp2_with (first
  | (go_at_call 60;(try clear c0 c1 c2 c3 c4 c5);(with_reducible first|refine PE.dZ E ?_|refine PE.eG E ?_|refine PE.eH E ?_|refine PE.eF E ?_);intro w1 E c0 c1 c2 c3 c4 c5;(try ((try clear bP bQ bT bU bV bW);obtain ⟨bP,bQ,bT,bU,bV,bW⟩:=dD.out.at E.out.st.b));(try ((try clear k10 k11 k12 k13 k14 k15);obtain ⟨k10,k11,k12,k13,k14,k15⟩:=dN.out.at E.out.st.b)))
  | (go_at_call 63;(try clear c0 c1 c2 c3 c4 c5);(with_reducible refine PE.call E E.out (fun st => atR.all jZ.out st gJ.out) (fun w1 E c0 c1 c2 c3 c4 c5 => ?_));(try ((try clear bP bQ bT bU bV bW);obtain ⟨bP,bQ,bT,bU,bV,bW⟩:=dD.out.at E.out.st.b));(try ((try clear k10 k11 k12 k13 k14 k15);obtain ⟨k10,k11,k12,k13,k14,k15⟩:=dN.out.at E.out.st.b)))
  | (go_at_call 63;(try clear c0 c1 c2 c3 c4 c5);(with_reducible refine PE.call E E.out (fun st => atR.all qA.out st iO.out) (fun w1 E c0 c1 c2 c3 c4 c5 => ?_));(try ((try clear bP bQ bT bU bV bW);obtain ⟨bP,bQ,bT,bU,bV,bW⟩:=dD.out.at E.out.st.b));(try ((try clear k10 k11 k12 k13 k14 k15);obtain ⟨k10,k11,k12,k13,k14,k15⟩:=dN.out.at E.out.st.b)))
  | fail)
 first|go_end0|go_ret|(refine bodyPost_ret (results_none rfl _ _ _) rfl ?_)
 exact ⟨rfl,E.out.st,E.out.fr⟩
theorem lK.k14 {p : Nat} {w0 w : World} {F r : List Int} {x : ak} {A : Option Addr} {c : Nat} {n : Nat} (hs : gY (nd x.f4 0).f1) (hx : bJ x = true) (he : ∀ y ∈ x.f4,bJ y = true → jL n y) (hk : x.f0 = 14) (h : St true p w0 F (dX (n + 1) x ++ r) w) (hn : ND w0 x A c) : Calls Tryz.prog 90 #[.pointer (some ⟨p,0,none⟩),val x A c] w (gW true p w0 F r (.tuple #[]) w):=by
 obtain ⟨hl,hx1⟩:=ex_14 hx hk;have nR : (0 : Int) < (x.f4.length : Int):=by omega
 have nS : 0 < x.f4.length:=by omega
 have yV : (1 : Int) < (x.f4.length : Int):=by omega
 have yX : 1 < x.f4.length:=by omega
 obtain ⟨ad,rfl⟩:=aT hn.C (show 0 < x.f4.length by omega);obtain ⟨A0,d0,hn0,hk0⟩:=ng hn.C (show 0 < x.f4.length by omega);have gJ:=Am hn0;have dD:=Am hk0;obtain ⟨A1,d1,hn1,hk1⟩:=yx hn.C (show 1 < x.f4.length by omega);have iO:=Am hn1;have dN:=Am hk1;have b5:=Yf hk 5 rfl
 have b6:=Yf hk 6 rfl
 have b7:=Yf hk 7 rfl
 have b9:=Yf hk 9 rfl
 have b14:=Yt hk 14 rfl
 have b15:=Yf hk 15 rfl
 have b10:=Yf hk 10 rfl
 have b11:=Yf hk 11 rfl
 have b12:=Yf hk 12 rfl
 have b13:=Yf hk 13 rfl
 have z0 : (9223372036854775807 < 1 + (nd x.f4 0).f1.size) = False:=eq_false (by have:=hs;unfold gY at this;omega);have z1 : (9223372036854775807 < 1 + (nd x.f4 0).f1.size + 1) = False:=eq_false (by have:=hs;unfold gY at this;omega);have qA:=Am (he _ (aQ (show 1 < x.f4.length by omega)) hx1);clear he hx hx1;have jY:=Am hl;clear hl;rw [Es hk] at h;unfold ex14 at h;(try simp only [List.append_assoc] at h);have E:=PE.start h hn;clear h hn;obtain ⟨bP,bQ,bT,bU,bV,bW⟩:=dD.out.at E.out.st.b;clear hn0 hk0;obtain ⟨k10,k11,k12,k13,k14,k15⟩:=dN.out.at E.out.st.b;clear hn1 hk1;have HKK:=Am hk;clear hk;go_enter Tryz.func90,Tryz.ntmps90
 go_wp2_with (first
  | (go_at_call 60;(try clear c0 c1 c2 c3 c4 c5);(with_reducible first|refine PE.dZ E ?_|refine PE.eG E ?_|refine PE.eH E ?_|refine PE.eF E ?_);intro w1 E c0 c1 c2 c3 c4 c5;(try ((try clear bP bQ bT bU bV bW);obtain ⟨bP,bQ,bT,bU,bV,bW⟩:=dD.out.at E.out.st.b));(try ((try clear k10 k11 k12 k13 k14 k15);obtain ⟨k10,k11,k12,k13,k14,k15⟩:=dN.out.at E.out.st.b)))
  | (go_at_call 63;(try clear c0 c1 c2 c3 c4 c5);(with_reducible refine PE.call E E.out (fun st => atR.all qA.out st iO.out) (fun w1 E c0 c1 c2 c3 c4 c5 => ?_));(try ((try clear bP bQ bT bU bV bW);obtain ⟨bP,bQ,bT,bU,bV,bW⟩:=dD.out.at E.out.st.b));(try ((try clear k10 k11 k12 k13 k14 k15);obtain ⟨k10,k11,k12,k13,k14,k15⟩:=dN.out.at E.out.st.b)))
  | fail)
 first|go_end0|go_ret|(refine bodyPost_ret (results_none rfl _ _ _) rfl ?_)
 exact ⟨rfl,E.out.st,E.out.fr⟩
theorem GK.a {p : Nat} {w0 w : World} {F r : List Int} {x : ak} {A : Option Addr} {c : Nat} {n : Nat} (hs : gY x.f1) (hk : x.f0 = 16) (h : St true p w0 F (bytesOf ⟨#[115,105,122,101,111,102,40]⟩ ++ (bytesOf x.f1 ++ bytesOf ⟨#[41]⟩) ++ r) w) (hn : ND w0 x A c) : Calls Tryz.prog 108 #[.pointer (some ⟨p,0,none⟩),val x A c] w (gW true p w0 F r (.tuple #[]) w):=by
 have b16:=Yt hk 16 rfl
 have b14:=Yf hk 14 rfl
 have z0 : (9223372036854775807 < 7 + x.f1.size) = False:=eq_false (by have:=hs;unfold gY at this;omega);have z1 : (9223372036854775807 < 7 + x.f1.size + 1) = False:=eq_false (by have:=hs;unfold gY at this;omega);simp only [List.append_assoc] at h;have E:=PE.start h hn;clear h hn;have HKK:=Am hk;clear hk;go_enter Tryz.func108,Tryz.ntmps108
 go_wp2_with (first
  | (go_at_call 60;(try clear c0 c1 c2 c3 c4 c5);(with_reducible first|refine PE.dZ E ?_|refine PE.eG E ?_|refine PE.eH E ?_|refine PE.eF E ?_);intro w1 E c0 c1 c2 c3 c4 c5)
  | fail)
 first|go_end0|go_ret|(refine bodyPost_ret (results_none rfl _ _ _) rfl ?_)
 exact ⟨rfl,E.out.st,E.out.fr⟩
theorem GK.b {p : Nat} {w0 w : World} {F r : List Int} {x : ak} {A : Option Addr} {c : Nat} {n : Nat} (he : jL n x) (hk : x.f0 = 14) (h : St true p w0 F (bytesOf ⟨#[115,105,122,101,111,102,32,40]⟩ ++ (dX n x ++ bytesOf ⟨#[41]⟩) ++ r) w) (hn : ND w0 x A c) : Calls Tryz.prog 108 #[.pointer (some ⟨p,0,none⟩),val x A c] w (gW true p w0 F r (.tuple #[]) w):=by
 have b16:=Yf hk 16 rfl
 have b14:=Yt hk 14 rfl
 have HE:=Am he;clear he;simp only [List.append_assoc] at h;have E:=PE.start h hn;clear h hn;have HKK:=Am hk;clear hk;go_enter Tryz.func108,Tryz.ntmps108
 go_wp2_with (first
  | (go_at_call 60;(try clear c0 c1 c2 c3 c4 c5);(with_reducible first|refine PE.dZ E ?_|refine PE.eG E ?_|refine PE.eH E ?_|refine PE.eF E ?_);intro w1 E c0 c1 c2 c3 c4 c5)
  | (go_at_call 90;(try clear c0 c1 c2 c3 c4 c5);(with_reducible refine PE.call E E.out (fun st => HE.out.go st E.out.k) (fun w1 E c0 c1 c2 c3 c4 c5 => ?_)))
  | fail)
 first|go_end0|go_ret|(refine bodyPost_ret (results_none rfl _ _ _) rfl ?_)
 exact ⟨rfl,E.out.st,E.out.fr⟩
theorem GK.c {n : Nat} {p : Nat} {w0 w : World} {F r : List Int} {x : ak} {A : Option Addr} {c : Nat} (he : jL n x) (h1 : x.f0 ≠ 16) (h2 : x.f0 ≠ 14) (h : St true p w0 F ((bytesOf ⟨#[115,105,122,101,111,102,32]⟩ ++ oO (dX n) x 12) ++ r) w) (hn : ND w0 x A c) : Calls Tryz.prog 108 #[.pointer (some ⟨p,0,none⟩),val x A c] w (gW true p w0 F r (.tuple #[]) w):=by
 have b16 : (x.f0 == 16) = false:=beq_eq_false_iff_ne.2 h1;have b14 : (x.f0 == 14) = false:=beq_eq_false_iff_ne.2 h2;have HE:=Am he;simp only [List.append_assoc] at h;have E:=PE.start h hn;clear h hn he h1 h2;go_enter Tryz.func108,Tryz.ntmps108
 go_wp2_with (first
  | (go_at_call 60;(try clear c0 c1 c2 c3 c4 c5);(with_reducible first|refine PE.dZ E ?_|refine PE.eG E ?_|refine PE.eH E ?_|refine PE.eF E ?_);intro w1 E c0 c1 c2 c3 c4 c5)
  | (go_at_call 63;(try clear c0 c1 c2 c3 c4 c5);(with_reducible refine PE.call E E.out (fun st => atR.all HE.out st E.out.k) (fun w1 E c0 c1 c2 c3 c4 c5 => ?_)))
  | fail)
 first|go_end0|(refine bodyPost_ret (results_none rfl _ _ _) rfl ?_)
 exact ⟨rfl,E.out.st,E.out.fr⟩
theorem lK.k15 {n : Nat} {u : List Int} {p : Nat} {w0 w : World} {F r : List Int} {x : ak} {A : Option Addr} {c : Nat} (hk : x.f0 = 15) (hl : x.f4.length = 1) (hc : ∀ (A0 : Option Addr) (d0 : Nat) (w1 : World),ND w0 (nd x.f4 0) A0 d0 → St true p w0 F (u ++ r) w1 → Calls Tryz.prog 108 #[.pointer (some ⟨p,0,none⟩),val (nd x.f4 0) A0 d0] w1 (gW true p w0 F r (.tuple #[]) w1)) (h : St true p w0 F (u ++ r) w) (hn : ND w0 x A c) : Calls Tryz.prog 90 #[.pointer (some ⟨p,0,none⟩),val x A c] w (gW true p w0 F r (.tuple #[]) w):=by
 have HC:=Am hc;have nR : (0 : Int) < (x.f4.length : Int):=by omega
 have nS : 0 < x.f4.length:=by omega
 obtain ⟨ad,rfl⟩:=aT hn.C (show 0 < x.f4.length by omega);obtain ⟨A0,d0,hn0,hk0⟩:=ng hn.C (show 0 < x.f4.length by omega);have gJ:=Am hn0;have dD:=Am hk0;have b5:=Yf hk 5 rfl
 have b6:=Yf hk 6 rfl
 have b7:=Yf hk 7 rfl
 have b9:=Yf hk 9 rfl
 have b14:=Yf hk 14 rfl
 have b15:=Yt hk 15 rfl
 have b10:=Yf hk 10 rfl
 have b11:=Yf hk 11 rfl
 have b12:=Yf hk 12 rfl
 have b13:=Yf hk 13 rfl
 have E:=PE.start h hn;clear h hn hc hl;obtain ⟨bP,bQ,bT,bU,bV,bW⟩:=dD.out.at E.out.st.b;clear hn0 hk0;have HKK:=Am hk;clear hk;go_enter Tryz.func90,Tryz.ntmps90
 go_wp2_with (first
  | (go_at_call 108;(try clear c0 c1 c2 c3 c4 c5);(with_reducible refine PE.call E E.out (fun st => HC.out _ _ _ gJ.out st) (fun w1 E c0 c1 c2 c3 c4 c5 => ?_));(try ((try clear bP bQ bT bU bV bW);obtain ⟨bP,bQ,bT,bU,bV,bW⟩:=dD.out.at E.out.st.b)))
  | fail)
 first|go_end0|(refine bodyPost_ret (results_none rfl _ _ _) rfl ?_)
 exact ⟨rfl,E.out.st,E.out.fr⟩
theorem lK.leaf {u : List Int} {p : Nat} {w0 w : World} {F r : List Int} {x : ak} {A : Option Addr} {c : Nat} (hk : x.f0 = 1 ∨ x.f0 = 2 ∨ x.f0 = 3 ∨ x.f0 = 4 ∨ x.f0 = 8) (hs : ∀ w1,St true p w0 F (u ++ r) w1 → Calls Tryz.prog 109 #[.pointer (some ⟨p,0,none⟩),val x A c] w1 (gW true p w0 F r (.tuple #[]) w1)) (h : St true p w0 F (u ++ r) w) (hn : ND w0 x A c) : Calls Tryz.prog 90 #[.pointer (some ⟨p,0,none⟩),val x A c] w (gW true p w0 F r (.tuple #[]) w):=by
 have b5 : (x.f0 == 5) = false:=beq_eq_false_iff_ne.2 (by omega);have b6 : (x.f0 == 6) = false:=beq_eq_false_iff_ne.2 (by omega);have b7 : (x.f0 == 7) = false:=beq_eq_false_iff_ne.2 (by omega);have b9 : (x.f0 == 9) = false:=beq_eq_false_iff_ne.2 (by omega);have b14 : (x.f0 == 14) = false:=beq_eq_false_iff_ne.2 (by omega);have b15 : (x.f0 == 15) = false:=beq_eq_false_iff_ne.2 (by omega);have b10 : (x.f0 == 10) = false:=beq_eq_false_iff_ne.2 (by omega);have b11 : (x.f0 == 11) = false:=beq_eq_false_iff_ne.2 (by omega);have b12 : (x.f0 == 12) = false:=beq_eq_false_iff_ne.2 (by omega);have b13 : (x.f0 == 13) = false:=beq_eq_false_iff_ne.2 (by omega);have HS:=Am hs;have E:=PE.start h hn;clear h hn hs hk;go_enter Tryz.func90,Tryz.ntmps90
 go_wp2_with (first
  | (go_at_call 109;(try clear c0 c1 c2 c3 c4 c5);(with_reducible refine PE.call E E.out (fun st => HS.out _ st) (fun w1 E c0 c1 c2 c3 c4 c5 => ?_)))
  | fail)
 first|go_end0|(refine bodyPost_ret (results_none rfl _ _ _) rfl ?_)
 exact ⟨rfl,E.out.st,E.out.fr⟩
section
variable {ops : Array Oper} {T : Bool × List (List Nat × List Nat)} {Q : Exit → Act → World → Prop} {S : World → Prop} {oi : Oper} {v : Value} {fuel : Nat} {l : Array Bool} {a a' : Act} {w : World}
theorem Nz (i : Nat) (N : Tmp) (HT : Ad (iC .any ops = T)) (hS : S w) (hi : ops[i]? = some oi:=by rfl) (hN : oi.dst = some N:=by rfl) (hc : BN T [] l.toList (l.setIfInBounds i true).toList i = true:=by kernel_rfl)
 (hQ : ∀ c a w,Q (.panic c) (a.put oi.dst v) w → Q (.panic c) a w:=by exact fun _ _ _ h => h) (hw : Region.wanted oi (yielded ops a.tmps) = true:=by rfl)
 (hy : ∀ w,S w → (execOp a.eval oi).run Tryz.prog w = .ok (.value v) w:=by (intro w' s0_;obtain ⟨s0,s1,s2,s3,s4,s5,s6,s7⟩:=s0_;go_simp;with_reducible rfl))
 (ha : a.put (some N) v = a' := by (simp only [Act.put,List.setIfInBounds_toArray,List.set_cons_zero,List.set_cons_succ,bY];rfl))
 (h : pI Tryz.prog .any ops Q S [] fuel (l.setIfInBounds i true) a' w) : pI Tryz.prog .any ops Q S [] (fuel + 1) l a w:=sS _ hi hN (zH HT.out hc) hQ (Or.inl ⟨hw,hy⟩) hS ha h
end
theorem lK.k10 {p : Nat} {w0 w : World} {F r : List Int} {x : ak} {A : Option Addr} {c : Nat} {n : Nat} (hs : gY x.f1) (hx : bJ x = true) (he : ∀ y ∈ x.f4,bJ y = true → jL n y) (hk : x.f0 = 10) (h : St true p w0 F (dX (n + 1) x ++ r) w) (hn : ND w0 x A c) : Calls Tryz.prog 90 #[.pointer (some ⟨p,0,none⟩),val x A c] w (gW true p w0 F r (.tuple #[]) w):=by
 obtain ⟨hl,hx0,hx1⟩:=ex_10 hx hk;have nR : (0 : Int) < (x.f4.length : Int):=by omega
 have nS : 0 < x.f4.length:=by omega
 have yV : (1 : Int) < (x.f4.length : Int):=by omega
 have yX : 1 < x.f4.length:=by omega
 obtain ⟨ad,rfl⟩:=aT hn.C (show 0 < x.f4.length by omega);obtain ⟨A0,d0,hn0,hk0⟩:=ng hn.C (show 0 < x.f4.length by omega);have gJ:=Am hn0;have dD:=Am hk0;obtain ⟨A1,d1,hn1,hk1⟩:=yx hn.C (show 1 < x.f4.length by omega);have iO:=Am hn1;have dN:=Am hk1;have b5:=Yf hk 5 rfl
 have b6:=Yf hk 6 rfl
 have b7:=Yf hk 7 rfl
 have b9:=Yf hk 9 rfl
 have b14:=Yf hk 14 rfl
 have b15:=Yf hk 15 rfl
 have b10:=Yt hk 10 rfl
 have b11:=Yf hk 11 rfl
 have b12:=Yf hk 12 rfl
 have b13:=Yf hk 13 rfl
 have z0 : (9223372036854775807 < 1 + x.f1.size) = False:=eq_false (by have:=hs;unfold gY at this;omega);have z1 : (9223372036854775807 < 1 + x.f1.size + 1) = False:=eq_false (by have:=hs;unfold gY at this;omega);have ow : wrap64 (yT x.f1 + 1) = yT x.f1 + 1:=by have:=vU x.f1;unfold wrap64;omega
 have jZ:=Am (he _ (aQ (show 0 < x.f4.length by omega)) hx0);have qA:=Am (he _ (aQ (show 1 < x.f4.length by omega)) hx1);clear he hx hx0 hx1;have jY:=Am hl;rw [Il hk] at h;unfold Ep at h;simp only [List.append_assoc] at h;have E:=PE.start h hn;clear h hn hl hn0 hk0 hn1 hk1 hs;have HKK:=Am hk;clear hk;go_enter Tryz.func90,Tryz.ntmps90
 go_wp2
 replace E:=Am (E.out.step (W1:=(w.alloc (.cells #[.int .i64 x.f0,.string x.f1,.int .u32 x.f2,.bool x.f3,.slice (some ad) x.f4.length c,.int .i64 x.f5] 25 (0,0))).drew) (Z6 (Below.refl _ _)));refine gy (n:=9) (S:=fun w' => w'.cell? ⟨w.heap.size,4,none⟩ = some (.slice (some ad) x.f4.length c) ∧ w'.cell? ⟨w.heap.size,1,none⟩ = some (.string x.f1) ∧ w'.cell? ad = some (.int .i64 (nd x.f4 0).f0) ∧ w'.cell? ⟨ad.block,ad.off + 1,none⟩ = some (.string (nd x.f4 0).f1) ∧ w'.cell? ⟨ad.block,ad.off + 2,none⟩ = some (.int .u32 (nd x.f4 0).f2) ∧ w'.cell? ⟨ad.block,ad.off + 3,none⟩ = some (.bool (nd x.f4 0).f3) ∧ w'.cell? ⟨ad.block,ad.off + 4,none⟩ = some (.slice A0 (nd x.f4 0).f4.length d0) ∧ w'.cell? ⟨ad.block,ad.off + 5,none⟩ = some (.int .i64 (nd x.f4 0).f5)) (ds:=[]) (Array.replicate 9 false) (by kernel_rfl) rfl rfl ⟨E.out.cells.2.2.2.2.1,E.out.cells.2.1,dD.out.at E.out.st.b⟩ (fun hHeld => ?_);refine eu (T:=iC .any (opsOf Tryz.f90 26)) (by kernel_rfl) (fun aG => ?_);generalize (w.alloc (.cells #[.int .i64 x.f0,.string x.f1,.int .u32 x.f2,.bool x.f3,.slice (some ad) x.f4.length c,.int .i64 x.f5] 25 (0,0))).drew = w7 at E hHeld ⊢;refine rp 0 111 aG (h:=?_);refine rp 1 112 aG (h:=?_);refine Nz 2 113 aG hHeld (h:=?_);refine rp 3 114 aG (h:=?_);refine Nz 4 115 aG hHeld (h:=?_);refine rp 5 116 aG (h:=?_);refine Nz 6 117 aG hHeld (h:=?_);refine rc 7 118 aG (h:=fun K hK => ?_);(try clear c0 c1 c2 c3 c4 c5);refine jQ Tryz.func107 (by kernel_rfl) rfl #[.string x.f1] (by rfl) rfl rfl (by (try simp only [List.map_toArray,List.map_cons,List.map_nil]);first|done|rfl) (PE.still E E.out (Lp.all x.f1 _) (fun w8 E c0 c1 c2 c3 c4 c5 => ?_));refine ⟨_,rfl,?_⟩;refine hK.out _ _ ⟨E.out.cells.2.2.2.2.1,E.out.cells.2.1,dD.out.at E.out.st.b⟩ (fun hHeld => rn ?_);clear hK K;refine rc 8 119 aG (h:=fun K hK => ?_);(try clear c0 c1 c2 c3 c4 c5);refine jQ Tryz.func63 (by kernel_rfl) rfl #[.pointer (some ⟨p,0,none⟩),val (nd x.f4 0) A0 d0,.int .i64 (yT x.f1)] (by rfl) rfl rfl (by (try simp only [List.map_toArray,List.map_cons,List.map_nil]);first|done|rfl) (PE.call E E.out (fun st => atR.all jZ.out st gJ.out) (fun w8 E c0 c1 c2 c3 c4 c5 => ?_));refine ⟨_,rfl,?_⟩;refine hK.out _ _ ⟨E.out.cells.2.2.2.2.1,E.out.cells.2.1,dD.out.at E.out.st.b⟩ (fun hHeld => rn ?_);clear hK K;refine wu aG ?_;go_wp2_with (first
  | (go_at_call 60;(try clear c0 c1 c2 c3 c4 c5);(with_reducible first|refine PE.dZ E ?_|refine PE.eG E ?_|refine PE.eH E ?_|refine PE.eF E ?_);intro w1 E c0 c1 c2 c3 c4 c5)
  | fail)
 replace E:=Am (E.out.step (W1:=w1.drew) (Z6 (Below.refl _ _)));refine gy (n:=10) (S:=fun w' => w'.cell? ⟨w.heap.size,4,none⟩ = some (.slice (some ad) x.f4.length c) ∧ w'.cell? ⟨w.heap.size,1,none⟩ = some (.string x.f1) ∧ w'.cell? ⟨ad.block,ad.off + 6,none⟩ = some (.int .i64 (nd x.f4 1).f0) ∧ w'.cell? ⟨ad.block,ad.off + 6 + 1,none⟩ = some (.string (nd x.f4 1).f1) ∧ w'.cell? ⟨ad.block,ad.off + 6 + 2,none⟩ = some (.int .u32 (nd x.f4 1).f2) ∧ w'.cell? ⟨ad.block,ad.off + 6 + 3,none⟩ = some (.bool (nd x.f4 1).f3) ∧ w'.cell? ⟨ad.block,ad.off + 6 + 4,none⟩ = some (.slice A1 (nd x.f4 1).f4.length d1) ∧ w'.cell? ⟨ad.block,ad.off + 6 + 5,none⟩ = some (.int .i64 (nd x.f4 1).f5)) (ds:=[]) (Array.replicate 10 false) (by kernel_rfl) rfl rfl ⟨E.out.cells.2.2.2.2.1,E.out.cells.2.1,dN.out.at E.out.st.b⟩ (fun hHeld => ?_);refine eu (T:=iC .any (opsOf Tryz.f90 28)) (by kernel_rfl) (fun aG => ?_);generalize w1.drew = w7 at E hHeld ⊢;refine rp 0 126 aG (h:=?_);refine rp 1 127 aG (h:=?_);refine Nz 2 128 aG hHeld (h:=?_);refine rp 3 129 aG (h:=?_);refine Nz 4 130 aG hHeld (h:=?_);refine rp 5 131 aG (h:=?_);refine Nz 6 132 aG hHeld (h:=?_);refine rc 7 133 aG (h:=fun K hK => ?_);(try clear c0 c1 c2 c3 c4 c5);refine jQ Tryz.func107 (by kernel_rfl) rfl #[.string x.f1] (by rfl) rfl rfl (by (try simp only [List.map_toArray,List.map_cons,List.map_nil]);first|done|rfl) (PE.still E E.out (Lp.all x.f1 _) (fun w8 E c0 c1 c2 c3 c4 c5 => ?_));refine ⟨_,rfl,?_⟩;refine hK.out _ _ ⟨E.out.cells.2.2.2.2.1,E.out.cells.2.1,dN.out.at E.out.st.b⟩ (fun hHeld => rn ?_);clear hK K;refine rp 8 134 aG (h:=?_);refine rc 9 135 aG (h:=fun K hK => ?_);(try clear c0 c1 c2 c3 c4 c5);refine jQ Tryz.func63 (by kernel_rfl) rfl #[.pointer (some ⟨p,0,none⟩),val (nd x.f4 1) A1 d1,.int .i64 (wrap64 (yT x.f1 + 1))] (by rfl) rfl rfl (by (try simp only [List.map_toArray,List.map_cons,List.map_nil]);first|done|rfl) (PE.call E E.out (fun st => by rw [ow];exact atR.all qA.out st iO.out) (fun w8 E c0 c1 c2 c3 c4 c5 => ?_));refine ⟨_,rfl,?_⟩;refine hK.out _ _ ⟨E.out.cells.2.2.2.2.1,E.out.cells.2.1,dN.out.at E.out.st.b⟩ (fun hHeld => rn ?_);clear hK K;refine wu aG ?_;try go_wp2
 first|go_end0|(refine bodyPost_ret (results_none rfl _ _ _) rfl ?_)
 exact ⟨rfl,E.out.st,E.out.fr⟩
theorem lK.k11 {p : Nat} {w0 w : World} {F r : List Int} {x : ak} {A : Option Addr} {c : Nat} {n : Nat} (hs : gY x.f1) (hx : bJ x = true) (he : ∀ y ∈ x.f4,bJ y = true → jL n y) (hk : x.f0 = 11) (h : St true p w0 F (dX (n + 1) x ++ r) w) (hn : ND w0 x A c) : Calls Tryz.prog 90 #[.pointer (some ⟨p,0,none⟩),val x A c] w (gW true p w0 F r (.tuple #[]) w):=by
 obtain ⟨hl,hx0,hx1⟩:=ex_11 hx hk;have nR : (0 : Int) < (x.f4.length : Int):=by omega
 have nS : 0 < x.f4.length:=by omega
 have yV : (1 : Int) < (x.f4.length : Int):=by omega
 have yX : 1 < x.f4.length:=by omega
 obtain ⟨ad,rfl⟩:=aT hn.C (show 0 < x.f4.length by omega);obtain ⟨A0,d0,hn0,hk0⟩:=ng hn.C (show 0 < x.f4.length by omega);have gJ:=Am hn0;have dD:=Am hk0;obtain ⟨A1,d1,hn1,hk1⟩:=yx hn.C (show 1 < x.f4.length by omega);have iO:=Am hn1;have dN:=Am hk1;have b5:=Yf hk 5 rfl
 have b6:=Yf hk 6 rfl
 have b7:=Yf hk 7 rfl
 have b9:=Yf hk 9 rfl
 have b14:=Yf hk 14 rfl
 have b15:=Yf hk 15 rfl
 have b10:=Yf hk 10 rfl
 have b11:=Yt hk 11 rfl
 have b12:=Yf hk 12 rfl
 have b13:=Yf hk 13 rfl
 have z0 : (9223372036854775807 < 1 + x.f1.size) = False:=eq_false (by have:=hs;unfold gY at this;omega);have z1 : (9223372036854775807 < 1 + x.f1.size + 1) = False:=eq_false (by have:=hs;unfold gY at this;omega);have ow : wrap64 (yT x.f1 + 1) = yT x.f1 + 1:=by have:=vU x.f1;unfold wrap64;omega
 have jZ:=Am (he _ (aQ (show 0 < x.f4.length by omega)) hx0);have qA:=Am (he _ (aQ (show 1 < x.f4.length by omega)) hx1);clear he hx hx0 hx1;have jY:=Am hl;rw [Io hk] at h;unfold Ep at h;simp only [List.append_assoc] at h;have E:=PE.start h hn;clear h hn hl hn0 hk0 hn1 hk1 hs;have HKK:=Am hk;clear hk;go_enter Tryz.func90,Tryz.ntmps90
 go_wp2
 replace E:=Am (E.out.step (W1:=(w.alloc (.cells #[.int .i64 x.f0,.string x.f1,.int .u32 x.f2,.bool x.f3,.slice (some ad) x.f4.length c,.int .i64 x.f5] 25 (0,0))).drew) (Z6 (Below.refl _ _)));refine gy (n:=9) (S:=fun w' => w'.cell? ⟨w.heap.size,4,none⟩ = some (.slice (some ad) x.f4.length c) ∧ w'.cell? ⟨w.heap.size,1,none⟩ = some (.string x.f1) ∧ w'.cell? ad = some (.int .i64 (nd x.f4 0).f0) ∧ w'.cell? ⟨ad.block,ad.off + 1,none⟩ = some (.string (nd x.f4 0).f1) ∧ w'.cell? ⟨ad.block,ad.off + 2,none⟩ = some (.int .u32 (nd x.f4 0).f2) ∧ w'.cell? ⟨ad.block,ad.off + 3,none⟩ = some (.bool (nd x.f4 0).f3) ∧ w'.cell? ⟨ad.block,ad.off + 4,none⟩ = some (.slice A0 (nd x.f4 0).f4.length d0) ∧ w'.cell? ⟨ad.block,ad.off + 5,none⟩ = some (.int .i64 (nd x.f4 0).f5)) (ds:=[]) (Array.replicate 9 false) (by kernel_rfl) rfl rfl ⟨E.out.cells.2.2.2.2.1,E.out.cells.2.1,dD.out.at E.out.st.b⟩ (fun hHeld => ?_);refine eu (T:=iC .any (opsOf Tryz.f90 26)) (by kernel_rfl) (fun aG => ?_);generalize (w.alloc (.cells #[.int .i64 x.f0,.string x.f1,.int .u32 x.f2,.bool x.f3,.slice (some ad) x.f4.length c,.int .i64 x.f5] 25 (0,0))).drew = w7 at E hHeld ⊢;refine rp 0 111 aG (h:=?_);refine rp 1 112 aG (h:=?_);refine Nz 2 113 aG hHeld (h:=?_);refine rp 3 114 aG (h:=?_);refine Nz 4 115 aG hHeld (h:=?_);refine rp 5 116 aG (h:=?_);refine Nz 6 117 aG hHeld (h:=?_);refine rc 7 118 aG (h:=fun K hK => ?_);(try clear c0 c1 c2 c3 c4 c5);refine jQ Tryz.func107 (by kernel_rfl) rfl #[.string x.f1] (by rfl) rfl rfl (by (try simp only [List.map_toArray,List.map_cons,List.map_nil]);first|done|rfl) (PE.still E E.out (Lp.all x.f1 _) (fun w8 E c0 c1 c2 c3 c4 c5 => ?_));refine ⟨_,rfl,?_⟩;refine hK.out _ _ ⟨E.out.cells.2.2.2.2.1,E.out.cells.2.1,dD.out.at E.out.st.b⟩ (fun hHeld => rn ?_);clear hK K;refine rc 8 119 aG (h:=fun K hK => ?_);(try clear c0 c1 c2 c3 c4 c5);refine jQ Tryz.func63 (by kernel_rfl) rfl #[.pointer (some ⟨p,0,none⟩),val (nd x.f4 0) A0 d0,.int .i64 (yT x.f1)] (by rfl) rfl rfl (by (try simp only [List.map_toArray,List.map_cons,List.map_nil]);first|done|rfl) (PE.call E E.out (fun st => atR.all jZ.out st gJ.out) (fun w8 E c0 c1 c2 c3 c4 c5 => ?_));refine ⟨_,rfl,?_⟩;refine hK.out _ _ ⟨E.out.cells.2.2.2.2.1,E.out.cells.2.1,dD.out.at E.out.st.b⟩ (fun hHeld => rn ?_);clear hK K;refine wu aG ?_;go_wp2_with (first
  | (go_at_call 60;(try clear c0 c1 c2 c3 c4 c5);(with_reducible first|refine PE.dZ E ?_|refine PE.eG E ?_|refine PE.eH E ?_|refine PE.eF E ?_);intro w1 E c0 c1 c2 c3 c4 c5)
  | fail)
 replace E:=Am (E.out.step (W1:=w1.drew) (Z6 (Below.refl _ _)));refine gy (n:=10) (S:=fun w' => w'.cell? ⟨w.heap.size,4,none⟩ = some (.slice (some ad) x.f4.length c) ∧ w'.cell? ⟨w.heap.size,1,none⟩ = some (.string x.f1) ∧ w'.cell? ⟨ad.block,ad.off + 6,none⟩ = some (.int .i64 (nd x.f4 1).f0) ∧ w'.cell? ⟨ad.block,ad.off + 6 + 1,none⟩ = some (.string (nd x.f4 1).f1) ∧ w'.cell? ⟨ad.block,ad.off + 6 + 2,none⟩ = some (.int .u32 (nd x.f4 1).f2) ∧ w'.cell? ⟨ad.block,ad.off + 6 + 3,none⟩ = some (.bool (nd x.f4 1).f3) ∧ w'.cell? ⟨ad.block,ad.off + 6 + 4,none⟩ = some (.slice A1 (nd x.f4 1).f4.length d1) ∧ w'.cell? ⟨ad.block,ad.off + 6 + 5,none⟩ = some (.int .i64 (nd x.f4 1).f5)) (ds:=[]) (Array.replicate 10 false) (by kernel_rfl) rfl rfl ⟨E.out.cells.2.2.2.2.1,E.out.cells.2.1,dN.out.at E.out.st.b⟩ (fun hHeld => ?_);refine eu (T:=iC .any (opsOf Tryz.f90 28)) (by kernel_rfl) (fun aG => ?_);generalize w1.drew = w7 at E hHeld ⊢;refine rp 0 126 aG (h:=?_);refine rp 1 127 aG (h:=?_);refine Nz 2 128 aG hHeld (h:=?_);refine rp 3 129 aG (h:=?_);refine Nz 4 130 aG hHeld (h:=?_);refine rp 5 131 aG (h:=?_);refine Nz 6 132 aG hHeld (h:=?_);refine rc 7 133 aG (h:=fun K hK => ?_);(try clear c0 c1 c2 c3 c4 c5);refine jQ Tryz.func107 (by kernel_rfl) rfl #[.string x.f1] (by rfl) rfl rfl (by (try simp only [List.map_toArray,List.map_cons,List.map_nil]);first|done|rfl) (PE.still E E.out (Lp.all x.f1 _) (fun w8 E c0 c1 c2 c3 c4 c5 => ?_));refine ⟨_,rfl,?_⟩;refine hK.out _ _ ⟨E.out.cells.2.2.2.2.1,E.out.cells.2.1,dN.out.at E.out.st.b⟩ (fun hHeld => rn ?_);clear hK K;refine rp 8 134 aG (h:=?_);refine rc 9 135 aG (h:=fun K hK => ?_);(try clear c0 c1 c2 c3 c4 c5);refine jQ Tryz.func63 (by kernel_rfl) rfl #[.pointer (some ⟨p,0,none⟩),val (nd x.f4 1) A1 d1,.int .i64 (wrap64 (yT x.f1 + 1))] (by rfl) rfl rfl (by (try simp only [List.map_toArray,List.map_cons,List.map_nil]);first|done|rfl) (PE.call E E.out (fun st => by rw [ow];exact atR.all qA.out st iO.out) (fun w8 E c0 c1 c2 c3 c4 c5 => ?_));refine ⟨_,rfl,?_⟩;refine hK.out _ _ ⟨E.out.cells.2.2.2.2.1,E.out.cells.2.1,dN.out.at E.out.st.b⟩ (fun hHeld => rn ?_);clear hK K;refine wu aG ?_;try go_wp2
 first|go_end0|(refine bodyPost_ret (results_none rfl _ _ _) rfl ?_)
 exact ⟨rfl,E.out.st,E.out.fr⟩
theorem lK.k9b {p : Nat} {w0 w : World} {F r : List Int} {x : ak} {A : Option Addr} {c : Nat} {n : Nat} (hx : bJ x = true) (he : ∀ y ∈ x.f4,bJ y = true → jL n y) (h9 : (nd x.f4 0).f0 = 9) (hq : (nd x.f4 0).f1.toList = x.f1.toList) (hk : x.f0 = 9) (h : St true p w0 F (dX (n + 1) x ++ r) w) (hn : ND w0 x A c) : Calls Tryz.prog 90 #[.pointer (some ⟨p,0,none⟩),val x A c] w (gW true p w0 F r (.tuple #[]) w):=by
 obtain ⟨hl,hx0⟩:=ex_9 hx hk;have nR : (0 : Int) < (x.f4.length : Int):=by omega
 have nS : 0 < x.f4.length:=by omega
 obtain ⟨ad,rfl⟩:=aT hn.C (show 0 < x.f4.length by omega);obtain ⟨A0,d0,hn0,hk0⟩:=ng hn.C (show 0 < x.f4.length by omega);have gJ:=Am hn0;have dD:=Am hk0;have b5:=Yf hk 5 rfl
 have b6:=Yf hk 6 rfl
 have b7:=Yf hk 7 rfl
 have b9:=Yt hk 9 rfl
 have b14:=Yf hk 14 rfl
 have b15:=Yf hk 15 rfl
 have b10:=Yf hk 10 rfl
 have b11:=Yf hk 11 rfl
 have b12:=Yf hk 12 rfl
 have b13:=Yf hk 13 rfl
 have jZ:=Am (he _ (aQ (show 0 < x.f4.length by omega)) hx0);clear he hx hx0;rw [AL hk] at h;unfold ex9 at h;rw [if_pos ⟨h9,hq⟩] at h;simp only [List.append_assoc,List.nil_append] at h;have b9k : ((nd x.f4 0).f0 == 9) = true:=by rw [h9];rfl
 have bqk : ((nd x.f4 0).f1.toList == x.f1.toList) = true:=beq_iff_eq.2 hq;have jY:=Am hl;have E:=PE.start h hn;clear h hn hl hn0 hk0 h9 hq;have HKK:=Am hk;clear hk;go_enter Tryz.func90,Tryz.ntmps90
 go_wp2_with (first
  | (go_at_call 60;(try clear c0 c1 c2 c3 c4 c5);(with_reducible first|refine PE.dZ E ?_|refine PE.eG E ?_|refine PE.eH E ?_|refine PE.eF E ?_);intro w1 E c0 c1 c2 c3 c4 c5)
  | fail)
 replace E:=Am (E.out.step (W1:=w1.drew) (Z6 (Below.refl _ _)));refine gy (n:=16) (S:=fun w' => w'.cell? ⟨w.heap.size,4,none⟩ = some (.slice (some ad) x.f4.length c) ∧ w'.cell? ad = some (.int .i64 (nd x.f4 0).f0) ∧ w'.cell? ⟨ad.block,ad.off + 1,none⟩ = some (.string (nd x.f4 0).f1) ∧ w'.cell? ⟨w.heap.size,1,none⟩ = some (.string x.f1)) (ds:=[]) (Array.replicate 16 false) (by kernel_rfl) rfl rfl ⟨E.out.cells.2.2.2.2.1,(dD.out.at E.out.st.b).1,(dD.out.at E.out.st.b).2.1,E.out.cells.2.1⟩ (fun hHeld => ?_);refine eu (T:=iC .any (opsOf Tryz.f90 16)) (by kernel_rfl) (fun aG => ?_);generalize w1.drew = w7 at E hHeld ⊢;refine rp 0 59 aG (h:=?_);refine uJ 1 60 aG hHeld (h:=?_);refine rp 2 61 aG (h:=?_);refine rp 3 62 aG (h:=?_);refine uJ 4 63 aG hHeld (h:=?_);refine rp 5 64 aG (h:=?_);refine rp 6 65 aG (h:=?_);refine rp 7 66 aG (h:=?_);refine uJ 8 67 aG hHeld (h:=?_);refine rp 9 68 aG (h:=?_);refine rp 10 69 aG (h:=?_);refine uJ 11 70 aG hHeld (h:=?_);refine rp 12 71 aG (h:=?_);refine uJ 13 72 aG hHeld (h:=?_);refine rp (v:=.bool ((nd x.f4 0).f1.toList == x.f1.toList)) 14 73 aG (hy:=by intro w';go_simp;first|done|rfl|(simp;done)) (h:=?_);refine rp 15 74 aG (h:=?_);refine wu aG ?_;(try clear c0 c1 c2 c3 c4 c5);obtain ⟨c0,c1,c2,c3,c4,c5⟩:=E.out.cells;obtain ⟨bP,bQ,bT,bU,bV,bW⟩:=dD.out.at E.out.st.b;go_wp2_with (first
  | (go_at_call 60;(try clear c0 c1 c2 c3 c4 c5);(with_reducible first|refine PE.dZ E ?_|refine PE.eG E ?_|refine PE.eH E ?_|refine PE.eF E ?_);intro w1 E c0 c1 c2 c3 c4 c5;(try ((try clear bP bQ bT bU bV bW);obtain ⟨bP,bQ,bT,bU,bV,bW⟩:=dD.out.at E.out.st.b)))
  | (go_at_call 63;(try clear c0 c1 c2 c3 c4 c5);(with_reducible refine PE.call E E.out (fun st => atR.all jZ.out st gJ.out) (fun w1 E c0 c1 c2 c3 c4 c5 => ?_));(try ((try clear bP bQ bT bU bV bW);obtain ⟨bP,bQ,bT,bU,bV,bW⟩:=dD.out.at E.out.st.b)))
  | fail)
 first|go_end0|(refine bodyPost_ret (results_none rfl _ _ _) rfl ?_)
 exact ⟨rfl,E.out.st,E.out.fr⟩
theorem lK.k9c {p : Nat} {w0 w : World} {F r : List Int} {x : ak} {A : Option Addr} {c : Nat} {n : Nat} (hx : bJ x = true) (he : ∀ y ∈ x.f4,bJ y = true → jL n y) (h9 : (nd x.f4 0).f0 = 9) (hq : (nd x.f4 0).f1.toList ≠ x.f1.toList) (hk : x.f0 = 9) (h : St true p w0 F (dX (n + 1) x ++ r) w) (hn : ND w0 x A c) : Calls Tryz.prog 90 #[.pointer (some ⟨p,0,none⟩),val x A c] w (gW true p w0 F r (.tuple #[]) w):=by
 obtain ⟨hl,hx0⟩:=ex_9 hx hk;have nR : (0 : Int) < (x.f4.length : Int):=by omega
 have nS : 0 < x.f4.length:=by omega
 obtain ⟨ad,rfl⟩:=aT hn.C (show 0 < x.f4.length by omega);obtain ⟨A0,d0,hn0,hk0⟩:=ng hn.C (show 0 < x.f4.length by omega);have gJ:=Am hn0;have dD:=Am hk0;have b5:=Yf hk 5 rfl
 have b6:=Yf hk 6 rfl
 have b7:=Yf hk 7 rfl
 have b9:=Yt hk 9 rfl
 have b14:=Yf hk 14 rfl
 have b15:=Yf hk 15 rfl
 have b10:=Yf hk 10 rfl
 have b11:=Yf hk 11 rfl
 have b12:=Yf hk 12 rfl
 have b13:=Yf hk 13 rfl
 have jZ:=Am (he _ (aQ (show 0 < x.f4.length by omega)) hx0);clear he hx hx0;rw [AL hk] at h;unfold ex9 at h;rw [if_neg (fun h => hq h.2)] at h;simp only [List.append_assoc,List.nil_append] at h;have b9k : ((nd x.f4 0).f0 == 9) = true:=by rw [h9];rfl
 have bqk : ((nd x.f4 0).f1.toList == x.f1.toList) = false:=beq_eq_false_iff_ne.2 hq;have jY:=Am hl;have E:=PE.start h hn;clear h hn hl hn0 hk0 h9 hq;have HKK:=Am hk;clear hk;go_enter Tryz.func90,Tryz.ntmps90
 go_wp2_with (first
  | (go_at_call 60;(try clear c0 c1 c2 c3 c4 c5);(with_reducible first|refine PE.dZ E ?_|refine PE.eG E ?_|refine PE.eH E ?_|refine PE.eF E ?_);intro w1 E c0 c1 c2 c3 c4 c5)
  | fail)
 replace E:=Am (E.out.step (W1:=w1.drew) (Z6 (Below.refl _ _)));refine gy (n:=16) (S:=fun w' => w'.cell? ⟨w.heap.size,4,none⟩ = some (.slice (some ad) x.f4.length c) ∧ w'.cell? ad = some (.int .i64 (nd x.f4 0).f0) ∧ w'.cell? ⟨ad.block,ad.off + 1,none⟩ = some (.string (nd x.f4 0).f1) ∧ w'.cell? ⟨w.heap.size,1,none⟩ = some (.string x.f1)) (ds:=[]) (Array.replicate 16 false) (by kernel_rfl) rfl rfl ⟨E.out.cells.2.2.2.2.1,(dD.out.at E.out.st.b).1,(dD.out.at E.out.st.b).2.1,E.out.cells.2.1⟩ (fun hHeld => ?_);refine eu (T:=iC .any (opsOf Tryz.f90 16)) (by kernel_rfl) (fun aG => ?_);generalize w1.drew = w7 at E hHeld ⊢;refine rp 0 59 aG (h:=?_);refine uJ 1 60 aG hHeld (h:=?_);refine rp 2 61 aG (h:=?_);refine rp 3 62 aG (h:=?_);refine uJ 4 63 aG hHeld (h:=?_);refine rp 5 64 aG (h:=?_);refine rp 6 65 aG (h:=?_);refine rp 7 66 aG (h:=?_);refine uJ 8 67 aG hHeld (h:=?_);refine rp 9 68 aG (h:=?_);refine rp 10 69 aG (h:=?_);refine uJ 11 70 aG hHeld (h:=?_);refine rp 12 71 aG (h:=?_);refine uJ 13 72 aG hHeld (h:=?_);refine rp (v:=.bool ((nd x.f4 0).f1.toList == x.f1.toList)) 14 73 aG (hy:=by intro w';go_simp;first|done|rfl|(simp;done)) (h:=?_);refine rp 15 74 aG (h:=?_);refine wu aG ?_;(try clear c0 c1 c2 c3 c4 c5);obtain ⟨c0,c1,c2,c3,c4,c5⟩:=E.out.cells;obtain ⟨bP,bQ,bT,bU,bV,bW⟩:=dD.out.at E.out.st.b;go_wp2_with (first
  | (go_at_call 60;(try clear c0 c1 c2 c3 c4 c5);(with_reducible first|refine PE.dZ E ?_|refine PE.eG E ?_|refine PE.eH E ?_|refine PE.eF E ?_);intro w1 E c0 c1 c2 c3 c4 c5;(try ((try clear bP bQ bT bU bV bW);obtain ⟨bP,bQ,bT,bU,bV,bW⟩:=dD.out.at E.out.st.b)))
  | (go_at_call 63;(try clear c0 c1 c2 c3 c4 c5);(with_reducible refine PE.call E E.out (fun st => atR.all jZ.out st gJ.out) (fun w1 E c0 c1 c2 c3 c4 c5 => ?_));(try ((try clear bP bQ bT bU bV bW);obtain ⟨bP,bQ,bT,bU,bV,bW⟩:=dD.out.at E.out.st.b)))
  | fail)
 first|go_end0|(refine bodyPost_ret (results_none rfl _ _ _) rfl ?_)
 exact ⟨rfl,E.out.st,E.out.fr⟩
theorem lK.k9a {p : Nat} {w0 w : World} {F r : List Int} {x : ak} {A : Option Addr} {c : Nat} {n : Nat} (hx : bJ x = true) (he : ∀ y ∈ x.f4,bJ y = true → jL n y) (h9 : (nd x.f4 0).f0 ≠ 9) (hk : x.f0 = 9) (h : St true p w0 F (dX (n + 1) x ++ r) w) (hn : ND w0 x A c) : Calls Tryz.prog 90 #[.pointer (some ⟨p,0,none⟩),val x A c] w (gW true p w0 F r (.tuple #[]) w):=by
 obtain ⟨hl,hx0⟩:=ex_9 hx hk;have nR : (0 : Int) < (x.f4.length : Int):=by omega
 have nS : 0 < x.f4.length:=by omega
 obtain ⟨ad,rfl⟩:=aT hn.C (show 0 < x.f4.length by omega);obtain ⟨A0,d0,hn0,hk0⟩:=ng hn.C (show 0 < x.f4.length by omega);have gJ:=Am hn0;have dD:=Am hk0;have b5:=Yf hk 5 rfl
 have b6:=Yf hk 6 rfl
 have b7:=Yf hk 7 rfl
 have b9:=Yt hk 9 rfl
 have b14:=Yf hk 14 rfl
 have b15:=Yf hk 15 rfl
 have b10:=Yf hk 10 rfl
 have b11:=Yf hk 11 rfl
 have b12:=Yf hk 12 rfl
 have b13:=Yf hk 13 rfl
 have jZ:=Am (he _ (aQ (show 0 < x.f4.length by omega)) hx0);clear he hx hx0;rw [AL hk] at h;unfold ex9 at h;rw [if_neg (fun h => h9 h.1)] at h;simp only [List.append_assoc,List.nil_append] at h;have b9k : ((nd x.f4 0).f0 == 9) = false:=beq_eq_false_iff_ne.2 h9;have jY:=Am hl;have E:=PE.start h hn;clear h hn hl hn0 hk0 h9;have HKK:=Am hk;clear hk;go_enter Tryz.func90,Tryz.ntmps90
 go_wp2_with (first
  | (go_at_call 60;(try clear c0 c1 c2 c3 c4 c5);(with_reducible first|refine PE.dZ E ?_|refine PE.eG E ?_|refine PE.eH E ?_|refine PE.eF E ?_);intro w1 E c0 c1 c2 c3 c4 c5)
  | fail)
 replace E:=Am (E.out.step (W1:=w1.drew) (Z6 (Below.refl _ _)));refine gy (n:=16) (S:=fun w' => w'.cell? ⟨w.heap.size,4,none⟩ = some (.slice (some ad) x.f4.length c) ∧ w'.cell? ad = some (.int .i64 (nd x.f4 0).f0) ∧ w'.cell? ⟨ad.block,ad.off + 1,none⟩ = some (.string (nd x.f4 0).f1) ∧ w'.cell? ⟨w.heap.size,1,none⟩ = some (.string x.f1)) (ds:=[]) (Array.replicate 16 false) (by kernel_rfl) rfl rfl ⟨E.out.cells.2.2.2.2.1,(dD.out.at E.out.st.b).1,(dD.out.at E.out.st.b).2.1,E.out.cells.2.1⟩ (fun hHeld => ?_);refine eu (T:=iC .any (opsOf Tryz.f90 16)) (by kernel_rfl) (fun aG => ?_);generalize w1.drew = w7 at E hHeld ⊢;refine rp 0 59 aG (h:=?_);refine uJ 1 60 aG hHeld (h:=?_);refine rp 2 61 aG (h:=?_);refine rp 3 62 aG (h:=?_);refine uJ 4 63 aG hHeld (h:=?_);refine rp 5 64 aG (h:=?_);refine rp 6 65 aG (h:=?_);refine ro 7 66 aG (h:=?_);refine ro 8 67 aG (h:=?_);refine ro 9 68 aG (h:=?_);refine ro 10 69 aG (h:=?_);refine ro 11 70 aG (h:=?_);refine ro 12 71 aG (h:=?_);refine ro 13 72 aG (h:=?_);refine ro 14 73 aG (h:=?_);refine rp 15 74 aG (h:=?_);refine wu aG ?_;(try clear c0 c1 c2 c3 c4 c5);obtain ⟨c0,c1,c2,c3,c4,c5⟩:=E.out.cells;obtain ⟨bP,bQ,bT,bU,bV,bW⟩:=dD.out.at E.out.st.b;go_wp2_with (first
  | (go_at_call 60;(try clear c0 c1 c2 c3 c4 c5);(with_reducible first|refine PE.dZ E ?_|refine PE.eG E ?_|refine PE.eH E ?_|refine PE.eF E ?_);intro w1 E c0 c1 c2 c3 c4 c5;(try ((try clear bP bQ bT bU bV bW);obtain ⟨bP,bQ,bT,bU,bV,bW⟩:=dD.out.at E.out.st.b)))
  | (go_at_call 63;(try clear c0 c1 c2 c3 c4 c5);(with_reducible refine PE.call E E.out (fun st => atR.all jZ.out st gJ.out) (fun w1 E c0 c1 c2 c3 c4 c5 => ?_));(try ((try clear bP bQ bT bU bV bW);obtain ⟨bP,bQ,bT,bU,bV,bW⟩:=dD.out.at E.out.st.b)))
  | fail)
 first|go_end0|(refine bodyPost_ret (results_none rfl _ _ _) rfl ?_)
 exact ⟨rfl,E.out.st,E.out.fr⟩
theorem wu32' {v : Int} (h : 0 ≤ v ∧ v < 256) : IntKind.u32.wrap v = v:=by
 first|(rw [IntKind.wrap_u32];omega)|(simp [IntKind.wrap];omega)
theorem td16 {v : Int} (h : 0 ≤ v ∧ v < 256) : IntKind.u32.wrap (v.tdiv 16) = v / 16:=by
 rw [Int.tdiv_eq_ediv_of_nonneg h.1];exact wu32' (by omega)
theorem mW.k2 {p : Nat} {w0 w : World} {F r : List Int} {x : ak} {A : Option Addr} {c : Nat} {n : Nat} (h2 : 0 ≤ x.f2 ∧ x.f2 < 256) (hk : x.f0 = 2) (h : St true p w0 F (dX (n + 1) x ++ r) w) (hn : ND w0 x A c) : Calls Tryz.prog 109 #[.pointer (some ⟨p,0,none⟩),val x A c] w (gW true p w0 F r (.tuple #[]) w):=by
 have b1:=Yf hk 1 rfl
 have b2:=Yt hk 2 rfl
 have b3:=Yf hk 3 rfl
 have b4:=Yf hk 4 rfl
 have b8:=Yf hk 8 rfl
 rw [KX hk] at h;unfold ex2 at h;simp only [List.append_assoc] at h;have H2:=Am h2;have E:=PE.start h hn;clear h hn h2;have HKK:=Am hk;clear hk;go_enter Tryz.func109,Tryz.ntmps109
 go_wp2
 replace E:=Am (E.out.step (W1:=(w.alloc (.cells #[.int .i64 x.f0,.string x.f1,.int .u32 x.f2,.bool x.f3,.slice A x.f4.length c,.int .i64 x.f5] 25 (0,0))).drew) (Z6 (Below.refl _ _)));refine gy (n:=21) (S:=fun w' => w'.cell? ⟨w.heap.size,2,none⟩ = some (.int .u32 x.f2) ∧ True ∧ True) (ds:=[]) (Array.replicate 21 false) (by kernel_rfl) rfl rfl ⟨E.out.cells.2.2.1,trivial,trivial⟩ (fun hHeld => ?_);refine eu (T:=iC .any (opsOf Tryz.f109 7)) (by kernel_rfl) (fun aG => ?_);generalize (w.alloc (.cells #[.int .i64 x.f0,.string x.f1,.int .u32 x.f2,.bool x.f3,.slice A x.f4.length c,.int .i64 x.f5] 25 (0,0))).drew = w7 at E hHeld ⊢;refine rp 0 19 aG (h:=?_);refine rp 1 20 aG (h:=?_);refine rt 2 21 aG hHeld (h:=?_);refine rp (v:=.int .u32 (x.f2 / 16)) 3 22 aG (hy:=by intro w';go_simp;exact td16 H2.out) (h:=?_);refine rp 4 23 aG (h:=?_);refine rt 5 24 aG hHeld (h:=?_);refine rp (v:=.int .u32 (x.f2 / 16)) 6 25 aG (hy:=by intro w';go_simp;exact td16 H2.out) (h:=?_);refine rp (v:=.int .u32 (x.f2 / 16 + 1)) 7 26 aG (hy:=by intro w';go_simp;exact wu32 (by have:=H2.out;omega)) (h:=?_);refine rp (v:=.string (hexS.extract (x.f2 / 16).toNat ((x.f2 / 16).toNat + 1))) 8 27 aG (hy:=by intro w';go_simp;rw [if_pos (by have:=H2.out;omega),if_pos (by have:=H2.out;omega),show (x.f2 / 16 + 1).toNat = (x.f2 / 16).toNat + 1 from by have:=H2.out;omega]) (h:=?_);refine rp (v:=.string ((⟨#[39,92,120]⟩ : ByteArray) ++ (hexS.extract (x.f2 / 16).toNat ((x.f2 / 16).toNat + 1)))) 9 28 aG (hy:=by intro w';go_simp;have:=H2.out;omega) (h:=?_);refine rp 10 29 aG (h:=?_);refine rt 11 30 aG hHeld (h:=?_);refine rp (v:=.int .u32 (x.f2 % 16)) 12 31 aG (hy:=by intro w';go_simp;exact Int.tmod_eq_emod_of_nonneg H2.out.1) (h:=?_);refine rp 13 32 aG (h:=?_);refine rt 14 33 aG hHeld (h:=?_);refine rp (v:=.int .u32 (x.f2 % 16)) 15 34 aG (hy:=by intro w';go_simp;exact Int.tmod_eq_emod_of_nonneg H2.out.1) (h:=?_);refine rp (v:=.int .u32 (x.f2 % 16 + 1)) 16 35 aG (hy:=by intro w';go_simp;exact wu32 (by have:=H2.out;omega)) (h:=?_);refine rp (v:=.string (hexS.extract (x.f2 % 16).toNat ((x.f2 % 16).toNat + 1))) 17 36 aG (hy:=by intro w';go_simp;rw [if_pos (by have:=H2.out;omega),if_pos (by have:=H2.out;omega),show (x.f2 % 16 + 1).toNat = (x.f2 % 16).toNat + 1 from by have:=H2.out;omega]) (h:=?_);refine rp (v:=.string ((⟨#[39,92,120]⟩ : ByteArray) ++ (hexS.extract (x.f2 / 16).toNat ((x.f2 / 16).toNat + 1)) ++ (hexS.extract (x.f2 % 16).toNat ((x.f2 % 16).toNat + 1)))) 18 37 aG (hy:=by intro w';go_simp;have:=H2.out;omega) (h:=?_);refine rp (v:=.string ((⟨#[39,92,120]⟩ : ByteArray) ++ (hexS.extract (x.f2 / 16).toNat ((x.f2 / 16).toNat + 1)) ++ (hexS.extract (x.f2 % 16).toNat ((x.f2 % 16).toNat + 1)) ++ ⟨#[39]⟩)) 19 38 aG (hy:=by intro w';go_simp;have:=H2.out;omega) (h:=?_);refine rc 20 39 aG (h:=fun K hK => ?_);(try clear c0 c1 c2 c3 c4 c5);refine jQ Tryz.func60 (by kernel_rfl) rfl #[.pointer (some ⟨p,0,none⟩),.string ((⟨#[39,92,120]⟩ : ByteArray) ++ (hexS.extract (x.f2 / 16).toNat ((x.f2 / 16).toNat + 1)) ++ (hexS.extract (x.f2 % 16).toNat ((x.f2 % 16).toNat + 1)) ++ ⟨#[39]⟩)] (by rfl) rfl rfl (by (try simp only [List.map_toArray,List.map_cons,List.map_nil]);first|done|rfl) (PE.eF E (fun w8 E c0 c1 c2 c3 c4 c5 => ?_));refine ⟨_,rfl,?_⟩;refine hK.out _ _ ⟨E.out.cells.2.2.1,trivial,trivial⟩ (fun hHeld => rn ?_);clear hK K;refine wu aG ?_;try go_wp2
 first|go_end0|(refine bodyPost_ret (results_none rfl _ _ _) rfl ?_)
 exact ⟨rfl,E.out.st,E.out.fr⟩
structure KnR (n : Nat) : Prop where
 e : ∀ y : ak,SizeOf.sizeOf y < n → bJ y = true → Tm y → jL n y
theorem exR.all {n : Nat} {x : ak} (K : ∀ y ∈ x.f4,bJ y = true → Tm y → jL n y) (hx : bJ x = true) (hm : Tm x) : jL (n + 1) x:=by
 intro p w0 w F r A c h hn;have he : ∀ y ∈ x.f4,bJ y = true → jL n y:=fun y hy h => K y hy h (hm.kid hy)
 obtain ⟨h1,h15,_,_,_⟩:=dw hx;have : x.f0 = 1 ∨ x.f0 = 2 ∨ x.f0 = 3 ∨ x.f0 = 4 ∨ x.f0 = 5 ∨ x.f0 = 6 ∨ x.f0 = 7 ∨ x.f0 = 8 ∨ x.f0 = 9 ∨ x.f0 = 10 ∨ x.f0 = 11 ∨ x.f0 = 12 ∨ x.f0 = 13 ∨ x.f0 = 14 ∨ x.f0 = 15:=by omega
 rcases this with e|e|e|e|e|e|e|e|e|e|e|e|e|e|e
 · refine lK.leaf (by omega) (fun w1 st => ?_) h hn;cases h3 : x.f3 with
   | true => exact mW.k1t hm.num h3 e st hn
   | false => exact mW.k1f hm.num h3 e st hn
 · exact lK.leaf (by omega) (fun w1 st => mW.k2 ⟨hm.num.1,ex_2 hx e⟩ e st hn) h hn
 · exact lK.leaf (by omega) (fun w1 st => mW.k3 hm.str e st hn) h hn
 · exact lK.leaf (by omega) (fun w1 st => mW.k4 e st hn) h hn
 · exact lK.k5 hx he e h hn
 · exact lK.k6 hm.str hx he e h hn
 · exact lK.k7 hm.str hx he e h hn
 · exact lK.leaf (by omega) (fun w1 st => mW.k8 hm.str (fun y hy => he y hy (ex_8 hx e y hy)) e st hn) h hn
 · by_cases h9 : (nd x.f4 0).f0 = 9
   · by_cases hq : (nd x.f4 0).f1.toList = x.f1.toList
     · exact lK.k9b hx he h9 hq e h hn
     · exact lK.k9c hx he h9 hq e h hn
   · exact lK.k9a hx he h9 e h hn
 · exact lK.k10 hm.str hx he e h hn
 · exact lK.k11 hm.str hx he e h hn
 · exact lK.k12 hx he e h hn
 · exact lK.k13 hm.str hx he e h hn
 · exact lK.k14 (hm.kid (aQ (by have:=(ex_14 hx e).1;omega))).str hx he e h hn
 · obtain ⟨hl,hc⟩:=AP hx e;have hme : nd x.f4 0 ∈ x.f4:=aQ (by omega);rw [yU e] at h;unfold Gy at h;by_cases a : (nd x.f4 0).f0 = 16
   · rw [if_pos a] at h;exact lK.k15 (n:=n) e hl (fun A0 d0 w1 h1 st => GK.a (n:=n) (hm.kid hme).str a st h1) h hn
   · rw [if_neg a] at h;have hk:=he _ hme (hc.resolve_left a);by_cases b : (nd x.f4 0).f0 = 14
     · rw [if_pos b] at h;exact lK.k15 (n:=n) e hl (fun A0 d0 w1 h1 st => GK.b hk b st h1) h hn
     · rw [if_neg b] at h;exact lK.k15 (n:=n) e hl (fun A0 d0 w1 h1 st => GK.c hk a b st h1) h hn
theorem knE : ∀ n : Nat,KnR n
 | 0 => ⟨fun _ h => absurd h (Nat.not_lt_zero _)⟩
 | n + 1 => ⟨fun y h hx hm => exR.all (fun z hz hx hm => (knE n).e z (Nat.lt_of_lt_of_le (dI hz) (Nat.le_of_lt_succ h)) hx hm) hx hm⟩
theorem sO.F0 {p : Nat} {w0 w : World} {F r : List Int} {f0 : Int} {f1 : ByteArray} {f2 : Int} {l : List ak} {q : Int} {A : Option Addr} {c : Nat} {n : Nat} (hl : l.length = 0) (h : St true p w0 F (ku (dX n) ⟨f0,f1,f2,false,l,q⟩ ++ r) w) (hn : ND w0 ⟨f0,f1,f2,false,l,q⟩ A c) : Calls Tryz.prog 61 #[.pointer (some ⟨p,0,none⟩),val ⟨f0,f1,f2,false,l,q⟩ A c] w (gW true p w0 F r (.tuple #[]) w):=by
 simp only [ku,qU,sK,Bool.false_eq_true,if_false,if_true,List.length_drop,iP,Nat.zero_add,List.append_assoc,List.nil_append,List.append_nil,hl] at h;have e0 : ((l.length : Int) == 0) = true:=by rw [hl];rfl
 have jY:=Am hl;clear hl;have E:=PE.start h hn;clear h hn;go_enter Tryz.func61,Tryz.ntmps61
 go_wp2_with (first
  | (go_at_call 60;(try clear c0 c1 c2 c3 c4 c5);(with_reducible first|refine PE.dZ E ?_|refine PE.eG E ?_|refine PE.eH E ?_|refine PE.eF E ?_);intro w1 E c0 c1 c2 c3 c4 c5)
  | fail)
 all_goals
  first|go_end0|go_ret|(refine bodyPost_ret (results_none rfl _ _ _) rfl ?_)
  exact ⟨rfl,E.out.st,E.out.fr⟩
theorem sO.F1 {p : Nat} {w0 w : World} {F r : List Int} {f0 : Int} {f1 : ByteArray} {f2 : Int} {l : List ak} {q : Int} {A : Option Addr} {c : Nat} {n : Nat} (hl : l.length = 1) (he : ∀ y ∈ l,bJ y = true → jL n y) (hx0 : bJ (nd l 0) = true) (h : St true p w0 F (ku (dX n) ⟨f0,f1,f2,false,l,q⟩ ++ r) w) (hn : ND w0 ⟨f0,f1,f2,false,l,q⟩ A c) : Calls Tryz.prog 61 #[.pointer (some ⟨p,0,none⟩),val ⟨f0,f1,f2,false,l,q⟩ A c] w (gW true p w0 F r (.tuple #[]) w):=by
 simp only [ku,qU,sK,Bool.false_eq_true,if_false,if_true,List.length_drop,iP,Nat.zero_add,List.append_assoc,List.nil_append,List.append_nil,eq_false (show ¬ l.length = 0 by omega),eq_false (show ¬ (nd l 0).f0 = 44 by have:=dw hx0;omega)] at h;obtain ⟨ad,rfl⟩:=aT hn.C (show 0 < l.length by omega);obtain ⟨A0,d0,hn0,hk0⟩:=ng hn.C (show 0 < l.length by omega);have gJ:=Am hn0;have dD:=Am hk0;have e0 : ((l.length : Int) == 0) = false:=by rw [hl];rfl
 have MG : ((nd l 0).f0 == 44) = false:=beq_eq_false_iff_ne.2 (by have:=dw hx0;omega);have b44n : ((nd l 0).f0 != 44) = true:=bne_iff_ne.2 (by have:=dw hx0;omega);have nR : (0 : Int) < (l.length : Int):=by omega
 have nS : 0 < l.length:=by omega
 have jZ:=Am (he _ (aQ (show 0 < l.length by omega)) hx0);have jY:=Am hl;clear hl he hx0;have E:=PE.start h hn;clear h hn;obtain ⟨bP,bQ,bT,bU,bV,bW⟩:=dD.out.at E.out.st.b;clear hn0 hk0;go_enter Tryz.func61,Tryz.ntmps61
 go_wp2_with (first
  | (go_at_call 60;(try clear c0 c1 c2 c3 c4 c5);(with_reducible first|refine PE.dZ E ?_|refine PE.eG E ?_|refine PE.eH E ?_|refine PE.eF E ?_);intro w1 E c0 c1 c2 c3 c4 c5;(try ((try clear bP bQ bT bU bV bW);obtain ⟨bP,bQ,bT,bU,bV,bW⟩:=dD.out.at E.out.st.b)))
  | (go_at_call 63;(try clear c0 c1 c2 c3 c4 c5);(with_reducible refine PE.call E E.out (fun st => atR.all jZ.out st gJ.out) (fun w1 E c0 c1 c2 c3 c4 c5 => ?_));(try ((try clear bP bQ bT bU bV bW);obtain ⟨bP,bQ,bT,bU,bV,bW⟩:=dD.out.at E.out.st.b)))
  | fail)
 all_goals
  first|go_end0|go_ret|(refine bodyPost_ret (results_none rfl _ _ _) rfl ?_)
  exact ⟨rfl,E.out.st,E.out.fr⟩
theorem sO.TN0 {p : Nat} {w0 w : World} {F r : List Int} {f0 : Int} {f1 : ByteArray} {f2 : Int} {l : List ak} {q : Int} {A : Option Addr} {c : Nat} {n : Nat} (hl : l.length = 1) (he : ∀ y ∈ l,bJ y = true → jL n y) (hx0 : (nd l 0).f0 = 56) (h : St true p w0 F (ku (dX n) ⟨f0,f1,f2,true,l,q⟩ ++ r) w) (hn : ND w0 ⟨f0,f1,f2,true,l,q⟩ A c) : Calls Tryz.prog 61 #[.pointer (some ⟨p,0,none⟩),val ⟨f0,f1,f2,true,l,q⟩ A c] w (gW true p w0 F r (.tuple #[]) w):=by
 simp only [ku,qU,sK,Bool.false_eq_true,if_false,if_true,List.length_drop,iP,Nat.zero_add,List.append_assoc,List.nil_append,List.append_nil,eq_true (show l.length - 1 = 0 by omega),eq_true hx0] at h;obtain ⟨ad,rfl⟩:=aT hn.C (show 0 < l.length by omega);obtain ⟨A0,d0,hn0,hk0⟩:=ng hn.C (show 0 < l.length by omega);have gJ:=Am hn0;have dD:=Am hk0;have e1 : (((l.length - 1 : Nat) : Int) == 0) = true:=by rw [hl];rfl
 have nR : (0 : Int) < (l.length : Int):=by omega
 have nS : 0 < l.length:=by omega
 have oZ : ((nd l 0).f0 != 56) = false:=by rw [bne,hx0];rfl
 have jY:=Am hl;clear hl he hx0;have E:=PE.start h hn;clear h hn;obtain ⟨bP,bQ,bT,bU,bV,bW⟩:=dD.out.at E.out.st.b;clear hn0 hk0;go_enter Tryz.func61,Tryz.ntmps61
 go_wp2_with (first
  | (go_at_call 60;(try clear c0 c1 c2 c3 c4 c5);(with_reducible first|refine PE.dZ E ?_|refine PE.eG E ?_|refine PE.eH E ?_|refine PE.eF E ?_);intro w1 E c0 c1 c2 c3 c4 c5;(try ((try clear bP bQ bT bU bV bW);obtain ⟨bP,bQ,bT,bU,bV,bW⟩:=dD.out.at E.out.st.b)))
  | fail)
 all_goals
  first|go_end0|go_ret|(refine bodyPost_ret (results_none rfl _ _ _) rfl ?_)
  exact ⟨rfl,E.out.st,E.out.fr⟩
theorem sO.TNL {p : Nat} {w0 w : World} {F r : List Int} {f0 : Int} {f1 : ByteArray} {f2 : Int} {l : List ak} {q : Int} {A : Option Addr} {c : Nat} {n : Nat} (hl : l.length = 2) (he : ∀ y ∈ l,bJ y = true → jL n y) (hx0 : (nd l 0).f0 = 56) (tV : (nd l 1).f0 = 44) (he1 : ∀ y ∈ (nd l 1).f4,jL n y) (h : St true p w0 F (ku (dX n) ⟨f0,f1,f2,true,l,q⟩ ++ r) w) (hn : ND w0 ⟨f0,f1,f2,true,l,q⟩ A c) : Calls Tryz.prog 61 #[.pointer (some ⟨p,0,none⟩),val ⟨f0,f1,f2,true,l,q⟩ A c] w (gW true p w0 F r (.tuple #[]) w):=by
 simp only [ku,qU,sK,Bool.false_eq_true,if_false,if_true,List.length_drop,iP,Nat.zero_add,List.append_assoc,List.nil_append,List.append_nil,eq_false (show ¬ l.length - 1 = 0 by omega),eq_true hx0,eq_true tV] at h;obtain ⟨ad,rfl⟩:=aT hn.C (show 0 < l.length by omega);obtain ⟨A0,d0,hn0,hk0⟩:=ng hn.C (show 0 < l.length by omega);have gJ:=Am hn0;have dD:=Am hk0;obtain ⟨A1,d1,hn1,hk1⟩:=yx hn.C (show 1 < l.length by omega);have iO:=Am hn1;have dN:=Am hk1;obtain ⟨c2,rfl⟩ : ∃ k,c = k + 2:=⟨c - 2,by have:=hn.le;dsimp only at this;omega⟩
 have e1 : (((l.length - 1 : Nat) : Int) == 0) = false:=by rw [hl];rfl
 have nR : (0 : Int) < (l.length : Int):=by omega
 have nS : 0 < l.length:=by omega
 have yV : (1 : Int) < (l.length : Int):=by omega
 have yX : 1 < l.length:=by omega
 have oZ : ((nd l 0).f0 != 56) = false:=by rw [bne,hx0];rfl
 have MG : ((nd l 1).f0 == 44) = true:=by rw [tV];rfl
 have b44n : ((nd l 1).f0 != 44) = false:=by rw [bne,tV];rfl
 have qA:=Am he1;clear tV he1;have jY:=Am hl;clear hl he hx0;have E:=PE.start h hn;clear h hn;obtain ⟨bP,bQ,bT,bU,bV,bW⟩:=dD.out.at E.out.st.b;clear hn0 hk0;obtain ⟨k10,k11,k12,k13,k14,k15⟩:=dN.out.at E.out.st.b;clear hn1 hk1;go_enter Tryz.func61,Tryz.ntmps61
 go_wp2_with (first
  | (go_at_call 60;(try clear c0 c1 c2 c3 c4 c5);(with_reducible first|refine PE.dZ E ?_|refine PE.eG E ?_|refine PE.eH E ?_|refine PE.eF E ?_);intro w1 E c0 c1 c2 c3 c4 c5;(try ((try clear bP bQ bT bU bV bW);obtain ⟨bP,bQ,bT,bU,bV,bW⟩:=dD.out.at E.out.st.b));(try ((try clear k10 k11 k12 k13 k14 k15);obtain ⟨k10,k11,k12,k13,k14,k15⟩:=dN.out.at E.out.st.b)))
  | (go_at_call 88;(try clear c0 c1 c2 c3 c4 c5);(with_reducible refine PE.call E E.out (fun st => listR.all qA.out st iO.out.C) (fun w1 E c0 c1 c2 c3 c4 c5 => ?_));(try ((try clear bP bQ bT bU bV bW);obtain ⟨bP,bQ,bT,bU,bV,bW⟩:=dD.out.at E.out.st.b));(try ((try clear k10 k11 k12 k13 k14 k15);obtain ⟨k10,k11,k12,k13,k14,k15⟩:=dN.out.at E.out.st.b)))
  | fail)
 all_goals
  first|go_end0|go_ret|(refine bodyPost_ret (results_none rfl _ _ _) rfl ?_)
  exact ⟨rfl,E.out.st,E.out.fr⟩
theorem sO.TNE {p : Nat} {w0 w : World} {F r : List Int} {f0 : Int} {f1 : ByteArray} {f2 : Int} {l : List ak} {q : Int} {A : Option Addr} {c : Nat} {n : Nat} (hl : l.length = 2) (he : ∀ y ∈ l,bJ y = true → jL n y) (hx0 : (nd l 0).f0 = 56) (hx1 : bJ (nd l 1) = true) (h : St true p w0 F (ku (dX n) ⟨f0,f1,f2,true,l,q⟩ ++ r) w) (hn : ND w0 ⟨f0,f1,f2,true,l,q⟩ A c) : Calls Tryz.prog 61 #[.pointer (some ⟨p,0,none⟩),val ⟨f0,f1,f2,true,l,q⟩ A c] w (gW true p w0 F r (.tuple #[]) w):=by
 simp only [ku,qU,sK,Bool.false_eq_true,if_false,if_true,List.length_drop,iP,Nat.zero_add,List.append_assoc,List.nil_append,List.append_nil,eq_false (show ¬ l.length - 1 = 0 by omega),eq_true hx0,eq_false (show ¬ (nd l 1).f0 = 44 by have:=dw hx1;omega)] at h;obtain ⟨ad,rfl⟩:=aT hn.C (show 0 < l.length by omega);obtain ⟨A0,d0,hn0,hk0⟩:=ng hn.C (show 0 < l.length by omega);have gJ:=Am hn0;have dD:=Am hk0;obtain ⟨A1,d1,hn1,hk1⟩:=yx hn.C (show 1 < l.length by omega);have iO:=Am hn1;have dN:=Am hk1;obtain ⟨c2,rfl⟩ : ∃ k,c = k + 2:=⟨c - 2,by have:=hn.le;dsimp only at this;omega⟩
 have e1 : (((l.length - 1 : Nat) : Int) == 0) = false:=by rw [hl];rfl
 have nR : (0 : Int) < (l.length : Int):=by omega
 have nS : 0 < l.length:=by omega
 have yV : (1 : Int) < (l.length : Int):=by omega
 have yX : 1 < l.length:=by omega
 have oZ : ((nd l 0).f0 != 56) = false:=by rw [bne,hx0];rfl
 have MG : ((nd l 1).f0 == 44) = false:=beq_eq_false_iff_ne.2 (by have:=dw hx1;omega);have b44n : ((nd l 1).f0 != 44) = true:=bne_iff_ne.2 (by have:=dw hx1;omega);have qA:=Am (he _ (aQ (show 1 < l.length by omega)) hx1);clear hx1;have jY:=Am hl;clear hl he hx0;have E:=PE.start h hn;clear h hn;obtain ⟨bP,bQ,bT,bU,bV,bW⟩:=dD.out.at E.out.st.b;clear hn0 hk0;obtain ⟨k10,k11,k12,k13,k14,k15⟩:=dN.out.at E.out.st.b;clear hn1 hk1;go_enter Tryz.func61,Tryz.ntmps61
 go_wp2_with (first
  | (go_at_call 60;(try clear c0 c1 c2 c3 c4 c5);(with_reducible first|refine PE.dZ E ?_|refine PE.eG E ?_|refine PE.eH E ?_|refine PE.eF E ?_);intro w1 E c0 c1 c2 c3 c4 c5;(try ((try clear bP bQ bT bU bV bW);obtain ⟨bP,bQ,bT,bU,bV,bW⟩:=dD.out.at E.out.st.b));(try ((try clear k10 k11 k12 k13 k14 k15);obtain ⟨k10,k11,k12,k13,k14,k15⟩:=dN.out.at E.out.st.b)))
  | (go_at_call 63;(try clear c0 c1 c2 c3 c4 c5);(with_reducible refine PE.call E E.out (fun st => atR.all qA.out st iO.out) (fun w1 E c0 c1 c2 c3 c4 c5 => ?_));(try ((try clear bP bQ bT bU bV bW);obtain ⟨bP,bQ,bT,bU,bV,bW⟩:=dD.out.at E.out.st.b));(try ((try clear k10 k11 k12 k13 k14 k15);obtain ⟨k10,k11,k12,k13,k14,k15⟩:=dN.out.at E.out.st.b)))
  | fail)
 all_goals
  first|go_end0|go_ret|(refine bodyPost_ret (results_none rfl _ _ _) rfl ?_)
  exact ⟨rfl,E.out.st,E.out.fr⟩
theorem sO.TE0 {p : Nat} {w0 w : World} {F r : List Int} {f0 : Int} {f1 : ByteArray} {f2 : Int} {l : List ak} {q : Int} {A : Option Addr} {c : Nat} {n : Nat} (hl : l.length = 1) (he : ∀ y ∈ l,bJ y = true → jL n y) (hx0 : bJ (nd l 0) = true) (h : St true p w0 F (ku (dX n) ⟨f0,f1,f2,true,l,q⟩ ++ r) w) (hn : ND w0 ⟨f0,f1,f2,true,l,q⟩ A c) : Calls Tryz.prog 61 #[.pointer (some ⟨p,0,none⟩),val ⟨f0,f1,f2,true,l,q⟩ A c] w (gW true p w0 F r (.tuple #[]) w):=by
 simp only [ku,qU,sK,Bool.false_eq_true,if_false,if_true,List.length_drop,iP,Nat.zero_add,List.append_assoc,List.nil_append,List.append_nil,eq_true (show l.length - 1 = 0 by omega),eq_false (show ¬ (nd l 0).f0 = 56 by have:=dw hx0;omega)] at h;obtain ⟨ad,rfl⟩:=aT hn.C (show 0 < l.length by omega);obtain ⟨A0,d0,hn0,hk0⟩:=ng hn.C (show 0 < l.length by omega);have gJ:=Am hn0;have dD:=Am hk0;have e1 : (((l.length - 1 : Nat) : Int) == 0) = true:=by rw [hl];rfl
 have nR : (0 : Int) < (l.length : Int):=by omega
 have nS : 0 < l.length:=by omega
 have oZ : ((nd l 0).f0 != 56) = true:=bne_iff_ne.2 (by have:=dw hx0;omega);have jZ:=Am (he _ (aQ (show 0 < l.length by omega)) hx0);have jY:=Am hl;clear hl he hx0;have E:=PE.start h hn;clear h hn;obtain ⟨bP,bQ,bT,bU,bV,bW⟩:=dD.out.at E.out.st.b;clear hn0 hk0;go_enter Tryz.func61,Tryz.ntmps61
 go_wp2_with (first
  | (go_at_call 60;(try clear c0 c1 c2 c3 c4 c5);(with_reducible first|refine PE.dZ E ?_|refine PE.eG E ?_|refine PE.eH E ?_|refine PE.eF E ?_);intro w1 E c0 c1 c2 c3 c4 c5;(try ((try clear bP bQ bT bU bV bW);obtain ⟨bP,bQ,bT,bU,bV,bW⟩:=dD.out.at E.out.st.b)))
  | (go_at_call 63;(try clear c0 c1 c2 c3 c4 c5);(with_reducible refine PE.call E E.out (fun st => atR.all jZ.out st gJ.out) (fun w1 E c0 c1 c2 c3 c4 c5 => ?_));(try ((try clear bP bQ bT bU bV bW);obtain ⟨bP,bQ,bT,bU,bV,bW⟩:=dD.out.at E.out.st.b)))
  | fail)
 all_goals
  first|go_end0|go_ret|(refine bodyPost_ret (results_none rfl _ _ _) rfl ?_)
  exact ⟨rfl,E.out.st,E.out.fr⟩
theorem sO.TEL {p : Nat} {w0 w : World} {F r : List Int} {f0 : Int} {f1 : ByteArray} {f2 : Int} {l : List ak} {q : Int} {A : Option Addr} {c : Nat} {n : Nat} (hl : l.length = 2) (he : ∀ y ∈ l,bJ y = true → jL n y) (hx0 : bJ (nd l 0) = true) (tV : (nd l 1).f0 = 44) (he1 : ∀ y ∈ (nd l 1).f4,jL n y) (h : St true p w0 F (ku (dX n) ⟨f0,f1,f2,true,l,q⟩ ++ r) w) (hn : ND w0 ⟨f0,f1,f2,true,l,q⟩ A c) : Calls Tryz.prog 61 #[.pointer (some ⟨p,0,none⟩),val ⟨f0,f1,f2,true,l,q⟩ A c] w (gW true p w0 F r (.tuple #[]) w):=by
 simp only [ku,qU,sK,Bool.false_eq_true,if_false,if_true,List.length_drop,iP,Nat.zero_add,List.append_assoc,List.nil_append,List.append_nil,eq_false (show ¬ l.length - 1 = 0 by omega),eq_false (show ¬ (nd l 0).f0 = 56 by have:=dw hx0;omega),eq_true tV] at h;obtain ⟨ad,rfl⟩:=aT hn.C (show 0 < l.length by omega);obtain ⟨A0,d0,hn0,hk0⟩:=ng hn.C (show 0 < l.length by omega);have gJ:=Am hn0;have dD:=Am hk0;obtain ⟨A1,d1,hn1,hk1⟩:=yx hn.C (show 1 < l.length by omega);have iO:=Am hn1;have dN:=Am hk1;obtain ⟨c2,rfl⟩ : ∃ k,c = k + 2:=⟨c - 2,by have:=hn.le;dsimp only at this;omega⟩
 have e1 : (((l.length - 1 : Nat) : Int) == 0) = false:=by rw [hl];rfl
 have nR : (0 : Int) < (l.length : Int):=by omega
 have nS : 0 < l.length:=by omega
 have yV : (1 : Int) < (l.length : Int):=by omega
 have yX : 1 < l.length:=by omega
 have oZ : ((nd l 0).f0 != 56) = true:=bne_iff_ne.2 (by have:=dw hx0;omega);have jZ:=Am (he _ (aQ (show 0 < l.length by omega)) hx0);have MG : ((nd l 1).f0 == 44) = true:=by rw [tV];rfl
 have b44n : ((nd l 1).f0 != 44) = false:=by rw [bne,tV];rfl
 have qA:=Am he1;clear tV he1;have jY:=Am hl;clear hl he hx0;have E:=PE.start h hn;clear h hn;obtain ⟨bP,bQ,bT,bU,bV,bW⟩:=dD.out.at E.out.st.b;clear hn0 hk0;obtain ⟨k10,k11,k12,k13,k14,k15⟩:=dN.out.at E.out.st.b;clear hn1 hk1;go_enter Tryz.func61,Tryz.ntmps61
 go_wp2_with (first
  | (go_at_call 60;(try clear c0 c1 c2 c3 c4 c5);(with_reducible first|refine PE.dZ E ?_|refine PE.eG E ?_|refine PE.eH E ?_|refine PE.eF E ?_);intro w1 E c0 c1 c2 c3 c4 c5;(try ((try clear bP bQ bT bU bV bW);obtain ⟨bP,bQ,bT,bU,bV,bW⟩:=dD.out.at E.out.st.b));(try ((try clear k10 k11 k12 k13 k14 k15);obtain ⟨k10,k11,k12,k13,k14,k15⟩:=dN.out.at E.out.st.b)))
  | (go_at_call 63;(try clear c0 c1 c2 c3 c4 c5);(with_reducible refine PE.call E E.out (fun st => atR.all jZ.out st gJ.out) (fun w1 E c0 c1 c2 c3 c4 c5 => ?_));(try ((try clear bP bQ bT bU bV bW);obtain ⟨bP,bQ,bT,bU,bV,bW⟩:=dD.out.at E.out.st.b));(try ((try clear k10 k11 k12 k13 k14 k15);obtain ⟨k10,k11,k12,k13,k14,k15⟩:=dN.out.at E.out.st.b)))
  | (go_at_call 88;(try clear c0 c1 c2 c3 c4 c5);(with_reducible refine PE.call E E.out (fun st => listR.all qA.out st iO.out.C) (fun w1 E c0 c1 c2 c3 c4 c5 => ?_));(try ((try clear bP bQ bT bU bV bW);obtain ⟨bP,bQ,bT,bU,bV,bW⟩:=dD.out.at E.out.st.b));(try ((try clear k10 k11 k12 k13 k14 k15);obtain ⟨k10,k11,k12,k13,k14,k15⟩:=dN.out.at E.out.st.b)))
  | fail)
 all_goals
  first|go_end0|go_ret|(refine bodyPost_ret (results_none rfl _ _ _) rfl ?_)
  exact ⟨rfl,E.out.st,E.out.fr⟩
theorem sO.TEE {p : Nat} {w0 w : World} {F r : List Int} {f0 : Int} {f1 : ByteArray} {f2 : Int} {l : List ak} {q : Int} {A : Option Addr} {c : Nat} {n : Nat} (hl : l.length = 2) (he : ∀ y ∈ l,bJ y = true → jL n y) (hx0 : bJ (nd l 0) = true) (hx1 : bJ (nd l 1) = true) (h : St true p w0 F (ku (dX n) ⟨f0,f1,f2,true,l,q⟩ ++ r) w) (hn : ND w0 ⟨f0,f1,f2,true,l,q⟩ A c) : Calls Tryz.prog 61 #[.pointer (some ⟨p,0,none⟩),val ⟨f0,f1,f2,true,l,q⟩ A c] w (gW true p w0 F r (.tuple #[]) w):=by
 simp only [ku,qU,sK,Bool.false_eq_true,if_false,if_true,List.length_drop,iP,Nat.zero_add,List.append_assoc,List.nil_append,List.append_nil,eq_false (show ¬ l.length - 1 = 0 by omega),eq_false (show ¬ (nd l 0).f0 = 56 by have:=dw hx0;omega),eq_false (show ¬ (nd l 1).f0 = 44 by have:=dw hx1;omega)] at h;obtain ⟨ad,rfl⟩:=aT hn.C (show 0 < l.length by omega);obtain ⟨A0,d0,hn0,hk0⟩:=ng hn.C (show 0 < l.length by omega);have gJ:=Am hn0;have dD:=Am hk0;obtain ⟨A1,d1,hn1,hk1⟩:=yx hn.C (show 1 < l.length by omega);have iO:=Am hn1;have dN:=Am hk1;obtain ⟨c2,rfl⟩ : ∃ k,c = k + 2:=⟨c - 2,by have:=hn.le;dsimp only at this;omega⟩
 have e1 : (((l.length - 1 : Nat) : Int) == 0) = false:=by rw [hl];rfl
 have nR : (0 : Int) < (l.length : Int):=by omega
 have nS : 0 < l.length:=by omega
 have yV : (1 : Int) < (l.length : Int):=by omega
 have yX : 1 < l.length:=by omega
 have oZ : ((nd l 0).f0 != 56) = true:=bne_iff_ne.2 (by have:=dw hx0;omega);have jZ:=Am (he _ (aQ (show 0 < l.length by omega)) hx0);have MG : ((nd l 1).f0 == 44) = false:=beq_eq_false_iff_ne.2 (by have:=dw hx1;omega);have b44n : ((nd l 1).f0 != 44) = true:=bne_iff_ne.2 (by have:=dw hx1;omega);have qA:=Am (he _ (aQ (show 1 < l.length by omega)) hx1);clear hx1;have tk0 : True:=trivial;have jY:=Am hl;clear hl he hx0;have E:=PE.start h hn;clear h hn;obtain ⟨bP,bQ,bT,bU,bV,bW⟩:=dD.out.at E.out.st.b;clear hn0 hk0;obtain ⟨k10,k11,k12,k13,k14,k15⟩:=dN.out.at E.out.st.b;clear hn1 hk1;go_enter Tryz.func61,Tryz.ntmps61
 go_wp2_with (first
  | (go_at_call 60;(try clear c0 c1 c2 c3 c4 c5);(with_reducible first|refine PE.dZ E ?_|refine PE.eG E ?_|refine PE.eH E ?_|refine PE.eF E ?_);intro w1 E c0 c1 c2 c3 c4 c5;(try ((try clear bP bQ bT bU bV bW);obtain ⟨bP,bQ,bT,bU,bV,bW⟩:=dD.out.at E.out.st.b));(try ((try clear k10 k11 k12 k13 k14 k15);obtain ⟨k10,k11,k12,k13,k14,k15⟩:=dN.out.at E.out.st.b)))
  | (go_at_call 63;have t_:=tk0;clear t_ tk0;(try clear c0 c1 c2 c3 c4 c5);(refine PE.call E E.out (fun st => atR.all jZ.out st gJ.out) (fun w1 E c0 c1 c2 c3 c4 c5 => ?_));(try ((try clear bP bQ bT bU bV bW);obtain ⟨bP,bQ,bT,bU,bV,bW⟩:=dD.out.at E.out.st.b));(try ((try clear k10 k11 k12 k13 k14 k15);obtain ⟨k10,k11,k12,k13,k14,k15⟩:=dN.out.at E.out.st.b)))
  | (go_at_call 63;(try clear c0 c1 c2 c3 c4 c5);(with_reducible refine PE.call E E.out (fun st => atR.all qA.out st iO.out) (fun w1 E c0 c1 c2 c3 c4 c5 => ?_));(try ((try clear bP bQ bT bU bV bW);obtain ⟨bP,bQ,bT,bU,bV,bW⟩:=dD.out.at E.out.st.b));(try ((try clear k10 k11 k12 k13 k14 k15);obtain ⟨k10,k11,k12,k13,k14,k15⟩:=dN.out.at E.out.st.b)))
  | fail)
 all_goals
  first|go_end0|go_ret|(refine bodyPost_ret (results_none rfl _ _ _) rfl ?_)
  exact ⟨rfl,E.out.st,E.out.fr⟩
theorem sO.all {n : Nat} {p : Nat} {w0 w : World} {F r : List Int} {x : ak} {A : Option Addr} {c : Nat} (hz : SizeOf.sizeOf x ≤ n) (hv : vaB x = true) (hm : Tm x) (h : St true p w0 F (ku (dX n) x ++ r) w) (hn : ND w0 x A c) : Calls Tryz.prog 61 #[.pointer (some ⟨p,0,none⟩),val x A c] w (gW true p w0 F r (.tuple #[]) w):=by
 obtain ⟨hk,h3⟩:=va_43 hv;have he0 : ∀ y ∈ x.f4,bJ y = true → jL n y:=fun y hy hx => (knE n).e y (Nat.lt_of_lt_of_le (dI hy) hz) hx (hm.kid hy)
 have hd : ∀ y ∈ x.f4,(∀ z ∈ y.f4,bJ z = true) → ∀ z ∈ y.f4,jL n z:=fun y hy hx z hz' => (knE n).e z (by have:=dI hy;have:=dI hz';omega) (hx z hz') ((hm.kid hy).kid hz')
 clear hm;obtain ⟨f0,f1,f2,f3,l,q⟩:=x;dsimp only at hk h3 he0 hd;cases f3 with
 | true =>
  rw [if_pos rfl] at h3;obtain ⟨h0,h1,h2⟩:=h3;by_cases ql : (nd l 0).f0 = 56
  · rcases h2 with h2 | ⟨h2,⟨tV,hl⟩|h4⟩
    · exact sO.TN0 h2 he0 ql h hn
    · exact sO.TNL h2 he0 ql tV (hd _ (aQ (by omega)) hl) h hn
    · exact sO.TNE h2 he0 ql h4 h hn
  · have h1:=h1.resolve_left ql;rcases h2 with h2 | ⟨h2,⟨tV,hl⟩|h4⟩
    · exact sO.TE0 h2 he0 h1 h hn
    · exact sO.TEL h2 he0 h1 tV (hd _ (aQ (by omega)) hl) h hn
    · exact sO.TEE h2 he0 h1 h4 h hn
 | false =>
  rw [if_neg (by decide)] at h3;rcases h3 with h3 | ⟨h3,h4⟩
  · exact sO.F0 h3 h hn
  · exact sO.F1 h3 he0 h4 h hn
def rQ (n : Nat) (y : ak) : Prop:=∀ (p : Nat) (w0 w : World) (F r : List Int) (A : Option Addr) (c : Nat),St true p w0 F (iQ n y ++ r) w → ND w0 y A c → Calls Tryz.prog 39 #[.pointer (some ⟨p,0,none⟩),val y A c] w (gW true p w0 F r (.tuple #[]) w)
theorem rQ.go {n : Nat} {y : ak} {p : Nat} {w0 w : World} {F r : List Int} {A : Option Addr} {c : Nat} (h : rQ n y) (st : St true p w0 F (iQ n y ++ r) w) (hn : ND w0 y A c) : Calls Tryz.prog 39 #[.pointer (some ⟨p,0,none⟩),val y A c] w (gW true p w0 F r (.tuple #[]) w):=h p w0 w F r A c st hn
theorem allR.all {n : Nat} {xs : List ak} {p : Nat} {w0 w : World} {F r : List Int} {A : Option Addr} {c : Nat} (hk : ∀ y ∈ xs,rQ n y) (h : St true p w0 F (BH (iQ n) xs ++ r) w) (hC : Kd.C k25 w0 A xs.length xs) : Calls Tryz.prog 27 #[.pointer (some ⟨p,0,none⟩),.slice A xs.length c] w (gW true p w0 F r (.tuple #[]) w):=by
 have HC:=Am hC;have uI:=Am hC.2.1;have E:=SE.start h;clear h hC;have HK:=Am hk;clear hk;go_enter Tryz.func27,Tryz.ntmps27
 go_wp2
 go_loopg [4] xs.length (fun kq v w' => ∃ i : Nat,v = .int .i64 i ∧ Ad (i + kq = xs.length) ∧ Ad (SE true p w0 F (BH (iQ n) (xs.drop i) ++ r) w w'))
 case atStart => exact ⟨0,rfl,⟨by omega⟩,E⟩
 case round =>
  obtain ⟨i,rfl,HI,E⟩:=hrel;by_cases hi : i < xs.length
  · have qp : decide (i < xs.length) = true:=decide_eq_true hi;have e1 : decide ((i : Int) < (xs.length : Int)) = true:=decide_eq_true (by omega);have p1 : (0 : Int) ≤ (i : Int):=by omega
    have q1 : (i : Int) < (xs.length : Int):=by omega
    have gZ:=Am hi;have jU:=Am (aQ hi);have w3 : wrap64 ((i : Int) + 1) = (i : Int) + 1:=by have:=uI.out;unfold wrap64;omega
    have w4 : IntKind.i64.wrap ((i : Int) + 1) = (i : Int) + 1:=(bY _).trans w3;obtain ⟨ad,A',c',rfl,hn,hkn⟩:=uX HC.out i hi;have HN:=Am hn;have oI:=Am hkn;obtain ⟨k0,k1,k2,k3,k4,k5⟩:=oI.out.at E.out.st.b;rw [al_at hi] at E;(try simp only [List.append_assoc] at E);clear hn hkn;clear hi;go_wp2_with (first
     | (go_at_call 39;(with_reducible refine SE.call E E.out (fun st => (HK.out _ jU.out).go st HN.out) (fun w1 E => ?_)))
     | fail)
    go_roundg (xs.length - (i + 1))
    case measure => have:=HI.out;have:=gZ.out;omega
    case rel => exact ⟨i + 1,by (try simp only [w4,w3]);rfl,⟨by have:=HI.out;have:=gZ.out;omega⟩,E⟩
  · have qp : decide (i < xs.length) = false:=decide_eq_false hi;have e1 : decide ((i : Int) < (xs.length : Int)) = false:=decide_eq_false (by omega);rw [al_end hi] at E;clear hi HI;go_wp2
    first|go_end0|(refine bodyPost_ret (results_none rfl _ _ _) rfl ?_)
    exact ⟨rfl,E.out.st,E.out.fr⟩
theorem Lr.all {n : Nat} {a b : ByteArray} {p : Nat} {w0 w : World} {F r : List Int} {x : ak} {A : Option Addr} {c : Nat} (ha : a.size ≤ 100) (hb : b.size ≤ 100) (hk : jL n x) (h : St true p w0 F (Ny (dX n) a x b ++ r) w) (hn : ND w0 x A c) : Calls Tryz.prog 64 #[.pointer (some ⟨p,0,none⟩),.string a,val x A c,.string b] w (gW true p w0 F r (.tuple #[]) w):=by
 have HK:=Am hk;have z0 : (9223372036854775807 < a.size + 2) = False:=eq_false (by omega);have z1 : (9223372036854775807 < 1 + b.size) = False:=eq_false (by omega);unfold Ny at h;simp only [List.append_assoc] at h;have E:=PE.start h hn;clear hk h hn ha hb;go_enter Tryz.func64,Tryz.ntmps64
 go_wp2_with (first
  | (go_at_call 60;(try clear c0 c1 c2 c3 c4 c5);(with_reducible first|refine PE.dZ E ?_|refine PE.eG E ?_|refine PE.eH E ?_|refine PE.eF E ?_);intro w1 E c0 c1 c2 c3 c4 c5)
  | (go_at_call 63;(try clear c0 c1 c2 c3 c4 c5);(with_reducible refine PE.call E E.out (fun st => atR.all HK.out st E.out.k) (fun w1 E c0 c1 c2 c3 c4 c5 => ?_)))
  | fail)
 first|go_end0|(refine bodyPost_ret (results_none rfl _ _ _) rfl ?_)
 exact ⟨rfl,E.out.st,E.out.fr⟩
theorem loopR.all {n : Nat} {p : Nat} {w0 w : World} {F r : List Int} {x : ak} {A : Option Addr} {c : Nat} (vW : ∀ y ∈ x.f4,pG y = true → rQ n y) (hz : SizeOf.sizeOf x ≤ n) (hk : x.f0 = 52) (hy : bK x = true) (hm : Tm x) (h : St true p w0 F (Iw (dX n) (iQ n) x ++ r) w) (hn : ND w0 x A c) : Calls Tryz.prog 65 #[.pointer (some ⟨p,0,none⟩),val x A c] w (gW true p w0 F r (.tuple #[]) w):=by
 obtain ⟨hl,hi3,hx3⟩:=st_52 hy hk;have HE:=Am (show ∀ i,i < 3 → (nd x.f4 i).f0 ≠ 56 → jL n (nd x.f4 i) from fun i hi h2 => by
  have hme:=aQ (xs:=x.f4) (i:=i) (by omega);exact (knE n).e _ (Nat.lt_of_lt_of_le (dI hme) hz) ((hi3 i hi).resolve_left h2) (hm.kid hme))
 have HL3:=Am (vW (nd x.f4 3) (aQ (by omega)) hx3);have h:=(show St true p w0 F (bytesOf ⟨#[102,111,114,32,40]⟩ ++ foG (dX n) x.f4 (bytesOf ⟨#[41,10]⟩ ++ (iQ n (nd x.f4 3) ++ r)) 0) w from by unfold Iw at h;simp only [List.append_assoc] at h;exact h)
 obtain ⟨ad,rfl⟩:=aT hn.C (show 0 < x.f4.length by omega);obtain ⟨A3,d3,hn3,hk3⟩:=kd3 hn.C (show 3 < x.f4.length by omega);have HN3:=Am hn3;have qV:=Am hk3;have q3a : (3 : Int) < (x.f4.length : Int):=by omega
 have q3b : 3 < x.f4.length:=by omega
 have jY:=Am hl;have E:=PE.start h hn;clear h hn hn3 hk3 hl hk hy hm hz hi3 hx3 vW;go_enter Tryz.func65,Tryz.ntmps65
 go_wp2_with (first
  | (go_at_call 60;(try clear c0 c1 c2 c3 c4 c5);(with_reducible first|refine PE.dZ E ?_|refine PE.eG E ?_|refine PE.eH E ?_|refine PE.eF E ?_);intro w1 E c0 c1 c2 c3 c4 c5)
  | fail)
 try clear c0 c1 c2 c3 c4 c5
 go_loopg [4] 3 (fun kq v w' => ∃ i : Nat,v = .int .i64 i ∧ Ad (i + kq = 3) ∧ Ad (PE true p w.heap.size w0 x (some ad) c F (foG (dX n) x.f4 (bytesOf ⟨#[41,10]⟩ ++ (iQ n (nd x.f4 3) ++ r)) i) w w'))
 case atStart => exact ⟨0,rfl,⟨by omega⟩,E⟩
 case round =>
  obtain ⟨i,rfl,HI,E⟩:=hrel;by_cases hi : i < 3
  · have gZ:=Am hi;have qp : decide (i < 3) = true:=decide_eq_true hi;have e1 : decide ((i : Int) < (3 : Int)) = true:=decide_eq_true (by omega);have p1 : (0 : Int) ≤ (i : Int):=by omega
    have q1 : (i : Int) < (3 : Int):=by omega
    have w3 : wrap64 ((i : Int) + 1) = (i : Int) + 1:=by unfold wrap64;omega
    have w4 : IntKind.i64.wrap ((i : Int) + 1) = (i : Int) + 1:=(bY _).trans w3;have q4 : (i : Int) < (x.f4.length : Int):=by have:=jY.out;omega
    have q5 : i < x.f4.length:=by have:=jY.out;omega
    obtain ⟨ad1,A',c',he,hn,hkn⟩:=uX E.out.k.C i (by have:=jY.out;omega);obtain rfl:=Option.some.inj he;have HN:=Am hn;have oI:=Am hkn;obtain ⟨c0,c1,c2,c3,c4,c5⟩:=E.out.cells;obtain ⟨k0,k1,k2,k3,k4,k5⟩:=oI.out.at E.out.st.b;rw [fo_at hi] at E;(try simp only [List.append_assoc] at E);clear hn hkn he;by_cases h0 : i = 0
    · have g1 : decide ((0 : Int) < (i : Int)) = false:=decide_eq_false (by omega);have g2 : decide (0 < i) = false:=decide_eq_false (by omega);rw [if_pos h0,List.nil_append] at E;have H0:=Am h0;clear h0;by_cases ql : (nd x.f4 i).f0 = 56
      · have oZ : ((nd x.f4 i).f0 != 56) = false:=by rw [bne,ql];rfl
        unfold sK at E;rw [if_pos ql,List.nil_append] at E;clear ql hi;go_wp2_with (first
         | fail)
        go_roundg (3 - (i + 1))
        case measure => have:=HI.out;have:=gZ.out;omega
        case rel => exact ⟨i + 1,by (try simp only [w4,w3]);rfl,⟨by have:=HI.out;have:=gZ.out;omega⟩,E⟩
      · have oZ : ((nd x.f4 i).f0 != 56) = true:=bne_iff_ne.2 ql;unfold sK at E;rw [if_neg ql] at E;have HX:=Am (HE.out i hi ql);clear ql hi;go_wp2_with (first
         | (go_at_call 63;(try clear c0 c1 c2 c3 c4 c5);(with_reducible refine PE.call E E.out (fun st => atR.all HX.out st HN.out) (fun w1 E c0 c1 c2 c3 c4 c5 => ?_));(try (clear k0 k1 k2 k3 k4 k5;obtain ⟨k0,k1,k2,k3,k4,k5⟩:=oI.out.at E.out.st.b)))
         | fail)
        go_roundg (3 - (i + 1))
        case measure => have:=HI.out;have:=gZ.out;omega
        case rel => exact ⟨i + 1,by (try simp only [w4,w3]);rfl,⟨by have:=HI.out;have:=gZ.out;omega⟩,E⟩
    · have g1 : decide ((0 : Int) < (i : Int)) = true:=decide_eq_true (by omega);have g2 : decide (0 < i) = true:=decide_eq_true (by omega);rw [if_neg h0] at E;have H0:=Am h0;clear h0;by_cases ql : (nd x.f4 i).f0 = 56
      · have oZ : ((nd x.f4 i).f0 != 56) = false:=by rw [bne,ql];rfl
        unfold sK at E;rw [if_pos ql,List.nil_append] at E;clear ql hi;go_wp2_with (first
         | (go_at_call 60;(try clear c0 c1 c2 c3 c4 c5);(with_reducible first|refine PE.dZ E ?_|refine PE.eG E ?_|refine PE.eH E ?_|refine PE.eF E ?_);intro w1 E c0 c1 c2 c3 c4 c5;(try (clear k0 k1 k2 k3 k4 k5;obtain ⟨k0,k1,k2,k3,k4,k5⟩:=oI.out.at E.out.st.b)))
         | fail)
        go_roundg (3 - (i + 1))
        case measure => have:=HI.out;have:=gZ.out;omega
        case rel => exact ⟨i + 1,by (try simp only [w4,w3]);rfl,⟨by have:=HI.out;have:=gZ.out;omega⟩,E⟩
      · have oZ : ((nd x.f4 i).f0 != 56) = true:=bne_iff_ne.2 ql;unfold sK at E;rw [if_neg ql] at E;have HX:=Am (HE.out i hi ql);clear ql hi;go_wp2_with (first
         | (go_at_call 60;(try clear c0 c1 c2 c3 c4 c5);(with_reducible first|refine PE.dZ E ?_|refine PE.eG E ?_|refine PE.eH E ?_|refine PE.eF E ?_);intro w1 E c0 c1 c2 c3 c4 c5;(try (clear k0 k1 k2 k3 k4 k5;obtain ⟨k0,k1,k2,k3,k4,k5⟩:=oI.out.at E.out.st.b)))
         | (go_at_call 63;(try clear c0 c1 c2 c3 c4 c5);(with_reducible refine PE.call E E.out (fun st => atR.all HX.out st HN.out) (fun w1 E c0 c1 c2 c3 c4 c5 => ?_));(try (clear k0 k1 k2 k3 k4 k5;obtain ⟨k0,k1,k2,k3,k4,k5⟩:=oI.out.at E.out.st.b)))
         | fail)
        go_roundg (3 - (i + 1))
        case measure => have:=HI.out;have:=gZ.out;omega
        case rel => exact ⟨i + 1,by (try simp only [w4,w3]);rfl,⟨by have:=HI.out;have:=gZ.out;omega⟩,E⟩
  · have qp : decide (i < 3) = false:=decide_eq_false hi;have e1 : decide ((i : Int) < (3 : Int)) = false:=decide_eq_false (by omega);rw [fo_end hi] at E;obtain ⟨c0,c1,c2,c3,c4,c5⟩:=E.out.cells;obtain ⟨k30,k31,k32,k33,k34,uh⟩:=qV.out.at E.out.st.b;clear hi HI;go_wp2_with (first
     | (go_at_call 60;(try clear c0 c1 c2 c3 c4 c5);(with_reducible first|refine PE.dZ E ?_|refine PE.eG E ?_|refine PE.eH E ?_|refine PE.eF E ?_);intro w1 E c0 c1 c2 c3 c4 c5;(try ((try clear k30 k31 k32 k33 k34 uh);obtain ⟨k30,k31,k32,k33,k34,uh⟩:=qV.out.at E.out.st.b)))
     | (go_at_call 39;(try clear c0 c1 c2 c3 c4 c5);(with_reducible refine PE.call E E.out (fun st => HL3.out.go st HN3.out) (fun w1 E c0 c1 c2 c3 c4 c5 => ?_));(try ((try clear k30 k31 k32 k33 k34 uh);obtain ⟨k30,k31,k32,k33,k34,uh⟩:=qV.out.at E.out.st.b)))
     | fail)
    first|go_end0|(refine bodyPost_ret (results_none rfl _ _ _) rfl ?_)
    exact ⟨rfl,E.out.st,E.out.fr⟩
theorem je.k41 {p : Nat} {w0 w : World} {F r : List Int} {x : ak} {A : Option Addr} {c : Nat} {n : Nat} (hs : gY x.f1) (ha : ∀ y ∈ x.f4,rQ n y) (hk : x.f0 = 41) (h : St true p w0 F (iQ (n + 1) x ++ r) w) (hn : ND w0 x A c) : Calls Tryz.prog 39 #[.pointer (some ⟨p,0,none⟩),val x A c] w (gW true p w0 F r (.tuple #[]) w):=by
 have qW:=Yt hk 41 rfl
 have rJ:=Yf hk 42 rfl
 have uV:=Yf hk 45 rfl
 have nZ:=Yf hk 47 rfl
 have rH:=Yf hk 48 rfl
 have oM:=Yf hk 49 rfl
 have oW:=Yf hk 50 rfl
 have pz:=Yf hk 51 rfl
 have qj:=Yf hk 52 rfl
 have uY:=Yf hk 53 rfl
 have uZ:=Yf hk 54 rfl
 have oZ:=Yf hk 56 rfl
 have uF:=Yf hk 55 rfl
 have z0 : (9223372036854775807 < 7 + x.f1.size) = False:=eq_false (by have:=hs;unfold gY at this;omega);have z1 : (9223372036854775807 < 7 + x.f1.size + 3) = False:=eq_false (by have:=hs;unfold gY at this;omega);have HA:=Am ha;clear ha;rw [Iz hk] at h;unfold ln41 Lj at h;simp only [List.append_assoc] at h;have h:=(show St true p w0 F (bytesOf ⟨#[115,116,114,117,99,116,32]⟩ ++ (bytesOf x.f1 ++ (bytesOf ⟨#[32,123,10]⟩ ++ (BH (iQ n) x.f4 ++ (bytesOf ⟨#[125,59,10]⟩ ++ r))))) w from h)
 have E:=PE.start h hn;clear h hn;have HKK:=Am hk;clear hk;go_enter Tryz.func39,Tryz.ntmps39
 go_wp2_with (first
  | (go_at_call 60;(try clear c0 c1 c2 c3 c4 c5);(with_reducible first|refine PE.dZ E ?_|refine PE.eG E ?_|refine PE.eH E ?_|refine PE.eF E ?_);intro w1 E c0 c1 c2 c3 c4 c5)
  | (go_at_call 27;(try clear c0 c1 c2 c3 c4 c5);(with_reducible refine PE.call E E.out (fun st => allR.all HA.out st E.out.k.C) (fun w1 E c0 c1 c2 c3 c4 c5 => ?_)))
  | fail)
 first|go_end0|go_ret|(refine bodyPost_ret (results_none rfl _ _ _) rfl ?_)
 exact ⟨rfl,E.out.st,E.out.fr⟩
theorem je.k47 {p : Nat} {w0 w : World} {F r : List Int} {x : ak} {A : Option Addr} {c : Nat} {n : Nat} (ha : ∀ y ∈ x.f4,rQ n y) (hk : x.f0 = 47) (h : St true p w0 F (iQ (n + 1) x ++ r) w) (hn : ND w0 x A c) : Calls Tryz.prog 39 #[.pointer (some ⟨p,0,none⟩),val x A c] w (gW true p w0 F r (.tuple #[]) w):=by
 have qW:=Yf hk 41 rfl
 have rJ:=Yf hk 42 rfl
 have uV:=Yf hk 45 rfl
 have nZ:=Yt hk 47 rfl
 have rH:=Yf hk 48 rfl
 have oM:=Yf hk 49 rfl
 have oW:=Yf hk 50 rfl
 have pz:=Yf hk 51 rfl
 have qj:=Yf hk 52 rfl
 have uY:=Yf hk 53 rfl
 have uZ:=Yf hk 54 rfl
 have oZ:=Yf hk 56 rfl
 have uF:=Yf hk 55 rfl
 have HA:=Am ha;clear ha;rw [Ey hk] at h;unfold ln47 Lj at h;simp only [List.append_assoc] at h;have h:=(show St true p w0 F (bytesOf ⟨#[123,10]⟩ ++ (BH (iQ n) x.f4 ++ (bytesOf ⟨#[125,10]⟩ ++ r))) w from h)
 have E:=PE.start h hn;clear h hn;have HKK:=Am hk;clear hk;go_enter Tryz.func39,Tryz.ntmps39
 go_wp2_with (first
  | (go_at_call 60;(try clear c0 c1 c2 c3 c4 c5);(with_reducible first|refine PE.dZ E ?_|refine PE.eG E ?_|refine PE.eH E ?_|refine PE.eF E ?_);intro w1 E c0 c1 c2 c3 c4 c5)
  | (go_at_call 27;(try clear c0 c1 c2 c3 c4 c5);(with_reducible refine PE.call E E.out (fun st => allR.all HA.out st E.out.k.C) (fun w1 E c0 c1 c2 c3 c4 c5 => ?_)))
  | fail)
 first|go_end0|go_ret|(refine bodyPost_ret (results_none rfl _ _ _) rfl ?_)
 exact ⟨rfl,E.out.st,E.out.fr⟩
theorem je.k48 {p : Nat} {w0 w : World} {F r : List Int} {x : ak} {A : Option Addr} {c : Nat} {n : Nat} (he : ∀ y ∈ x.f4,bJ y = true → jL n y) (hl : x.f4.length = 1) (hx0 : bJ (nd x.f4 0) = true) (hk : x.f0 = 48) (h : St true p w0 F (iQ (n + 1) x ++ r) w) (hn : ND w0 x A c) : Calls Tryz.prog 39 #[.pointer (some ⟨p,0,none⟩),val x A c] w (gW true p w0 F r (.tuple #[]) w):=by
 have nR : (0 : Int) < (x.f4.length : Int):=by omega
 have nS : 0 < x.f4.length:=by omega
 obtain ⟨ad,rfl⟩:=aT hn.C (show 0 < x.f4.length by omega);obtain ⟨A0,d0,hn0,hk0⟩:=ng hn.C (show 0 < x.f4.length by omega);have gJ:=Am hn0;have dD:=Am hk0;have qW:=Yf hk 41 rfl
 have rJ:=Yf hk 42 rfl
 have uV:=Yf hk 45 rfl
 have nZ:=Yf hk 47 rfl
 have rH:=Yt hk 48 rfl
 have oM:=Yf hk 49 rfl
 have oW:=Yf hk 50 rfl
 have pz:=Yf hk 51 rfl
 have qj:=Yf hk 52 rfl
 have uY:=Yf hk 53 rfl
 have uZ:=Yf hk 54 rfl
 have oZ:=Yf hk 56 rfl
 have uF:=Yf hk 55 rfl
 have jZ:=Am (he _ (aQ (show 0 < x.f4.length by omega)) hx0);clear he hx0;have jY:=Am hl;clear hl;rw [IE hk] at h;unfold ln48 at h;(try simp only [List.append_assoc] at h);have h:=(show St true p w0 F (oO (dX n) (nd x.f4 0) 0 ++ (bytesOf ⟨#[59,10]⟩ ++ r)) w from h)
 have E:=PE.start h hn;clear h hn;obtain ⟨bP,bQ,bT,bU,bV,bW⟩:=dD.out.at E.out.st.b;clear hn0 hk0;have HKK:=Am hk;clear hk;go_enter Tryz.func39,Tryz.ntmps39
 go_wp2_with (first
  | (go_at_call 60;(try clear c0 c1 c2 c3 c4 c5);(with_reducible first|refine PE.dZ E ?_|refine PE.eG E ?_|refine PE.eH E ?_|refine PE.eF E ?_);intro w1 E c0 c1 c2 c3 c4 c5;(try ((try clear bP bQ bT bU bV bW);obtain ⟨bP,bQ,bT,bU,bV,bW⟩:=dD.out.at E.out.st.b)))
  | (go_at_call 63;(try clear c0 c1 c2 c3 c4 c5);(with_reducible refine PE.call E E.out (fun st => atR.all jZ.out st gJ.out) (fun w1 E c0 c1 c2 c3 c4 c5 => ?_));(try ((try clear bP bQ bT bU bV bW);obtain ⟨bP,bQ,bT,bU,bV,bW⟩:=dD.out.at E.out.st.b)))
  | fail)
 first|go_end0|go_ret|(refine bodyPost_ret (results_none rfl _ _ _) rfl ?_)
 exact ⟨rfl,E.out.st,E.out.fr⟩
theorem je.k53 {p : Nat} {w0 w : World} {F r : List Int} {x : ak} {A : Option Addr} {c : Nat} {n : Nat} (hk : x.f0 = 53) (h : St true p w0 F (iQ (n + 1) x ++ r) w) (hn : ND w0 x A c) : Calls Tryz.prog 39 #[.pointer (some ⟨p,0,none⟩),val x A c] w (gW true p w0 F r (.tuple #[]) w):=by
 have qW:=Yf hk 41 rfl
 have rJ:=Yf hk 42 rfl
 have uV:=Yf hk 45 rfl
 have nZ:=Yf hk 47 rfl
 have rH:=Yf hk 48 rfl
 have oM:=Yf hk 49 rfl
 have oW:=Yf hk 50 rfl
 have pz:=Yf hk 51 rfl
 have qj:=Yf hk 52 rfl
 have uY:=Yt hk 53 rfl
 have uZ:=Yf hk 54 rfl
 have oZ:=Yf hk 56 rfl
 have uF:=Yf hk 55 rfl
 rw [IK hk] at h;unfold ln53 at h;(try simp only [List.append_assoc] at h);have h:=(show St true p w0 F (bytesOf ⟨#[98,114,101,97,107,59,10]⟩ ++ r) w from h)
 have E:=PE.start h hn;clear h hn;have HKK:=Am hk;clear hk;go_enter Tryz.func39,Tryz.ntmps39
 go_wp2_with (first
  | (go_at_call 60;(try clear c0 c1 c2 c3 c4 c5);(with_reducible first|refine PE.dZ E ?_|refine PE.eG E ?_|refine PE.eH E ?_|refine PE.eF E ?_);intro w1 E c0 c1 c2 c3 c4 c5)
  | fail)
 first|go_end0|go_ret|(refine bodyPost_ret (results_none rfl _ _ _) rfl ?_)
 exact ⟨rfl,E.out.st,E.out.fr⟩
theorem je.k54 {p : Nat} {w0 w : World} {F r : List Int} {x : ak} {A : Option Addr} {c : Nat} {n : Nat} (hk : x.f0 = 54) (h : St true p w0 F (iQ (n + 1) x ++ r) w) (hn : ND w0 x A c) : Calls Tryz.prog 39 #[.pointer (some ⟨p,0,none⟩),val x A c] w (gW true p w0 F r (.tuple #[]) w):=by
 have qW:=Yf hk 41 rfl
 have rJ:=Yf hk 42 rfl
 have uV:=Yf hk 45 rfl
 have nZ:=Yf hk 47 rfl
 have rH:=Yf hk 48 rfl
 have oM:=Yf hk 49 rfl
 have oW:=Yf hk 50 rfl
 have pz:=Yf hk 51 rfl
 have qj:=Yf hk 52 rfl
 have uY:=Yf hk 53 rfl
 have uZ:=Yt hk 54 rfl
 have oZ:=Yf hk 56 rfl
 have uF:=Yf hk 55 rfl
 rw [IL hk] at h;unfold ln54 at h;(try simp only [List.append_assoc] at h);have h:=(show St true p w0 F (bytesOf ⟨#[99,111,110,116,105,110,117,101,59,10]⟩ ++ r) w from h)
 have E:=PE.start h hn;clear h hn;have HKK:=Am hk;clear hk;go_enter Tryz.func39,Tryz.ntmps39
 go_wp2_with (first
  | (go_at_call 60;(try clear c0 c1 c2 c3 c4 c5);(with_reducible first|refine PE.dZ E ?_|refine PE.eG E ?_|refine PE.eH E ?_|refine PE.eF E ?_);intro w1 E c0 c1 c2 c3 c4 c5)
  | fail)
 first|go_end0|go_ret|(refine bodyPost_ret (results_none rfl _ _ _) rfl ?_)
 exact ⟨rfl,E.out.st,E.out.fr⟩
theorem je.k56 {p : Nat} {w0 w : World} {F r : List Int} {x : ak} {A : Option Addr} {c : Nat} {n : Nat} (hk : x.f0 = 56) (h : St true p w0 F (iQ (n + 1) x ++ r) w) (hn : ND w0 x A c) : Calls Tryz.prog 39 #[.pointer (some ⟨p,0,none⟩),val x A c] w (gW true p w0 F r (.tuple #[]) w):=by
 have qW:=Yf hk 41 rfl
 have rJ:=Yf hk 42 rfl
 have uV:=Yf hk 45 rfl
 have nZ:=Yf hk 47 rfl
 have rH:=Yf hk 48 rfl
 have oM:=Yf hk 49 rfl
 have oW:=Yf hk 50 rfl
 have pz:=Yf hk 51 rfl
 have qj:=Yf hk 52 rfl
 have uY:=Yf hk 53 rfl
 have uZ:=Yf hk 54 rfl
 have oZ:=Yt hk 56 rfl
 have uF:=Yf hk 55 rfl
 rw [lnT_56 hk] at h;unfold Nc at h;(try simp only [List.append_assoc] at h);have h:=(show St true p w0 F (bytesOf ⟨#[59,10]⟩ ++ r) w from h)
 have E:=PE.start h hn;clear h hn;have HKK:=Am hk;clear hk;go_enter Tryz.func39,Tryz.ntmps39
 go_wp2_with (first
  | (go_at_call 60;(try clear c0 c1 c2 c3 c4 c5);(with_reducible first|refine PE.dZ E ?_|refine PE.eG E ?_|refine PE.eH E ?_|refine PE.eF E ?_);intro w1 E c0 c1 c2 c3 c4 c5)
  | fail)
 first|go_end0|go_ret|(refine bodyPost_ret (results_none rfl _ _ _) rfl ?_)
 exact ⟨rfl,E.out.st,E.out.fr⟩
theorem je.k55a {p : Nat} {w0 w : World} {F r : List Int} {x : ak} {A : Option Addr} {c : Nat} {n : Nat} (hl : x.f4.length = 0) (hk : x.f0 = 55) (h : St true p w0 F (iQ (n + 1) x ++ r) w) (hn : ND w0 x A c) : Calls Tryz.prog 39 #[.pointer (some ⟨p,0,none⟩),val x A c] w (gW true p w0 F r (.tuple #[]) w):=by
 have qW:=Yf hk 41 rfl
 have rJ:=Yf hk 42 rfl
 have uV:=Yf hk 45 rfl
 have nZ:=Yf hk 47 rfl
 have rH:=Yf hk 48 rfl
 have oM:=Yf hk 49 rfl
 have oW:=Yf hk 50 rfl
 have pz:=Yf hk 51 rfl
 have qj:=Yf hk 52 rfl
 have uY:=Yf hk 53 rfl
 have uZ:=Yf hk 54 rfl
 have oZ:=Yf hk 56 rfl
 have uF:=Yt hk 55 rfl
 have e1 : ((x.f4.length : Int) == 1) = false:=by rw [hl];rfl
 have jY:=Am hl;clear hl;rw [AU hk] at h;unfold Iy at h;rw [if_neg (by have:=jY.out;omega)] at h;simp only [List.append_assoc,List.nil_append] at h;have h:=(show St true p w0 F (bytesOf ⟨#[114,101,116,117,114,110]⟩ ++ (bytesOf ⟨#[59,10]⟩ ++ r)) w from h)
 have E:=PE.start h hn;clear h hn;have HKK:=Am hk;clear hk;go_enter Tryz.func39,Tryz.ntmps39
 go_wp2_with (first
  | (go_at_call 60;(try clear c0 c1 c2 c3 c4 c5);(with_reducible first|refine PE.dZ E ?_|refine PE.eG E ?_|refine PE.eH E ?_|refine PE.eF E ?_);intro w1 E c0 c1 c2 c3 c4 c5)
  | fail)
 first|go_end0|go_ret|(refine bodyPost_ret (results_none rfl _ _ _) rfl ?_)
 exact ⟨rfl,E.out.st,E.out.fr⟩
theorem je.k55b {p : Nat} {w0 w : World} {F r : List Int} {x : ak} {A : Option Addr} {c : Nat} {n : Nat} (he : ∀ y ∈ x.f4,bJ y = true → jL n y) (hl : x.f4.length = 1) (hx0 : bJ (nd x.f4 0) = true) (hk : x.f0 = 55) (h : St true p w0 F (iQ (n + 1) x ++ r) w) (hn : ND w0 x A c) : Calls Tryz.prog 39 #[.pointer (some ⟨p,0,none⟩),val x A c] w (gW true p w0 F r (.tuple #[]) w):=by
 have nR : (0 : Int) < (x.f4.length : Int):=by omega
 have nS : 0 < x.f4.length:=by omega
 obtain ⟨ad,rfl⟩:=aT hn.C (show 0 < x.f4.length by omega);obtain ⟨A0,d0,hn0,hk0⟩:=ng hn.C (show 0 < x.f4.length by omega);have gJ:=Am hn0;have dD:=Am hk0;have qW:=Yf hk 41 rfl
 have rJ:=Yf hk 42 rfl
 have uV:=Yf hk 45 rfl
 have nZ:=Yf hk 47 rfl
 have rH:=Yf hk 48 rfl
 have oM:=Yf hk 49 rfl
 have oW:=Yf hk 50 rfl
 have pz:=Yf hk 51 rfl
 have qj:=Yf hk 52 rfl
 have uY:=Yf hk 53 rfl
 have uZ:=Yf hk 54 rfl
 have oZ:=Yf hk 56 rfl
 have uF:=Yt hk 55 rfl
 have e1 : ((x.f4.length : Int) == 1) = true:=by rw [hl];rfl
 have jZ:=Am (he _ (aQ (show 0 < x.f4.length by omega)) hx0);clear he hx0;have jY:=Am hl;clear hl;rw [AU hk] at h;unfold Iy at h;rw [if_pos (by have:=jY.out;omega)] at h;simp only [List.append_assoc] at h;have h:=(show St true p w0 F (bytesOf ⟨#[114,101,116,117,114,110]⟩ ++ (bytesOf ⟨#[32]⟩ ++ (oO (dX n) (nd x.f4 0) 0 ++ (bytesOf ⟨#[59,10]⟩ ++ r)))) w from h)
 have E:=PE.start h hn;clear h hn;obtain ⟨bP,bQ,bT,bU,bV,bW⟩:=dD.out.at E.out.st.b;clear hn0 hk0;have HKK:=Am hk;clear hk;go_enter Tryz.func39,Tryz.ntmps39
 go_wp2_with (first
  | (go_at_call 60;(try clear c0 c1 c2 c3 c4 c5);(with_reducible first|refine PE.dZ E ?_|refine PE.eG E ?_|refine PE.eH E ?_|refine PE.eF E ?_);intro w1 E c0 c1 c2 c3 c4 c5;(try ((try clear bP bQ bT bU bV bW);obtain ⟨bP,bQ,bT,bU,bV,bW⟩:=dD.out.at E.out.st.b)))
  | (go_at_call 63;(try clear c0 c1 c2 c3 c4 c5);(with_reducible refine PE.call E E.out (fun st => atR.all jZ.out st gJ.out) (fun w1 E c0 c1 c2 c3 c4 c5 => ?_));(try ((try clear bP bQ bT bU bV bW);obtain ⟨bP,bQ,bT,bU,bV,bW⟩:=dD.out.at E.out.st.b)))
  | fail)
 first|go_end0|go_ret|(refine bodyPost_ret (results_none rfl _ _ _) rfl ?_)
 exact ⟨rfl,E.out.st,E.out.fr⟩
theorem je.k50 {p : Nat} {w0 w : World} {F r : List Int} {x : ak} {A : Option Addr} {c : Nat} {n : Nat} (he : ∀ y ∈ x.f4,bJ y = true → jL n y) (vW : ∀ y ∈ x.f4,pG y = true → rQ n y) (hl : x.f4.length = 2) (hx0 : bJ (nd x.f4 0) = true) (hx1 : pG (nd x.f4 1) = true) (hk : x.f0 = 50) (h : St true p w0 F (iQ (n + 1) x ++ r) w) (hn : ND w0 x A c) : Calls Tryz.prog 39 #[.pointer (some ⟨p,0,none⟩),val x A c] w (gW true p w0 F r (.tuple #[]) w):=by
 have nR : (0 : Int) < (x.f4.length : Int):=by omega
 have nS : 0 < x.f4.length:=by omega
 have yV : (1 : Int) < (x.f4.length : Int):=by omega
 have yX : 1 < x.f4.length:=by omega
 obtain ⟨ad,rfl⟩:=aT hn.C (show 0 < x.f4.length by omega);obtain ⟨A0,d0,hn0,hk0⟩:=ng hn.C (show 0 < x.f4.length by omega);have gJ:=Am hn0;have dD:=Am hk0;obtain ⟨A1,d1,hn1,hk1⟩:=yx hn.C (show 1 < x.f4.length by omega);have iO:=Am hn1;have dN:=Am hk1;have qW:=Yf hk 41 rfl
 have rJ:=Yf hk 42 rfl
 have uV:=Yf hk 45 rfl
 have nZ:=Yf hk 47 rfl
 have rH:=Yf hk 48 rfl
 have oM:=Yf hk 49 rfl
 have oW:=Yt hk 50 rfl
 have pz:=Yf hk 51 rfl
 have qj:=Yf hk 52 rfl
 have uY:=Yf hk 53 rfl
 have uZ:=Yf hk 54 rfl
 have oZ:=Yf hk 56 rfl
 have uF:=Yf hk 55 rfl
 have jZ:=Am (he _ (aQ (show 0 < x.f4.length by omega)) hx0);have HL1:=Am (vW _ (aQ (show 1 < x.f4.length by omega)) hx1);clear he vW hx0 hx1;have jY:=Am hl;clear hl;rw [IG hk] at h;unfold ln50 at h;(try simp only [List.append_assoc] at h);have E:=PE.start h hn;clear h hn;obtain ⟨bP,bQ,bT,bU,bV,bW⟩:=dD.out.at E.out.st.b;clear hn0 hk0;obtain ⟨k10,k11,k12,k13,k14,k15⟩:=dN.out.at E.out.st.b;clear hn1 hk1;have HKK:=Am hk;clear hk;go_enter Tryz.func39,Tryz.ntmps39
 go_wp2_with (first
  | (go_at_call 64;(try clear c0 c1 c2 c3 c4 c5);(with_reducible refine PE.call E E.out (fun st => Lr.all (by decide) (by decide) jZ.out st gJ.out) (fun w1 E c0 c1 c2 c3 c4 c5 => ?_));(try ((try clear bP bQ bT bU bV bW);obtain ⟨bP,bQ,bT,bU,bV,bW⟩:=dD.out.at E.out.st.b));(try ((try clear k10 k11 k12 k13 k14 k15);obtain ⟨k10,k11,k12,k13,k14,k15⟩:=dN.out.at E.out.st.b)))
  | (go_at_call 39;(try clear c0 c1 c2 c3 c4 c5);(with_reducible refine PE.call E E.out (fun st => HL1.out.go st iO.out) (fun w1 E c0 c1 c2 c3 c4 c5 => ?_));(try ((try clear bP bQ bT bU bV bW);obtain ⟨bP,bQ,bT,bU,bV,bW⟩:=dD.out.at E.out.st.b));(try ((try clear k10 k11 k12 k13 k14 k15);obtain ⟨k10,k11,k12,k13,k14,k15⟩:=dN.out.at E.out.st.b)))
  | fail)
 first|go_end0|go_ret|(refine bodyPost_ret (results_none rfl _ _ _) rfl ?_)
 exact ⟨rfl,E.out.st,E.out.fr⟩
theorem je.k51 {p : Nat} {w0 w : World} {F r : List Int} {x : ak} {A : Option Addr} {c : Nat} {n : Nat} (he : ∀ y ∈ x.f4,bJ y = true → jL n y) (vW : ∀ y ∈ x.f4,pG y = true → rQ n y) (hl : x.f4.length = 2) (hx0 : pG (nd x.f4 0) = true) (hx1 : bJ (nd x.f4 1) = true) (hk : x.f0 = 51) (h : St true p w0 F (iQ (n + 1) x ++ r) w) (hn : ND w0 x A c) : Calls Tryz.prog 39 #[.pointer (some ⟨p,0,none⟩),val x A c] w (gW true p w0 F r (.tuple #[]) w):=by
 have nR : (0 : Int) < (x.f4.length : Int):=by omega
 have nS : 0 < x.f4.length:=by omega
 have yV : (1 : Int) < (x.f4.length : Int):=by omega
 have yX : 1 < x.f4.length:=by omega
 obtain ⟨ad,rfl⟩:=aT hn.C (show 0 < x.f4.length by omega);obtain ⟨A0,d0,hn0,hk0⟩:=ng hn.C (show 0 < x.f4.length by omega);have gJ:=Am hn0;have dD:=Am hk0;obtain ⟨A1,d1,hn1,hk1⟩:=yx hn.C (show 1 < x.f4.length by omega);have iO:=Am hn1;have dN:=Am hk1;have qW:=Yf hk 41 rfl
 have rJ:=Yf hk 42 rfl
 have uV:=Yf hk 45 rfl
 have nZ:=Yf hk 47 rfl
 have rH:=Yf hk 48 rfl
 have oM:=Yf hk 49 rfl
 have oW:=Yf hk 50 rfl
 have pz:=Yt hk 51 rfl
 have qj:=Yf hk 52 rfl
 have uY:=Yf hk 53 rfl
 have uZ:=Yf hk 54 rfl
 have oZ:=Yf hk 56 rfl
 have uF:=Yf hk 55 rfl
 have qA:=Am (he _ (aQ (show 1 < x.f4.length by omega)) hx1);have HL0:=Am (vW _ (aQ (show 0 < x.f4.length by omega)) hx0);clear he vW hx0 hx1;have jY:=Am hl;clear hl;rw [II hk] at h;unfold ln51 at h;(try simp only [List.append_assoc] at h);rw [show Ny (dX n) ⟨#[119,104,105,108,101]⟩ (nd x.f4 1) ⟨#[59]⟩ ++ (bytesOf ⟨#[10]⟩ ++ r) = Ny (dX n) ⟨#[119,104,105,108,101]⟩ (nd x.f4 1) ⟨#[59,10]⟩ ++ r from by unfold Ny;simp only [List.append_assoc];rfl] at h;have E:=PE.start h hn;clear h hn;obtain ⟨bP,bQ,bT,bU,bV,bW⟩:=dD.out.at E.out.st.b;clear hn0 hk0;obtain ⟨k10,k11,k12,k13,k14,k15⟩:=dN.out.at E.out.st.b;clear hn1 hk1;have HKK:=Am hk;clear hk;go_enter Tryz.func39,Tryz.ntmps39
 go_wp2_with (first
  | (go_at_call 60;(try clear c0 c1 c2 c3 c4 c5);(with_reducible first|refine PE.dZ E ?_|refine PE.eG E ?_|refine PE.eH E ?_|refine PE.eF E ?_);intro w1 E c0 c1 c2 c3 c4 c5;(try ((try clear bP bQ bT bU bV bW);obtain ⟨bP,bQ,bT,bU,bV,bW⟩:=dD.out.at E.out.st.b));(try ((try clear k10 k11 k12 k13 k14 k15);obtain ⟨k10,k11,k12,k13,k14,k15⟩:=dN.out.at E.out.st.b)))
  | (go_at_call 64;(try clear c0 c1 c2 c3 c4 c5);(with_reducible refine PE.call E E.out (fun st => Lr.all (by decide) (by decide) qA.out st iO.out) (fun w1 E c0 c1 c2 c3 c4 c5 => ?_));(try ((try clear bP bQ bT bU bV bW);obtain ⟨bP,bQ,bT,bU,bV,bW⟩:=dD.out.at E.out.st.b));(try ((try clear k10 k11 k12 k13 k14 k15);obtain ⟨k10,k11,k12,k13,k14,k15⟩:=dN.out.at E.out.st.b)))
  | (go_at_call 39;(try clear c0 c1 c2 c3 c4 c5);(with_reducible refine PE.call E E.out (fun st => HL0.out.go st gJ.out) (fun w1 E c0 c1 c2 c3 c4 c5 => ?_));(try ((try clear bP bQ bT bU bV bW);obtain ⟨bP,bQ,bT,bU,bV,bW⟩:=dD.out.at E.out.st.b));(try ((try clear k10 k11 k12 k13 k14 k15);obtain ⟨k10,k11,k12,k13,k14,k15⟩:=dN.out.at E.out.st.b)))
  | fail)
 first|go_end0|go_ret|(refine bodyPost_ret (results_none rfl _ _ _) rfl ?_)
 exact ⟨rfl,E.out.st,E.out.fr⟩
theorem je.k49a {p : Nat} {w0 w : World} {F r : List Int} {x : ak} {A : Option Addr} {c : Nat} {n : Nat} (he : ∀ y ∈ x.f4,bJ y = true → jL n y) (vW : ∀ y ∈ x.f4,pG y = true → rQ n y) (hl : x.f4.length = 2) (hx0 : bJ (nd x.f4 0) = true) (hx1 : pG (nd x.f4 1) = true) (hk : x.f0 = 49) (h : St true p w0 F (iQ (n + 1) x ++ r) w) (hn : ND w0 x A c) : Calls Tryz.prog 39 #[.pointer (some ⟨p,0,none⟩),val x A c] w (gW true p w0 F r (.tuple #[]) w):=by
 have nR : (0 : Int) < (x.f4.length : Int):=by omega
 have nS : 0 < x.f4.length:=by omega
 have yV : (1 : Int) < (x.f4.length : Int):=by omega
 have yX : 1 < x.f4.length:=by omega
 obtain ⟨ad,rfl⟩:=aT hn.C (show 0 < x.f4.length by omega);obtain ⟨A0,d0,hn0,hk0⟩:=ng hn.C (show 0 < x.f4.length by omega);have gJ:=Am hn0;have dD:=Am hk0;obtain ⟨A1,d1,hn1,hk1⟩:=yx hn.C (show 1 < x.f4.length by omega);have iO:=Am hn1;have dN:=Am hk1;have qW:=Yf hk 41 rfl
 have rJ:=Yf hk 42 rfl
 have uV:=Yf hk 45 rfl
 have nZ:=Yf hk 47 rfl
 have rH:=Yf hk 48 rfl
 have oM:=Yt hk 49 rfl
 have oW:=Yf hk 50 rfl
 have pz:=Yf hk 51 rfl
 have qj:=Yf hk 52 rfl
 have uY:=Yf hk 53 rfl
 have uZ:=Yf hk 54 rfl
 have oZ:=Yf hk 56 rfl
 have uF:=Yf hk 55 rfl
 have e3 : ((x.f4.length : Int) == 3) = false:=by rw [hl];rfl
 have jZ:=Am (he _ (aQ (show 0 < x.f4.length by omega)) hx0);have HL1:=Am (vW _ (aQ (show 1 < x.f4.length by omega)) hx1);clear he vW hx0 hx1;have jY:=Am hl;clear hl;rw [AQ hk] at h;unfold Iu at h;rw [if_neg (by have:=jY.out;omega)] at h;simp only [List.append_assoc,List.nil_append] at h;have E:=PE.start h hn;clear h hn;obtain ⟨bP,bQ,bT,bU,bV,bW⟩:=dD.out.at E.out.st.b;clear hn0 hk0;obtain ⟨k10,k11,k12,k13,k14,k15⟩:=dN.out.at E.out.st.b;clear hn1 hk1;have HKK:=Am hk;clear hk;go_enter Tryz.func39,Tryz.ntmps39
 go_wp2_with (first
  | (go_at_call 64;(try clear c0 c1 c2 c3 c4 c5);(with_reducible refine PE.call E E.out (fun st => Lr.all (by decide) (by decide) jZ.out st gJ.out) (fun w1 E c0 c1 c2 c3 c4 c5 => ?_));(try ((try clear bP bQ bT bU bV bW);obtain ⟨bP,bQ,bT,bU,bV,bW⟩:=dD.out.at E.out.st.b));(try ((try clear k10 k11 k12 k13 k14 k15);obtain ⟨k10,k11,k12,k13,k14,k15⟩:=dN.out.at E.out.st.b)))
  | (go_at_call 39;(try clear c0 c1 c2 c3 c4 c5);(with_reducible refine PE.call E E.out (fun st => HL1.out.go st iO.out) (fun w1 E c0 c1 c2 c3 c4 c5 => ?_));(try ((try clear bP bQ bT bU bV bW);obtain ⟨bP,bQ,bT,bU,bV,bW⟩:=dD.out.at E.out.st.b));(try ((try clear k10 k11 k12 k13 k14 k15);obtain ⟨k10,k11,k12,k13,k14,k15⟩:=dN.out.at E.out.st.b)))
  | fail)
 first|go_end0|go_ret|(refine bodyPost_ret (results_none rfl _ _ _) rfl ?_)
 exact ⟨rfl,E.out.st,E.out.fr⟩
theorem je.k49b {p : Nat} {w0 w : World} {F r : List Int} {x : ak} {A : Option Addr} {c : Nat} {n : Nat} (he : ∀ y ∈ x.f4,bJ y = true → jL n y) (vW : ∀ y ∈ x.f4,pG y = true → rQ n y) (hl : x.f4.length = 3) (hx0 : bJ (nd x.f4 0) = true) (hx1 : pG (nd x.f4 1) = true) (hx2 : pG (nd x.f4 2) = true) (hk : x.f0 = 49) (h : St true p w0 F (iQ (n + 1) x ++ r) w) (hn : ND w0 x A c) : Calls Tryz.prog 39 #[.pointer (some ⟨p,0,none⟩),val x A c] w (gW true p w0 F r (.tuple #[]) w):=by
 have nR : (0 : Int) < (x.f4.length : Int):=by omega
 have nS : 0 < x.f4.length:=by omega
 have yV : (1 : Int) < (x.f4.length : Int):=by omega
 have yX : 1 < x.f4.length:=by omega
 have q2a : (2 : Int) < (x.f4.length : Int):=by omega
 have q2b : 2 < x.f4.length:=by omega
 obtain ⟨ad,rfl⟩:=aT hn.C (show 0 < x.f4.length by omega);obtain ⟨A0,d0,hn0,hk0⟩:=ng hn.C (show 0 < x.f4.length by omega);have gJ:=Am hn0;have dD:=Am hk0;obtain ⟨A1,d1,hn1,hk1⟩:=yx hn.C (show 1 < x.f4.length by omega);have iO:=Am hn1;have dN:=Am hk1;obtain ⟨A2,d2,hn2,hk2⟩:=kd2 hn.C (show 2 < x.f4.length by omega);have Bd:=Am hn2;have uz:=Am hk2;have qW:=Yf hk 41 rfl
 have rJ:=Yf hk 42 rfl
 have uV:=Yf hk 45 rfl
 have nZ:=Yf hk 47 rfl
 have rH:=Yf hk 48 rfl
 have oM:=Yt hk 49 rfl
 have oW:=Yf hk 50 rfl
 have pz:=Yf hk 51 rfl
 have qj:=Yf hk 52 rfl
 have uY:=Yf hk 53 rfl
 have uZ:=Yf hk 54 rfl
 have oZ:=Yf hk 56 rfl
 have uF:=Yf hk 55 rfl
 have e3 : ((x.f4.length : Int) == 3) = true:=by rw [hl];rfl
 have tk1 : True:=trivial;have jZ:=Am (he _ (aQ (show 0 < x.f4.length by omega)) hx0);have HL1:=Am (vW _ (aQ (show 1 < x.f4.length by omega)) hx1);have HL2:=Am (vW _ (aQ (show 2 < x.f4.length by omega)) hx2);clear he vW hx0 hx1 hx2;have jY:=Am hl;clear hl;rw [AQ hk] at h;unfold Iu at h;rw [if_pos (by have:=jY.out;omega)] at h;simp only [List.append_assoc] at h;have E:=PE.start h hn;clear h hn;obtain ⟨bP,bQ,bT,bU,bV,bW⟩:=dD.out.at E.out.st.b;clear hn0 hk0;obtain ⟨k10,k11,k12,k13,k14,k15⟩:=dN.out.at E.out.st.b;clear hn1 hk1;obtain ⟨k20,k21,k22,k23,k24,k25⟩:=uz.out.at E.out.st.b;clear hn2 hk2;have HKK:=Am hk;clear hk;go_enter Tryz.func39,Tryz.ntmps39
 go_wp2_with (first
  | (go_at_call 60;(try clear c0 c1 c2 c3 c4 c5);(with_reducible first|refine PE.dZ E ?_|refine PE.eG E ?_|refine PE.eH E ?_|refine PE.eF E ?_);intro w1 E c0 c1 c2 c3 c4 c5;(try ((try clear bP bQ bT bU bV bW);obtain ⟨bP,bQ,bT,bU,bV,bW⟩:=dD.out.at E.out.st.b));(try ((try clear k10 k11 k12 k13 k14 k15);obtain ⟨k10,k11,k12,k13,k14,k15⟩:=dN.out.at E.out.st.b));(try ((try clear k20 k21 k22 k23 k24 k25);obtain ⟨k20,k21,k22,k23,k24,k25⟩:=uz.out.at E.out.st.b)))
  | (go_at_call 64;(try clear c0 c1 c2 c3 c4 c5);(with_reducible refine PE.call E E.out (fun st => Lr.all (by decide) (by decide) jZ.out st gJ.out) (fun w1 E c0 c1 c2 c3 c4 c5 => ?_));(try ((try clear bP bQ bT bU bV bW);obtain ⟨bP,bQ,bT,bU,bV,bW⟩:=dD.out.at E.out.st.b));(try ((try clear k10 k11 k12 k13 k14 k15);obtain ⟨k10,k11,k12,k13,k14,k15⟩:=dN.out.at E.out.st.b));(try ((try clear k20 k21 k22 k23 k24 k25);obtain ⟨k20,k21,k22,k23,k24,k25⟩:=uz.out.at E.out.st.b)))
  | (go_at_call 39;have t_:=tk1;clear t_ tk1;(try clear c0 c1 c2 c3 c4 c5);(refine PE.call E E.out (fun st => HL1.out.go st iO.out) (fun w1 E c0 c1 c2 c3 c4 c5 => ?_));(try ((try clear bP bQ bT bU bV bW);obtain ⟨bP,bQ,bT,bU,bV,bW⟩:=dD.out.at E.out.st.b));(try ((try clear k10 k11 k12 k13 k14 k15);obtain ⟨k10,k11,k12,k13,k14,k15⟩:=dN.out.at E.out.st.b));(try ((try clear k20 k21 k22 k23 k24 k25);obtain ⟨k20,k21,k22,k23,k24,k25⟩:=uz.out.at E.out.st.b)))
  | (go_at_call 39;(try clear c0 c1 c2 c3 c4 c5);(with_reducible refine PE.call E E.out (fun st => HL2.out.go st Bd.out) (fun w1 E c0 c1 c2 c3 c4 c5 => ?_));(try ((try clear bP bQ bT bU bV bW);obtain ⟨bP,bQ,bT,bU,bV,bW⟩:=dD.out.at E.out.st.b));(try ((try clear k10 k11 k12 k13 k14 k15);obtain ⟨k10,k11,k12,k13,k14,k15⟩:=dN.out.at E.out.st.b));(try ((try clear k20 k21 k22 k23 k24 k25);obtain ⟨k20,k21,k22,k23,k24,k25⟩:=uz.out.at E.out.st.b)))
  | fail)
 first|go_end0|go_ret|(refine bodyPost_ret (results_none rfl _ _ _) rfl ?_)
 exact ⟨rfl,E.out.st,E.out.fr⟩
theorem je.k52 {p : Nat} {w0 w : World} {F r : List Int} {x : ak} {A : Option Addr} {c : Nat} {n : Nat} (vW : ∀ y ∈ x.f4,pG y = true → rQ n y) (hz : SizeOf.sizeOf x ≤ n) (hy : bK x = true) (hm : Tm x) (hk : x.f0 = 52) (h : St true p w0 F (iQ (n + 1) x ++ r) w) (hn : ND w0 x A c) : Calls Tryz.prog 39 #[.pointer (some ⟨p,0,none⟩),val x A c] w (gW true p w0 F r (.tuple #[]) w):=by
 have qW:=Yf hk 41 rfl
 have rJ:=Yf hk 42 rfl
 have uV:=Yf hk 45 rfl
 have nZ:=Yf hk 47 rfl
 have rH:=Yf hk 48 rfl
 have oM:=Yf hk 49 rfl
 have oW:=Yf hk 50 rfl
 have pz:=Yf hk 51 rfl
 have qj:=Yt hk 52 rfl
 have uY:=Yf hk 53 rfl
 have uZ:=Yf hk 54 rfl
 have oZ:=Yf hk 56 rfl
 have uF:=Yf hk 55 rfl
 have HA:=Am (And.intro vW (And.intro hz (And.intro hk (And.intro hy hm))));clear vW hz hy hm;rw [IJ hk] at h;have E:=PE.start h hn;clear h hn;have HKK:=Am hk;clear hk;go_enter Tryz.func39,Tryz.ntmps39
 go_wp2_with (first
  | (go_at_call 65;(try clear c0 c1 c2 c3 c4 c5);(with_reducible refine PE.call E E.out (fun st => loopR.all HA.out.1 HA.out.2.1 HA.out.2.2.1 HA.out.2.2.2.1 HA.out.2.2.2.2 st E.out.k) (fun w1 E c0 c1 c2 c3 c4 c5 => ?_)))
  | fail)
 first|go_end0|go_ret|(refine bodyPost_ret (results_none rfl _ _ _) rfl ?_)
 exact ⟨rfl,E.out.st,E.out.fr⟩
theorem je.k42 {n : Nat} {p : Nat} {w0 w : World} {F r : List Int} {x : ak} {A : Option Addr} {c : Nat} (hs0 : gY (nd x.f4 0).f1) (hz : SizeOf.sizeOf x ≤ n) (hk : x.f0 = 42) (hy : bK x = true) (hm : Tm x) (h : St true p w0 F (iQ (n + 1) x ++ r) w) (hn : ND w0 x A c) : Calls Tryz.prog 39 #[.pointer (some ⟨p,0,none⟩),val x A c] w (gW true p w0 F r (.tuple #[]) w):=by
 obtain ⟨hl,hv⟩:=de_42 hy hk;have HV:=Am (show ∀ i,1 ≤ i → i < x.f4.length → vaB (nd x.f4 i) = true ∧ Tm (nd x.f4 i) ∧ SizeOf.sizeOf (nd x.f4 i) ≤ n from fun i h1 h2 => by
  have hme:=aQ (xs:=x.f4) h2;refine ⟨hv _ ?_,hm.kid hme,by have:=dI hme;omega⟩;have h3:=aQ (xs:=x.f4.drop 1) (i:=i - 1) (by rw [List.length_drop];omega)
  rwa [iP,show i - 1 + 1 = i by omega] at h3)
 have z0 : (9223372036854775807 < (nd x.f4 0).f1.size + 1) = False:=eq_false (by unfold gY at hs0;omega);rw [IB hk] at h;unfold ln42 at h;simp only [List.append_assoc] at h;have h:=(show St true p w0 F (bytesOf (nd x.f4 0).f1 ++ (bytesOf ⟨#[32]⟩ ++ (vrG (dX n) true (x.f4.drop 1) ++ (bytesOf ⟨#[59,10]⟩ ++ r)))) w from h)
 obtain ⟨ad,rfl⟩:=aT hn.C (show 0 < x.f4.length by omega);obtain ⟨A0,d0,hn0,hk0⟩:=ng hn.C (show 0 < x.f4.length by omega);have gJ:=Am hn0;have dD:=Am hk0;have qW:=Yf hk 41 rfl
 have rJ:=Yt hk 42 rfl
 have uV:=Yf hk 45 rfl
 have nZ:=Yf hk 47 rfl
 have rH:=Yf hk 48 rfl
 have oM:=Yf hk 49 rfl
 have oW:=Yf hk 50 rfl
 have pz:=Yf hk 51 rfl
 have qj:=Yf hk 52 rfl
 have uY:=Yf hk 53 rfl
 have uZ:=Yf hk 54 rfl
 have oZ:=Yf hk 56 rfl
 have uF:=Yf hk 55 rfl
 have nR : (0 : Int) < (x.f4.length : Int):=by omega
 have nS : 0 < x.f4.length:=by omega
 have jY:=Am hl;have uI:=Am hn.C.2.1;have E:=PE.start h hn;clear h hn;obtain ⟨bP,bQ,bT,bU,bV,bW⟩:=dD.out.at E.out.st.b;clear hn0 hk0 hl hy hm hz hv hs0;have HKK:=Am hk;clear hk;go_enter Tryz.func39,Tryz.ntmps39
 go_wp2_with (first
  | (go_at_call 60;(try clear c0 c1 c2 c3 c4 c5);(with_reducible first|refine PE.dZ E ?_|refine PE.eG E ?_|refine PE.eH E ?_|refine PE.eF E ?_);intro w1 E c0 c1 c2 c3 c4 c5;(try ((try clear bP bQ bT bU bV bW);obtain ⟨bP,bQ,bT,bU,bV,bW⟩:=dD.out.at E.out.st.b)))
  | fail)
 try clear c0 c1 c2 c3 c4 c5
 try clear bP bQ bT bU bV bW
 go_loopg [4] x.f4.length (fun kq v w' => ∃ i : Nat,v = .int .i64 i ∧ Ad (i + kq = x.f4.length + 1) ∧ Ad (1 ≤ i) ∧ Ad (PE true p w.heap.size w0 x (some ad) c F (vrG (dX n) (i == 1) (x.f4.drop i) ++ (bytesOf ⟨#[59,10]⟩ ++ r)) w w'))
 case atStart => exact ⟨1,rfl,⟨by omega⟩,⟨Nat.le_refl _⟩,E⟩
 case round =>
  obtain ⟨i,rfl,HI,H1,E⟩:=hrel;obtain ⟨c0,c1,c2,c3,c4,c5⟩:=E.out.cells;by_cases hi : i < x.f4.length
  · have gZ:=Am hi;have qp : decide (i < x.f4.length) = true:=decide_eq_true hi;have e1 : decide ((i : Int) < ((x.f4.length : Nat) : Int)) = true:=decide_eq_true (by omega);have p1 : (0 : Int) ≤ (i : Int):=by omega
    have w3 : wrap64 ((i : Int) + 1) = (i : Int) + 1:=by have:=uI.out;unfold wrap64;omega
    have w4 : IntKind.i64.wrap ((i : Int) + 1) = (i : Int) + 1:=(bY _).trans w3;have q1 : (i : Int) < (x.f4.length : Int):=by omega
    obtain ⟨ad1,A',c',he,hn,hkn⟩:=uX E.out.k.C i hi;obtain rfl:=Option.some.inj he;have HN:=Am hn;have oI:=Am hkn;obtain ⟨k0,k1,k2,k3,k4,k5⟩:=oI.out.at E.out.st.b;rw [vr_at hi] at E;(try simp only [List.append_assoc] at E);have HVI:=Am (HV.out i H1.out hi);clear hn hkn he;by_cases h0 : i = 1
    · have g1 : decide ((1 : Int) < (i : Int)) = false:=decide_eq_false (by have:=H1.out;omega);have g2 : decide (1 < i) = false:=decide_eq_false (by have:=H1.out;omega);rw [if_pos (beq_iff_eq.2 h0),List.nil_append] at E;have H0:=Am h0;clear h0 hi;go_wp2_with (first
       | (go_at_call 61;(try clear c0 c1 c2 c3 c4 c5);(with_reducible refine PE.call E E.out (fun st => sO.all HVI.out.2.2 HVI.out.1 HVI.out.2.1 st HN.out) (fun w1 E c0 c1 c2 c3 c4 c5 => ?_)))
       | fail)
      go_roundg (x.f4.length + 1 - (i + 1))
      case measure => have:=HI.out;have:=gZ.out;omega
      case rel => exact ⟨i + 1,by (try simp only [w4,w3]);rfl,⟨by have:=HI.out;have:=gZ.out;omega⟩,⟨by omega⟩,⟨by rw [show (i + 1 == 1) = false from beq_eq_false_iff_ne.2 (by have:=H1.out;omega)];exact E.out⟩⟩
    · have g1 : decide ((1 : Int) < (i : Int)) = true:=decide_eq_true (by have:=H1.out;omega);have g2 : decide (1 < i) = true:=decide_eq_true (by have:=H1.out;omega);rw [if_neg (by simpa using h0)] at E;have H0:=Am h0;clear h0 hi;go_wp2_with (first
       | (go_at_call 60;(try clear c0 c1 c2 c3 c4 c5);(with_reducible first|refine PE.dZ E ?_|refine PE.eG E ?_|refine PE.eH E ?_|refine PE.eF E ?_);intro w1 E c0 c1 c2 c3 c4 c5;(try (clear k0 k1 k2 k3 k4 k5;obtain ⟨k0,k1,k2,k3,k4,k5⟩:=oI.out.at E.out.st.b)))
       | (go_at_call 61;(try clear c0 c1 c2 c3 c4 c5);(with_reducible refine PE.call E E.out (fun st => sO.all HVI.out.2.2 HVI.out.1 HVI.out.2.1 st HN.out) (fun w1 E c0 c1 c2 c3 c4 c5 => ?_)))
       | fail)
      go_roundg (x.f4.length + 1 - (i + 1))
      case measure => have:=HI.out;have:=gZ.out;omega
      case rel => exact ⟨i + 1,by (try simp only [w4,w3]);rfl,⟨by have:=HI.out;have:=gZ.out;omega⟩,⟨by omega⟩,⟨by rw [show (i + 1 == 1) = false from beq_eq_false_iff_ne.2 (by have:=H1.out;omega)];exact E.out⟩⟩
  · have qp : decide (i < x.f4.length) = false:=decide_eq_false hi;have e1 : decide ((i : Int) < ((x.f4.length : Nat) : Int)) = false:=decide_eq_false (by omega);rw [vr_end hi,List.nil_append] at E;clear hi HI;go_wp2_with (first
     | (go_at_call 60;(try clear c0 c1 c2 c3 c4 c5);(with_reducible first|refine PE.dZ E ?_|refine PE.eG E ?_|refine PE.eH E ?_|refine PE.eF E ?_);intro w1 E c0 c1 c2 c3 c4 c5)
     | fail)
    first|go_end0|(refine bodyPost_ret (results_none rfl _ _ _) rfl ?_)
    exact ⟨rfl,E.out.st,E.out.fr⟩
theorem fnR.all {n m : Nat} {zs : List ak} {p : Nat} {w0 w : World} {F r : List Int} {x : ak} {ad : Addr} {c : Nat} (hb : ∀ y ∈ (nd x.f4 m).f4,rQ n y) (h47 : (nd x.f4 m).f0 = 47) (hl : x.f4.length = m + 1) (h1 : 1 ≤ m) (hzl : zs.length = m) (hzs : ∀ i,i < m → nd zs i = nd x.f4 i) (hs : gY x.f1) (hs0 : gY (nd x.f4 0).f1) (hp : ∀ i,1 ≤ i → i < m → (nd x.f4 i).f4.length = 1 ∧ ((nd x.f4 i).f2 = 0 ∨ (nd x.f4 i).f2 = 1) ∧ gY (nd (nd x.f4 i).f4 0).f1)
 (h : St true p w0 F (bytesOf (nd x.f4 0).f1 ++ (bytesOf ⟨#[32]⟩ ++ (bytesOf x.f1 ++ (bytesOf ⟨#[40]⟩ ++ (vV true (zs.drop 1) ++ (bytesOf ⟨#[41,32]⟩ ++ (iQ (n + 1) (nd x.f4 m) ++ r))))))) w) (hn : ND w0 x (some ad) c) : Calls Tryz.prog 62 #[.pointer (some ⟨p,0,none⟩),val x (some ad) c] w (gW true p w0 F r (.tuple #[]) w):=by
 have HB:=Am hb;have H47:=Am h47;have HP:=Am hp;have HZL:=Am hzl;have HZS:=Am hzs;have uI:=Am hn.C.2.1;have HSZ:=Am (show x.f1.size ≤ 1048576 ∧ (nd x.f4 0).f1.size ≤ 1048576 from ⟨hs,hs0⟩);obtain ⟨A0,d0,hn0,hk0⟩:=ng hn.C (show 0 < x.f4.length by omega);have gJ:=Am hn0;have dD:=Am hk0;obtain ⟨ad1,A9,d9,e9,hn9,hkn9⟩:=uX hn.C m (by omega);obtain rfl:=Option.some.inj e9;have HN9:=Am hn9;have HK9:=Am hkn9;have wl : wrap64 ((x.f4.length : Int) - 1) = (m : Int):=by have:=hn.C.2.1;unfold wrap64;omega
 have nR : (0 : Int) < (x.f4.length : Int):=by omega
 have nS : 0 < x.f4.length:=by omega
 have q9a : (m : Int) < (x.f4.length : Int):=by omega
 have q9b : m < x.f4.length:=by omega
 have q9c : (0 : Int) ≤ (m : Int):=by omega
 have jY:=Am hl;have NC:=Am h1;have E:=PE.start h hn;clear h hn hn9 hkn9 e9 hb h47 hl hzl hzs hp hn0 hk0 hs hs0 h1;go_enter Tryz.func62,Tryz.ntmps62
 go_wp2
 replace E:=Am (E.out.step (W1:=(w.alloc (.cells #[.int .i64 x.f0,.string x.f1,.int .u32 x.f2,.bool x.f3,.slice (some ad) x.f4.length c,.int .i64 x.f5] 25 (0,0))).drew) (Z6 (Below.refl _ _)));refine gy (n:=12) (S:=fun w' => w'.cell? ⟨w.heap.size,4,none⟩ = some (.slice (some ad) x.f4.length c) ∧ w'.cell? ⟨ad.block,ad.off + 1,none⟩ = some (.string (nd x.f4 0).f1) ∧ w'.cell? ⟨w.heap.size,1,none⟩ = some (.string x.f1)) (ds:=[]) (Array.replicate 12 false) (by kernel_rfl) rfl rfl ⟨E.out.cells.2.2.2.2.1,(dD.out.at E.out.st.b).2.1,E.out.cells.2.1⟩ (fun hHeld => ?_);refine eu (T:=iC .any (opsOf Tryz.f62 2)) (by kernel_rfl) (fun aG => ?_);generalize (w.alloc (.cells #[.int .i64 x.f0,.string x.f1,.int .u32 x.f2,.bool x.f3,.slice (some ad) x.f4.length c,.int .i64 x.f5] 25 (0,0))).drew = w7 at E hHeld ⊢;refine rp 0 11 aG (h:=?_);refine rp 1 12 aG (h:=?_);refine rt 2 13 aG hHeld (h:=?_);refine rp 3 14 aG (h:=?_);refine rp 4 15 aG (h:=?_);refine rt 5 16 aG hHeld (h:=?_);refine rp (v:=.string (((nd x.f4 0).f1 ++ (⟨#[32]⟩ : ByteArray)))) 6 17 aG (hy:=by intro w';go_simp;have:=HSZ.out;omega) (h:=?_);refine rp 7 18 aG (h:=?_);refine rt 8 19 aG hHeld (h:=?_);refine rp (v:=.string (((nd x.f4 0).f1 ++ (⟨#[32]⟩ : ByteArray)) ++ x.f1)) 9 20 aG (hy:=by intro w';go_simp;have:=HSZ.out;omega) (h:=?_);refine rp (v:=.string (((nd x.f4 0).f1 ++ (⟨#[32]⟩ : ByteArray)) ++ x.f1 ++ ⟨#[40]⟩)) 10 21 aG (hy:=by intro w';go_simp;have:=HSZ.out;omega) (h:=?_);refine rc 11 22 aG (h:=fun K hK => ?_);(try clear c0 c1 c2 c3 c4 c5);refine jQ Tryz.func60 (by kernel_rfl) rfl #[.pointer (some ⟨p,0,none⟩),.string (((nd x.f4 0).f1 ++ (⟨#[32]⟩ : ByteArray)) ++ x.f1 ++ ⟨#[40]⟩)] (by rfl) rfl rfl (by (try simp only [List.map_toArray,List.map_cons,List.map_nil]);first|done|rfl) (PE.eF E (fun w8 E c0 c1 c2 c3 c4 c5 => ?_));refine ⟨_,rfl,?_⟩;refine hK.out _ _ ⟨E.out.cells.2.2.2.2.1,(dD.out.at E.out.st.b).2.1,E.out.cells.2.1⟩ (fun hHeld => rn ?_);clear hK K;refine wu aG ?_;try go_wp2
 try clear c0 c1 c2 c3 c4 c5
 (try simp only [wl]);go_loopg [5] m (fun kq v w' => ∃ i : Nat,v = .int .i64 i ∧ Ad (i + kq = m + 1) ∧ Ad (1 ≤ i) ∧ Ad (PE true p w.heap.size w0 x (some ad) c F (vV (i == 1) (zs.drop i) ++ (bytesOf ⟨#[41,32]⟩ ++ (iQ (n + 1) (nd x.f4 m) ++ r))) w w'))
 case atStart => exact ⟨1,rfl,⟨by omega⟩,⟨Nat.le_refl _⟩,E⟩
 case round =>
  obtain ⟨i,rfl,HI,H1,EN⟩:=hrel;by_cases hi : i < m
  · have gZ:=Am hi;have qp : decide (i < m) = true:=decide_eq_true hi;have e1 : decide ((i : Int) < ((m : Nat) : Int)) = true:=decide_eq_true (by omega);have p1 : (0 : Int) ≤ (i : Int):=by omega
    have w3 : wrap64 ((i : Int) + 1) = (i : Int) + 1:=by have:=uI.out;have:=jY.out;unfold wrap64;omega
    have w4 : IntKind.i64.wrap ((i : Int) + 1) = (i : Int) + 1:=(bY _).trans w3;have q1 : (i : Int) < (x.f4.length : Int):=by omega
    have q2 : i < x.f4.length:=by omega
    obtain ⟨ad1,A',c',he,hn,hkn⟩:=uX EN.out.k.C i (by omega);obtain rfl:=Option.some.inj he;obtain ⟨hp1,hp2,hp3⟩:=HP.out i H1.out hi;obtain ⟨a2,rfl⟩:=aT hn.C (show 0 < (nd x.f4 i).f4.length by omega);obtain ⟨A3,d3,hn3,hk3⟩:=ng hn.C (show 0 < (nd x.f4 i).f4.length by omega);have qV:=Am hk3;have HU:=Am hp2;have q2a : (0 : Int) < ((nd x.f4 i).f4.length : Int):=by omega
    have q2b : 0 < (nd x.f4 i).f4.length:=by omega
    have z3 : (9223372036854775807 < (nd (nd x.f4 i).f4 0).f1.size + 1) = False:=eq_false (by unfold gY at hp3;omega);have HP1:=Am hp1;have HN:=Am hn;have oI:=Am hkn;obtain ⟨c0,c1,c2,c3,c4,c5⟩:=EN.out.cells;obtain ⟨k0,k1,k2,k3,k4,k5⟩:=oI.out.at EN.out.st.b;have E:=EN;rw [ps_at (show i < zs.length from by rw [HZL.out];exact hi),HZS.out i hi] at E;unfold paG at E;(try simp only [List.append_assoc] at E);clear hn hkn hn3 hk3 hp1 hp2 hp3 he;by_cases h0 : i = 1
    · have g1 : decide ((1 : Int) < (i : Int)) = false:=decide_eq_false (by have:=H1.out;omega);have g2 : decide (1 < i) = false:=decide_eq_false (by have:=H1.out;omega);rw [if_pos (beq_iff_eq.2 h0),List.nil_append] at E;have H0:=Am h0;clear h0 hi;rcases HU.out with hu|hu
      · have HUU:=Am (show ((nd x.f4 i).f2 == 1) = false from by rw [hu];rfl);rw [show bytesOf (sG (nd x.f4 i).f2) = [] from by unfold sG;rw [hu];rfl] at E;clear hu;(try simp only [List.nil_append] at E);cases hf3 : (nd x.f4 i).f3
        · rw [if_neg (by rw [hf3];decide),List.nil_append] at E;have HF3:=Am hf3;clear hf3;go_wp2_with (first
           | (with_reducible refine dJ rfl rfl rfl ?_;rintro g wa hg hz hB;have mZ:=Am hB;have HZ:=Am hz;have kJ:=Am hg;clear hg hz hB)
           | (refine dL rfl rfl rfl (x:=nd x.f4 i) (A:=some a2) (c:=c') rfl rfl HZ.out ?_;rintro wb hN hB;have EP:=E;replace E:=PE.box E.out.st E.out.frr (mZ.out.trans (hB.mono (Nat.le_of_eq kJ.out.symm))) (Nat.le_of_eq kJ.out.symm) hN HN.out;clear hN hB;(try clear c0 c1 c2 c3 c4 c5 k0 k1 k2 k3 k4 k5);obtain ⟨c0,c1,c2,c3,c4,c5⟩:=E.out.cells;obtain ⟨k30,k31,k32,k33,k34,uh⟩:=qV.out.at E.out.st.b;(try have u1:=HUU.out);(try have u3:=HF3.out))
           | (go_at_call 60;(try clear c0 c1 c2 c3 c4 c5);(with_reducible first|refine PE.dZ E ?_|refine PE.eG E ?_|refine PE.eH E ?_|refine PE.eF E ?_);intro w1 E c0 c1 c2 c3 c4 c5;(try (clear k30 k31 k32 k33 k34 uh;obtain ⟨k30,k31,k32,k33,k34,uh⟩:=qV.out.at E.out.st.b));(try (clear k0 k1 k2 k3 k4 k5;obtain ⟨k0,k1,k2,k3,k4,k5⟩:=oI.out.at E.out.st.b)))
           | fail)
          go_roundg (m + 1 - (i + 1))
          case measure => have:=HI.out;have:=gZ.out;omega
          case rel => exact ⟨i + 1,by (try simp only [w4,w3]);rfl,⟨by have:=HI.out;have:=gZ.out;omega⟩,⟨by omega⟩,⟨by rw [show (i + 1 == 1) = false from beq_eq_false_iff_ne.2 (by have:=H1.out;omega)];exact EP.out.back E.out⟩⟩
        · rw [if_pos hf3] at E;have HF3:=Am hf3;clear hf3;go_wp2_with (first
           | (with_reducible refine dJ rfl rfl rfl ?_;rintro g wa hg hz hB;have mZ:=Am hB;have HZ:=Am hz;have kJ:=Am hg;clear hg hz hB)
           | (refine dL rfl rfl rfl (x:=nd x.f4 i) (A:=some a2) (c:=c') rfl rfl HZ.out ?_;rintro wb hN hB;have EP:=E;replace E:=PE.box E.out.st E.out.frr (mZ.out.trans (hB.mono (Nat.le_of_eq kJ.out.symm))) (Nat.le_of_eq kJ.out.symm) hN HN.out;clear hN hB;(try clear c0 c1 c2 c3 c4 c5 k0 k1 k2 k3 k4 k5);obtain ⟨c0,c1,c2,c3,c4,c5⟩:=E.out.cells;obtain ⟨k30,k31,k32,k33,k34,uh⟩:=qV.out.at E.out.st.b;(try have u1:=HUU.out);(try have u3:=HF3.out))
           | (go_at_call 60;(try clear c0 c1 c2 c3 c4 c5);(with_reducible first|refine PE.dZ E ?_|refine PE.eG E ?_|refine PE.eH E ?_|refine PE.eF E ?_);intro w1 E c0 c1 c2 c3 c4 c5;(try (clear k30 k31 k32 k33 k34 uh;obtain ⟨k30,k31,k32,k33,k34,uh⟩:=qV.out.at E.out.st.b));(try (clear k0 k1 k2 k3 k4 k5;obtain ⟨k0,k1,k2,k3,k4,k5⟩:=oI.out.at E.out.st.b)))
           | fail)
          go_roundg (m + 1 - (i + 1))
          case measure => have:=HI.out;have:=gZ.out;omega
          case rel => exact ⟨i + 1,by (try simp only [w4,w3]);rfl,⟨by have:=HI.out;have:=gZ.out;omega⟩,⟨by omega⟩,⟨by rw [show (i + 1 == 1) = false from beq_eq_false_iff_ne.2 (by have:=H1.out;omega)];exact EP.out.back E.out⟩⟩
      · have HUU:=Am (show ((nd x.f4 i).f2 == 1) = true from by rw [hu];rfl);rw [show bytesOf (sG (nd x.f4 i).f2) = bytesOf ⟨#[42]⟩ from by unfold sG;rw [hu];rfl] at E;clear hu;(try simp only [List.nil_append] at E);cases hf3 : (nd x.f4 i).f3
        · rw [if_neg (by rw [hf3];decide),List.nil_append] at E;have HF3:=Am hf3;clear hf3;go_wp2_with (first
           | (with_reducible refine dJ rfl rfl rfl ?_;rintro g wa hg hz hB;have mZ:=Am hB;have HZ:=Am hz;have kJ:=Am hg;clear hg hz hB)
           | (refine dL rfl rfl rfl (x:=nd x.f4 i) (A:=some a2) (c:=c') rfl rfl HZ.out ?_;rintro wb hN hB;have EP:=E;replace E:=PE.box E.out.st E.out.frr (mZ.out.trans (hB.mono (Nat.le_of_eq kJ.out.symm))) (Nat.le_of_eq kJ.out.symm) hN HN.out;clear hN hB;(try clear c0 c1 c2 c3 c4 c5 k0 k1 k2 k3 k4 k5);obtain ⟨c0,c1,c2,c3,c4,c5⟩:=E.out.cells;obtain ⟨k30,k31,k32,k33,k34,uh⟩:=qV.out.at E.out.st.b;(try have u1:=HUU.out);(try have u3:=HF3.out))
           | (go_at_call 60;(try clear c0 c1 c2 c3 c4 c5);(with_reducible first|refine PE.dZ E ?_|refine PE.eG E ?_|refine PE.eH E ?_|refine PE.eF E ?_);intro w1 E c0 c1 c2 c3 c4 c5;(try (clear k30 k31 k32 k33 k34 uh;obtain ⟨k30,k31,k32,k33,k34,uh⟩:=qV.out.at E.out.st.b));(try (clear k0 k1 k2 k3 k4 k5;obtain ⟨k0,k1,k2,k3,k4,k5⟩:=oI.out.at E.out.st.b)))
           | fail)
          go_roundg (m + 1 - (i + 1))
          case measure => have:=HI.out;have:=gZ.out;omega
          case rel => exact ⟨i + 1,by (try simp only [w4,w3]);rfl,⟨by have:=HI.out;have:=gZ.out;omega⟩,⟨by omega⟩,⟨by rw [show (i + 1 == 1) = false from beq_eq_false_iff_ne.2 (by have:=H1.out;omega)];exact EP.out.back E.out⟩⟩
        · rw [if_pos hf3] at E;have HF3:=Am hf3;clear hf3;go_wp2_with (first
           | (with_reducible refine dJ rfl rfl rfl ?_;rintro g wa hg hz hB;have mZ:=Am hB;have HZ:=Am hz;have kJ:=Am hg;clear hg hz hB)
           | (refine dL rfl rfl rfl (x:=nd x.f4 i) (A:=some a2) (c:=c') rfl rfl HZ.out ?_;rintro wb hN hB;have EP:=E;replace E:=PE.box E.out.st E.out.frr (mZ.out.trans (hB.mono (Nat.le_of_eq kJ.out.symm))) (Nat.le_of_eq kJ.out.symm) hN HN.out;clear hN hB;(try clear c0 c1 c2 c3 c4 c5 k0 k1 k2 k3 k4 k5);obtain ⟨c0,c1,c2,c3,c4,c5⟩:=E.out.cells;obtain ⟨k30,k31,k32,k33,k34,uh⟩:=qV.out.at E.out.st.b;(try have u1:=HUU.out);(try have u3:=HF3.out))
           | (go_at_call 60;(try clear c0 c1 c2 c3 c4 c5);(with_reducible first|refine PE.dZ E ?_|refine PE.eG E ?_|refine PE.eH E ?_|refine PE.eF E ?_);intro w1 E c0 c1 c2 c3 c4 c5;(try (clear k30 k31 k32 k33 k34 uh;obtain ⟨k30,k31,k32,k33,k34,uh⟩:=qV.out.at E.out.st.b));(try (clear k0 k1 k2 k3 k4 k5;obtain ⟨k0,k1,k2,k3,k4,k5⟩:=oI.out.at E.out.st.b)))
           | fail)
          go_roundg (m + 1 - (i + 1))
          case measure => have:=HI.out;have:=gZ.out;omega
          case rel => exact ⟨i + 1,by (try simp only [w4,w3]);rfl,⟨by have:=HI.out;have:=gZ.out;omega⟩,⟨by omega⟩,⟨by rw [show (i + 1 == 1) = false from beq_eq_false_iff_ne.2 (by have:=H1.out;omega)];exact EP.out.back E.out⟩⟩
    · have g1 : decide ((1 : Int) < (i : Int)) = true:=decide_eq_true (by have:=H1.out;omega);have g2 : decide (1 < i) = true:=decide_eq_true (by have:=H1.out;omega);rw [if_neg (by simpa using h0)] at E;have H0:=Am h0;clear h0 hi;rcases HU.out with hu|hu
      · have HUU:=Am (show ((nd x.f4 i).f2 == 1) = false from by rw [hu];rfl);rw [show bytesOf (sG (nd x.f4 i).f2) = [] from by unfold sG;rw [hu];rfl] at E;clear hu;(try simp only [List.nil_append] at E);cases hf3 : (nd x.f4 i).f3
        · rw [if_neg (by rw [hf3];decide),List.nil_append] at E;have HF3:=Am hf3;clear hf3;go_wp2_with (first
           | (with_reducible refine dJ rfl rfl rfl ?_;rintro g wa hg hz hB;have mZ:=Am hB;have HZ:=Am hz;have kJ:=Am hg;clear hg hz hB)
           | (refine dL rfl rfl rfl (x:=nd x.f4 i) (A:=some a2) (c:=c') rfl rfl HZ.out ?_;rintro wb hN hB;have EP:=E;replace E:=PE.box E.out.st E.out.frr (mZ.out.trans (hB.mono (Nat.le_of_eq kJ.out.symm))) (Nat.le_of_eq kJ.out.symm) hN HN.out;clear hN hB;(try clear c0 c1 c2 c3 c4 c5 k0 k1 k2 k3 k4 k5);obtain ⟨c0,c1,c2,c3,c4,c5⟩:=E.out.cells;obtain ⟨k30,k31,k32,k33,k34,uh⟩:=qV.out.at E.out.st.b;(try have u1:=HUU.out);(try have u3:=HF3.out))
           | (go_at_call 60;(try clear c0 c1 c2 c3 c4 c5);(with_reducible first|refine PE.dZ E ?_|refine PE.eG E ?_|refine PE.eH E ?_|refine PE.eF E ?_);intro w1 E c0 c1 c2 c3 c4 c5;(try (clear k30 k31 k32 k33 k34 uh;obtain ⟨k30,k31,k32,k33,k34,uh⟩:=qV.out.at E.out.st.b));(try (clear k0 k1 k2 k3 k4 k5;obtain ⟨k0,k1,k2,k3,k4,k5⟩:=oI.out.at E.out.st.b)))
           | fail)
          go_roundg (m + 1 - (i + 1))
          case measure => have:=HI.out;have:=gZ.out;omega
          case rel => exact ⟨i + 1,by (try simp only [w4,w3]);rfl,⟨by have:=HI.out;have:=gZ.out;omega⟩,⟨by omega⟩,⟨by rw [show (i + 1 == 1) = false from beq_eq_false_iff_ne.2 (by have:=H1.out;omega)];exact EP.out.back E.out⟩⟩
        · rw [if_pos hf3] at E;have HF3:=Am hf3;clear hf3;go_wp2_with (first
           | (with_reducible refine dJ rfl rfl rfl ?_;rintro g wa hg hz hB;have mZ:=Am hB;have HZ:=Am hz;have kJ:=Am hg;clear hg hz hB)
           | (refine dL rfl rfl rfl (x:=nd x.f4 i) (A:=some a2) (c:=c') rfl rfl HZ.out ?_;rintro wb hN hB;have EP:=E;replace E:=PE.box E.out.st E.out.frr (mZ.out.trans (hB.mono (Nat.le_of_eq kJ.out.symm))) (Nat.le_of_eq kJ.out.symm) hN HN.out;clear hN hB;(try clear c0 c1 c2 c3 c4 c5 k0 k1 k2 k3 k4 k5);obtain ⟨c0,c1,c2,c3,c4,c5⟩:=E.out.cells;obtain ⟨k30,k31,k32,k33,k34,uh⟩:=qV.out.at E.out.st.b;(try have u1:=HUU.out);(try have u3:=HF3.out))
           | (go_at_call 60;(try clear c0 c1 c2 c3 c4 c5);(with_reducible first|refine PE.dZ E ?_|refine PE.eG E ?_|refine PE.eH E ?_|refine PE.eF E ?_);intro w1 E c0 c1 c2 c3 c4 c5;(try (clear k30 k31 k32 k33 k34 uh;obtain ⟨k30,k31,k32,k33,k34,uh⟩:=qV.out.at E.out.st.b));(try (clear k0 k1 k2 k3 k4 k5;obtain ⟨k0,k1,k2,k3,k4,k5⟩:=oI.out.at E.out.st.b)))
           | fail)
          go_roundg (m + 1 - (i + 1))
          case measure => have:=HI.out;have:=gZ.out;omega
          case rel => exact ⟨i + 1,by (try simp only [w4,w3]);rfl,⟨by have:=HI.out;have:=gZ.out;omega⟩,⟨by omega⟩,⟨by rw [show (i + 1 == 1) = false from beq_eq_false_iff_ne.2 (by have:=H1.out;omega)];exact EP.out.back E.out⟩⟩
      · have HUU:=Am (show ((nd x.f4 i).f2 == 1) = true from by rw [hu];rfl);rw [show bytesOf (sG (nd x.f4 i).f2) = bytesOf ⟨#[42]⟩ from by unfold sG;rw [hu];rfl] at E;clear hu;(try simp only [List.nil_append] at E);cases hf3 : (nd x.f4 i).f3
        · rw [if_neg (by rw [hf3];decide),List.nil_append] at E;have HF3:=Am hf3;clear hf3;go_wp2_with (first
           | (with_reducible refine dJ rfl rfl rfl ?_;rintro g wa hg hz hB;have mZ:=Am hB;have HZ:=Am hz;have kJ:=Am hg;clear hg hz hB)
           | (refine dL rfl rfl rfl (x:=nd x.f4 i) (A:=some a2) (c:=c') rfl rfl HZ.out ?_;rintro wb hN hB;have EP:=E;replace E:=PE.box E.out.st E.out.frr (mZ.out.trans (hB.mono (Nat.le_of_eq kJ.out.symm))) (Nat.le_of_eq kJ.out.symm) hN HN.out;clear hN hB;(try clear c0 c1 c2 c3 c4 c5 k0 k1 k2 k3 k4 k5);obtain ⟨c0,c1,c2,c3,c4,c5⟩:=E.out.cells;obtain ⟨k30,k31,k32,k33,k34,uh⟩:=qV.out.at E.out.st.b;(try have u1:=HUU.out);(try have u3:=HF3.out))
           | (go_at_call 60;(try clear c0 c1 c2 c3 c4 c5);(with_reducible first|refine PE.dZ E ?_|refine PE.eG E ?_|refine PE.eH E ?_|refine PE.eF E ?_);intro w1 E c0 c1 c2 c3 c4 c5;(try (clear k30 k31 k32 k33 k34 uh;obtain ⟨k30,k31,k32,k33,k34,uh⟩:=qV.out.at E.out.st.b));(try (clear k0 k1 k2 k3 k4 k5;obtain ⟨k0,k1,k2,k3,k4,k5⟩:=oI.out.at E.out.st.b)))
           | fail)
          go_roundg (m + 1 - (i + 1))
          case measure => have:=HI.out;have:=gZ.out;omega
          case rel => exact ⟨i + 1,by (try simp only [w4,w3]);rfl,⟨by have:=HI.out;have:=gZ.out;omega⟩,⟨by omega⟩,⟨by rw [show (i + 1 == 1) = false from beq_eq_false_iff_ne.2 (by have:=H1.out;omega)];exact EP.out.back E.out⟩⟩
        · rw [if_pos hf3] at E;have HF3:=Am hf3;clear hf3;go_wp2_with (first
           | (with_reducible refine dJ rfl rfl rfl ?_;rintro g wa hg hz hB;have mZ:=Am hB;have HZ:=Am hz;have kJ:=Am hg;clear hg hz hB)
           | (refine dL rfl rfl rfl (x:=nd x.f4 i) (A:=some a2) (c:=c') rfl rfl HZ.out ?_;rintro wb hN hB;have EP:=E;replace E:=PE.box E.out.st E.out.frr (mZ.out.trans (hB.mono (Nat.le_of_eq kJ.out.symm))) (Nat.le_of_eq kJ.out.symm) hN HN.out;clear hN hB;(try clear c0 c1 c2 c3 c4 c5 k0 k1 k2 k3 k4 k5);obtain ⟨c0,c1,c2,c3,c4,c5⟩:=E.out.cells;obtain ⟨k30,k31,k32,k33,k34,uh⟩:=qV.out.at E.out.st.b;(try have u1:=HUU.out);(try have u3:=HF3.out))
           | (go_at_call 60;(try clear c0 c1 c2 c3 c4 c5);(with_reducible first|refine PE.dZ E ?_|refine PE.eG E ?_|refine PE.eH E ?_|refine PE.eF E ?_);intro w1 E c0 c1 c2 c3 c4 c5;(try (clear k30 k31 k32 k33 k34 uh;obtain ⟨k30,k31,k32,k33,k34,uh⟩:=qV.out.at E.out.st.b));(try (clear k0 k1 k2 k3 k4 k5;obtain ⟨k0,k1,k2,k3,k4,k5⟩:=oI.out.at E.out.st.b)))
           | fail)
          go_roundg (m + 1 - (i + 1))
          case measure => have:=HI.out;have:=gZ.out;omega
          case rel => exact ⟨i + 1,by (try simp only [w4,w3]);rfl,⟨by have:=HI.out;have:=gZ.out;omega⟩,⟨by omega⟩,⟨by rw [show (i + 1 == 1) = false from beq_eq_false_iff_ne.2 (by have:=H1.out;omega)];exact EP.out.back E.out⟩⟩
  · have qp : decide (i < m) = false:=decide_eq_false hi;have e1 : decide ((i : Int) < ((m : Nat) : Int)) = false:=decide_eq_false (by omega);rw [ps_end (show ¬ i < zs.length from by rw [HZL.out];exact hi),List.nil_append] at EN;have E:=EN;obtain ⟨c0,c1,c2,c3,c4,c5⟩:=E.out.cells;obtain ⟨k90,k91,k92,k93,k94,k95⟩:=HK9.out.at E.out.st.b;clear hi HI EN;go_wp2_with (first
     | (go_at_call 60;(try clear c0 c1 c2 c3 c4 c5);(with_reducible first|refine PE.dZ E ?_|refine PE.eG E ?_|refine PE.eH E ?_|refine PE.eF E ?_);intro w1 E c0 c1 c2 c3 c4 c5;(try (clear k90 k91 k92 k93 k94 k95;obtain ⟨k90,k91,k92,k93,k94,k95⟩:=HK9.out.at E.out.st.b)))
     | (go_at_call 39;(try clear c0 c1 c2 c3 c4 c5);(with_reducible refine PE.call E E.out (fun st => je.k47 HB.out H47.out st HN9.out) (fun w1 E c0 c1 c2 c3 c4 c5 => ?_)))
     | fail)
    first|go_end0|(refine bodyPost_ret (results_none rfl _ _ _) rfl ?_)
    exact ⟨rfl,E.out.st,E.out.fr⟩
theorem je.k45 {n m : Nat} {zs : List ak} {p : Nat} {w0 w : World} {F r : List Int} {x : ak} {ad : Addr} {c : Nat} (hd : x.f0 = 45) (hb : ∀ y ∈ (nd x.f4 m).f4,rQ n y) (h47 : (nd x.f4 m).f0 = 47) (hl : x.f4.length = m + 1) (h1 : 1 ≤ m) (hzl : zs.length = m) (hzs : ∀ i,i < m → nd zs i = nd x.f4 i) (hs : gY x.f1) (hs0 : gY (nd x.f4 0).f1) (hp : ∀ i,1 ≤ i → i < m → (nd x.f4 i).f4.length = 1 ∧ ((nd x.f4 i).f2 = 0 ∨ (nd x.f4 i).f2 = 1) ∧ gY (nd (nd x.f4 i).f4 0).f1)
 (h : St true p w0 F (bytesOf (nd x.f4 0).f1 ++ (bytesOf ⟨#[32]⟩ ++ (bytesOf x.f1 ++ (bytesOf ⟨#[40]⟩ ++ (vV true (zs.drop 1) ++ (bytesOf ⟨#[41,32]⟩ ++ (iQ (n + 1) (nd x.f4 m) ++ r))))))) w) (hn : ND w0 x (some ad) c) : Calls Tryz.prog 39 #[.pointer (some ⟨p,0,none⟩),val x (some ad) c] w (gW true p w0 F r (.tuple #[]) w):=by
 have HA:=Am (And.intro hb (And.intro h47 (And.intro hl (And.intro h1 (And.intro hzl (And.intro hzs (And.intro hs (And.intro hs0 hp))))))));have qW : (x.f0 == 41) = false:=by rw [hd];rfl
 have rJ : (x.f0 == 42) = false:=by rw [hd];rfl
 have uV : (x.f0 == 45) = true:=by rw [hd];rfl
 have nZ : (x.f0 == 47) = false:=by rw [hd];rfl
 have rH : (x.f0 == 48) = false:=by rw [hd];rfl
 have oM : (x.f0 == 49) = false:=by rw [hd];rfl
 have oW : (x.f0 == 50) = false:=by rw [hd];rfl
 have pz : (x.f0 == 51) = false:=by rw [hd];rfl
 have qj : (x.f0 == 52) = false:=by rw [hd];rfl
 have uY : (x.f0 == 53) = false:=by rw [hd];rfl
 have uZ : (x.f0 == 54) = false:=by rw [hd];rfl
 have oZ : (x.f0 == 56) = false:=by rw [hd];rfl
 have uF : (x.f0 == 55) = false:=by rw [hd];rfl
 have E:=PE.start h hn;clear h hn hb h47 hl h1 hzl hzs hs hs0 hp;have HKK:=Am hd;clear hd;go_enter Tryz.func39,Tryz.ntmps39
 go_wp2_with (first
  | (go_at_call 62;(try clear c0 c1 c2 c3 c4 c5);(with_reducible refine PE.callX E E.out (fun st => fnR.all HA.out.1 HA.out.2.1 HA.out.2.2.1 HA.out.2.2.2.1 HA.out.2.2.2.2.1 HA.out.2.2.2.2.2.1 HA.out.2.2.2.2.2.2.1 HA.out.2.2.2.2.2.2.2.1 HA.out.2.2.2.2.2.2.2.2 st E.out.k) (fun w1 E c0 c1 c2 c3 c4 c5 => ?_)))
  | fail)
 first|go_end0|(refine bodyPost_ret (results_none rfl _ _ _) rfl ?_)
 exact ⟨rfl,E.out.st,E.out.fr⟩
theorem je.all {n : Nat} {x : ak} (K : ∀ y : ak,SizeOf.sizeOf y < n → pG y = true → Tm y → rQ n y) (hz : SizeOf.sizeOf x ≤ n) (hx : pG x = true) (hm : Tm x) : rQ (n + 1) x:=by
 intro p w0 w F r A c h hn;have hy:=ln_may hx;have he : ∀ y ∈ x.f4,bJ y = true → jL n y:=fun y hy h => (knE n).e y (Nat.lt_of_lt_of_le (dI hy) hz) h (hm.kid hy)
 have hl : ∀ y ∈ x.f4,pG y = true → rQ n y:=fun y hy h => K y (Nat.lt_of_lt_of_le (dI hy) hz) h (hm.kid hy)
 have hc : isS x = true ∨ x.f0 = 41 ∨ x.f0 = 42 ∨ x.f0 = 45:=by
  unfold pG at hx;simp only [Bool.and_eq_true,Bool.or_eq_true,decide_eq_true_eq] at hx;exact hx.1
 rw [uG] at hc;by_cases EL : x.f0 = 41
 · exact je.k41 hm.str (fun y hy' => hl y hy' (de_41 hy EL y hy')) EL h hn
 by_cases h42 : x.f0 = 42
 · exact je.k42 (hm.kid (aQ (by have:=(de_42 hy h42).1;omega))).str hz h42 hy hm h hn
 by_cases h45 : x.f0 = 45
 · obtain ⟨h2,h47,hb,hp⟩:=fn_45 hy h45;obtain ⟨m,hm1⟩ : ∃ m,x.f4.length = m + 1:=⟨x.f4.length - 1,by omega⟩
   rw [IC h45] at h;unfold ln45 at h;rw [hm1,Nat.add_sub_cancel] at h hp h47 hb;have hme : nd x.f4 m ∈ x.f4:=aQ (by omega);rw [show Lj (iQ n) (nd x.f4 m).f4 ++ bytesOf ⟨#[10]⟩ = iQ (n + 1) (nd x.f4 m) from by rw [Ey h47];rfl] at h;simp only [List.append_assoc] at h;obtain ⟨ad,rfl⟩:=aT hn.C (show 0 < x.f4.length by omega);refine je.k45 h45 (fun y hy' => K y (by have:=dI hme;have:=dI hy';omega) (hb y hy') ((hm.kid hme).kid hy')) h47 hm1 (by omega) (zs:=x.f4.take m) (by rw [List.length_take];omega) (fun i hi => ?_) hm.str (hm.kid (aQ (by omega))).str (fun i hi1 hi2 => ?_) h hn
   · unfold nd;rw [List.getD_eq_getElem?_getD,List.getD_eq_getElem?_getD,List.getElem?_take,if_pos hi]
   · have hmi : nd x.f4 i ∈ x.f4:=aQ (by omega);have h3 : nd x.f4 i ∈ (x.f4.take m).drop 1:=by
      have h4:=aQ (xs:=(x.f4.take m).drop 1) (i:=i - 1) (by rw [List.length_drop,List.length_take];omega);rw [iP,show i - 1 + 1 = i by omega] at h4;have h5 : nd (x.f4.take m) i = nd x.f4 i:=by
       unfold nd;rw [List.getD_eq_getElem?_getD,List.getD_eq_getElem?_getD,List.getElem?_take,if_pos hi2]
      rwa [h5] at h4
     obtain ⟨_,p2,p3⟩:=pa_46 (hp _ h3);have:=(hm.kid hmi).num;exact ⟨p3,by omega,((hm.kid hmi).kid (aQ (by omega))).str⟩
 by_cases h47 : x.f0 = 47
 · exact je.k47 (fun y hy' => hl y hy' (st_47 hy h47 y hy')) h47 h hn
 by_cases h48 : x.f0 = 48
 · obtain ⟨h1,h2⟩:=st_48 hy h48;exact je.k48 he h1 h2 h48 h hn
 by_cases sD : x.f0 = 49
 · obtain ⟨h1 | ⟨h1,h4⟩,h2,h3⟩:=st_49 hy sD
   · exact je.k49a he hl h1 h2 h3 sD h hn
   · exact je.k49b he hl h1 h2 h3 h4 sD h hn
 by_cases h50 : x.f0 = 50
 · obtain ⟨h1,h2,h3⟩:=st_50 hy h50;exact je.k50 he hl h1 h2 h3 h50 h hn
 by_cases EI : x.f0 = 51
 · obtain ⟨h1,h2,h3⟩:=st_51 hy EI;exact je.k51 he hl h1 h2 h3 EI h hn
 by_cases zN : x.f0 = 52
 · exact je.k52 hl hz hy hm zN h hn
 by_cases h53 : x.f0 = 53
 · exact je.k53 h53 h hn
 by_cases h54 : x.f0 = 54
 · exact je.k54 h54 h hn
 by_cases EJ : x.f0 = 55
 · rcases st_55 hy EJ with h1 | ⟨h1,h2⟩
   · exact je.k55a h1 EJ h hn
   · exact je.k55b he h1 h2 EJ h hn
 exact je.k56 (by omega) h hn
theorem knL : ∀ n : Nat,∀ y : ak,SizeOf.sizeOf y < n → pG y = true → Tm y → rQ n y
 | 0,_,h,_,_ => absurd h (Nat.not_lt_zero _)
 | n + 1,y,h,hx,hm => je.all (knL n) (Nat.le_of_lt_succ h) hx hm
def qB (c : Int) : Prop:=c ≠ 45 ∧ c ≠ 126 ∧ c ≠ 33 ∧ c ≠ 38
theorem ex_9s {x : ak} (h : bJ x = true) (hk : x.f0 = 9) : x.f1.data.toList ∈ ([[45],[126],[33],[38]] : List Bs):=by
 have h1:=(dw h).2.2.2.1;rw [show aV x = e9 x from by unfold aV;simp [hk]] at h1;unfold e9 at h1;simp only [Bool.and_eq_true] at h1;exact one_un h1.1.2
theorem lv_le (x : ak) : lv x ≤ 13:=by
 have:=vU x.f1;unfold lv
 repeat' split
 all_goals omega
theorem Nj (u : Nat) : ∃ c t,Lib.decDigits u = c :: t ∧ 48 ≤ c.toNat ∧ c.toNat ≤ 57:=by
 induction u using Nat.strongRecOn with
 | _ u ih =>
  rw [Lib.decDigits]
  split
  · rename_i h
    exact ⟨_,_,rfl,by simp;omega,by simp;omega⟩
  · rename_i h
    obtain ⟨c,t,e,h1,h2⟩:=ih (u / 10) (by omega);exact ⟨c,t ++ _,by rw [e];rfl,h1,h2⟩
theorem wi_noOp {c : UInt8} (h : wi c = true) : qB (c.toNat : Int):=by
 unfold wi H8 Bz at h;simp only [Bool.or_eq_true,Bool.and_eq_true,decide_eq_true_eq] at h;unfold qB;omega
theorem zu {s : ByteArray} (h : jD s = true) : ∃ c t,s.data.toList = c :: t ∧ qB (c.toNat : Int):=by
 unfold jD at h;rw [Bool.and_eq_true] at h;have h1:=h.1
 match hs : s.data.toList with
 | [] => rw [hs] at h1;cases h1
 | c :: t =>
  rw [hs] at h1;unfold named at h1;simp only [Bool.and_eq_true,List.all_cons] at h1;exact ⟨c,t,rfl,wi_noOp h1.2.1⟩
theorem fbyte : ∀ (n : Nat) (y : ak),SizeOf.sizeOf y < n → bJ y = true → lv y = 13 → ∃ c t,dX n y = c :: t ∧ qB c
 | 0,_,h,_,_ => absurd h (Nat.not_lt_zero _)
 | n + 1,y,hz,hx,hv => by
  have hr:=dw hx;have hop:=vU y.f1;have hk : y.f0 ≤ 8:=by
   unfold lv at hv;rcases Int.lt_or_le 8 y.f0 with h|h
   · exfalso;have : y.f0 = 9 ∨ y.f0 = 10 ∨ y.f0 = 11 ∨ y.f0 = 12 ∨ y.f0 = 13 ∨ y.f0 = 14 ∨ y.f0 = 15:=by omega
     rcases this with e|e|e|e|e|e|e <;> simp [e] at hv <;> omega
   · exact h
  have hat : ∀ z ∈ y.f4,bJ z = true → ∃ c t,oO (dX n) z 13 = c :: t ∧ qB c:=fun z hz' hx' => by
   unfold oO;by_cases h : lv z < 13
   · rw [if_pos h];exact ⟨40,_,rfl,by unfold qB;omega⟩
   · rw [if_neg h];exact fbyte n z (by have:=dI hz';omega) hx' (by have:=lv_le z;omega)
  have h1:=hr.2.2.2.1;have : y.f0 = 1 ∨ y.f0 = 2 ∨ y.f0 = 3 ∨ y.f0 = 4 ∨ y.f0 = 5 ∨ y.f0 = 6 ∨ y.f0 = 7 ∨ y.f0 = 8:=by omega
  rcases this with e|e|e|e|e|e|e|e
  · rw [Df e];obtain ⟨c,t,e1,e2,e3⟩:=Nj y.f2.toNat;refine ⟨c.toNat,_,by unfold ex1 MC bytesOf;rw [e1];rfl,by unfold qB;omega⟩
  · rw [KX e];exact ⟨39,_,rfl,by unfold qB;omega⟩
  · rw [KY e];exact ⟨34,_,rfl,by unfold qB;omega⟩
  · rw [KZ e];rw [show aV y = e4 y from by unfold aV;simp [e]] at h1;unfold e4 at h1;simp only [Bool.and_eq_true] at h1;obtain ⟨c,t,e1,e2⟩:=zu h1.1.2;exact ⟨c.toNat,_,by unfold ex4 bytesOf;rw [e1];rfl,e2⟩
  · rw [La e];obtain ⟨hl,h0,_⟩:=ex_5 hx e;obtain ⟨c,t,e1,e2⟩:=hat _ (aQ (by omega)) h0;exact ⟨c,_,by unfold ex5;rw [e1];rfl,e2⟩
  · rw [Lc e];obtain ⟨hl,h0⟩:=ex_6 hx e;obtain ⟨c,t,e1,e2⟩:=hat _ (aQ (by omega)) h0;exact ⟨c,_,by unfold ex6;rw [e1];rfl,e2⟩
  · rw [Ld e];obtain ⟨hl,h0⟩:=ex_7 hx e;obtain ⟨c,t,e1,e2⟩:=hat _ (aQ (by omega)) h0;exact ⟨c,_,by unfold ex7;rw [e1];rfl,e2⟩
  · rw [Le e];rw [show aV y = e8 y from by unfold aV;simp [e]] at h1;unfold e8 at h1;simp only [Bool.and_eq_true,Bool.or_eq_true,beq_iff_eq,Lib.toList_data] at h1;rcases h1.1.2 with (h2|h2)|h2
    · obtain ⟨c,t,e1,e2⟩:=zu h2;exact ⟨c.toNat,_,by unfold ex8 bytesOf;rw [e1];rfl,e2⟩
    · exact ⟨103,_,by unfold ex8 bytesOf;rw [h2];rfl,by unfold qB;omega⟩
    · exact ⟨112,_,by unfold ex8 bytesOf;rw [h2];rfl,by unfold qB;omega⟩
theorem fb_at {n : Nat} {y : ak} (hz : SizeOf.sizeOf y < n) (hx : bJ y = true) : ∃ c t,oO (dX n) y 12 = c :: t ∧ (y.f0 ≠ 9 → qB c) ∧ (y.f0 = 9 → ∃ k : UInt8,y.f1.data.toList = [k] ∧ c = (k.toNat : Int)):=by
 obtain ⟨m,rfl⟩ : ∃ m,n = m + 1:=⟨n - 1,by omega⟩
 unfold oO;by_cases h : lv y < 12
 · rw [if_pos h];refine ⟨40,_,rfl,fun _ => by unfold qB;omega,fun e => ?_⟩;unfold lv at h;simp [e] at h
 · rw [if_neg h];by_cases h13 : lv y = 13
   · obtain ⟨c,t,e1,e2⟩:=fbyte (m + 1) y hz hx h13;refine ⟨c,t,e1,fun _ => e2,fun e => ?_⟩;unfold lv at h13;simp [e] at h13
   · have hr:=dw hx;have hop:=vU y.f1;have : y.f0 = 9 ∨ y.f0 = 14 ∨ y.f0 = 15:=by
      have:=lv_le y;have h12 : lv y = 12:=by omega
      unfold lv at h12;by_cases a1 : y.f0 = 13
      · simp [a1] at h12
      by_cases a2 : y.f0 = 12
      · simp [a2] at h12
      by_cases a3 : y.f0 = 10 ∨ y.f0 = 11
      · rw [if_neg a1,if_neg a2,if_pos a3] at h12;omega
      by_cases a4 : y.f0 = 9 ∨ y.f0 = 14 ∨ y.f0 = 15
      · exact a4
      rw [if_neg a1,if_neg a2,if_neg a3,if_neg a4] at h12;omega
     rcases this with e|e|e
     · rw [AL e];have hs:=ex_9s hx e;obtain ⟨k,hk⟩ : ∃ k,y.f1.data.toList = [k]:=by
        simp only [List.mem_cons,List.not_mem_nil,or_false] at hs;rcases hs with h|h|h|h <;> exact ⟨_,h⟩
       exact ⟨k.toNat,_,by unfold ex9 bytesOf;rw [hk];rfl,fun h => absurd e h,fun _ => ⟨k,hk,rfl⟩⟩
     · rw [Es e];exact ⟨40,_,rfl,fun _ => by unfold qB;omega,fun h => absurd h (by omega)⟩
     · rw [yU e];unfold Gy;by_cases a : (nd y.f4 0).f0 = 16
       · rw [if_pos a];exact ⟨115,_,rfl,fun _ => by unfold qB;omega,fun h => absurd h (by omega)⟩
       · rw [if_neg a];by_cases b : (nd y.f4 0).f0 = 14
         · rw [if_pos b];exact ⟨115,_,rfl,fun _ => by unfold qB;omega,fun h => absurd h (by omega)⟩
         · rw [if_neg b];exact ⟨115,_,rfl,fun _ => by unfold qB;omega,fun h => absurd h (by omega)⟩
open Go.Lib Go.Proofs
theorem xX.shift (b off n c i vb voff m vc : Nat) (cs vs : List Value) (w : World) (hi : i < n) (hm : 0 < m) (hroom : n + m ≤ c) (hc63 : c ≤ 9223372036854775807) (hvb : vb ≠ b)
 (hcl : cs.length = n) (hvl : vs.length = m)
 (hcs : ∀ j v,cs[j]? = some v → w.cell? ⟨b,off + j,none⟩ = some v) (hsp : ∀ j,j < n + m → (w.cell? ⟨b,off + j,none⟩).isSome = true) (hfz : ∀ j,j < n + m → w.frozen? ⟨b,off + j,none⟩ = false)
 (hvs : ∀ j v,vs[j]? = some v → w.cell? ⟨vb,voff + j,none⟩ = some v) (h1c : ∀ v ∈ cs,v.oneCell' = true) (h1v : ∀ v ∈ vs,v.oneCell' = true)
 (tA tB : TypeId) (kA kB : Nat) (hsa : w.shape? vb = some (tA,kA)) (hsb : w.shape? b = some (tB,kB)) (hkB : kB ≠ 0) (hfa : w.frozen? ⟨vb,voff,none⟩ = false) (hfe : w.frozen? ⟨vb,kA,none⟩ = false) :
 Calls Tryz.prog 116 #[.slice (some ⟨b,off,none⟩) n c,.int .i64 i,.slice (some ⟨vb,voff,none⟩) m vc] w fun e w' =>
  e = .returned (.slice (some ⟨b,off,none⟩) (n + m) c) ∧ w' = (w.drew.setCells b (off + (i + m)) (cs.drop i)).setCells b (off + i) vs:=by
 have t0:=Tryz.underlying0;have a0:=Tryz.isAgg0;have z0:=Tryz.sizeOf0;have v0:=Tryz.zeroValue0;have t3:=Tryz.underlying3;have a3:=Tryz.isAgg3;have z3:=Tryz.sizeOf3;have v3:=Tryz.zeroValue3;have t4:=Tryz.underlying4;have a4:=Tryz.isAgg4;have z4:=Tryz.sizeOf4;have v4:=Tryz.zeroValue4;have t9:=Tryz.underlying5;have a9:=Tryz.isAgg5;have z9:=Tryz.sizeOf5;have v9:=Tryz.zeroValue5;have t24:=Tryz.underlying40;have a24:=Tryz.isAgg40;have z24:=Tryz.sizeOf40;have v24:=Tryz.zeroValue40;have u0:=run_underlying Tryz.underlying0;have u3:=run_underlying Tryz.underlying3;have u4:=run_underlying Tryz.underlying4;have u9:=run_underlying Tryz.underlying5;have u24:=run_underlying Tryz.underlying40;have hz1 : ¬ ((m : Int) = 0):=by omega
 have hz2 : ¬ ((i : Int) = (n : Int)):=by omega
 have hsz : (Tryz.prog.info? 5).map (·.size) = some 1:=by
  obtain ⟨i0,hi0,h0,h1,h2⟩:=info_parts info5;rw [hi0];simp [h1]
 have hov : ∀ lb cb,(callFunc 127 #[.slice (some ⟨vb,voff,none⟩) m vc,.slice (some ⟨b,off + (i + m),none⟩) lb cb]).run Tryz.prog w = .ok (.value (.bool false)) w:=fun lb cb => by
  rw [run_callFunc_extern Tryz.func127 (by kernel_rfl) (by kernel_rfl) (by kernel_rfl) (e:=Extern.SlicesOverlaps.overlaps #[40,40] #[4]) (by kernel_rfl),
   Lib.run_overlaps_apart w 40 4 5 Tryz.underlying40 1 Tryz.sizeOf5 ⟨vb,voff,none⟩ ⟨b,off + (i + m),none⟩ m vc lb cb hvb tA tB kA kB hsa hsb hkB hfa hfe]
  rfl
 have hdl : (cs.drop i).length = n - i:=by rw [List.length_drop,hcl]
 have mixed:=(show Tryz.prog.follows .mixedOrders = true by kernel_rfl)
 have hw1 : IntKind.i64.wrap ((i : Int) + (m : Int)) = (i : Int) + (m : Int):=by rw [IntKind.wrap_i64];omega
 have hb1 : (0 : Int) ≤ (i : Int) + (m : Int):=by omega
 have hin : i ≤ n:=by omega
 have htn : ((i : Int) + (m : Int)).toNat = i + m:=by omega
 have hb2 : ¬ (c = i + m):=by omega
 have hb3 : (i : Int) ≤ (n : Int) + (m : Int):=by omega
 have hb4 : ¬ (c = i):=by omega
 have hcp1 : ∀ ty dc sc,(Builtin.copy_ #[40,40] ty #[.slice (some ⟨b,off + (i + m),none⟩) (n + m - (i + m)) dc,.slice (some ⟨b,off + i,none⟩) (n + m - i) sc]).run Tryz.prog w.drew = .ok (goInt (cs.drop i).length) (w.drew.setCells b (off + (i + m)) (cs.drop i)):=fun ty dc sc =>
  run_copy_cells w.drew _ _ ty 5 b (off + (i + m)) (n + m - (i + m)) dc ⟨b,off + i,none⟩ (n + m - i) sc (cs.drop i) Tryz.underlying40 hsz (by rw [hdl];simp only [Nat.min_def];split <;> omega)
   (fun j v hj => by rw [Addr.add_lit,Nat.add_assoc];exact hcs (i + j) v (by rwa [List.getElem?_drop] at hj))
   (fun j hj => by rw [Nat.add_assoc];exact hsp _ (by omega)) (fun j hj => by rw [Nat.add_assoc];exact hfz _ (by omega)) (fun v hv => h1c v (List.mem_of_mem_drop hv))
 obtain ⟨W1,hW1⟩ : ∃ W1,W1 = w.drew.setCells b (off + (i + m)) (cs.drop i):=⟨_,rfl⟩
 have hsp1 : ∀ k,k < n + m → (W1.cell? ⟨b,off + k,none⟩).isSome = true:=fun k hk => by
  rw [hW1];exact isSome_setCells b _ _ _ (fun j hj => by rw [Nat.add_assoc];exact hsp _ (by omega)) _ (hsp k hk)
 have hcp2 : ∀ (W : World),(∀ x,W.cell? x = W1.cell? x) → (∀ x,W.frozen? x = W1.frozen? x) → ∀ ty dc,(Builtin.copy_ #[40,40] ty #[.slice (some ⟨b,off + i,none⟩) (n + m - i) dc,.slice (some ⟨vb,voff,none⟩) m vc]).run Tryz.prog W = .ok (goInt vs.length) (W.setCells b (off + i) vs):=fun W hWc hWf ty dc =>
  run_copy_cells W _ _ ty 5 b (off + i) (n + m - i) dc ⟨vb,voff,none⟩ m vc vs Tryz.underlying40 hsz (by rw [hvl];simp only [Nat.min_def];split <;> omega)
   (fun j v hj => by
    rw [Addr.add_lit,hWc,hW1,World.cell?_setCells_out b _ _ _ _ (fun h _ => absurd h hvb)];exact hvs j v hj)
   (fun j hj => by rw [hWc,Nat.add_assoc];exact hsp1 _ (by omega)) (fun j hj => by rw [hWf,hW1,World.frozen?_setCells,Nat.add_assoc];exact hfz _ (by omega)) h1v
 rw [← hW1] at hcp1;go_enter Tryz.func116,Tryz.ntmps116
 go_wp2_with (simp only [hov])
 go_region_law_o (refine step_copy_runI rfl _ _ 40 40 rfl _ _ (by simp [Act.eval,Act.put]) (by simp [Act.eval,Act.put]) (hcp1 _ _ _) ?_)
 go_wp2_with (at_builtin;refine wpList_copy_runI _ rfl _ _ 40 40 rfl _ _ rfl rfl (hcp2 _ (fun _ => rfl) (fun _ => rfl) _ _) ?_)
 go_ret
 first|exact ⟨rfl,rfl⟩|exact ⟨rfl,by rw [hW1]⟩
theorem xX.grow (b off n c i vb voff m vc : Nat) (cs vs : List Value) (w : World) (hi : i < n) (hm : 0 < m) (hnc : n ≤ c) (hroom : c < n + m) (hbig : (n + m) * 1 ≤ 140737488355328)
 (hcl : cs.length = n) (hvl : vs.length = m)
 (hcs : ∀ j v,cs[j]? = some v → w.cell? ⟨b,off + j,none⟩ = some v)
 (hvs : ∀ j v,vs[j]? = some v → w.cell? ⟨vb,voff + j,none⟩ = some v) (h1c : ∀ v ∈ cs,v.oneCell' = true) (h1v : ∀ v ∈ vs,v.oneCell' = true) :
 Calls Tryz.prog 116 #[.slice (some ⟨b,off,none⟩) n c,.int .i64 i,.slice (some ⟨vb,voff,none⟩) m vc] w fun e w' =>
  e = .returned (.slice (some ⟨w.heap.size,0,none⟩) (n + m) (grownCap w (n + m) c 5)) ∧
  w' = (((w.alloc (.cells ((cs.take i).toArray ++ Builtin.zeroCells (Value.int .u8 0).cells (n + m - i) ++ Builtin.zeroCells (Value.int .u8 0).cells (grownCap w (n + m) c 5 - (n + m))) 5)).drew.setCells w.heap.size i vs).drew).setCells w.heap.size (i + m) (cs.drop i):=by
 have t0:=Tryz.underlying0;have a0:=Tryz.isAgg0;have z0:=Tryz.sizeOf0;have v0:=Tryz.zeroValue0;have t3:=Tryz.underlying3;have a3:=Tryz.isAgg3;have z3:=Tryz.sizeOf3;have v3:=Tryz.zeroValue3;have t4:=Tryz.underlying4;have a4:=Tryz.isAgg4;have z4:=Tryz.sizeOf4;have v4:=Tryz.zeroValue4;have t9:=Tryz.underlying5;have a9:=Tryz.isAgg5;have z9:=Tryz.sizeOf5;have v9:=Tryz.zeroValue5;have t24:=Tryz.underlying40;have a24:=Tryz.isAgg40;have z24:=Tryz.sizeOf40;have v24:=Tryz.zeroValue40;have u0:=run_underlying Tryz.underlying0;have u3:=run_underlying Tryz.underlying3;have u4:=run_underlying Tryz.underlying4;have u9:=run_underlying Tryz.underlying5;have u24:=run_underlying Tryz.underlying40;have mixed:=(show Tryz.prog.follows .mixedOrders = true by kernel_rfl)
 obtain ⟨i0,hi0,hz0,hzs,hzb⟩:=info_parts info5;have hz1 : ¬ ((m : Int) = 0):=by omega
 have hz2 : ¬ ((i : Int) = (n : Int)):=by omega
 have hz3 : (c : Int) < (n : Int) + (m : Int):=by omega
 have hsz : (Tryz.prog.info? 5).map (·.size) = some 1:=by rw [hi0];simp [hzs]
 have hbw : b < w.heap.size:=block_lt_of_cell (hcs 0 _ (List.getElem?_eq_getElem (by omega)));have hvw : vb < w.heap.size:=block_lt_of_cell (hvs 0 _ (List.getElem?_eq_getElem (by omega)));have hkk : (n : Int) + (m : Int) - (i : Int) = ((n + m - i : Nat) : Int):=by omega
 have hik : i + (n + m - i) = n + m:=by omega
 have hold : (Builtin.firstCells i0.size i (.slice (some ⟨b,off,none⟩) i c)).run Tryz.prog w.drew = .ok (cs.take i).toArray w.drew:=by
  rw [hzs];exact run_firstCells_some w.drew 1 i ⟨b,off,none⟩ i c (cs.take i) (by rw [List.length_take];omega) (fun j v hj => by
   rw [Addr.add_lit];rw [List.getElem?_take] at hj
   split at hj
   · exact hcs j v hj
   · cases hj)
 have hrz : ∀ ty,(Builtin.append_ #[40,3] ty #[.slice (some ⟨b,off,none⟩) i c,.int .i64 ((n : Int) + (m : Int) - (i : Int))]).run Tryz.prog w =
  .ok (.slice (some ⟨w.heap.size,0,none⟩) (n + m) (grownCap w (n + m) c 5)) (w.drew.alloc (.cells ((cs.take i).toArray ++ Builtin.zeroCells (Value.int .u8 0).cells (n + m - i) ++ Builtin.zeroCells (Value.int .u8 0).cells (grownCap w (n + m) c 5 - (n + m))) 5)):=fun ty => by
  have h:=Lib.run_append_grow_zeros w 40 3 ty 5 i0 _ .i64 .i64 Tryz.underlying40 Tryz.underlying3 hi0 hz0 (some ⟨b,off,none⟩) i c (cs.take i) hold (n + m - i) (by omega) (by omega) (by omega) (by omega) (by rw [hzb];omega) (by rw [hzb,hik];exact growslice_fits hroom hbig);rw [hik] at h;rw [hkk];exact h
 obtain ⟨G,hG⟩ : ∃ G,G = grownCap w (n + m) c 5:=⟨_,rfl⟩
 obtain ⟨ROW,hROW⟩ : ∃ ROW : Array Value,ROW = (cs.take i).toArray ++ Builtin.zeroCells (Value.int .u8 0).cells (n + m - i) ++ Builtin.zeroCells (Value.int .u8 0).cells (G - (n + m)):=⟨_,rfl⟩
 rw [← hG] at hrz ⊢;rw [← hROW] at hrz ⊢;have hRl : n + m ≤ ROW.size:=by
  rw [hROW];simp [Builtin.zeroCells,Value.cells];omega
 obtain ⟨W1,hW1⟩ : ∃ W1,W1 = w.drew.alloc (.cells ROW 5):=⟨_,rfl⟩
 rw [← hW1] at hrz;have hN : ∀ j,j < n + m → (W1.cell? ⟨w.heap.size,j,none⟩).isSome = true:=fun j hj => by
  rw [hW1,World.cell?_alloc_at (w:=w.drew) ROW _ w.heap.size j rfl,Array.getElem?_eq_getElem (by omega)];rfl
 have hNf : ∀ j,W1.frozen? ⟨w.heap.size,j,none⟩ = false:=fun j => by rw [hW1];exact World.frozen?_alloc_at (w:=w.drew) ROW _ w.heap.size j rfl
 have hOb : ∀ j v,w.cell? ⟨b,j,none⟩ = some v → W1.cell? ⟨b,j,none⟩ = some v:=fun j v h => by rw [hW1,World.cell?_alloc_past (w:=w.drew) _ b j hbw];exact h
 have hOv : ∀ j v,w.cell? ⟨vb,j,none⟩ = some v → W1.cell? ⟨vb,j,none⟩ = some v:=fun j v h => by rw [hW1,World.cell?_alloc_past (w:=w.drew) _ vb j hvw];exact h
 have hcpA : ∀ (W : World),(∀ x,W.cell? x = W1.cell? x) → (∀ x,W.frozen? x = W1.frozen? x) → ∀ ty dc,(Builtin.copy_ #[40,40] ty #[.slice (some ⟨w.heap.size,i,none⟩) (n + m - i) dc,.slice (some ⟨vb,voff,none⟩) m vc]).run Tryz.prog W = .ok (goInt vs.length) (W.setCells w.heap.size i vs):=fun W hWc hWf ty dc =>
  run_copy_cells W _ _ ty 5 w.heap.size i (n + m - i) dc ⟨vb,voff,none⟩ m vc vs Tryz.underlying40 hsz (by rw [hvl];simp only [Nat.min_def];split <;> omega)
   (fun j v hj => by rw [Addr.add_lit,hWc];exact hOv _ v (hvs j v hj))
   (fun j hj => by rw [hWc];exact hN _ (by omega)) (fun j hj => by rw [hWf];exact hNf _) h1v
 have hGn : n + m ≤ G:=by rw [hG];exact grownCap_ge w _ _ _
 have hG63 : G ≤ 9223372036854775807:=by
  have:=grownCap_le_maxLen w (n + m) c 5 (by unfold maxLen;omega);rw [← hG] at this;unfold maxLen at this;omega
 have hGi : ¬ (G = i):=by omega
 have hGim : ¬ (G = i + m):=by omega
 have hci : ¬ (c = i):=by omega
 have hbN : b ≠ w.heap.size:=by omega
 have hdl : (cs.drop i).length = n - i:=by rw [List.length_drop,hcl]
 have hcpB : ∀ (W : World),(∀ x,W.cell? x = (W1.setCells w.heap.size i vs).cell? x) → (∀ x,W.frozen? x = (W1.setCells w.heap.size i vs).frozen? x) → ∀ ty dc sc,(Builtin.copy_ #[40,40] ty #[.slice (some ⟨w.heap.size,i + m,none⟩) (n + m - (i + m)) dc,.slice (some ⟨b,off + i,none⟩) (n - i) sc]).run Tryz.prog W = .ok (goInt (cs.drop i).length) (W.setCells w.heap.size (i + m) (cs.drop i)):=fun W hWc hWf ty dc sc =>
  run_copy_cells W _ _ ty 5 w.heap.size (i + m) (n + m - (i + m)) dc ⟨b,off + i,none⟩ (n - i) sc (cs.drop i) Tryz.underlying40 hsz (by rw [hdl];simp only [Nat.min_def];split <;> omega)
   (fun j v hj => by
    rw [Addr.add_lit,hWc,World.cell?_setCells_out _ _ _ _ _ (fun h _ => absurd h hbN),Nat.add_assoc];exact hOb _ v (hcs (i + j) v (by rwa [List.getElem?_drop] at hj)))
   (fun j hj => by rw [hWc];exact isSome_setCells _ _ _ _ (fun t ht => hN _ (by omega)) _ (hN _ (by omega)))
   (fun j hj => by rw [hWf,World.frozen?_setCells];exact hNf _) (fun v hv => h1c v (List.mem_of_mem_drop hv))
 subst hW1;have hE1 : ∀ x,((w.alloc (.cells ROW 5)).drew).cell? x = (w.drew.alloc (.cells ROW 5)).cell? x:=fun x => rfl
 have hE2 : ∀ x,((w.alloc (.cells ROW 5)).drew).frozen? x = (w.drew.alloc (.cells ROW 5)).frozen? x:=fun x => rfl
 have hF1 : ∀ x,(((w.alloc (.cells ROW 5)).drew.setCells w.heap.size i vs).drew).cell? x = ((w.drew.alloc (.cells ROW 5)).setCells w.heap.size i vs).cell? x:=fun x => rfl
 have hF2 : ∀ x,(((w.alloc (.cells ROW 5)).drew.setCells w.heap.size i vs).drew).frozen? x = ((w.drew.alloc (.cells ROW 5)).setCells w.heap.size i vs).frozen? x:=fun x => rfl
 have hw1 : IntKind.i64.wrap ((i : Int) + (m : Int)) = (i : Int) + (m : Int):=by rw [IntKind.wrap_i64];omega
 have hb1 : (0 : Int) ≤ (i : Int) + (m : Int):=by omega
 have hin : i ≤ n:=by omega
 have htn : ((i : Int) + (m : Int)).toNat = i + m:=by omega
 have hb3 : (i : Int) ≤ (n : Int):=by omega
 clear hkk hik hold hROW hG hRl;go_enter Tryz.func116,Tryz.ntmps116
 go_wp2_with (first
  | (at_builtin;refine Lib.wpList_append_run _ rfl _ _ _ _ rfl _ _ rfl rfl _ _ (hrz _) ?_)
  | (at_builtin;refine wpList_copy_runI _ rfl _ _ 40 40 rfl _ _ rfl rfl (hcpA _ hE1 hE2 _ _) ?_)
  | (at_builtin;refine wpList_copy_runI _ rfl _ _ 40 40 rfl _ _ rfl rfl (hcpB _ (fun _ => rfl) (fun _ => rfl) _ _ _) ?_))
 go_region_law_o (refine step_copy_runI rfl _ _ 40 40 rfl (.slice (some ⟨w.heap.size,i + m,none⟩) (n + m - (i + m)) (G - (i + m))) (.slice (some ⟨b,off + i,none⟩) (n - i) (c - i)) (by simp [Act.eval,Act.put]) (by simp [Act.eval,Act.put]) (hcpB _ hF1 hF2 3 (G - (i + m)) (c - i)) ?_)
 go_wp2
 go_ret
 exact ⟨rfl,rfl⟩
theorem lF (g : Nat) (t : TypeId) : ∀ (vs : List Value) (o : Nat) (w : World) (cur : Array Value),w.heap[g]? = some (.cells cur t (0,0)) →
 ∃ cur',(w.setCells g o vs).heap[g]? = some (.cells cur' t (0,0)) ∧ cur'.size = cur.size ∧ ∀ j,cur'[j]? = if o ≤ j ∧ j < o + vs.length ∧ j < cur.size then vs[j - o]? else cur[j]?
 | [],o,w,cur,h => ⟨cur,h,rfl,fun j => by rw [if_neg (by simp;omega)]⟩
 | v :: vs,o,w,cur,h => by
  obtain ⟨cur',h1,h2,h3⟩:=lF g t vs (o + 1) _ _ (nC h o v);refine ⟨cur',h1,by rw [h2,Array.size_setIfInBounds],fun j => ?_⟩;rw [h3,Array.size_setIfInBounds,Array.getElem?_setIfInBounds];by_cases hj : o = j
  · subst hj;rw [if_neg (by omega)];by_cases hs : o < cur.size
    · rw [if_pos rfl,if_pos hs,if_pos ⟨Nat.le_refl _,by simp,hs⟩];simp
    · rw [if_pos rfl,if_neg hs,if_neg (by omega),Array.getElem?_eq_none (by omega)]
  · rw [if_neg hj];by_cases hr : o + 1 ≤ j ∧ j < o + 1 + vs.length ∧ j < cur.size
    · rw [if_pos hr,if_pos ⟨by omega,by simp only [List.length_cons];omega,hr.2.2⟩,show j - o = (j - (o + 1)) + 1 by omega,List.getElem?_cons_succ]
    · rw [if_neg hr,if_neg (by simp only [List.length_cons];omega)]
theorem mX (g : Nat) : ∀ (vs : List Value) (o : Nat) (w : World) (k : Nat),k ≠ g → (w.setCells g o vs).heap[k]? = w.heap[k]?
 | [],_,_,_,_ => rfl
 | v :: vs,o,w,k,h => (mX g vs (o + 1) _ k h).trans (Below.heap_setCell w _ v k h)
theorem lG (g : Nat) : ∀ (vs : List Value) (o : Nat) (w : World),(w.setCells g o vs).os = w.os ∧ (w.setCells g o vs).tape = w.tape ∧ (w.setCells g o vs).output = w.output ∧ (w.setCells g o vs).heap.size = w.heap.size
 | [],_,_ => ⟨rfl,rfl,rfl,rfl⟩
 | v :: vs,o,w => by
  obtain ⟨h1,h2,h3,h4⟩:=lG g vs (o + 1) (w.setCell ⟨g,o,none⟩ v);exact ⟨h1,h2,h3,h4.trans (by simp [World.setCell])⟩
theorem Ls {cs : List Value} {cur : Array Value} {i : Nat} {u : Value} (hi : i < cs.length) (hn : cs.length + 1 ≤ cur.size) (h : ∀ j,cur[j]? = if j < i then cs[j]? else if j = i then some u else if j < cs.length + 1 then cs[j - 1]? else cur[j]?) :
 cur.toList.take (cs.length + 1) = cs.take i ++ u :: cs.drop i:=by
 apply List.ext_getElem?;intro j;rw [List.getElem?_take];by_cases hj : j < cs.length + 1
 · rw [if_pos hj,Array.getElem?_toList,h j];by_cases h1 : j < i
   · rw [if_pos h1,List.getElem?_append_left (by rw [List.length_take];omega),List.getElem?_take,if_pos h1]
   · rw [if_neg h1,List.getElem?_append_right (by rw [List.length_take];omega),List.length_take,Nat.min_eq_left (by omega)];by_cases h2 : j = i
     · subst h2;rw [if_pos rfl,Nat.sub_self,List.getElem?_cons_zero]
     · rw [if_neg h2,if_pos hj,show j - i = (j - i - 1) + 1 by omega,List.getElem?_cons_succ,List.getElem?_drop];congr 1;omega
 · rw [if_neg hj];symm;apply List.getElem?_eq_none;simp only [List.length_append,List.length_take,List.length_cons,List.length_drop];omega
theorem xX.own {b i vb cc : Nat} {l : List Int} {v : Value} {w w0 : World} (hv : w.ownsRow b 5 1 v l.length (nums .u8 l)) (hi : i < l.length) (hB : Below b w0 w) (hb : b ≤ w.heap.size) (hlen : l.length + 1 ≤ 140737488355328) (hvb : w.heap[vb]? = some (.cells #[.int .u8 32] 5 (0,0))) (hne : v.ownBlock ≠ some vb) :
 Calls Tryz.prog 116 #[v,.int .i64 i,.slice (some ⟨vb,0,none⟩) 1 cc] w fun e w' => ∃ v1,e = .returned v1 ∧ w'.ownsRow b 5 1 v1 (l.take i ++ 32 :: l.drop i).length (nums .u8 (l.take i ++ 32 :: l.drop i)) ∧ Below b w0 w' ∧ w.grownBy w' v.ownBlock:=by
 have hrest:=hv;obtain ⟨hl,⟨_,h0⟩ | ⟨g,cap,cur,rfl,hbg,hg,hnc,hcm,hcs,htk⟩⟩:=hv
 · omega
 rw [Nat.mul_one] at htk hcs;have hcl : (nums .u8 l).length = l.length:=nums_length _ _;have hgv : vb ≠ g:=fun e => hne (by rw [e];rfl)
 have hcell : ∀ j u,(nums .u8 l)[j]? = some u → w.cell? ⟨g,0 + j,none⟩ = some u:=fun j u hj => by
  rw [Nat.zero_add,Z5 hg];rw [← htk,List.getElem?_take] at hj
  split at hj
  · rw [Array.getElem?_toList] at hj;exact hj
  · cases hj
 have h1c : ∀ u ∈ nums .u8 l,u.oneCell' = true:=fun u hu => by
  obtain ⟨z,_,rfl⟩:=List.mem_map.1 hu;rfl
 have hvc : ∀ j u,([.int .u8 32] : List Value)[j]? = some u → w.cell? ⟨vb,0 + j,none⟩ = some u:=fun j u hj => by
  rw [Nat.zero_add,Z5 hvb]
  simpa using hj
 have h1v : ∀ u ∈ ([.int .u8 32] : List Value),u.oneCell' = true:=fun u hu => by
  rw [List.mem_singleton] at hu;subst hu;rfl
 have hnew : (l.take i ++ 32 :: l.drop i).length = l.length + 1:=by
  simp only [List.length_append,List.length_take,List.length_cons,List.length_drop];omega
 have hnums : nums .u8 (l.take i ++ 32 :: l.drop i) = (nums .u8 l).take i ++ .int .u8 32 :: (nums .u8 l).drop i:=by
  simp [nums,List.map_take,List.map_drop]
 have hdl : ((nums .u8 l).drop i).length = l.length - i:=by rw [List.length_drop,hcl]
 by_cases hroom : l.length + 1 ≤ cap
 · have hc63 : cap ≤ 9223372036854775807:=by unfold maxLen at hcm;omega
   refine (xX.shift g 0 l.length cap i vb 0 1 cc (nums .u8 l) [.int .u8 32] w hi (by omega) hroom hc63 hgv hcl rfl hcell (fun j hj => by rw [Nat.zero_add,Z5 hg,Array.getElem?_eq_getElem (by omega)];rfl) (fun j _ => Z2 hg _) hvc h1c h1v 5 5 1 cur.size (by unfold World.shape?;rw [hvb];rfl) (by unfold World.shape?;rw [hg]) (by omega) (Z2 hvb _) (Z2 hvb _)).mono ?_;rintro e w' ⟨rfl,rfl⟩;obtain ⟨c1,a1,a2,a3⟩:=lF g 5 ((nums .u8 l).drop i) (0 + (i + 1)) w.drew cur hg;obtain ⟨c2,b1,b2,b3⟩:=lF g 5 [.int .u8 32] (0 + i) _ c1 a1;obtain ⟨r1,r2,r3,r4⟩:=lG g ((nums .u8 l).drop i) (0 + (i + 1)) w.drew;obtain ⟨s1,s2,s3,s4⟩:=lG g [.int .u8 32] (0 + i) (w.drew.setCells g (0 + (i + 1)) ((nums .u8 l).drop i));have hfar : ∀ k,k ≠ g → ((w.drew.setCells g (0 + (i + 1)) ((nums .u8 l).drop i)).setCells g (0 + i) [.int .u8 32]).heap[k]? = w.heap[k]? := fun k hk => (mX g _ _ _ k hk).trans (mX g _ _ _ k hk)
   refine ⟨_,rfl,⟨by rw [nums_length,Nat.mul_one],.inr ⟨g,cap,c2,by rw [hnew],hbg,b1,by rw [hnew];exact hroom,hcm,by rw [b2,a2,hcs,Nat.mul_one],?_⟩⟩,⟨s1.trans (r1.trans hB.os),s2.trans (r2.trans hB.tape),s3.trans (r3.trans hB.output),by rw [s4,r4];exact hB.size,fun k hk => (hfar k (by omega)).trans (hB.block k hk)⟩,⟨s1.trans r1,s2.trans r2,s3.trans r3,by rw [s4,r4];exact Nat.le_refl _,fun k _ hk => hfar k (fun e => hk (by rw [e];rfl))⟩⟩;rw [hnew,hnums,Nat.mul_one,show l.length + 1 = (nums .u8 l).length + 1 by rw [hcl]];refine Ls (by omega) (by omega) (fun j => ?_);rw [b3,a3,a2];by_cases h1 : j < i
   · rw [if_neg (by omega),if_neg (by omega),if_pos h1,← htk,List.getElem?_take,if_pos (by omega),Array.getElem?_toList]
   · by_cases h2 : j = i
     · subst h2;rw [if_pos ⟨by omega,by simp,by omega⟩,if_neg h1,if_pos rfl,Nat.zero_add,Nat.sub_self];rfl
     · rw [if_neg (by simp only [List.length_cons,List.length_nil];omega),if_neg h1,if_neg h2];by_cases h3 : j < (nums .u8 l).length + 1
       · rw [if_pos h3,if_pos ⟨by omega,by rw [hdl];omega,by omega⟩,List.getElem?_drop];congr 1;omega
       · rw [if_neg h3,if_neg (by rw [hdl];omega)]
 · refine (xX.grow g 0 l.length cap i vb 0 1 cc (nums .u8 l) [.int .u8 32] w hi (by omega) hnc (by omega) (by omega) hcl rfl hcell hvc h1c h1v).mono ?_;rintro e w' ⟨rfl,rfl⟩;have hG1 : l.length + 1 ≤ grownCap w (l.length + 1) cap 5:=grownCap_ge w _ _ _;have hG2 : grownCap w (l.length + 1) cap 5 ≤ maxLen:=grownCap_le_maxLen w _ _ _ (by unfold maxLen;omega);generalize grownCap w (l.length + 1) cap 5 = G at hG1 hG2 ⊢;have hrs : (((nums .u8 l).take i).toArray ++ Builtin.zeroCells (Value.int .u8 0).cells (l.length + 1 - i) ++ Builtin.zeroCells (Value.int .u8 0).cells (G - (l.length + 1))).size = G:=by
    simp [Builtin.zeroCells,Value.cells,hcl];omega
   have hrl : ∀ j,j < i → (((nums .u8 l).take i).toArray ++ Builtin.zeroCells (Value.int .u8 0).cells (l.length + 1 - i) ++ Builtin.zeroCells (Value.int .u8 0).cells (G - (l.length + 1)))[j]? = (nums .u8 l)[j]? := fun j hj => by
    rw [Array.append_assoc,Array.getElem?_append_left (by simp [hcl];omega),List.getElem?_toArray,List.getElem?_take,if_pos hj]
   generalize (((nums .u8 l).take i).toArray ++ Builtin.zeroCells (Value.int .u8 0).cells (l.length + 1 - i) ++ Builtin.zeroCells (Value.int .u8 0).cells (G - (l.length + 1))) = ROW at hrs hrl ⊢;have hN : ((w.alloc (.cells ROW 5)).drew).heap[w.heap.size]? = some (.cells ROW 5 (0,0)):=cO w _;obtain ⟨c1,a1,a2,a3⟩:=lF w.heap.size 5 [.int .u8 32] i _ ROW hN;obtain ⟨c2,b1,b2,b3⟩:=lF w.heap.size 5 ((nums .u8 l).drop i) (i + 1) (((w.alloc (.cells ROW 5)).drew.setCells w.heap.size i [.int .u8 32]).drew) c1 a1;obtain ⟨r1,r2,r3,r4⟩:=lG w.heap.size [.int .u8 32] i ((w.alloc (.cells ROW 5)).drew);obtain ⟨s1,s2,s3,s4⟩:=lG w.heap.size ((nums .u8 l).drop i) (i + 1) (((w.alloc (.cells ROW 5)).drew.setCells w.heap.size i [.int .u8 32]).drew);have hfar : ∀ k,k < w.heap.size → ((((w.alloc (.cells ROW 5)).drew.setCells w.heap.size i [.int .u8 32]).drew).setCells w.heap.size (i + 1) ((nums .u8 l).drop i)).heap[k]? = w.heap[k]? := fun k hk => by
    have hk' : k ≠ w.heap.size:=by omega
    rw [mX _ _ _ _ k hk'];show ((w.alloc (.cells ROW 5)).drew.setCells w.heap.size i [.int .u8 32]).heap[k]? = _
    rw [mX _ _ _ _ k hk'];show (w.alloc (.cells ROW 5)).heap[k]? = _
    exact Below.heap_alloc w _ k hk
   have hsz : ((((w.alloc (.cells ROW 5)).drew.setCells w.heap.size i [.int .u8 32]).drew).setCells w.heap.size (i + 1) ((nums .u8 l).drop i)).heap.size = w.heap.size + 1:=by
    rw [s4];show ((w.alloc (.cells ROW 5)).drew.setCells w.heap.size i [.int .u8 32]).heap.size = _
    rw [r4];show (w.alloc (.cells ROW 5)).heap.size = _
    simp
   refine ⟨_,rfl,⟨by rw [nums_length,Nat.mul_one],.inr ⟨w.heap.size,G,c2,by rw [hnew],hb,b1,by rw [hnew];exact hG1,hG2,by rw [b2,a2,hrs,Nat.mul_one],?_⟩⟩,⟨s1.trans (r1.trans hB.os),s2.trans (r2.trans hB.tape),s3.trans (r3.trans hB.output),by rw [hsz];have:=hB.size;omega,fun k hk => (hfar k (by omega)).trans (hB.block k hk)⟩,⟨s1.trans r1,s2.trans r2,s3.trans r3,by rw [hsz];omega,fun k hk _ => hfar k hk⟩⟩;rw [hnew,hnums,Nat.mul_one,show l.length + 1 = (nums .u8 l).length + 1 by rw [hcl]];refine Ls (by omega) (by omega) (fun j => ?_);rw [b3,a3,a2,hrs];by_cases h1 : j < i
   · rw [if_neg (by omega),if_neg (by omega),if_pos h1,hrl j h1]
   · by_cases h2 : j = i
     · subst h2;rw [if_neg (by omega),if_pos ⟨by omega,by simp,by omega⟩,if_neg h1,if_pos rfl,Nat.sub_self];rfl
     · rw [if_neg h1,if_neg h2];by_cases h3 : j < (nums .u8 l).length + 1
       · rw [if_pos h3,if_pos ⟨by omega,by rw [hdl];omega,by omega⟩,List.getElem?_drop];congr 1;omega
       · rw [if_neg h3,if_neg (by rw [hdl];omega),if_neg (by simp only [List.length_cons,List.length_nil];omega)]
theorem PE.row {p g : Nat} {w0 : World} {x : ak} {A : Option Addr} {c : Nat} {F r : List Int} {ws W : World} (E : PE false p g w0 x A c F r ws W) : ∃ m A' c',m ++ r = F ∧ w0.heap.size ≤ p ∧ W.heap[p]? = some (.cells #[.slice A' m.length c'] 42 (0,0)) ∧ W.ownsRow w0.heap.size 5 1 (.slice A' m.length c') m.length (nums .u8 m):=by
 obtain ⟨b,⟨m,hm,l,⟨hp,hb,v,h1,h2⟩,hl⟩,hF,g,tb⟩:=E.st;obtain rfl : l = m:=by
  rcases hl with h | ⟨h,_⟩
  · exact h
  · cases h
 rcases h2.2 with ⟨e1,e2⟩ | ⟨q,cap,cur,e1,_⟩
 · subst e1;rw [← e2] at h1 h2 ⊢;exact ⟨l,none,0,hm,hp,by rw [← e2];exact h1,by rw [← e2];exact h2⟩
 · subst e1;exact ⟨l,_,cap,hm,hp,h1,h2⟩
theorem own_at {w : World} {b n : Nat} {A : Option Addr} {c : Nat} {l : List Int} (h : w.ownsRow b 5 1 (.slice A n c) n (nums .u8 l)) {i : Nat} (hn : l.length = n) (hi : i < n) : ∃ q,A = some ⟨q,0,none⟩ ∧ w.cell? ⟨q,i,none⟩ = some (.int .u8 (l.getD i 0)):=by
 rcases h.2 with ⟨e1,e2⟩ | ⟨q,cap,cur,e1,_,h3,_,_,_,h6⟩
 · omega
 · injection e1 with e1 _ _
   refine ⟨q,e1,?_⟩;rw [Nat.mul_one] at h6;have h7 : (nums .u8 l)[i]? = cur[i]? := by rw [← h6,List.getElem?_take,if_pos hi,Array.getElem?_toList]
   rw [Z5 h3,← h7];simp [nums,List.getElem?_map,List.getElem?_eq_getElem (show i < l.length by omega),List.getD_eq_getElem?_getD]
theorem pos_of {s : ByteArray} {c : UInt8} (h : s.data.toList = [c]) : 0 < s.size:=by
 obtain rfl:=ba_of h;exact Nat.zero_lt_one
theorem idx0 {s : ByteArray} {c : UInt8} (h : s.data.toList = [c]) {hh : 0 < s.size} : s[0] = c:=by
 obtain rfl:=ba_of h;rfl
theorem own_below {b n : Nat} {v : Value} {xs : List Value} {w w' : World} (h : w.ownsRow b 5 1 v n xs) (hB : Below w.heap.size w w') : w'.ownsRow b 5 1 v n xs:=qG h (fun k hk => by
 obtain ⟨_,cur,hc⟩:=qc h hk;exact hB.block k (jf hc))
theorem ins_fin {p : Nat} {w0 ws W w1 : World} {F r m0 m1 m2 s t : List Int} {v v1 : Value} (hS : St false p w0 F (s ++ ([32] ++ (t ++ r))) ws) (h0 : m0 ++ (s ++ ([32] ++ (t ++ r))) = F) (h1 : m1 ++ (t ++ []) = m0 ++ (s ++ (t ++ []))) (h2 : m2 = m1 ++ t) (hp : w0.heap.size ≤ p) (hb : w0.heap.size ≤ W.heap.size) (hf : Fr p ws W) (hh : W.heap[p]? = some (.cells #[v] 42 (0,0))) (ho : W.ownsRow w0.heap.size 5 1 v m2.length (nums .u8 m2))
 (h3 : w1.ownsRow w0.heap.size 5 1 v1 (m2.take m1.length ++ 32 :: m2.drop m1.length).length (nums .u8 (m2.take m1.length ++ 32 :: m2.drop m1.length))) (hB : Below w0.heap.size w0 w1) (hg : W.grownBy w1 v.ownBlock) :
 w1.heap[p]? = some (.cells #[v] 42 (0,0)) ∧ St false p w0 F r (w1.setCell ⟨p,0,none⟩ v1) ∧ Fr p ws (w1.setCell ⟨p,0,none⟩ v1):=by
 obtain ⟨a1,a2,a3,a4⟩:=PX.put (l' := m2.take m1.length ++ 32 :: m2.drop m1.length) (by decide) hp hb hh ho h3 hB hg;refine ⟨a1,⟨a3,⟨_,?_,_,a2,.inl rfl⟩,hS.len,hS.g,hS.tb⟩,hf.trans a4⟩;have e1 : m1 = m0 ++ s:=by
  rw [List.append_nil,← List.append_assoc] at h1;exact List.append_cancel_right h1
 rw [h2,List.take_left',List.drop_left',← h0,e1]
 · simp only [List.append_assoc,List.cons_append,List.nil_append]
 · rfl
 · rfl
theorem ni.k9a {p : Nat} {w0 w : World} {F r : List Int} {x : ak} {A : Option Addr} {c : Nat} {n : Nat} (hx : bJ x = true) (he : ∀ y ∈ x.f4,bJ y = true → jF n y) (hz : SizeOf.sizeOf x ≤ n) (hk : x.f0 = 9) (hb : ¬ ((nd x.f4 0).f0 = 9 ∧ (nd x.f4 0).f1.toList = x.f1.toList)) (h : St false p w0 F (dX (n + 1) x ++ r) w) (hn : ND w0 x A c) : Calls Tryz.prog 100 #[.pointer (some ⟨p,0,none⟩),val x A c] w (gW false p w0 F r (.tuple #[]) w):=by
 obtain ⟨hl,hx0⟩:=ex_9 hx hk;obtain ⟨s0,hs0⟩ : ∃ s0,x.f1.data.toList = [s0] ∧ qB (s0.toNat : Int) = False:=by
  have hs:=ex_9s hx hk;simp only [List.mem_cons,List.not_mem_nil,or_false] at hs;rcases hs with h|h|h|h <;> exact ⟨_,h,eq_false (by unfold qB;decide)⟩
 obtain ⟨ch,tl,hT,hT9,hT0⟩:=fb_at (n:=n) (y:=nd x.f4 0) (Nat.lt_of_lt_of_le (dI (aQ (by omega))) hz) hx0;have hcmp : (ch == (s0.toNat : Int)) = false:=by
  rw [beq_eq_false_iff_ne];intro e;by_cases h9 : (nd x.f4 0).f0 = 9
  · obtain ⟨k,e1,e2⟩:=hT0 h9;refine hb ⟨h9,?_⟩;rw [Lib.toList_data,Lib.toList_data,e1,hs0.1];congr 1;rw [← UInt8.toNat_inj];omega
  · have:=hT9 h9;rw [e,hs0.2] at this;exact this
 rw [AL hk] at h;unfold ex9 at h;rw [if_neg hb] at h;simp only [List.append_assoc,List.nil_append] at h;have nR : (0 : Int) < (x.f4.length : Int):=by omega
 have nS : 0 < x.f4.length:=by omega
 obtain ⟨ad,rfl⟩:=aT hn.C (show 0 < x.f4.length by omega);obtain ⟨A0,d0,hn0,hk0⟩:=ng hn.C (show 0 < x.f4.length by omega);have gJ:=Am hn0;have dD:=Am hk0;have b9:=Yt hk 9 rfl
 have b14:=Yf hk 14 rfl
 have b15:=Yf hk 15 rfl
 have b10:=Yf hk 10 rfl
 have b11:=Yf hk 11 rfl
 have b12:=Yf hk 12 rfl
 have b13:=Yf hk 13 rfl
 have Ew:=Am (show 9 ≤ x.f0 ∧ x.f0 ≤ 15 by omega);have jZ:=Am (he _ (aQ (show 0 < x.f4.length by omega)) hx0);have HX0:=Am hx0;have HS0:=Am hs0.1;have HT:=Am hT;have HCMP:=Am hcmp;clear he hx hx0 hs0 hT hT9 hT0 hb hz hcmp;have jY:=Am hl;clear hl;have E:=PE.start h hn;clear h hn;obtain ⟨bP,bQ,bT,bU,bV,bW⟩:=dD.out.at E.out.st.b;clear hn0 hk0;have HKK:=Am hk;clear hk;go_enter Tryz.func100,Tryz.ntmps100
 go_wp2_with (first
  | (go_at_call 115;(try clear c0 c1 c2 c3 c4 c5);(with_reducible refine PE.same E E.out (fun st => fU.no Ew.out st E.out.k) (fun w1 E c0 c1 c2 c3 c4 c5 => ?_));(try ((try clear bP bQ bT bU bV bW);obtain ⟨bP,bQ,bT,bU,bV,bW⟩:=dD.out.at E.out.st.b)))
  | (go_at_call 54;(try clear c0 c1 c2 c3 c4 c5);(with_reducible refine PE.ig E (fun w1 E c0 c1 c2 c3 c4 c5 => ?_));(try ((try clear bP bQ bT bU bV bW);obtain ⟨bP,bQ,bT,bU,bV,bW⟩:=dD.out.at E.out.st.b));obtain ⟨m1,A7,c7,hm1,hp1,hh1,ho1⟩:=E.out.row;have cp:=(Z5 hh1 0).trans (show #[Value.slice A7 m1.length c7][0]? = some (.slice A7 m1.length c7) from rfl);have NC:=Am hm1;clear hm1 hp1 hh1 ho1)
  | (go_at_call 85;(try clear c0 c1 c2 c3 c4 c5 cp);(with_reducible refine PE.call E E.out (fun st => wz.all jZ.out HX0.out st gJ.out) (fun w2 E c0 c1 c2 c3 c4 c5 => ?_)))
  | fail)
 obtain ⟨m2,A8,c8,hm2,hp2,hh2,ho2⟩:=E.out.row;have hmm : m2 = m1 ++ oO (dX n) (nd x.f4 0) 12:=List.append_cancel_right (bs:=r) (hm2.trans (by rw [List.append_assoc];exact NC.out.symm));rw [HT.out] at hmm;have hlt : m1.length < m2.length:=by rw [hmm,List.length_append,List.length_cons];omega
 obtain ⟨q2,rfl,hce⟩:=own_at ho2 rfl hlt;rw [show m2.getD m1.length 0 = ch from by rw [hmm];simp] at hce;have i1 : (0 : Int) ≤ (m1.length : Int):=by omega
 have i2 : (m1.length : Int) < (m2.length : Int):=by omega
 have HLT:=Am hlt;have HMM:=Am hmm;have HP2:=Am hp2;have HM2:=Am hm2;clear hlt hmm hp2 hm2;have cp:=(Z5 hh2 0).trans (show #[Value.slice (some ⟨q2,0,none⟩) m2.length c8][0]? = some (.slice (some ⟨q2,0,none⟩) m2.length c8) from rfl);have HH:=Am (show w2.drew.heap[p]? = some (.cells #[.slice (some ⟨q2,0,none⟩) m2.length c8] 42 (0,0)) from hh2);have HO:=Am (show w2.drew.ownsRow w0.heap.size 5 1 (.slice (some ⟨q2,0,none⟩) m2.length c8) m2.length (nums .u8 m2) from ho2);clear hh2 ho2;refine gy (n:=11) (S:=fun w' => w'.cell? ⟨p,0,none⟩ = some (.slice (some ⟨q2,0,none⟩) m2.length c8) ∧ w'.cell? ⟨q2,m1.length,none⟩ = some (.int .u8 ch) ∧ w'.cell? ⟨w.heap.size,1,none⟩ = some (.string x.f1) ∧ True) (ds:=[]) (Array.replicate 11 false) (by kernel_rfl) rfl rfl ⟨cp,hce,c1,trivial⟩ (fun hHeld => ?_);refine eu (T:=iC .any (opsOf Tryz.f100 7)) (by kernel_rfl) (fun aG => ?_);replace E:=Am (E.out.step (W1:=w2.drew) (Z6 (Below.refl _ _)));clear c0 c1 c2 c3 c4 c5 cp hce;generalize w2.drew = w7 at E HH HO hHeld ⊢;refine rp 0 30 aG (h:=?_);refine rp 1 31 aG (h:=?_);refine rp 2 32 aG (h:=?_);refine uJ 3 33 aG hHeld (h:=?_);refine rp 4 34 aG (h:=?_);refine rp 5 35 aG (h:=?_);refine uJ 6 36 aG hHeld (h:=?_);refine rp 7 37 aG (h:=?_);refine uJ 8 38 aG hHeld (h:=?_);refine rp (v:=.int .u8 (s0.toNat : Int)) 9 39 aG (hy:=by intro w';go_simp;rw [dif_pos (pos_of HS0.out),idx0 HS0.out];rfl) (h:=?_);refine rp (v:=.bool (ch == (s0.toNat : Int))) 10 40 aG (hy:=by intro w';go_simp) (h:=?_);refine wu aG ?_;have hcmp:=HCMP.out;go_wp2
 first|go_end0|go_ret|(refine bodyPost_ret (results_none rfl _ _ _) rfl ?_)
 exact ⟨rfl,E.out.st,E.out.fr⟩
theorem ni.k9b {p : Nat} {w0 w : World} {F r : List Int} {x : ak} {A : Option Addr} {c : Nat} {n : Nat} (hx : bJ x = true) (he : ∀ y ∈ x.f4,bJ y = true → jF n y) (hz : SizeOf.sizeOf x ≤ n) (hk : x.f0 = 9) (hb : ((nd x.f4 0).f0 = 9 ∧ (nd x.f4 0).f1.toList = x.f1.toList)) (h : St false p w0 F (dX (n + 1) x ++ r) w) (hn : ND w0 x A c) : Calls Tryz.prog 100 #[.pointer (some ⟨p,0,none⟩),val x A c] w (gW false p w0 F r (.tuple #[]) w):=by
 obtain ⟨hl,hx0⟩:=ex_9 hx hk;obtain ⟨s0,hs0⟩ : ∃ s0,x.f1.data.toList = [s0] ∧ qB (s0.toNat : Int) = False:=by
  have hs:=ex_9s hx hk;simp only [List.mem_cons,List.not_mem_nil,or_false] at hs;rcases hs with h|h|h|h <;> exact ⟨_,h,eq_false (by unfold qB;decide)⟩
 obtain ⟨ch,tl,hT,hT9,hT0⟩:=fb_at (n:=n) (y:=nd x.f4 0) (Nat.lt_of_lt_of_le (dI (aQ (by omega))) hz) hx0;have hcmp : (ch == (s0.toNat : Int)) = true:=by
  obtain ⟨k,e1,e2⟩:=hT0 hb.1;have : [k] = [s0]:=by rw [← e1,← hs0.1,← Lib.toList_data,← Lib.toList_data];exact hb.2
  rw [e2,(List.cons.inj this).1];simp
 rw [AL hk] at h;unfold ex9 at h;rw [if_pos hb] at h;simp only [List.append_assoc,List.nil_append] at h;have nR : (0 : Int) < (x.f4.length : Int):=by omega
 have nS : 0 < x.f4.length:=by omega
 obtain ⟨ad,rfl⟩:=aT hn.C (show 0 < x.f4.length by omega);obtain ⟨A0,d0,hn0,hk0⟩:=ng hn.C (show 0 < x.f4.length by omega);have gJ:=Am hn0;have dD:=Am hk0;have b9:=Yt hk 9 rfl
 have b14:=Yf hk 14 rfl
 have b15:=Yf hk 15 rfl
 have b10:=Yf hk 10 rfl
 have b11:=Yf hk 11 rfl
 have b12:=Yf hk 12 rfl
 have b13:=Yf hk 13 rfl
 have Ew:=Am (show 9 ≤ x.f0 ∧ x.f0 ≤ 15 by omega);have jZ:=Am (he _ (aQ (show 0 < x.f4.length by omega)) hx0);have HX0:=Am hx0;have HS0:=Am hs0.1;have HT:=Am hT;have HCMP:=Am hcmp;clear he hx hx0 hs0 hT hT9 hT0 hb hz hcmp;have jY:=Am hl;clear hl;obtain ⟨m0,hm0,hbx0⟩:=h.ex;have HST:=Am h;have h:=(show St false p w0 (m0 ++ (bytesOf x.f1 ++ (oO (dX n) (nd x.f4 0) 12 ++ []))) (bytesOf x.f1 ++ (oO (dX n) (nd x.f4 0) 12 ++ [])) w from ⟨h.b,⟨m0,rfl,hbx0⟩,by have:=h.len;rw [← hm0] at this;simp only [List.length_append,List.length_nil] at this ⊢;omega,h.g,h.tb⟩)
 clear hbx0;have HM0:=Am hm0;clear hm0;have E:=PE.start h hn;clear h hn;obtain ⟨bP,bQ,bT,bU,bV,bW⟩:=dD.out.at E.out.st.b;clear hn0 hk0;have HKK:=Am hk;clear hk;go_enter Tryz.func100,Tryz.ntmps100
 go_wp2_with (first
  | (go_at_call 115;(try clear c0 c1 c2 c3 c4 c5);(with_reducible refine PE.same E E.out (fun st => fU.no Ew.out st E.out.k) (fun w1 E c0 c1 c2 c3 c4 c5 => ?_));(try ((try clear bP bQ bT bU bV bW);obtain ⟨bP,bQ,bT,bU,bV,bW⟩:=dD.out.at E.out.st.b)))
  | (go_at_call 54;(try clear c0 c1 c2 c3 c4 c5);(with_reducible refine PE.ig E (fun w1 E c0 c1 c2 c3 c4 c5 => ?_));(try ((try clear bP bQ bT bU bV bW);obtain ⟨bP,bQ,bT,bU,bV,bW⟩:=dD.out.at E.out.st.b));obtain ⟨m1,A7,c7,hm1,hp1,hh1,ho1⟩:=E.out.row;have cp:=(Z5 hh1 0).trans (show #[Value.slice A7 m1.length c7][0]? = some (.slice A7 m1.length c7) from rfl);have NC:=Am hm1;clear hm1 hp1 hh1 ho1)
  | (go_at_call 85;(try clear c0 c1 c2 c3 c4 c5 cp);(with_reducible refine PE.call E E.out (fun st => wz.all jZ.out HX0.out st gJ.out) (fun w2 E c0 c1 c2 c3 c4 c5 => ?_)))
  | fail)
 obtain ⟨m2,A8,c8,hm2,hp2,hh2,ho2⟩:=E.out.row;have hmm : m2 = m1 ++ oO (dX n) (nd x.f4 0) 12:=List.append_cancel_right (bs:=[]) (hm2.trans (by rw [List.append_assoc];exact NC.out.symm));rw [HT.out] at hmm;have hlt : m1.length < m2.length:=by rw [hmm,List.length_append,List.length_cons];omega
 obtain ⟨q2,rfl,hce⟩:=own_at ho2 rfl hlt;rw [show m2.getD m1.length 0 = ch from by rw [hmm];simp] at hce;have i1 : (0 : Int) ≤ (m1.length : Int):=by omega
 have i2 : (m1.length : Int) < (m2.length : Int):=by omega
 have HLT:=Am hlt;have HMM:=Am hmm;have HP2:=Am hp2;have HM2:=Am hm2;clear hlt hmm hp2 hm2;have cp:=(Z5 hh2 0).trans (show #[Value.slice (some ⟨q2,0,none⟩) m2.length c8][0]? = some (.slice (some ⟨q2,0,none⟩) m2.length c8) from rfl);have HH:=Am (show w2.drew.heap[p]? = some (.cells #[.slice (some ⟨q2,0,none⟩) m2.length c8] 42 (0,0)) from hh2);have HO:=Am (show w2.drew.ownsRow w0.heap.size 5 1 (.slice (some ⟨q2,0,none⟩) m2.length c8) m2.length (nums .u8 m2) from ho2);clear hh2 ho2;refine gy (n:=11) (S:=fun w' => w'.cell? ⟨p,0,none⟩ = some (.slice (some ⟨q2,0,none⟩) m2.length c8) ∧ w'.cell? ⟨q2,m1.length,none⟩ = some (.int .u8 ch) ∧ w'.cell? ⟨w.heap.size,1,none⟩ = some (.string x.f1) ∧ True) (ds:=[]) (Array.replicate 11 false) (by kernel_rfl) rfl rfl ⟨cp,hce,c1,trivial⟩ (fun hHeld => ?_);refine eu (T:=iC .any (opsOf Tryz.f100 7)) (by kernel_rfl) (fun aG => ?_);replace E:=Am (E.out.step (W1:=w2.drew) (Z6 (Below.refl _ _)));clear c0 c1 c2 c3 c4 c5 cp hce;generalize w2.drew = w7 at E HH HO hHeld ⊢;refine rp 0 30 aG (h:=?_);refine rp 1 31 aG (h:=?_);refine rp 2 32 aG (h:=?_);refine uJ 3 33 aG hHeld (h:=?_);refine rp 4 34 aG (h:=?_);refine rp 5 35 aG (h:=?_);refine uJ 6 36 aG hHeld (h:=?_);refine rp 7 37 aG (h:=?_);refine uJ 8 38 aG hHeld (h:=?_);refine rp (v:=.int .u8 (s0.toNat : Int)) 9 39 aG (hy:=by intro w';go_simp;rw [dif_pos (pos_of HS0.out),idx0 HS0.out];rfl) (h:=?_);refine rp (v:=.bool (ch == (s0.toNat : Int))) 10 40 aG (hy:=by intro w';go_simp) (h:=?_);refine wu aG ?_;have hcmp:=HCMP.out;have cp:=(Z5 HH.out 0).trans (show #[Value.slice (some ⟨q2,0,none⟩) m2.length c8][0]? = some (.slice (some ⟨q2,0,none⟩) m2.length c8) from rfl);go_wp2_with (first
  | (go_at_call 116;(refine (xX.own (b:=w0.heap.size) (i:=m1.length) (vb:=w7.heap.size) (l:=m2) (w0:=w0) (own_below HO.out (Z7 (Below.refl _ _) _)) HLT.out (E.out.alloc _).st.b (E.out.alloc _).st.b.size (by have h:=HST.out.len;have h2:=congrArg List.length HM0.out;have h3:=congrArg List.length NC.out;have h4:=congrArg List.length HMM.out;simp only [List.length_append,List.length_cons,List.length_nil] at h2 h3 h4;rw [HT.out] at h2 h3;simp only [List.length_cons] at h2 h3;omega) (cO w7 _) (fun e => by obtain ⟨_,cur,hc⟩:=qc HO.out e;have:=jf hc;omega)).mono ?_);rintro e w8 ⟨v1,rfl,hown,hB,hg⟩;obtain ⟨A1,m9,c9,rfl⟩:=yI hown;obtain ⟨hp1,hST,hFF⟩:=ins_fin HST.out HM0.out NC.out (HMM.out.trans (by rw [HT.out])) HP2.out (E.out.alloc _).st.b.size (E.out.alloc _).fr (Z1 HH.out _) (own_below HO.out (Z7 (Below.refl _ _) _)) hown hB hg;have cp1:=(Z5 hp1 0).trans (show #[Value.slice (some ⟨q2,0,none⟩) m2.length c8][0]? = some (.slice (some ⟨q2,0,none⟩) m2.length c8) from rfl);have hfz:=Z2 hp1 0;have HSS:=Am hST;have HFF:=Am hFF;clear hown hB hg hp1 hST hFF)
  | fail)
 first|go_end0|go_ret|(refine bodyPost_ret (results_none rfl _ _ _) rfl ?_)
 exact ⟨rfl,HSS.out,HFF.out⟩
theorem exP.all {n : Nat} {x : ak} (K : KnP n) (hz : SizeOf.sizeOf x ≤ n) (hx : bJ x = true) (hm : Tm x) : jF (n + 1) x:=by
 intro p w0 w F r A c h hn;have he : ∀ y ∈ x.f4,bJ y = true → jF n y:=fun y hy h => K.e y (Nat.lt_of_lt_of_le (dI hy) hz) h (hm.kid hy)
 obtain ⟨h1,h15,_,_,_⟩:=dw hx;have : x.f0 = 1 ∨ x.f0 = 2 ∨ x.f0 = 3 ∨ x.f0 = 4 ∨ x.f0 = 5 ∨ x.f0 = 6 ∨ x.f0 = 7 ∨ x.f0 = 8 ∨ x.f0 = 9 ∨ x.f0 = 10 ∨ x.f0 = 11 ∨ x.f0 = 12 ∨ x.f0 = 13 ∨ x.f0 = 14 ∨ x.f0 = 15:=by omega
 rcases this with e|e|e|e|e|e|e|e|e|e|e|e|e|e|e
 · refine ni.leaf (fun w1 st => ?_) h hn;cases h3 : x.f3 with
   | true => exact fU.k1t hm.num h3 e st hn
   | false => exact fU.k1f hm.num h3 e st hn
 · exact ni.leaf (fun w1 st => fU.k2 ⟨hm.num.1,ex_2 hx e⟩ e st hn) h hn
 · exact ni.leaf (fun w1 st => fU.k3 hm.str e st hn) h hn
 · exact ni.leaf (fun w1 st => fU.k4 e st hn) h hn
 · exact ni.leaf (fun w1 st => fU.k5 hx he e st hn) h hn
 · exact ni.leaf (fun w1 st => fU.k6 hx he e st hn) h hn
 · exact ni.leaf (fun w1 st => fU.k7 hx he e st hn) h hn
 · exact ni.leaf (fun w1 st => fU.k8 hx he e st hn) h hn
 · by_cases hb : (nd x.f4 0).f0 = 9 ∧ (nd x.f4 0).f1.toList = x.f1.toList
   · exact ni.k9b hx he hz e hb h hn
   · exact ni.k9a hx he hz e hb h hn
 · exact ni.k10 hx he e h hn
 · exact ni.k11 hx he e h hn
 · exact ni.k12 hx he e h hn
 · exact ni.k13 hx he e h hn
 · exact ni.k14 hx he e h hn
 · by_cases a : (nd x.f4 0).f0 = 16
   · exact ni.k15a hx he a e h hn
   · by_cases b : (nd x.f4 0).f0 = 14
     · exact ni.k15b hx he b e h hn
     · exact ni.k15c hx he a b e h hn
theorem knP : ∀ n : Nat,KnP n
 | 0 => ⟨fun _ h => absurd h (Nat.not_lt_zero _),fun _ h => absurd h (Nat.not_lt_zero _)⟩
 | n + 1 => ⟨fun y h hx hm => exP.all (knP n) (Nat.le_of_lt_succ h) hx hm,fun y h hx hm => jm.all (knP n) (Nat.le_of_lt_succ h) hx hm⟩
end Go.Proofs.YtboojhadfhpdeaaGreatDoor.Q
