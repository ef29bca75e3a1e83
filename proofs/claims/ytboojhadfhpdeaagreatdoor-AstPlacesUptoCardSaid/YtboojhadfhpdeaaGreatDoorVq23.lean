/- A part of the proof, made small by a program: U15, U16, U17, U18, UI, UJ, U19, U20, U21, X2, P8, X4, UL, UM, X5. -/
import Derived.Laws.DeepStrings4
import Derived.Shelf.Spec.SlicesInsertGrow
import Derived.Test.YtboojhadfhpdeaaGreatDoorVq4
import Derived.Test.YtboojhadfhpdeaaGreatDoorVq5
import Derived.Test.YtboojhadfhpdeaaGreatDoorVq6
import Derived.Test.YtboojhadfhpdeaaGreatDoorVq16
import Derived.Test.YtboojhadfhpdeaaGreatDoorVq18
import Derived.Test.YtboojhadfhpdeaaGreatDoorVq20
import Derived.Test.YtboojhadfhpdeaaGreatDoorVq22
set_option linter.unusedVariables false
set_option linter.unusedSimpArgs false
set_option maxHeartbeats 8000000
set_option maxRecDepth 100000
namespace Go.Proofs.YtboojhadfhpdeaaGreatDoor.Q
open Go.RowKit Go.Proofs.YtboojhadfhpdeaaGreatDoorW.PrintWords Go.Proofs.YtboojhadfhpdeaaGreatDoorW.PrintLast Go.Proofs.YtboojhadfhpdeaaGreatDoorW.PrintMore
section
variable {ops : Array Oper} {T : Bool × List (List Nat × List Nat)} {Q : Exit → Act → World → Prop} {S : World → Prop} {oi : Oper} {v : Value} {fuel : Nat} {l : Array Bool} {a a' : Act} {w : World}
theorem EF (i : Nat) (N : Tmp) (HT : ah (kG .any ops = T)) (hS : S w) (hi : ops[i]? = some oi:=by rfl) (hN : oi.dst = some N:=by rfl) (hc : JF T [] l.toList (l.setIfInBounds i true).toList i = true:=by kernel_rfl)
 (hQ : ∀ c a w,Q (.panic c) (a.put oi.dst v) w → Q (.panic c) a w:=by exact fun _ _ _ h => h) (hw : Region.wanted oi (yielded ops a.tmps) = true:=by rfl)
 (hy : ∀ w,S w → (execOp a.eval oi).run Tryz.prog w = .ok (.value v) w:=by (intro w' s0_;obtain ⟨s0,s1,s2,s3⟩:=s0_;go_simp;with_reducible rfl))
 (ha : a.put (some N) v = a' := by (simp only [Act.put,List.setIfInBounds_toArray,List.set_cons_zero,List.set_cons_succ,bW,dA];rfl))
 (h : eF Tryz.prog .any ops Q S [] fuel (l.setIfInBounds i true) a' w) : eF Tryz.prog .any ops Q S [] (fuel + 1) l a w:=kM _ hi hN (Gw HT.out hc) hQ (Or.inl ⟨hw,hy⟩) hS ha h
end
theorem Ld.zero (w : World) : Calls Tryz.prog 87 #[.string ⟨#[42]⟩,.int .i64 0] w fun e w' => e = .returned (.string ⟨#[]⟩) ∧ Below w.heap.size w w' := by
 go_enter Tryz.func87,Tryz.ntmps87
 go_wp2
 go_ret
 exact ⟨rfl,Below.refl _ _⟩
theorem Ld.one (w : World) : Calls Tryz.prog 87 #[.string ⟨#[42]⟩,.int .i64 1] w fun e w' => e = .returned (.string ⟨#[42]⟩) ∧ Below w.heap.size w w' := by
 go_enter Tryz.func87,Tryz.ntmps87
 go_wp2
 go_ret
 exact ⟨rfl,Below.refl _ _⟩
theorem Ld.all {v u : Int} (w : World) (h : u = 0 ∨ u = 1) (e : v = u) : Calls Tryz.prog 87 #[.string ⟨#[42]⟩,.int .i64 v] w fun e w' => e = .returned (.string (Qv u)) ∧ Below w.heap.size w w' := by
 subst e;rcases h with rfl|rfl
 · exact Ld.zero w
 · exact Ld.one w
theorem ps_at {b : Bool} {xs : List bn} {i : Nat} (hi : i < xs.length) : yw b (xs.drop i) = (if b = true then [] else bytesOf ⟨#[44,32]⟩) ++ (paG (nd xs i) ++ yw false (xs.drop (i + 1))):=by
 rw [zY xs hi];rfl
theorem ps_end {b : Bool} {xs : List bn} {i : Nat} (hi : ¬ i < xs.length) : yw b (xs.drop i) = []:=by
 rw [List.drop_eq_nil_of_le (by omega)];rfl
theorem fnP.all {n m cq : Nat} {ys : List bn} {p : Nat} {w0 w : World} {F r : List Int} {x : bn} {ad : Addr} (hk : ∀ y ∈ (nd x.f4 m).f4,wR n y) (hl : x.f4.length = m + 1) (h1 : 1 ≤ m) (hy : ys.length = m - 1) (hys : ∀ i,i < m - 1 → nd x.f4 (i + 1) = nd ys i) (hp : ∀ y ∈ ys,y.f4.length = 1 ∧ (y.f2 = 0 ∨ y.f2 = 1))
 (h : St false p w0 F (bytesOf (nd x.f4 0).f1 ++ (bytesOf ⟨#[32]⟩ ++ (bytesOf x.f1 ++ (bytesOf ⟨#[40]⟩ ++ (yw true ys ++ (bytesOf ⟨#[41,32]⟩ ++ (NJ (kZ n) (nd x.f4 m).f4 ++ r))))))) w) (hn : ND w0 x (some ad) (cq + 2)) : Calls Tryz.prog 58 #[.pointer (some ⟨p,0,none⟩),val x (some ad) (cq + 2)] w (nY false p w0 F r (.tuple #[]) w):=by
 have HK:=ah.mk hk;have HP:=ah.mk hp;have HYL:=ah.mk hy;have HYS:=ah.mk hys;have HMX:=ah.mk hn.C.2.1;have HCQ:=ah.mk hn.le;obtain ⟨A0,d0,hn0,hk0⟩:=zZ hn.C (show 0 < x.f4.length by omega);have qK:=ah.mk hn0;have jq:=ah.mk hk0;obtain ⟨ad1,A9,d9,e9,hn9,hkn9⟩:=Qs hn.C m (by omega);obtain rfl:=Option.some.inj e9;have HN9:=ah.mk hn9;have HK9:=ah.mk hkn9;have wl : wrap64 ((x.f4.length : Int) - 1) = (m : Int):=by have:=hn.C.2.1;unfold wrap64;omega
 have CJ : (0 : Int) < (x.f4.length : Int):=by omega
 have CO : 0 < x.f4.length:=by omega
 have q9a : (m : Int) < (x.f4.length : Int):=by omega
 have q9b : m < x.f4.length:=by omega
 have q9c : (0 : Int) ≤ (m : Int):=by omega
 have Ry : (1 : Int) ≤ (m : Int):=by omega
 have Rz : m ≤ cq + 2:=by have:=hn.le;omega
 have q1c : (m : Int) ≤ ((cq + 2 : Nat) : Int):=by omega
 have vC:=ah.mk hl;have E:=PE.start h hn;clear h hn hn9 hkn9 e9 hk hl hy hys hp hn0 hk0;go_enter Tryz.func58,Tryz.ntmps58
 go_wp2
 replace E:=ah.mk (E.out.step (W1:=(w.alloc (.cells #[.int .i64 x.f0,.string x.f1,.int .u32 x.f2,.bool x.f3,.slice (some ad) x.f4.length (cq + 2),.int .i64 x.f5] 25 (0,0))).drew) (aA (Below.refl _ _)));refine jV (n:=10) (S:=fun w' => w'.cell? ⟨w.heap.size,4,none⟩ = some (.slice (some ad) x.f4.length (cq + 2)) ∧ w'.cell? ⟨ad.block,ad.off + 1,none⟩ = some (.string (nd x.f4 0).f1) ∧ w'.cell? ⟨w.heap.size,1,none⟩ = some (.string x.f1)) (ds:=[]) (Array.replicate 10 false) (by kernel_rfl) rfl rfl ⟨E.out.cells.2.2.2.2.1,(jq.out.at E.out.st.b).2.1,E.out.cells.2.1⟩ (fun hHeld => ?_);refine jw (T:=kG .any (opsOf Tryz.f58 2)) (by kernel_rfl) (fun bM => ?_);generalize (w.alloc (.cells #[.int .i64 x.f0,.string x.f1,.int .u32 x.f2,.bool x.f3,.slice (some ad) x.f4.length (cq + 2),.int .i64 x.f5] 25 (0,0))).drew = w7 at E hHeld ⊢;refine rp 0 11 bM (h:=?_);refine rp 1 12 bM (h:=?_);refine rt 2 13 bM hHeld (h:=?_);refine rp 3 14 bM (h:=?_);refine rp 4 15 bM (h:=?_);refine rt 5 16 bM hHeld (h:=?_);refine rp 6 17 bM (h:=?_);refine rt 7 18 bM hHeld (h:=?_);refine rc 8 19 bM (h:=fun K hK => ?_);go_simp;refine hK.out _ _ ⟨(E.out.alloc _).cells.2.2.2.2.1,(jq.out.at (E.out.alloc _).st.b).2.1,(E.out.alloc _).cells.2.1⟩ (fun hHeld => ?_);clear hK K;refine rc 9 20 bM (h:=fun K hK => ?_);(try clear c0 c1 c2 c3 c4 c5);refine ku Tryz.func54 (by kernel_rfl) rfl #[.pointer (some ⟨p,0,none⟩),.slice (some ⟨w7.heap.size,0,none⟩) 4 4] (by rfl) rfl rfl (by (try simp only [List.map_toArray,List.map_cons,List.map_nil]);first|done|rfl) (PE.jE E (fun w1 E c0 c1 c2 c3 c4 c5 => ?_));refine ⟨_,rfl,?_⟩;refine hK.out _ _ ⟨E.out.cells.2.2.2.2.1,(jq.out.at E.out.st.b).2.1,E.out.cells.2.1⟩ (fun hHeld => rn ?_);clear hK K;refine EX bM ?_;try go_wp2
 try clear c0 c1 c2 c3 c4 c5
 go_loopg [26] ys.length (fun kq v w' => ∃ i : Nat,v = .int .i64 i ∧ ah (i + kq = ys.length) ∧ ah (PE false p w.heap.size w0 x (some ad) (cq + 2) F (yw (i == 0) (ys.drop i) ++ (bytesOf ⟨#[41,32]⟩ ++ (NJ (kZ n) (nd x.f4 m).f4 ++ r))) w w'))
 case atStart => exact ⟨0,rfl,⟨by omega⟩,E⟩
 case round =>
  obtain ⟨i,rfl,HI,EN⟩:=hrel;by_cases hi : i < ys.length
  · have qg:=ah.mk hi;have vM:=ah.mk (fH hi);have hi' : i < m - 1:=by rw [← HYL.out];exact hi
    have EP : decide (i < m - 1) = true:=decide_eq_true hi';have e1 : decide ((i : Int) < ((m - 1 : Nat) : Int)) = true:=decide_eq_true (by omega);have p1 : (0 : Int) ≤ (i : Int):=by omega
    have q1 : (i : Int) < ((m - 1 : Nat) : Int):=by omega
    have w3 : wrap64 ((i : Int) + 1) = (i : Int) + 1:=by have:=HMX.out;have:=vC.out;unfold wrap64;omega
    have w4 : IntKind.i64.wrap ((i : Int) + 1) = (i : Int) + 1:=(bW _).trans w3;obtain ⟨A',c',hn,hkn⟩:=kt_at EN.out.k.C i (by have:=vC.out;omega);rw [HYS.out i hi'] at hn hkn;obtain ⟨hp1,hp2⟩:=HP.out _ vM.out;obtain ⟨a2,rfl⟩:=gY hn.C (show 0 < (nd ys i).f4.length by omega);obtain ⟨A3,d3,hn3,hk3⟩:=zZ hn.C (show 0 < (nd ys i).f4.length by omega);have F8:=ah.mk hk3;have HU:=ah.mk hp2;have q2a : (0 : Int) < ((nd ys i).f4.length : Int):=by omega
    have q2b : 0 < (nd ys i).f4.length:=by omega
    have HP1:=ah.mk hp1;have HN:=ah.mk hn;have Je:=ah.mk hkn;obtain ⟨k0,k1,k2,k3,k4,k5⟩:=Je.out.at EN.out.st.b;have ST:=ah.mk EN.out.st;have HF:=ah.mk EN.out.frr;rw [ps_at hi] at ST;unfold paG at ST;(try simp only [List.append_assoc] at ST);clear hn hkn hn3 hk3 hp1 hp2;by_cases h0 : i = 0
    · have g1 : decide ((0 : Int) < (i : Int)) = false:=decide_eq_false (by omega);have g2 : decide (0 < i) = false:=decide_eq_false (by omega);rw [if_pos (beq_iff_eq.2 h0),List.nil_append] at ST;have H0:=ah.mk h0;clear h0 hi hi';cases hf3 : (nd ys i).f3;rotate_left 1
      · rw [if_pos hf3] at ST;have HF3:=ah.mk hf3;clear hf3;go_wp2_with (first
         | (with_reducible refine iK rfl rfl rfl ?_;rintro g wa hg hz hB;have uY:=ah.mk hB;have HZ:=ah.mk hz;have qR:=ah.mk hg;clear hg hz hB)
         | (refine iU rfl rfl rfl (x:=nd ys i) (A:=some a2) (c:=c') rfl rfl HZ.out ?_;rintro wb hN hB;have E:=PE.box ST.out HF.out (uY.out.trans (hB.mono (Nat.le_of_eq qR.out.symm))) (Nat.le_of_eq qR.out.symm) hN HN.out;(try clear k0 k1 k2 k3 k4 k5);obtain ⟨c0,c1,c2,c3,c4,c5⟩:=E.out.cells;clear hN hB)
         | fail)
        replace E:=ah.mk (E.out.step (W1:=wb.drew) (aA (Below.refl _ _)));refine jV (n:=14) (S:=fun w' => w'.cell? ⟨g,4,none⟩ = some (.slice (some a2) (nd ys i).f4.length c') ∧ w'.cell? ⟨a2.block,a2.off + 1,none⟩ = some (.string (nd (nd ys i).f4 0).f1) ∧ w'.cell? ⟨g,2,none⟩ = some (.int .u32 (nd ys i).f2) ∧ w'.cell? ⟨g,1,none⟩ = some (.string (nd ys i).f1)) (ds:=[]) (Array.replicate 14 false) (by kernel_rfl) rfl rfl ⟨E.out.cells.2.2.2.2.1,(F8.out.at E.out.st.b).2.1,E.out.cells.2.2.1,E.out.cells.2.1⟩ (fun hHeld => ?_);refine jw (T:=kG .any (opsOf Tryz.f58 8)) (by kernel_rfl) (fun bM => ?_);generalize wb.drew = w7 at E hHeld ⊢;refine rp 0 36 bM (h:=?_);refine rp 1 37 bM (h:=?_);refine EF 2 38 bM hHeld (h:=?_);refine rp 3 39 bM (h:=?_);refine rp 4 40 bM (h:=?_);refine EF 5 41 bM hHeld (h:=?_);refine rp 6 42 bM (h:=?_);refine EF 7 43 bM hHeld (h:=?_);refine rp 8 44 bM (h:=?_);refine rp 10 46 bM (h:=?_);refine EF 11 47 bM hHeld (h:=?_);refine rc 9 45 bM (h:=fun K hK => ?_);(try clear c0 c1 c2 c3 c4 c5);refine ku Tryz.func87 (by kernel_rfl) rfl #[.string ⟨#[42]⟩,.int .i64 (wrap64 (nd ys i).f2)] (by rfl) rfl rfl (by (try simp only [List.map_toArray,List.map_cons,List.map_nil]);first|done|rfl) (PE.still E E.out (Ld.all (u:=(nd ys i).f2) _ HU.out (by have:=HU.out;unfold wrap64;omega)) (fun w8 E c0 c1 c2 c3 c4 c5 => ?_));refine ⟨_,rfl,?_⟩;refine hK.out _ _ ⟨E.out.cells.2.2.2.2.1,(F8.out.at E.out.st.b).2.1,E.out.cells.2.2.1,E.out.cells.2.1⟩ (fun hHeld => rn ?_);clear hK K;refine rc 12 48 bM (h:=fun K hK => ?_);go_simp;refine hK.out _ _ ⟨(E.out.alloc _).cells.2.2.2.2.1,(F8.out.at (E.out.alloc _).st.b).2.1,(E.out.alloc _).cells.2.2.1,(E.out.alloc _).cells.2.1⟩ (fun hHeld => ?_);clear hK K;refine rc 13 49 bM (h:=fun K hK => ?_);(try clear c0 c1 c2 c3 c4 c5);refine ku Tryz.func54 (by kernel_rfl) rfl #[.pointer (some ⟨p,0,none⟩),.slice (some ⟨w8.heap.size,0,none⟩) 4 4] (by rfl) rfl rfl (by (try simp only [List.map_toArray,List.map_cons,List.map_nil]);first|done|rfl) (PE.jE E (fun w1 E c0 c1 c2 c3 c4 c5 => ?_));refine ⟨_,rfl,?_⟩;refine hK.out _ _ ⟨E.out.cells.2.2.2.2.1,(F8.out.at E.out.st.b).2.1,E.out.cells.2.2.1,E.out.cells.2.1⟩ (fun hHeld => rn ?_);clear hK K;refine EX bM ?_;have hf3:=HF3.out;go_wp2_with (first
         | (go_at_call 54;(try clear c0 c1 c2 c3 c4 c5);(with_reducible first|refine PE.jI E ?_|refine PE.jS E ?_|refine PE.jW E ?_|refine PE.jE E ?_);intro w1 E c0 c1 c2 c3 c4 c5)
         | fail)
        go_roundg (ys.length - (i + 1))
        case measure => have:=HI.out;have:=qg.out;omega
        case rel => exact ⟨i + 1,by (try simp only [w4,w3]);rfl,⟨by have:=HI.out;have:=qg.out;omega⟩,⟨EN.out.back E.out⟩⟩
      · rw [if_neg (by rw [hf3];decide)] at ST;have HF3:=ah.mk hf3;clear hf3;rw [List.nil_append] at ST;go_wp2_with (first
         | (with_reducible refine iK rfl rfl rfl ?_;rintro g wa hg hz hB;have uY:=ah.mk hB;have HZ:=ah.mk hz;have qR:=ah.mk hg;clear hg hz hB)
         | (refine iU rfl rfl rfl (x:=nd ys i) (A:=some a2) (c:=c') rfl rfl HZ.out ?_;rintro wb hN hB;have E:=PE.box ST.out HF.out (uY.out.trans (hB.mono (Nat.le_of_eq qR.out.symm))) (Nat.le_of_eq qR.out.symm) hN HN.out;(try clear k0 k1 k2 k3 k4 k5);obtain ⟨c0,c1,c2,c3,c4,c5⟩:=E.out.cells;clear hN hB)
         | fail)
        replace E:=ah.mk (E.out.step (W1:=wb.drew) (aA (Below.refl _ _)));refine jV (n:=14) (S:=fun w' => w'.cell? ⟨g,4,none⟩ = some (.slice (some a2) (nd ys i).f4.length c') ∧ w'.cell? ⟨a2.block,a2.off + 1,none⟩ = some (.string (nd (nd ys i).f4 0).f1) ∧ w'.cell? ⟨g,2,none⟩ = some (.int .u32 (nd ys i).f2) ∧ w'.cell? ⟨g,1,none⟩ = some (.string (nd ys i).f1)) (ds:=[]) (Array.replicate 14 false) (by kernel_rfl) rfl rfl ⟨E.out.cells.2.2.2.2.1,(F8.out.at E.out.st.b).2.1,E.out.cells.2.2.1,E.out.cells.2.1⟩ (fun hHeld => ?_);refine jw (T:=kG .any (opsOf Tryz.f58 8)) (by kernel_rfl) (fun bM => ?_);generalize wb.drew = w7 at E hHeld ⊢;refine rp 0 36 bM (h:=?_);refine rp 1 37 bM (h:=?_);refine EF 2 38 bM hHeld (h:=?_);refine rp 3 39 bM (h:=?_);refine rp 4 40 bM (h:=?_);refine EF 5 41 bM hHeld (h:=?_);refine rp 6 42 bM (h:=?_);refine EF 7 43 bM hHeld (h:=?_);refine rp 8 44 bM (h:=?_);refine rp 10 46 bM (h:=?_);refine EF 11 47 bM hHeld (h:=?_);refine rc 9 45 bM (h:=fun K hK => ?_);(try clear c0 c1 c2 c3 c4 c5);refine ku Tryz.func87 (by kernel_rfl) rfl #[.string ⟨#[42]⟩,.int .i64 (wrap64 (nd ys i).f2)] (by rfl) rfl rfl (by (try simp only [List.map_toArray,List.map_cons,List.map_nil]);first|done|rfl) (PE.still E E.out (Ld.all (u:=(nd ys i).f2) _ HU.out (by have:=HU.out;unfold wrap64;omega)) (fun w8 E c0 c1 c2 c3 c4 c5 => ?_));refine ⟨_,rfl,?_⟩;refine hK.out _ _ ⟨E.out.cells.2.2.2.2.1,(F8.out.at E.out.st.b).2.1,E.out.cells.2.2.1,E.out.cells.2.1⟩ (fun hHeld => rn ?_);clear hK K;refine rc 12 48 bM (h:=fun K hK => ?_);go_simp;refine hK.out _ _ ⟨(E.out.alloc _).cells.2.2.2.2.1,(F8.out.at (E.out.alloc _).st.b).2.1,(E.out.alloc _).cells.2.2.1,(E.out.alloc _).cells.2.1⟩ (fun hHeld => ?_);clear hK K;refine rc 13 49 bM (h:=fun K hK => ?_);(try clear c0 c1 c2 c3 c4 c5);refine ku Tryz.func54 (by kernel_rfl) rfl #[.pointer (some ⟨p,0,none⟩),.slice (some ⟨w8.heap.size,0,none⟩) 4 4] (by rfl) rfl rfl (by (try simp only [List.map_toArray,List.map_cons,List.map_nil]);first|done|rfl) (PE.jE E (fun w1 E c0 c1 c2 c3 c4 c5 => ?_));refine ⟨_,rfl,?_⟩;refine hK.out _ _ ⟨E.out.cells.2.2.2.2.1,(F8.out.at E.out.st.b).2.1,E.out.cells.2.2.1,E.out.cells.2.1⟩ (fun hHeld => rn ?_);clear hK K;refine EX bM ?_;have hf3:=HF3.out;try go_wp2
        go_roundg (ys.length - (i + 1))
        case measure => have:=HI.out;have:=qg.out;omega
        case rel => exact ⟨i + 1,by (try simp only [w4,w3]);rfl,⟨by have:=HI.out;have:=qg.out;omega⟩,⟨EN.out.back E.out⟩⟩
    · have g1 : decide ((0 : Int) < (i : Int)) = true:=decide_eq_true (by omega);have g2 : decide (0 < i) = true:=decide_eq_true (by omega);rw [if_neg (by simpa using h0)] at ST;have H0:=ah.mk h0;clear h0 hi hi';cases hf3 : (nd ys i).f3;rotate_left 1
      · rw [if_pos hf3] at ST;have HF3:=ah.mk hf3;clear hf3;go_wp2_with (first
         | (with_reducible refine iK rfl rfl rfl ?_;rintro g wa hg hz hB;have uY:=ah.mk hB;have HZ:=ah.mk hz;have qR:=ah.mk hg;clear hg hz hB)
         | (refine iU rfl rfl rfl (x:=nd ys i) (A:=some a2) (c:=c') rfl rfl HZ.out ?_;rintro wb hN hB;have E:=PE.box ST.out HF.out (uY.out.trans (hB.mono (Nat.le_of_eq qR.out.symm))) (Nat.le_of_eq qR.out.symm) hN HN.out;(try clear k0 k1 k2 k3 k4 k5);obtain ⟨c0,c1,c2,c3,c4,c5⟩:=E.out.cells;clear hN hB)
         | (go_at_call 54;(try clear c0 c1 c2 c3 c4 c5);(with_reducible first|refine PE.jI E ?_|refine PE.jS E ?_|refine PE.jW E ?_|refine PE.jE E ?_);intro w1 E c0 c1 c2 c3 c4 c5)
         | fail)
        replace E:=ah.mk (E.out.step (W1:=w1.drew) (aA (Below.refl _ _)));refine jV (n:=14) (S:=fun w' => w'.cell? ⟨g,4,none⟩ = some (.slice (some a2) (nd ys i).f4.length c') ∧ w'.cell? ⟨a2.block,a2.off + 1,none⟩ = some (.string (nd (nd ys i).f4 0).f1) ∧ w'.cell? ⟨g,2,none⟩ = some (.int .u32 (nd ys i).f2) ∧ w'.cell? ⟨g,1,none⟩ = some (.string (nd ys i).f1)) (ds:=[]) (Array.replicate 14 false) (by kernel_rfl) rfl rfl ⟨E.out.cells.2.2.2.2.1,(F8.out.at E.out.st.b).2.1,E.out.cells.2.2.1,E.out.cells.2.1⟩ (fun hHeld => ?_);refine jw (T:=kG .any (opsOf Tryz.f58 8)) (by kernel_rfl) (fun bM => ?_);generalize w1.drew = w7 at E hHeld ⊢;refine rp 0 36 bM (h:=?_);refine rp 1 37 bM (h:=?_);refine EF 2 38 bM hHeld (h:=?_);refine rp 3 39 bM (h:=?_);refine rp 4 40 bM (h:=?_);refine EF 5 41 bM hHeld (h:=?_);refine rp 6 42 bM (h:=?_);refine EF 7 43 bM hHeld (h:=?_);refine rp 8 44 bM (h:=?_);refine rp 10 46 bM (h:=?_);refine EF 11 47 bM hHeld (h:=?_);refine rc 9 45 bM (h:=fun K hK => ?_);(try clear c0 c1 c2 c3 c4 c5);refine ku Tryz.func87 (by kernel_rfl) rfl #[.string ⟨#[42]⟩,.int .i64 (wrap64 (nd ys i).f2)] (by rfl) rfl rfl (by (try simp only [List.map_toArray,List.map_cons,List.map_nil]);first|done|rfl) (PE.still E E.out (Ld.all (u:=(nd ys i).f2) _ HU.out (by have:=HU.out;unfold wrap64;omega)) (fun w8 E c0 c1 c2 c3 c4 c5 => ?_));refine ⟨_,rfl,?_⟩;refine hK.out _ _ ⟨E.out.cells.2.2.2.2.1,(F8.out.at E.out.st.b).2.1,E.out.cells.2.2.1,E.out.cells.2.1⟩ (fun hHeld => rn ?_);clear hK K;refine rc 12 48 bM (h:=fun K hK => ?_);go_simp;refine hK.out _ _ ⟨(E.out.alloc _).cells.2.2.2.2.1,(F8.out.at (E.out.alloc _).st.b).2.1,(E.out.alloc _).cells.2.2.1,(E.out.alloc _).cells.2.1⟩ (fun hHeld => ?_);clear hK K;refine rc 13 49 bM (h:=fun K hK => ?_);(try clear c0 c1 c2 c3 c4 c5);refine ku Tryz.func54 (by kernel_rfl) rfl #[.pointer (some ⟨p,0,none⟩),.slice (some ⟨w8.heap.size,0,none⟩) 4 4] (by rfl) rfl rfl (by (try simp only [List.map_toArray,List.map_cons,List.map_nil]);first|done|rfl) (PE.jE E (fun w1 E c0 c1 c2 c3 c4 c5 => ?_));refine ⟨_,rfl,?_⟩;refine hK.out _ _ ⟨E.out.cells.2.2.2.2.1,(F8.out.at E.out.st.b).2.1,E.out.cells.2.2.1,E.out.cells.2.1⟩ (fun hHeld => rn ?_);clear hK K;refine EX bM ?_;have hf3:=HF3.out;go_wp2_with (first
         | (go_at_call 54;(try clear c0 c1 c2 c3 c4 c5);(with_reducible first|refine PE.jI E ?_|refine PE.jS E ?_|refine PE.jW E ?_|refine PE.jE E ?_);intro w1 E c0 c1 c2 c3 c4 c5)
         | fail)
        go_roundg (ys.length - (i + 1))
        case measure => have:=HI.out;have:=qg.out;omega
        case rel => exact ⟨i + 1,by (try simp only [w4,w3]);rfl,⟨by have:=HI.out;have:=qg.out;omega⟩,⟨EN.out.back E.out⟩⟩
      · rw [if_neg (by rw [hf3];decide)] at ST;have HF3:=ah.mk hf3;clear hf3;rw [List.nil_append] at ST;go_wp2_with (first
         | (with_reducible refine iK rfl rfl rfl ?_;rintro g wa hg hz hB;have uY:=ah.mk hB;have HZ:=ah.mk hz;have qR:=ah.mk hg;clear hg hz hB)
         | (refine iU rfl rfl rfl (x:=nd ys i) (A:=some a2) (c:=c') rfl rfl HZ.out ?_;rintro wb hN hB;have E:=PE.box ST.out HF.out (uY.out.trans (hB.mono (Nat.le_of_eq qR.out.symm))) (Nat.le_of_eq qR.out.symm) hN HN.out;(try clear k0 k1 k2 k3 k4 k5);obtain ⟨c0,c1,c2,c3,c4,c5⟩:=E.out.cells;clear hN hB)
         | (go_at_call 54;(try clear c0 c1 c2 c3 c4 c5);(with_reducible first|refine PE.jI E ?_|refine PE.jS E ?_|refine PE.jW E ?_|refine PE.jE E ?_);intro w1 E c0 c1 c2 c3 c4 c5)
         | fail)
        replace E:=ah.mk (E.out.step (W1:=w1.drew) (aA (Below.refl _ _)));refine jV (n:=14) (S:=fun w' => w'.cell? ⟨g,4,none⟩ = some (.slice (some a2) (nd ys i).f4.length c') ∧ w'.cell? ⟨a2.block,a2.off + 1,none⟩ = some (.string (nd (nd ys i).f4 0).f1) ∧ w'.cell? ⟨g,2,none⟩ = some (.int .u32 (nd ys i).f2) ∧ w'.cell? ⟨g,1,none⟩ = some (.string (nd ys i).f1)) (ds:=[]) (Array.replicate 14 false) (by kernel_rfl) rfl rfl ⟨E.out.cells.2.2.2.2.1,(F8.out.at E.out.st.b).2.1,E.out.cells.2.2.1,E.out.cells.2.1⟩ (fun hHeld => ?_);refine jw (T:=kG .any (opsOf Tryz.f58 8)) (by kernel_rfl) (fun bM => ?_);generalize w1.drew = w7 at E hHeld ⊢;refine rp 0 36 bM (h:=?_);refine rp 1 37 bM (h:=?_);refine EF 2 38 bM hHeld (h:=?_);refine rp 3 39 bM (h:=?_);refine rp 4 40 bM (h:=?_);refine EF 5 41 bM hHeld (h:=?_);refine rp 6 42 bM (h:=?_);refine EF 7 43 bM hHeld (h:=?_);refine rp 8 44 bM (h:=?_);refine rp 10 46 bM (h:=?_);refine EF 11 47 bM hHeld (h:=?_);refine rc 9 45 bM (h:=fun K hK => ?_);(try clear c0 c1 c2 c3 c4 c5);refine ku Tryz.func87 (by kernel_rfl) rfl #[.string ⟨#[42]⟩,.int .i64 (wrap64 (nd ys i).f2)] (by rfl) rfl rfl (by (try simp only [List.map_toArray,List.map_cons,List.map_nil]);first|done|rfl) (PE.still E E.out (Ld.all (u:=(nd ys i).f2) _ HU.out (by have:=HU.out;unfold wrap64;omega)) (fun w8 E c0 c1 c2 c3 c4 c5 => ?_));refine ⟨_,rfl,?_⟩;refine hK.out _ _ ⟨E.out.cells.2.2.2.2.1,(F8.out.at E.out.st.b).2.1,E.out.cells.2.2.1,E.out.cells.2.1⟩ (fun hHeld => rn ?_);clear hK K;refine rc 12 48 bM (h:=fun K hK => ?_);go_simp;refine hK.out _ _ ⟨(E.out.alloc _).cells.2.2.2.2.1,(F8.out.at (E.out.alloc _).st.b).2.1,(E.out.alloc _).cells.2.2.1,(E.out.alloc _).cells.2.1⟩ (fun hHeld => ?_);clear hK K;refine rc 13 49 bM (h:=fun K hK => ?_);(try clear c0 c1 c2 c3 c4 c5);refine ku Tryz.func54 (by kernel_rfl) rfl #[.pointer (some ⟨p,0,none⟩),.slice (some ⟨w8.heap.size,0,none⟩) 4 4] (by rfl) rfl rfl (by (try simp only [List.map_toArray,List.map_cons,List.map_nil]);first|done|rfl) (PE.jE E (fun w1 E c0 c1 c2 c3 c4 c5 => ?_));refine ⟨_,rfl,?_⟩;refine hK.out _ _ ⟨E.out.cells.2.2.2.2.1,(F8.out.at E.out.st.b).2.1,E.out.cells.2.2.1,E.out.cells.2.1⟩ (fun hHeld => rn ?_);clear hK K;refine EX bM ?_;have hf3:=HF3.out;try go_wp2
        go_roundg (ys.length - (i + 1))
        case measure => have:=HI.out;have:=qg.out;omega
        case rel => exact ⟨i + 1,by (try simp only [w4,w3]);rfl,⟨by have:=HI.out;have:=qg.out;omega⟩,⟨EN.out.back E.out⟩⟩
  · have hi' : ¬ i < m - 1:=by rw [← HYL.out];exact hi
    have EP : decide (i < m - 1) = false:=decide_eq_false hi';have e1 : decide ((i : Int) < ((m - 1 : Nat) : Int)) = false:=decide_eq_false (by omega);rw [ps_end hi,List.nil_append] at EN;have E:=EN;obtain ⟨c0,c1,c2,c3,c4,c5⟩:=E.out.cells;obtain ⟨k90,k91,k92,k93,k94,k95⟩:=HK9.out.at E.out.st.b;clear hi hi' HI EN;go_wp2_with (first
     | (go_at_call 54;(try clear c0 c1 c2 c3 c4 c5);(with_reducible first|refine PE.jI E ?_|refine PE.jS E ?_|refine PE.jW E ?_|refine PE.jE E ?_);intro w1 E c0 c1 c2 c3 c4 c5;(try (clear k90 k91 k92 k93 k94 k95;obtain ⟨k90,k91,k92,k93,k94,k95⟩:=HK9.out.at E.out.st.b)))
     | (go_at_call 56;(try clear c0 c1 c2 c3 c4 c5);(with_reducible refine PE.call E E.out (fun st => NT.all HK.out st HN9.out.C) (fun w1 E c0 c1 c2 c3 c4 c5 => ?_)))
     | fail)
    first|go_end0|(refine bodyPost_ret (results_none rfl _ _ _) rfl ?_)
    exact ⟨rfl,E.out.st,E.out.fr⟩
theorem PE.callX {s : Bool} {p g : Nat} {w0 : World} {x : bn} {A : Option Addr} {c : Nat} {F R r : List Int} {ws W : World} {W0 : World} {r0 : List Int} {v : Value} {f : FuncId} {args : Array Value} {Q : Ending → World → Prop} (E0 : ah (PE s p g w0 x A c F r0 ws W0)) (E : PE s p g w0 x A c F R ws W) (h : St s p w0 F R W → Calls Tryz.prog f args W (nY s p w0 F r v W))
 (K : ∀ w1,ah (PE s p g w0 x A c F r ws w1) → w1.cell? ⟨g,0,none⟩ = some (.int .i64 x.f0) → w1.cell? ⟨g,1,none⟩ = some (.string x.f1) → w1.cell? ⟨g,2,none⟩ = some (.int .u32 x.f2) → w1.cell? ⟨g,3,none⟩ = some (.bool x.f3) → w1.cell? ⟨g,4,none⟩ = some (.slice A x.f4.length c) → w1.cell? ⟨g,5,none⟩ = some (.int .i64 x.f5) → Q (.returned v) w1) : Calls Tryz.prog f args W Q:=by
 refine (h E.st).mono ?_;rintro e w1 ⟨rfl,h1,h2⟩;have hn : NB w1 g x A c:=h2.keep _ 25 _ E.n E.ne (by decide);obtain ⟨c0,c1,c2,c3,c4,c5⟩:=hn.cells;exact K w1 ⟨⟨h1,hn,E.ne,E.k,E.fr.trans h2⟩⟩ c0 c1 c2 c3 c4 c5
theorem lC.k45 {n m cq : Nat} {ys : List bn} {p : Nat} {w0 w : World} {F r : List Int} {x : bn} {ad : Addr} (hd : x.f0 = 45) (hk : ∀ y ∈ (nd x.f4 m).f4,wR n y) (hl : x.f4.length = m + 1) (h1 : 1 ≤ m) (hy : ys.length = m - 1) (hys : ∀ i,i < m - 1 → nd x.f4 (i + 1) = nd ys i) (hp : ∀ y ∈ ys,y.f4.length = 1 ∧ (y.f2 = 0 ∨ y.f2 = 1))
 (h : St false p w0 F (bytesOf (nd x.f4 0).f1 ++ (bytesOf ⟨#[32]⟩ ++ (bytesOf x.f1 ++ (bytesOf ⟨#[40]⟩ ++ (yw true ys ++ (bytesOf ⟨#[41,32]⟩ ++ (NJ (kZ n) (nd x.f4 m).f4 ++ (bytesOf ⟨#[10]⟩ ++ r)))))))) w) (hn : ND w0 x (some ad) (cq + 2)) : Calls Tryz.prog 38 #[.pointer (some ⟨p,0,none⟩),val x (some ad) (cq + 2)] w (nY false p w0 F r (.tuple #[]) w):=by
 have HA:=ah.mk (And.intro hk (And.intro hl (And.intro h1 (And.intro hy (And.intro hys hp)))));have FX : (x.f0 == 49) = false:=by rw [hd];rfl
 have Ji : (x.f0 == 50) = false:=by rw [hd];rfl
 have KD : (x.f0 == 52) = false:=by rw [hd];rfl
 have Jy : (x.f0 == 51) = false:=by rw [hd];rfl
 have BM : (x.f0 == 41) = false:=by rw [hd];rfl
 have Cj : (x.f0 == 42) = false:=by rw [hd];rfl
 have KF : (x.f0 == 45) = true:=by rw [hd];rfl
 have EC : (x.f0 == 47) = false:=by rw [hd];rfl
 have E:=PE.start h hn;clear h hn hk hl h1 hy hys hp;have HKK:=ah.mk hd;clear hd;go_enter Tryz.func38,Tryz.ntmps38
 go_wp2_with (first
  | (go_at_call 54;(try clear c0 c1 c2 c3 c4 c5);(with_reducible first|refine PE.jI E ?_|refine PE.jS E ?_|refine PE.jW E ?_|refine PE.jE E ?_);intro w1 E c0 c1 c2 c3 c4 c5)
  | (go_at_call 58;(try clear c0 c1 c2 c3 c4 c5);(with_reducible refine PE.callX E E.out (fun st => fnP.all HA.out.1 HA.out.2.1 HA.out.2.2.1 HA.out.2.2.2.1 HA.out.2.2.2.2.1 HA.out.2.2.2.2.2 st E.out.k) (fun w1 E c0 c1 c2 c3 c4 c5 => ?_)))
  | fail)
 first|go_end0|(refine bodyPost_ret (results_none rfl _ _ _) rfl ?_)
 exact ⟨rfl,E.out.st,E.out.fr⟩
theorem lC.all {n : Nat} {x : bn} (K : KnP n) (hz : SizeOf.sizeOf x ≤ n) (hx : Aa x = true) (hm : Tm x) : wR (n + 1) x:=by
 intro p w0 w F r A c h hn;have hy:=ln_may hx;have he : ∀ y ∈ x.f4,jh y = true → lX n y:=fun y hy h => K.e y (Nat.lt_of_lt_of_le (gu hy) hz) h (hm.kid hy)
 have hl : ∀ y ∈ x.f4,Aa y = true → wR n y:=fun y hy h => K.l y (Nat.lt_of_lt_of_le (gu hy) hz) h (hm.kid hy)
 have hc : isS x = true ∨ x.f0 = 41 ∨ x.f0 = 42 ∨ x.f0 = 45:=by
  unfold Aa at hx;simp only [Bool.and_eq_true,Bool.or_eq_true,decide_eq_true_eq] at hx;exact hx.1
 rw [Jj] at hc;by_cases Nz : x.f0 = 41
 · exact lC.k41 (fun y hy' => hl y hy' (de_41 hy Nz y hy')) Nz h hn
 by_cases h42 : x.f0 = 42
 · exact lC.k42 K hz h42 hy hm h hn
 by_cases h45 : x.f0 = 45
 · obtain ⟨h2,h47,hb,hp⟩:=fn_45 hy h45;obtain ⟨m,hm1⟩ : ∃ m,x.f4.length = m + 1:=⟨x.f4.length - 1,by omega⟩
   rw [lnT_45 h45] at h;unfold RH at h;rw [hm1,Nat.add_sub_cancel] at h hp h47 hb;simp only [List.append_assoc] at h;obtain ⟨ad,rfl⟩:=gY hn.C (show 0 < x.f4.length by omega);obtain ⟨cq,rfl⟩ : ∃ k,c = k + 2:=⟨c - 2,by have:=hn.le;omega⟩
   have hme : nd x.f4 m ∈ x.f4:=fH (by omega);refine lC.k45 h45 (fun y hy' => K.l y (by have:=gu hme;have:=gu hy';omega) (hb y hy') ((hm.kid hme).kid hy')) hm1 (by omega) (ys:=(x.f4.take m).drop 1) (by rw [List.length_drop,List.length_take];omega) (fun i hi => ?_) (fun y hy' => ?_) h hn
   · rw [qC];unfold nd;rw [List.getD_eq_getElem?_getD,List.getD_eq_getElem?_getD,List.getElem?_take,if_pos (by omega)]
   · obtain ⟨_,p2,p3⟩:=pa_46 (hp y hy');have:=(hm.kid (List.mem_of_mem_take (List.mem_of_mem_drop hy'))).num;exact ⟨p3,by omega⟩
 by_cases h47 : x.f0 = 47
 · exact lC.k47 (fun y hy' => hl y hy' (st_47 hy h47 y hy')) h47 h hn
 by_cases h48 : x.f0 = 48
 · obtain ⟨h1,h2⟩:=st_48 hy h48;exact lC.k48 he h1 h2 h48 h hn
 by_cases FV : x.f0 = 49
 · obtain ⟨h1 | ⟨h1,h4⟩,h2,h3⟩:=st_49 hy FV
   · exact lC.k49a he hl h1 h2 h3 FV h hn
   · exact lC.k49b he hl h1 h2 h3 h4 FV h hn
 by_cases h50 : x.f0 = 50
 · obtain ⟨h1,h2,h3⟩:=st_50 hy h50;exact lC.k50 he hl h1 h2 h3 h50 h hn
 by_cases RX : x.f0 = 51
 · obtain ⟨h1,h2,h3⟩:=st_51 hy RX;exact lC.k51 he hl h1 h2 h3 RX h hn
 by_cases Qi : x.f0 = 52
 · exact lC.k52 K hz hy hm Qi h hn
 by_cases h53 : x.f0 = 53
 · exact lC.k53 h53 h hn
 by_cases h54 : x.f0 = 54
 · exact lC.k54 h54 h hn
 by_cases h55 : x.f0 = 55
 · rcases st_55 hy h55 with h1 | ⟨h1,h2⟩
   · exact lC.k55a h1 h55 h hn
   · exact lC.k55b he h1 h2 h55 h hn
 exact lC.k56 (by omega) h hn
theorem and_u32 : ∀ c : Fin 256,bits .and .u32 (c.val : Int) 15 = ((c.val % 16 : Nat) : Int):=by decide +kernel
theorem F9 {v : Int} (h : 0 ≤ v ∧ v < 256) : bits .and .u32 v 15 = v % 16:=by
 obtain ⟨k,rfl⟩:=Int.eq_ofNat_of_zero_le h.1;have:=and_u32 ⟨k,by omega⟩;rw [show ((k : Nat) : Int) = (((⟨k,by omega⟩ : Fin 256).val : Nat) : Int) from rfl,this];simp
theorem wu32 {v : Int} (h : 0 ≤ v ∧ v < 256) : IntKind.u32.wrap (v + 1) = v + 1:=by
 first|(rw [IntKind.wrap_u32];omega)|(simp [IntKind.wrap];omega)
theorem jf.k2 {p : Nat} {w0 w : World} {F r : List Int} {x : bn} {A : Option Addr} {c : Nat} {n : Nat} (h2 : 0 ≤ x.f2 ∧ x.f2 < 256) (hk : x.f0 = 2) (h : St false p w0 F (iy (n + 1) x ++ r) w) (hn : ND w0 x A c) : Calls Tryz.prog 115 #[.pointer (some ⟨p,0,none⟩),val x A c] w (nY false p w0 F r (.bool true) w):=by
 have b1:=Yf hk 1 rfl
 have b2:=Yt hk 2 rfl
 have b3:=Yf hk 3 rfl
 have b4:=Yf hk 4 rfl
 have b16:=Yf hk 16 rfl
 have b5:=Yf hk 5 rfl
 have b6:=Yf hk 6 rfl
 have b7:=Yf hk 7 rfl
 have b8:=Yf hk 8 rfl
 rw [exT_2 hk] at h;unfold ex2 at h;simp only [List.append_assoc] at h;have H2:=ah.mk h2;have E:=PE.start h hn;clear h hn h2;have HKK:=ah.mk hk;clear hk;go_enter Tryz.func115,Tryz.ntmps115
 go_wp2
 replace E:=ah.mk (E.out.step (W1:=(w.alloc (.cells #[.int .i64 x.f0,.string x.f1,.int .u32 x.f2,.bool x.f3,.slice A x.f4.length c,.int .i64 x.f5] 25 (0,0))).drew) (aA (Below.refl _ _)));refine jV (n:=19) (S:=fun w' => w'.cell? ⟨w.heap.size,2,none⟩ = some (.int .u32 x.f2) ∧ True ∧ True) (ds:=[]) (Array.replicate 19 false) (by kernel_rfl) rfl rfl ⟨E.out.cells.2.2.1,trivial,trivial⟩ (fun hHeld => ?_);refine jw (T:=kG .any (opsOf Tryz.f115 8)) (by kernel_rfl) (fun bM => ?_);generalize (w.alloc (.cells #[.int .i64 x.f0,.string x.f1,.int .u32 x.f2,.bool x.f3,.slice A x.f4.length c,.int .i64 x.f5] 25 (0,0))).drew = w7 at E hHeld ⊢;refine rp 0 23 bM (h:=?_);refine rp 1 24 bM (h:=?_);refine rt 2 25 bM hHeld (h:=?_);refine rp (v:=.int .u32 (x.f2 / 16)) 3 26 bM (hy:=by intro w';go_simp) (h:=?_);refine rp 4 27 bM (h:=?_);refine rt 5 28 bM hHeld (h:=?_);refine rp (v:=.int .u32 (x.f2 / 16)) 6 29 bM (hy:=by intro w';go_simp) (h:=?_);refine rp (v:=.int .u32 (x.f2 / 16 + 1)) 7 30 bM (hy:=by intro w';go_simp;exact wu32 (by have:=H2.out;omega)) (h:=?_);refine rp (v:=.string (hexS.extract (x.f2 / 16).toNat ((x.f2 / 16).toNat + 1))) 8 31 bM (hy:=by intro w';go_simp;rw [if_pos (by have:=H2.out;omega),if_pos (by have:=H2.out;omega),show (x.f2 / 16 + 1).toNat = (x.f2 / 16).toNat + 1 from by have:=H2.out;omega]) (h:=?_);refine rp 9 32 bM (h:=?_);refine rt 10 33 bM hHeld (h:=?_);refine rp (v:=.int .u32 (x.f2 % 16)) 11 34 bM (hy:=by intro w';go_simp;exact F9 H2.out) (h:=?_);refine rp 12 35 bM (h:=?_);refine rt 13 36 bM hHeld (h:=?_);refine rp (v:=.int .u32 (x.f2 % 16)) 14 37 bM (hy:=by intro w';go_simp;exact F9 H2.out) (h:=?_);refine rp (v:=.int .u32 (x.f2 % 16 + 1)) 15 38 bM (hy:=by intro w';go_simp;exact wu32 (by have:=H2.out;omega)) (h:=?_);refine rp (v:=.string (hexS.extract (x.f2 % 16).toNat ((x.f2 % 16).toNat + 1))) 16 39 bM (hy:=by intro w';go_simp;rw [if_pos (by have:=H2.out;omega),if_pos (by have:=H2.out;omega),show (x.f2 % 16 + 1).toNat = (x.f2 % 16).toNat + 1 from by have:=H2.out;omega]) (h:=?_);refine rc 17 40 bM (h:=fun K hK => ?_);go_simp;refine hK.out _ _ ⟨(E.out.alloc _).cells.2.2.1,trivial,trivial⟩ (fun hHeld => ?_);clear hK K;refine rc 18 41 bM (h:=fun K hK => ?_);(try clear c0 c1 c2 c3 c4 c5);refine ku Tryz.func54 (by kernel_rfl) rfl #[.pointer (some ⟨p,0,none⟩),.slice (some ⟨w7.heap.size,0,none⟩) 4 4] (by rfl) rfl rfl (by (try simp only [List.map_toArray,List.map_cons,List.map_nil]);first|done|rfl) (PE.jE E (fun w1 E c0 c1 c2 c3 c4 c5 => ?_));refine ⟨_,rfl,?_⟩;refine hK.out _ _ ⟨E.out.cells.2.2.1,trivial,trivial⟩ (fun hHeld => rn ?_);clear hK K;refine EX bM ?_;try go_wp2
 first|go_end0|go_ret|(refine bodyPost_ret (results_none rfl _ _ _) rfl ?_)
 exact ⟨rfl,E.out.st,E.out.fr⟩
open Go.Proofs.YtboojhadfhpdeaaGreatDoor.Lex
def uI (c : Int) : Prop:=c ≠ 45 ∧ c ≠ 126 ∧ c ≠ 33 ∧ c ≠ 38
theorem ex_9s {x : bn} (h : jh x = true) (hk : x.f0 = 9) : x.f1.data.toList ∈ ([[45],[126],[33],[38]] : List Bs):=by
 have h1:=(iq h).2.2.2.1;rw [show dS x = e9 x from by unfold dS;simp [hk]] at h1;unfold e9 at h1;simp only [Bool.and_eq_true] at h1;exact one_un h1.1.2
theorem lv_le (x : bn) : lv x ≤ 13:=by
 have:=Et x.f1;unfold lv
 repeat' split
 all_goals omega
theorem RQ (u : Nat) : ∃ c t,Lib.decDigits u = c :: t ∧ 48 ≤ c.toNat ∧ c.toNat ≤ 57:=by
 induction u using Nat.strongRecOn with
 | _ u ih =>
  rw [Lib.decDigits]
  split
  · rename_i h
    exact ⟨_,_,rfl,by simp;omega,by simp;omega⟩
  · rename_i h
    obtain ⟨c,t,e,h1,h2⟩:=ih (u / 10) (by omega);exact ⟨c,t ++ _,by rw [e];rfl,h1,h2⟩
theorem wi_noOp {c : UInt8} (h : wi c = true) : uI (c.toNat : Int):=by
 unfold wi LC EL at h;simp only [Bool.or_eq_true,Bool.and_eq_true,decide_eq_true_eq] at h;unfold uI;omega
theorem BA {s : ByteArray} (h : uF s = true) : ∃ c t,s.data.toList = c :: t ∧ uI (c.toNat : Int):=by
 unfold uF at h;rw [Bool.and_eq_true] at h;have h1:=h.1
 match hs : s.data.toList with
 | [] => rw [hs] at h1;cases h1
 | c :: t =>
  rw [hs] at h1;unfold named at h1;simp only [Bool.and_eq_true,List.all_cons] at h1;exact ⟨c,t,rfl,wi_noOp h1.2.1⟩
theorem fbyte : ∀ (n : Nat) (y : bn),SizeOf.sizeOf y < n → jh y = true → lv y = 13 → ∃ c t,iy n y = c :: t ∧ uI c
 | 0,_,h,_,_ => absurd h (Nat.not_lt_zero _)
 | n + 1,y,hz,hx,hv => by
  have hr:=iq hx;have hop:=Et y.f1;have hk : y.f0 ≤ 8:=by
   unfold lv at hv;rcases Int.lt_or_le 8 y.f0 with h|h
   · exfalso;have : y.f0 = 9 ∨ y.f0 = 10 ∨ y.f0 = 11 ∨ y.f0 = 12 ∨ y.f0 = 13 ∨ y.f0 = 14 ∨ y.f0 = 15:=by omega
     rcases this with e|e|e|e|e|e|e <;> simp [e] at hv <;> omega
   · exact h
  have hat : ∀ z ∈ y.f4,jh z = true → ∃ c t,qU (iy n) z 13 = c :: t ∧ uI c:=fun z hz' hx' => by
   unfold qU;by_cases h : lv z < 13
   · rw [if_pos h];exact ⟨40,_,rfl,by unfold uI;omega⟩
   · rw [if_neg h];exact fbyte n z (by have:=gu hz';omega) hx' (by have:=lv_le z;omega)
  have h1:=hr.2.2.2.1;have : y.f0 = 1 ∨ y.f0 = 2 ∨ y.f0 = 3 ∨ y.f0 = 4 ∨ y.f0 = 5 ∨ y.f0 = 6 ∨ y.f0 = 7 ∨ y.f0 = 8:=by omega
  rcases this with e|e|e|e|e|e|e|e
  · rw [Qp e];obtain ⟨c,t,e1,e2,e3⟩:=RQ y.f2.toNat;refine ⟨c.toNat,_,by unfold ex1 decS bytesOf;rw [e1];rfl,by unfold uI;omega⟩
  · rw [exT_2 e];exact ⟨39,_,rfl,by unfold uI;omega⟩
  · rw [exT_3 e];exact ⟨34,_,rfl,by unfold uI;omega⟩
  · rw [exT_4 e];rw [show dS y = e4 y from by unfold dS;simp [e]] at h1;unfold e4 at h1;simp only [Bool.and_eq_true] at h1;obtain ⟨c,t,e1,e2⟩:=BA h1.1.2;exact ⟨c.toNat,_,by unfold ex4 bytesOf;rw [e1];rfl,e2⟩
  · rw [exT_5 e];obtain ⟨hl,h0,_⟩:=ex_5 hx e;obtain ⟨c,t,e1,e2⟩:=hat _ (fH (by omega)) h0;exact ⟨c,_,by unfold ex5;rw [e1];rfl,e2⟩
  · rw [exT_6 e];obtain ⟨hl,h0⟩:=ex_6 hx e;obtain ⟨c,t,e1,e2⟩:=hat _ (fH (by omega)) h0;exact ⟨c,_,by unfold ex6;rw [e1];rfl,e2⟩
  · rw [exT_7 e];obtain ⟨hl,h0⟩:=ex_7 hx e;obtain ⟨c,t,e1,e2⟩:=hat _ (fH (by omega)) h0;exact ⟨c,_,by unfold ex7;rw [e1];rfl,e2⟩
  · rw [exT_8 e];rw [show dS y = e8 y from by unfold dS;simp [e]] at h1;unfold e8 at h1;simp only [Bool.and_eq_true,Bool.or_eq_true,beq_iff_eq,Lib.toList_data] at h1;rcases h1.1.2 with (h2|h2)|h2
    · obtain ⟨c,t,e1,e2⟩:=BA h2;exact ⟨c.toNat,_,by unfold ex8 bytesOf;rw [e1];rfl,e2⟩
    · exact ⟨103,_,by unfold ex8 bytesOf;rw [h2];rfl,by unfold uI;omega⟩
    · exact ⟨112,_,by unfold ex8 bytesOf;rw [h2];rfl,by unfold uI;omega⟩
theorem fb_at {n : Nat} {y : bn} (hz : SizeOf.sizeOf y < n) (hx : jh y = true) : ∃ c t,qU (iy n) y 12 = c :: t ∧ (y.f0 ≠ 9 → uI c) ∧ (y.f0 = 9 → ∃ k : UInt8,y.f1.data.toList = [k] ∧ c = (k.toNat : Int)):=by
 obtain ⟨m,rfl⟩ : ∃ m,n = m + 1:=⟨n - 1,by omega⟩
 unfold qU;by_cases h : lv y < 12
 · rw [if_pos h];refine ⟨40,_,rfl,fun _ => by unfold uI;omega,fun e => ?_⟩;unfold lv at h;simp [e] at h
 · rw [if_neg h];by_cases h13 : lv y = 13
   · obtain ⟨c,t,e1,e2⟩:=fbyte (m + 1) y hz hx h13;refine ⟨c,t,e1,fun _ => e2,fun e => ?_⟩;unfold lv at h13;simp [e] at h13
   · have hr:=iq hx;have hop:=Et y.f1;have : y.f0 = 9 ∨ y.f0 = 14 ∨ y.f0 = 15:=by
      have:=lv_le y;have h12 : lv y = 12:=by omega
      unfold lv at h12;by_cases a1 : y.f0 = 13
      · simp [a1] at h12
      by_cases a2 : y.f0 = 12
      · simp [a2] at h12
      by_cases a3 : y.f0 = 10 ∨ y.f0 = 11
      · rw [if_neg a1,if_neg a2,if_pos a3] at h12;omega
      by_cases a4 : y.f0 = 9 ∨ y.f0 = 14 ∨ y.f0 = 15
      · exact a4
      rw [if_neg a1,if_neg a2,if_neg a3,if_neg a4] at h12;omega
     rcases this with e|e|e
     · rw [Qq e];have hs:=ex_9s hx e;obtain ⟨k,hk⟩ : ∃ k,y.f1.data.toList = [k]:=by
        simp only [List.mem_cons,List.not_mem_nil,or_false] at hs;rcases hs with h|h|h|h <;> exact ⟨_,h⟩
       exact ⟨k.toNat,_,by unfold ex9 bytesOf;rw [hk];rfl,fun h => absurd e h,fun _ => ⟨k,hk,rfl⟩⟩
     · rw [NH e];exact ⟨40,_,rfl,fun _ => by unfold uI;omega,fun h => absurd h (by omega)⟩
     · rw [Ep e];unfold Jm;by_cases a : (nd y.f4 0).f0 = 16
       · rw [if_pos a];exact ⟨115,_,rfl,fun _ => by unfold uI;omega,fun h => absurd h (by omega)⟩
       · rw [if_neg a];by_cases b : (nd y.f4 0).f0 = 14
         · rw [if_pos b];exact ⟨115,_,rfl,fun _ => by unfold uI;omega,fun h => absurd h (by omega)⟩
         · rw [if_neg b];exact ⟨115,_,rfl,fun _ => by unfold uI;omega,fun h => absurd h (by omega)⟩
open Go.Lib Go.Proofs
theorem Ac.shift (b off n c i vb voff m vc : Nat) (cs vs : List Value) (w : World) (hi : i < n) (hm : 0 < m) (hroom : n + m ≤ c) (hc63 : c ≤ 9223372036854775807) (hvb : vb ≠ b)
 (hcl : cs.length = n) (hvl : vs.length = m)
 (hcs : ∀ j v,cs[j]? = some v → w.cell? ⟨b,off + j,none⟩ = some v) (hsp : ∀ j,j < n + m → (w.cell? ⟨b,off + j,none⟩).isSome = true) (hfz : ∀ j,j < n + m → w.frozen? ⟨b,off + j,none⟩ = false)
 (hvs : ∀ j v,vs[j]? = some v → w.cell? ⟨vb,voff + j,none⟩ = some v) (h1c : ∀ v ∈ cs,v.oneCell' = true) (h1v : ∀ v ∈ vs,v.oneCell' = true)
 (tA tB : TypeId) (kA kB : Nat) (hsa : w.shape? vb = some (tA,kA)) (hsb : w.shape? b = some (tB,kB)) (hkB : kB ≠ 0) (hfa : w.frozen? ⟨vb,voff,none⟩ = false) (hfe : w.frozen? ⟨vb,kA,none⟩ = false) :
 Calls Tryz.prog 116 #[.slice (some ⟨b,off,none⟩) n c,.int .i64 i,.slice (some ⟨vb,voff,none⟩) m vc] w fun e w' =>
  e = .returned (.slice (some ⟨b,off,none⟩) (n + m) c) ∧ w' = (w.drew.setCells b (off + (i + m)) (cs.drop i)).setCells b (off + i) vs:=by
 have t0:=Tryz.underlying0;have a0:=Tryz.isAgg0;have z0:=Tryz.sizeOf0;have v0:=Tryz.zeroValue0;have t3:=Tryz.underlying3;have a3:=Tryz.isAgg3;have z3:=Tryz.sizeOf3;have v3:=Tryz.zeroValue3;have t4:=Tryz.underlying4;have a4:=Tryz.isAgg4;have z4:=Tryz.sizeOf4;have v4:=Tryz.zeroValue4;have t9:=Tryz.underlying5;have a9:=Tryz.isAgg5;have z9:=Tryz.sizeOf5;have v9:=Tryz.zeroValue5;have t24:=Tryz.underlying40;have a24:=Tryz.isAgg40;have z24:=Tryz.sizeOf40;have v24:=Tryz.zeroValue40;have u0:=run_underlying Tryz.underlying0;have u3:=run_underlying Tryz.underlying3;have u4:=run_underlying Tryz.underlying4;have u9:=run_underlying Tryz.underlying5;have u24:=run_underlying Tryz.underlying40;have hz1 : ¬ ((m : Int) = 0):=by omega
 have hz2 : ¬ ((i : Int) = (n : Int)):=by omega
 have hsz : (Tryz.prog.info? 5).map (·.size) = some 1:=by
  obtain ⟨i0,hi0,h0,h1,h2⟩:=info_parts info5;rw [hi0];simp [h1]
 have hov : ∀ lb cb,(callFunc 127 #[.slice (some ⟨vb,voff,none⟩) m vc,.slice (some ⟨b,off + (i + m),none⟩) lb cb]).run Tryz.prog w = .ok (.value (.bool false)) w:=fun lb cb => by
  rw [run_callFunc_extern Tryz.func127 (by kernel_rfl) (by kernel_rfl) (by kernel_rfl) (e:=Extern.SlicesOverlaps.overlaps #[40,40] #[4]) (by kernel_rfl),
   Lib.run_overlaps_apart w 40 4 5 Tryz.underlying40 1 Tryz.sizeOf5 ⟨vb,voff,none⟩ ⟨b,off + (i + m),none⟩ m vc lb cb hvb tA tB kA kB hsa hsb hkB hfa hfe]
  rfl
 have hdl : (cs.drop i).length = n - i:=by rw [List.length_drop,hcl]
 have mixed:=(show Tryz.prog.follows .mixedOrders = true by kernel_rfl)
 have hw1 : IntKind.i64.wrap ((i : Int) + (m : Int)) = (i : Int) + (m : Int):=by rw [IntKind.wrap_i64];omega
 have hb1 : (0 : Int) ≤ (i : Int) + (m : Int):=by omega
 have hin : i ≤ n:=by omega
 have htn : ((i : Int) + (m : Int)).toNat = i + m:=by omega
 have hb2 : ¬ (c = i + m):=by omega
 have hb3 : (i : Int) ≤ (n : Int) + (m : Int):=by omega
 have hb4 : ¬ (c = i):=by omega
 have hcp1 : ∀ ty dc sc,(Builtin.copy_ #[40,40] ty #[.slice (some ⟨b,off + (i + m),none⟩) (n + m - (i + m)) dc,.slice (some ⟨b,off + i,none⟩) (n + m - i) sc]).run Tryz.prog w.drew = .ok (goInt (cs.drop i).length) (w.drew.setCells b (off + (i + m)) (cs.drop i)):=fun ty dc sc =>
  run_copy_cells w.drew _ _ ty 5 b (off + (i + m)) (n + m - (i + m)) dc ⟨b,off + i,none⟩ (n + m - i) sc (cs.drop i) Tryz.underlying40 hsz (by rw [hdl];simp only [Nat.min_def];split <;> omega)
   (fun j v hj => by rw [Addr.add_lit,Nat.add_assoc];exact hcs (i + j) v (by rwa [List.getElem?_drop] at hj))
   (fun j hj => by rw [Nat.add_assoc];exact hsp _ (by omega)) (fun j hj => by rw [Nat.add_assoc];exact hfz _ (by omega)) (fun v hv => h1c v (List.mem_of_mem_drop hv))
 obtain ⟨W1,hW1⟩ : ∃ W1,W1 = w.drew.setCells b (off + (i + m)) (cs.drop i):=⟨_,rfl⟩
 have hsp1 : ∀ k,k < n + m → (W1.cell? ⟨b,off + k,none⟩).isSome = true:=fun k hk => by
  rw [hW1];exact isSome_setCells b _ _ _ (fun j hj => by rw [Nat.add_assoc];exact hsp _ (by omega)) _ (hsp k hk)
 have hcp2 : ∀ (W : World),(∀ x,W.cell? x = W1.cell? x) → (∀ x,W.frozen? x = W1.frozen? x) → ∀ ty dc,(Builtin.copy_ #[40,40] ty #[.slice (some ⟨b,off + i,none⟩) (n + m - i) dc,.slice (some ⟨vb,voff,none⟩) m vc]).run Tryz.prog W = .ok (goInt vs.length) (W.setCells b (off + i) vs):=fun W hWc hWf ty dc =>
  run_copy_cells W _ _ ty 5 b (off + i) (n + m - i) dc ⟨vb,voff,none⟩ m vc vs Tryz.underlying40 hsz (by rw [hvl];simp only [Nat.min_def];split <;> omega)
   (fun j v hj => by
    rw [Addr.add_lit,hWc,hW1,World.cell?_setCells_out b _ _ _ _ (fun h _ => absurd h hvb)];exact hvs j v hj)
   (fun j hj => by rw [hWc,Nat.add_assoc];exact hsp1 _ (by omega)) (fun j hj => by rw [hWf,hW1,World.frozen?_setCells,Nat.add_assoc];exact hfz _ (by omega)) h1v
 rw [← hW1] at hcp1;go_enter Tryz.func116,Tryz.ntmps116
 go_wp2_with (simp only [hov])
 go_region_law_o (refine step_copy_runI rfl _ _ 40 40 rfl _ _ (by simp [Act.eval,Act.put]) (by simp [Act.eval,Act.put]) (hcp1 _ _ _) ?_)
 go_wp2_with (at_builtin;refine wpList_copy_runI _ rfl _ _ 40 40 rfl _ _ rfl rfl (hcp2 _ (fun _ => rfl) (fun _ => rfl) _ _) ?_)
 go_ret
 first|exact ⟨rfl,rfl⟩|exact ⟨rfl,by rw [hW1]⟩
theorem Ac.grow (b off n c i vb voff m vc : Nat) (cs vs : List Value) (w : World) (hi : i < n) (hm : 0 < m) (hnc : n ≤ c) (hroom : c < n + m) (hbig : (n + m) * 1 ≤ 140737488355328)
 (hcl : cs.length = n) (hvl : vs.length = m)
 (hcs : ∀ j v,cs[j]? = some v → w.cell? ⟨b,off + j,none⟩ = some v)
 (hvs : ∀ j v,vs[j]? = some v → w.cell? ⟨vb,voff + j,none⟩ = some v) (h1c : ∀ v ∈ cs,v.oneCell' = true) (h1v : ∀ v ∈ vs,v.oneCell' = true) :
 Calls Tryz.prog 116 #[.slice (some ⟨b,off,none⟩) n c,.int .i64 i,.slice (some ⟨vb,voff,none⟩) m vc] w fun e w' =>
  e = .returned (.slice (some ⟨w.heap.size,0,none⟩) (n + m) (grownCap w (n + m) c 5)) ∧
  w' = (((w.alloc (.cells ((cs.take i).toArray ++ Builtin.zeroCells (Value.int .u8 0).cells (n + m - i) ++ Builtin.zeroCells (Value.int .u8 0).cells (grownCap w (n + m) c 5 - (n + m))) 5)).drew.setCells w.heap.size i vs).drew).setCells w.heap.size (i + m) (cs.drop i):=by
 have t0:=Tryz.underlying0;have a0:=Tryz.isAgg0;have z0:=Tryz.sizeOf0;have v0:=Tryz.zeroValue0;have t3:=Tryz.underlying3;have a3:=Tryz.isAgg3;have z3:=Tryz.sizeOf3;have v3:=Tryz.zeroValue3;have t4:=Tryz.underlying4;have a4:=Tryz.isAgg4;have z4:=Tryz.sizeOf4;have v4:=Tryz.zeroValue4;have t9:=Tryz.underlying5;have a9:=Tryz.isAgg5;have z9:=Tryz.sizeOf5;have v9:=Tryz.zeroValue5;have t24:=Tryz.underlying40;have a24:=Tryz.isAgg40;have z24:=Tryz.sizeOf40;have v24:=Tryz.zeroValue40;have u0:=run_underlying Tryz.underlying0;have u3:=run_underlying Tryz.underlying3;have u4:=run_underlying Tryz.underlying4;have u9:=run_underlying Tryz.underlying5;have u24:=run_underlying Tryz.underlying40;have mixed:=(show Tryz.prog.follows .mixedOrders = true by kernel_rfl)
 obtain ⟨i0,hi0,hz0,hzs,hzb⟩:=info_parts info5;have hz1 : ¬ ((m : Int) = 0):=by omega
 have hz2 : ¬ ((i : Int) = (n : Int)):=by omega
 have hz3 : (c : Int) < (n : Int) + (m : Int):=by omega
 have hsz : (Tryz.prog.info? 5).map (·.size) = some 1:=by rw [hi0];simp [hzs]
 have hbw : b < w.heap.size:=block_lt_of_cell (hcs 0 _ (List.getElem?_eq_getElem (by omega)));have hvw : vb < w.heap.size:=block_lt_of_cell (hvs 0 _ (List.getElem?_eq_getElem (by omega)));have hkk : (n : Int) + (m : Int) - (i : Int) = ((n + m - i : Nat) : Int):=by omega
 have hik : i + (n + m - i) = n + m:=by omega
 have hold : (Builtin.firstCells i0.size i (.slice (some ⟨b,off,none⟩) i c)).run Tryz.prog w.drew = .ok (cs.take i).toArray w.drew:=by
  rw [hzs];exact run_firstCells_some w.drew 1 i ⟨b,off,none⟩ i c (cs.take i) (by rw [List.length_take];omega) (fun j v hj => by
   rw [Addr.add_lit];rw [List.getElem?_take] at hj
   split at hj
   · exact hcs j v hj
   · cases hj)
 have hrz : ∀ ty,(Builtin.append_ #[40,3] ty #[.slice (some ⟨b,off,none⟩) i c,.int .i64 ((n : Int) + (m : Int) - (i : Int))]).run Tryz.prog w =
  .ok (.slice (some ⟨w.heap.size,0,none⟩) (n + m) (grownCap w (n + m) c 5)) (w.drew.alloc (.cells ((cs.take i).toArray ++ Builtin.zeroCells (Value.int .u8 0).cells (n + m - i) ++ Builtin.zeroCells (Value.int .u8 0).cells (grownCap w (n + m) c 5 - (n + m))) 5)):=fun ty => by
  have h:=Lib.run_append_grow_zeros w 40 3 ty 5 i0 _ .i64 .i64 Tryz.underlying40 Tryz.underlying3 hi0 hz0 (some ⟨b,off,none⟩) i c (cs.take i) hold (n + m - i) (by omega) (by omega) (by omega) (by omega) (by rw [hzb];omega) (by rw [hzb,hik];exact growslice_fits hroom hbig);rw [hik] at h;rw [hkk];exact h
 obtain ⟨G,hG⟩ : ∃ G,G = grownCap w (n + m) c 5:=⟨_,rfl⟩
 obtain ⟨ROW,hROW⟩ : ∃ ROW : Array Value,ROW = (cs.take i).toArray ++ Builtin.zeroCells (Value.int .u8 0).cells (n + m - i) ++ Builtin.zeroCells (Value.int .u8 0).cells (G - (n + m)):=⟨_,rfl⟩
 rw [← hG] at hrz ⊢;rw [← hROW] at hrz ⊢;have hRl : n + m ≤ ROW.size:=by
  rw [hROW];simp [Builtin.zeroCells,Value.cells];omega
 obtain ⟨W1,hW1⟩ : ∃ W1,W1 = w.drew.alloc (.cells ROW 5):=⟨_,rfl⟩
 rw [← hW1] at hrz;have hN : ∀ j,j < n + m → (W1.cell? ⟨w.heap.size,j,none⟩).isSome = true:=fun j hj => by
  rw [hW1,World.cell?_alloc_at (w:=w.drew) ROW _ w.heap.size j rfl,Array.getElem?_eq_getElem (by omega)];rfl
 have hNf : ∀ j,W1.frozen? ⟨w.heap.size,j,none⟩ = false:=fun j => by rw [hW1];exact World.frozen?_alloc_at (w:=w.drew) ROW _ w.heap.size j rfl
 have hOb : ∀ j v,w.cell? ⟨b,j,none⟩ = some v → W1.cell? ⟨b,j,none⟩ = some v:=fun j v h => by rw [hW1,World.cell?_alloc_past (w:=w.drew) _ b j hbw];exact h
 have hOv : ∀ j v,w.cell? ⟨vb,j,none⟩ = some v → W1.cell? ⟨vb,j,none⟩ = some v:=fun j v h => by rw [hW1,World.cell?_alloc_past (w:=w.drew) _ vb j hvw];exact h
 have hcpA : ∀ (W : World),(∀ x,W.cell? x = W1.cell? x) → (∀ x,W.frozen? x = W1.frozen? x) → ∀ ty dc,(Builtin.copy_ #[40,40] ty #[.slice (some ⟨w.heap.size,i,none⟩) (n + m - i) dc,.slice (some ⟨vb,voff,none⟩) m vc]).run Tryz.prog W = .ok (goInt vs.length) (W.setCells w.heap.size i vs):=fun W hWc hWf ty dc =>
  run_copy_cells W _ _ ty 5 w.heap.size i (n + m - i) dc ⟨vb,voff,none⟩ m vc vs Tryz.underlying40 hsz (by rw [hvl];simp only [Nat.min_def];split <;> omega)
   (fun j v hj => by rw [Addr.add_lit,hWc];exact hOv _ v (hvs j v hj))
   (fun j hj => by rw [hWc];exact hN _ (by omega)) (fun j hj => by rw [hWf];exact hNf _) h1v
 have hGn : n + m ≤ G:=by rw [hG];exact grownCap_ge w _ _ _
 have hG63 : G ≤ 9223372036854775807:=by
  have:=grownCap_le_maxLen w (n + m) c 5 (by unfold maxLen;omega);rw [← hG] at this;unfold maxLen at this;omega
 have hGi : ¬ (G = i):=by omega
 have hGim : ¬ (G = i + m):=by omega
 have hci : ¬ (c = i):=by omega
 have hbN : b ≠ w.heap.size:=by omega
 have hdl : (cs.drop i).length = n - i:=by rw [List.length_drop,hcl]
 have hcpB : ∀ (W : World),(∀ x,W.cell? x = (W1.setCells w.heap.size i vs).cell? x) → (∀ x,W.frozen? x = (W1.setCells w.heap.size i vs).frozen? x) → ∀ ty dc sc,(Builtin.copy_ #[40,40] ty #[.slice (some ⟨w.heap.size,i + m,none⟩) (n + m - (i + m)) dc,.slice (some ⟨b,off + i,none⟩) (n - i) sc]).run Tryz.prog W = .ok (goInt (cs.drop i).length) (W.setCells w.heap.size (i + m) (cs.drop i)):=fun W hWc hWf ty dc sc =>
  run_copy_cells W _ _ ty 5 w.heap.size (i + m) (n + m - (i + m)) dc ⟨b,off + i,none⟩ (n - i) sc (cs.drop i) Tryz.underlying40 hsz (by rw [hdl];simp only [Nat.min_def];split <;> omega)
   (fun j v hj => by
    rw [Addr.add_lit,hWc,World.cell?_setCells_out _ _ _ _ _ (fun h _ => absurd h hbN),Nat.add_assoc];exact hOb _ v (hcs (i + j) v (by rwa [List.getElem?_drop] at hj)))
   (fun j hj => by rw [hWc];exact isSome_setCells _ _ _ _ (fun t ht => hN _ (by omega)) _ (hN _ (by omega)))
   (fun j hj => by rw [hWf,World.frozen?_setCells];exact hNf _) (fun v hv => h1c v (List.mem_of_mem_drop hv))
 subst hW1;have hE1 : ∀ x,((w.alloc (.cells ROW 5)).drew).cell? x = (w.drew.alloc (.cells ROW 5)).cell? x:=fun x => rfl
 have hE2 : ∀ x,((w.alloc (.cells ROW 5)).drew).frozen? x = (w.drew.alloc (.cells ROW 5)).frozen? x:=fun x => rfl
 have hF1 : ∀ x,(((w.alloc (.cells ROW 5)).drew.setCells w.heap.size i vs).drew).cell? x = ((w.drew.alloc (.cells ROW 5)).setCells w.heap.size i vs).cell? x:=fun x => rfl
 have hF2 : ∀ x,(((w.alloc (.cells ROW 5)).drew.setCells w.heap.size i vs).drew).frozen? x = ((w.drew.alloc (.cells ROW 5)).setCells w.heap.size i vs).frozen? x:=fun x => rfl
 have hw1 : IntKind.i64.wrap ((i : Int) + (m : Int)) = (i : Int) + (m : Int):=by rw [IntKind.wrap_i64];omega
 have hb1 : (0 : Int) ≤ (i : Int) + (m : Int):=by omega
 have hin : i ≤ n:=by omega
 have htn : ((i : Int) + (m : Int)).toNat = i + m:=by omega
 have hb3 : (i : Int) ≤ (n : Int):=by omega
 clear hkk hik hold hROW hG hRl;go_enter Tryz.func116,Tryz.ntmps116
 go_wp2_with (first
  | (at_builtin;refine Lib.wpList_append_run _ rfl _ _ _ _ rfl _ _ rfl rfl _ _ (hrz _) ?_)
  | (at_builtin;refine wpList_copy_runI _ rfl _ _ 40 40 rfl _ _ rfl rfl (hcpA _ hE1 hE2 _ _) ?_)
  | (at_builtin;refine wpList_copy_runI _ rfl _ _ 40 40 rfl _ _ rfl rfl (hcpB _ (fun _ => rfl) (fun _ => rfl) _ _ _) ?_))
 go_region_law_o (refine step_copy_runI rfl _ _ 40 40 rfl (.slice (some ⟨w.heap.size,i + m,none⟩) (n + m - (i + m)) (G - (i + m))) (.slice (some ⟨b,off + i,none⟩) (n - i) (c - i)) (by simp [Act.eval,Act.put]) (by simp [Act.eval,Act.put]) (hcpB _ hF1 hF2 3 (G - (i + m)) (c - i)) ?_)
 go_wp2
 go_ret
 exact ⟨rfl,rfl⟩
end Go.Proofs.YtboojhadfhpdeaaGreatDoor.Q
namespace Go.Proofs.YtboojhadfhpdeaaGreatDoor.Q
open Go.RowKit Go.Proofs.YtboojhadfhpdeaaGreatDoorW.PrintWords Go.Proofs.YtboojhadfhpdeaaGreatDoorW.PrintLast Go.Proofs.YtboojhadfhpdeaaGreatDoorW.PrintMore
theorem oz (g : Nat) (t : TypeId) : ∀ (vs : List Value) (o : Nat) (w : World) (cur : Array Value),w.heap[g]? = some (.cells cur t (0,0)) →
 ∃ cur',(w.setCells g o vs).heap[g]? = some (.cells cur' t (0,0)) ∧ cur'.size = cur.size ∧ ∀ j,cur'[j]? = if o ≤ j ∧ j < o + vs.length ∧ j < cur.size then vs[j - o]? else cur[j]?
 | [],o,w,cur,h => ⟨cur,h,rfl,fun j => by rw [if_neg (by simp;omega)]⟩
 | v :: vs,o,w,cur,h => by
  obtain ⟨cur',h1,h2,h3⟩:=oz g t vs (o + 1) _ _ (qx h o v);refine ⟨cur',h1,by rw [h2,Array.size_setIfInBounds],fun j => ?_⟩;rw [h3,Array.size_setIfInBounds,Array.getElem?_setIfInBounds];by_cases hj : o = j
  · subst hj;rw [if_neg (by omega)];by_cases hs : o < cur.size
    · rw [if_pos rfl,if_pos hs,if_pos ⟨Nat.le_refl _,by simp,hs⟩];simp
    · rw [if_pos rfl,if_neg hs,if_neg (by omega),Array.getElem?_eq_none (by omega)]
  · rw [if_neg hj];by_cases hr : o + 1 ≤ j ∧ j < o + 1 + vs.length ∧ j < cur.size
    · rw [if_pos hr,if_pos ⟨by omega,by simp only [List.length_cons];omega,hr.2.2⟩,show j - o = (j - (o + 1)) + 1 by omega,List.getElem?_cons_succ]
    · rw [if_neg hr,if_neg (by simp only [List.length_cons];omega)]
theorem mX (g : Nat) : ∀ (vs : List Value) (o : Nat) (w : World) (k : Nat),k ≠ g → (w.setCells g o vs).heap[k]? = w.heap[k]?
 | [],_,_,_,_ => rfl
 | v :: vs,o,w,k,h => (mX g vs (o + 1) _ k h).trans (Below.heap_setCell w _ v k h)
theorem oC (g : Nat) : ∀ (vs : List Value) (o : Nat) (w : World),(w.setCells g o vs).os = w.os ∧ (w.setCells g o vs).tape = w.tape ∧ (w.setCells g o vs).output = w.output ∧ (w.setCells g o vs).heap.size = w.heap.size
 | [],_,_ => ⟨rfl,rfl,rfl,rfl⟩
 | v :: vs,o,w => by
  obtain ⟨h1,h2,h3,h4⟩:=oC g vs (o + 1) (w.setCell ⟨g,o,none⟩ v);exact ⟨h1,h2,h3,h4.trans (by simp [World.setCell])⟩
theorem Qy {cs : List Value} {cur : Array Value} {i : Nat} {u : Value} (hi : i < cs.length) (hn : cs.length + 1 ≤ cur.size) (h : ∀ j,cur[j]? = if j < i then cs[j]? else if j = i then some u else if j < cs.length + 1 then cs[j - 1]? else cur[j]?) :
 cur.toList.take (cs.length + 1) = cs.take i ++ u :: cs.drop i:=by
 apply List.ext_getElem?;intro j;rw [List.getElem?_take];by_cases hj : j < cs.length + 1
 · rw [if_pos hj,Array.getElem?_toList,h j];by_cases h1 : j < i
   · rw [if_pos h1,List.getElem?_append_left (by rw [List.length_take];omega),List.getElem?_take,if_pos h1]
   · rw [if_neg h1,List.getElem?_append_right (by rw [List.length_take];omega),List.length_take,Nat.min_eq_left (by omega)];by_cases h2 : j = i
     · subst h2;rw [if_pos rfl,Nat.sub_self,List.getElem?_cons_zero]
     · rw [if_neg h2,if_pos hj,show j - i = (j - i - 1) + 1 by omega,List.getElem?_cons_succ,List.getElem?_drop];congr 1;omega
 · rw [if_neg hj];symm;apply List.getElem?_eq_none;simp only [List.length_append,List.length_take,List.length_cons,List.length_drop];omega
theorem Ac.own {b i vb cc : Nat} {l : List Int} {v : Value} {w w0 : World} (hv : w.ownsRow b 5 1 v l.length (nums .u8 l)) (hi : i < l.length) (hB : Below b w0 w) (hb : b ≤ w.heap.size) (hlen : l.length + 1 ≤ 140737488355328) (hvb : w.heap[vb]? = some (.cells #[.int .u8 32] 5 (0,0))) (hne : v.ownBlock ≠ some vb) :
 Calls Tryz.prog 116 #[v,.int .i64 i,.slice (some ⟨vb,0,none⟩) 1 cc] w fun e w' => ∃ v1,e = .returned v1 ∧ w'.ownsRow b 5 1 v1 (l.take i ++ 32 :: l.drop i).length (nums .u8 (l.take i ++ 32 :: l.drop i)) ∧ Below b w0 w' ∧ w.grownBy w' v.ownBlock:=by
 have hrest:=hv;obtain ⟨hl,⟨_,h0⟩ | ⟨g,cap,cur,rfl,hbg,hg,hnc,hcm,hcs,htk⟩⟩:=hv
 · omega
 rw [Nat.mul_one] at htk hcs;have hcl : (nums .u8 l).length = l.length:=nums_length _ _;have hgv : vb ≠ g:=fun e => hne (by rw [e];rfl)
 have hcell : ∀ j u,(nums .u8 l)[j]? = some u → w.cell? ⟨g,0 + j,none⟩ = some u:=fun j u hj => by
  rw [Nat.zero_add,ak hg];rw [← htk,List.getElem?_take] at hj
  split at hj
  · rw [Array.getElem?_toList] at hj;exact hj
  · cases hj
 have h1c : ∀ u ∈ nums .u8 l,u.oneCell' = true:=fun u hu => by
  obtain ⟨z,_,rfl⟩:=List.mem_map.1 hu;rfl
 have hvc : ∀ j u,([.int .u8 32] : List Value)[j]? = some u → w.cell? ⟨vb,0 + j,none⟩ = some u:=fun j u hj => by
  rw [Nat.zero_add,ak hvb]
  simpa using hj
 have h1v : ∀ u ∈ ([.int .u8 32] : List Value),u.oneCell' = true:=fun u hu => by
  rw [List.mem_singleton] at hu;subst hu;rfl
 have hnew : (l.take i ++ 32 :: l.drop i).length = l.length + 1:=by
  simp only [List.length_append,List.length_take,List.length_cons,List.length_drop];omega
 have hnums : nums .u8 (l.take i ++ 32 :: l.drop i) = (nums .u8 l).take i ++ .int .u8 32 :: (nums .u8 l).drop i:=by
  simp [nums,List.map_take,List.map_drop]
 have hdl : ((nums .u8 l).drop i).length = l.length - i:=by rw [List.length_drop,hcl]
 by_cases hroom : l.length + 1 ≤ cap
 · have hc63 : cap ≤ 9223372036854775807:=by unfold maxLen at hcm;omega
   refine (Ac.shift g 0 l.length cap i vb 0 1 cc (nums .u8 l) [.int .u8 32] w hi (by omega) hroom hc63 hgv hcl rfl hcell (fun j hj => by rw [Nat.zero_add,ak hg,Array.getElem?_eq_getElem (by omega)];rfl) (fun j _ => ay hg _) hvc h1c h1v 5 5 1 cur.size (by unfold World.shape?;rw [hvb];rfl) (by unfold World.shape?;rw [hg]) (by omega) (ay hvb _) (ay hvb _)).mono ?_;rintro e w' ⟨rfl,rfl⟩;obtain ⟨c1,a1,a2,a3⟩:=oz g 5 ((nums .u8 l).drop i) (0 + (i + 1)) w.drew cur hg;obtain ⟨c2,b1,b2,b3⟩:=oz g 5 [.int .u8 32] (0 + i) _ c1 a1;obtain ⟨r1,r2,r3,r4⟩:=oC g ((nums .u8 l).drop i) (0 + (i + 1)) w.drew;obtain ⟨s1,s2,s3,s4⟩:=oC g [.int .u8 32] (0 + i) (w.drew.setCells g (0 + (i + 1)) ((nums .u8 l).drop i));have hfar : ∀ k,k ≠ g → ((w.drew.setCells g (0 + (i + 1)) ((nums .u8 l).drop i)).setCells g (0 + i) [.int .u8 32]).heap[k]? = w.heap[k]? := fun k hk => (mX g _ _ _ k hk).trans (mX g _ _ _ k hk)
   refine ⟨_,rfl,⟨by rw [nums_length,Nat.mul_one],.inr ⟨g,cap,c2,by rw [hnew],hbg,b1,by rw [hnew];exact hroom,hcm,by rw [b2,a2,hcs,Nat.mul_one],?_⟩⟩,⟨s1.trans (r1.trans hB.os),s2.trans (r2.trans hB.tape),s3.trans (r3.trans hB.output),by rw [s4,r4];exact hB.size,fun k hk => (hfar k (by omega)).trans (hB.block k hk)⟩,⟨s1.trans r1,s2.trans r2,s3.trans r3,by rw [s4,r4];exact Nat.le_refl _,fun k _ hk => hfar k (fun e => hk (by rw [e];rfl))⟩⟩;rw [hnew,hnums,Nat.mul_one,show l.length + 1 = (nums .u8 l).length + 1 by rw [hcl]];refine Qy (by omega) (by omega) (fun j => ?_);rw [b3,a3,a2];by_cases h1 : j < i
   · rw [if_neg (by omega),if_neg (by omega),if_pos h1,← htk,List.getElem?_take,if_pos (by omega),Array.getElem?_toList]
   · by_cases h2 : j = i
     · subst h2;rw [if_pos ⟨by omega,by simp,by omega⟩,if_neg h1,if_pos rfl,Nat.zero_add,Nat.sub_self];rfl
     · rw [if_neg (by simp only [List.length_cons,List.length_nil];omega),if_neg h1,if_neg h2];by_cases h3 : j < (nums .u8 l).length + 1
       · rw [if_pos h3,if_pos ⟨by omega,by rw [hdl];omega,by omega⟩,List.getElem?_drop];congr 1;omega
       · rw [if_neg h3,if_neg (by rw [hdl];omega)]
 · refine (Ac.grow g 0 l.length cap i vb 0 1 cc (nums .u8 l) [.int .u8 32] w hi (by omega) hnc (by omega) (by omega) hcl rfl hcell hvc h1c h1v).mono ?_;rintro e w' ⟨rfl,rfl⟩;have hG1 : l.length + 1 ≤ grownCap w (l.length + 1) cap 5:=grownCap_ge w _ _ _;have hG2 : grownCap w (l.length + 1) cap 5 ≤ maxLen:=grownCap_le_maxLen w _ _ _ (by unfold maxLen;omega);generalize grownCap w (l.length + 1) cap 5 = G at hG1 hG2 ⊢;have hrs : (((nums .u8 l).take i).toArray ++ Builtin.zeroCells (Value.int .u8 0).cells (l.length + 1 - i) ++ Builtin.zeroCells (Value.int .u8 0).cells (G - (l.length + 1))).size = G:=by
    simp [Builtin.zeroCells,Value.cells,hcl];omega
   have hrl : ∀ j,j < i → (((nums .u8 l).take i).toArray ++ Builtin.zeroCells (Value.int .u8 0).cells (l.length + 1 - i) ++ Builtin.zeroCells (Value.int .u8 0).cells (G - (l.length + 1)))[j]? = (nums .u8 l)[j]? := fun j hj => by
    rw [Array.append_assoc,Array.getElem?_append_left (by simp [hcl];omega),List.getElem?_toArray,List.getElem?_take,if_pos hj]
   generalize (((nums .u8 l).take i).toArray ++ Builtin.zeroCells (Value.int .u8 0).cells (l.length + 1 - i) ++ Builtin.zeroCells (Value.int .u8 0).cells (G - (l.length + 1))) = ROW at hrs hrl ⊢;have hN : ((w.alloc (.cells ROW 5)).drew).heap[w.heap.size]? = some (.cells ROW 5 (0,0)):=eP w _;obtain ⟨c1,a1,a2,a3⟩:=oz w.heap.size 5 [.int .u8 32] i _ ROW hN;obtain ⟨c2,b1,b2,b3⟩:=oz w.heap.size 5 ((nums .u8 l).drop i) (i + 1) (((w.alloc (.cells ROW 5)).drew.setCells w.heap.size i [.int .u8 32]).drew) c1 a1;obtain ⟨r1,r2,r3,r4⟩:=oC w.heap.size [.int .u8 32] i ((w.alloc (.cells ROW 5)).drew);obtain ⟨s1,s2,s3,s4⟩:=oC w.heap.size ((nums .u8 l).drop i) (i + 1) (((w.alloc (.cells ROW 5)).drew.setCells w.heap.size i [.int .u8 32]).drew);have hfar : ∀ k,k < w.heap.size → ((((w.alloc (.cells ROW 5)).drew.setCells w.heap.size i [.int .u8 32]).drew).setCells w.heap.size (i + 1) ((nums .u8 l).drop i)).heap[k]? = w.heap[k]? := fun k hk => by
    have hk' : k ≠ w.heap.size:=by omega
    rw [mX _ _ _ _ k hk'];show ((w.alloc (.cells ROW 5)).drew.setCells w.heap.size i [.int .u8 32]).heap[k]? = _
    rw [mX _ _ _ _ k hk'];show (w.alloc (.cells ROW 5)).heap[k]? = _
    exact Below.heap_alloc w _ k hk
   have hsz : ((((w.alloc (.cells ROW 5)).drew.setCells w.heap.size i [.int .u8 32]).drew).setCells w.heap.size (i + 1) ((nums .u8 l).drop i)).heap.size = w.heap.size + 1:=by
    rw [s4];show ((w.alloc (.cells ROW 5)).drew.setCells w.heap.size i [.int .u8 32]).heap.size = _
    rw [r4];show (w.alloc (.cells ROW 5)).heap.size = _
    simp
   refine ⟨_,rfl,⟨by rw [nums_length,Nat.mul_one],.inr ⟨w.heap.size,G,c2,by rw [hnew],hb,b1,by rw [hnew];exact hG1,hG2,by rw [b2,a2,hrs,Nat.mul_one],?_⟩⟩,⟨s1.trans (r1.trans hB.os),s2.trans (r2.trans hB.tape),s3.trans (r3.trans hB.output),by rw [hsz];have:=hB.size;omega,fun k hk => (hfar k (by omega)).trans (hB.block k hk)⟩,⟨s1.trans r1,s2.trans r2,s3.trans r3,by rw [hsz];omega,fun k hk _ => hfar k hk⟩⟩;rw [hnew,hnums,Nat.mul_one,show l.length + 1 = (nums .u8 l).length + 1 by rw [hcl]];refine Qy (by omega) (by omega) (fun j => ?_);rw [b3,a3,a2,hrs];by_cases h1 : j < i
   · rw [if_neg (by omega),if_neg (by omega),if_pos h1,hrl j h1]
   · by_cases h2 : j = i
     · subst h2;rw [if_neg (by omega),if_pos ⟨by omega,by simp,by omega⟩,if_neg h1,if_pos rfl,Nat.sub_self];rfl
     · rw [if_neg h1,if_neg h2];by_cases h3 : j < (nums .u8 l).length + 1
       · rw [if_pos h3,if_pos ⟨by omega,by rw [hdl];omega,by omega⟩,List.getElem?_drop];congr 1;omega
       · rw [if_neg h3,if_neg (by rw [hdl];omega),if_neg (by simp only [List.length_cons,List.length_nil];omega)]
theorem PE.row {p g : Nat} {w0 : World} {x : bn} {A : Option Addr} {c : Nat} {F r : List Int} {ws W : World} (E : PE false p g w0 x A c F r ws W) : ∃ m A' c',m ++ r = F ∧ w0.heap.size ≤ p ∧ W.heap[p]? = some (.cells #[.slice A' m.length c'] 42 (0,0)) ∧ W.ownsRow w0.heap.size 5 1 (.slice A' m.length c') m.length (nums .u8 m):=by
 obtain ⟨b,⟨m,hm,l,⟨hp,hb,v,h1,h2⟩,hl⟩,hF,g,tb⟩:=E.st;obtain rfl : l = m:=by
  rcases hl with h | ⟨h,_⟩
  · exact h
  · cases h
 rcases h2.2 with ⟨e1,e2⟩ | ⟨q,cap,cur,e1,_⟩
 · subst e1;rw [← e2] at h1 h2 ⊢;exact ⟨l,none,0,hm,hp,by rw [← e2];exact h1,by rw [← e2];exact h2⟩
 · subst e1;exact ⟨l,_,cap,hm,hp,h1,h2⟩
theorem LH {w : World} {b n : Nat} {A : Option Addr} {c : Nat} {l : List Int} (h : w.ownsRow b 5 1 (.slice A n c) n (nums .u8 l)) {i : Nat} (hn : l.length = n) (hi : i < n) : ∃ q,A = some ⟨q,0,none⟩ ∧ w.cell? ⟨q,i,none⟩ = some (.int .u8 (l.getD i 0)):=by
 rcases h.2 with ⟨e1,e2⟩ | ⟨q,cap,cur,e1,_,h3,_,_,_,h6⟩
 · omega
 · injection e1 with e1 _ _
   refine ⟨q,e1,?_⟩;rw [Nat.mul_one] at h6;have h7 : (nums .u8 l)[i]? = cur[i]? := by rw [← h6,List.getElem?_take,if_pos hi,Array.getElem?_toList]
   rw [ak h3,← h7];simp [nums,List.getElem?_map,List.getElem?_eq_getElem (show i < l.length by omega),List.getD_eq_getElem?_getD]
theorem pos_of {s : ByteArray} {c : UInt8} (h : s.data.toList = [c]) : 0 < s.size:=by
 obtain rfl:=ba_of h;exact Nat.zero_lt_one
theorem idx0 {s : ByteArray} {c : UInt8} (h : s.data.toList = [c]) {hh : 0 < s.size} : s[0] = c:=by
 obtain rfl:=ba_of h;rfl
theorem own_below {b n : Nat} {v : Value} {xs : List Value} {w w' : World} (h : w.ownsRow b 5 1 v n xs) (hB : Below w.heap.size w w') : w'.ownsRow b 5 1 v n xs:=uK h (fun k hk => by
 obtain ⟨_,cur,hc⟩:=qy h hk;exact hB.block k (jl hc))
theorem ins_fin {p : Nat} {w0 ws W w1 : World} {F r m0 m1 m2 s t : List Int} {v v1 : Value} (hS : St false p w0 F (s ++ ([32] ++ (t ++ r))) ws) (h0 : m0 ++ (s ++ ([32] ++ (t ++ r))) = F) (h1 : m1 ++ (t ++ []) = m0 ++ (s ++ (t ++ []))) (h2 : m2 = m1 ++ t) (hp : w0.heap.size ≤ p) (hb : w0.heap.size ≤ W.heap.size) (hf : Fr p ws W) (hh : W.heap[p]? = some (.cells #[v] 42 (0,0))) (ho : W.ownsRow w0.heap.size 5 1 v m2.length (nums .u8 m2))
 (h3 : w1.ownsRow w0.heap.size 5 1 v1 (m2.take m1.length ++ 32 :: m2.drop m1.length).length (nums .u8 (m2.take m1.length ++ 32 :: m2.drop m1.length))) (hB : Below w0.heap.size w0 w1) (hg : W.grownBy w1 v.ownBlock) :
 w1.heap[p]? = some (.cells #[v] 42 (0,0)) ∧ St false p w0 F r (w1.setCell ⟨p,0,none⟩ v1) ∧ Fr p ws (w1.setCell ⟨p,0,none⟩ v1):=by
 obtain ⟨a1,a2,a3,a4⟩:=PX.put (l' := m2.take m1.length ++ 32 :: m2.drop m1.length) (by decide) hp hb hh ho h3 hB hg;refine ⟨a1,⟨a3,⟨_,?_,_,a2,.inl rfl⟩,hS.len,hS.g,hS.tb⟩,hf.trans a4⟩;have e1 : m1 = m0 ++ s:=by
  rw [List.append_nil,← List.append_assoc] at h1;exact List.append_cancel_right h1
 rw [h2,List.take_left',List.drop_left',← h0,e1]
 · simp only [List.append_assoc,List.cons_append,List.nil_append]
 · rfl
 · rfl
theorem qj.k9a {p : Nat} {w0 w : World} {F r : List Int} {x : bn} {A : Option Addr} {c : Nat} {n : Nat} (hx : jh x = true) (he : ∀ y ∈ x.f4,jh y = true → lX n y) (hz : SizeOf.sizeOf x ≤ n) (hk : x.f0 = 9) (hb : ¬ ((nd x.f4 0).f0 = 9 ∧ (nd x.f4 0).f1.toList = x.f1.toList)) (h : St false p w0 F (iy (n + 1) x ++ r) w) (hn : ND w0 x A c) : Calls Tryz.prog 100 #[.pointer (some ⟨p,0,none⟩),val x A c] w (nY false p w0 F r (.tuple #[]) w):=by
 obtain ⟨hl,hx0⟩:=ex_9 hx hk;obtain ⟨s0,hs0⟩ : ∃ s0,x.f1.data.toList = [s0] ∧ uI (s0.toNat : Int) = False:=by
  have hs:=ex_9s hx hk;simp only [List.mem_cons,List.not_mem_nil,or_false] at hs;rcases hs with h|h|h|h <;> exact ⟨_,h,eq_false (by unfold uI;decide)⟩
 obtain ⟨ch,tl,hT,hT9,hT0⟩:=fb_at (n:=n) (y:=nd x.f4 0) (Nat.lt_of_lt_of_le (gu (fH (by omega))) hz) hx0;have hcmp : (ch == (s0.toNat : Int)) = false:=by
  rw [beq_eq_false_iff_ne];intro e;by_cases h9 : (nd x.f4 0).f0 = 9
  · obtain ⟨k,e1,e2⟩:=hT0 h9;refine hb ⟨h9,?_⟩;rw [Lib.toList_data,Lib.toList_data,e1,hs0.1];congr 1;rw [← UInt8.toNat_inj];omega
  · have:=hT9 h9;rw [e,hs0.2] at this;exact this
 rw [Qq hk] at h;unfold ex9 at h;rw [if_neg hb] at h;simp only [List.append_assoc,List.nil_append] at h;have CJ : (0 : Int) < (x.f4.length : Int):=by omega
 have CO : 0 < x.f4.length:=by omega
 obtain ⟨ad,rfl⟩:=gY hn.C (show 0 < x.f4.length by omega);obtain ⟨A0,d0,hn0,hk0⟩:=zZ hn.C (show 0 < x.f4.length by omega);have qK:=ah.mk hn0;have jq:=ah.mk hk0;have b9:=Yt hk 9 rfl
 have b14:=Yf hk 14 rfl
 have b15:=Yf hk 15 rfl
 have b10:=Yf hk 10 rfl
 have b11:=Yf hk 11 rfl
 have b12:=Yf hk 12 rfl
 have b13:=Yf hk 13 rfl
 have Jq:=ah.mk (show 9 ≤ x.f0 ∧ x.f0 ≤ 15 by omega);have vN:=ah.mk (he _ (fH (show 0 < x.f4.length by omega)) hx0);have HX0:=ah.mk hx0;have HS0:=ah.mk hs0.1;have HT:=ah.mk hT;have HCMP:=ah.mk hcmp;clear he hx hx0 hs0 hT hT9 hT0 hb hz hcmp;have vC:=ah.mk hl;clear hl;have E:=PE.start h hn;clear h hn;obtain ⟨iC,iD,iE,iF,iG,iH⟩:=jq.out.at E.out.st.b;clear hn0 hk0;have HKK:=ah.mk hk;clear hk;go_enter Tryz.func100,Tryz.ntmps100
 go_wp2_with (first
  | (go_at_call 115;(try clear c0 c1 c2 c3 c4 c5);(with_reducible refine PE.same E E.out (fun st => jf.no Jq.out st E.out.k) (fun w1 E c0 c1 c2 c3 c4 c5 => ?_));(try ((try clear iC iD iE iF iG iH);obtain ⟨iC,iD,iE,iF,iG,iH⟩:=jq.out.at E.out.st.b)))
  | (go_at_call 54;(try clear c0 c1 c2 c3 c4 c5);(with_reducible refine PE.jI E (fun w1 E c0 c1 c2 c3 c4 c5 => ?_));(try ((try clear iC iD iE iF iG iH);obtain ⟨iC,iD,iE,iF,iG,iH⟩:=jq.out.at E.out.st.b));obtain ⟨m1,A7,c7,hm1,hp1,hh1,ho1⟩:=E.out.row;have cp:=(ak hh1 0).trans (show #[Value.slice A7 m1.length c7][0]? = some (.slice A7 m1.length c7) from rfl);have HM1:=ah.mk hm1;clear hm1 hp1 hh1 ho1)
  | (go_at_call 85;(try clear c0 c1 c2 c3 c4 c5 cp);(with_reducible refine PE.call E E.out (fun st => yA.all vN.out HX0.out st qK.out) (fun w2 E c0 c1 c2 c3 c4 c5 => ?_)))
  | fail)
 obtain ⟨m2,A8,c8,hm2,hp2,hh2,ho2⟩:=E.out.row;have hmm : m2 = m1 ++ qU (iy n) (nd x.f4 0) 12:=List.append_cancel_right (bs:=r) (hm2.trans (by rw [List.append_assoc];exact HM1.out.symm));rw [HT.out] at hmm;have hlt : m1.length < m2.length:=by rw [hmm,List.length_append,List.length_cons];omega
 obtain ⟨q2,rfl,hce⟩:=LH ho2 rfl hlt;rw [show m2.getD m1.length 0 = ch from by rw [hmm];simp] at hce;have i1 : (0 : Int) ≤ (m1.length : Int):=by omega
 have i2 : (m1.length : Int) < (m2.length : Int):=by omega
 have HLT:=ah.mk hlt;have HMM:=ah.mk hmm;have HP2:=ah.mk hp2;have HM2:=ah.mk hm2;clear hlt hmm hp2 hm2;have cp:=(ak hh2 0).trans (show #[Value.slice (some ⟨q2,0,none⟩) m2.length c8][0]? = some (.slice (some ⟨q2,0,none⟩) m2.length c8) from rfl);have HH:=ah.mk (show w2.drew.heap[p]? = some (.cells #[.slice (some ⟨q2,0,none⟩) m2.length c8] 42 (0,0)) from hh2);have HO:=ah.mk (show w2.drew.ownsRow w0.heap.size 5 1 (.slice (some ⟨q2,0,none⟩) m2.length c8) m2.length (nums .u8 m2) from ho2);clear hh2 ho2;refine jV (n:=11) (S:=fun w' => w'.cell? ⟨p,0,none⟩ = some (.slice (some ⟨q2,0,none⟩) m2.length c8) ∧ w'.cell? ⟨q2,m1.length,none⟩ = some (.int .u8 ch) ∧ w'.cell? ⟨w.heap.size,1,none⟩ = some (.string x.f1) ∧ True) (ds:=[]) (Array.replicate 11 false) (by kernel_rfl) rfl rfl ⟨cp,hce,c1,trivial⟩ (fun hHeld => ?_);refine jw (T:=kG .any (opsOf Tryz.f100 7)) (by kernel_rfl) (fun bM => ?_);replace E:=ah.mk (E.out.step (W1:=w2.drew) (aA (Below.refl _ _)));clear c0 c1 c2 c3 c4 c5 cp hce;generalize w2.drew = w7 at E HH HO hHeld ⊢;refine rp 0 30 bM (h:=?_);refine rp 1 31 bM (h:=?_);refine rp 2 32 bM (h:=?_);refine EF 3 33 bM hHeld (h:=?_);refine rp 4 34 bM (h:=?_);refine rp 5 35 bM (h:=?_);refine EF 6 36 bM hHeld (h:=?_);refine rp 7 37 bM (h:=?_);refine EF 8 38 bM hHeld (h:=?_);refine rp (v:=.int .u8 (s0.toNat : Int)) 9 39 bM (hy:=by intro w';go_simp;rw [dif_pos (pos_of HS0.out),idx0 HS0.out];rfl) (h:=?_);refine rp (v:=.bool (ch == (s0.toNat : Int))) 10 40 bM (hy:=by intro w';go_simp) (h:=?_);refine EX bM ?_;have hcmp:=HCMP.out;go_wp2
 first|go_end0|go_ret|(refine bodyPost_ret (results_none rfl _ _ _) rfl ?_)
 exact ⟨rfl,E.out.st,E.out.fr⟩
theorem qj.k9b {p : Nat} {w0 w : World} {F r : List Int} {x : bn} {A : Option Addr} {c : Nat} {n : Nat} (hx : jh x = true) (he : ∀ y ∈ x.f4,jh y = true → lX n y) (hz : SizeOf.sizeOf x ≤ n) (hk : x.f0 = 9) (hb : ((nd x.f4 0).f0 = 9 ∧ (nd x.f4 0).f1.toList = x.f1.toList)) (h : St false p w0 F (iy (n + 1) x ++ r) w) (hn : ND w0 x A c) : Calls Tryz.prog 100 #[.pointer (some ⟨p,0,none⟩),val x A c] w (nY false p w0 F r (.tuple #[]) w):=by
 obtain ⟨hl,hx0⟩:=ex_9 hx hk;obtain ⟨s0,hs0⟩ : ∃ s0,x.f1.data.toList = [s0] ∧ uI (s0.toNat : Int) = False:=by
  have hs:=ex_9s hx hk;simp only [List.mem_cons,List.not_mem_nil,or_false] at hs;rcases hs with h|h|h|h <;> exact ⟨_,h,eq_false (by unfold uI;decide)⟩
 obtain ⟨ch,tl,hT,hT9,hT0⟩:=fb_at (n:=n) (y:=nd x.f4 0) (Nat.lt_of_lt_of_le (gu (fH (by omega))) hz) hx0;have hcmp : (ch == (s0.toNat : Int)) = true:=by
  obtain ⟨k,e1,e2⟩:=hT0 hb.1;have : [k] = [s0]:=by rw [← e1,← hs0.1,← Lib.toList_data,← Lib.toList_data];exact hb.2
  rw [e2,(List.cons.inj this).1];simp
 rw [Qq hk] at h;unfold ex9 at h;rw [if_pos hb] at h;simp only [List.append_assoc,List.nil_append] at h;have CJ : (0 : Int) < (x.f4.length : Int):=by omega
 have CO : 0 < x.f4.length:=by omega
 obtain ⟨ad,rfl⟩:=gY hn.C (show 0 < x.f4.length by omega);obtain ⟨A0,d0,hn0,hk0⟩:=zZ hn.C (show 0 < x.f4.length by omega);have qK:=ah.mk hn0;have jq:=ah.mk hk0;have b9:=Yt hk 9 rfl
 have b14:=Yf hk 14 rfl
 have b15:=Yf hk 15 rfl
 have b10:=Yf hk 10 rfl
 have b11:=Yf hk 11 rfl
 have b12:=Yf hk 12 rfl
 have b13:=Yf hk 13 rfl
 have Jq:=ah.mk (show 9 ≤ x.f0 ∧ x.f0 ≤ 15 by omega);have vN:=ah.mk (he _ (fH (show 0 < x.f4.length by omega)) hx0);have HX0:=ah.mk hx0;have HS0:=ah.mk hs0.1;have HT:=ah.mk hT;have HCMP:=ah.mk hcmp;clear he hx hx0 hs0 hT hT9 hT0 hb hz hcmp;have vC:=ah.mk hl;clear hl;obtain ⟨m0,hm0,hbx0⟩:=h.ex;have HST:=ah.mk h;have h:=(show St false p w0 (m0 ++ (bytesOf x.f1 ++ (qU (iy n) (nd x.f4 0) 12 ++ []))) (bytesOf x.f1 ++ (qU (iy n) (nd x.f4 0) 12 ++ [])) w from ⟨h.b,⟨m0,rfl,hbx0⟩,by have:=h.len;rw [← hm0] at this;simp only [List.length_append,List.length_nil] at this ⊢;omega,h.g,h.tb⟩)
 clear hbx0;have HM0:=ah.mk hm0;clear hm0;have E:=PE.start h hn;clear h hn;obtain ⟨iC,iD,iE,iF,iG,iH⟩:=jq.out.at E.out.st.b;clear hn0 hk0;have HKK:=ah.mk hk;clear hk;go_enter Tryz.func100,Tryz.ntmps100
 go_wp2_with (first
  | (go_at_call 115;(try clear c0 c1 c2 c3 c4 c5);(with_reducible refine PE.same E E.out (fun st => jf.no Jq.out st E.out.k) (fun w1 E c0 c1 c2 c3 c4 c5 => ?_));(try ((try clear iC iD iE iF iG iH);obtain ⟨iC,iD,iE,iF,iG,iH⟩:=jq.out.at E.out.st.b)))
  | (go_at_call 54;(try clear c0 c1 c2 c3 c4 c5);(with_reducible refine PE.jI E (fun w1 E c0 c1 c2 c3 c4 c5 => ?_));(try ((try clear iC iD iE iF iG iH);obtain ⟨iC,iD,iE,iF,iG,iH⟩:=jq.out.at E.out.st.b));obtain ⟨m1,A7,c7,hm1,hp1,hh1,ho1⟩:=E.out.row;have cp:=(ak hh1 0).trans (show #[Value.slice A7 m1.length c7][0]? = some (.slice A7 m1.length c7) from rfl);have HM1:=ah.mk hm1;clear hm1 hp1 hh1 ho1)
  | (go_at_call 85;(try clear c0 c1 c2 c3 c4 c5 cp);(with_reducible refine PE.call E E.out (fun st => yA.all vN.out HX0.out st qK.out) (fun w2 E c0 c1 c2 c3 c4 c5 => ?_)))
  | fail)
 obtain ⟨m2,A8,c8,hm2,hp2,hh2,ho2⟩:=E.out.row;have hmm : m2 = m1 ++ qU (iy n) (nd x.f4 0) 12:=List.append_cancel_right (bs:=[]) (hm2.trans (by rw [List.append_assoc];exact HM1.out.symm));rw [HT.out] at hmm;have hlt : m1.length < m2.length:=by rw [hmm,List.length_append,List.length_cons];omega
 obtain ⟨q2,rfl,hce⟩:=LH ho2 rfl hlt;rw [show m2.getD m1.length 0 = ch from by rw [hmm];simp] at hce;have i1 : (0 : Int) ≤ (m1.length : Int):=by omega
 have i2 : (m1.length : Int) < (m2.length : Int):=by omega
 have HLT:=ah.mk hlt;have HMM:=ah.mk hmm;have HP2:=ah.mk hp2;have HM2:=ah.mk hm2;clear hlt hmm hp2 hm2;have cp:=(ak hh2 0).trans (show #[Value.slice (some ⟨q2,0,none⟩) m2.length c8][0]? = some (.slice (some ⟨q2,0,none⟩) m2.length c8) from rfl);have HH:=ah.mk (show w2.drew.heap[p]? = some (.cells #[.slice (some ⟨q2,0,none⟩) m2.length c8] 42 (0,0)) from hh2);have HO:=ah.mk (show w2.drew.ownsRow w0.heap.size 5 1 (.slice (some ⟨q2,0,none⟩) m2.length c8) m2.length (nums .u8 m2) from ho2);clear hh2 ho2;refine jV (n:=11) (S:=fun w' => w'.cell? ⟨p,0,none⟩ = some (.slice (some ⟨q2,0,none⟩) m2.length c8) ∧ w'.cell? ⟨q2,m1.length,none⟩ = some (.int .u8 ch) ∧ w'.cell? ⟨w.heap.size,1,none⟩ = some (.string x.f1) ∧ True) (ds:=[]) (Array.replicate 11 false) (by kernel_rfl) rfl rfl ⟨cp,hce,c1,trivial⟩ (fun hHeld => ?_);refine jw (T:=kG .any (opsOf Tryz.f100 7)) (by kernel_rfl) (fun bM => ?_);replace E:=ah.mk (E.out.step (W1:=w2.drew) (aA (Below.refl _ _)));clear c0 c1 c2 c3 c4 c5 cp hce;generalize w2.drew = w7 at E HH HO hHeld ⊢;refine rp 0 30 bM (h:=?_);refine rp 1 31 bM (h:=?_);refine rp 2 32 bM (h:=?_);refine EF 3 33 bM hHeld (h:=?_);refine rp 4 34 bM (h:=?_);refine rp 5 35 bM (h:=?_);refine EF 6 36 bM hHeld (h:=?_);refine rp 7 37 bM (h:=?_);refine EF 8 38 bM hHeld (h:=?_);refine rp (v:=.int .u8 (s0.toNat : Int)) 9 39 bM (hy:=by intro w';go_simp;rw [dif_pos (pos_of HS0.out),idx0 HS0.out];rfl) (h:=?_);refine rp (v:=.bool (ch == (s0.toNat : Int))) 10 40 bM (hy:=by intro w';go_simp) (h:=?_);refine EX bM ?_;have hcmp:=HCMP.out;have cp:=(ak HH.out 0).trans (show #[Value.slice (some ⟨q2,0,none⟩) m2.length c8][0]? = some (.slice (some ⟨q2,0,none⟩) m2.length c8) from rfl);go_wp2_with (first
  | (go_at_call 116;(refine (Ac.own (b:=w0.heap.size) (i:=m1.length) (vb:=w7.heap.size) (l:=m2) (w0:=w0) (own_below HO.out (au (Below.refl _ _) _)) HLT.out (E.out.alloc _).st.b (E.out.alloc _).st.b.size (by have h:=HST.out.len;have h2:=congrArg List.length HM0.out;have h3:=congrArg List.length HM1.out;have h4:=congrArg List.length HMM.out;simp only [List.length_append,List.length_cons,List.length_nil] at h2 h3 h4;rw [HT.out] at h2 h3;simp only [List.length_cons] at h2 h3;omega) (eP w7 _) (fun e => by obtain ⟨_,cur,hc⟩:=qy HO.out e;have:=jl hc;omega)).mono ?_);rintro e w8 ⟨v1,rfl,hown,hB,hg⟩;obtain ⟨A1,m9,c9,rfl⟩:=Af hown;obtain ⟨hp1,hST,hFF⟩:=ins_fin HST.out HM0.out HM1.out (HMM.out.trans (by rw [HT.out])) HP2.out (E.out.alloc _).st.b.size (E.out.alloc _).fr (aI HH.out _) (own_below HO.out (au (Below.refl _ _) _)) hown hB hg;have cp1:=(ak hp1 0).trans (show #[Value.slice (some ⟨q2,0,none⟩) m2.length c8][0]? = some (.slice (some ⟨q2,0,none⟩) m2.length c8) from rfl);have hfz:=ay hp1 0;have HSS:=ah.mk hST;have HFF:=ah.mk hFF;clear hown hB hg hp1 hST hFF)
  | fail)
 first|go_end0|go_ret|(refine bodyPost_ret (results_none rfl _ _ _) rfl ?_)
 exact ⟨rfl,HSS.out,HFF.out⟩
theorem exP.all {n : Nat} {x : bn} (K : KnP n) (hz : SizeOf.sizeOf x ≤ n) (hx : jh x = true) (hm : Tm x) : lX (n + 1) x:=by
 intro p w0 w F r A c h hn;have he : ∀ y ∈ x.f4,jh y = true → lX n y:=fun y hy h => K.e y (Nat.lt_of_lt_of_le (gu hy) hz) h (hm.kid hy)
 obtain ⟨h1,h15,_,_,_⟩:=iq hx;have : x.f0 = 1 ∨ x.f0 = 2 ∨ x.f0 = 3 ∨ x.f0 = 4 ∨ x.f0 = 5 ∨ x.f0 = 6 ∨ x.f0 = 7 ∨ x.f0 = 8 ∨ x.f0 = 9 ∨ x.f0 = 10 ∨ x.f0 = 11 ∨ x.f0 = 12 ∨ x.f0 = 13 ∨ x.f0 = 14 ∨ x.f0 = 15:=by omega
 rcases this with e|e|e|e|e|e|e|e|e|e|e|e|e|e|e
 · refine qj.leaf (fun w1 st => ?_) h hn;cases h3 : x.f3 with
   | true => exact jf.k1t hm.num h3 e st hn
   | false => exact jf.k1f hm.num h3 e st hn
 · exact qj.leaf (fun w1 st => jf.k2 ⟨hm.num.1,ex_2 hx e⟩ e st hn) h hn
 · exact qj.leaf (fun w1 st => jf.k3 hm.str e st hn) h hn
 · exact qj.leaf (fun w1 st => jf.k4 e st hn) h hn
 · exact qj.leaf (fun w1 st => jf.k5 hx he e st hn) h hn
 · exact qj.leaf (fun w1 st => jf.k6 hx he e st hn) h hn
 · exact qj.leaf (fun w1 st => jf.k7 hx he e st hn) h hn
 · exact qj.leaf (fun w1 st => jf.k8 hx he e st hn) h hn
 · by_cases hb : (nd x.f4 0).f0 = 9 ∧ (nd x.f4 0).f1.toList = x.f1.toList
   · exact qj.k9b hx he hz e hb h hn
   · exact qj.k9a hx he hz e hb h hn
 · exact qj.k10 hx he e h hn
 · exact qj.k11 hx he e h hn
 · exact qj.k12 hx he e h hn
 · exact qj.k13 hx he e h hn
 · exact qj.k14 hx he e h hn
 · by_cases a : (nd x.f4 0).f0 = 16
   · exact qj.k15a hx he a e h hn
   · by_cases b : (nd x.f4 0).f0 = 14
     · exact qj.k15b hx he b e h hn
     · exact qj.k15c hx he a b e h hn
theorem knP : ∀ n : Nat,KnP n
 | 0 => ⟨fun _ h => absurd h (Nat.not_lt_zero _),fun _ h => absurd h (Nat.not_lt_zero _)⟩
 | n + 1 => ⟨fun y h hx hm => exP.all (knP n) (Nat.le_of_lt_succ h) hx hm,fun y h hx hm => lC.all (knP n) (Nat.le_of_lt_succ h) hx hm⟩
noncomputable def yB (x : bn) : List Int:=ED (kZ (SizeOf.sizeOf x)) x.f4
noncomputable def NU (c : Int) (x : bn) : ByteArray:=if c = 0 then (if 1048576 < (yB x).length then ⟨#[]⟩ else strOfNums (yB x)) else ⟨#[]⟩
noncomputable def NV (c : Int) (x : bn) : Int:=if c = 0 then (if 1048576 < (yB x).length then 3 else 0) else c
def PrtP (s : ByteArray) (e : Int) (w : World) (en : Ending) (w' : World) : Prop:=en = .returned (.tuple #[.string s,.int .i64 e]) ∧ Below w.heap.size w w'
theorem Le {r : Int} {x : bn} (h : lg r x = 0) : x.f0 = 40 ∧ ji x = true:=by
 unfold lg at h;by_cases h1 : ((x.f0 != 40) || ((r == 0) || !(ji x))) = true
 · rw [if_pos h1] at h;cases h
 · rw [Bool.not_eq_true] at h1;simp only [Bool.or_eq_false_iff,bne_eq_false_iff_eq,Bool.not_eq_false'] at h1;exact ⟨h1.1,h1.2.2⟩
theorem de_40 {x : bn} (h : ji x = true) (hk : x.f0 = 40) : ∀ y ∈ x.f4,Aa y = true:=by
 obtain ⟨h1,h2⟩:=wQ h (by omega);rw [show jM x = d40 x from by unfold jM;simp [hk]] at h1;unfold d40 at h1;simp only [Bool.and_eq_true,List.all_eq_true,Bool.or_eq_true,decide_eq_true_eq] at h1;intro y hy;unfold Aa;rw [h2 y hy,Bool.and_true];simp only [Bool.or_eq_true,decide_eq_true_eq];rcases h1.2 y hy with (h3|h3)|h3
 · exact .inr (.inl h3)
 · exact .inr (.inr (.inl h3))
 · exact .inr (.inr (.inr h3))
theorem PX.row {t b p : Nat} {l : List Int} {w : World} (h : PX t b p l w) : ∃ A c,w.heap[p]? = some (.cells #[.slice A l.length c] t (0,0)) ∧ (convert 40 9 (.slice A l.length c)).run Tryz.prog w = .ok (.string (strOfNums l)) w:=by
 obtain ⟨v,h1,h2⟩:=h.ex;have h3:=xR (P:=Tryz.prog) (src:=40) (dst:=9) (e:=5) rfl rfl rfl h2;obtain ⟨A,c,rfl⟩:=Eh h2;exact ⟨A,c,h1,h3⟩
theorem vI.no {x : bn} {A : Option Addr} {c : Nat} {w : World} {k : Nat} {r : Int} (hr : dK.f k x.f0 x.f1 x.f2 x.f3 x.f4 x.f5 = some r) (hs : wE x) (hm : Tm x) (hG : dG w) (hT : Tb w) (hl : (yB x).length ≤ 70368744177664) (hn : ND w x A c) (hz : lg r x ≠ 0) : Calls Tryz.prog 11 #[val x A c] w (PrtP (NU (lg r x) x) (NV (lg r x) x) w):=by
 have HR:=ah.mk hr;have HS:=ah.mk hs;have HP:=ah.mk (show NU (lg r x) x = ⟨#[]⟩ ∧ NV (lg r x) x = lg r x from by unfold NU NV;rw [if_neg hz,if_neg hz];exact ⟨rfl,rfl⟩);have b0 : (lg r x != 0) = true:=bne_iff_ne.2 hz;have b1 : (lg r x == 0) = false:=beq_eq_false_iff_ne.2 hz;have E:=Env.start hG hn;clear hr hs hG hn hm hT hl hz;go_enter Tryz.func11,Tryz.ntmps11
 go_wp2_with (first
  | (go_at_call 8;(try clear c0 c1 c2 c3 c4 c5);((refine (Check.all k r HR.out HS.out E.out.kQ E.out.nd).mono ?_);rintro e w1 ⟨rfl,hB⟩;replace E:=ah.mk (E.out.step hB);clear hB;obtain ⟨c0,c1,c2,c3,c4,c5⟩:=E.out.cells;(try have hz:=HZ.out)))
  | fail)
 first|go_ret2|go_ret
 exact ⟨by rw [HP.out.1,HP.out.2];rfl,E.out.b⟩
theorem vI.long {x : bn} {A : Option Addr} {c : Nat} {w : World} {k : Nat} {r : Int} (hr : dK.f k x.f0 x.f1 x.f2 x.f3 x.f4 x.f5 = some r) (hs : wE x) (hm : Tm x) (hG : dG w) (hT : Tb w) (hl : (yB x).length ≤ 70368744177664) (hn : ND w x A c) (hz : lg r x = 0) (hL : 1048576 < (yB x).length) : Calls Tryz.prog 11 #[val x A c] w (PrtP (NU (lg r x) x) (NV (lg r x) x) w):=by
 have HR:=ah.mk hr;have HS:=ah.mk hs;have HTX:=ah.mk hT;have HG0:=ah.mk hG;have HLL:=ah.mk hl;obtain ⟨hk,hy⟩:=Le hz;have HKK:=ah.mk (show ∀ y ∈ x.f4,wR (SizeOf.sizeOf x) y from fun y hy' => (knP _).l y (gu hy') (de_40 hy hk y hy') (hm.kid hy'));have HP:=ah.mk (show NU (lg r x) x = ⟨#[]⟩ ∧ NV (lg r x) x = 3 from by unfold NU NV;rw [if_pos hz,if_pos hz,if_pos hL,if_pos hL];exact ⟨rfl,rfl⟩);have HZ:=ah.mk (show lg r x = 0 from hz);have b0 : (lg r x != 0) = false:=by rw [bne,hz];rfl
 have b1 : (lg r x == 0) = true:=by rw [hz];rfl
 have g1 : decide ((1048576 : Int) < ((yB x).length : Int)) = true:=decide_eq_true (by omega);have g2 : decide (1048576 < (yB x).length) = true:=decide_eq_true hL;have Je:=ah.mk hn;have E:=Env.start hG hn;clear hr hs hG hn hm hT hl hL hk hy hz;go_enter Tryz.func11,Tryz.ntmps11
 go_wp2_with (first
  | (go_at_call 8;(try clear c0 c1 c2 c3 c4 c5);((refine (Check.all k r HR.out HS.out E.out.kQ E.out.nd).mono ?_);rintro e w1 ⟨rfl,hB⟩;replace E:=ah.mk (E.out.step hB);clear hB;obtain ⟨c0,c1,c2,c3,c4,c5⟩:=E.out.cells;(try have hz:=HZ.out)))
  | (refine Ef rfl rfl rfl rfl ?_;rintro g w2 hg hz2 hB;have HST:=ah.mk (show St false g w (yB x) (ED (kZ (SizeOf.sizeOf x)) x.f4 ++ []) w2 from ⟨aN E.out.b hB,⟨[],by rw [List.append_nil];rfl,[],⟨by have:=E.out.b.size;omega,(aN E.out.b hB).size,_,hz2,by exact ⟨rfl,.inl ⟨rfl,rfl⟩⟩⟩,.inl rfl⟩,HLL.out,HG0.out,HTX.out⟩);replace E:=ah.mk (E.out.step hB);clear hg hz2 hB c0 c1 c2 c3 c4 c5;obtain ⟨c0,c1,c2,c3,c4,c5⟩:=E.out.cells)
  | (go_at_call 26;((refine (allP.all HKK.out HST.out Je.out.C).mono ?_);rintro e w3 ⟨rfl,hst,hfr⟩;have HFI:=ah.mk (show St false g w (yB x) [] w3 from hst);clear hst hfr c0 c1 c2 c3 c4 c5;obtain ⟨m3,hm3,l3,hx3,hl3⟩:=HFI.out.ex;rw [List.append_nil] at hm3;obtain rfl : l3 = m3:=hl3.resolve_right (fun h => absurd h.1 (by decide));subst hm3;obtain ⟨A3,d3,hp3,hcv⟩:=hx3.row;have cp3:=(ak hp3 0).trans (show #[Value.slice A3 (yB x).length d3][0]? = some (.slice A3 (yB x).length d3) from rfl);clear hx3 hl3 hp3))
  | fail)
 first|go_ret2|go_ret
 exact ⟨by rw [HP.out.1,HP.out.2];rfl,HFI.out.b⟩
theorem vI.all {x : bn} {A : Option Addr} {c : Nat} {w : World} {k : Nat} {r : Int} (hr : dK.f k x.f0 x.f1 x.f2 x.f3 x.f4 x.f5 = some r) (hs : wE x) (hm : Tm x) (hG : dG w) (hT : Tb w) (hl : (yB x).length ≤ 70368744177664) (hn : ND w x A c) (hz : lg r x = 0) (hL : ¬ 1048576 < (yB x).length) : Calls Tryz.prog 11 #[val x A c] w (PrtP (NU (lg r x) x) (NV (lg r x) x) w):=by
 have HR:=ah.mk hr;have HS:=ah.mk hs;have HTX:=ah.mk hT;have HG0:=ah.mk hG;have HLL:=ah.mk hl;obtain ⟨hk,hy⟩:=Le hz;have HKK:=ah.mk (show ∀ y ∈ x.f4,wR (SizeOf.sizeOf x) y from fun y hy' => (knP _).l y (gu hy') (de_40 hy hk y hy') (hm.kid hy'));have HP:=ah.mk (show NU (lg r x) x = strOfNums (yB x) ∧ NV (lg r x) x = 0 from by unfold NU NV;rw [if_pos hz,if_pos hz,if_neg hL,if_neg hL];exact ⟨rfl,rfl⟩);have HZ:=ah.mk (show lg r x = 0 from hz);have b0 : (lg r x != 0) = false:=by rw [bne,hz];rfl
 have b1 : (lg r x == 0) = true:=by rw [hz];rfl
 have g1 : decide ((1048576 : Int) < ((yB x).length : Int)) = false:=decide_eq_false (by omega);have g2 : decide (1048576 < (yB x).length) = false:=decide_eq_false hL;have Je:=ah.mk hn;have E:=Env.start hG hn;clear hr hs hG hn hm hT hl hL hk hy hz;go_enter Tryz.func11,Tryz.ntmps11
 go_wp2_with (first
  | (go_at_call 8;(try clear c0 c1 c2 c3 c4 c5);((refine (Check.all k r HR.out HS.out E.out.kQ E.out.nd).mono ?_);rintro e w1 ⟨rfl,hB⟩;replace E:=ah.mk (E.out.step hB);clear hB;obtain ⟨c0,c1,c2,c3,c4,c5⟩:=E.out.cells;(try have hz:=HZ.out)))
  | (refine Ef rfl rfl rfl rfl ?_;rintro g w2 hg hz2 hB;have HST:=ah.mk (show St false g w (yB x) (ED (kZ (SizeOf.sizeOf x)) x.f4 ++ []) w2 from ⟨aN E.out.b hB,⟨[],by rw [List.append_nil];rfl,[],⟨by have:=E.out.b.size;omega,(aN E.out.b hB).size,_,hz2,by exact ⟨rfl,.inl ⟨rfl,rfl⟩⟩⟩,.inl rfl⟩,HLL.out,HG0.out,HTX.out⟩);replace E:=ah.mk (E.out.step hB);clear hg hz2 hB c0 c1 c2 c3 c4 c5;obtain ⟨c0,c1,c2,c3,c4,c5⟩:=E.out.cells)
  | (go_at_call 26;((refine (allP.all HKK.out HST.out Je.out.C).mono ?_);rintro e w3 ⟨rfl,hst,hfr⟩;have HFI:=ah.mk (show St false g w (yB x) [] w3 from hst);clear hst hfr c0 c1 c2 c3 c4 c5;obtain ⟨m3,hm3,l3,hx3,hl3⟩:=HFI.out.ex;rw [List.append_nil] at hm3;obtain rfl : l3 = m3:=hl3.resolve_right (fun h => absurd h.1 (by decide));subst hm3;obtain ⟨A3,d3,hp3,hcv⟩:=hx3.row;have cp3:=(ak hp3 0).trans (show #[Value.slice A3 (yB x).length d3][0]? = some (.slice A3 (yB x).length d3) from rfl);clear hx3 hl3 hp3))
  | fail)
 first|go_ret2|go_ret
 exact ⟨by rw [HP.out.1,HP.out.2];rfl,HFI.out.b⟩
theorem vI.any {x : bn} {A : Option Addr} {c : Nat} {w : World} {k : Nat} {r : Int} (hr : dK.f k x.f0 x.f1 x.f2 x.f3 x.f4 x.f5 = some r) (hs : wE x) (hm : Tm x) (hG : dG w) (hT : Tb w) (hl : (yB x).length ≤ 70368744177664) (hn : ND w x A c) : Calls Tryz.prog 11 #[val x A c] w (PrtP (NU (lg r x) x) (NV (lg r x) x) w):=by
 by_cases hz : lg r x = 0
 · by_cases hL : 1048576 < (yB x).length
   · exact vI.long hr hs hm hG hT hl hn hz hL
   · exact vI.all hr hs hm hG hT hl hn hz hL
 · exact vI.no hr hs hm hG hT hl hn hz
theorem s_lv (x : bn) : lv (strip x) = lv x:=by unfold lv;rw [qh,E5]
section
variable {e : bn → List Int} (h : ∀ x,e (strip x) = e x)
include h
theorem Gf (y : bn) (k : Int) : qU e (strip y) k = qU e y k:=by unfold qU;rw [s_lv,h]
theorem s_lsG : ∀ (b : Bool) (l : List bn),F5 e b (l.map strip) = F5 e b l
 | _,[] => rfl
 | b,y :: ys => by simp only [List.map_cons,F5,Gf h,s_lsG false ys]
theorem Qz : ∀ (l : List bn),ED e (l.map strip) = ED e l
 | [] => rfl
 | y :: ys => by simp only [List.map_cons,ED,h,Qz ys]
theorem s_inG (y : bn) : yu e (strip y) = yu e y:=by unfold yu;rw [qh,Gf h]
theorem s_iniG (l : List bn) : wF e (l.map strip) = wF e l:=by unfold wF;simp only [vX,BP,qh,wP,s_lsG h,Gf h]
theorem s_varG (x : bn) : oM e (strip x) = oM e x:=by unfold oM;simp only [E5,BO,wP,BP,← List.map_drop,s_inG h,s_iniG h]
theorem s_vrG : ∀ (b : Bool) (l : List bn),NI e b (l.map strip) = NI e b l
 | _,[] => rfl
 | b,y :: ys => by simp only [List.map_cons,NI,s_varG h,s_vrG false ys]
theorem s_hdG (u : ByteArray) (y : bn) (v : ByteArray) : RD e u (strip y) v = RD e u y v:=by unfold RD;rw [Gf h]
theorem s_blG (l : List bn) : NJ e (l.map strip) = NJ e l:=by unfold NJ;rw [Qz h]
end
theorem s_paG (x : bn) : paG (strip x) = paG x:=by unfold paG;simp only [E5,KH,BO,wP,BP]
theorem s_pasG : ∀ (b : Bool) (l : List bn),yw b (l.map strip) = yw b l
 | _,[] => rfl
 | b,y :: ys => by simp only [List.map_cons,yw,s_paG,s_pasG false ys]
theorem s_exT : ∀ (n : Nat) (x : bn),iy n (strip x) = iy n x
 | 0,_ => rfl
 | n + 1,x => by
  have h:=s_exT n;unfold iy;simp only [qh,ex1,ex2,ex3,ex4,ex5,ex6,ex7,ex8,ex9,Jl,Ru,Rw,Rx,Jm,E5,KH,BO,wP,BP,Gf h,s_lsG h,h]
theorem s_lnT : ∀ (n : Nat) (x : bn),kZ n (strip x) = kZ n x
 | 0,_ => rfl
 | n + 1,x => by
  have h:=s_lnT n;have g:=s_exT n;unfold kZ;simp only [qh,RF,RG,RH,RI,RJ,NK,RN,RP,NM,ln53,ln54,NP,NQ,E5,KH,BO,wP,BP,vX,← List.map_drop,← List.map_take,Gf g,s_inG g,s_vrG g,s_pasG,s_hdG g,s_blG h,h]
section
variable {e e' : bn → List Int} {xs : List bn} (h : ∀ y ∈ xs,e y = e' y) (hz : e z25 = e' z25)
include h
theorem c_mem {y : bn} (hy : y ∈ xs) (k : Int) : qU e y k = qU e' y k:=by unfold qU;rw [h y hy]
include hz
theorem c_nd (i : Nat) : e (nd xs i) = e' (nd xs i):=by
 by_cases hi : i < xs.length
 · exact h _ (fH hi)
 · rw [show nd xs i = z25 from by unfold nd;rw [List.getD_eq_getElem?_getD,List.getElem?_eq_none (by omega)];rfl];exact hz
theorem c_at (i : Nat) (k : Int) : qU e (nd xs i) k = qU e' (nd xs i) k:=by unfold qU;rw [c_nd h hz]
theorem c_in (i : Nat) : yu e (nd xs i) = yu e' (nd xs i):=by unfold yu;rw [c_at h hz]
theorem c_hd (u : ByteArray) (i : Nat) (v : ByteArray) : RD e u (nd xs i) v = RD e' u (nd xs i) v:=by unfold RD;rw [c_at h hz]
end
theorem c_ls {e e' : bn → List Int} : ∀ (b : Bool) (xs : List bn),(∀ y ∈ xs,e y = e' y) → F5 e b xs = F5 e' b xs
 | _,[],_ => rfl
 | b,y :: ys,h => by
  unfold F5;rw [c_mem h List.mem_cons_self,c_ls false ys fun z hz => h z (List.mem_cons_of_mem _ hz)]
theorem c_al {e e' : bn → List Int} : ∀ (xs : List bn),(∀ y ∈ xs,e y = e' y) → ED e xs = ED e' xs
 | [],_ => rfl
 | y :: ys,h => by
  unfold ED;rw [h y List.mem_cons_self,c_al ys fun z hz => h z (List.mem_cons_of_mem _ hz)]
theorem CP : ∀ n : Nat,iy n z25 = []
 | 0 => rfl
 | n + 1 => by unfold iy;simp [z25]
theorem exT_up : ∀ (n : Nat) (x : bn),SizeOf.sizeOf x ≤ n → iy n x = iy (n + 1) x
 | 0,x,h => by cases x;simp at h
 | n + 1,x,h => by
  have k : ∀ y ∈ x.f4,iy n y = iy (n + 1) y:=fun y hy => exT_up n y (by have:=gu hy;omega)
  have z : iy n z25 = iy (n + 1) z25:=by rw [CP,CP]
  rw [iy.eq_2,show iy (n + 1 + 1) x = _ from iy.eq_2 x (n + 1)];simp only [ex5,ex6,ex7,ex8,ex9,Jl,Ru,Rw,Rx,Jm,c_at k z,c_nd k z,c_ls _ _ k]
theorem nd_size {x : bn} (i : Nat) : nd x.f4 i = z25 ∨ SizeOf.sizeOf (nd x.f4 i) < SizeOf.sizeOf x:=by
 by_cases hi : i < x.f4.length
 · exact .inr (gu (fH hi))
 · exact .inl (by unfold nd;rw [List.getD_eq_getElem?_getD,List.getElem?_eq_none (by omega)];rfl)
theorem c_var {e e' : bn → List Int} {x : bn} (hz : e z25 = e' z25) (h : ∀ y : bn,SizeOf.sizeOf y < SizeOf.sizeOf x → e y = e' y) : oM e x = oM e' x:=by
 have k : ∀ y ∈ x.f4,e y = e' y:=fun y hy => h y (gu hy)
 have ini (xs : List bn) (hx : ∀ y ∈ xs,SizeOf.sizeOf y < SizeOf.sizeOf x) : wF e xs = wF e' xs:=by
  have k' : ∀ y ∈ xs,e y = e' y:=fun y hy => h y (hx y hy)
  unfold wF;by_cases h0 : xs.length = 0
  · rw [if_pos h0,if_pos h0]
  · have hm:=fH (xs:=xs) (i:=0) (by omega);rw [c_at k' hz,c_ls _ _ fun y hy => h y (Nat.lt_trans (gu hy) (hx _ hm))]
 unfold oM;rw [c_in k hz,ini x.f4 fun y hy => gu hy,ini (x.f4.drop 1) fun y hy => gu (List.mem_of_mem_drop hy)]
theorem c_vr {e e' : bn → List Int} (hz : e z25 = e' z25) : ∀ (b : Bool) (xs : List bn),(∀ y ∈ xs,oM e y = oM e' y) → NI e b xs = NI e' b xs
 | _,[],_ => rfl
 | b,y :: ys,h => by
  unfold NI;rw [h y List.mem_cons_self,c_vr hz false ys fun z hz => h z (List.mem_cons_of_mem _ hz)]
theorem QA : ∀ n : Nat,kZ (n + 1) z25 = NQ:=fun n => by unfold kZ;simp [z25]
theorem NW : ∀ (n : Nat) (x : bn),SizeOf.sizeOf x ≤ n → kZ n x = kZ (n + 1) x
 | 0,x,h => by cases x;simp at h
 | 1,x,h => by cases x;simp at h;omega
 | n + 2,x,h => by
  have k : ∀ y ∈ x.f4,kZ (n + 1) y = kZ (n + 2) y:=fun y hy => NW (n + 1) y (by have:=gu hy;omega)
  have z : kZ (n + 1) z25 = kZ (n + 2) z25:=by rw [QA,QA]
  have kk (i : Nat) : ∀ y ∈ (nd x.f4 i).f4,kZ (n + 1) y = kZ (n + 2) y:=fun y hy => by
   rcases nd_size (x:=x) i with e|e
   · rw [e] at hy;cases hy
   · exact NW (n + 1) y (by have:=gu hy;omega)
  have g : ∀ y : bn,SizeOf.sizeOf y < SizeOf.sizeOf x → iy (n + 1) y = iy (n + 2) y:=fun y hy => exT_up _ _ (by omega)
  have gk : ∀ y ∈ x.f4,iy (n + 1) y = iy (n + 2) y:=fun y hy => g y (gu hy)
  have gz : iy (n + 1) z25 = iy (n + 2) z25:=by rw [CP,CP]
  have gv : ∀ y ∈ x.f4.drop 1,oM (iy (n + 1)) y = oM (iy (n + 2)) y:=fun y hy => c_var gz fun t ht => g t (Nat.lt_trans ht (gu (List.mem_of_mem_drop hy)))
  rw [kZ.eq_2,show kZ (n + 2 + 1) x = _ from kZ.eq_2 x (n + 2)];simp only [RF,RG,RH,RI,RJ,NK,RN,RP,NM,NP,NJ,c_al _ k,c_al _ (kk _),c_nd k z,c_at gk gz,c_in gk gz,c_hd gk gz,c_vr gz _ _ gv]
theorem lnT_le {n m : Nat} (hm : n ≤ m) : ∀ {x : bn},SizeOf.sizeOf x ≤ n → kZ n x = kZ m x:=by
 induction hm with
 | refl => intro x _;rfl
 | step hs ih => intro x h;rw [ih h];exact NW _ _ (Nat.le_trans h hs)
theorem txT_at {x : bn} {n : Nat} (h : SizeOf.sizeOf x ≤ n) : yB x = ED (kZ n) x.f4:=by
 unfold yB;exact c_al _ fun y hy => lnT_le h (Nat.le_of_lt (gu hy))
theorem s_tx {x y : bn} (h : strip x = strip y) : yB x = yB y:=by
 rw [txT_at (Nat.le_max_left (SizeOf.sizeOf x) (SizeOf.sizeOf y)),txT_at (Nat.le_max_right (SizeOf.sizeOf x) (SizeOf.sizeOf y)),← Qz (s_lnT _) x.f4,← Qz (s_lnT _) y.f4,← wP,← wP,h]
theorem CQ : ∀ {l : List Nat} {n : Nat},n ∈ l → n ≤ l.sum
 | a :: l,n,h => by
  rcases List.mem_cons.1 h with rfl|h
  · simp
  · have:=CQ h;simp only [List.sum_cons];omega
theorem NY {x : bn} {b : Nat} (h : WT x b) : b ≤ 1048576 → wE x:=by
 induction h with
 | mk x ws hl hk hr ih =>
  intro hb;refine wE.mk x (by unfold oV;omega) (fun y hy => ?_);obtain ⟨i,hi,rfl⟩:=List.mem_iff_getElem.1 hy;have hw : i < ws.length:=by omega
  have hm:=CQ (List.getElem_mem hw);exact ih i _ _ (List.getElem?_eq_getElem hi) (List.getElem?_eq_getElem hw) (by omega)
section
variable {x y : bn} (h : strip x = strip y)
include h
theorem e_f0 : x.f0 = y.f0:=by rw [← qh x,h,qh]
theorem e_f1 : x.f1 = y.f1:=by rw [← E5 x,h,E5]
theorem e_f2 : x.f2 = y.f2:=by rw [← KH x,h,KH]
theorem e_f3 : x.f3 = y.f3:=by rw [← BO x,h,BO]
theorem Jr : x.f4.map strip = y.f4.map strip:=by rw [← wP x,h,wP]
end
theorem Ew {l l' : List bn} (h : l.map strip = l'.map strip) : l.length = l'.length:=by rw [← vX l,h,vX]
theorem e_rd {l l' : List bn} (h : l.map strip = l'.map strip) (i : Int) : strip (aG l i) = strip (aG l' i):=by rw [← s_rd,h,s_rd]
theorem QB : ∀ k : Nat,(∀ (x y : bn) a,strip x = strip y → dO.f k x.f0 x.f1 x.f2 x.f3 x.f4 x.f5 a = dO.f k y.f0 y.f1 y.f2 y.f3 y.f4 y.f5 a) ∧ (∀ a (l l' : List bn) n i,l.map strip = l'.map strip → dO.l0 k a l n i = dO.l0 k a l' n i)
 | 0 => ⟨fun _ _ _ _ => by simp [dO.f],fun _ _ _ _ _ _ => by simp [dO.l0]⟩
 | k + 1 => by
  obtain ⟨h1,h2⟩:=QB k;refine ⟨fun x y a h => ?_,fun a l l' n i h => ?_⟩
  · unfold dO.f;rw [Ew (Jr h)];exact h2 _ _ _ _ _ (Jr h)
  · unfold dO.l0;rw [Ew h,h1 _ _ _ (e_rd h i)];simp only [fun a n i => h2 a l l' n i h]
theorem e_deep : ∀ k : Nat,(∀ (x y : bn),strip x = strip y → eu.f k x.f0 x.f1 x.f2 x.f3 x.f4 x.f5 = eu.f k y.f0 y.f1 y.f2 y.f3 y.f4 y.f5) ∧ (∀ a (l l' : List bn) n i,l.map strip = l'.map strip → eu.l0 k a l n i = eu.l0 k a l' n i)
 | 0 => ⟨fun _ _ _ => by simp [eu.f],fun _ _ _ _ _ _ => by simp [eu.l0]⟩
 | k + 1 => by
  obtain ⟨h1,h2⟩:=e_deep k;refine ⟨fun x y h => ?_,fun a l l' n i h => ?_⟩
  · unfold eu.f;rw [Ew (Jr h)];exact h2 _ _ _ _ _ (Jr h)
  · unfold eu.l0;rw [Ew h,h1 _ _ (e_rd h i)];simp only [fun a n i => h2 a l l' n i h]
theorem Js {k : Nat} {x y : bn} (h : strip x = strip y) : dK.f k x.f0 x.f1 x.f2 x.f3 x.f4 x.f5 = dK.f k y.f0 y.f1 y.f2 y.f3 y.f4 y.f5:=by unfold dK.f;rw [(QB k).1 _ _ _ h]
theorem e_Depth {k : Nat} {x y : bn} (h : strip x = strip y) : dX.f k x.f0 x.f1 x.f2 x.f3 x.f4 x.f5 = dX.f k y.f0 y.f1 y.f2 y.f3 y.f4 y.f5:=by unfold dX.f;rw [Js h,(e_deep k).1 _ _ h]
theorem e_chk {r : Int} {x y : bn} (h : strip x = strip y) : lg r x = lg r y:=by rw [← s_chk r x,h,s_chk]
abbrev sF (k : Nat) (x y : bn):=dw.f k x.f0 x.f1 x.f2 x.f3 x.f4 x.f5 y.f0 y.f1 y.f2 y.f3 y.f4 y.f5
theorem sF_up {k k' : Nat} {x y : bn} {b : Bool} (h : k ≤ k') (e : sF k x y = some b) : sF k' x y = some b:=Jw (f:=fun k => sF k x y) (fun k => dw.mono _ _ _ _ _ _ _ _ _ _ _ _ k) h e
theorem e_Same {x : bn} (hf : Fit x) : ∀ y,strip x = strip y → ∃ k,sF k x y = some true:=by
 induction hf with
 | mk x hl _ ih =>
  intro y h;have hn:=Ew (Jr h);have loop : ∀ (d i : Nat),i + d = x.f4.length → ∃ k,dw.l0 k x.f4.length i x.f0 x.f1 x.f2 x.f3 x.f4 x.f5 y.f0 y.f1 y.f2 y.f3 y.f4 y.f5 = some true:=by
   intro d;induction d with
   | zero =>
    intro i hd;exact ⟨1,by unfold dw.l0;rw [if_neg (by omega)]⟩
   | succ d ihd =>
    intro i hd;have hi : i < x.f4.length:=by omega
    obtain ⟨k',e2⟩:=ihd (i + 1) (by omega);obtain ⟨k,e1⟩:=ih _ (Ny hi) (aG y.f4 (i : Int)) (e_rd (Jr h) i);have u1:=sF_up (Nat.le_max_left k k') e1;simp only [sF] at u1;refine ⟨max k k' + 1,?_⟩;unfold dw.l0;rw [if_pos (by omega),if_pos (by omega),if_pos (by omega),if_pos (by omega),u1,Option.bind_some,if_pos rfl,w64 hi hl];exact Jw (fun k => (dw.gB k).2.2 _ _ _ _ _ _ _ _ _ _ _ _ _ _) (Nat.le_max_right k k') e2
  obtain ⟨k,e⟩:=loop x.f4.length 0 (by omega);refine ⟨k + 2,?_⟩;unfold sF dw.f;rw [if_pos (e_f0 h),if_pos (by rw [e_f1 h]),if_pos (e_f2 h),if_neg (by simp [e_f3 h])];unfold dw.j0;rw [if_neg (by simp [hn])];exact e
theorem RS {x : bn} (hf : Fit x) : ∃ k r,eu.f k x.f0 x.f1 x.f2 x.f3 x.f4 x.f5 = some r:=by
 induction hf with
 | mk x hl _ ih =>
  have loop : ∀ (d i : Nat),i + d = x.f4.length → ∀ c : Int,∃ k r,eu.l0 k c x.f4 x.f4.length i = some r:=by
   intro d;induction d with
   | zero =>
    intro i hd c;exact ⟨1,_,by unfold eu.l0;rw [if_neg (by omega)]⟩
   | succ d ihd =>
    intro i hd c;have hi : i < x.f4.length:=by omega
    obtain ⟨k,r,e1⟩:=ih _ (Ny hi);obtain ⟨k',r',e2⟩:=ihd (i + 1) (by omega) (mx c r);refine ⟨max k k' + 1,r',?_⟩;unfold eu.l0;rw [if_pos (by omega),if_pos (by omega),if_pos (by omega),Jw (fun k => eu.mono _ _ _ _ _ _ k) (Nat.le_max_left k k') e1,Option.bind_some,w64 hi hl];exact Jw (fun k => (eu.gB k).2 _ _ _ _) (Nat.le_max_right k k') e2
  obtain ⟨k,r,e⟩:=loop x.f4.length 0 (by omega) 0;exact ⟨k + 1,r,by unfold eu.f;exact e⟩
theorem NZ {x : bn} (hf : Fit x) : ∃ k r,dX.f k x.f0 x.f1 x.f2 x.f3 x.f4 x.f5 = some r:=by
 obtain ⟨k1,r1,_,_,e1,_⟩:=FQ hf 0 (by decide) (by decide);obtain ⟨k2,r2,e2⟩:=RS hf;refine ⟨max k1 k2,?_⟩;unfold dX.f dK.f;rw [Jw (fun k => dO.mono _ _ _ _ _ _ _ k) (Nat.le_max_left k1 k2) e1,Jw (fun k => eu.mono _ _ _ _ _ _ k) (Nat.le_max_right k1 k2) e2];simp only [Option.bind_some];by_cases h : r1 ≤ 262144
 · rw [if_pos h,Option.bind_some];by_cases h0 : r1 = 0
   · exact ⟨0,by rw [if_pos h0]⟩
   · exact ⟨r2,by rw [if_neg h0]⟩
 · exact ⟨0,by rw [if_neg h,Option.bind_some,if_pos rfl]⟩
theorem WT_moved {x : bn} {b : Nat} (h : WT x b) : ∀ m,strip x = strip m → WT m b:=by
 induction h with
 | mk x ws hl hk hr ih =>
  intro m hm;rw [e_f1 hm];refine WT.mk m ws (by rw [hl,Ew (Jr hm)]) (fun i y n hy hn => ?_) (by rw [← e_f2 hm];exact hr);have hi:=(List.getElem?_eq_some_iff.1 hy).1;have hi' : i < x.f4.length:=by rw [Ew (Jr hm)];exact hi
  have he:=e_rd (Jr hm) i;rw [FU,FU] at he;have hx : x.f4[i]? = some (nd x.f4 i):=by rw [List.getElem?_eq_getElem hi'];simp [nd,hi']
  have hy' : nd m.f4 i = y:=by unfold nd;rw [List.getD_eq_getElem?_getD,hy];rfl
  exact ih i _ _ hx hn y (by rw [he,hy'])
theorem WT_pos {x : bn} {b : Nat} (h : WT x b) : 1 ≤ b:=by
 cases h;omega
theorem WT_len {x : bn} {b : Nat} (h : WT x b) : x.f4.length ≤ b:=by
 cases h with
 | mk _ ws hl hk hr =>
  have : ∀ l : List Nat,(∀ n ∈ l,1 ≤ n) → l.length ≤ l.sum:=by
   intro l;induction l with
   | nil => intro _;simp
   | cons a l ih => intro h;have:=ih fun n hn => h n (List.mem_cons_of_mem _ hn);have:=h a List.mem_cons_self;simp only [List.length_cons,List.sum_cons];omega
  have h2:=this ws (fun n hn => by
   obtain ⟨i,hi,rfl⟩:=List.mem_iff_getElem.1 hn;exact WT_pos (hk i _ _ (List.getElem?_eq_getElem (show i < x.f4.length by omega)) (List.getElem?_eq_getElem hi)))
  omega
theorem N7 {x : bn} {b : Nat} (h : WT x b) (hb : b ≤ 1048576) : ∀ QC : Int,∃ (k : Nat) (m : bn),bG.f k x.f0 x.f1 x.f2 x.f3 x.f4 x.f5 QC = some (m.f0,m.f1,m.f2,m.f3,m.f4,m.f5) ∧ strip x = strip m:=by
 induction h with
 | mk x ws hl hk hr ih =>
  intro QC;have hlen:=WT_len (WT.mk x ws hl hk hr);have hsm : ∀ i (hi : i < x.f4.length),∀ p : Int,∃ (k : Nat) (m : bn),bG.f k (aG x.f4 (i : Int)).f0 (aG x.f4 (i : Int)).f1 (aG x.f4 (i : Int)).f2 (aG x.f4 (i : Int)).f3 (aG x.f4 (i : Int)).f4 (aG x.f4 (i : Int)).f5 p = some (m.f0,m.f1,m.f2,m.f3,m.f4,m.f5) ∧ strip (aG x.f4 (i : Int)) = strip m:=by
   intro i hi p;have hw : i < ws.length:=by omega
   have hm:=CQ (List.getElem_mem hw);exact ih i _ _ (by rw [FU,List.getElem?_eq_getElem hi];simp [nd,hi]) (List.getElem?_eq_getElem hw) (by omega) p
  have loop : ∀ (d i : Nat),i + d = x.f4.length → ∀ (acc : List bn) (p : Int),acc.map strip = (x.f4.take i).map strip → ∃ (k : Nat) (l : List bn),bG.l0 k QC acc i x.f0 x.f1 x.f2 x.f3 x.f4 p = some (x.f0,x.f1,x.f2,x.f3,l,p) ∧ l.map strip = x.f4.map strip:=by
   intro d;induction d with
   | zero =>
    intro i hd acc p ha;refine ⟨1,acc,?_,?_⟩
    · unfold bG.l0;rw [if_neg (by omega)]
    · rw [ha,List.take_of_length_le (by omega)]
   | succ d ihd =>
    intro i hd acc p ha;have hi : i < x.f4.length:=by omega
    obtain ⟨k,⟨m0,m1,m2,m3,m4,m5⟩,e1,e2⟩:=hsm i hi (wrap64 (QC + i));obtain ⟨k',l,e3,e4⟩:=ihd (i + 1) (by omega) (acc ++ [⟨m0,m1,m2,m3,m4,m5⟩]) p (by
     rw [List.map_append,ha,List.take_succ_eq_append_getElem hi,List.map_append];simp only [List.map_cons,List.map_nil];rw [← e2,FU];simp [nd,hi])
    have hla : acc.length = i:=by have:=congrArg List.length ha;simp only [List.length_map,List.length_take] at this;omega
    refine ⟨max k k' + 1,l,?_,e4⟩;unfold bG.l0;rw [if_pos (by omega),if_pos (by omega),Jw (fun k => bG.mono _ _ _ _ _ _ _ k) (Nat.le_max_left k k') e1,Option.bind_some,if_pos (by omega),w64 hi (by omega)];exact Jw (fun k => (bG.gB k).2 _ _ _ _ _ _ _ _ _) (Nat.le_max_right k k') e3
  obtain ⟨k,l,e1,e2⟩:=loop x.f4.length 0 (by omega) [] (wrap64 (x.f5 + QC)) rfl;refine ⟨k + 1,⟨x.f0,x.f1,x.f2,x.f3,l,wrap64 (x.f5 + QC)⟩,?_,?_⟩
  · unfold bG.f;exact e1
  · have : strip x = ⟨x.f0,x.f1,x.f2,x.f3,x.f4.map strip,0⟩:=by cases x;simp [strip,vJ]
    rw [this];simp [strip,vJ,e2]
open Go.Proofs.YtboojhadfhpdeaaGreatDoor.Lex
inductive WL : List bn → List Nat → Prop
 | nil : WL [] []
 | cons {y : bn} {w : Nat} {l : List bn} {ws : List Nat} (h : WT y w) (t : WL l ws) : WL (y :: l) (w :: ws)
theorem WL.of : ∀ {l : List bn} {ws : List Nat},ws.length = l.length → (∀ (i : Nat) (y : bn) (n : Nat),l[i]? = some y → ws[i]? = some n → WT y n) → WL l ws
 | [],[],_,_ => .nil
 | y :: l,w :: ws,h,hk => .cons (hk 0 y w rfl rfl) (WL.of (by simpa using h) fun i y n h1 h2 => hk (i + 1) y n (by simpa using h1) (by simpa using h2))
 | [],_ :: _,h,_ => by simp at h
 | _ :: _,[],h,_ => by simp at h
theorem WT.parts {x : bn} {b : Nat} (h : WT x b) : ∃ ws,WL x.f4 ws ∧ b = x.f1.size + 1 + ws.sum ∧ 0 ≤ x.f2 ∧ x.f2 < 4294967296:=by
 cases h with
 | mk _ ws hl hk hr => exact ⟨ws,WL.of hl hk,rfl,hr.1,hr.2⟩
theorem WL.nd : ∀ {l : List bn} {ws : List Nat},WL l ws → ∀ i,WT (nd l i) (ws.getD i 0) ∨ (nd l i = z25 ∧ ws.getD i 0 = 0)
 | _,_,.nil,i => .inr ⟨by unfold Q.nd;simp,by simp⟩
 | _,_,.cons h t,0 => .inl h
 | _,_,.cons h t,i + 1 => WL.nd t i
theorem WL.drop : ∀ {l : List bn} {ws : List Nat},WL l ws → WL (l.drop 1) (ws.drop 1)
 | _,_,.nil => .nil
 | _,_,.cons _ t => t
theorem WL.take : ∀ {l : List bn} {ws : List Nat},WL l ws → ∀ k,WL (l.take k) (ws.take k)
 | _,_,.nil,k => by simp;exact .nil
 | _,_,.cons h t,0 => .nil
 | _,_,.cons h t,k + 1 => .cons h (WL.take t k)
theorem Lh (ws : List Nat) : ws.getD 0 0 + (ws.drop 1).sum = ws.sum:=by
 cases ws with
 | nil => rfl
 | cons a l => simp
theorem Lj : ∀ (ws : List Nat) (k : Nat),(ws.take k).sum + ws.getD k 0 ≤ ws.sum
 | [],k => by simp
 | a :: l,0 => by simp
 | a :: l,k + 1 => by
  have:=Lj l k;simp only [List.take_succ_cons,List.sum_cons,List.getD_cons_succ];omega
theorem Ad : ∀ (ws : List Nat),ws.getD 0 0 + ws.getD 1 0 + ws.getD 2 0 + ws.getD 3 0 ≤ ws.sum
 | [] => by simp
 | [a] => by simp
 | [a,b] => by simp
 | [a,b,c] => by simp [Nat.add_assoc]
 | a :: b :: c :: d :: l => by simp only [List.getD_cons_zero,List.getD_cons_succ,List.sum_cons];omega
theorem QD : ∀ (d u : Nat),u < 10 ^ (d + 1) → (Lib.decDigits u).length ≤ d + 1
 | d,u,h => by
  rw [Lib.decDigits]
  split
  · simp
  · match d,h with
    | 0,h => omega
    | d + 1,h =>
     have:=QD d (u / 10) (by rw [Nat.pow_succ] at h;omega);simp only [List.length_append,List.length_cons,List.length_nil];omega
theorem quo_len (s : ByteArray) : (bytesOf (quoS s)).length ≤ 4 * s.size + 2:=by
 have h : ∀ l : Bs,(l.flatMap qb).length ≤ 4 * l.length:=by
  intro l;induction l with
  | nil => simp
  | cons c t ih =>
   have:=qb_len c;simp only [List.flatMap_cons,List.length_append,List.length_cons];omega
 have h2:=h s.data.toList;have h3 : s.data.toList.length = s.size:=by rw [Array.length_toList];rfl
 rw [h3] at h2;unfold bytesOf quoS quote;simp only [List.length_map,List.length_append,List.length_cons,List.length_nil];omega
theorem Gg (n : Nat) : iy n z25 = []:=by
 cases n with
 | zero => rfl
 | succ n => unfold iy z25;simp
theorem lnT_z (n : Nat) : (kZ n z25).length ≤ 2:=by
 cases n with
 | zero => simp [kZ]
 | succ n => unfold kZ z25 NQ;simp [bytesOf]
theorem Jt {y : bn} {w : Nat} (h : WT y w) : y.f1.size + 1 ≤ w:=by
 obtain ⟨ws,_,e,_⟩:=h.parts;omega
theorem at_len {e : bn → List Int} (y : bn) (k : Int) : (qU e y k).length ≤ (e y).length + 2:=by
 unfold qU
 split
 · simp only [List.length_append,bytesOf,List.length_map,Array.length_toList,List.size_toArray,List.length_cons,List.length_nil];simp;omega
 · omega
theorem N8 {e : bn → List Int} (he : ∀ y w,WT y w → (e y).length + 8 ≤ 64 * w) : ∀ {l : List bn} {ws : List Nat} (b : Bool),WL l ws → (F5 e b l).length ≤ 64 * ws.sum
 | _,_,_,.nil => by simp [F5]
 | _,_,b,.cons (y:=y) (w:=w) h t => by
  have h1:=he y w h;have h2:=at_len (e:=e) y 0;have h3:=N8 he false t;unfold F5;simp only [List.length_append,List.sum_cons];have h4 : (if b = true then [] else bytesOf ⟨#[44,32]⟩).length ≤ 2:=by split <;> simp [bytesOf]
  omega
theorem wS {e : bn → List Int} (he : ∀ y w,WT y w → (e y).length + 8 ≤ 64 * w) (hz : (e z25).length = 0) {l : List bn} {ws : List Nat} (h : WL l ws) (i : Nat) : (e (nd l i)).length ≤ 64 * ws.getD i 0:=by
 rcases h.nd i with h1 | ⟨h1,h2⟩
 · have:=he _ _ h1;omega
 · rw [h1,h2,hz];omega
theorem N9 {l : List bn} {ws : List Nat} (h : WL l ws) (i : Nat) : (nd l i).f1.size ≤ ws.getD i 0:=by
 rcases h.nd i with h1 | ⟨h1,h2⟩
 · have:=Jt h1;omega
 · rw [h1,h2];exact Nat.le_of_eq rfl
theorem QE (a : Nat) : (hexS.extract a (a + 1)).size ≤ 1:=by
 rw [ByteArray.size_extract];omega
theorem Ae (a : Array UInt8) : (⟨a⟩ : ByteArray).size = a.size:=rfl
theorem bl (a : Array UInt8) : (bytesOf ⟨a⟩).length = a.size:=by simp [bytesOf]
theorem yx : ∀ (n : Nat) (x : bn) (b : Nat),WT x b → (iy n x).length + 8 ≤ 64 * b
 | 0,x,b,h => by
  have:=Jt h;unfold iy;simp only [List.length_nil];omega
 | n + 1,x,b,h => by
  obtain ⟨ws,hw,rfl,hr1,hr2⟩:=h.parts;have he:=yx n;have hz : (iy n z25).length = 0:=by rw [Gg];rfl
  have s4:=Ad ws;have n0:=wS he hz hw 0;have n1:=wS he hz hw 1;have n2:=wS he hz hw 2;have t0:=N9 hw 0;have a0:=fun k => at_len (e:=iy n) (nd x.f4 0) k
  have a1:=fun k => at_len (e:=iy n) (nd x.f4 1) k
  have a2:=fun k => at_len (e:=iy n) (nd x.f4 2) k
  have l0:=N8 he true hw;have q:=quo_len x.f1;have d:=QD 9 x.f2.toNat (by omega);by_cases c1 : x.f0 = 1
  · rw [Qp c1];have e1 : (if x.f3 = true then bytesOf ⟨#[117]⟩ else []).length ≤ 1:=by split <;> simp [bytesOf]
    unfold ex1;rw [List.length_append];have e2 : (bytesOf (decS x.f2)).length = (Lib.decDigits x.f2.toNat).length:=by unfold decS bytesOf;simp
    omega
  by_cases c2 : x.f0 = 2
  · rw [exT_2 c2];unfold ex2;simp only [List.length_append,bl,bytesOf_length,Ae];have q1:=QE (x.f2 / 16).toNat;have q2:=QE (x.f2 % 16).toNat;have q3 : (#[39,92,120] : Array UInt8).size = 3:=rfl;have q4 : (#[39] : Array UInt8).size = 1:=rfl;omega
  by_cases c3 : x.f0 = 3
  · rw [exT_3 c3];unfold ex3;omega
  by_cases c4 : x.f0 = 4
  · rw [exT_4 c4];unfold ex4;rw [bytesOf_length];omega
  by_cases c5 : x.f0 = 5
  · rw [exT_5 c5];have:=a0 13;have:=a1 0;unfold ex5;simp only [List.length_append,bl,List.size_toArray,List.length_cons,List.length_nil];omega
  by_cases c6 : x.f0 = 6
  · rw [exT_6 c6];have:=a0 13;unfold ex6;simp only [List.length_append,bl,bytesOf_length,Ae,List.size_toArray,List.length_cons,List.length_nil];omega
  by_cases c7 : x.f0 = 7
  · rw [exT_7 c7];have:=a0 13;unfold ex7;simp only [List.length_append,bl,bytesOf_length,Ae,List.size_toArray,List.length_cons,List.length_nil];omega
  by_cases c8 : x.f0 = 8
  · rw [exT_8 c8];unfold ex8;simp only [List.length_append,bl,bytesOf_length,Ae,List.size_toArray,List.length_cons,List.length_nil];omega
  by_cases c9 : x.f0 = 9
  · rw [Qq c9];have e1 : (if (nd x.f4 0).f0 = 9 ∧ (nd x.f4 0).f1.toList = x.f1.toList then bytesOf ⟨#[32]⟩ else []).length ≤ 1:=by split <;> simp [bytesOf]
    have:=a0 12;unfold ex9;rw [List.length_append,List.length_append,bytesOf_length];omega
  by_cases c10 : x.f0 = 10 ∨ x.f0 = 11
  · rw [show iy (n + 1) x = Jl (iy n) x from by rcases c10 with c|c;exact exT_10 c;exact exT_11 c];have:=a0 (NG x.f1);have:=a1 (NG x.f1 + 1);unfold Jl;simp only [List.length_append,bl,bytesOf_length,Ae,List.size_toArray,List.length_cons,List.length_nil];omega
  by_cases c12 : x.f0 = 12
  · rw [exT_12 c12];have:=a0 2;have:=a1 0;have:=a2 1;unfold Ru;simp only [List.length_append,bl,List.size_toArray,List.length_cons,List.length_nil];omega
  by_cases c13 : x.f0 = 13
  · rw [exT_13 c13];have:=a0 13;have:=a1 0;unfold Rw;simp only [List.length_append,bl,bytesOf_length,Ae,List.size_toArray,List.length_cons,List.length_nil];omega
  by_cases c14 : x.f0 = 14
  · rw [NH c14];have:=a1 12;unfold Rx;simp only [List.length_append,bl,bytesOf_length,Ae,List.size_toArray,List.length_cons,List.length_nil];omega
  by_cases c15 : x.f0 = 15
  · rw [Ep c15];have:=a0 12;unfold Jm;by_cases c16 : (nd x.f4 0).f0 = 16
    · rw [if_pos c16];simp only [List.length_append,bl,bytesOf_length,Ae,List.size_toArray,List.length_cons,List.length_nil];omega
    rw [if_neg c16];by_cases c17 : (nd x.f4 0).f0 = 14
    · rw [if_pos c17];simp only [List.length_append,bl,List.size_toArray,List.length_cons,List.length_nil];omega
    · rw [if_neg c17];simp only [List.length_append,bl,List.size_toArray,List.length_cons,List.length_nil];omega
  · unfold iy;rw [if_neg c1,if_neg c2,if_neg c3,if_neg c4,if_neg c5,if_neg c6,if_neg c7,if_neg c8,if_neg c9,if_neg c10,if_neg c12,if_neg c13,if_neg c14,if_neg c15];simp only [List.length_nil];omega
theorem Ju {e : bn → List Int} (y : bn) : (yu e y).length ≤ (e y).length + 2:=by
 unfold yu
 split
 · simp
 · exact at_len y 0
theorem li_len {n : Nat} {y : bn} {w : Nat} (h : WT y w) : (F5 (iy n) true y.f4).length ≤ 64 * w:=by
 obtain ⟨ws,hw,rfl,_⟩:=h.parts;have:=N8 (yx n) true hw;omega
theorem nd_li {n : Nat} {l : List bn} {ws : List Nat} (h : WL l ws) (i : Nat) : (F5 (iy n) true (nd l i).f4).length ≤ 64 * ws.getD i 0:=by
 rcases h.nd i with h1 | ⟨h1,h2⟩
 · exact li_len h1
 · rw [h1,h2];exact Nat.le_of_eq rfl
theorem QF {n : Nat} {l : List bn} {ws : List Nat} (h : WL l ws) : (wF (iy n) l).length ≤ 64 * ws.getD 0 0 + 5:=by
 have h1:=nd_li (n:=n) h 0;have h2:=wS (yx n) (by rw [Gg];rfl) h 0;have h3:=at_len (e:=iy n) (nd l 0) 0;unfold wF;by_cases c : l.length = 0
 · rw [if_pos c];simp
 rw [if_neg c];by_cases d : (nd l 0).f0 = 44
 · rw [if_pos d];simp only [List.length_append,bl,Ae,List.size_toArray,List.length_cons,List.length_nil];omega
 · rw [if_neg d];simp only [List.length_append,bl,Ae,List.size_toArray,List.length_cons,List.length_nil];omega
theorem getD_drop (ws : List Nat) : (ws.drop 1).getD 0 0 = ws.getD 1 0:=by
 rw [List.getD_eq_getElem?_getD,List.getD_eq_getElem?_getD,List.getElem?_drop]
theorem var_len {n : Nat} {y : bn} {w : Nat} (h : WT y w) : (oM (iy n) y).length + 10 ≤ 64 * w:=by
 obtain ⟨ws,hw,rfl,_⟩:=h.parts;have s4:=Ad ws;have n0:=wS (yx n) (by rw [Gg];rfl) hw 0;have h1:=Ju (e:=iy n) (nd y.f4 0);have h2:=QF (n:=n) hw;have h3:=QF (n:=n) hw.drop;rw [getD_drop] at h3;unfold oM;by_cases c : y.f3 = true
 · rw [if_pos c];simp only [List.length_append,bl,bytesOf_length,Ae,List.size_toArray,List.length_cons,List.length_nil];omega
 · rw [if_neg c];simp only [List.length_append,bytesOf_length];omega
theorem vr_len {n : Nat} : ∀ {l : List bn} {ws : List Nat} (b : Bool),WL l ws → (NI (iy n) b l).length ≤ 64 * ws.sum
 | _,_,_,.nil => by simp [NI]
 | _,_,b,.cons (y:=y) (w:=w) h t => by
  have h1:=var_len (n:=n) h;have h3:=vr_len (n:=n) false t;have h4 : (if b = true then [] else bytesOf ⟨#[44,32]⟩).length ≤ 2:=by split <;> simp [bytesOf]
  unfold NI;simp only [List.length_append,List.sum_cons];omega
theorem pa_len {y : bn} {w : Nat} (h : WT y w) : (paG y).length + 10 ≤ 64 * w:=by
 obtain ⟨ws,hw,rfl,_⟩:=h.parts;have s4:=Ad ws;have t0:=N9 hw 0;have h4 : (if y.f3 = true then bytesOf ⟨#[91,93]⟩ else []).length ≤ 2:=by split <;> simp [bytesOf]
 have h5 : (Qv y.f2).size ≤ 1:=by unfold Qv;split;exact Nat.le_of_eq rfl;exact Nat.zero_le _
 unfold paG;simp only [List.length_append,bytesOf_length,Ae,List.size_toArray,List.length_cons,List.length_nil];omega
theorem QG : ∀ {l : List bn} {ws : List Nat} (b : Bool),WL l ws → (yw b l).length ≤ 64 * ws.sum
 | _,_,_,.nil => by simp [yw]
 | _,_,b,.cons (y:=y) (w:=w) h t => by
  have h1:=pa_len h;have h3:=QG false t;have h4 : (if b = true then [] else bytesOf ⟨#[44,32]⟩).length ≤ 2:=by split <;> simp [bytesOf]
  unfold yw;simp only [List.length_append,List.sum_cons];omega
theorem Ey {e : bn → List Int} (he : ∀ y w,WT y w → (e y).length + 8 ≤ 64 * w) : ∀ {l : List bn} {ws : List Nat},WL l ws → (ED e l).length ≤ 64 * ws.sum
 | _,_,.nil => by simp [ED]
 | _,_,.cons (y:=y) (w:=w) h t => by
  have h1:=he y w h;have h3:=Ey he t;unfold ED;simp only [List.length_append,List.sum_cons];omega
theorem Oa {e : bn → List Int} {a b : ByteArray} (y : bn) : (RD e a y b).length ≤ (e y).length + a.size + b.size + 5:=by
 have:=at_len (e:=e) y 0;unfold RD;simp only [List.length_append,bytesOf_length,Ae,List.size_toArray,List.length_cons,List.length_nil];omega
theorem ln_len : ∀ (n : Nat) (x : bn) (b : Nat),WT x b → (kZ n x).length + 8 ≤ 64 * b
 | 0,x,b,h => by
  have:=Jt h;unfold kZ;simp only [List.length_nil];omega
 | n + 1,x,b,h => by
  obtain ⟨ws,hw,rfl,hr1,hr2⟩:=h.parts;have hl:=ln_len n;have s4:=Ad ws;have sd:=Lh ws;have t0:=N9 hw 0;have e0:=wS (yx n) (by rw [Gg];rfl) hw 0;have e1:=wS (yx n) (by rw [Gg];rfl) hw 1;have e2:=wS (yx n) (by rw [Gg];rfl) hw 2;have hll : ∀ i,(kZ n (nd x.f4 i)).length ≤ 64 * ws.getD i 0 + 2:=fun i => by
   rcases hw.nd i with h1 | ⟨h1,h2⟩
   · have:=hl _ _ h1;omega
   · rw [h1,h2];have:=lnT_z n;omega
  have l0:=hll 0;have l1:=hll 1;have l2:=hll 2;have l3:=hll 3;have a0:=at_len (e:=iy n) (nd x.f4 0) 0;have i0:=Ju (e:=iy n) (nd x.f4 0);have i1:=Ju (e:=iy n) (nd x.f4 1);have i2:=Ju (e:=iy n) (nd x.f4 2);have al:=Ey hl hw;by_cases c41 : x.f0 = 41
  · rw [lnT_41 c41];unfold RF NJ;simp only [List.length_append,bytesOf_length,Ae,List.size_toArray,List.length_cons,List.length_nil];omega
  by_cases c42 : x.f0 = 42
  · rw [lnT_42 c42];have:=vr_len (n:=n) true hw.drop;unfold RG;simp only [List.length_append,bytesOf_length,Ae,List.size_toArray,List.length_cons,List.length_nil];omega
  by_cases c45 : x.f0 = 45
  · rw [lnT_45 c45];have p1:=QG true (hw.take (x.f4.length - 1)).drop;have p2:=Lj ws (x.f4.length - 1);have p3:=Lh (ws.take (x.f4.length - 1));have p4 : (ED (kZ n) (nd x.f4 (x.f4.length - 1)).f4).length ≤ 64 * ws.getD (x.f4.length - 1) 0:=by
     rcases hw.nd (x.f4.length - 1) with h1 | ⟨h1,h2⟩
     · obtain ⟨vs,hv,e,_⟩:=h1.parts;have:=Ey hl hv;omega
     · rw [h1,h2];exact Nat.le_of_eq rfl
    have p5 : ws.getD 0 0 ≤ ws.sum:=by omega
    unfold RH NJ;simp only [List.length_append,bytesOf_length,Ae,List.size_toArray,List.length_cons,List.length_nil];by_cases p6 : x.f4.length - 1 = 0
    · rw [p6] at p1 p2 p3 p4 ⊢;simp only [List.take_zero,List.drop_nil,List.sum_nil] at p1 p3;simp only [List.take_zero,List.drop_nil] at p1 ⊢;simp only [yw,List.length_nil] at p1 ⊢;obtain hq|hq:=hw.nd 0
      · obtain ⟨vs,hv,e,_⟩:=hq.parts;have:=Ey hl hv;omega
      · rw [hq.1] at t0 ⊢;have z1 : (ED (kZ n) z25.f4).length = 0:=rfl;have z2 : z25.f1.size = 0:=rfl;omega
    · have p7 : (ws.take (x.f4.length - 1)).getD 0 0 = ws.getD 0 0:=by
       rw [List.getD_eq_getElem?_getD,List.getD_eq_getElem?_getD,List.getElem?_take,if_pos (by omega)]
      omega
  by_cases c47 : x.f0 = 47
  · rw [lnT_47 c47];unfold RI NJ;simp only [List.length_append,bytesOf_length,Ae,List.size_toArray,List.length_cons,List.length_nil];omega
  by_cases c48 : x.f0 = 48
  · rw [lnT_48 c48];unfold RJ;simp only [List.length_append,bytesOf_length,Ae,List.size_toArray,List.length_cons,List.length_nil];omega
  by_cases c49 : x.f0 = 49
  · rw [NR c49];have h1:=Oa (e:=iy n) (a:=⟨#[105,102]⟩) (b:=⟨#[10]⟩) (nd x.f4 0);have h2 : (if 2 < x.f4.length then bytesOf ⟨#[101,108,115,101,10]⟩ ++ kZ n (nd x.f4 2) else []).length ≤ 5 + (kZ n (nd x.f4 2)).length:=by
     split
     · simp only [List.length_append,bytesOf_length,Ae,List.size_toArray,List.length_cons,List.length_nil];omega
     · simp
    simp only [Ae,List.size_toArray,List.length_cons,List.length_nil] at h1;unfold NK;rw [List.length_append,List.length_append];omega
  by_cases c50 : x.f0 = 50
  · rw [lnT_50 c50];have h1:=Oa (e:=iy n) (a:=⟨#[119,104,105,108,101]⟩) (b:=⟨#[10]⟩) (nd x.f4 0);simp only [Ae,List.size_toArray,List.length_cons,List.length_nil] at h1;unfold RN;rw [List.length_append];omega
  by_cases c51 : x.f0 = 51
  · rw [lnT_51 c51];have h1:=Oa (e:=iy n) (a:=⟨#[119,104,105,108,101]⟩) (b:=⟨#[59]⟩) (nd x.f4 1);simp only [Ae,List.size_toArray,List.length_cons,List.length_nil] at h1;unfold RP;simp only [List.length_append,bytesOf_length,Ae,List.size_toArray,List.length_cons,List.length_nil];omega
  by_cases c52 : x.f0 = 52
  · rw [lnT_52 c52];unfold NM;simp only [List.length_append,bytesOf_length,Ae,List.size_toArray,List.length_cons,List.length_nil];omega
  by_cases c53 : x.f0 = 53
  · rw [lnT_53 c53];unfold ln53;simp only [List.length_append,bytesOf_length,Ae,List.size_toArray,List.length_cons,List.length_nil];omega
  by_cases c54 : x.f0 = 54
  · rw [lnT_54 c54];unfold ln54;simp only [List.length_append,bytesOf_length,Ae,List.size_toArray,List.length_cons,List.length_nil];omega
  by_cases c55 : x.f0 = 55
  · rw [NS c55];have h2 : (if 0 < x.f4.length then bytesOf ⟨#[32]⟩ ++ qU (iy n) (nd x.f4 0) 0 else []).length ≤ 1 + (qU (iy n) (nd x.f4 0) 0).length:=by
     split
     · simp only [List.length_append,bytesOf_length,Ae,List.size_toArray,List.length_cons,List.length_nil];omega
     · simp
    unfold NP;rw [List.length_append,List.length_append];simp only [List.length_append,bytesOf_length,Ae,List.size_toArray,List.length_cons,List.length_nil] at h2 ⊢;omega
  · unfold kZ;rw [if_neg c41,if_neg c42,if_neg c45,if_neg c47,if_neg c48,if_neg c49,if_neg c50,if_neg c51,if_neg c52,if_neg c53,if_neg c54,if_neg c55];unfold NQ;simp only [List.length_append,bytesOf_length,Ae,List.size_toArray,List.length_cons,List.length_nil];omega
theorem tx_len {x : bn} {b : Nat} (h : WT x b) (hb : b ≤ 1048576) : (yB x).length ≤ 70368744177664:=by
 obtain ⟨ws,hw,rfl,_⟩:=h.parts;have:=Ey (ln_len (SizeOf.sizeOf x)) hw;unfold yB;omega
structure vk (w : World) : Prop where
 g : dG w
 t : Tb w
theorem vk.below {w w1 : World} (h : vk w) (hb : Below w.heap.size w w1) : vk w1:=⟨h.g.below hb,h.t.below hb⟩
theorem Ll {x : bn} (hf : Fit x) : ∃ k r,dK.f k x.f0 x.f1 x.f2 x.f3 x.f4 x.f5 = some r ∧ cZ.f k x.f0 x.f1 x.f2 x.f3 x.f4 x.f5 = some r:=by
 obtain ⟨k,r,r0,r1,e1,e2⟩:=FQ hf 0 (by omega) (by omega);refine ⟨k,if r ≤ 262144 then r else 0,?_,?_⟩
 · unfold dK.f;rw [e1,Option.bind_some];by_cases h : r ≤ 262144
   · rw [if_pos h,if_pos h]
   · rw [if_neg h,if_neg h]
 · unfold cZ.f;rw [e2,Option.bind_some];by_cases h : r ≤ 262144
   · rw [if_pos h,if_neg (by omega)]
   · rw [if_neg h,if_pos (by omega)]
noncomputable def LG (x : bn) : Int:=@Classical.epsilon Int ⟨0⟩ fun r => ∃ k,dK.f k x.f0 x.f1 x.f2 x.f3 x.f4 x.f5 = some r
theorem Lm {x : bn} (hf : Fit x) : ∃ k,dK.f k x.f0 x.f1 x.f2 x.f3 x.f4 x.f5 = some (LG x):=by
 obtain ⟨k,r,h1,_⟩:=Ll hf;exact @Classical.epsilon_spec Int (fun r => ∃ k,dK.f k x.f0 x.f1 x.f2 x.f3 x.f4 x.f5 = some r) ⟨r,k,h1⟩
theorem szP_eq {x y : bn} (h : strip x = strip y) : LG x = LG y:=by
 unfold LG;congr 1
 funext r
 exact propext ⟨fun ⟨k,hk⟩ => ⟨k,by rw [← Js h];exact hk⟩,fun ⟨k,hk⟩ => ⟨k,by rw [Js h];exact hk⟩⟩
open Classical in
noncomputable def fU.f (a0 : Int) (a1 : ByteArray) (a2 : Int) (a3 : Bool) (l : List bn) (a5 : Int) : Option Int:=if wE ⟨a0,a1,a2,a3,l,a5⟩ then some (lg (LG ⟨a0,a1,a2,a3,l,a5⟩) ⟨a0,a1,a2,a3,l,a5⟩) else none
theorem fU.calls (a0 : Int) (a1 : ByteArray) (a2 : Int) (a3 : Bool) (A : Option Addr) (c : Nat) (l : List bn) (a5 : Int) (r : Int) (w : World) (hr : Kd.C k25 w A l.length l) (hc : l.length ≤ c) (hG : vk w) (h : fU.f a0 a1 a2 a3 l a5 = some r) :
 Calls Tryz.prog 8 #[.agg #[.int .i64 a0,.string a1,.int .u32 a2,.bool a3,.slice A l.length c,.int .i64 a5]] w fun e w' => e = .returned (.int .i64 r) ∧ Below w.heap.size w w' := by
 unfold fU.f at h
 split at h
 · rename_i hs
   obtain rfl:=Option.some.inj h;obtain ⟨k,h1⟩:=Lm (x:=⟨a0,a1,a2,a3,l,a5⟩) (zX hr);exact Check.all (x:=⟨a0,a1,a2,a3,l,a5⟩) k _ h1 hs hG.g ⟨hc,hr⟩
 · cases h
structure PrOk (x : bn) : Prop where
 s : wE x
 m : Tm x
 l : (yB x).length ≤ 70368744177664
open Classical in
noncomputable def jX.f (a0 : Int) (a1 : ByteArray) (a2 : Int) (a3 : Bool) (l : List bn) (a5 : Int) : Option (ByteArray × Int):=if PrOk ⟨a0,a1,a2,a3,l,a5⟩ then some (NU (lg (LG ⟨a0,a1,a2,a3,l,a5⟩) ⟨a0,a1,a2,a3,l,a5⟩) ⟨a0,a1,a2,a3,l,a5⟩,NV (lg (LG ⟨a0,a1,a2,a3,l,a5⟩) ⟨a0,a1,a2,a3,l,a5⟩) ⟨a0,a1,a2,a3,l,a5⟩) else none
theorem jX.calls (a0 : Int) (a1 : ByteArray) (a2 : Int) (a3 : Bool) (A : Option Addr) (c : Nat) (l : List bn) (a5 : Int) (r1 : ByteArray) (r2 : Int) (w : World) (hr : Kd.C k25 w A l.length l) (hc : l.length ≤ c) (hG : vk w) (h : jX.f a0 a1 a2 a3 l a5 = some (r1,r2)) :
 Calls Tryz.prog 11 #[.agg #[.int .i64 a0,.string a1,.int .u32 a2,.bool a3,.slice A l.length c,.int .i64 a5]] w fun e w' => e = .returned (.tuple #[.string r1,.int .i64 r2]) ∧ Below w.heap.size w w' := by
 unfold jX.f at h
 split at h
 · rename_i hs
   obtain ⟨rfl,rfl⟩:=Prod.mk.inj (Option.some.inj h);obtain ⟨k,h1⟩:=Lm (x:=⟨a0,a1,a2,a3,l,a5⟩) (zX hr);exact vI.any (x:=⟨a0,a1,a2,a3,l,a5⟩) h1 hs.s hs.m hG.g hG.t hs.l ⟨hc,hr⟩
 · cases h
theorem awakeT.calls (r : Bool) (w : World) (hG : vk w) (h : bZ.f = some r) : Calls Tryz.prog 10 #[] w fun e w' => e = .returned (.bool r) ∧ Below w.heap.size w w' := bZ.calls r w hG.g h
end Go.Proofs.YtboojhadfhpdeaaGreatDoor.Q
