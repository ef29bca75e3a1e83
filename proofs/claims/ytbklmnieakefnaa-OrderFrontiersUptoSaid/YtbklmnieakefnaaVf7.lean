/- A part of the proof, made small by a program: Meet, Dom, Back, DomS, DomW. -/
import Derived.BigRegion
import Derived.LoopIn
import Derived.LoopNIn
import Derived.OwnWalkIn
import Derived.RangeFuncBox
import Derived.RangeFuncCalls
import Derived.RangeFuncLeaves
import Derived.RegionTactic
import Derived.TacticsInMore
import Derived.WalkHide
import Derived.Test.YtbklmnieakefnaaVf1
import Derived.Test.YtbklmnieakefnaaVf5
import Derived.Test.YtbklmnieakefnaaVf6
namespace Go.Proofs.Ytbklmnieakefnaa.Q
open Go.RowKit Go.Proofs.YtbklmnieakefnaaW.PrintWords Go.Proofs.YtbklmnieakefnaaW.PrintLast Go.Proofs.YtbklmnieakefnaaW.PrintMore
set_option linter.unusedVariables false
set_option linter.unusedSimpArgs false
def doms_meet (place dom : List Int) : Nat → Int → Int → Option Int
 | 0,_,_ => none
 | k + 1,a,b => if 0 ≤ a ∧ a < (place.length : Int) ∧ 0 ≤ b ∧ b < (place.length : Int) then (if a = b then some a else if rd place a < rd place b then doms_meet place dom k (rd dom a) b else if rd place b < rd place a then doms_meet place dom k a (rd dom b) else none) else none
theorem doms_meet.mono (place dom : List Int) : ∀ k a b,LeO (doms_meet place dom k a b) (doms_meet place dom (k + 1) a b)
 | 0,a,b => fun r h => by simp [doms_meet] at h
 | k + 1,a,b => by
  have ih:=doms_meet.mono place dom k;intro r h;unfold doms_meet at h ⊢
  split at h
  · rename_i hc
    rw [if_pos hc]
    split at h
    · rename_i h1;rw [if_pos h1];exact h
    · rename_i h1
      rw [if_neg h1]
      split at h
      · rename_i h2;rw [if_pos h2];exact ih _ _ r h
      · rename_i h2
        rw [if_neg h2]
        split at h
        · rename_i h3;rw [if_pos h3];exact ih _ _ r h
        · rename_i h3;cases h
  · cases h
theorem meet_in {place dom : List Int} {k : Nat} {a b r : Int} (h : doms_meet place dom k a b = some r) : ∃ j,k = j + 1 ∧ 0 ≤ a ∧ a < (place.length : Int) ∧ 0 ≤ b ∧ b < (place.length : Int):=by
 cases k with
 | zero => simp [doms_meet] at h
 | succ j =>
  simp only [doms_meet] at h
  split at h
  · rename_i hc;exact ⟨j,rfl,hc⟩
  · cases h
theorem meet_up {place dom : List Int} {k : Nat} {a b r : Int} (h : doms_meet place dom (k + 1) a b = some r) (c : rd place a < rd place b) : doms_meet place dom k (rd dom a) b = some r:=by
 simp only [doms_meet] at h
 split at h
 · split at h
   · rename_i he;subst he;omega
   · first|exact h|(rw [if_pos c] at h;exact h)
 · cases h
theorem meet_up' {place dom : List Int} {k : Nat} {a b r : Int} (h : doms_meet place dom (k + 1) a b = some r) (c : rd place b < rd place a) : doms_meet place dom k a (rd dom b) = some r:=by
 have c' : ¬ rd place a < rd place b:=by omega
 simp only [doms_meet] at h
 split at h
 · split at h
   · rename_i he;subst he;omega
   · first|exact h|(rw [if_neg c',if_pos c] at h;exact h)|(split at h;(exfalso;omega);split at h;exact h;cases h)
 · cases h
theorem meet_end {place dom : List Int} {k : Nat} {a b r : Int} (h : doms_meet place dom k a b = some r) (c : ¬ rd place a < rd place b) (c' : ¬ rd place b < rd place a) : a = b:=by
 cases k with
 | zero => simp [doms_meet] at h
 | succ k =>
  simp only [doms_meet] at h;rw [if_neg c,if_neg c'] at h
  split at h
  · split at h
    · rename_i he;exact he
    · cases h
  · cases h
set_option maxHeartbeats 8000000 in
set_option maxRecDepth 100000 in
theorem doms_meet.calls (k : Nat) (place dom : List Int) (hlen : dom.length = place.length) (a b r : Int) (w : World) (B5 B6 g5 g6 c5 c6 : Nat) {base5 base6 : Nat} {ok5 ok6 : Nat → Prop}
 (h5 : w.heap[B5]? = some (.cells #[.slice (some ⟨g5,0,none⟩) place.length c5] 26 (0,0))) (h6 : w.heap[B6]? = some (.cells #[.slice (some ⟨g6,0,none⟩) place.length c6] 26 (0,0)))
 (hr5 : Kd.R (Kd.int .i64) 3 w base5 ok5 (.slice (some ⟨g5,0,none⟩) place.length c5) place) (hr6 : Kd.R (Kd.int .i64) 3 w base6 ok6 (.slice (some ⟨g6,0,none⟩) place.length c6) dom)
 (h : doms_meet place dom k a b = some r) :
 Calls Try.prog 27 #[.int .i64 a,.int .i64 b,.pointer (some ⟨B5,0,none⟩),.pointer (some ⟨B6,0,none⟩)] w fun e w' => e = .returned (.int .i64 r) ∧ Drawn0 w w' := by
 have HR5:=Ad.mk hr5;have HR6:=Ad.mk hr6;have hb5 : w.cell? ⟨B5,0,none⟩ = some (.slice (some ⟨g5,0,none⟩) place.length c5):=(Z5 h5 0).trans rfl;have hb6 : w.cell? ⟨B6,0,none⟩ = some (.slice (some ⟨g6,0,none⟩) place.length c6):=(Z5 h6 0).trans rfl;have H' := Ad.mk h;have HL:=Ad.mk hlen;clear h h5 h6 hr5 hr6 hlen;go_enter Try.func27,Try.ntmps27
 go_wp2
 go_loopg [0,1] k (fun kq v0 v1 w' => ∃ (x y : Int),v0 = .int .i64 x ∧ v1 = .int .i64 y ∧ Ad (doms_meet place dom kq x y = some r) ∧ Drawn0 w w')
 case atStart => exact ⟨a,b,rfl,rfl,H',by repeat (first|exact Drawn0.refl _|apply Drawn0.step)⟩
 case round =>
  clear H';obtain ⟨x,y,rfl,rfl,HA,⟨m1,rfl⟩⟩:=hrel;by_cases hxy : x = y
  · subst hxy;have e1 : (x != x) = false:=bne_eq_false_iff_eq.mpr rfl;have hr : x = r:=by
     have h:=HA.out;cases gk with
     | zero => simp [doms_meet] at h
     | succ k1 =>
      simp only [doms_meet] at h
      split at h
      · simpa using h
      · cases h
    subst hr;go_wp2
    go_ret
    exact ⟨rfl,by repeat (first|exact Drawn0.refl _|apply Drawn0.step)⟩
  · have e1 : (x != y) = true:=bne_iff_ne.mpr hxy;have HX:=Ad.mk hxy;clear hxy;go_wp2
    go_loopg [0] gk (fun kq v0 w' => ∃ (x1 : Int),v0 = .int .i64 x1 ∧ Ad (doms_meet place dom kq x1 y = some r) ∧ Ad (kq ≤ gk) ∧ Ad (kq = gk → x1 ≠ y) ∧ Drawn0 w w')
    case atStart => exact ⟨x,rfl,HA,⟨Nat.le_refl _⟩,⟨fun _ => HX.out⟩,by repeat (first|exact Drawn0.refl _|apply Drawn0.step)⟩
    case round =>
     clear HA;obtain ⟨x1,rfl,HA,HK,HN,⟨m2,rfl⟩⟩:=hrel;obtain ⟨k2,rfl,p1,q1,p2,q2⟩:=meet_in HA.out;have hx1:=(Kd.R_celln 0 HR5.out x1 p1 q1).1;have hx2:=(Kd.R_celln 0 HR5.out y p2 q2).1;have hx3:=(Kd.R_celln 0 HR6.out x1 p1 q1).1;have d1:=decide_eq_true p1;have d2:=decide_eq_true q1;have d3:=decide_eq_true p2;have d4:=decide_eq_true q2;replace p1:=eq_true p1;replace q1:=eq_true q1;replace p2:=eq_true p2;replace q2:=eq_true q2;by_cases c : rd place x1 < rd place y
     · have c1 : decide (rdOf 0 place x1 < rdOf 0 place y) = true:=decide_eq_true c;go_wp2
       repeat (go_quiet (fail))
       go_wp2
       go_roundg k2
       case measure => omega
       case rel => exact ⟨rd dom x1,rfl,⟨meet_up HA.out c⟩,⟨by have:=HK.out;omega⟩,⟨fun he => by have:=HK.out;omega⟩,by repeat (first|exact Drawn0.refl _|apply Drawn0.step)⟩
     · have c1 : decide (rdOf 0 place x1 < rdOf 0 place y) = false:=decide_eq_false c;go_wp2
       repeat (go_quiet (fail))
       go_wp2
       have HC:=Ad.mk c;clear p1 q1 p2 q2 d1 d2 d3 d4 c c1 hx1 hx2 hx3;go_loopg [1] (k2 + 1) (fun kq v1 w' => ∃ (y1 : Int),v1 = .int .i64 y1 ∧ Ad (doms_meet place dom kq x1 y1 = some r) ∧ Ad (kq ≤ gk) ∧ Ad (kq = gk → x1 ≠ y1 ∧ ¬ rd place x1 < rd place y1) ∧ Drawn0 w w')
       case atStart => exact ⟨y,rfl,HA,HK,⟨fun he => ⟨HN.out he,by have:=HC.out;omega⟩⟩,by repeat (first|exact Drawn0.refl _|apply Drawn0.step)⟩
       case round =>
        clear HA HK HN HC;obtain ⟨y1,rfl,HA,HK,HN,⟨m3,rfl⟩⟩:=hrel;obtain ⟨k3,rfl,p1,q1,p2,q2⟩:=meet_in HA.out;have hx1:=(Kd.R_celln 0 HR5.out x1 p1 q1).1;have hx2:=(Kd.R_celln 0 HR5.out y1 p2 q2).1;have hx3:=(Kd.R_celln 0 HR6.out y1 p2 q2).1;have d1:=decide_eq_true p1;have d2:=decide_eq_true q1;have d3:=decide_eq_true p2;have d4:=decide_eq_true q2;replace p1:=eq_true p1;replace q1:=eq_true q1;replace p2:=eq_true p2;replace q2:=eq_true q2;by_cases c : rd place y1 < rd place x1
        · have c1 : decide (rdOf 0 place y1 < rdOf 0 place x1) = true:=decide_eq_true c;go_wp2
          repeat (go_quiet (fail))
          go_wp2
          go_roundg k3
          case measure => omega
          case rel => exact ⟨rd dom y1,rfl,⟨meet_up' HA.out c⟩,⟨by have:=HK.out;omega⟩,⟨fun he => by have:=HK.out;omega⟩,by repeat (first|exact Drawn0.refl _|apply Drawn0.step)⟩
        · have c1 : decide (rdOf 0 place y1 < rdOf 0 place x1) = false:=decide_eq_false c;have hlt : k3 + 1 < gk:=by
           have h1:=HK.out;have h2:=HN.out;by_cases he : k3 + 1 = gk
           · exact absurd (meet_end HA.out (h2 he).2 c) (h2 he).1
           · omega
          go_wp2
          repeat (go_quiet (fail))
          go_wp2
          go_roundg (k3 + 1)
          case measure => exact hlt
          case rel => exact ⟨x1,y1,rfl,rfl,HA,by repeat (first|exact Drawn0.refl _|apply Drawn0.step)⟩
end Go.Proofs.Ytbklmnieakefnaa.Q
namespace Go.Proofs.Ytbklmnieakefnaa.Q
open Go.RowKit Go.Proofs.YtbklmnieakefnaaW.PrintWords Go.Proofs.YtbklmnieakefnaaW.PrintLast Go.Proofs.YtbklmnieakefnaaW.PrintMore
set_option linter.unusedVariables false
def doms_best (place dom : List Int) (kf : Nat) : List Int → Int → Option Int
 | [],best => some best
 | p :: ps,best => if 0 ≤ p ∧ p < (place.length : Int) then (if rd dom p < 0 ∨ rd place p < 0 then doms_best place dom kf ps best else if best < 0 then doms_best place dom kf ps p else (doms_meet place dom kf best p).bind fun m => doms_best place dom kf ps m) else none
def doms_row (place : List Int) (preds : List (List Int)) (kf : Nat) (b : Int) (dom : List Int) (turned : Bool) : Option (List Int × Bool) :=
 if b = 0 then some (dom,turned)
 else if 0 ≤ b ∧ b < (place.length : Int) ∧ (rd_L1 preds b).length ≤ 17592186044416 then (doms_best place dom kf (rd_L1 preds b) (-1)).bind fun best => if rd dom b = best then some (dom,turned) else some (dom.set b.toNat best,true)
 else none
def doms_pass (place : List Int) (preds : List (List Int)) (kf : Nat) : List Int → List Int → Bool → Option (List Int × Bool)
 | [],dom,turned => some (dom,turned)
 | b :: bs,dom,turned => (doms_row place preds kf b dom turned).bind fun s => doms_pass place preds kf bs s.1 s.2
def doms_turn (place : List Int) (preds : List (List Int)) (kf : Nat) (order : List Int) : Nat → List Int → Option (List Int)
 | 0,_ => none
 | k + 1,dom => (doms_pass place preds kf order dom false).bind fun s => if s.2 = true then doms_turn place preds kf order k s.1 else some s.1
def doms_place : List Int → Nat → List Int → Option (List Int)
 | [],_,place => some place
 | b :: bs,i,place => if 0 ≤ b ∧ b < (place.length : Int) then doms_place bs (i + 1) (place.set b.toNat (i : Int)) else none
def fS.f (k : Nat) (a0_0 : ByteArray) (a0_1 : Int) (a0_2 : Int) (a0_3 : Int) (l0_4 : List (S45)) : Option (List Int) :=
 (fD.f k a0_0 a0_1 a0_2 a0_3 l0_4).bind fun post =>
  if l0_4.length ≤ 11728124029610 then
   (if post.length ≤ 11728124029610 then
   (doms_place post 0 (List.replicate l0_4.length (-1))).bind fun place =>
    (if l0_4.length = 0 then some [] else if post.length = 0 then none else
     (fQ.f k a0_0 a0_1 a0_2 a0_3 l0_4).bind fun preds =>
      if preds.length = l0_4.length then
       (doms_turn place preds k post.reverse k ((List.replicate l0_4.length (-1)).set 0 0)).bind fun d => some (d.set 0 (-1))
      else none)
    else none)
  else none
theorem doms_best.mono (place dom : List Int) (kf : Nat) : ∀ ps b,LeO (doms_best place dom kf ps b) (doms_best place dom (kf + 1) ps b)
 | [],b => LeO.refl _
 | p :: ps,b => by
  have ih:=doms_best.mono place dom kf ps;unfold doms_best;refine LeO.ite (LeO.ite (ih _) (LeO.ite (ih _) (LeO.bind (doms_meet.mono place dom kf b p) (fun m => ih m)))) (LeO.refl _)
theorem doms_row.mono (place : List Int) (preds : List (List Int)) (kf : Nat) (b : Int) (dom : List Int) (t : Bool) : LeO (doms_row place preds kf b dom t) (doms_row place preds (kf + 1) b dom t):=by
 unfold doms_row;exact LeO.ite (LeO.refl _) (LeO.ite (LeO.bind (doms_best.mono place dom kf _ _) (fun _ => LeO.refl _)) (LeO.refl _))
theorem doms_pass.mono (place : List Int) (preds : List (List Int)) (kf : Nat) : ∀ bs dom t,LeO (doms_pass place preds kf bs dom t) (doms_pass place preds (kf + 1) bs dom t)
 | [],dom,t => LeO.refl _
 | b :: bs,dom,t => by
  unfold doms_pass;exact LeO.bind (doms_row.mono place preds kf b dom t) (fun s => doms_pass.mono place preds kf bs s.1 s.2)
theorem doms_turn.mono_kf (place : List Int) (preds : List (List Int)) (kf : Nat) (order : List Int) : ∀ k dom,LeO (doms_turn place preds kf order k dom) (doms_turn place preds (kf + 1) order k dom)
 | 0,dom => LeO.refl _
 | k + 1,dom => by
  unfold doms_turn;exact LeO.bind (doms_pass.mono place preds kf order dom false) (fun s => LeO.ite (doms_turn.mono_kf place preds kf order k s.1) (LeO.refl _))
theorem doms_turn.mono_k (place : List Int) (preds : List (List Int)) (kf : Nat) (order : List Int) : ∀ k dom,LeO (doms_turn place preds kf order k dom) (doms_turn place preds kf order (k + 1) dom)
 | 0,dom => fun r h => by simp [doms_turn] at h
 | k + 1,dom => by
  have ih:=doms_turn.mono_k place preds kf order k;unfold doms_turn;exact LeO.bind (LeO.refl _) (fun s => LeO.ite (ih s.1) (LeO.refl _))
theorem fS.mono : ∀ a0 a1 a2 a3 a4 k,LeO (fS.f k a0 a1 a2 a3 a4) (fS.f (k + 1) a0 a1 a2 a3 a4):=by
 intro a0 a1 a2 a3 a4 k;unfold fS.f;refine LeO.bind (fD.mono _ _ _ _ _ _) (fun post => LeO.ite (LeO.ite (LeO.bind (LeO.refl _) (fun place => LeO.ite (LeO.refl _) (LeO.ite (LeO.refl _) (LeO.bind (fQ.mono _ _ _ _ _ _) (fun preds => LeO.ite (LeO.bind ?_ (fun _ => LeO.refl _)) (LeO.refl _)))))) (LeO.refl _)) (LeO.refl _));intro r h;exact doms_turn.mono_k _ _ _ _ _ _ r (doms_turn.mono_kf _ _ _ _ _ _ r h)
end Go.Proofs.Ytbklmnieakefnaa.Q
namespace Go.Proofs.Ytbklmnieakefnaa.Q
open Go.RowKit Go.Proofs.YtbklmnieakefnaaW.PrintWords Go.Proofs.YtbklmnieakefnaaW.PrintLast Go.Proofs.YtbklmnieakefnaaW.PrintMore
set_option linter.unusedVariables false
set_option linter.unusedSimpArgs false
attribute [local go_sem] Oper.semAt_some
def Kp2 (n D T : Nat) (A B : World) : Prop:=A.heap.size ≤ B.heap.size ∧ ∀ k,k < n → k ≠ D → k ≠ T → B.heap[k]? = A.heap[k]?
theorem Kp2.refl (n D T : Nat) (A : World) : Kp2 n D T A A:=⟨Nat.le_refl _,fun _ _ _ _ => rfl⟩
theorem Kp2.trans {n D T : Nat} {A B C : World} (h : Kp2 n D T A B) (k : Kp2 n D T B C) : Kp2 n D T A C:=⟨Nat.le_trans h.1 k.1,fun j h1 h2 h3 => (k.2 j h1 h2 h3).trans (h.2 j h1 h2 h3)⟩
theorem cell_of_heap {A B : World} {p : Addr} (h : B.heap[p.block]? = A.heap[p.block]?) : B.cell? p = A.cell? p:=by simp [World.cell?,h]
set_option maxRecDepth 100000 in
set_option maxHeartbeats 4000000 in
theorem back1_in (n : Nat) (hn : 1 ≤ n) (l Bs b len cap n₁ D T : Nat) (zs : List Int) (hreach : len * 8 ≤ 140737488351232) (hlen : len = zs.length)
 (hB1 : Bs < n₁) (hBD : Bs ≠ D) (hBT : Bs ≠ T) (hb1 : b < n₁) (hbD : b ≠ D) (hbT : b ≠ T) (J : Nat → World → Prop)
 (hY : ∀ k W,k < len → J k W → YieldAt Fence.wide (n - 1) Try.prog l #[.int .i64 ((len : Int) - 1 - k),.int .i64 (rd zs ((len : Int) - 1 - k))] W fun e W' => e = .returned (.bool true) ∧ J (k + 1) W' ∧ Kp2 n₁ D T W W')
 (W : World) (hBs : W.cell? ⟨Bs,0,none⟩ = some (.slice (some ⟨b,0,none⟩) len cap)) (hc : ∀ i : Int,0 ≤ i → i < len → W.cell? ⟨b,i.toNat,none⟩ = some (.int .i64 (rd zs i))) (h0 : J 0 W) :
 CallsIn Fence.wide n Try.prog 37 #[.func (.yield l) #[] #[],.pointer (some ⟨Bs,0,none⟩)] W fun e W' => (∃ v,e = .returned v) ∧ J len W' := by
 refine callsIn_of_wp Try.func37 rfl trivial ?_ rfl;simp only [Try.ntmps37,List.size_toArray,List.length_cons,List.length_nil,Nat.reduceAdd,Nat.reduceSub,Array.replicate_succ,Array.replicate_zero,List.push_toArray,List.append_toArray,List.nil_append,List.cons_append];have hw1 : wrap64 ((len : Int) - 1) = (len : Int) - 1:=by unfold wrap64;omega
 have hw2 : IntKind.i64.wrap ((len : Int) - 1) = (len : Int) - 1:=(i64_w _).trans hw1
 gi_wp2
 gi_loopw [3] (fun i wr => ∃ k : Nat,k ≤ len ∧ i = .int .i64 ((len : Int) - 1 - k) ∧ J k wr ∧ Kp2 n₁ D T W wr)
  (fun i _ => (intOf i + 1).toNat)
 case atStart => exact ⟨0,Nat.zero_le _,by first|(simp [hw1,hw2];done)|(simp [hw1,hw2];omega),h0,Kp2.refl _ _ _ _⟩
 case round =>
  obtain ⟨k,hk,rfl,hJs,hnx⟩:=hrel;have hBs' : wr.cell? ⟨Bs,0,none⟩ = some (.slice (some ⟨b,0,none⟩) len cap):=(cell_of_heap (hnx.2 _ hB1 hBD hBT)).trans hBs;by_cases hlt : k < len
  · have p1 : (0 : Int) ≤ (len : Int) - 1 - k:=by omega
    have q1 : (len : Int) - 1 - k < len:=by omega
    have hx : wr.cell? ⟨b,((len : Int) - 1 - k).toNat,none⟩ = some (.int .i64 (rd zs ((len : Int) - 1 - k))):=(cell_of_heap (hnx.2 _ hb1 hbD hbT)).trans (hc _ p1 q1);obtain ⟨fn,tmps,assign,body,hy,hR⟩:=hY k wr hlt hJs;have d1:=decide_eq_true p1;have d2:=decide_eq_true q1;have w3 : wrap64 ((len : Int) - 1 - k - 1) = (len : Int) - 1 - k - 1:=by unfold wrap64;omega
    have w4 : IntKind.i64.wrap ((len : Int) - 1 - k - 1) = (len : Int) - 1 - k - 1:=(i64_w _).trans w3;obtain ⟨iv,hiv⟩ : ∃ iv : Int,(len : Int) - 1 - k = iv:=⟨_,rfl⟩
    rw [hiv] at p1 q1 d1 d2 hx hy w3 w4;simp only [hiv];replace p1:=eq_true p1;replace q1:=eq_true q1
    gi_wp2
    refine hR.mono ?_;rintro e W3 ⟨rfl,hJ3,hk3⟩
    gi_wp2
    go_roundw
    case rel => exact ⟨k + 1,by omega,by (try simp only [w4,w3]);congr 1;omega,hJ3,hnx.trans hk3⟩
    case measure => simp [intOf,w4,w3];omega
  · obtain rfl : k = len:=by omega
    have d1 : decide (0 ≤ (k : Int) - 1 - k) = false:=decide_eq_false (by omega)
    gi_wp2
    go_end0
    exact ⟨⟨_,rfl⟩,hJs⟩
set_option maxHeartbeats 1000000 in
theorem back_calls (A : Option Addr) (len cap : Nat) (w : World) : Calls Try.prog 29 #[.slice A len cap] w fun e w' => e = .returned (.func (.func 37) #[] #[.pointer (some ⟨w.heap.size,0,none⟩)]) ∧ w' = w.alloc (.cells #[.slice A len cap] 26):=by
 go_enter Try.func29,Try.ntmps29
 go_wp2
 go_ret
 exact ⟨rfl,rfl⟩
theorem fold2 (t : Array Value) (v1 v2 : Value) : Array.foldl (fun tmps (x : Tmp × Value) => match x with|(t,a) => tmps.setIfInBounds t a) t (#[61,62].zip #[v1,v2]) = (t.setIfInBounds 61 v1).setIfInBounds 62 v2:=by simp
theorem wp_back {a : Act} {w : World} {Q : Exit → Act → World → Prop} {body : Code} {pos : String} (hsz : a.tmps.size = 108) (Bs b len cap D T : Nat) (zs : List Int)
 (hg : a.eval (.tmp 60) = .func (.func 37) #[] #[.pointer (some ⟨Bs,0,none⟩)]) (hreach : len * 8 ≤ 140737488351232) (hlen : len = zs.length)
 (hB1 : Bs < w.heap.size) (hBD : Bs ≠ D) (hBT : Bs ≠ T) (hb1 : b < w.heap.size) (hbD : b ≠ D) (hbT : b ≠ T)
 (hBs : w.cell? ⟨Bs,0,none⟩ = some (.slice (some ⟨b,0,none⟩) len cap)) (hc : ∀ i : Int,0 ≤ i → i < len → w.cell? ⟨b,i.toNat,none⟩ = some (.int .i64 (rd zs i)))
 (I : Nat → World → Prop) (hI : ∀ k W W' row,I k W → W.grownBy W' row → (∀ r,row = some r → w.heap.size ≤ r) → I k W') (h0 : I 0 w)
 (hbody : ∀ l k W,k < len → I k W → body.wpIn (Fence.wide.inRound l) 5 Try.prog (fun e _ W' => e = .normal ∧ KeepsFrom w.heap.size W W' ∧ Kp2 w.heap.size D T W W' ∧ I (k + 1) W')
  { tmps:=((a.tmps.setIfInBounds 61 (.int .i64 ((len : Int) - 1 - k))).setIfInBounds 62 (.int .i64 (rd zs ((len : Int) - 1 - k)))).setIfInBounds 14 (.int .i64 (rd zs ((len : Int) - 1 - k))),defers:=[] } W)
 (hdone : ∀ E W,w.heap.size ≤ E → I len W → W.heap[E]? = some (.deferred (some [])) → Q .normal { a with defers:={ target:=.collected E,args:=#[] } :: a.defers } W) :
 (Code.rangeFunc (.tmp 60) #[61,62] (Code.region 24 #[{ dst:=some 14,op:=Op.assign (Operand.tmp 62),type:=3,pos:=pos,after:=#[],guard:=none }] false) body).wp Try.prog Q a w:=by
 refine wpIn_wide.1 (wpIn_rangeFunc (F:=Fence.wide) (n:=7) ?_);intro fn _;obtain ⟨rec,hrec⟩ : ∃ rec : LoopState → Option Code → Loop,rec = fun st pe => { state:=st,pending:=pe,fn,tmps:=a.tmps,params:=#[61,62],assign:=(Code.region 24 #[{ dst:=some 14,op:=Op.assign (Operand.tmp 62),type:=3,pos:=pos,after:=#[],guard:=none }] false),body,defers:=w.heap.size } := ⟨_,rfl⟩
 obtain ⟨W1,hW1⟩ : ∃ W1,(w.alloc (.deferred (some []))).alloc (.loop (rec .ready none)) = W1:=⟨_,rfl⟩
 have hs1 : W1.heap.size = w.heap.size + 2:=by rw [← hW1];simp
 have hL1 : W1.heap[w.heap.size + 1]? = some (.loop (rec .ready none)):=by
  rw [← hW1];have:=World.alloc_heap_new (w.alloc (.deferred (some []))) (.loop (rec .ready none));rwa [World.size_alloc] at this
 have hD1 : W1.heap[w.heap.size]? = some (.deferred (some [])):=by
  rw [← hW1];exact (Below.heap_alloc _ _ _ (by simp)).trans (World.alloc_heap_new w _)
 have hbl : Below w.heap.size w W1:=by rw [← hW1];exact Z7 (Z7 (Below.refl _ _) _) _
 have hI1 : I 0 W1:=by
  rw [← hW1];exact hI 0 _ _ none (hI 0 _ _ none h0 (World.grownBy_alloc _ _ _) (fun _ e => by cases e)) (World.grownBy_alloc _ _ _) (fun _ e => by cases e)
 refine ⟨w.heap.size + 1,[{ target:=.collected w.heap.size,args:=#[] }],W1,{ target:=.fn (.func 37) #[.pointer (some ⟨Bs,0,none⟩)],args:=#[.func (.yield (w.heap.size + 1)) #[] #[]] },W1,37,
  #[.func (.yield (w.heap.size + 1)) #[] #[]] ++ #[.pointer (some ⟨Bs,0,none⟩)],W1,?_,?_,fun _ _ => trivial,?_,fun _ => by decide,?_⟩
 · rw [← hW1,hrec];exact run_enterLoop_outer _ _ _ _ _
 · simp only [resolve,hg];simp [go_sem]
 · have eg:=enters_ (P:=Try.prog) Try.func37 (by kernel_rfl) rfl (#[.func (.yield (w.heap.size + 1)) #[] #[]] ++ #[.pointer (some ⟨Bs,0,none⟩)]) W1;simp [invoke,go_sem,eg]
 · refine (back1_in 6 (by decide) (w.heap.size + 1) Bs b len cap w.heap.size D T zs hreach hlen hB1 hBD hBT hb1 hbD hbT
    (fun k W => I k W ∧ W.heap[w.heap.size + 1]? = some (.loop (rec .ready none)) ∧ W.heap[w.heap.size]? = some (.deferred (some []))) ?_ W1
    ((cell_of_heap (hbl.block _ hB1)).trans hBs) (fun i h1 h2 => (cell_of_heap (hbl.block _ hb1)).trans (hc i h1 h2)) ⟨hI1,hL1,hD1⟩).mono ?_
   · rintro k W hk ⟨hi,hl,hd⟩;have hlt : w.heap.size + 1 < W.heap.size:=(Array.getElem?_eq_some_iff.1 hl).1;have hy:=run_yield (P:=Try.prog) (args:=#[.int .i64 ((len : Int) - 1 - k),.int .i64 (rd zs ((len : Int) - 1 - k))]) hl (by rw [hrec];rfl);rw [hrec] at hy;refine ⟨fn,_,_,body,hy,roundIn_of_wpIn trivial ?_⟩;have s62 : ((a.tmps.setIfInBounds 61 (.int .i64 ((len : Int) - 1 - k))).setIfInBounds 62 (.int .i64 (rd zs ((len : Int) - 1 - k)))).getD 62 undef = .int .i64 (rd zs ((len : Int) - 1 - k)):=by
      simp [Array.getD,hsz]
     have hr2 : W.heap[w.heap.size + 1]? = some (.loop (rec .ready none)):=hl;have hbr:=run_beginRound (P:=Try.prog) hl (by rw [hrec]);have hl2 : (W.putObj (w.heap.size + 1) (.loop { rec .ready none with state:=.busy })).heap[w.heap.size + 1]? = some (.loop { rec .ready none with state:=.busy }):=World.putObj_heap_same hlt;have hd2 : (W.putObj (w.heap.size + 1) (.loop { rec .ready none with state:=.busy })).heap[w.heap.size]? = some (.deferred (some [])):=(World.putObj_heap_other (by omega)).trans hd;have hi2 : I k (W.putObj (w.heap.size + 1) (.loop { rec .ready none with state:=.busy })):=hI _ _ _ _ hi (grownBy_putObj' _ _ _) (fun r e => by cases e;omega);have hb2:=hbody (w.heap.size + 1) k _ hk hi2;dsimp only;rw [fold2];refine wpIn_region_lit (wpListIn_plain rfl fun K hK => ?_);have hnext : K { tmps:=((a.tmps.setIfInBounds 61 (.int .i64 ((len : Int) - 1 - k))).setIfInBounds 62 (.int .i64 (rd zs ((len : Int) - 1 - k)))).setIfInBounds 14 (.int .i64 (rd zs ((len : Int) - 1 - k))),defers:=[] } W:=by
      refine hK _ _ ⟨_,hbr,wpIn_mono hb2 ?_⟩;rintro e a3 W3 ⟨rfl,hk3,hp3,hi3⟩;have hl3:=hk3.same _ _ (by omega) hl2 rfl;have hend:=run_endRound (P:=Try.prog) none hl3;refine ⟨_,_,hend,rfl,⟨hI _ _ _ _ hi3 (grownBy_putObj' _ _ _) (fun r e => by cases e;omega),?_,(World.putObj_heap_other (by omega)).trans (hk3.same _ _ (Nat.le_refl _) hd2 rfl)⟩,?_⟩
      · rw [World.putObj_heap_same (Array.getElem?_eq_some_iff.1 hl3).1,hrec];rfl
      · refine ⟨by have h1:=hp3.1;simpa using h1,fun j h1 h2 h3 => ?_⟩;rw [World.putObj_heap_other (by omega),hp3.2 j h1 h2 h3,World.putObj_heap_other (by omega)]
     simp [Oper.wpIn,Oper.about,go_sem,s62];exact hnext
   · rintro e W2 ⟨⟨v,rfl⟩,hi,hl,hd⟩;have hend:=run_endLoop (P:=Try.prog) hl (by rw [hrec];simp);rw [hrec] at hend;exact ⟨none,_,hend,hdone _ _ (Nat.le_refl _) (hI _ _ _ _ hi (grownBy_putObj' _ _ _) (fun r e => by cases e;omega)) ((World.putObj_heap_other (by omega)).trans hd)⟩
end Go.Proofs.Ytbklmnieakefnaa.Q
namespace Go.Proofs.Ytbklmnieakefnaa.Q
open Go.RowKit Go.Proofs.YtbklmnieakefnaaW.PrintWords Go.Proofs.YtbklmnieakefnaaW.PrintLast Go.Proofs.YtbklmnieakefnaaW.PrintMore
set_option linter.unusedVariables false
abbrev RowI (w : World) (base g n c : Nat) (xs : List Int) : Prop:=Kd.R (Kd.int .i64) 3 w base (fun k => k = g) (.slice (some ⟨g,0,none⟩) n c) xs
theorem RowI.of {w : World} {base : Nat} {ok : Nat → Prop} {v : Value} {xs : List Int} (h : Kd.R (Kd.int .i64) 3 w base ok v xs) (hp : 0 < xs.length) : ∃ g c,v = .slice (some ⟨g,0,none⟩) xs.length c ∧ RowI w base g xs.length c xs ∧ base ≤ g ∧ g < w.heap.size:=by
 obtain ⟨g,c,rfl,h1,h2,_⟩:=Kd.R_form h hp;exact ⟨g,c,rfl,Kd.R_flat (fun h => h) h (fun k hk _ => by simpa [Value.ownBlock] using hk.symm),h1,h2⟩
theorem RowI.of' {w : World} {base n : Nat} {ok : Nat → Prop} {v : Value} {xs : List Int} (h : Kd.R (Kd.int .i64) 3 w base ok v xs) (hn : xs.length = n) (hp : 0 < n) : ∃ g c,v = .slice (some ⟨g,0,none⟩) n c ∧ RowI w base g n c xs ∧ base ≤ g ∧ g < w.heap.size:=by
 subst hn;exact RowI.of h hp
theorem RowI.len {w : World} {base g n c : Nat} {xs : List Int} (h : RowI w base g n c xs) : n = xs.length:=(Kd.R_reads' h).1
theorem RowI.lt {w : World} {base g n c : Nat} {xs : List Int} (h : RowI w base g n c xs) : g < w.heap.size:=Kd.R_lt h g rfl
theorem RowI.base {w : World} {base g n c : Nat} {xs : List Int} (h : RowI w base g n c xs) : base ≤ g:=Kd.R_base h g rfl
theorem RowI.move {w w1 : World} {base g n c : Nat} {xs : List Int} (h : RowI w base g n c xs) (hm : w1.heap[g]? = w.heap[g]?) : RowI w1 base g n c xs:=Kd.R_step h (fun k hk _ => by subst hk;exact hm)
theorem RowI.set {w : World} {base g n c : Nat} {xs : List Int} (h : RowI w base g n c xs) (i : Int) (x : Int) : RowI (w.setCell ⟨g,i.toNat,none⟩ (.int .i64 x)) base g n c (xs.set i.toNat x):=Kd.R_putn h i x
theorem RowI.at {w : World} {base g n c : Nat} {xs : List Int} (h : RowI w base g n c xs) (i : Int) (h0 : 0 ≤ i) (h1 : i < n) : w.cell? ⟨g,i.toNat,none⟩ = some (.int .i64 (rd xs i)):=(Kd.R_celln 0 h i h0 h1).1
theorem RowI.fr {w : World} {base g n c : Nat} {xs : List Int} (h : RowI w base g n c xs) (i : Int) (h0 : 0 ≤ i) (h1 : i < n) : w.frozen? ⟨g,i.toNat,none⟩ = false:=(Kd.R_celln 0 h i h0 h1).2
theorem size_setCell_ (w : World) (p : Addr) (v : Value) : (w.setCell p v).heap.size = w.heap.size:=by simp [World.setCell]
structure DS (w : World) (F : Array Value) (gb gp cp b5 g5 c5 b6 g6 c6 n : Nat) (post place dom : List Int) (W : World) : Prop where
 hb : Below w.heap.size w W
 fb : W.heap[gb]? = some (.cells F 24 (0,0))
 ip : RowI W w.heap.size gp post.length cp post
 k5 : W.heap[b5]? = some (.cells #[.slice (some ⟨g5,0,none⟩) n c5] 26 (0,0))
 i5 : RowI W w.heap.size g5 n c5 place
 k6 : W.heap[b6]? = some (.cells #[.slice (some ⟨g6,0,none⟩) n c6] 26 (0,0))
 i6 : RowI W w.heap.size g6 n c6 dom
 n56 : g5 ≠ g6
 np5 : gp ≠ g5
 np6 : gp ≠ g6
 x5 : w.heap.size ≤ b5
 x6 : w.heap.size ≤ b6
 y5 : g5 ≠ b5 ∧ g5 ≠ b6 ∧ g5 ≠ gb
 y6 : g6 ≠ b5 ∧ g6 ≠ b6 ∧ g6 ≠ gb
section
variable {w W W1 : World} {F : Array Value} {gb gp cp b5 g5 c5 b6 g6 c6 n : Nat} {post place dom : List Int}
theorem DS.below (h : DS w F gb gp cp b5 g5 c5 b6 g6 c6 n post place dom W) (hb : Below W.heap.size W W1) : DS w F gb gp cp b5 g5 c5 b6 g6 c6 n post place dom W1 :=
 ⟨Z25 h.hb hb,Z40 h.fb hb,Kd.R_below h.ip hb,Z40 h.k5 hb,Kd.R_below h.i5 hb,Z40 h.k6 hb,Kd.R_below h.i6 hb,h.n56,h.np5,h.np6,h.x5,h.x6,h.y5,h.y6⟩
theorem DS.set5 (h : DS w F gb gp cp b5 g5 c5 b6 g6 c6 n post place dom W) (i x : Int) : DS w F gb gp cp b5 g5 c5 b6 g6 c6 n post (place.set i.toNat x) dom (W.setCell ⟨g5,i.toNat,none⟩ (.int .i64 x)) :=
 ⟨Z8 h.hb h.i5.base,Z22 h.fb (Ne.symm h.y5.2.2) _,h.ip.move (Below.heap_setCell _ _ _ _ h.np5),Z22 h.k5 (Ne.symm h.y5.1) _,h.i5.set i x,Z22 h.k6 (Ne.symm h.y5.2.1) _,h.i6.move (Below.heap_setCell _ _ _ _ (Ne.symm h.n56)),h.n56,h.np5,h.np6,h.x5,h.x6,h.y5,h.y6⟩
theorem DS.set6 (h : DS w F gb gp cp b5 g5 c5 b6 g6 c6 n post place dom W) (i x : Int) : DS w F gb gp cp b5 g5 c5 b6 g6 c6 n post place (dom.set i.toNat x) (W.setCell ⟨g6,i.toNat,none⟩ (.int .i64 x)) :=
 ⟨Z8 h.hb h.i6.base,Z22 h.fb (Ne.symm h.y6.2.2) _,h.ip.move (Below.heap_setCell _ _ _ _ h.np6),Z22 h.k5 (Ne.symm h.y6.1) _,h.i5.move (Below.heap_setCell _ _ _ _ h.n56),Z22 h.k6 (Ne.symm h.y6.2.1) _,h.i6.set i x,h.n56,h.np5,h.np6,h.x5,h.x6,h.y5,h.y6⟩
theorem DS.drew (h : DS w F gb gp cp b5 g5 c5 b6 g6 c6 n post place dom W) : DS w F gb gp cp b5 g5 c5 b6 g6 c6 n post place dom W.drew:=h.below (Z6 (Below.refl _ _))
theorem DS.drewN (h : DS w F gb gp cp b5 g5 c5 b6 g6 c6 n post place dom W) (m : Nat) : DS w F gb gp cp b5 g5 c5 b6 g6 c6 n post place dom (W.drewN m):=h.below (Z4 (Below.refl _ _) m)
theorem DS.alloc (h : DS w F gb gp cp b5 g5 c5 b6 g6 c6 n post place dom W) (o : Obj) : DS w F gb gp cp b5 g5 c5 b6 g6 c6 n post place dom (W.alloc o):=h.below (Z7 (Below.refl _ _) o)
theorem DS.c5' (h : DS w F gb gp cp b5 g5 c5 b6 g6 c6 n post place dom W) : W.cell? ⟨b5,0,none⟩ = some (.slice (some ⟨g5,0,none⟩) n c5):=(Z5 h.k5 0).trans rfl
theorem DS.c6' (h : DS w F gb gp cp b5 g5 c5 b6 g6 c6 n post place dom W) : W.cell? ⟨b6,0,none⟩ = some (.slice (some ⟨g6,0,none⟩) n c6):=(Z5 h.k6 0).trans rfl
end
theorem drop_cons {xs : List Int} {j : Nat} (h : j < xs.length) : xs.drop j = rd xs (j : Int) :: xs.drop (j + 1):=by
 rw [List.drop_eq_getElem_cons h];simp [rd,List.getD_eq_getElem?_getD,h]
theorem place_in {post pl place : List Int} {j : Nat} (h : doms_place (post.drop j) j pl = some place) (hj : j < post.length) : 0 ≤ rd post (j : Int) ∧ rd post (j : Int) < (pl.length : Int) ∧ doms_place (post.drop (j + 1)) (j + 1) (pl.set (rd post (j : Int)).toNat (j : Int)) = some place:=by
 rw [drop_cons hj,doms_place] at h;by_cases c : 0 ≤ rd post (j : Int) ∧ rd post (j : Int) < (pl.length : Int)
 · rw [if_pos c] at h;exact ⟨c.1,c.2,h⟩
 · rw [if_neg c] at h;cases h
theorem place_end {post pl place : List Int} {j : Nat} (h : doms_place (post.drop j) j pl = some place) (hj : post.length ≤ j) : pl = place:=by
 rw [List.drop_of_length_le hj,doms_place] at h;exact Option.some.inj h
structure DO (w : World) (F : Array Value) (gb gp cp b5 g5 c5 b6 g6 c6 n : Nat) (post place dom : List Int) (b10 b11 gP cP N1 N2 N3 : Nat) (preds : List (List Int)) (W : World) : Prop where
 ds : DS w F gb gp cp b5 g5 c5 b6 g6 c6 n post place dom W
 rp : Kd.R (Kd.slice 3 (Kd.int .i64)) 26 W w.heap.size (fun k => N1 ≤ k ∧ k < N2) (.slice (some ⟨gP,0,none⟩) preds.length cP) preds
 k10 : W.heap[b10]? = some (.cells #[.func (.func 27) #[] #[.pointer (some ⟨b5,0,none⟩),.pointer (some ⟨b6,0,none⟩)]] 52 (0,0))
 k11 : W.heap[b11]? = some (.cells #[.slice (some ⟨gP,0,none⟩) preds.length cP] 36 (0,0))
 hN : w.heap.size ≤ N3 ∧ N2 ≤ N3 ∧ gb < N3 ∧ gp < N3 ∧ b5 < N3 ∧ g5 < N3 ∧ b6 < N3 ∧ g6 < N3 ∧ b10 < N3 ∧ b11 < N3
 hW : N3 ≤ W.heap.size
 h6 : g6 < N1 ∧ g6 ≠ b10 ∧ g6 ≠ b11
section
variable {w W W1 : World} {F : Array Value} {gb gp cp b5 g5 c5 b6 g6 c6 n : Nat} {post place dom : List Int} {b10 b11 gP cP N1 N2 N3 : Nat} {preds : List (List Int)} {row : Option Nat}
theorem DO.grown (h : DO w F gb gp cp b5 g5 c5 b6 g6 c6 n post place dom b10 b11 gP cP N1 N2 N3 preds W) (hg : W.grownBy W1 row) (hr : ∀ r,row = some r → N3 ≤ r) : DO w F gb gp cp b5 g5 c5 b6 g6 c6 n post place dom b10 b11 gP cP N1 N2 N3 preds W1:=by
 obtain ⟨h1,h2,h3,h4,h5,h6,h7,h8,h9,h10⟩:=h.hN;have hW:=h.hW;have ne : ∀ k,k < N3 → some k ≠ row:=fun k hk e => by have:=hr k e.symm;omega
 have mv : ∀ k,k < N3 → W1.heap[k]? = W.heap[k]? := fun k hk => hg.block k (by omega) (ne k hk)
 refine ⟨⟨h.ds.hb.grown hg (by omega) (fun r e => by have:=hr r e;omega),Z89 h.ds.fb hg (ne _ h3),h.ds.ip.move (mv _ h4),Z89 h.ds.k5 hg (ne _ h5),h.ds.i5.move (mv _ h6),Z89 h.ds.k6 hg (ne _ h7),h.ds.i6.move (mv _ h8),h.ds.n56,h.ds.np5,h.ds.np6,h.ds.x5,h.ds.x6,h.ds.y5,h.ds.y6⟩,
  Kd.R_step h.rp (fun k hk _ => mv k (by have:=hk.2;omega)),Z89 h.k10 hg (ne _ h9),Z89 h.k11 hg (ne _ h10),h.hN,Nat.le_trans hW hg.size,h.h6⟩
theorem DO.set6 (h : DO w F gb gp cp b5 g5 c5 b6 g6 c6 n post place dom b10 b11 gP cP N1 N2 N3 preds W) (i x : Int) : DO w F gb gp cp b5 g5 c5 b6 g6 c6 n post place (dom.set i.toNat x) b10 b11 gP cP N1 N2 N3 preds (W.setCell ⟨g6,i.toNat,none⟩ (.int .i64 x)) :=
 ⟨h.ds.set6 i x,Kd.R_far h.rp (fun k hk e => by have h1:=hk.1;have h2:=h.h6.1;simp only at e;omega) _,Z22 h.k10 (Ne.symm h.h6.2.1) _,Z22 h.k11 (Ne.symm h.h6.2.2) _,h.hN,by have:=h.hW;rwa [size_setCell_],h.h6⟩
theorem DO.below (h : DO w F gb gp cp b5 g5 c5 b6 g6 c6 n post place dom b10 b11 gP cP N1 N2 N3 preds W) (hb : Below W.heap.size W W1) : DO w F gb gp cp b5 g5 c5 b6 g6 c6 n post place dom b10 b11 gP cP N1 N2 N3 preds W1:=h.grown (row:=none) (grown_of_below hb none) (fun _ e => by cases e)
theorem DO.drewN (h : DO w F gb gp cp b5 g5 c5 b6 g6 c6 n post place dom b10 b11 gP cP N1 N2 N3 preds W) (m : Nat) : DO w F gb gp cp b5 g5 c5 b6 g6 c6 n post place dom b10 b11 gP cP N1 N2 N3 preds (W.drewN m):=h.below (Z4 (Below.refl _ _) m)
end
def Ch (D T : Nat) (W W' : World) : Prop:=W'.heap.size = W.heap.size ∧ ∀ k,k ≠ D → k ≠ T → W'.heap[k]? = W.heap[k]?
theorem Ch.refl (D T : Nat) (W : World) : Ch D T W W:=⟨rfl,fun _ _ _ => rfl⟩
theorem Ch.drewN {D T : Nat} {W W' : World} (h : Ch D T W W') (m : Nat) : Ch D T W (W'.drewN m):=h
theorem Ch.setD {D T : Nat} {W W' : World} (h : Ch D T W W') (i : Nat) (v : Value) : Ch D T W (W'.setCell ⟨D,i,none⟩ v):=⟨by rw [size_setCell_];exact h.1,fun k h1 h2 => (Below.heap_setCell _ _ _ k h1).trans (h.2 k h1 h2)⟩
theorem Ch.setT {D T : Nat} {W W' : World} (h : Ch D T W W') (i : Nat) (v : Value) : Ch D T W (W'.setCell ⟨T,i,none⟩ v):=⟨by rw [size_setCell_];exact h.1,fun k h1 h2 => (Below.heap_setCell _ _ _ k h2).trans (h.2 k h1 h2)⟩
theorem Ch.keeps {D T N : Nat} {W W' : World} (h : Ch D T W W') (hD : D < N) (hT : T < N) : KeepsFrom N W W' := ⟨by rw [h.1];exact Nat.le_refl _,fun k o hk hh _ => (h.2 k (by omega) (by omega)).trans hh⟩
theorem Ch.kp {D T N : Nat} {W W' : World} (h : Ch D T W W') : Kp2 N D T W W' := ⟨by rw [h.1];exact Nat.le_refl _,fun k _ h1 h2 => h.2 k h1 h2⟩
def mark (E : Nat) : Deferred:={ target:=.collected E,args:=#[] }
theorem leaves_marks {F : Fence} {n : Nat} {P : Program} {fn : Func} {tmps : Array Value} {R : Ending → World → Prop} (Pw : World → Prop) (N : Nat) (hP : ∀ W E,Pw W → N ≤ E → E < W.heap.size → Pw (W.putObj E (.deferred none)))
 (hend : ∀ W,Pw W → ∃ v,(results fn tmps).run P W = .ok v W ∧ R (.returned v) W) : ∀ (Es : List Nat) (W : World),Es.Nodup → (∀ E ∈ Es,N ≤ E ∧ W.heap[E]? = some (.deferred (some []))) → Pw W → LeavesInM F n P fn tmps R (Es.map mark) .returning W
 | [],W,_,_,h => by
  obtain ⟨v,h1,h2⟩:=hend W h;exact ⟨v,h1,h2⟩
 | E :: Es,W,hn,hE,h => by
  have h1:=hE E List.mem_cons_self;have hlt:=(Array.getElem?_eq_some_iff.1 h1.2).1;refine ⟨by simp,.inl ⟨E,_,rfl,run_takeDeferred h1.2,leaves_marks Pw N hP hend Es _ (List.nodup_cons.1 hn).2 (fun E' hE' => ?_) (hP W E h h1.1 hlt)⟩⟩;have h2:=hE E' (List.mem_cons_of_mem _ hE');have hne : E' ≠ E:=fun e => (List.nodup_cons.1 hn).1 (e ▸ hE')
  exact ⟨h2.1,(World.putObj_heap_other hne).trans h2.2⟩
theorem rev_drop {xs : List Int} {j : Nat} (h : j < xs.length) : xs.reverse.drop j = rd xs ((xs.length : Int) - 1 - j) :: xs.reverse.drop (j + 1):=by
 rw [List.drop_eq_getElem_cons (by simpa using h)];congr 1;rw [List.getElem_reverse];have e : ((xs.length : Int) - 1 - j).toNat = xs.length - 1 - j:=by omega
 simp [rd,e,List.getD_eq_getElem?_getD,show xs.length - 1 - j < xs.length by omega]
theorem row_in {pl : List Int} {preds : List (List Int)} {k : Nat} {b : Int} {dom dR : List Int} {t tR : Bool} (h : doms_row pl preds k b dom t = some (dR,tR)) (hb : b ≠ 0) :
 0 ≤ b ∧ b < (pl.length : Int) ∧ (rd_L1 preds b).length ≤ 17592186044416 ∧ ∃ best,doms_best pl dom k (rd_L1 preds b) (-1) = some best ∧ ((rd dom b = best ∧ dR = dom ∧ tR = t) ∨ (rd dom b ≠ best ∧ dR = dom.set b.toNat best ∧ tR = true)):=by
 unfold doms_row at h;rw [if_neg hb] at h;by_cases c : 0 ≤ b ∧ b < (pl.length : Int) ∧ (rd_L1 preds b).length ≤ 17592186044416
 · rw [if_pos c] at h;obtain ⟨best,h1,h⟩:=Option.bind_eq_some_iff.mp h;refine ⟨c.1,c.2.1,c.2.2,best,h1,?_⟩;by_cases cb : rd dom b = best
   · rw [if_pos cb] at h;obtain ⟨h2,h3⟩:=Prod.mk.inj (Option.some.inj h);exact .inl ⟨cb,h2.symm,h3.symm⟩
   · rw [if_neg cb] at h;obtain ⟨h2,h3⟩:=Prod.mk.inj (Option.some.inj h);exact .inr ⟨cb,h2.symm,h3.symm⟩
 · rw [if_neg c] at h;cases h
theorem best_in {pl dom row : List Int} {k i : Nat} {best r : Int} (hi : i < row.length) (h : doms_best pl dom k (row.drop i) best = some r) :
 0 ≤ rd row (i : Int) ∧ rd row (i : Int) < (pl.length : Int) ∧
  ((rd dom (rd row (i : Int)) < 0 ∨ rd pl (rd row (i : Int)) < 0) → doms_best pl dom k (row.drop (i + 1)) best = some r) ∧
  (¬ (rd dom (rd row (i : Int)) < 0 ∨ rd pl (rd row (i : Int)) < 0) → best < 0 → doms_best pl dom k (row.drop (i + 1)) (rd row (i : Int)) = some r) ∧
  (¬ (rd dom (rd row (i : Int)) < 0 ∨ rd pl (rd row (i : Int)) < 0) → ¬ best < 0 → ∃ m,doms_meet pl dom k best (rd row (i : Int)) = some m ∧ doms_best pl dom k (row.drop (i + 1)) m = some r):=by
 rw [drop_cons hi,doms_best] at h;by_cases c : 0 ≤ rd row (i : Int) ∧ rd row (i : Int) < (pl.length : Int)
 · rw [if_pos c] at h;refine ⟨c.1,c.2,fun h1 => ?_,fun h1 h2 => ?_,fun h1 h2 => ?_⟩
   · rw [if_pos h1] at h;exact h
   · rw [if_neg h1,if_pos h2] at h;exact h
   · rw [if_neg h1,if_neg h2] at h;exact Option.bind_eq_some_iff.mp h
 · rw [if_neg c] at h;cases h
theorem meas_lt {n i : Nat} (h : i < n) : n - (intOf (.int .i64 ((i : Int) + 1))).toNat < n - (intOf (.int .i64 (i : Int))).toNat:=by
 simp only [intOf];omega
def initRow (n i : Nat) : List Int:=List.replicate i (-1) ++ List.replicate (n - i) 0
theorem initRow_zero (n : Nat) : initRow n 0 = List.replicate n 0:=by simp [initRow]
theorem initRow_all (n : Nat) : initRow n n = List.replicate n (-1):=by simp [initRow]
theorem initRow_set {n i : Nat} (h : i < n) : (initRow n i).set i (-1) = initRow n (i + 1):=by
 apply List.ext_getElem?;intro j;simp only [initRow,List.getElem?_set,List.length_append,List.length_replicate,List.getElem?_append,List.getElem?_replicate]
 repeat' split
 all_goals first|rfl|(exfalso;omega)|(simp;omega)|skip
end Go.Proofs.Ytbklmnieakefnaa.Q
namespace Go.Proofs.Ytbklmnieakefnaa.Q
open Go.RowKit Go.Proofs.YtbklmnieakefnaaW.PrintWords Go.Proofs.YtbklmnieakefnaaW.PrintLast Go.Proofs.YtbklmnieakefnaaW.PrintMore
set_option linter.unusedVariables false
set_option linter.unusedSimpArgs false
theorem run_store_func1 {P : Program} {w : World} {a : Addr} {m : Mode} (f : Fn) (ts cs : Array Value) : (store a (.func f ts cs) m).run P w = stored P w a (.func f ts cs) m:=run_store P w a _ m rfl
attribute [local go_sem] run_store_func1 Oper.semAt_some
set_option maxHeartbeats 16000000 in
set_option maxRecDepth 100000 in
theorem fS.calls (k : Nat) (a0_0 : ByteArray) (a0_1 : Int) (a0_2 : Int) (a0_3 : Int) (A0_4 : Option Addr) (c0_4 : Nat) (l0_4 : List (S45)) (r : List Int) (w : World) (hr0_4 : Kd.C k45 w A0_4 l0_4.length l0_4) (hc0_4 : l0_4.length ≤ c0_4) (h : fS.f k a0_0 a0_1 a0_2 a0_3 l0_4 = some r) :
 Calls Try.prog 15 #[.agg #[.string a0_0,.int .i64 a0_1,.int .i64 a0_2,.int .i64 a0_3,.slice A0_4 l0_4.length c0_4]] w fun e w' => ∃ v0_ : Value,e = .returned (v0_) ∧ Kd.R (Kd.int .i64) 3 w' w.heap.size (fun _ => True) v0_ r ∧ Below w.heap.size w w' := by
 have hu24:=Try.underlying24;have HR:=Ad.mk hr0_4;have HC:=Ad.mk hc0_4;clear hr0_4 hc0_4;unfold fS.f at h;obtain ⟨post,hpost,h⟩:=Option.bind_eq_some_iff.mp h;have hn1 : l0_4.length ≤ 11728124029610:=by
  by_cases c : l0_4.length ≤ 11728124029610
  · exact c
  · rw [if_neg c] at h;cases h
 rw [if_pos hn1] at h;have hn2 : post.length ≤ 11728124029610:=by
  by_cases c : post.length ≤ 11728124029610
  · exact c
  · rw [if_neg c] at h;cases h
 rw [if_pos hn2] at h;obtain ⟨place,hplace,h⟩:=Option.bind_eq_some_iff.mp h;have HPO:=Ad.mk hpost;have HPL:=Ad.mk hplace;have HH:=Ad.mk h;clear hpost hplace h;have hN2 : (l0_4.length : Int).toNat * 8 ≤ 281474976710656:=by omega
 have hN0 : (0 : Int) ≤ (l0_4.length : Int):=by omega
 have HN1:=Ad.mk hn1;have HN2:=Ad.mk hn2;have HNB:=Ad.mk hN2;have HN0:=Ad.mk hN0;clear hn1 hn2 hN2 hN0;have HB:=Ad.mk (Below.refl w.heap.size w);refine (callsIn_wide (n:=9)).1 (callsIn_of_wp_marks Try.func15 rfl trivial (wpIn_wide.2 ?_) rfl);simp only [Try.ntmps15,List.size_toArray,List.length_cons,List.length_nil,Nat.reduceAdd,Nat.reduceSub,Array.replicate_succ,Array.replicate_zero,List.push_toArray,List.append_toArray,List.nil_append,List.cons_append];go_hideQ
 rename_i Q' hQ'
 by_cases hn0 : l0_4.length = 0
 · obtain rfl : l0_4 = []:=List.eq_nil_of_length_eq_zero hn0;have hh:=HH.out;rw [if_pos (show ([] : List S45).length = 0 from rfl)] at hh;obtain rfl:=Option.some.inj hh;obtain rfl : post = []:=by
    have h1:=HPO.out;simp [fD.f] at h1;exact h1
   clear hh hn0 HH HPL;have HNB' := HNB.out;have HN0' := HN0.out;simp only [List.length_nil] at HNB' HN0';have HR0 : Ad (Kd.C k45 w A0_4 0 []):=HR;simp only [List.length_nil];go_wp2_with (first
    | ((with_reducible refine Z52 (N:=1) rfl ?_);(try (refine Z66 (by rfl) ?_;dsimp only));refine Z51 ?hg (N:=1) ?hd (cs:=#[.string a0_0,.int .i64 a0_1,.int .i64 a0_2,.int .i64 a0_3,.slice A0_4 0 c0_4]) (t:=24) ?hr ?_;(case hd => rfl);(case hg => rfl);(case hr => first|(go_simp;done)|(go_simp;rfl));intro gb hg w1 hbox hb;have HB1:=Ad.mk (Z25 HB.out hb);have BK:=Ad.mk hbox;have GB:=Ad.mk (show w.heap.size ≤ gb by rw [hg];exact Z27 HB.out);have hcz0 : w1.cell? ⟨gb,0,none⟩ = some (.string a0_0):=(Z5 BK.out 0).trans rfl;have hcz1 : w1.cell? ⟨gb,1,none⟩ = some (.int .i64 a0_1):=(Z5 BK.out 1).trans rfl;have hcz2 : w1.cell? ⟨gb,2,none⟩ = some (.int .i64 a0_2):=(Z5 BK.out 2).trans rfl;have hcz3 : w1.cell? ⟨gb,3,none⟩ = some (.int .i64 a0_3):=(Z5 BK.out 3).trans rfl;have hcz4 : w1.cell? ⟨gb,4,none⟩ = some (.slice A0_4 0 c0_4):=(Z5 BK.out 4).trans rfl;clear hb hbox hg HB)
    | ((with_reducible refine Z14 (f:=10) rfl ?_);refine goesL_ (some 19) rfl rfl Try.func10 (by kernel_rfl) rfl #[.agg #[.string a0_0,.int .i64 a0_1,.int .i64 a0_2,.int .i64 a0_3,.slice A0_4 0 c0_4]] rfl (by (try simp only [List.map_toArray,List.map_cons,List.map_nil]);first|done|rfl) ?_;(refine (fD.calls k a0_0 a0_1 a0_2 a0_3 _ _ [] [] _ ?side1 ?side2 HPO.out).mono ?_);(case side1 => exact Kd.C_below HR0.out HB1.out);(case side2 => exact HC.out);rintro e w2 ⟨vpost,rfl,ho,hb⟩;refine ⟨_,rfl,?_⟩;obtain ⟨Ap,cp,rfl⟩:=Kd.R_slice ho;have BK2:=Ad.mk (Z40 BK.out hb);have HB2:=Ad.mk (Z25 HB1.out hb);clear ho hb hcz0 hcz1 hcz2 hcz3 hcz4 HB1 BK;have hcz0 : w2.cell? ⟨gb,0,none⟩ = some (.string a0_0):=(Z5 BK2.out 0).trans rfl;have hcz1 : w2.cell? ⟨gb,1,none⟩ = some (.int .i64 a0_1):=(Z5 BK2.out 1).trans rfl;have hcz2 : w2.cell? ⟨gb,2,none⟩ = some (.int .i64 a0_2):=(Z5 BK2.out 2).trans rfl;have hcz3 : w2.cell? ⟨gb,3,none⟩ = some (.int .i64 a0_3):=(Z5 BK2.out 3).trans rfl;have hcz4 : w2.cell? ⟨gb,4,none⟩ = some (.slice A0_4 0 c0_4):=(Z5 BK2.out 4).trans rfl)
    | ((with_reducible refine Z52 (N:=24) rfl ?_);(try (refine Z66 (by rfl) ?_;dsimp only));refine Kd.R_make (Kd.int .i64) _ 3 rfl (N:=24) rfl 26 _ _ rfl (0 : Int) rfl rfl Try.underlying26 (.int .i64 0) 8 info3 rfl (by decide) (by omega) 0 (ok:=fun _ => True) (okp:=fun _ => True) rfl (fun _ hk => hk) trivial (by decide) (by decide) (Below.refl _ _) (Nat.le_refl _) ?_;intro vv w3 ho hb hg_ hnew_;clear hg_ hnew_;simp only [Int.toNat_zero,List.replicate_zero] at ho;obtain ⟨A5,c5,rfl⟩:=Kd.R_slice ho;have HB3:=Ad.mk (Z25 HB2.out hb);clear ho hb)
    | ((with_reducible refine Z52 (N:=5) rfl ?_);(try (refine Z66 (by rfl) ?_;dsimp only));refine Z51 ?hg (N:=5) ?hd (cs:=#[.slice none 0 0]) (t:=26) ?hr ?_;(case hd => rfl);(case hg => rfl);(case hr => first|(go_simp;done)|(go_simp;rfl));intro b5 hg w4 hbox hb;have HB4:=Ad.mk (Z25 HB3.out hb);have BXb5:=Ad.mk hbox;have EQb5:=Ad.mk hg;have hcxb5 : w4.cell? ⟨b5,0,none⟩ = some (.slice none 0 0):=(Z5 BXb5.out 0).trans rfl;have hfxb5:=Z2 BXb5.out 0;clear hb hbox hg)
    | ((with_reducible refine gate_store (t:=26) (p:=5) rfl ?_);refine store_event (t:=26) (p:=5) (v:=?vz5_) (w1:=(w4.setCell ⟨b5,0,none⟩ (.slice A5 0 c5))) ?hg ?ho ?hn ?hr ?_;(case ho => rfl);(case hg => rfl);(case hn => rfl);(case hr => first|(go_simp;done)|(go_simp;rfl));intro w5 hw;have HB5 : Ad (Below w.heap.size w w5):=⟨by rw [hw];exact Z8 HB4.out (by have h1_:=Z27 HB3.out;have h2_:=EQb5.out;omega)⟩;clear hw hcxb5 hfxb5)
    | ((with_reducible refine Z52 (N:=26) rfl ?_);(try (refine Z66 (by rfl) ?_;dsimp only));refine Kd.R_make (Kd.int .i64) _ 3 rfl (N:=26) rfl 26 _ _ rfl (0 : Int) rfl rfl Try.underlying26 (.int .i64 0) 8 info3 rfl (by decide) (by omega) 0 (ok:=fun _ => True) (okp:=fun _ => True) rfl (fun _ hk => hk) trivial (by decide) (by decide) (Below.refl _ _) (Nat.le_refl _) ?_;intro vv w6 ho hb hg_ hnew_;clear hg_ hnew_;simp only [Int.toNat_zero,List.replicate_zero] at ho;obtain ⟨A6,c6,rfl⟩:=Kd.R_slice ho;have HB6:=Ad.mk (Z25 HB5.out hb);have HR6:=Ad.mk (Kd.R_lower ho (Z27 HB5.out));clear ho hb)
    | ((with_reducible refine Z52 (N:=6) rfl ?_);(try (refine Z66 (by rfl) ?_;dsimp only));refine Z51 ?hg (N:=6) ?hd (cs:=#[.slice none 0 0]) (t:=26) ?hr ?_;(case hd => rfl);(case hg => rfl);(case hr => first|(go_simp;done)|(go_simp;rfl));intro b6 hg w7 hbox hb;have HB7:=Ad.mk (Z25 HB6.out hb);have BXb6:=Ad.mk hbox;have EQb6:=Ad.mk hg;have hcxb6 : w7.cell? ⟨b6,0,none⟩ = some (.slice none 0 0):=(Z5 BXb6.out 0).trans rfl;have hfxb6:=Z2 BXb6.out 0;have BB6:=Ad.mk hb;clear hb hbox hg)
    | ((with_reducible refine gate_store (t:=26) (p:=6) rfl ?_);refine store_event (t:=26) (p:=6) (v:=?vz6_) (w1:=(w7.setCell ⟨b6,0,none⟩ (.slice A6 0 c6))) ?hg ?ho ?hn ?hr ?_;(case ho => rfl);(case hg => rfl);(case hn => rfl);(case hr => first|(go_simp;done)|(go_simp;rfl));intro w8 hw;have HB8 : Ad (Below w.heap.size w w8):=⟨by rw [hw];exact Z8 HB7.out (by have h1_:=Z27 HB6.out;have h2_:=EQb6.out;omega)⟩;have HR8 : Ad (Kd.R (Kd.int .i64) 3 w8 w.heap.size (fun _ => True) (.slice A6 0 c6) []):=⟨by rw [hw];exact Kd.R_below HR6.out (BB6.out.setCell (p:=⟨b6,0,none⟩) (by rw [EQb6.out];exact Nat.le_refl _) _)⟩;have hk6 : w8.cell? ⟨b6,0,none⟩ = some (.slice A6 0 c6):=(by rw [hw];exact (Z5 (Z9 BXb6.out 0 _ rfl) 0).trans rfl);clear hw hcxb6 hfxb6)
    | fail)
   go_loopg [28] 1 (fun kq v28 w' => v28 = .int .i64 0 ∧ w' = w8)
   case atStart => exact ⟨rfl,rfl⟩
   case round =>
    obtain ⟨rfl,rfl⟩:=hrel;go_wp2
    go_loopg [40] 1 (fun kq v40 w' => v40 = .int .i64 0 ∧ w' = wr)
    case atStart => exact ⟨rfl,rfl⟩
    case round =>
     obtain ⟨rfl,rfl⟩:=hrel;go_wp2
     refine ⟨.slice A6 0 c6,?_,⟨_,rfl,HR8.out,HB8.out⟩⟩;exact results_tmp (t:=2) rfl _ _ _
 have HP0:=Ad.mk (show 0 < l0_4.length by omega);have h:=HH.out;rw [if_neg hn0] at h;have hpl : post.length ≠ 0:=by
  intro c;rw [if_pos c] at h;cases h
 rw [if_neg hpl] at h;obtain ⟨preds,hpreds,h⟩:=Option.bind_eq_some_iff.mp h;have hpn : preds.length = l0_4.length:=by
  by_cases c : preds.length = l0_4.length
  · exact c
  · rw [if_neg c] at h;cases h
 rw [if_pos hpn] at h;obtain ⟨domF,hturn,h⟩:=Option.bind_eq_some_iff.mp h;obtain rfl:=Option.some.inj h;have HPP:=Ad.mk (show 0 < post.length by omega);have HPR:=Ad.mk hpreds;have HPN:=Ad.mk hpn;have HTU:=Ad.mk hturn;clear HH h hn0 hpl hpreds hpn hturn;go_wp2_with (first
  | ((with_reducible refine Z52 (N:=1) rfl ?_);(try (refine Z66 (by rfl) ?_;dsimp only));refine Z51 ?hg (N:=1) ?hd (cs:=#[.string a0_0,.int .i64 a0_1,.int .i64 a0_2,.int .i64 a0_3,.slice A0_4 l0_4.length c0_4]) (t:=24) ?hr ?_;(case hd => rfl);(case hg => rfl);(case hr => first|(go_simp;done)|(go_simp;rfl));intro gb hg w1 hbox hb;have HB1:=Ad.mk (Z25 HB.out hb);have BK:=Ad.mk hbox;have GB:=Ad.mk (show w.heap.size ≤ gb by rw [hg];exact Z27 HB.out);have hcz0 : w1.cell? ⟨gb,0,none⟩ = some (.string a0_0):=(Z5 BK.out 0).trans rfl;have hcz1 : w1.cell? ⟨gb,1,none⟩ = some (.int .i64 a0_1):=(Z5 BK.out 1).trans rfl;have hcz2 : w1.cell? ⟨gb,2,none⟩ = some (.int .i64 a0_2):=(Z5 BK.out 2).trans rfl;have hcz3 : w1.cell? ⟨gb,3,none⟩ = some (.int .i64 a0_3):=(Z5 BK.out 3).trans rfl;have hcz4 : w1.cell? ⟨gb,4,none⟩ = some (.slice A0_4 l0_4.length c0_4):=(Z5 BK.out 4).trans rfl;clear hb hbox hg HB)
  | ((with_reducible refine Z14 (f:=10) rfl ?_);refine goesL_ (some 19) rfl rfl Try.func10 (by kernel_rfl) rfl #[.agg #[.string a0_0,.int .i64 a0_1,.int .i64 a0_2,.int .i64 a0_3,.slice A0_4 l0_4.length c0_4]] rfl (by (try simp only [List.map_toArray,List.map_cons,List.map_nil]);first|done|rfl) ?_;(with_reducible refine (fD.calls k a0_0 a0_1 a0_2 a0_3 _ _ l0_4 post _ ?side1 ?side2 HPO.out).mono ?_);(case side1 => exact Kd.C_below HR.out HB1.out);(case side2 => exact HC.out);rintro e w2 ⟨vpost,rfl,ho,hb⟩;refine ⟨_,rfl,?_⟩;obtain ⟨gp,cp,rfl,hr3,xp,yp⟩:=RowI.of (Kd.R_lower ho (Z27 HB1.out)) HPP.out;have XP:=Ad.mk yp;have HO3:=Ad.mk hr3;have BK2:=Ad.mk (Z40 BK.out hb);have HB2:=Ad.mk (Z25 HB1.out hb);clear ho hb hcz0 hcz1 hcz2 hcz3 hcz4 HB1 hr3 xp yp BK;have hcz0 : w2.cell? ⟨gb,0,none⟩ = some (.string a0_0):=(Z5 BK2.out 0).trans rfl;have hcz1 : w2.cell? ⟨gb,1,none⟩ = some (.int .i64 a0_1):=(Z5 BK2.out 1).trans rfl;have hcz2 : w2.cell? ⟨gb,2,none⟩ = some (.int .i64 a0_2):=(Z5 BK2.out 2).trans rfl;have hcz3 : w2.cell? ⟨gb,3,none⟩ = some (.int .i64 a0_3):=(Z5 BK2.out 3).trans rfl;have hcz4 : w2.cell? ⟨gb,4,none⟩ = some (.slice A0_4 l0_4.length c0_4):=(Z5 BK2.out 4).trans rfl)
  | ((with_reducible refine Z52 (N:=24) rfl ?_);(try (refine Z66 (by rfl) ?_;dsimp only));refine Kd.R_make (Kd.int .i64) _ 3 rfl (N:=24) rfl 26 _ _ rfl (l0_4.length : Int) rfl rfl Try.underlying26 (.int .i64 0) 8 info3 rfl (by decide) (by omega) 0 (ok:=fun _ => True) (okp:=fun _ => True) rfl (fun _ hk => hk) trivial HN0.out HNB.out (Below.refl _ _) (Nat.le_refl _) ?_;intro vv w3 ho hb hg_ hnew_;clear hg_ hnew_;simp only [Int.toNat_natCast] at ho;obtain ⟨g5,c5,rfl,hr_,x_,y_⟩:=RowI.of' ho (List.length_replicate ..) HP0.out;have Xg5:=Ad.mk x_;have Yg5:=Ad.mk y_;have HR5:=Ad.mk (Kd.R_lower hr_ (Z27 HB2.out));have HO4:=Ad.mk (Kd.R_below HO3.out hb);have BK3:=Ad.mk (Z40 BK2.out hb);have HB3:=Ad.mk (Z25 HB2.out hb);clear ho hb hr_ x_ y_)
  | ((with_reducible refine Z52 (N:=5) rfl ?_);(try (refine Z66 (by rfl) ?_;dsimp only));refine Z51 ?hg (N:=5) ?hd (cs:=#[.slice none 0 0]) (t:=26) ?hr ?_;(case hd => rfl);(case hg => rfl);(case hr => first|(go_simp;done)|(go_simp;rfl));intro b5 hg w4 hbox hb;have HR5b:=Ad.mk (Kd.R_below HR5.out hb);have HO5:=Ad.mk (Kd.R_below HO4.out hb);have BK4:=Ad.mk (Z40 BK3.out hb);have HB4:=Ad.mk (Z25 HB3.out hb);have BXb5:=Ad.mk hbox;have EQb5:=Ad.mk hg;have hcxb5 : w4.cell? ⟨b5,0,none⟩ = some (.slice none 0 0):=(Z5 BXb5.out 0).trans rfl;have hfxb5:=Z2 BXb5.out 0;clear hb hbox hg)
  | ((with_reducible refine gate_store (t:=26) (p:=5) rfl ?_);refine store_event (t:=26) (p:=5) (v:=?vo5_) (w1:=(w4.setCell ⟨b5,0,none⟩ (.slice (some ⟨g5,0,none⟩) l0_4.length c5))) ?hg ?ho ?hn ?hr ?_;(case ho => rfl);(case hg => rfl);(case hn => rfl);(case hr => first|(go_simp;done)|(go_simp;rfl));intro w5 hw;have ne_ : g5 ≠ b5:=(by have h1_:=Yg5.out;have h2_:=EQb5.out;omega);have nf_ : gb ≠ b5:=(by have h1_:=blk_lt BK3.out;have h2_:=EQb5.out;omega);have np_ : gp ≠ b5:=(by have h1_:=Kd.R_lt HO4.out gp rfl;have h2_:=EQb5.out;omega);have HR5c : Ad (RowI w5 w.heap.size g5 l0_4.length c5 (List.replicate l0_4.length 0)):=⟨by rw [hw];exact RowI.move HR5b.out (Below.heap_setCell _ _ _ _ ne_)⟩;have HO6 : Ad (RowI w5 w.heap.size gp post.length cp post):=⟨by rw [hw];exact RowI.move HO5.out (Below.heap_setCell _ _ _ _ np_)⟩;have q_:=Z22 BK4.out (p:=⟨b5,0,none⟩) nf_ (.slice (some ⟨g5,0,none⟩) l0_4.length c5);rw [← hw] at q_;have BK5:=Ad.mk q_;clear q_;have HB5 : Ad (Below w.heap.size w w5):=⟨by rw [hw];exact Z8 HB4.out (by have h1_:=Z27 HB3.out;have h2_:=EQb5.out;omega)⟩;have K5 : Ad (w5.heap[b5]? = some (.cells #[.slice (some ⟨g5,0,none⟩) l0_4.length c5] 26 (0,0))):=⟨by rw [hw];exact Z9 BXb5.out 0 _ rfl⟩;have XB5 : Ad (w.heap.size ≤ b5):=⟨by have h1_:=Z27 HB3.out;have h2_:=EQb5.out;omega⟩;have N5:=Ad.mk ne_;have NF5:=Ad.mk nf_;have NP5:=Ad.mk np_;clear ne_ nf_ np_ HB4 BK4 HO5 HR5b hcxb5 hfxb5;clear hw)
  | ((with_reducible refine Z52 (N:=26) rfl ?_);(try (refine Z66 (by rfl) ?_;dsimp only));refine Kd.R_make (Kd.int .i64) _ 3 rfl (N:=26) rfl 26 _ _ rfl (l0_4.length : Int) rfl rfl Try.underlying26 (.int .i64 0) 8 info3 rfl (by decide) (by omega) 0 (ok:=fun _ => True) (okp:=fun _ => True) rfl (fun _ hk => hk) trivial HN0.out HNB.out (Below.refl _ _) (Nat.le_refl _) ?_;intro vv w6 ho hb hg_ hnew_;clear hg_ hnew_;simp only [Int.toNat_natCast] at ho;obtain ⟨g6,c6,rfl,hr_,x_,y_⟩:=RowI.of' ho (List.length_replicate ..) HP0.out;have Xg6:=Ad.mk x_;have Yg6:=Ad.mk y_;have HR6:=Ad.mk (Kd.R_lower hr_ (Z27 HB5.out));have HO7:=Ad.mk (Kd.R_below HO6.out hb);have BK6:=Ad.mk (Z40 BK5.out hb);have HB6:=Ad.mk (Z25 HB5.out hb);have HR5d:=Ad.mk (Kd.R_below HR5c.out hb);have K5b:=Ad.mk (Z40 K5.out hb);clear ho hb hr_ x_ y_)
  | ((with_reducible refine Z52 (N:=6) rfl ?_);(try (refine Z66 (by rfl) ?_;dsimp only));refine Z51 ?hg (N:=6) ?hd (cs:=#[.slice none 0 0]) (t:=26) ?hr ?_;(case hd => rfl);(case hg => rfl);(case hr => first|(go_simp;done)|(go_simp;rfl));intro b6 hg w7 hbox hb;have HR6b:=Ad.mk (Kd.R_below HR6.out hb);have HO8:=Ad.mk (Kd.R_below HO7.out hb);have BK7:=Ad.mk (Z40 BK6.out hb);have HB7:=Ad.mk (Z25 HB6.out hb);have BXb6:=Ad.mk hbox;have EQb6:=Ad.mk hg;have hcxb6 : w7.cell? ⟨b6,0,none⟩ = some (.slice none 0 0):=(Z5 BXb6.out 0).trans rfl;have hfxb6:=Z2 BXb6.out 0;have HR5e:=Ad.mk (Kd.R_below HR5d.out hb);have K5c:=Ad.mk (Z40 K5b.out hb);clear hb hbox hg)
  | ((with_reducible refine gate_store (t:=26) (p:=6) rfl ?_);refine store_event (t:=26) (p:=6) (v:=?vo6_) (w1:=(w7.setCell ⟨b6,0,none⟩ (.slice (some ⟨g6,0,none⟩) l0_4.length c6))) ?hg ?ho ?hn ?hr ?_;(case ho => rfl);(case hg => rfl);(case hn => rfl);(case hr => first|(go_simp;done)|(go_simp;rfl));intro w8 hw;have ne_ : g6 ≠ b6:=(by have h1_:=Yg6.out;have h2_:=EQb6.out;omega);have nf_ : gb ≠ b6:=(by have h1_:=blk_lt BK6.out;have h2_:=EQb6.out;omega);have np_ : gp ≠ b6:=(by have h1_:=Kd.R_lt HO7.out gp rfl;have h2_:=EQb6.out;omega);have ng_ : g5 ≠ b6:=(by have h1_:=Kd.R_lt HR5d.out g5 rfl;have h2_:=EQb6.out;omega);have nb_ : b5 ≠ b6:=(by have h1_:=blk_lt K5b.out;have h2_:=EQb6.out;omega);have XB6 : w.heap.size ≤ b6:=(by have h1_:=Z27 HB6.out;have h2_:=EQb6.out;omega);have HD : Ad (DS w #[.string a0_0,.int .i64 a0_1,.int .i64 a0_2,.int .i64 a0_3,.slice A0_4 l0_4.length c0_4] gb gp cp b5 g5 c5 b6 g6 c6 l0_4.length post (List.replicate l0_4.length 0) (List.replicate l0_4.length 0) w8):=⟨by rw [hw];exact ⟨Z8 HB7.out XB6,Z22 BK7.out nf_ _,RowI.move HO8.out (Below.heap_setCell _ _ _ _ np_),Z22 K5c.out nb_ _,RowI.move HR5e.out (Below.heap_setCell _ _ _ _ ng_),Z9 BXb6.out 0 _ rfl,RowI.move HR6b.out (Below.heap_setCell _ _ _ _ ne_),by have h1_:=Xg6.out;have h2_:=Kd.R_lt HR5c.out g5 rfl;omega,by have h1_:=Xg5.out;have h2_:=XP.out;omega,by have h1_:=Xg6.out;have h2_:=Kd.R_lt HO6.out gp rfl;omega,XB5.out,XB6,⟨N5.out,ng_,by have h1_:=Xg5.out;have h2_:=blk_lt BK2.out;omega⟩,⟨by have h1_:=Xg6.out;have h2_:=blk_lt K5.out;omega,ne_,by have h1_:=Xg6.out;have h2_:=blk_lt BK5.out;omega⟩⟩⟩;clear ne_ nf_ np_ ng_ nb_ XB6 HB7 BK7 HO8 HR5e K5c HR6b BXb6 hcxb6 hfxb6 HB2 HB3 HB5 HB6 BK2 BK3 BK5 BK6 HO3 HO4 HO6 HO7 HR5 HR5c HR5d HR6 K5 K5b Xg5 Yg5 Xg6 Yg6 XB5 N5 NF5 NP5 EQb5 EQb6 BXb5 XP;clear hw)
  | fail)
 obtain ⟨F,hF⟩ : ∃ F : Array Value,#[.string a0_0,.int .i64 a0_1,.int .i64 a0_2,.int .i64 a0_3,.slice A0_4 l0_4.length c0_4] = F:=⟨_,rfl⟩
 rw [hF] at HD;have HF:=Ad.mk hF;clear hF;rw [← initRow_zero] at HD;go_loopg [28] l0_4.length (fun kq v28 w' => ∃ i : Nat,v28 = .int .i64 i ∧ Ad (i + kq = l0_4.length) ∧ Ad (DS w F gb gp cp b5 g5 c5 b6 g6 c6 l0_4.length post (initRow l0_4.length i) (initRow l0_4.length i) w'))
 case atStart => exact ⟨0,rfl,⟨by omega⟩,HD⟩
 case round =>
  clear HD;obtain ⟨i,rfl,HI,HD⟩:=hrel;by_cases hlt : i < l0_4.length
  · have d1 : decide ((i : Int) < (l0_4.length : Int)) = true:=decide_eq_true (by omega);have p1 : (0 : Int) ≤ (i : Int):=by omega
    have q1 : (i : Int) < (l0_4.length : Int):=by omega
    have hk5:=HD.out.c5';have hk6:=HD.out.c6';have hx5:=RowI.at HD.out.i5 i p1 q1;have hf5:=RowI.fr HD.out.i5 i p1 q1;have hx6:=RowI.at HD.out.i6 i p1 q1;have hf6:=RowI.fr HD.out.i6 i p1 q1;simp only [Int.toNat_natCast] at hx5 hf5 hx6 hf6;have e1:=decide_eq_true p1;have n56:=HD.out.n56;have n65:=Ne.symm n56;have y5:=HD.out.y5;have y6:=HD.out.y6;have n1:=y5.1;have n2:=y5.2.1;have n3:=y6.1;have n4:=y6.2.1;have n1' := Ne.symm n1;have n2' := Ne.symm n2;have n3' := Ne.symm n3;have n4' := Ne.symm n4;go_wp2
    go_region
    have HD2:=Ad.mk (((HD.out.set5 (i : Int) (-1)).set6 (i : Int) (-1)).drew);simp only [Int.toNat_natCast] at HD2;rw [initRow_set hlt] at HD2;have w3 : wrap64 ((i : Int) + 1) = (i : Int) + 1:=by have h1_:=HN1.out;unfold wrap64;omega
    have w4 : IntKind.i64.wrap ((i : Int) + 1) = (i : Int) + 1:=(i64_w _).trans w3;go_wp2
    go_roundg (l0_4.length - (i + 1))
    case measure => have h1_:=HI.out;omega
    case rel => exact ⟨i + 1,by (try simp only [w4,w3]);rfl,⟨by omega⟩,HD2⟩
  · have d1 : decide ((i : Int) < (l0_4.length : Int)) = false:=decide_eq_false (by omega);have ei : i = l0_4.length:=by have h1_:=HI.out;omega
    subst ei;rw [initRow_all] at HD;clear HI hlt;go_wp2
    go_loopg [40] post.length (fun kq v40 w' => ∃ (j : Nat) (pl : List Int),v40 = .int .i64 j ∧ Ad (j + kq = post.length) ∧ Ad (doms_place (post.drop j) j pl = some place) ∧ Ad (DS w F gb gp cp b5 g5 c5 b6 g6 c6 l0_4.length post pl (List.replicate l0_4.length (-1)) w'))
    case atStart => exact ⟨0,_,rfl,⟨by omega⟩,HPL,HD⟩
    case round =>
     clear HD HPL;obtain ⟨j,pl,rfl,HI,HPL,HD⟩:=hrel;by_cases hlt : j < post.length
     · have d2 : decide ((j : Int) < (post.length : Int)) = true:=decide_eq_true (by omega);obtain ⟨p1,q1,hq⟩:=place_in HPL.out hlt;have HPL2:=Ad.mk hq;clear hq;rw [← RowI.len HD.out.i5] at q1;have hk5:=HD.out.c5';have p2 : (0 : Int) ≤ (j : Int):=by omega
       have q2 : (j : Int) < (post.length : Int):=by omega
       have hxp:=RowI.at HD.out.ip j p2 q2;simp only [Int.toNat_natCast] at hxp;have hx5:=RowI.at HD.out.i5 _ p1 q1;have hf5:=RowI.fr HD.out.i5 _ p1 q1;have e1:=decide_eq_true p1;have e2:=decide_eq_true q1;have e3:=decide_eq_true p2;have w3 : wrap64 ((j : Int) + 1) = (j : Int) + 1:=by have h1_:=HN2.out;unfold wrap64;omega
       have w4 : IntKind.i64.wrap ((j : Int) + 1) = (j : Int) + 1:=(i64_w _).trans w3;have HD2:=Ad.mk (HD.out.set5 (rd post (j : Int)) (j : Int));replace p1:=eq_true p1;replace q1:=eq_true q1;go_wp2
       go_roundg (post.length - (j + 1))
       case measure => have h1_:=HI.out;omega
       case rel => exact ⟨j + 1,_,by (try simp only [w4,w3]);rfl,⟨by omega⟩,HPL2,HD2⟩
     · have d2 : decide ((j : Int) < (post.length : Int)) = false:=decide_eq_false (by omega);obtain rfl:=place_end HPL.out (by omega);have hnz : ¬ l0_4.length = 0:=by have h1_:=HP0.out;omega
       have hz : ((l0_4.length : Int) == 0) = false:=beq_eq_false_iff_ne.mpr (by omega);have hlt0 : (0 : Int) < (l0_4.length : Int):=by omega
       have hk6:=HD.out.c6';have hx6:=RowI.at HD.out.i6 0 (Int.le_refl _) hlt0;have hf6:=RowI.fr HD.out.i6 0 (Int.le_refl _) hlt0;have d0:=decide_eq_true hlt0;simp only [Int.toNat_zero] at hx6 hf6;clear HI HPL;go_wp2_with (first
        | ((with_reducible refine gate_store (t:=3) (p:=54) rfl ?_);refine store_event (t:=3) (p:=54) (v:=?vo54_) (w1:=(wr.setCell ⟨g6,0,none⟩ (.int .i64 0))) ?hg ?ho ?hn ?hr ?_;(case ho => rfl);(case hg => rfl);(case hn => rfl);(case hr => first|(go_simp;done)|(go_simp;rfl));intro w9 hw;have HD9 : Ad (DS w F gb gp cp b5 g5 c5 b6 g6 c6 l0_4.length post pl ((List.replicate l0_4.length (-1)).set 0 0) w9):=⟨by rw [hw];exact HD.out.set6 0 0⟩;have HD9x:=HD9;clear hw HD hk6 hx6 hf6)
        | ((with_reducible refine Z52 (N:=10) rfl ?_);(try (refine Z66 (by rfl) ?_;dsimp only));refine Z51 ?hg (N:=10) ?hd (cs:=#[.nilFunc]) (t:=52) ?hr ?_;(case hd => rfl);(case hg => rfl);(case hr => first|(go_simp;done)|(go_simp;rfl));intro b10 hg w10 hbox hb;have BXb10:=Ad.mk hbox;have EQb10:=Ad.mk hg;have hcxb10 : w10.cell? ⟨b10,0,none⟩ = some (.nilFunc):=(Z5 BXb10.out 0).trans rfl;have hfxb10:=Z2 BXb10.out 0;have BBb10:=Ad.mk hb;clear hb hbox hg)
        | ((with_reducible refine gate_store (t:=52) (p:=10) rfl ?_);refine store_event (t:=52) (p:=10) (v:=?vo10_) (w1:=(w10.setCell ⟨b10,0,none⟩ (.func (.func 27) #[] #[.pointer (some ⟨b5,0,none⟩),.pointer (some ⟨b6,0,none⟩)]))) ?hg ?ho ?hn ?hr ?_;(case ho => rfl);(case hg => rfl);(case hn => rfl);(case hr => first|(go_simp;done)|(go_simp;rfl));intro w11 hw;have Kb10 : Ad (w11.heap[b10]? = some (.cells #[.func (.func 27) #[] #[.pointer (some ⟨b5,0,none⟩),.pointer (some ⟨b6,0,none⟩)]] 52 (0,0))):=⟨by rw [hw];exact Z9 BXb10.out 0 _ rfl⟩;have HD11:=Ad.mk (HD9.out.below (show Below w9.heap.size w9 w11 from (by rw [hw];exact BBb10.out.setCell (p:=⟨b10,0,none⟩) (by rw [EQb10.out];exact Nat.le_refl _) _)));clear hcxb10 hfxb10 HD9;have hcz0 : w11.cell? ⟨gb,0,none⟩ = some (.string a0_0):=(Z5 HD11.out.fb 0).trans (by rw [← HF.out];rfl);have hcz1 : w11.cell? ⟨gb,1,none⟩ = some (.int .i64 a0_1):=(Z5 HD11.out.fb 1).trans (by rw [← HF.out];rfl);have hcz2 : w11.cell? ⟨gb,2,none⟩ = some (.int .i64 a0_2):=(Z5 HD11.out.fb 2).trans (by rw [← HF.out];rfl);have hcz3 : w11.cell? ⟨gb,3,none⟩ = some (.int .i64 a0_3):=(Z5 HD11.out.fb 3).trans (by rw [← HF.out];rfl);have hcz4 : w11.cell? ⟨gb,4,none⟩ = some (.slice A0_4 l0_4.length c0_4):=(Z5 HD11.out.fb 4).trans (by rw [← HF.out];rfl);clear hw)
        | ((with_reducible refine Z14 (f:=28) rfl ?_);refine goesL_ (some 57) rfl rfl Try.func28 (by kernel_rfl) rfl #[.agg #[.string a0_0,.int .i64 a0_1,.int .i64 a0_2,.int .i64 a0_3,.slice A0_4 l0_4.length c0_4]] rfl (by (try simp only [List.map_toArray,List.map_cons,List.map_nil]);first|done|rfl) ?_;(with_reducible refine (fQ.calls k a0_0 a0_1 a0_2 a0_3 _ _ l0_4 preds _ ?side1 ?side2 HPR.out).mono ?_);(case side1 => exact Kd.C_below HR.out HD11.out.hb);(case side2 => exact HC.out);rintro e w12 ⟨vP,rfl,ho,hb⟩;refine ⟨_,rfl,?_⟩;obtain ⟨gP,cP,rfl,xP,yP,_⟩:=Kd.S_form ho (by rw [HPN.out];exact HP0.out);have HRP:=Ad.mk (Kd.R_lower (Kd.R_mono (Kd.R_bound (Kd.S_R ho)) (ok' := fun k => w11.heap.size ≤ k ∧ k < w12.heap.size) (fun _ hk => ⟨hk.2.1,hk.2.2.1⟩)) (Z27 HD11.out.hb));have HD12:=Ad.mk (HD11.out.below hb);have K10b:=Ad.mk (Z40 Kb10.out hb);clear ho hb hcz0 hcz1 hcz2 hcz3 hcz4)
        | ((with_reducible refine Z52 (N:=11) rfl ?_);(try (refine Z66 (by rfl) ?_;dsimp only));refine Z51 ?hg (N:=11) ?hd (cs:=#[.slice none 0 0]) (t:=36) ?hr ?_;(case hd => rfl);(case hg => rfl);(case hr => first|(go_simp;done)|(go_simp;rfl));intro b11 hg w13 hbox hb;have BXb11:=Ad.mk hbox;have EQb11:=Ad.mk hg;have hcxb11 : w13.cell? ⟨b11,0,none⟩ = some (.slice none 0 0):=(Z5 BXb11.out 0).trans rfl;have hfxb11:=Z2 BXb11.out 0;have BBb11:=Ad.mk hb;clear hb hbox hg)
        | ((with_reducible refine gate_store (t:=36) (p:=11) rfl ?_);refine store_event (t:=36) (p:=11) (v:=?vo11_) (w1:=(w13.setCell ⟨b11,0,none⟩ (.slice (some ⟨gP,0,none⟩) preds.length cP))) ?hg ?ho ?hn ?hr ?_;(case ho => rfl);(case hg => rfl);(case hn => rfl);(case hr => first|(go_simp;done)|(go_simp;rfl));intro w14 hw;have Kb11 : Ad (w14.heap[b11]? = some (.cells #[.slice (some ⟨gP,0,none⟩) preds.length cP] 36 (0,0))):=⟨by rw [hw];exact Z9 BXb11.out 0 _ rfl⟩;have hbb:=(show Below w12.heap.size w12 w14 from (by rw [hw];exact BBb11.out.setCell (p:=⟨b11,0,none⟩) (by rw [EQb11.out];exact Nat.le_refl _) _));have HD14:=Ad.mk (HD12.out.below hbb);have HRP14:=Ad.mk (Kd.R_below HRP.out hbb);have K10c:=Ad.mk (Z40 K10b.out hbb);have Z14:=Ad.mk hbb.size;clear hbb hcxb11 hfxb11;clear hw)
        | ((with_reducible refine Z52 (N:=12) rfl ?_);(try (refine Z66 (by rfl) ?_;dsimp only));refine Z51 ?hg (N:=12) ?hd (cs:=#[.bool false]) (t:=4) ?hr ?_;(case hd => rfl);(case hg => rfl);(case hr => first|(go_simp;done)|(go_simp;rfl));intro b12 hg w15 hbox hb;have BXb12:=Ad.mk hbox;have EQb12:=Ad.mk hg;have hcxb12 : w15.cell? ⟨b12,0,none⟩ = some (.bool false):=(Z5 BXb12.out 0).trans rfl;have hfxb12:=Z2 BXb12.out 0;have BBb12:=Ad.mk hb;clear hb hbox hg)
        | ((with_reducible refine gate_store (t:=4) (p:=12) rfl ?_);refine store_event (t:=4) (p:=12) (v:=?vo12_) (w1:=(w15.setCell ⟨b12,0,none⟩ (.bool true))) ?hg ?ho ?hn ?hr ?_;(case ho => rfl);(case hg => rfl);(case hn => rfl);(case hr => first|(go_simp;done)|(go_simp;rfl));intro w16 hw;have Kb12 : Ad (w16.heap[b12]? = some (.cells #[.bool true] 4 (0,0))):=⟨by rw [hw];exact Z9 BXb12.out 0 _ rfl⟩;have hbb:=(show Below w14.heap.size w14 w16 from (by rw [hw];exact BBb12.out.setCell (p:=⟨b12,0,none⟩) (by rw [EQb12.out];exact Nat.le_refl _) _));have HD16:=Ad.mk (HD14.out.below hbb);have HRP16:=Ad.mk (Kd.R_below HRP14.out hbb);have K10d:=Ad.mk (Z40 K10c.out hbb);have K11d:=Ad.mk (Z40 Kb11.out hbb);have Z16:=Ad.mk hbb.size;clear hbb hcxb12 hfxb12;clear hw)
        | fail)
       have HDO : Ad (DO w F gb gp cp b5 g5 c5 b6 g6 c6 l0_4.length post pl ((List.replicate l0_4.length (-1)).set 0 0) b10 b11 gP cP w11.heap.size w12.heap.size w14.heap.size preds w16):=⟨by
        have f1:=blk_lt HD14.out.fb;have f2:=RowI.lt HD14.out.ip;have f3:=blk_lt HD14.out.k5;have f4:=RowI.lt HD14.out.i5;have f5:=blk_lt HD14.out.k6;have f6:=RowI.lt HD14.out.i6;have f7:=blk_lt K10c.out;have f8:=blk_lt Kb11.out;have f9:=RowI.lt HD11.out.i6;have f10:=HD14.out.hb.size;exact ⟨HD16.out,HRP16.out,K10d.out,K11d.out,⟨f10,Z14.out,f1,f2,f3,f4,f5,f6,f7,f8⟩,Z16.out,f9,by have:=EQb10.out;have:=RowI.lt HD9x.out.i6;omega,by have:=EQb11.out;have:=RowI.lt HD12.out.i6;omega⟩⟩
       have HN3 : Ad (w14.heap.size ≤ b12):=⟨by have:=EQb12.out;omega⟩
       obtain ⟨N1,hN1⟩ : ∃ N : Nat,w11.heap.size = N:=⟨_,rfl⟩
       obtain ⟨N2,hN2⟩ : ∃ N : Nat,w12.heap.size = N:=⟨_,rfl⟩
       obtain ⟨N3,hN3⟩ : ∃ N : Nat,w14.heap.size = N:=⟨_,rfl⟩
       rw [hN1,hN2,hN3] at HDO;rw [hN3] at HN3;clear hN1 hN2 hN3 HD16 HRP16 K10d K11d HD14 HRP14 K10c Kb11 HD12 K10b HRP HD11 Kb10 Z14 Z16 HD9x BXb10 EQb10 BBb10 BXb11 EQb11 BBb11 BXb12 EQb12 BBb12 hnz hz hlt0 d0 d2 d1 hlt hcz0 hcz1 hcz2 hcz3 hcz4 xP yP;refine wp_loop_ghost_k
        (fun kq a_ W => ∃ (b12 : Nat) (t : Bool) (dom : List Int) (Es : List Nat) (u2 u7 u8 u9 u13 u14 u15 u16 u17 u18 u19 u20 u21 u22 u23 u24 u25 u26 u27 u28 u29 u30 u31 u32 u33 u34 u35 u36 u37 u38 u39 u40 u41 u42 u43 u44 u45 u46 u47 u48 u49 u50 u51 u52 u53 u54 u55 u56 u57 u58 u59 u60 u61 u62 u63 u64 u65 u66 u67 u68 u69 u70 u71 u72 u73 u74 u75 u76 u77 u78 u79 u80 u81 u82 u83 u84 u85 u86 u87 u88 u89 u90 u91 u92 u93 u94 u95 u96 u97 u98 u99 u100 u101 u102 u103 u104 u105 u106 u107 : Value),(Ad (DO w F gb gp cp b5 g5 c5 b6 g6 c6 l0_4.length post pl dom b10 b11 gP cP N1 N2 N3 preds W) ∧ Ad (W.heap[b12]? = some (.cells #[.bool t] 4 (0,0))) ∧ Ad (N3 ≤ b12) ∧ Ad ((t = true → doms_turn pl preds k post.reverse kq dom = some domF) ∧ (t = false → dom = domF)) ∧ Ad (Es.Nodup ∧ ∀ E ∈ Es,N3 ≤ E ∧ W.heap[E]? = some (.deferred (some [])))) ∧ a_ = ⟨([.agg #[.string a0_0,.int .i64 a0_1,.int .i64 a0_2,.int .i64 a0_3,.slice A0_4 l0_4.length c0_4],.pointer (some ⟨gb,0,none⟩),u2,.slice (some ⟨gp,0,none⟩) post.length cp,.int .i64 (l0_4.length : Int),.pointer (some ⟨b5,0,none⟩),.pointer (some ⟨b6,0,none⟩),u7,u8,u9,.pointer (some ⟨b10,0,none⟩),.pointer (some ⟨b11,0,none⟩),.pointer (some ⟨b12,0,none⟩),u13,u14,u15,u16,u17,u18,u19,u20,u21,u22,u23,u24,u25,u26,u27,u28,u29,u30,u31,u32,u33,u34,u35,u36,u37,u38,u39,u40,u41,u42,u43,u44,u45,u46,u47,u48,u49,u50,u51,u52,u53,u54,u55,u56,u57,u58,u59,u60,u61,u62,u63,u64,u65,u66,u67,u68,u69,u70,u71,u72,u73,u74,u75,u76,u77,u78,u79,u80,u81,u82,u83,u84,u85,u86,u87,u88,u89,u90,u91,u92,u93,u94,u95,u96,u97,u98,u99,u100,u101,u102,u103,u104,u105,u106,u107]).toArray,Es.map mark⟩) k ?start ?round
       case start =>
        refine ⟨b12,true,(List.replicate l0_4.length (-1)).set 0 0,[],?_⟩;repeat apply Exists.intro
        refine ⟨?_,rfl⟩;exact ⟨HDO,Kb12,HN3,⟨⟨fun _ => HTU.out,fun h => by cases h⟩⟩,⟨⟨List.nodup_nil,fun E hE => by cases hE⟩⟩⟩
       case round =>
        clear HDO HN3 Kb12 HTU;intro gk a_ W hJ;obtain ⟨b12,t,dom,Es,hJ⟩:=hJ;obtain ⟨u2,hJ⟩:=hJ;obtain ⟨u7,hJ⟩:=hJ;obtain ⟨u8,hJ⟩:=hJ;obtain ⟨u9,hJ⟩:=hJ;obtain ⟨u13,hJ⟩:=hJ;obtain ⟨u14,hJ⟩:=hJ;obtain ⟨u15,hJ⟩:=hJ;obtain ⟨u16,hJ⟩:=hJ;obtain ⟨u17,hJ⟩:=hJ;obtain ⟨u18,hJ⟩:=hJ;obtain ⟨u19,hJ⟩:=hJ;obtain ⟨u20,hJ⟩:=hJ;obtain ⟨u21,hJ⟩:=hJ;obtain ⟨u22,hJ⟩:=hJ;obtain ⟨u23,hJ⟩:=hJ;obtain ⟨u24,hJ⟩:=hJ;obtain ⟨u25,hJ⟩:=hJ;obtain ⟨u26,hJ⟩:=hJ;obtain ⟨u27,hJ⟩:=hJ;obtain ⟨u28,hJ⟩:=hJ;obtain ⟨u29,hJ⟩:=hJ;obtain ⟨u30,hJ⟩:=hJ;obtain ⟨u31,hJ⟩:=hJ;obtain ⟨u32,hJ⟩:=hJ;obtain ⟨u33,hJ⟩:=hJ;obtain ⟨u34,hJ⟩:=hJ;obtain ⟨u35,hJ⟩:=hJ;obtain ⟨u36,hJ⟩:=hJ;obtain ⟨u37,hJ⟩:=hJ;obtain ⟨u38,hJ⟩:=hJ;obtain ⟨u39,hJ⟩:=hJ;obtain ⟨u40,hJ⟩:=hJ;obtain ⟨u41,hJ⟩:=hJ;obtain ⟨u42,hJ⟩:=hJ;obtain ⟨u43,hJ⟩:=hJ;obtain ⟨u44,hJ⟩:=hJ;obtain ⟨u45,hJ⟩:=hJ;obtain ⟨u46,hJ⟩:=hJ;obtain ⟨u47,hJ⟩:=hJ;obtain ⟨u48,hJ⟩:=hJ;obtain ⟨u49,hJ⟩:=hJ;obtain ⟨u50,hJ⟩:=hJ;obtain ⟨u51,hJ⟩:=hJ;obtain ⟨u52,hJ⟩:=hJ;obtain ⟨u53,hJ⟩:=hJ;obtain ⟨u54,hJ⟩:=hJ;obtain ⟨u55,hJ⟩:=hJ;obtain ⟨u56,hJ⟩:=hJ;obtain ⟨u57,hJ⟩:=hJ;obtain ⟨u58,hJ⟩:=hJ;obtain ⟨u59,hJ⟩:=hJ;obtain ⟨u60,hJ⟩:=hJ;obtain ⟨u61,hJ⟩:=hJ;obtain ⟨u62,hJ⟩:=hJ;obtain ⟨u63,hJ⟩:=hJ;obtain ⟨u64,hJ⟩:=hJ;obtain ⟨u65,hJ⟩:=hJ;obtain ⟨u66,hJ⟩:=hJ;obtain ⟨u67,hJ⟩:=hJ;obtain ⟨u68,hJ⟩:=hJ;obtain ⟨u69,hJ⟩:=hJ;obtain ⟨u70,hJ⟩:=hJ;obtain ⟨u71,hJ⟩:=hJ;obtain ⟨u72,hJ⟩:=hJ;obtain ⟨u73,hJ⟩:=hJ;obtain ⟨u74,hJ⟩:=hJ;obtain ⟨u75,hJ⟩:=hJ;obtain ⟨u76,hJ⟩:=hJ;obtain ⟨u77,hJ⟩:=hJ;obtain ⟨u78,hJ⟩:=hJ;obtain ⟨u79,hJ⟩:=hJ;obtain ⟨u80,hJ⟩:=hJ;obtain ⟨u81,hJ⟩:=hJ;obtain ⟨u82,hJ⟩:=hJ;obtain ⟨u83,hJ⟩:=hJ;obtain ⟨u84,hJ⟩:=hJ;obtain ⟨u85,hJ⟩:=hJ;obtain ⟨u86,hJ⟩:=hJ;obtain ⟨u87,hJ⟩:=hJ;obtain ⟨u88,hJ⟩:=hJ;obtain ⟨u89,hJ⟩:=hJ;obtain ⟨u90,hJ⟩:=hJ;obtain ⟨u91,hJ⟩:=hJ;obtain ⟨u92,hJ⟩:=hJ;obtain ⟨u93,hJ⟩:=hJ;obtain ⟨u94,hJ⟩:=hJ;obtain ⟨u95,hJ⟩:=hJ;obtain ⟨u96,hJ⟩:=hJ;obtain ⟨u97,hJ⟩:=hJ;obtain ⟨u98,hJ⟩:=hJ;obtain ⟨u99,hJ⟩:=hJ;obtain ⟨u100,hJ⟩:=hJ;obtain ⟨u101,hJ⟩:=hJ;obtain ⟨u102,hJ⟩:=hJ;obtain ⟨u103,hJ⟩:=hJ;obtain ⟨u104,hJ⟩:=hJ;obtain ⟨u105,hJ⟩:=hJ;obtain ⟨u106,hJ⟩:=hJ;obtain ⟨u107,hJ⟩:=hJ;obtain ⟨⟨HDO,K12,HN3,HT,HE⟩,ha⟩:=hJ;subst ha;intro _ _ _ _;have hc12 : W.cell? ⟨b12,0,none⟩ = some (.bool t):=(Z5 K12.out 0).trans rfl;have hf12:=Z2 K12.out 0;cases t with
        | false =>
         obtain rfl:=HT.out.2 rfl;have hlt0 : (0 : Int) < (l0_4.length : Int):=by have h1_:=HP0.out;omega
         have hk6:=HDO.out.ds.c6';have hx6:=RowI.at HDO.out.ds.i6 0 (Int.le_refl _) hlt0;have hf6:=RowI.fr HDO.out.ds.i6 0 (Int.le_refl _) hlt0;have d0:=decide_eq_true hlt0;simp only [Int.toNat_zero] at hx6 hf6;have hk6' : (W.setCell ⟨g6,0,none⟩ (.int .i64 (-1))).cell? ⟨b6,0,none⟩ = some (.slice (some ⟨g6,0,none⟩) l0_4.length c6):=(Z5 (HDO.out.ds.set6 0 (-1)).k6 0).trans rfl;go_wp2
         have hDO6:=HDO.out.set6 0 (-1);refine leaves_marks (fun W' => Kd.R (Kd.int .i64) 3 W' w.heap.size (fun _ => True) (.slice (some ⟨g6,0,none⟩) l0_4.length c6) (dom.set 0 (-1)) ∧ Below w.heap.size w W' ∧ N3 ≤ W'.heap.size) N3 ?_ ?_ Es _ HE.out.1 ?_ ⟨Kd.R_mono hDO6.ds.i6 (fun _ _ => trivial),hDO6.ds.hb,hDO6.hW⟩
         · rintro W' E ⟨h1,h2,h3⟩ hE hlt;have hg:=grownBy_putObj' W' E (.deferred none);have h6:=HDO.out.hN.2.2.2.2.2.2.2.1;have h0:=HDO.out.hN.1;exact ⟨Kd.R_flat (fun h => h) (RowI.move (Kd.R_flat (ok' := fun k => k = g6) (fun h => h) h1 (fun k hk _ => by simpa [Value.ownBlock] using hk.symm)) (hg.block g6 (by omega) (fun e => by cases e;omega))) (fun _ _ _ => trivial),h2.grown hg (by omega) (fun r e => by cases e;omega),Nat.le_trans h3 hg.size⟩
         · rintro W' ⟨h1,h2,_⟩;refine ⟨.slice (some ⟨g6,0,none⟩) l0_4.length c6,?_,⟨_,rfl,h1,h2⟩⟩;dsimp only;exact results_tmp (t:=2) rfl _ _ _
         · intro E hE;have h1:=HE.out.2 E hE;have h6:=HDO.out.hN.2.2.2.2.2.2.2.1;exact ⟨h1.1,(Below.heap_setCell _ _ _ _ (show E ≠ g6 by omega)).trans h1.2⟩
        | true =>
         have htu:=HT.out.1 rfl;cases gk with
         | zero => exact absurd htu (by simp [doms_turn])
         | succ kq =>
          rw [doms_turn] at htu;obtain ⟨⟨dF,tF⟩,hs,hq⟩:=Option.bind_eq_some_iff.mp htu;have HS:=Ad.mk hs;have HQ:=Ad.mk hq;clear htu hs hq HT;go_wp2_with (first
           | ((with_reducible refine gate_store (t:=4) (p:=12) rfl ?_);refine store_event (t:=4) (p:=12) (v:=?vo22_) (w1:=(W.setCell ⟨b12,0,none⟩ (.bool false))) ?hg ?ho ?hn ?hr ?_;(case ho => rfl);(case hg => rfl);(case hn => rfl);(case hr => first|(go_simp;done)|(go_simp;rfl));intro W1 hw;have hgr:=grownBy_setCell' W b12 (.bool false);rw [← hw] at hgr;have HDO1:=Ad.mk (HDO.out.grown hgr (fun r e => by cases e;exact HN3.out));have K121 : Ad (W1.heap[b12]? = some (.cells #[.bool false] 4 (0,0))):=⟨by rw [hw];exact Z9 K12.out 0 _ rfl⟩;have HE1 : Ad (∀ E ∈ Es,N3 ≤ E ∧ W1.heap[E]? = some (.deferred (some []))):=⟨fun E hE => ⟨(HE.out.2 E hE).1,Z89 (HE.out.2 E hE).2 hgr (fun e => by cases e;have h1_:=(HE.out.2 _ hE).2;rw [K12.out] at h1_;cases h1_)⟩⟩;clear hgr hw hc12 hf12)
           | ((with_reducible refine Z14 (f:=29) rfl ?_);refine goesL_ (some 60) rfl rfl Try.func29 (by kernel_rfl) rfl #[.slice (some ⟨gp,0,none⟩) post.length cp] rfl (by (try simp only [List.map_toArray,List.map_cons,List.map_nil]);first|done|rfl) ?_;(with_reducible refine (back_calls (some ⟨gp,0,none⟩) post.length cp _).mono ?_);rintro e W2 ⟨rfl,hw⟩;refine ⟨_,rfl,?_⟩;have hbb : Below W1.heap.size W1 W2:=(by rw [hw];exact Z7 (Below.refl _ _) _);have HDO2:=Ad.mk (HDO1.out.below hbb);have K122:=Ad.mk (Z40 K121.out hbb);have HE2 : Ad (∀ E ∈ Es,N3 ≤ E ∧ W2.heap[E]? = some (.deferred (some []))):=⟨fun E hE => ⟨(HE1.out E hE).1,Z40 (HE1.out E hE).2 hbb⟩⟩;have KB : Ad (W2.heap[W1.heap.size]? = some (.cells #[.slice (some ⟨gp,0,none⟩) post.length cp] 26 (0,0))):=⟨by rw [hw];exact blk_new _ _⟩;clear hbb hw)
           | fail)
          have hN:=HDO1.out.hN;have hz1:=HDO1.out.hW;have hz2 : W1.heap.size < W2.heap.size:=blk_lt KB.out;have hb12:=blk_lt K121.out;obtain ⟨I,hII⟩ : ∃ I : Nat → World → Prop,∀ j W3,I j W3 ↔ (∃ (dom3 : List Int) (t3 : Bool),DO w F gb gp cp b5 g5 c5 b6 g6 c6 l0_4.length post pl dom3 b10 b11 gP cP N1 N2 N3 preds W3 ∧ W3.heap[b12]? = some (.cells #[.bool t3] 4 (0,0)) ∧ doms_pass pl preds k (post.reverse.drop j) dom3 t3 = some (dF,tF) ∧ (∀ E ∈ Es,N3 ≤ E ∧ W3.heap[E]? = some (.deferred (some []))) ∧ W2.heap.size ≤ W3.heap.size):=⟨_,fun _ _ => Iff.rfl⟩
          have HII:=Ad.mk hII;clear hII;refine wp_back rfl W1.heap.size gp post.length cp g6 b12 post rfl (by have:=HN2.out;omega) rfl hz2 (by omega) (by omega) (by omega) HDO1.out.ds.np6 (by have:=HN3.out;omega) ((Z5 KB.out 0).trans rfl) (fun i h1 h2 => RowI.at HDO2.out.ds.ip i h1 h2)
           I
           ?hI ((HII.out _ _).2 ⟨dom,false,HDO2.out,K122.out,HS.out,HE2.out,Nat.le_refl _⟩) ?hbody ?hdone
          case hI =>
           rintro j W3 W4 row hi hg hr;obtain ⟨dom3,t3,h1,h2,h3,h4,h5⟩:=(HII.out _ _).1 hi;have ne : ∀ q,q < W2.heap.size → some q ≠ row:=fun q hq e => by have:=hr q e.symm;omega
           refine (HII.out _ _).2 ⟨dom3,t3,h1.grown hg (fun r e => by have:=hr r e;omega),Z89 h2 hg (ne _ (by omega)),h3,fun E hE => ⟨(h4 E hE).1,Z89 (h4 E hE).2 hg (ne _ ?_)⟩,Nat.le_trans h5 hg.size⟩;exact blk_lt (HE2.out E hE).2
          case hbody =>
           rintro l j W3 hj hi;obtain ⟨dom3,t3,h1,h2,h3,h4,h5⟩:=(HII.out _ _).1 hi;clear hi;rw [rev_drop hj,doms_pass] at h3;obtain ⟨⟨dR,tR⟩,hrow,hrest⟩:=Option.bind_eq_some_iff.mp h3;clear h3;obtain ⟨bv,hbv⟩ : ∃ bv : Int,rd post ((post.length : Int) - 1 - j) = bv:=⟨_,rfl⟩
           rw [hbv] at hrow;rw [hbv];have HROW:=Ad.mk hrow;have HREST:=Ad.mk hrest;have HDO3:=Ad.mk h1;have K123:=Ad.mk h2;have HE3:=Ad.mk h4;have HZ5:=Ad.mk h5;clear hrow hrest h1 h2 h4 h5 hbv;simp only [List.setIfInBounds_toArray,List.set_cons_succ,List.set_cons_zero]
           gi_hideQ
           rename_i Q3 hQ3
           by_cases hb0 : bv = 0
           · subst hb0
             gi_wp2
             have h:=HROW.out;rw [doms_row,if_pos rfl] at h;obtain ⟨h2,h3⟩:=Prod.mk.inj (Option.some.inj h);subst h2;subst h3;exact ⟨KeepsFrom.refl _ _,Kp2.refl _ _ _ _,(HII.out _ _).2 ⟨dom3,t3,HDO3.out,K123.out,HREST.out,HE3.out,HZ5.out⟩⟩
           · have e1 : (bv == 0) = false:=beq_eq_false_iff_ne.mpr hb0;have hl5:=RowI.len HDO3.out.ds.i5;have hl6:=RowI.len HDO3.out.ds.i6;obtain ⟨p1,q1,hrl,best,hbest,hwhat⟩:=row_in HROW.out hb0;have HRL:=Ad.mk hrl;clear hrl;have HBEST:=Ad.mk hbest;have HWHAT:=Ad.mk hwhat;have HL5:=Ad.mk hl5;have HL6:=Ad.mk hl6;have q2 : bv < (preds.length : Int):=by rw [HPN.out,hl5];exact q1
             obtain ⟨ad,A0,c0,ee,hrow,hle,hC⟩:=at_L1 (Kd.R_reads' HDO3.out.rp).2.2 bv p1 q2;cases ee;simp only [add_plain] at hrow;have HCC:=Ad.mk hC;have hk11 : W3.cell? ⟨b11,0,none⟩ = some (.slice (some ⟨gP,0,none⟩) preds.length cP):=(Z5 HDO3.out.k11 0).trans rfl;have e2:=decide_eq_true p1;have e3:=decide_eq_true q2;replace p1:=eq_true p1;have Q1:=Ad.mk q1;replace q2:=eq_true q2;clear hl5 hl6 hbest hwhat hC hle q1
             gi_wp2
             gi_loopw [15,70] (fun v15 v70 wr => ∃ (i : Nat) (bs : Int),v15 = .int .i64 bs ∧ v70 = .int .i64 i ∧ Ad (i ≤ (rd_L1 preds bv).length) ∧ Ad (doms_best pl dom3 k ((rd_L1 preds bv).drop i) bs = some best) ∧ Drawn0 W3 wr)
              (fun _ v70 _ => (rd_L1 preds bv).length - (intOf v70).toNat)
             case atStart => exact ⟨0,-1,rfl,rfl,⟨Nat.zero_le _⟩,HBEST,Drawn0.refl _⟩
             case round =>
              obtain ⟨i,bs,rfl,rfl,HI,HBS,⟨m1,rfl⟩⟩:=hrel;by_cases hlt : i < (rd_L1 preds bv).length
              · have p2 : (0 : Int) ≤ (i : Int):=by omega
                have q3 : (i : Int) < ((rd_L1 preds bv).length : Int):=by omega
                obtain ⟨ad,ee,hxi⟩:=Kd.at_int HCC.out (i : Int) p2 q3;cases ee;simp only [Int.toNat_natCast] at hxi;obtain ⟨pv,hpv⟩ : ∃ pv : Int,rd (rd_L1 preds bv) (i : Int) = pv:=⟨_,rfl⟩
                obtain ⟨p4,q4,hs1,hs2,hs3⟩:=best_in hlt HBS.out;rw [hpv] at hxi p4 q4 hs1 hs2 hs3;have HS1:=Ad.mk hs1;have HS2:=Ad.mk hs2;have HS3:=Ad.mk hs3;have q5 : pv < (l0_4.length : Int):=by rw [HL5.out];exact q4
                have hx5:=RowI.at HDO3.out.ds.i5 pv p4 q5;have hx6:=RowI.at HDO3.out.ds.i6 pv p4 q5;have hk5:=HDO3.out.ds.c5';have hk6:=HDO3.out.ds.c6';have d1:=decide_eq_true p4;have d2:=decide_eq_true q5;have Q4:=Ad.mk q4;replace p4:=eq_true p4;replace q5:=eq_true q5;clear hs1 hs2 hs3 hpv q4;have w3 : wrap64 ((i : Int) + 1) = (i : Int) + 1:=by have h1_:=HRL.out;unfold wrap64;omega
                have w4 : IntKind.i64.wrap ((i : Int) + 1) = (i : Int) + 1:=(i64_w _).trans w3;by_cases cd : rd dom3 pv < 0
                · have g1:=decide_eq_true cd;have HN:=Ad.mk (HS1.out (.inl cd));clear cd HS1 HS2 HS3
                  gi_wp2
                  go_roundw
                  case rel => first|exact ⟨i + 1,bs,rfl,by (try simp only [w4,w3]);rfl,⟨Nat.succ_le_of_lt hlt⟩,HN,⟨m1,rfl⟩⟩|exact ⟨i + 1,by (try simp only [w4,w3]);rfl,⟨Nat.succ_le_of_lt hlt⟩,HN,⟨m1,rfl⟩⟩
                  case measure => exact meas_lt hlt
                · have g1:=decide_eq_false cd;by_cases cp : rd pl pv < 0
                  · have g2:=decide_eq_true cp;have HN:=Ad.mk (HS1.out (.inr cp));clear cd cp HS1 HS2 HS3
                    gi_wp2
                    go_roundw
                    case rel => first|exact ⟨i + 1,bs,rfl,by (try simp only [w4,w3]);rfl,⟨Nat.succ_le_of_lt hlt⟩,HN,⟨m1,rfl⟩⟩|exact ⟨i + 1,by (try simp only [w4,w3]);rfl,⟨Nat.succ_le_of_lt hlt⟩,HN,⟨m1,rfl⟩⟩
                    case measure => exact meas_lt hlt
                  · have g2:=decide_eq_false cp;have hno : ¬ (rd dom3 pv < 0 ∨ rd pl pv < 0):=fun h => h.elim cd cp
                    by_cases cb : bs < 0
                    · have g3:=decide_eq_true cb;have HN:=Ad.mk (HS2.out hno cb);clear cd cp cb hno HS1 HS2 HS3
                      gi_wp2
                      go_roundw
                      case rel => first|exact ⟨i + 1,pv,rfl,by (try simp only [w4,w3]);rfl,⟨Nat.succ_le_of_lt hlt⟩,HN,⟨m1,rfl⟩⟩|exact ⟨i + 1,by (try simp only [w4,w3]);rfl,⟨Nat.succ_le_of_lt hlt⟩,HN,⟨m1,rfl⟩⟩
                      case measure => exact meas_lt hlt
                    · have g3:=decide_eq_false cb;obtain ⟨mv,hmv,hnext⟩:=HS3.out hno cb;have HMV:=Ad.mk hmv;have HN:=Ad.mk hnext;have hk10 : W3.cell? ⟨b10,0,none⟩ = some (.func (.func 27) #[] #[.pointer (some ⟨b5,0,none⟩),.pointer (some ⟨b6,0,none⟩)]):=(Z5 HDO3.out.k10 0).trans rfl;clear cd cp cb hno hmv hnext HS1 HS2 HS3
                      gi_wp2
                      refine ⟨trivial,(CallsIn.inRound l (callsIn_wide.2 (doms_meet.calls k pl dom3 (by rw [← HL6.out,← HL5.out]) bs pv mv (W3.drewN m1) b5 b6 g5 g6 c5 c6 (by rw [← HL5.out];exact HDO3.out.ds.k5) (by rw [← HL5.out];exact HDO3.out.ds.k6) (by rw [← HL5.out];exact Kd.R_drewN HDO3.out.ds.i5 m1) (by rw [← HL5.out];exact Kd.R_drewN HDO3.out.ds.i6 m1) HMV.out))).mono ?_⟩;rintro e w' ⟨rfl,⟨nd,rfl⟩⟩;rw [World.drewN_drewN]
                      gi_wp2
                      go_roundw
                      case rel => exact ⟨i + 1,mv,rfl,by (try simp only [w4,w3]);rfl,⟨Nat.succ_le_of_lt hlt⟩,HN,⟨_,rfl⟩⟩
                      case measure => exact meas_lt hlt
              · obtain rfl : i = (rd_L1 preds bv).length:=by have h1_:=HI.out;omega
                have hbs:=HBS.out;rw [List.drop_of_length_le (Nat.le_refl _),doms_best] at hbs;obtain rfl:=Option.some.inj hbs;have q5 : bv < (l0_4.length : Int):=by rw [HL5.out];exact Q1.out
                have p6 : 0 ≤ bv:=of_eq_true p1;have hx6:=RowI.at HDO3.out.ds.i6 bv p6 q5;have hf6:=RowI.fr HDO3.out.ds.i6 bv p6 q5;have hk6:=HDO3.out.ds.c6';have d2:=decide_eq_true q5;replace q5:=eq_true q5;have hc12 : W3.cell? ⟨b12,0,none⟩ = some (.bool t3):=(Z5 K123.out 0).trans rfl;have hf12:=Z2 K123.out 0;have n6 : g6 ≠ b12:=by have h1_:=HN3.out;have h2_:=HDO3.out.hN.2.2.2.2.2.2.2.1;omega
                have n6' : b12 ≠ g6:=Ne.symm n6;have HG6:=Ad.mk (show g6 < W2.heap.size by have h2_:=HDO3.out.hN.2.2.2.2.2.2.2.1;omega);have HG12:=Ad.mk (show b12 < W2.heap.size by omega);clear HBS hbs HI p6;rcases HWHAT.out with ⟨ce,rfl,rfl⟩ | ⟨ce,rfl,rfl⟩
                · have g1 : (rd dR bv != bs) = false:=bne_eq_false_iff_eq.mpr ce;have hch : Ch g6 b12 W3 (W3.drewN m1):=(Ch.refl _ _ _).drewN m1;have HCH:=Ad.mk hch;clear ce hch
                  gi_wp2
                  exact ⟨HCH.out.keeps HG6.out HG12.out,HCH.out.kp,(HII.out _ _).2 ⟨_,_,HDO3.out.drewN m1,K123.out,HREST.out,HE3.out,HZ5.out⟩⟩
                · have g1 : (rd dom3 bv != bs) = true:=bne_iff_ne.mpr ce;clear ce
                  gi_wp2
                  have hch:=(((Ch.refl g6 b12 W3).drewN m1).setD bv.toNat (.int .i64 bs)).setT 0 (.bool true);refine ⟨hch.keeps HG6.out HG12.out,hch.kp,(HII.out _ _).2 ⟨_,_,((HDO3.out.drewN m1).set6 bv bs).grown (grownBy_setCell' _ b12 _) (fun r e => by cases e;exact HN3.out),Z9 (Z22 (p:=⟨g6,bv.toNat,none⟩) K123.out n6' _) 0 _ rfl,HREST.out,fun E hE => ⟨(HE3.out E hE).1,(hch.2 E ?_ ?_).trans (HE3.out E hE).2⟩,by rw [hch.1];exact HZ5.out⟩⟩
                  · have h1_:=(HE3.out E hE).1;have h2_:=HDO3.out.hN.2.2.2.2.2.2.2.1;omega
                  · intro e;have h1_:=(HE3.out E hE).2;rw [e,K123.out] at h1_;cases h1_
          case hdone =>
           rintro E W3 hE hi hEW;obtain ⟨dom3,t3,h1,h2,h3,h4,h5⟩:=(HII.out _ _).1 hi;clear hi;rw [List.drop_of_length_le (by simp),doms_pass] at h3;obtain ⟨h31,h32⟩:=Prod.mk.inj (Option.some.inj h3);subst h31;subst h32;have HDO3:=Ad.mk h1;have K123:=Ad.mk h2;have HE3:=Ad.mk h4;have HEW:=Ad.mk hEW;have HEE:=Ad.mk hE;have hc12 : W3.cell? ⟨b12,0,none⟩ = some (.bool t3):=(Z5 h2 0).trans rfl;clear h1 h2 h3 h4 hEW hE;go_wp2
           refine Handed.intro kq (Nat.lt_succ_self _) ?_;go_step
           refine ⟨W3.heap.size,t3,dom3,E :: Es,?_⟩;repeat apply Exists.intro
           refine ⟨?_,rfl⟩;have hq:=HQ.out;refine ⟨⟨HDO3.out.below (Z7 (Below.refl _ _) _)⟩,⟨blk_new _ _⟩,⟨HDO3.out.hW⟩,⟨⟨fun h => by rw [if_pos h] at hq;exact hq,fun h => by rw [if_neg (by rw [h];decide)] at hq;exact Option.some.inj hq⟩⟩,⟨⟨List.nodup_cons.2 ⟨fun hm => ?_,HE.out.1⟩,fun E' hm => ?_⟩⟩⟩
           · have h1:=blk_lt (HE2.out E hm).2;have h2:=HEE.out;omega
           · rcases List.mem_cons.1 hm with rfl|hm
             · exact ⟨by have h2:=HEE.out;have h3:=HDO2.out.hW;omega,Z1 HEW.out _⟩
             · exact ⟨(HE3.out E' hm).1,Z1 (HE3.out E' hm).2 _⟩
end Go.Proofs.Ytbklmnieakefnaa.Q
