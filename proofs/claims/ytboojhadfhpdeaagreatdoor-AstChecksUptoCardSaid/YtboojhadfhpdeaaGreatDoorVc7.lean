/- A part of the proof, made small by a program: Qx35, Qx36. -/
import Derived.Test.YtboojhadfhpdeaaGreatDoorVc2
import Derived.Test.YtboojhadfhpdeaaGreatDoorVc4
import Derived.Test.YtboojhadfhpdeaaGreatDoorVc5
namespace Go.Proofs.YtboojhadfhpdeaaGreatDoor.Q
open Go.RowKit Go.Proofs.YtboojhadfhpdeaaGreatDoorW.PrintWords Go.Proofs.YtboojhadfhpdeaaGreatDoorW.PrintLast Go.Proofs.YtboojhadfhpdeaaGreatDoorW.PrintMore
attribute [local go_sem] max2_int min2_int max_two min_two max_three min_three max_four min_four
set_option linter.unusedVariables false
set_option linter.unusedSimpArgs false
def ast_operator.l0 : Nat → ByteArray → List ByteArray → Int → Int → Option (Int)
 | 0,_,_,_,_ => none
 | k + 1,x0,x5,x6,x7 => if x7 < x6 then (if 0 ≤ x7 then (if x7 < (x5.length : Int) then ((ast_one.f (rdOf ByteArray.empty x5 x7) x0).bind fun t169 => (if t169 = true then (some (wrap64 (x7 + 2))) else (ast_operator.l0 k x0 x5 x6 (wrap64 (x7 + 1))))) else (none)) else (none)) else (some 0)
def ast_operator.f (k : Nat) (a0 : ByteArray) : Option (Int):=(some (([(⟨#[124,124]⟩ : ByteArray),(⟨#[38,38]⟩ : ByteArray),(⟨#[124]⟩ : ByteArray),(⟨#[94]⟩ : ByteArray),(⟨#[38]⟩ : ByteArray),(⟨#[61,61,32,33,61]⟩ : ByteArray),(⟨#[60,32,62,32,60,61,32,62,61]⟩ : ByteArray),(⟨#[60,60,32,62,62]⟩ : ByteArray),(⟨#[43,32,45]⟩ : ByteArray),(⟨#[42,32,47,32,37]⟩ : ByteArray)] : List ByteArray) : List ByteArray)).bind fun y165 => (ast_operator.l0 k a0 y165 (y165.length : Int) 0)
theorem ast_operator.mono_l : ∀ k,(∀ y0 y1 y2 y3,LeO (ast_operator.l0 k y0 y1 y2 y3) (ast_operator.l0 (k + 1) y0 y1 y2 y3))
 | 0 => fun _ _ _ _ r h => by simp [ast_operator.l0] at h
 | k + 1 => by
  have ih0:=ast_operator.mono_l k
  · intro y0 y1 y2 y3;unfold ast_operator.l0
    repeat' first
    | (with_reducible exact ih0 _ _ _ _)
    | (with_reducible exact LeO.refl _)
    | (with_reducible exact LeO.none _)
    | (with_reducible refine LeO.ite ?_ ?_)
    | (with_reducible refine LeO.bind ?_ (fun _ => ?_))
    | exact ih0 _ _ _ _
    | exact LeO.none _
    | refine LeO.ite ?_ ?_
    | refine LeO.bind ?_ (fun _ => ?_)
theorem ast_operator.mono : ∀ a0 k,LeO (ast_operator.f k a0) (ast_operator.f (k + 1) a0):=by
 intro a0 k;have ih0:=ast_operator.mono_l k;unfold ast_operator.f
 repeat' first
  | (with_reducible exact ih0 _ _ _ _)
  | (with_reducible exact LeO.refl _)
  | (with_reducible exact LeO.none _)
  | (with_reducible refine LeO.ite ?_ ?_)
  | (with_reducible refine LeO.bind ?_ (fun _ => ?_))
  | exact ih0 _ _ _ _
  | exact LeO.none _
  | refine LeO.ite ?_ ?_
  | refine LeO.bind ?_ (fun _ => ?_)
set_option maxHeartbeats 8000000 in
set_option maxRecDepth 100000 in
theorem ast_operator.calls (k : Nat) (a0 : ByteArray) (r : Int) (w : World) (hG : PremW w) (h : ast_operator.f k a0 = some r) :
 Calls Tryz.prog 114 #[.string a0] w fun e w' => e = .returned (.int .i64 r) ∧ Below w.heap.size w w' := by
 have HG:=Aside0.mk hG;clear hG;have HB:=Aside0.mk (Below.refl w.heap.size w);have H : ((some (([(⟨#[124,124]⟩ : ByteArray),(⟨#[38,38]⟩ : ByteArray),(⟨#[124]⟩ : ByteArray),(⟨#[94]⟩ : ByteArray),(⟨#[38]⟩ : ByteArray),(⟨#[61,61,32,33,61]⟩ : ByteArray),(⟨#[60,32,62,32,60,61,32,62,61]⟩ : ByteArray),(⟨#[60,60,32,62,62]⟩ : ByteArray),(⟨#[43,32,45]⟩ : ByteArray),(⟨#[42,32,47,32,37]⟩ : ByteArray)] : List ByteArray) : List ByteArray)).bind fun y165 => (ast_operator.l0 k a0 y165 (y165.length : Int) 0)) = some r:=h;clear h;obtain ⟨y165,hy165⟩ : ∃ y_ : List ByteArray,y_ = (([(⟨#[124,124]⟩ : ByteArray),(⟨#[38,38]⟩ : ByteArray),(⟨#[124]⟩ : ByteArray),(⟨#[94]⟩ : ByteArray),(⟨#[38]⟩ : ByteArray),(⟨#[61,61,32,33,61]⟩ : ByteArray),(⟨#[60,32,62,32,60,61,32,62,61]⟩ : ByteArray),(⟨#[60,60,32,62,62]⟩ : ByteArray),(⟨#[43,32,45]⟩ : ByteArray),(⟨#[42,32,47,32,37]⟩ : ByteArray)] : List ByteArray)):=⟨_,rfl⟩
 replace H : (ast_operator.l0 k a0 y165 (y165.length : Int) 0) = some r:=by first|(rw [hy165];with_reducible exact H)|(have H2_:=(Option.bind_some _ _).symm.trans H;rw [hy165];with_reducible exact H2_)|(have H2_:=(Option.bind_some _ _).symm.trans H;with_reducible exact H2_)|with_reducible exact H|(rw [hy165];exact H)|exact H
 have Ny165:=Aside0.mk hy165;clear hy165;have H' := Aside0.mk H;clear H;go_enter Tryz.func114,Tryz.ntmps114
 go_wp2_with (first|((with_reducible refine gate_dst (N:=5) rfl ?_);refine Kd.R_lit Kd.string _ 9 ?hg (N:=5) ?hd (xs:=([(⟨#[124,124]⟩ : ByteArray),(⟨#[38,38]⟩ : ByteArray),(⟨#[124]⟩ : ByteArray),(⟨#[94]⟩ : ByteArray),(⟨#[38]⟩ : ByteArray),(⟨#[61,61,32,33,61]⟩ : ByteArray),(⟨#[60,32,62,32,60,61,32,62,61]⟩ : ByteArray),(⟨#[60,60,32,62,62]⟩ : ByteArray),(⟨#[43,32,45]⟩ : ByteArray),(⟨#[42,32,47,32,37]⟩ : ByteArray)] : List ByteArray)) (inner:=[.string (⟨#[124,124]⟩ : ByteArray),.string (⟨#[38,38]⟩ : ByteArray),.string (⟨#[124]⟩ : ByteArray),.string (⟨#[94]⟩ : ByteArray),.string (⟨#[38]⟩ : ByteArray),.string (⟨#[61,61,32,33,61]⟩ : ByteArray),.string (⟨#[60,32,62,32,60,61,32,62,61]⟩ : ByteArray),.string (⟨#[60,60,32,62,62]⟩ : ByteArray),.string (⟨#[43,32,45]⟩ : ByteArray),.string (⟨#[42,32,47,32,37]⟩ : ByteArray)]) (ok:=fun _ => True) (okp:=fun _ => True) ?hr ?hp (fun _ hk => hk) trivial (Below.refl _ _) (Nat.le_refl _) (by simp) ?_;(case hd => rfl);(case hg => rfl);(case hr => first|(go_simp;done)|(go_simp;rfl));(case hp => exact (Reps.one (show Kd.M Kd.string _ _ _ (⟨#[124,124]⟩ : ByteArray) [.string (⟨#[124,124]⟩ : ByteArray)] from rfl) (Reps.one (show Kd.M Kd.string _ _ _ (⟨#[38,38]⟩ : ByteArray) [.string (⟨#[38,38]⟩ : ByteArray)] from rfl) (Reps.one (show Kd.M Kd.string _ _ _ (⟨#[124]⟩ : ByteArray) [.string (⟨#[124]⟩ : ByteArray)] from rfl) (Reps.one (show Kd.M Kd.string _ _ _ (⟨#[94]⟩ : ByteArray) [.string (⟨#[94]⟩ : ByteArray)] from rfl) (Reps.one (show Kd.M Kd.string _ _ _ (⟨#[38]⟩ : ByteArray) [.string (⟨#[38]⟩ : ByteArray)] from rfl) (Reps.one (show Kd.M Kd.string _ _ _ (⟨#[61,61,32,33,61]⟩ : ByteArray) [.string (⟨#[61,61,32,33,61]⟩ : ByteArray)] from rfl) (Reps.one (show Kd.M Kd.string _ _ _ (⟨#[60,32,62,32,60,61,32,62,61]⟩ : ByteArray) [.string (⟨#[60,32,62,32,60,61,32,62,61]⟩ : ByteArray)] from rfl) (Reps.one (show Kd.M Kd.string _ _ _ (⟨#[60,60,32,62,62]⟩ : ByteArray) [.string (⟨#[60,60,32,62,62]⟩ : ByteArray)] from rfl) (Reps.one (show Kd.M Kd.string _ _ _ (⟨#[43,32,45]⟩ : ByteArray) [.string (⟨#[43,32,45]⟩ : ByteArray)] from rfl) (Reps.one (show Kd.M Kd.string _ _ _ (⟨#[42,32,47,32,37]⟩ : ByteArray) [.string (⟨#[42,32,47,32,37]⟩ : ByteArray)] from rfl) (Reps.none _ _))))))))))));intro v166 w2 ho3 hb hg_ hnew_;clear hg_ hnew_;(first|rw [← Ny165.out] at ho3|(simp only [Int.reduceToNat] at ho3;rw [← Ny165.out] at ho3));have n0_:=Aside0.mk (Kd.R_lower ho3 (below_size (by repeat (first|(with_reducible first|exact HB.out|apply below_alloc|apply pw_below_drewN|apply below_drew1)|exact HB.out))));have n1_:=Aside0.mk (below_step (by repeat (first|(with_reducible first|exact HB.out|apply below_alloc|apply pw_below_drewN|apply below_drew1)|exact HB.out)) hb);clear HB;have HO167:=n0_;have HB:=n1_;clear n0_ n1_;clear hb ho3;obtain ⟨Ao4,co4,eo4⟩:=Kd.R_slice HO167.out;subst eo4))
 go_loopg [7] k (fun kq v7 w' => ∃ (x7_1 : Int),v7 = .int .i64 x7_1 ∧ Aside0 (ast_operator.l0 kq a0 y165 (y165.length : Int) x7_1 = some r) ∧ Aside0 (kq ≤ k) ∧ Aside0 (Kd.R Kd.string 9 w' w.heap.size (fun _ => True) (.slice Ao4 y165.length co4) y165) ∧ Aside0 (Below w.heap.size w w'))
 case atStart => exact ⟨(0),(by first|rfl|(simp;done)|(simp [*];done)),H',⟨Nat.le_refl _⟩,⟨by (with_reducible repeat (first|apply Kd.R_alloc|apply Kd.R_drewN|apply Kd.R_drew));exact HO167.out⟩,⟨by repeat (first|(with_reducible first|exact HB.out|apply below_alloc|apply pw_below_drewN|apply below_drew1)|exact HB.out)⟩⟩
 case round =>
  clear H';obtain ⟨x7_1,rfl,HA,HK1,HO_5,HB⟩:=hrel;cases gk with
  | zero => exact absurd HA.out (by simp [ast_operator.l0])
  | succ k1 =>
   have H:=HA.out;clear HA;simp only [ast_operator.l0] at H;by_cases c5 : x7_1 < (y165.length : Int)
   · rw [if_pos c5] at H;have c5b0 : decide (x7_1 < (y165.length : Int)) = true:=decide_eq_true c5;clear c5;by_cases c6 : 0 ≤ x7_1
     · rw [if_pos c6] at H;have c6b0 : decide (0 ≤ x7_1) = true:=decide_eq_true c6;clear c6;by_cases c7 : x7_1 < (y165.length : Int)
       · rw [if_pos c7] at H;have c7b0 : decide (x7_1 < (y165.length : Int)) = true:=decide_eq_true c7;clear c7;replace H:=Option.bind_eq_some_iff.mp H;obtain ⟨t169,A80,H⟩:=H;replace H : (if t169 = true then (some (wrap64 (x7_1 + 2))) else (ast_operator.l0 k1 a0 y165 (y165.length : Int) (wrap64 (x7_1 + 1)))) = some r:=H;have A8:=Aside0.mk A80;clear A80;by_cases c9 : t169 = true
         · subst c9;have H1 : (some (wrap64 (x7_1 + 2))) = some r:=by rw [if_pos rfl] at H;exact H
           clear H;have H:=H1;clear H1;obtain rfl:=Option.some.inj H;have p168 : 0 ≤ (x7_1 : Int):=of_decide_eq_true (by first|(with_reducible assumption)|assumption);have q168 : x7_1 < (y165.length : Int):=of_decide_eq_true (by first|(with_reducible assumption)|assumption);obtain ⟨ad168,e168,hx168_0⟩:=Kd.at_string (Kd.R_reads' HO_5.out).2.2 x7_1 p168 q168;cases e168;replace p168:=eq_true p168;replace q168:=eq_true q168;go_wp2_with (first|((with_reducible refine gate_callee (f:=68) rfl ?_);refine goesL_ (some 14) rfl rfl Tryz.func68 (by kernel_rfl) rfl #[.string (rdOf ByteArray.empty y165 x7_1),.string a0] rfl (by (try simp only [List.map_toArray,List.map_cons,List.map_nil]);first|done|rfl|(simp only [List.length_drop,List.length_take];rfl)) ?_;(with_reducible refine (ast_one.calls (rdOf ByteArray.empty y165 x7_1) a0 true _ ?side1 A8.out).mono ?_);(case side1 => refine PremW.below HG.out ?_;repeat (first|(with_reducible first|exact HB.out|apply below_alloc|apply pw_below_drewN|apply below_drew1)|exact HB.out));rintro e w10 ⟨rfl,hb⟩;refine ⟨_,rfl,?_⟩;have n0_:=Aside0.mk (Kd.R_below (by (with_reducible repeat (first|apply Kd.R_alloc|apply Kd.R_drewN|apply Kd.R_drew));exact HO_5.out) hb);have n1_:=Aside0.mk (below_step (by repeat (first|(with_reducible first|exact HB.out|apply below_alloc|apply pw_below_drewN|apply below_drew1)|exact HB.out)) hb);clear HO_5;clear HB;have HO_5:=n0_;have HB:=n1_;clear n0_ n1_;(try clear hb);(try clear hb2);(try clear hk);(try clear hi)))
           go_ret
           exact ⟨by first|rfl|(simp [errW_none,errW_some] <;> rfl)|(simp [*,errW_none,errW_some] <;> rfl),by repeat (first|(with_reducible first|exact HB.out|apply below_alloc|apply pw_below_drewN|apply below_drew1)|exact HB.out)⟩
         · replace c9:=Bool.eq_false_iff.mpr c9;subst c9;have H1 : (ast_operator.l0 k1 a0 y165 (y165.length : Int) (wrap64 (x7_1 + 1))) = some r:=by rw [if_neg (show ¬ (false = true) by decide)] at H;exact H
           clear H;have H:=H1;clear H1;have H' := Aside0.mk H;clear H;have p168 : 0 ≤ (x7_1 : Int):=of_decide_eq_true (by first|(with_reducible assumption)|assumption);have q168 : x7_1 < (y165.length : Int):=of_decide_eq_true (by first|(with_reducible assumption)|assumption);obtain ⟨ad168,e168,hx168_0⟩:=Kd.at_string (Kd.R_reads' HO_5.out).2.2 x7_1 p168 q168;cases e168;replace p168:=eq_true p168;replace q168:=eq_true q168;go_wp2_with (first|((with_reducible refine gate_callee (f:=68) rfl ?_);refine goesL_ (some 14) rfl rfl Tryz.func68 (by kernel_rfl) rfl #[.string (rdOf ByteArray.empty y165 x7_1),.string a0] rfl (by (try simp only [List.map_toArray,List.map_cons,List.map_nil]);first|done|rfl|(simp only [List.length_drop,List.length_take];rfl)) ?_;(with_reducible refine (ast_one.calls (rdOf ByteArray.empty y165 x7_1) a0 false _ ?side1 A8.out).mono ?_);(case side1 => refine PremW.below HG.out ?_;repeat (first|(with_reducible first|exact HB.out|apply below_alloc|apply pw_below_drewN|apply below_drew1)|exact HB.out));rintro e w11 ⟨rfl,hb⟩;refine ⟨_,rfl,?_⟩;have n0_:=Aside0.mk (Kd.R_below (by (with_reducible repeat (first|apply Kd.R_alloc|apply Kd.R_drewN|apply Kd.R_drew));exact HO_5.out) hb);have n1_:=Aside0.mk (below_step (by repeat (first|(with_reducible first|exact HB.out|apply below_alloc|apply pw_below_drewN|apply below_drew1)|exact HB.out)) hb);clear HO_5;clear HB;have HO_5:=n0_;have HB:=n1_;clear n0_ n1_;(try clear hb);(try clear hb2);(try clear hk);(try clear hi)))
           go_roundg k1
           case measure => have:=HK1.out;omega
           case rel => exact ⟨(wrap64 (x7_1 + 1)),(by first|rfl|(simp;done)|(simp [*];done)),H',⟨by have:=HK1.out;omega⟩,⟨by (with_reducible repeat (first|apply Kd.R_alloc|apply Kd.R_drewN|apply Kd.R_drew));exact HO_5.out⟩,⟨by repeat (first|(with_reducible first|exact HB.out|apply below_alloc|apply pw_below_drewN|apply below_drew1)|exact HB.out)⟩⟩
       · rw [if_neg c7] at H;exact absurd H (by simp)
     · rw [if_neg c6] at H;exact absurd H (by simp)
   · rw [if_neg c5] at H;have c5b0 : decide (x7_1 < (y165.length : Int)) = false:=decide_eq_false c5;clear c5;obtain rfl:=Option.some.inj H;go_wp2
     go_ret
     exact ⟨by first|rfl|(simp [errW_none,errW_some] <;> rfl)|(simp [*,errW_none,errW_some] <;> rfl),by repeat (first|(with_reducible first|exact HB.out|apply below_alloc|apply pw_below_drewN|apply below_drew1)|exact HB.out)⟩
end Go.Proofs.YtboojhadfhpdeaaGreatDoor.Q
namespace Go.Proofs.YtboojhadfhpdeaaGreatDoor.Q
open Go.RowKit Go.Proofs.YtboojhadfhpdeaaGreatDoorW.PrintWords Go.Proofs.YtboojhadfhpdeaaGreatDoorW.PrintLast Go.Proofs.YtboojhadfhpdeaaGreatDoorW.PrintMore
attribute [local go_sem] max2_int min2_int max_two min_two max_three min_three max_four min_four
set_option linter.unusedVariables false
set_option linter.unusedSimpArgs false
def ast_level.j0 : Nat → Int → Bool → Int → ByteArray → Int → Bool → List (S25) → Int → Option (Int)
 | 0,_,_,_,_,_,_,_,_ => none
 | k + 1,x4,x9,x171000,x171001,x171002,x171003,x171004,x171005 => if x9 = true then ((ast_operator.f k x171001).bind fun t171 => (some t171)) else (if x4 = 9 then (some 12) else (if x4 = 14 then (some 12) else (if x4 = 15 then (some 12) else (some 13))))
def ast_level.f (k : Nat) (a0_0 : Int) (a0_1 : ByteArray) (a0_2 : Int) (a0_3 : Bool) (l0_4 : List (S25)) (a0_5 : Int) : Option (Int):=if a0_0 = 13 then (some 0) else (if a0_0 = 12 then (some 1) else (if a0_0 = 10 then (ast_level.j0 k a0_0 (a0_0 == 10) a0_0 a0_1 a0_2 a0_3 l0_4 a0_5) else (ast_level.j0 k a0_0 (a0_0 == 11) a0_0 a0_1 a0_2 a0_3 l0_4 a0_5)))
theorem ast_level.mono_l : ∀ k,(∀ y0 y1 y2 y3 y4 y5 y6 y7,LeO (ast_level.j0 k y0 y1 y2 y3 y4 y5 y6 y7) (ast_level.j0 (k + 1) y0 y1 y2 y3 y4 y5 y6 y7))
 | 0 => fun _ _ _ _ _ _ _ _ r h => by simp [ast_level.j0] at h
 | k + 1 => by
  have ih0:=ast_level.mono_l k
  · intro y0 y1 y2 y3 y4 y5 y6 y7;unfold ast_level.j0
    repeat' first
    | (with_reducible exact ih0 _ _ _ _ _ _ _ _)
    | (with_reducible exact ast_operator.mono _ _)
    | (with_reducible exact LeO.refl _)
    | (with_reducible exact LeO.none _)
    | (with_reducible refine LeO.ite ?_ ?_)
    | (with_reducible refine LeO.bind ?_ (fun _ => ?_))
    | exact ih0 _ _ _ _ _ _ _ _
    | exact ast_operator.mono _ _
    | exact LeO.none _
    | refine LeO.ite ?_ ?_
    | refine LeO.bind ?_ (fun _ => ?_)
theorem ast_level.mono : ∀ a0 a1 a2 a3 a4 a5 k,LeO (ast_level.f k a0 a1 a2 a3 a4 a5) (ast_level.f (k + 1) a0 a1 a2 a3 a4 a5):=by
 intro a0 a1 a2 a3 a4 a5 k;have ih0:=ast_level.mono_l k;unfold ast_level.f
 repeat' first
  | (with_reducible exact ih0 _ _ _ _ _ _ _ _)
  | (with_reducible exact ast_operator.mono _ _)
  | (with_reducible exact LeO.refl _)
  | (with_reducible exact LeO.none _)
  | (with_reducible refine LeO.ite ?_ ?_)
  | (with_reducible refine LeO.bind ?_ (fun _ => ?_))
  | exact ih0 _ _ _ _ _ _ _ _
  | exact ast_operator.mono _ _
  | exact LeO.none _
  | refine LeO.ite ?_ ?_
  | refine LeO.bind ?_ (fun _ => ?_)
set_option maxHeartbeats 8000000 in
set_option maxRecDepth 100000 in
theorem ast_level.calls (k : Nat) (a0_0 : Int) (a0_1 : ByteArray) (a0_2 : Int) (a0_3 : Bool) (A0_4 : Option Addr) (c0_4 : Nat) (l0_4 : List (S25)) (a0_5 : Int) (r : Int) (w : World) (hr0_4 : Kd.C k25 w A0_4 l0_4.length l0_4) (hc0_4 : l0_4.length ≤ c0_4) (hG : PremW w) (h : ast_level.f k a0_0 a0_1 a0_2 a0_3 l0_4 a0_5 = some r) :
 Calls Tryz.prog 99 #[.agg #[.int .i64 a0_0,.string a0_1,.int .u32 a0_2,.bool a0_3,.slice A0_4 l0_4.length c0_4,.int .i64 a0_5]] w fun e w' => e = .returned (.int .i64 r) ∧ Below w.heap.size w w' := by
 have hu25:=Tryz.underlying25;have HR0_4:=Aside0.mk hr0_4;have HC0_4:=Aside0.mk hc0_4;clear hr0_4 hc0_4;have HG:=Aside0.mk hG;clear hG;have HB:=Aside0.mk (Below.refl w.heap.size w);have H : (if a0_0 = 13 then (some 0) else (if a0_0 = 12 then (some 1) else (if a0_0 = 10 then (ast_level.j0 k a0_0 (a0_0 == 10) a0_0 a0_1 a0_2 a0_3 l0_4 a0_5) else (ast_level.j0 k a0_0 (a0_0 == 11) a0_0 a0_1 a0_2 a0_3 l0_4 a0_5)))) = some r:=h;clear h;by_cases c2 : a0_0 = 13
 · rw [if_pos c2] at H;have c2b0 : (a0_0 == 13) = true:=beq_iff_eq.mpr c2;have c2b1 : (a0_0 != 13) = false:=bne_eq_false_iff_eq.mpr c2;clear c2;obtain rfl:=Option.some.inj H;go_enter Tryz.func99,Tryz.ntmps99
   go_wp2_with (first|((with_reducible refine gate_dst (N:=1) rfl ?_);refine box_event ?hg (N:=1) ?hd (cs:=#[.int .i64 a0_0,.string a0_1,.int .u32 a0_2,.bool a0_3,.slice A0_4 l0_4.length c0_4,.int .i64 a0_5]) (t:=25) ?hr ?_;(case hd => rfl);(case hg => rfl);(case hr => first|(go_simp;done)|(go_simp;rfl));intro gb170 hg w3 hbox hb;have n0_:=Aside0.mk (below_step (by repeat (first|(with_reducible first|exact HB.out|apply below_alloc|apply pw_below_drewN|apply below_drew1)|exact HB.out)) hb);have n1_:=Aside0.mk (hbox);have n2_:=Aside0.mk ((by rw [hg];exact (below_size (by repeat (first|(with_reducible first|exact HB.out|apply below_alloc|apply pw_below_drewN|apply below_drew1)|exact HB.out))) : w.heap.size ≤ gb170));have n3_:=Aside0.mk ((by rw [hg];exact (below_size (by repeat (first|(with_reducible first|exact HB.out|apply below_alloc|apply pw_below_drewN|apply below_drew1)|exact HB.out))) : w.heap.size ≤ gb170));clear HB;have HB:=n0_;have BK170:=n1_;have GW170:=n2_;have GE170:=n3_;clear n0_ n1_ n2_ n3_;clear hb hbox hg;have hcz4_0 : w3.cell? ⟨gb170,0,none⟩ = some (.int .i64 a0_0):=(blk_cell BK170.out 0).trans rfl;have hcz4_1 : w3.cell? ⟨gb170,1,none⟩ = some (.string a0_1):=(blk_cell BK170.out 1).trans rfl;have hcz4_2 : w3.cell? ⟨gb170,2,none⟩ = some (.int .u32 a0_2):=(blk_cell BK170.out 2).trans rfl;have hcz4_3 : w3.cell? ⟨gb170,3,none⟩ = some (.bool a0_3):=(blk_cell BK170.out 3).trans rfl;have hcz4_4 : w3.cell? ⟨gb170,4,none⟩ = some (.slice A0_4 l0_4.length c0_4):=(blk_cell BK170.out 4).trans rfl;have hcz4_5 : w3.cell? ⟨gb170,5,none⟩ = some (.int .i64 a0_5):=(blk_cell BK170.out 5).trans rfl;have hfz4_0:=blk_frozen BK170.out 0;have hfz4_1:=blk_frozen BK170.out 1;have hfz4_2:=blk_frozen BK170.out 2;have hfz4_3:=blk_frozen BK170.out 3;have hfz4_4:=blk_frozen BK170.out 4;have hfz4_5:=blk_frozen BK170.out 5))
   go_ret
   exact ⟨by first|rfl|(simp [errW_none,errW_some] <;> rfl)|(simp [*,errW_none,errW_some] <;> rfl),by repeat (first|(with_reducible first|exact HB.out|apply below_alloc|apply pw_below_drewN|apply below_drew1|refine below_set ?_ GE170.out)|exact HB.out)⟩
 · rw [if_neg c2] at H;have c2b0 : (a0_0 == 13) = false:=beq_eq_false_iff_ne.mpr c2;have c2b1 : (a0_0 != 13) = true:=bne_iff_ne.mpr c2;by_cases c5 : a0_0 = 12
   · rw [if_pos c5] at H;have c5b0 : (a0_0 == 12) = true:=beq_iff_eq.mpr c5;have c5b1 : (a0_0 != 12) = false:=bne_eq_false_iff_eq.mpr c5;clear c5;obtain rfl:=Option.some.inj H;go_enter Tryz.func99,Tryz.ntmps99
     go_wp2_with (first|((with_reducible refine gate_dst (N:=1) rfl ?_);refine box_event ?hg (N:=1) ?hd (cs:=#[.int .i64 a0_0,.string a0_1,.int .u32 a0_2,.bool a0_3,.slice A0_4 l0_4.length c0_4,.int .i64 a0_5]) (t:=25) ?hr ?_;(case hd => rfl);(case hg => rfl);(case hr => first|(go_simp;done)|(go_simp;rfl));intro gb170 hg w6 hbox hb;have n0_:=Aside0.mk (below_step (by repeat (first|(with_reducible first|exact HB.out|apply below_alloc|apply pw_below_drewN|apply below_drew1)|exact HB.out)) hb);have n1_:=Aside0.mk (hbox);have n2_:=Aside0.mk ((by rw [hg];exact (below_size (by repeat (first|(with_reducible first|exact HB.out|apply below_alloc|apply pw_below_drewN|apply below_drew1)|exact HB.out))) : w.heap.size ≤ gb170));have n3_:=Aside0.mk ((by rw [hg];exact (below_size (by repeat (first|(with_reducible first|exact HB.out|apply below_alloc|apply pw_below_drewN|apply below_drew1)|exact HB.out))) : w.heap.size ≤ gb170));clear HB;have HB:=n0_;have BK170:=n1_;have GW170:=n2_;have GE170:=n3_;clear n0_ n1_ n2_ n3_;clear hb hbox hg;have hcz7_0 : w6.cell? ⟨gb170,0,none⟩ = some (.int .i64 a0_0):=(blk_cell BK170.out 0).trans rfl;have hcz7_1 : w6.cell? ⟨gb170,1,none⟩ = some (.string a0_1):=(blk_cell BK170.out 1).trans rfl;have hcz7_2 : w6.cell? ⟨gb170,2,none⟩ = some (.int .u32 a0_2):=(blk_cell BK170.out 2).trans rfl;have hcz7_3 : w6.cell? ⟨gb170,3,none⟩ = some (.bool a0_3):=(blk_cell BK170.out 3).trans rfl;have hcz7_4 : w6.cell? ⟨gb170,4,none⟩ = some (.slice A0_4 l0_4.length c0_4):=(blk_cell BK170.out 4).trans rfl;have hcz7_5 : w6.cell? ⟨gb170,5,none⟩ = some (.int .i64 a0_5):=(blk_cell BK170.out 5).trans rfl;have hfz7_0:=blk_frozen BK170.out 0;have hfz7_1:=blk_frozen BK170.out 1;have hfz7_2:=blk_frozen BK170.out 2;have hfz7_3:=blk_frozen BK170.out 3;have hfz7_4:=blk_frozen BK170.out 4;have hfz7_5:=blk_frozen BK170.out 5))
     go_ret
     exact ⟨by first|rfl|(simp [errW_none,errW_some] <;> rfl)|(simp [*,errW_none,errW_some] <;> rfl),by repeat (first|(with_reducible first|exact HB.out|apply below_alloc|apply pw_below_drewN|apply below_drew1|refine below_set ?_ GE170.out)|exact HB.out)⟩
   · rw [if_neg c5] at H;have c5b0 : (a0_0 == 12) = false:=beq_eq_false_iff_ne.mpr c5;have c5b1 : (a0_0 != 12) = true:=bne_iff_ne.mpr c5;have HC8:=Aside0.mk H;clear H;go_enter Tryz.func99,Tryz.ntmps99
     go_upto_if 9 with (first|((with_reducible refine gate_dst (N:=1) rfl ?_);refine box_event ?hg (N:=1) ?hd (cs:=#[.int .i64 a0_0,.string a0_1,.int .u32 a0_2,.bool a0_3,.slice A0_4 l0_4.length c0_4,.int .i64 a0_5]) (t:=25) ?hr ?_;(case hd => rfl);(case hg => rfl);(case hr => first|(go_simp;done)|(go_simp;rfl));intro gb170 hg w9 hbox hb;have n0_:=Aside0.mk (below_step (by repeat (first|(with_reducible first|exact HB.out|apply below_alloc|apply pw_below_drewN|apply below_drew1)|exact HB.out)) hb);have n1_:=Aside0.mk (hbox);have n2_:=Aside0.mk ((by rw [hg];exact (below_size (by repeat (first|(with_reducible first|exact HB.out|apply below_alloc|apply pw_below_drewN|apply below_drew1)|exact HB.out))) : w.heap.size ≤ gb170));have n3_:=Aside0.mk ((by rw [hg];exact (below_size (by repeat (first|(with_reducible first|exact HB.out|apply below_alloc|apply pw_below_drewN|apply below_drew1)|exact HB.out))) : w.heap.size ≤ gb170));clear HB;have HB:=n0_;have BK170:=n1_;have GW170:=n2_;have GE170:=n3_;clear n0_ n1_ n2_ n3_;clear hb hbox hg;have hcz10_0 : w9.cell? ⟨gb170,0,none⟩ = some (.int .i64 a0_0):=(blk_cell BK170.out 0).trans rfl;have hcz10_1 : w9.cell? ⟨gb170,1,none⟩ = some (.string a0_1):=(blk_cell BK170.out 1).trans rfl;have hcz10_2 : w9.cell? ⟨gb170,2,none⟩ = some (.int .u32 a0_2):=(blk_cell BK170.out 2).trans rfl;have hcz10_3 : w9.cell? ⟨gb170,3,none⟩ = some (.bool a0_3):=(blk_cell BK170.out 3).trans rfl;have hcz10_4 : w9.cell? ⟨gb170,4,none⟩ = some (.slice A0_4 l0_4.length c0_4):=(blk_cell BK170.out 4).trans rfl;have hcz10_5 : w9.cell? ⟨gb170,5,none⟩ = some (.int .i64 a0_5):=(blk_cell BK170.out 5).trans rfl;have hfz10_0:=blk_frozen BK170.out 0;have hfz10_1:=blk_frozen BK170.out 1;have hfz10_2:=blk_frozen BK170.out 2;have hfz10_3:=blk_frozen BK170.out 3;have hfz10_4:=blk_frozen BK170.out 4;have hfz10_5:=blk_frozen BK170.out 5))
     (try simp only [Act.put,List.setIfInBounds_toArray,List.set_cons_zero,List.set_cons_succ]);go_cut [9] (fun v9 wc => ∃ (kq : Nat) (x9_7 : Bool),v9 = .bool x9_7 ∧ Aside0 (ast_level.j0 kq a0_0 x9_7 a0_0 a0_1 a0_2 a0_3 l0_4 a0_5 = some r) ∧ Aside0 (kq ≤ k) ∧ Aside0 (wc.heap[gb170]? = some (.cells #[.int .i64 a0_0,.string a0_1,.int .u32 a0_2,.bool a0_3,(.slice A0_4 l0_4.length c0_4),.int .i64 a0_5] 25 (0,0))) ∧ Aside0 (Below w.heap.size w wc))
     case first =>
      have H:=HC8.out;clear HC8;by_cases c11 : a0_0 = 10
      · rw [if_pos c11] at H;have c11b0 : (a0_0 == 10) = true:=beq_iff_eq.mpr c11;have c11b1 : (a0_0 != 10) = false:=bne_eq_false_iff_eq.mpr c11;clear c11;(first|rw [c11b0]|(simp only [i64_w,i32_w];rw [c11b0])|skip);have H' := Aside0.mk H;clear H;go_wp2
        go_meet
        case rel => exact ⟨_,((a0_0 == 10)),(by first|rfl|(simp;done)|(simp [*];done)),H',⟨by first|omega|exact Nat.le_refl _⟩,⟨by (with_reducible repeat (first|refine blk_drewN ?_ _|refine blk_drew ?_|refine blk_alloc ?_ _));exact BK170.out⟩,⟨by repeat (first|(with_reducible first|exact HB.out|apply below_alloc|apply pw_below_drewN|apply below_drew1|refine below_set ?_ GE170.out)|exact HB.out)⟩⟩
      · rw [if_neg c11] at H;have c11b0 : (a0_0 == 10) = false:=beq_eq_false_iff_ne.mpr c11;have c11b1 : (a0_0 != 10) = true:=bne_iff_ne.mpr c11;(first|rw [c11b0]|(simp only [i64_w,i32_w];rw [c11b0])|skip);have H' := Aside0.mk H;clear H;go_wp2
        go_meet
        case rel => exact ⟨_,((a0_0 == 11)),(by first|rfl|(simp;done)|(simp [*];done)),H',⟨by first|omega|exact Nat.le_refl _⟩,⟨by (with_reducible repeat (first|refine blk_drewN ?_ _|refine blk_drew ?_|refine blk_alloc ?_ _));exact BK170.out⟩,⟨by repeat (first|(with_reducible first|exact HB.out|apply below_alloc|apply pw_below_drewN|apply below_drew1|refine below_set ?_ GE170.out)|exact HB.out)⟩⟩
     case rest =>
      clear HC8;try clear c2
      try clear c2b0
      try clear c2b1
      try clear c5
      try clear c5b0
      try clear c5b1
      try clear hcz10_0
      try clear hcz10_1
      try clear hcz10_2
      try clear hcz10_3
      try clear hcz10_4
      try clear hcz10_5
      try clear hfz10_0
      try clear hfz10_1
      try clear hfz10_2
      try clear hfz10_3
      try clear hfz10_4
      try clear hfz10_5
      obtain ⟨kq,x9_7,rfl,HA,HJ7,BK170,HB⟩:=hcut;cases kq with
      | zero => exact absurd HA.out (by simp [ast_level.j0])
      | succ kj7 =>
       have H:=HA.out;clear HA;simp only [ast_level.j0] at H;by_cases c12 : x9_7 = true
       · subst c12;have H1 : ((ast_operator.f kj7 a0_1).bind fun t171 => (some t171)) = some r:=by rw [if_pos rfl] at H;exact H
         clear H;have H:=H1;clear H1;replace H:=Option.bind_eq_some_iff.mp H;obtain ⟨t171,A130,H⟩:=H;replace H : (some t171) = some r:=H;have A13:=Aside0.mk A130;clear A130;obtain rfl:=Option.some.inj H;have hcz14_0 : wc.cell? ⟨gb170,0,none⟩ = some (.int .i64 a0_0):=(blk_cell BK170.out 0).trans rfl;have hcz14_1 : wc.cell? ⟨gb170,1,none⟩ = some (.string a0_1):=(blk_cell BK170.out 1).trans rfl;have hcz14_2 : wc.cell? ⟨gb170,2,none⟩ = some (.int .u32 a0_2):=(blk_cell BK170.out 2).trans rfl;have hcz14_3 : wc.cell? ⟨gb170,3,none⟩ = some (.bool a0_3):=(blk_cell BK170.out 3).trans rfl;have hcz14_4 : wc.cell? ⟨gb170,4,none⟩ = some (.slice A0_4 l0_4.length c0_4):=(blk_cell BK170.out 4).trans rfl;have hcz14_5 : wc.cell? ⟨gb170,5,none⟩ = some (.int .i64 a0_5):=(blk_cell BK170.out 5).trans rfl;have hfz14_0:=blk_frozen BK170.out 0;have hfz14_1:=blk_frozen BK170.out 1;have hfz14_2:=blk_frozen BK170.out 2;have hfz14_3:=blk_frozen BK170.out 3;have hfz14_4:=blk_frozen BK170.out 4;have hfz14_5:=blk_frozen BK170.out 5;go_wp2_with (first|((with_reducible refine gate_callee (f:=114) rfl ?_);refine goesL_ (some 14) rfl rfl Tryz.func114 (by kernel_rfl) rfl #[.string a0_1] rfl (by (try simp only [List.map_toArray,List.map_cons,List.map_nil]);first|done|rfl|(simp only [List.length_drop,List.length_take];rfl)) ?_;(with_reducible refine (ast_operator.calls kj7 a0_1 t171 _ ?side1 A13.out).mono ?_);(case side1 => refine PremW.below HG.out ?_;repeat (first|(with_reducible first|exact HB.out|apply below_alloc|apply pw_below_drewN|apply below_drew1|refine below_set ?_ GE170.out)|exact HB.out));rintro e w15 ⟨rfl,hb⟩;refine ⟨_,rfl,?_⟩;have n0_:=Aside0.mk (blk_below (g:=gb170) (o:=.cells #[.int .i64 a0_0,.string a0_1,.int .u32 a0_2,.bool a0_3,.slice A0_4 l0_4.length c0_4,.int .i64 a0_5] 25 (0,0)) (by (with_reducible repeat (first|refine blk_drewN ?_ _|refine blk_drew ?_|refine blk_alloc ?_ _));exact BK170.out) hb);have n1_:=Aside0.mk (below_step (by repeat (first|(with_reducible first|exact HB.out|apply below_alloc|apply pw_below_drewN|apply below_drew1|refine below_set ?_ GE170.out)|exact HB.out)) hb);clear BK170;clear HB;have BK170:=n0_;have HB:=n1_;clear n0_ n1_;(try clear hb);(try clear hb2);(try clear hk);(try clear hi)))
         go_ret
         exact ⟨by first|rfl|(simp [errW_none,errW_some] <;> rfl)|(simp [*,errW_none,errW_some] <;> rfl),by repeat (first|(with_reducible first|exact HB.out|apply below_alloc|apply pw_below_drewN|apply below_drew1|refine below_set ?_ GE170.out)|exact HB.out)⟩
       · replace c12:=Bool.eq_false_iff.mpr c12;subst c12;have H1 : (if a0_0 = 9 then (some 12) else (if a0_0 = 14 then (some 12) else (if a0_0 = 15 then (some 12) else (some 13)))) = some r:=by rw [if_neg (show ¬ (false = true) by decide)] at H;exact H
         clear H;have H:=H1;clear H1;by_cases c16 : a0_0 = 9
         · rw [if_pos c16] at H;have c16b0 : (a0_0 == 9) = true:=beq_iff_eq.mpr c16;have c16b1 : (a0_0 != 9) = false:=bne_eq_false_iff_eq.mpr c16;clear c16;obtain rfl:=Option.some.inj H;go_wp2
           go_ret
           exact ⟨by first|rfl|(simp [errW_none,errW_some] <;> rfl)|(simp [*,errW_none,errW_some] <;> rfl),by repeat (first|(with_reducible first|exact HB.out|apply below_alloc|apply pw_below_drewN|apply below_drew1|refine below_set ?_ GE170.out)|exact HB.out)⟩
         · rw [if_neg c16] at H;have c16b0 : (a0_0 == 9) = false:=beq_eq_false_iff_ne.mpr c16;have c16b1 : (a0_0 != 9) = true:=bne_iff_ne.mpr c16;by_cases c17 : a0_0 = 14
           · rw [if_pos c17] at H;have c17b0 : (a0_0 == 14) = true:=beq_iff_eq.mpr c17;have c17b1 : (a0_0 != 14) = false:=bne_eq_false_iff_eq.mpr c17;clear c17;obtain rfl:=Option.some.inj H;go_wp2
             go_ret
             exact ⟨by first|rfl|(simp [errW_none,errW_some] <;> rfl)|(simp [*,errW_none,errW_some] <;> rfl),by repeat (first|(with_reducible first|exact HB.out|apply below_alloc|apply pw_below_drewN|apply below_drew1|refine below_set ?_ GE170.out)|exact HB.out)⟩
           · rw [if_neg c17] at H;have c17b0 : (a0_0 == 14) = false:=beq_eq_false_iff_ne.mpr c17;have c17b1 : (a0_0 != 14) = true:=bne_iff_ne.mpr c17;by_cases c18 : a0_0 = 15
             · rw [if_pos c18] at H;have c18b0 : (a0_0 == 15) = true:=beq_iff_eq.mpr c18;have c18b1 : (a0_0 != 15) = false:=bne_eq_false_iff_eq.mpr c18;clear c18;obtain rfl:=Option.some.inj H;go_wp2
               go_ret
               exact ⟨by first|rfl|(simp [errW_none,errW_some] <;> rfl)|(simp [*,errW_none,errW_some] <;> rfl),by repeat (first|(with_reducible first|exact HB.out|apply below_alloc|apply pw_below_drewN|apply below_drew1|refine below_set ?_ GE170.out)|exact HB.out)⟩
             · rw [if_neg c18] at H;have c18b0 : (a0_0 == 15) = false:=beq_eq_false_iff_ne.mpr c18;have c18b1 : (a0_0 != 15) = true:=bne_iff_ne.mpr c18;obtain rfl:=Option.some.inj H;go_wp2
               go_ret
               exact ⟨by first|rfl|(simp [errW_none,errW_some] <;> rfl)|(simp [*,errW_none,errW_some] <;> rfl),by repeat (first|(with_reducible first|exact HB.out|apply below_alloc|apply pw_below_drewN|apply below_drew1|refine below_set ?_ GE170.out)|exact HB.out)⟩
end Go.Proofs.YtboojhadfhpdeaaGreatDoor.Q
