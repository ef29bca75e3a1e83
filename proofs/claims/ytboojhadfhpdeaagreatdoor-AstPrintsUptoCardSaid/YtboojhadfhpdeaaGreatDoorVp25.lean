/- A part of the proof, made small by a program: Y1, Y2, Y3. -/
import Derived.Test.YtboojhadfhpdeaaGreatDoorVp4
import Derived.Test.YtboojhadfhpdeaaGreatDoorVp22
set_option linter.unusedVariables false
set_option linter.unusedSimpArgs false
set_option maxHeartbeats 8000000
set_option maxRecDepth 100000
namespace Go.Proofs.YtboojhadfhpdeaaGreatDoor.Q
open Go.RowKit Go.Proofs.YtboojhadfhpdeaaGreatDoorW.PrintWords Go.Proofs.YtboojhadfhpdeaaGreatDoorW.PrintLast Go.Proofs.YtboojhadfhpdeaaGreatDoorW.PrintMore
mutual
def aA.j0 : Nat → ByteArray → Bool → Option (Int)
 | 0,_,_ => none
 | k + 1,x3,x14 => if x14 = true then (some 7) else (if x3.toList = ([60] : List UInt8) then (aA.j1 k x3 (x3.toList == ([60] : List UInt8))) else (if x3.toList = ([62] : List UInt8) then (aA.j1 k x3 (x3.toList == ([62] : List UInt8))) else (if x3.toList = ([60,61] : List UInt8) then (aA.j1 k x3 (x3.toList == ([60,61] : List UInt8))) else (aA.j1 k x3 (x3.toList == ([62,61] : List UInt8))))))
def aA.j1 : Nat → ByteArray → Bool → Option (Int)
 | 0,_,_ => none
 | k + 1,x3,x17 => if x17 = true then (some 8) else (if x3.toList = ([60,60] : List UInt8) then (aA.j2 k x3 (x3.toList == ([60,60] : List UInt8))) else (aA.j2 k x3 (x3.toList == ([62,62] : List UInt8))))
def aA.j2 : Nat → ByteArray → Bool → Option (Int)
 | 0,_,_ => none
 | k + 1,x3,x22 => if x22 = true then (some 9) else (if x3.toList = ([43] : List UInt8) then (some 10) else (if x3.toList = ([45] : List UInt8) then (some 10) else (some 11)))
end
def aA.f (k : Nat) (a0 : ByteArray) : Option (Int):=if a0.toList = ([124,124] : List UInt8) then (some 2) else (if a0.toList = ([38,38] : List UInt8) then (some 3) else (if a0.toList = ([124] : List UInt8) then (some 4) else (if a0.toList = ([94] : List UInt8) then (some 5) else (if a0.toList = ([38] : List UInt8) then (some 6) else (if a0.toList = ([61,61] : List UInt8) then (aA.j0 k a0 (a0.toList == ([61,61] : List UInt8))) else (aA.j0 k a0 (a0.toList == ([33,61] : List UInt8))))))))
theorem aA.calls (k : Nat) (a0 : ByteArray) (r : Int) (w : World) (h : aA.f k a0 = some r) :
 Calls Tryz.prog 107 #[.string a0] w fun e w' => e = .returned (.int .i64 r) ∧ au w w' := by
 have H : (if a0.toList = ([124,124] : List UInt8) then (some 2) else (if a0.toList = ([38,38] : List UInt8) then (some 3) else (if a0.toList = ([124] : List UInt8) then (some 4) else (if a0.toList = ([94] : List UInt8) then (some 5) else (if a0.toList = ([38] : List UInt8) then (some 6) else (if a0.toList = ([61,61] : List UInt8) then (aA.j0 k a0 (a0.toList == ([61,61] : List UInt8))) else (aA.j0 k a0 (a0.toList == ([33,61] : List UInt8))))))))) = some r:=h;clear h;by_cases c2 : a0.toList = ([124,124] : List UInt8)
 · rw [if_pos c2] at H;have lD : (a0.toList == ([124,124] : List UInt8)) = true:=beq_iff_eq.mpr c2;clear c2;obtain rfl:=Option.some.inj H;go_enter Tryz.func107,Tryz.ntmps107
   go_wp2
   go_ret
   exact ⟨by first|rfl|(simp;done)|(simp [*];done),by repeat (first|exact au.refl _|apply au.step)⟩
 · rw [if_neg c2] at H;have lD : (a0.toList == ([124,124] : List UInt8)) = false:=beq_eq_false_iff_ne.mpr c2;by_cases c3 : a0.toList = ([38,38] : List UInt8)
   · rw [if_pos c3] at H;have kH : (a0.toList == ([38,38] : List UInt8)) = true:=beq_iff_eq.mpr c3;clear c3;obtain rfl:=Option.some.inj H;go_enter Tryz.func107,Tryz.ntmps107
     go_wp2
     go_ret
     exact ⟨by first|rfl|(simp;done)|(simp [*];done),by repeat (first|exact au.refl _|apply au.step)⟩
   · rw [if_neg c3] at H;have kH : (a0.toList == ([38,38] : List UInt8)) = false:=beq_eq_false_iff_ne.mpr c3;by_cases c4 : a0.toList = ([124] : List UInt8)
     · rw [if_pos c4] at H;have lS : (a0.toList == ([124] : List UInt8)) = true:=beq_iff_eq.mpr c4;clear c4;obtain rfl:=Option.some.inj H;go_enter Tryz.func107,Tryz.ntmps107
       go_wp2
       go_ret
       exact ⟨by first|rfl|(simp;done)|(simp [*];done),by repeat (first|exact au.refl _|apply au.step)⟩
     · rw [if_neg c4] at H;have lS : (a0.toList == ([124] : List UInt8)) = false:=beq_eq_false_iff_ne.mpr c4;by_cases c5 : a0.toList = ([94] : List UInt8)
       · rw [if_pos c5] at H;have lq : (a0.toList == ([94] : List UInt8)) = true:=beq_iff_eq.mpr c5;clear c5;obtain rfl:=Option.some.inj H;go_enter Tryz.func107,Tryz.ntmps107
         go_wp2
         go_ret
         exact ⟨by first|rfl|(simp;done)|(simp [*];done),by repeat (first|exact au.refl _|apply au.step)⟩
       · rw [if_neg c5] at H;have lq : (a0.toList == ([94] : List UInt8)) = false:=beq_eq_false_iff_ne.mpr c5;by_cases c6 : a0.toList = ([38] : List UInt8)
         · rw [if_pos c6] at H;have oG : (a0.toList == ([38] : List UInt8)) = true:=beq_iff_eq.mpr c6;clear c6;obtain rfl:=Option.some.inj H;go_enter Tryz.func107,Tryz.ntmps107
           go_wp2
           go_ret
           exact ⟨by first|rfl|(simp;done)|(simp [*];done),by repeat (first|exact au.refl _|apply au.step)⟩
         · rw [if_neg c6] at H;have oG : (a0.toList == ([38] : List UInt8)) = false:=beq_eq_false_iff_ne.mpr c6;have HC7:=Am H;clear H;go_enter Tryz.func107,Tryz.ntmps107
           go_upto_if 14 with (fail)
           go_cut [14] (fun v14 wc => ∃ (kq : Nat) (KU : Bool),v14 = .bool KU ∧ Ad (aA.j0 kq a0 KU = some r) ∧ Ad (kq ≤ k) ∧ au w wc)
           case first =>
            have H:=HC7.out;clear HC7;by_cases c8 : a0.toList = ([61,61] : List UInt8)
            · rw [if_pos c8] at H;have o8 : (a0.toList == ([61,61] : List UInt8)) = true:=beq_iff_eq.mpr c8;clear c8;(first|rw [o8]|(simp only [bY];rw [o8])|skip);have H' := Ad.mk H;clear H;go_wp2
              go_meet
              case rel => exact ⟨_,((a0.toList == ([61,61] : List UInt8))),YF,H',⟨by first|omega|exact Nat.le_refl _⟩,by repeat (first|exact au.refl _|apply au.step)⟩
            · rw [if_neg c8] at H;have o8 : (a0.toList == ([61,61] : List UInt8)) = false:=beq_eq_false_iff_ne.mpr c8;(first|rw [o8]|(simp only [bY];rw [o8])|skip);have H' := Ad.mk H;clear H;go_wp2
              go_meet
              case rel => exact ⟨_,((a0.toList == ([33,61] : List UInt8))),YF,H',⟨by first|omega|exact Nat.le_refl _⟩,by repeat (first|exact au.refl _|apply au.step)⟩
           case rest =>
            clear HC7;try clear c2
            try clear lD
            try clear c3
            try clear kH
            try clear c4
            try clear lS
            try clear c5
            try clear lq
            try clear c6
            try clear oG
            obtain ⟨kq,KU,rfl,HA,HJ6,⟨mc6,rfl⟩⟩:=hcut;cases kq with
            | zero => exact absurd HA.out (by simp [aA.j0])
            | succ kj6 =>
             have H:=HA.out;clear HA;simp only [aA.j0] at H;by_cases c9 : KU = true
             · subst c9;have H1 : (some 7) = some r:=by rw [if_pos rfl] at H;exact H
               clear H;have H:=H1;clear H1;obtain rfl:=Option.some.inj H;go_wp2
               go_ret
               exact ⟨by first|rfl|(simp;done)|(simp [*];done),by repeat (first|exact au.refl _|apply au.step)⟩
             · replace c9:=Bool.eq_false_iff.mpr c9;subst c9;have H1 : (if a0.toList = ([60] : List UInt8) then (aA.j1 kj6 a0 (a0.toList == ([60] : List UInt8))) else (if a0.toList = ([62] : List UInt8) then (aA.j1 kj6 a0 (a0.toList == ([62] : List UInt8))) else (if a0.toList = ([60,61] : List UInt8) then (aA.j1 kj6 a0 (a0.toList == ([60,61] : List UInt8))) else (aA.j1 kj6 a0 (a0.toList == ([62,61] : List UInt8)))))) = some r:=by rw [if_neg (show ¬ (false = true) by decide)] at H;exact H
               clear H;have H:=H1;clear H1;have MZ:=Am H;clear H;go_upto_if 17 with (fail)
               go_cut [17] (fun v17 wc => ∃ (kq : Nat) (KW : Bool),v17 = .bool KW ∧ Ad (aA.j1 kq a0 KW = some r) ∧ Ad (kq ≤ kj6) ∧ au w wc)
               case first =>
                have H:=MZ.out;clear MZ;by_cases c11 : a0.toList = ([60] : List UInt8)
                · rw [if_pos c11] at H;have kM : (a0.toList == ([60] : List UInt8)) = true:=beq_iff_eq.mpr c11;clear c11;(first|rw [kM]|(simp only [bY];rw [kM])|skip);have H' := Ad.mk H;clear H;go_wp2
                  go_meet
                  case rel => exact ⟨_,((a0.toList == ([60] : List UInt8))),YF,H',⟨by have:=HJ6.out;first|omega|exact Nat.le_refl _⟩,by repeat (first|exact au.refl _|apply au.step)⟩
                · rw [if_neg c11] at H;have kM : (a0.toList == ([60] : List UInt8)) = false:=beq_eq_false_iff_ne.mpr c11;(first|rw [kM]|(simp only [bY];rw [kM])|skip);by_cases c12 : a0.toList = ([62] : List UInt8)
                  · rw [if_pos c12] at H;have E8 : (a0.toList == ([62] : List UInt8)) = true:=beq_iff_eq.mpr c12;clear c12;have H' := Ad.mk H;clear H;go_wp2
                    go_meet
                    case rel => exact ⟨_,((a0.toList == ([62] : List UInt8))),YF,H',⟨by have:=HJ6.out;first|omega|exact Nat.le_refl _⟩,by repeat (first|exact au.refl _|apply au.step)⟩
                  · rw [if_neg c12] at H;have E8 : (a0.toList == ([62] : List UInt8)) = false:=beq_eq_false_iff_ne.mpr c12;by_cases c13 : a0.toList = ([60,61] : List UInt8)
                    · rw [if_pos c13] at H;have wL : (a0.toList == ([60,61] : List UInt8)) = true:=beq_iff_eq.mpr c13;clear c13;have H' := Ad.mk H;clear H;go_wp2
                      go_meet
                      case rel => exact ⟨_,((a0.toList == ([60,61] : List UInt8))),YF,H',⟨by have:=HJ6.out;first|omega|exact Nat.le_refl _⟩,by repeat (first|exact au.refl _|apply au.step)⟩
                    · rw [if_neg c13] at H;have wL : (a0.toList == ([60,61] : List UInt8)) = false:=beq_eq_false_iff_ne.mpr c13;have H' := Ad.mk H;clear H;go_wp2
                      go_meet
                      case rel => exact ⟨_,((a0.toList == ([62,61] : List UInt8))),YF,H',⟨by have:=HJ6.out;first|omega|exact Nat.le_refl _⟩,by repeat (first|exact au.refl _|apply au.step)⟩
               case rest =>
                clear MZ;try clear c2
                try clear lD
                try clear c3
                try clear kH
                try clear c4
                try clear lS
                try clear c5
                try clear lq
                try clear c6
                try clear oG
                try clear c9
                obtain ⟨kq,KW,rfl,HA,HJ9,⟨mc9,rfl⟩⟩:=hcut;cases kq with
                | zero => exact absurd HA.out (by simp [aA.j1])
                | succ kj9 =>
                 have H:=HA.out;clear HA;simp only [aA.j1] at H;by_cases c14 : KW = true
                 · subst c14;have H1 : (some 8) = some r:=by rw [if_pos rfl] at H;exact H
                   clear H;have H:=H1;clear H1;obtain rfl:=Option.some.inj H;go_wp2
                   go_ret
                   exact ⟨by first|rfl|(simp;done)|(simp [*];done),by repeat (first|exact au.refl _|apply au.step)⟩
                 · replace c14:=Bool.eq_false_iff.mpr c14;subst c14;have H1 : (if a0.toList = ([60,60] : List UInt8) then (aA.j2 kj9 a0 (a0.toList == ([60,60] : List UInt8))) else (aA.j2 kj9 a0 (a0.toList == ([62,62] : List UInt8)))) = some r:=by rw [if_neg (show ¬ (false = true) by decide)] at H;exact H
                   clear H;have H:=H1;clear H1;have HC15:=Am H;clear H;go_upto_if 22 with (fail)
                   go_cut [22] (fun v22 wc => ∃ (kq : Nat) (Eo : Bool),v22 = .bool Eo ∧ Ad (aA.j2 kq a0 Eo = some r) ∧ Ad (kq ≤ kj9) ∧ au w wc)
                   case first =>
                    have H:=HC15.out;clear HC15;by_cases c16 : a0.toList = ([60,60] : List UInt8)
                    · rw [if_pos c16] at H;have pY : (a0.toList == ([60,60] : List UInt8)) = true:=beq_iff_eq.mpr c16;clear c16;(first|rw [pY]|(simp only [bY];rw [pY])|skip);have H' := Ad.mk H;clear H;go_wp2
                      go_meet
                      case rel => exact ⟨_,((a0.toList == ([60,60] : List UInt8))),YF,H',⟨by have:=HJ6.out;have:=HJ9.out;first|omega|exact Nat.le_refl _⟩,by repeat (first|exact au.refl _|apply au.step)⟩
                    · rw [if_neg c16] at H;have pY : (a0.toList == ([60,60] : List UInt8)) = false:=beq_eq_false_iff_ne.mpr c16;(first|rw [pY]|(simp only [bY];rw [pY])|skip);have H' := Ad.mk H;clear H;go_wp2
                      go_meet
                      case rel => exact ⟨_,((a0.toList == ([62,62] : List UInt8))),YF,H',⟨by have:=HJ6.out;have:=HJ9.out;first|omega|exact Nat.le_refl _⟩,by repeat (first|exact au.refl _|apply au.step)⟩
                   case rest =>
                    clear HC15;try clear c2
                    try clear lD
                    try clear c3
                    try clear kH
                    try clear c4
                    try clear lS
                    try clear c5
                    try clear lq
                    try clear c6
                    try clear oG
                    try clear c9
                    try clear c14
                    obtain ⟨kq,Eo,rfl,HA,HJ14,⟨mc14,rfl⟩⟩:=hcut;cases kq with
                    | zero => exact absurd HA.out (by simp [aA.j2])
                    | succ kj14 =>
                     have H:=HA.out;clear HA;simp only [aA.j2] at H;by_cases c17 : Eo = true
                     · subst c17;have H1 : (some 9) = some r:=by rw [if_pos rfl] at H;exact H
                       clear H;have H:=H1;clear H1;obtain rfl:=Option.some.inj H;go_wp2
                       go_ret
                       exact ⟨by first|rfl|(simp;done)|(simp [*];done),by repeat (first|exact au.refl _|apply au.step)⟩
                     · replace c17:=Bool.eq_false_iff.mpr c17;subst c17;have H1 : (if a0.toList = ([43] : List UInt8) then (some 10) else (if a0.toList = ([45] : List UInt8) then (some 10) else (some 11))) = some r:=by rw [if_neg (show ¬ (false = true) by decide)] at H;exact H
                       clear H;have H:=H1;clear H1;by_cases c18 : a0.toList = ([43] : List UInt8)
                       · rw [if_pos c18] at H;have zk : (a0.toList == ([43] : List UInt8)) = true:=beq_iff_eq.mpr c18;clear c18;obtain rfl:=Option.some.inj H;go_wp2
                         go_ret
                         exact ⟨by first|rfl|(simp;done)|(simp [*];done),by repeat (first|exact au.refl _|apply au.step)⟩
                       · rw [if_neg c18] at H;have zk : (a0.toList == ([43] : List UInt8)) = false:=beq_eq_false_iff_ne.mpr c18;by_cases c19 : a0.toList = ([45] : List UInt8)
                         · rw [if_pos c19] at H;have uS : (a0.toList == ([45] : List UInt8)) = true:=beq_iff_eq.mpr c19;clear c19;obtain rfl:=Option.some.inj H;go_wp2
                           go_ret
                           exact ⟨by first|rfl|(simp;done)|(simp [*];done),by repeat (first|exact au.refl _|apply au.step)⟩
                         · rw [if_neg c19] at H;have uS : (a0.toList == ([45] : List UInt8)) = false:=beq_eq_false_iff_ne.mpr c19;obtain rfl:=Option.some.inj H;go_wp2
                           go_ret
                           exact ⟨by first|rfl|(simp;done)|(simp [*];done),by repeat (first|exact au.refl _|apply au.step)⟩
def dB.j0 : Nat → Int → Bool → Int → ByteArray → Int → Bool → List (ak) → Int → Option (Int)
 | 0,_,_,_,_,_,_,_,_ => none
 | k + 1,x4,x9,x102000,x102001,x102002,x102003,x102004,x102005 => if x9 = true then ((aA.f k x102001).bind fun Na => (some Na)) else (if x4 = 9 then (some 12) else (if x4 = 14 then (some 12) else (if x4 = 15 then (some 12) else (some 13))))
def dB.f (k : Nat) (ay : Int) (aN : ByteArray) (aY : Int) (aZ : Bool) (ah : List (ak)) (bn : Int) : Option (Int):=if ay = 13 then (some 0) else (if ay = 12 then (some 1) else (if ay = 10 then (dB.j0 k ay (ay == 10) ay aN aY aZ ah bn) else (dB.j0 k ay (ay == 11) ay aN aY aZ ah bn)))
theorem dB.calls (k : Nat) (ay : Int) (aN : ByteArray) (aY : Int) (aZ : Bool) (bM : Option Addr) (bG : Nat) (ah : List (ak)) (bn : Int) (r : Int) (w : World) (gK : Kd.C k25 w bM ah.length ah) (iD : ah.length ≤ bG) (h : dB.f k ay aN aY aZ ah bn = some r) :
 Calls Tryz.prog 89 #[.agg #[.int .i64 ay,.string aN,.int .u32 aY,.bool aZ,.slice bM ah.length bG,.int .i64 bn]] w fun e w' => e = .returned (.int .i64 r) ∧ Below w.heap.size w w' := by
 have vC:=Tryz.underlying25;clear gK iD;have HB:=Am (Below.refl w.heap.size w);have H : (if ay = 13 then (some 0) else (if ay = 12 then (some 1) else (if ay = 10 then (dB.j0 k ay (ay == 10) ay aN aY aZ ah bn) else (dB.j0 k ay (ay == 11) ay aN aY aZ ah bn)))) = some r:=h;clear h;by_cases c2 : ay = 13
 · rw [if_pos c2] at H;have lD : (ay == 13) = true:=beq_iff_eq.mpr c2;clear c2;obtain rfl:=Option.some.inj H;go_enter Tryz.func89,Tryz.ntmps89
   go_wp2_with (first|((with_reducible refine jM (N:=1) rfl ?_);refine kL ?hg (N:=1) ?hd (cs:=#[.int .i64 ay,.string aN,.int .u32 aY,.bool aZ,.slice bM ah.length bG,.int .i64 bn]) (t:=25) ?hr ?_;(case hd => rfl);(case hg => rfl);(case hr => first|(go_simp;done)|(go_simp;rfl));intro dY hg w3 hbox hb;have aX:=Am (Z25 YH hb);have bf:=Am (hbox);have dh:=Am ((YW hg : w.heap.size ≤ dY));have dQ:=Am ((YW hg : w.heap.size ≤ dY));clear HB;have HB:=aX;have eP:=bf;have sV:=dh;have jG:=dQ;clear aX bf dh dQ;clear hb hbox hg;have yE : w3.cell? ⟨dY,0,none⟩ = some (.int .i64 ay):=(Z5 eP.out 0).trans rfl))
   go_ret
   exact ⟨by first|rfl|(simp [dO,dP] <;> rfl)|(simp [*,dO,dP] <;> rfl),by repeat (first|(with_reducible first|exact HB.out|apply Z7|apply Z4|apply Z6|refine Z8 ?_ jG.out)|exact HB.out)⟩
 · rw [if_neg c2] at H;have lD : (ay == 13) = false:=beq_eq_false_iff_ne.mpr c2;by_cases c5 : ay = 12
   · rw [if_pos c5] at H;have lq : (ay == 12) = true:=beq_iff_eq.mpr c5;clear c5;obtain rfl:=Option.some.inj H;go_enter Tryz.func89,Tryz.ntmps89
     go_wp2_with (first|((with_reducible refine jM (N:=1) rfl ?_);refine kL ?hg (N:=1) ?hd (cs:=#[.int .i64 ay,.string aN,.int .u32 aY,.bool aZ,.slice bM ah.length bG,.int .i64 bn]) (t:=25) ?hr ?_;(case hd => rfl);(case hg => rfl);(case hr => first|(go_simp;done)|(go_simp;rfl));intro dY hg w6 hbox hb;have aX:=Am (Z25 YH hb);have bf:=Am (hbox);have dh:=Am ((YW hg : w.heap.size ≤ dY));have dQ:=Am ((YW hg : w.heap.size ≤ dY));clear HB;have HB:=aX;have eP:=bf;have sV:=dh;have jG:=dQ;clear aX bf dh dQ;clear hb hbox hg;have yG : w6.cell? ⟨dY,0,none⟩ = some (.int .i64 ay):=(Z5 eP.out 0).trans rfl))
     go_ret
     exact ⟨by first|rfl|(simp [dO,dP] <;> rfl)|(simp [*,dO,dP] <;> rfl),by repeat (first|(with_reducible first|exact HB.out|apply Z7|apply Z4|apply Z6|refine Z8 ?_ jG.out)|exact HB.out)⟩
   · rw [if_neg c5] at H;have lq : (ay == 12) = false:=beq_eq_false_iff_ne.mpr c5;have HC8:=Am H;clear H;go_enter Tryz.func89,Tryz.ntmps89
     go_upto_if 9 with (first|((with_reducible refine jM (N:=1) rfl ?_);refine kL ?hg (N:=1) ?hd (cs:=#[.int .i64 ay,.string aN,.int .u32 aY,.bool aZ,.slice bM ah.length bG,.int .i64 bn]) (t:=25) ?hr ?_;(case hd => rfl);(case hg => rfl);(case hr => first|(go_simp;done)|(go_simp;rfl));intro dY hg w9 hbox hb;have aX:=Am (Z25 YH hb);have bf:=Am (hbox);have dh:=Am ((YW hg : w.heap.size ≤ dY));have dQ:=Am ((YW hg : w.heap.size ≤ dY));clear HB;have HB:=aX;have eP:=bf;have sV:=dh;have jG:=dQ;clear aX bf dh dQ;clear hb hbox hg;have rD : w9.cell? ⟨dY,0,none⟩ = some (.int .i64 ay):=(Z5 eP.out 0).trans rfl))
     (try simp only [Act.put,Y1,Y2,Y3]);go_cut [9] (fun v9 wc => ∃ (kq : Nat) (DW : Bool),v9 = .bool DW ∧ Ad (dB.j0 kq ay DW ay aN aY aZ ah bn = some r) ∧ Ad (kq ≤ k) ∧ Ad (wc.heap[dY]? = some (.cells #[.int .i64 ay,.string aN,.int .u32 aY,.bool aZ,(.slice bM ah.length bG),.int .i64 bn] 25 (0,0))) ∧ Ad (Below w.heap.size w wc))
     case first =>
      have H:=HC8.out;clear HC8;by_cases c11 : ay = 10
      · rw [if_pos c11] at H;have kM : (ay == 10) = true:=beq_iff_eq.mpr c11;clear c11;(first|rw [kM]|(simp only [bY];rw [kM])|skip);have H' := Ad.mk H;clear H;go_wp2
        go_meet
        case rel => exact ⟨_,((ay == 10)),YF,H',⟨by first|omega|exact Nat.le_refl _⟩,⟨YK eP⟩,⟨YH⟩⟩
      · rw [if_neg c11] at H;have kM : (ay == 10) = false:=beq_eq_false_iff_ne.mpr c11;(first|rw [kM]|(simp only [bY];rw [kM])|skip);have H' := Ad.mk H;clear H;go_wp2
        go_meet
        case rel => exact ⟨_,((ay == 11)),YF,H',⟨by first|omega|exact Nat.le_refl _⟩,⟨YK eP⟩,⟨YH⟩⟩
     case rest =>
      clear HC8;try clear c2
      try clear lD
      try clear c5
      try clear lq
      try clear rD
      obtain ⟨kq,DW,rfl,HA,HJ7,eP,HB⟩:=hcut;cases kq with
      | zero => exact absurd HA.out (by simp [dB.j0])
      | succ kj7 =>
       have H:=HA.out;clear HA;simp only [dB.j0] at H;by_cases c12 : DW = true
       · subst c12;have H1 : ((aA.f kj7 aN).bind fun Na => (some Na)) = some r:=by rw [if_pos rfl] at H;exact H
         clear H;have H:=H1;clear H1;replace H:=Option.bind_eq_some_iff.mp H;obtain ⟨Na,A130,H⟩:=H;replace H : (some Na) = some r:=H;have A13:=Am A130;clear A130;obtain rfl:=Option.some.inj H;have hcz14_1 : wc.cell? ⟨dY,1,none⟩ = some (.string aN):=(Z5 eP.out 1).trans rfl;go_wp2_with (first|((with_reducible refine sU (f:=107) rfl ?_);refine fV (some 14) rfl rfl Tryz.func107 (by kernel_rfl) rfl #[.string aN] rfl (by (try simp only [List.map_toArray,List.map_cons,List.map_nil]);first|done|rfl|(simp only [List.length_drop,List.length_take];rfl)) ?_;(with_reducible refine (aA.calls kj7 aN Na _ A13.out).mono ?_);rintro e w' ⟨rfl,⟨nd,rfl⟩⟩;refine ⟨_,rfl,?_⟩))
         go_ret
         exact ⟨by first|rfl|(simp [dO,dP] <;> rfl)|(simp [*,dO,dP] <;> rfl),by repeat (first|(with_reducible first|exact HB.out|apply Z7|apply Z4|apply Z6|refine Z8 ?_ jG.out)|exact HB.out)⟩
       · replace c12:=Bool.eq_false_iff.mpr c12;subst c12;have H1 : (if ay = 9 then (some 12) else (if ay = 14 then (some 12) else (if ay = 15 then (some 12) else (some 13)))) = some r:=by rw [if_neg (show ¬ (false = true) by decide)] at H;exact H
         clear H;have H:=H1;clear H1;by_cases c15 : ay = 9
         · rw [if_pos c15] at H;have BR : (ay == 9) = true:=beq_iff_eq.mpr c15;clear c15;obtain rfl:=Option.some.inj H;go_wp2
           go_ret
           exact ⟨by first|rfl|(simp [dO,dP] <;> rfl)|(simp [*,dO,dP] <;> rfl),by repeat (first|(with_reducible first|exact HB.out|apply Z7|apply Z4|apply Z6|refine Z8 ?_ jG.out)|exact HB.out)⟩
         · rw [if_neg c15] at H;have BR : (ay == 9) = false:=beq_eq_false_iff_ne.mpr c15;by_cases c16 : ay = 14
           · rw [if_pos c16] at H;have pY : (ay == 14) = true:=beq_iff_eq.mpr c16;clear c16;obtain rfl:=Option.some.inj H;go_wp2
             go_ret
             exact ⟨by first|rfl|(simp [dO,dP] <;> rfl)|(simp [*,dO,dP] <;> rfl),by repeat (first|(with_reducible first|exact HB.out|apply Z7|apply Z4|apply Z6|refine Z8 ?_ jG.out)|exact HB.out)⟩
           · rw [if_neg c16] at H;have pY : (ay == 14) = false:=beq_eq_false_iff_ne.mpr c16;by_cases c17 : ay = 15
             · rw [if_pos c17] at H;have xu : (ay == 15) = true:=beq_iff_eq.mpr c17;clear c17;obtain rfl:=Option.some.inj H;go_wp2
               go_ret
               exact ⟨by first|rfl|(simp [dO,dP] <;> rfl)|(simp [*,dO,dP] <;> rfl),by repeat (first|(with_reducible first|exact HB.out|apply Z7|apply Z4|apply Z6|refine Z8 ?_ jG.out)|exact HB.out)⟩
             · rw [if_neg c17] at H;have xu : (ay == 15) = false:=beq_eq_false_iff_ne.mpr c17;obtain rfl:=Option.some.inj H;go_wp2
               go_ret
               exact ⟨by first|rfl|(simp [dO,dP] <;> rfl)|(simp [*,dO,dP] <;> rfl),by repeat (first|(with_reducible first|exact HB.out|apply Z7|apply Z4|apply Z6|refine Z8 ?_ jG.out)|exact HB.out)⟩
def aW.l0 : Nat → Int → List Int → Option (ByteArray)
 | 0,_,_ => none
 | k + 1,x0,x3 => if x0 > 0 then ((some (([((48 + (Int.tmod x0 10)) % 4294967296) % 256] : List Int) : List Int)).bind fun Gu => (if Gu.length + x3.length < 140737488355328 then (aW.l0 k ((Int.tdiv x0 10) % 4294967296) (Gu ++ x3)) else (none))) else (if (x3.length : Int) = 0 then ((some (([((48 + (Int.tmod x0 10)) % 4294967296) % 256] : List Int) : List Int)).bind fun y112 => (if y112.length + x3.length < 140737488355328 then (aW.l0 k ((Int.tdiv x0 10) % 4294967296) (y112 ++ x3)) else (none))) else (some (strOfNums x3)))
def aW.f (k : Nat) (a0 : Int) : Option (ByteArray):=aW.l0 k a0 (([] : List Int))
theorem aW.calls (k : Nat) (a0 : Int) (r : ByteArray) (w : World) (h : aW.f k a0 = some r) :
 Calls Tryz.prog 122 #[.int .u32 a0] w fun e w' => e = .returned (.string r) ∧ Below w.heap.size w w' := by
 have HB:=Am (Below.refl w.heap.size w);have H : (aW.l0 k a0 (([] : List Int))) = some r:=h;clear h;obtain ⟨y103,Gv⟩ : ∃ y_ : List Int,y_ = (([] : List Int)):=⟨_,rfl⟩
 replace H : (aW.l0 k a0 y103) = some r:=by first|(rw [Gv];with_reducible exact H)|(have gU:=(Option.bind_some _ _).symm.trans H;rw [Gv];with_reducible exact gU)|(have gU:=(Option.bind_some _ _).symm.trans H;with_reducible exact gU)|with_reducible exact H|(rw [Gv];exact H)|exact H
 have Ny103:=Am Gv;clear Gv;have H' := Ad.mk H;clear H;go_enter Tryz.func122,Tryz.ntmps122
 go_wp2_with (first|((with_reducible refine jM (N:=4) rfl ?_);(try (refine uQ (by rfl) ?_;dsimp only));refine Kd.rW (Kd.int .u8) _ 5 ?hg (N:=4) ?hd (xs:=([] : List Int)) (inner:=[]) (ok:=fun _ => True) (sH:=fun _ => True) ?hr ?hp (fun _ hk => hk) trivial (Below.refl _ _) (Nat.le_refl _) (by simp) ?_;(case hd => rfl);(case hg => rfl);(case hr => first|(go_simp;done)|(go_simp;rfl));(case hp => exact (fC.none _ _));intro v104 w2 ho3 hb vI ji;clear vI ji;(first|rw [← Ny103.out] at ho3|(simp only [Int.reduceToNat] at ho3;rw [← Ny103.out] at ho3));have aX:=Am (Kd.jy ho3 (uK YH));have bf:=Am (Z25 YH hb);clear HB;have HO105:=aX;have HB:=bf;clear aX bf;clear hb ho3))
 go_loopg [0,3] k (fun kq v0 v3 w' => ∃ (pF : Int) (bC : List Int),v0 = .int .u32 pF ∧ Ad (aW.l0 kq pF bC = some r) ∧ Ad (kq ≤ k) ∧ Ad (Kd.R (Kd.int .u8) 5 w' w.heap.size (fun _ => True) v3 bC) ∧ Ad (Below w.heap.size w w'))
 case atStart => exact ⟨(a0),(y103),YF,H',⟨Nat.le_refl _⟩,⟨YR HO105⟩,⟨YH⟩⟩
 case round =>
  clear H';obtain ⟨pF,bC,rfl,HA,dN,dH,HB⟩:=hrel;cases gk with
  | zero => exact absurd HA.out (by simp [aW.l0])
  | succ k1 =>
   have H:=HA.out;clear HA;simp only [aW.l0] at H;by_cases c4 : pF > 0
   · rw [if_pos c4] at H;have lS : decide (0 < pF) = true:=decide_eq_true c4;clear c4;obtain ⟨Gu,Gw⟩ : ∃ y_ : List Int,y_ = (([((48 + (Int.tmod pF 10)) % 4294967296) % 256] : List Int)):=⟨_,rfl⟩
     replace H : (if Gu.length + bC.length < 140737488355328 then (aW.l0 k1 ((Int.tdiv pF 10) % 4294967296) (Gu ++ bC)) else (none)) = some r:=by first|(rw [Gw];with_reducible exact H)|(have gU:=(Option.bind_some _ _).symm.trans H;rw [Gw];with_reducible exact gU)|(have gU:=(Option.bind_some _ _).symm.trans H;with_reducible exact gU)|with_reducible exact H|(rw [Gw];exact H)|exact H
     have Ny106:=Am Gw;clear Gw;by_cases c5 : Gu.length + bC.length < 140737488355328
     · rw [if_pos c5] at H;have LMc5:=Am c5;clear c5;obtain ⟨y109,Gx⟩ : ∃ y_ : List Int,y_ = (Gu ++ bC):=⟨_,rfl⟩
       replace H : (aW.l0 k1 ((Int.tdiv pF 10) % 4294967296) y109) = some r:=by first|(rw [Gx];with_reducible exact H)|(have gU:=(Option.bind_some _ _).symm.trans H;rw [Gx];with_reducible exact gU)|(have gU:=(Option.bind_some _ _).symm.trans H;with_reducible exact gU)|with_reducible exact H|(rw [Gx];exact H)|exact H
       have Ny109:=Am Gx;clear Gx;have H' := Ad.mk H;clear H;go_wp2_with (first|((with_reducible refine jM (N:=16) rfl ?_);(try (refine uQ (by rfl) ?_;dsimp only));refine Kd.rW (Kd.int .u8) _ 5 ?hg (N:=16) ?hd (xs:=([((48 + (Int.tmod pF 10)) % 4294967296) % 256] : List Int)) (inner:=[.int .u8 (((48 + (Int.tmod pF 10)) % 4294967296) % 256)]) (ok:=fun _ => True) (sH:=fun _ => True) ?hr ?hp (fun _ hk => hk) trivial (Below.refl _ _) (Nat.le_refl _) (by simp) ?_;(case hd => rfl);(case hg => rfl);(case hr => first|(go_simp;done)|(go_simp;rfl));(case hp => exact (fC.one (show Kd.M (Kd.int .u8) _ _ _ (((48 + (Int.tmod pF 10)) % 4294967296) % 256) [.int .u8 (((48 + (Int.tmod pF 10)) % 4294967296) % 256)] from rfl) (fC.none _ _)));intro v107 w6 ho7 hb vI ji;clear vI ji;(first|rw [← Ny106.out] at ho7|(simp only [Int.reduceToNat] at ho7;rw [← Ny106.out] at ho7));have aX:=Am (Kd.jV (YR dH) (Kd.nJ ho7) hb);have bf:=Am (Kd.jy (Kd.nK ho7 (Kd.nT (YR dH))) (uK YH));have dh:=Am (Z25 YH hb);clear dH;clear HB;have dH:=aX;have HO108:=bf;have HB:=dh;clear aX bf dh;clear hb ho7;obtain ⟨Ao9,co9,eo9⟩:=Kd.kK dH.out;subst eo9)|((with_reducible refine Nr (b:=.append) (xs:=#[.tmp 16,.tmp 17]) rfl ?_);(try (refine uQ (by rfl) ?_;dsimp only));at_builtin;refine Kd.jd (Kd.int .u8) (w0:=w) w.heap.size rfl (.tmp 16) (.tmp 17) 40 5 (.int .u8 0) 1 rfl Tryz.underlying40 info5 rfl (by decide) (by omega) v107 Gu bC _ _ _ (fun k_ => some k_ ≠ (.slice Ao9 bC.length co9 : Value).ownBlock) (fun _ => False) rfl rfl ?aO ?aR (fun _ _ h => h) (fun _ h => h.elim) ?aF ?aB ?aS ?aL ?_;(case aR => repeat (first|exact (Kd.jA dH.out).2.2|(with_reducible refine Kd.fA ?_ _)|(with_reducible refine Kd.fB ?_ _)|(with_reducible refine Kd.gB ?_)));(case aB => exact YH);(case aF => exact (fun k_ hk => Kd.fresh' (Kd.nT (YR dH)) k_ hk));(case aO => exact (Yr (Kd.iy HO108.out (fun _ hk => hk.2))));(case aS => exact (uK YH));(case aL => have:=LMc5.out;omega);intro v110 w8 ho hb hg hat;rw [← Ny109.out] at ho;have aX:=Am (Kd.lH (ok:=(fun _ => True)) (YR dH) hg hat);have bf:=Am (hb);have dh:=Am (ho);clear dH;clear HB;clear HO108;have dH:=aX;have HB:=bf;have HO111:=dh;clear aX bf dh;clear ho hb hg hat))
       go_roundg k1
       case measure => have:=dN.out;omega
       case rel => exact ⟨((Int.tdiv pF 10) % 4294967296),(y109),YF,H',⟨by have:=dN.out;omega⟩,⟨Yr (Kd.iy HO111.out (fun _ hk => trivial))⟩,⟨YH⟩⟩
     · rw [if_neg c5] at H;exact absurd H (by simp)
   · rw [if_neg c4] at H;have lS : decide (0 < pF) = false:=decide_eq_false c4;clear c4;by_cases c10 : (bC.length : Int) = 0
     · rw [if_pos c10] at H;have wK : ((bC.length : Int) == 0) = true:=beq_iff_eq.mpr c10;clear c10;obtain ⟨y112,hy112⟩ : ∃ y_ : List Int,y_ = (([((48 + (Int.tmod pF 10)) % 4294967296) % 256] : List Int)):=⟨_,rfl⟩
       replace H : (if y112.length + bC.length < 140737488355328 then (aW.l0 k1 ((Int.tdiv pF 10) % 4294967296) (y112 ++ bC)) else (none)) = some r:=by first|(rw [hy112];with_reducible exact H)|(have gU:=(Option.bind_some _ _).symm.trans H;rw [hy112];with_reducible exact gU)|(have gU:=(Option.bind_some _ _).symm.trans H;with_reducible exact gU)|with_reducible exact H|(rw [hy112];exact H)|exact H
       have Ny112:=Am hy112;clear hy112;by_cases c11 : y112.length + bC.length < 140737488355328
       · rw [if_pos c11] at H;have LMc11:=Am c11;clear c11;obtain ⟨y115,hy115⟩ : ∃ y_ : List Int,y_ = (y112 ++ bC):=⟨_,rfl⟩
         replace H : (aW.l0 k1 ((Int.tdiv pF 10) % 4294967296) y115) = some r:=by first|(rw [hy115];with_reducible exact H)|(have gU:=(Option.bind_some _ _).symm.trans H;rw [hy115];with_reducible exact gU)|(have gU:=(Option.bind_some _ _).symm.trans H;with_reducible exact gU)|with_reducible exact H|(rw [hy115];exact H)|exact H
         have Ny115:=Am hy115;clear hy115;have H' := Ad.mk H;clear H;obtain ⟨Ao12,co12,eo12⟩:=Kd.kK dH.out;subst eo12;go_wp2_with (first|((with_reducible refine jM (N:=16) rfl ?_);(try (refine uQ (by rfl) ?_;dsimp only));refine Kd.rW (Kd.int .u8) _ 5 ?hg (N:=16) ?hd (xs:=([((48 + (Int.tmod pF 10)) % 4294967296) % 256] : List Int)) (inner:=[.int .u8 (((48 + (Int.tmod pF 10)) % 4294967296) % 256)]) (ok:=fun _ => True) (sH:=fun _ => True) ?hr ?hp (fun _ hk => hk) trivial (Below.refl _ _) (Nat.le_refl _) (by simp) ?_;(case hd => rfl);(case hg => rfl);(case hr => first|(go_simp;done)|(go_simp;rfl));(case hp => exact (fC.one (show Kd.M (Kd.int .u8) _ _ _ (((48 + (Int.tmod pF 10)) % 4294967296) % 256) [.int .u8 (((48 + (Int.tmod pF 10)) % 4294967296) % 256)] from rfl) (fC.none _ _)));intro v113 Ns Nb hb vI ji;clear vI ji;(first|rw [← Ny112.out] at Nb|(simp only [Int.reduceToNat] at Nb;rw [← Ny112.out] at Nb));have aX:=Am (Kd.jV (YR dH) (Kd.nJ Nb) hb);have bf:=Am (Kd.jy (Kd.nK Nb (Kd.nT (YR dH))) (uK YH));have dh:=Am (Z25 YH hb);clear dH;clear HB;have dH:=aX;have HO114:=bf;have HB:=dh;clear aX bf dh;clear hb Nb)|((with_reducible refine Nr (b:=.append) (xs:=#[.tmp 16,.tmp 17]) rfl ?_);(try (refine uQ (by rfl) ?_;dsimp only));at_builtin;refine Kd.jd (Kd.int .u8) (w0:=w) w.heap.size rfl (.tmp 16) (.tmp 17) 40 5 (.int .u8 0) 1 rfl Tryz.underlying40 info5 rfl (by decide) (by omega) v113 y112 bC _ _ _ (fun k_ => some k_ ≠ (.slice Ao12 bC.length co12 : Value).ownBlock) (fun _ => False) rfl rfl ?aO ?aR (fun _ _ h => h) (fun _ h => h.elim) ?aF ?aB ?aS ?aL ?_;(case aR => repeat (first|exact (Kd.jA dH.out).2.2|(with_reducible refine Kd.fA ?_ _)|(with_reducible refine Kd.fB ?_ _)|(with_reducible refine Kd.gB ?_)));(case aB => exact YH);(case aF => exact (fun k_ hk => Kd.fresh' (Kd.nT (YR dH)) k_ hk));(case aO => exact (Yr (Kd.iy HO114.out (fun _ hk => hk.2))));(case aS => exact (uK YH));(case aL => have:=LMc11.out;omega);intro v116 w15 ho hb hg hat;rw [← Ny115.out] at ho;have aX:=Am (Kd.lH (ok:=(fun _ => True)) (YR dH) hg hat);have bf:=Am (hb);have dh:=Am (ho);clear dH;clear HB;clear HO114;have dH:=aX;have HB:=bf;have HO117:=dh;clear aX bf dh;clear ho hb hg hat))
         go_roundg k1
         case measure => have:=dN.out;omega
         case rel => exact ⟨((Int.tdiv pF 10) % 4294967296),(y115),YF,H',⟨by have:=dN.out;omega⟩,⟨Yr (Kd.iy HO117.out (fun _ hk => trivial))⟩,⟨YH⟩⟩
       · rw [if_neg c11] at H;exact absurd H (by simp)
     · rw [if_neg c10] at H;have wK : ((bC.length : Int) == 0) = false:=beq_eq_false_iff_ne.mpr c10;obtain rfl:=Option.some.inj H;obtain ⟨Ao16,co16,eo16⟩:=Kd.kK dH.out;subst eo16;have hcv17:=oC (P:=Tryz.prog) Tryz.underlying40 Tryz.underlying5 Tryz.underlying9 (Kd.zT dH.out);go_wp2
       go_ret
       exact ⟨by first|rfl|(simp [dO,dP] <;> rfl)|(simp [*,dO,dP] <;> rfl),by repeat (first|(with_reducible first|exact HB.out|apply Z7|apply Z4|apply Z6)|exact HB.out)⟩
end Go.Proofs.YtboojhadfhpdeaaGreatDoor.Q
