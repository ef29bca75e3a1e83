/- A part of the proof, made small by a program: Scope. -/
import Derived.Deep.LoopGhost
import Derived.ScopeJumps
namespace Go.Proofs.Ytbklmnieakefnaa
open Go
def two (K0 K1 : Act → World → Prop) (Q : Exit → Act → World → Prop) : Exit → Act → World → Prop
 | .goto 0,a,w => K0 a w
 | .goto 1,a,w => K1 a w
 | .goto _,_,_ => False
 | e,a,w => Q e a w
section
variable {P : Program} {a : Act} {w : World} {Q : Exit → Act → World → Prop} {K0 K1 : Act → World → Prop}
@[go_sem] theorem two_goto0 : two K0 K1 Q (.goto 0) a w = K0 a w:=rfl
@[go_sem] theorem two_goto1 : two K0 K1 Q (.goto 1) a w = K1 a w:=rfl
@[go_sem] theorem two_normal : two K0 K1 Q .normal a w = Q .normal a w:=rfl
@[go_sem] theorem two_exit (i : Nat) : two K0 K1 Q (.exit i) a w = Q (.exit i) a w:=rfl
@[go_sem] theorem two_ret : two K0 K1 Q .ret a w = Q .ret a w:=rfl
theorem wp_scope_two {c r0 r1 : Code} (h0 : findLabel c 0 = some (.seq .skip r0)) (h1 : findLabel c 1 = some (.seq .skip r1)) (J0 J1 : Nat → Act → World → Prop)
 (p1 : ∀ n a w,J1 n a w → ∀ K0 K1 : Act → World → Prop,(∀ m a w,m < n → J0 m a w → K0 a w) → (∀ m a w,m < n → J1 m a w → K1 a w) → r1.wp P (two K0 K1 Q) a w)
 (p0 : ∀ n a w,J0 n a w → ∀ K0 K1 : Act → World → Prop,(∀ m a w,m < n → J0 m a w → K0 a w) → (∀ m a w,m < n → J1 m a w → K1 a w) → (∀ m a w,m < n → J1 m a w → r1.wp P (two K0 K1 Q) a w) → r0.wp P (two K0 K1 Q) a w)
 (first : ∀ K0 K1 : Act → World → Prop,(∀ n a w,J0 n a w → r0.wp P (two K0 K1 Q) a w) → c.wp P (two K0 K1 Q) a w) : (Code.scope c).wp P Q a w:=by
 have pass0 : ∀ n a w,J0 n a w → r0.wp P (two (fun a w => ∃ m,m < n ∧ J0 m a w) (fun a w => ∃ m,m < n ∧ J1 m a w) Q) a w:=by
  intro n a w h;refine p0 n a w h _ _ (fun m a w hm hj => ⟨m,hm,hj⟩) (fun m a w hm hj => ⟨m,hm,hj⟩) ?_;intro m a w hm hj;exact p1 m a w hj _ _ (fun m' a w hm' hj => ⟨m',Nat.lt_trans hm' hm,hj⟩) (fun m' a w hm' hj => ⟨m',Nat.lt_trans hm' hm,hj⟩)
 have pass1 : ∀ n a w,J1 n a w → r1.wp P (two (fun a w => ∃ m,m < n ∧ J0 m a w) (fun a w => ∃ m,m < n ∧ J1 m a w) Q) a w:=fun n a w h =>
  p1 n a w h _ _ (fun m a w hm hj => ⟨m,hm,hj⟩) (fun m a w hm hj => ⟨m,hm,hj⟩)
 have start : c.wp P (two (fun a w => ∃ m,J0 m a w) (fun a w => ∃ m,J1 m a w) Q) a w:=by
  refine first _ _ ?_
  intro n a w h;refine wp_mono (pass0 n a w h) ?_;intro e a w hq;cases e with
  | goto l =>
   match l,hq with
   | 0,⟨m,_,hj⟩ => exact ⟨m,hj⟩
   | 1,⟨m,_,hj⟩ => exact ⟨m,hj⟩
  | normal => exact hq
  | exit id => exact hq
  | ret => exact hq
  | panic ch => exact hq
  | outgrown => exact hq
 intro b k cs;have hg0 : gotoIn 0 (.inScope c :: k) = some (.code (.seq .skip r0) :: .inScope c :: k):=by simp [gotoIn,h0]
 have hg1 : gotoIn 1 (.inScope c :: k) = some (.code (.seq .skip r1) :: .inScope c :: k):=by simp [gotoIn,h1]
 have key : ∀ n,(∀ a w,J0 n a w → ∃ e a' w',Q e a' w' ∧ Arrives P (lone (b.at a (.code (.seq .skip r0) :: .inScope c :: k)) cs w) b k cs e a' w') ∧
  (∀ a w,J1 n a w → ∃ e a' w',Q e a' w' ∧ Arrives P (lone (b.at a (.code (.seq .skip r1) :: .inScope c :: k)) cs w) b k cs e a' w'):=by
  intro n;induction n using Nat.strongRecOn with
  | _ n ih =>
   have go : ∀ (r : Code) (a : Act) (w : World),r.wp P (two (fun a w => ∃ m,m < n ∧ J0 m a w) (fun a w => ∃ m,m < n ∧ J1 m a w) Q) a w →
    ∃ e a' w',Q e a' w' ∧ Arrives P (lone (b.at a (.code r :: .inScope c :: k)) cs w) b k cs e a' w' := by
    intro r a w hp;obtain ⟨e,a₁,w₁,hq,harr⟩:=hp b (.inScope c :: k) cs;cases e with
    | normal => exact ⟨.normal,a₁,w₁,hq,Steps.trans harr (.one step_inScope)⟩
    | exit id => exact ⟨.exit id,a₁,w₁,hq,fun k' hk => harr k' (by simp [exitTo,hk])⟩
    | goto l =>
     match l,hq,harr with
     | 0,⟨m,hm,hj⟩,harr =>
      obtain ⟨e₂,a₂,w₂,hq₂,harr₂⟩:=(ih m hm).1 a₁ w₁ hj;exact ⟨e₂,a₂,w₂,hq₂,.of_steps (harr _ hg0) harr₂⟩
     | 1,⟨m,hm,hj⟩,harr =>
      obtain ⟨e₂,a₂,w₂,hq₂,harr₂⟩:=(ih m hm).2 a₁ w₁ hj;exact ⟨e₂,a₂,w₂,hq₂,.of_steps (harr _ hg1) harr₂⟩
    | ret => exact ⟨_,a₁,w₁,hq,harr⟩
    | panic ch => exact ⟨_,a₁,w₁,hq,harr⟩
    | outgrown => exact ⟨_,a₁,w₁,hq,harr⟩
   exact ⟨fun a w h => go (.seq .skip r0) a w (wp_seq (wp_skip (pass0 n a w h))),fun a w h => go (.seq .skip r1) a w (wp_seq (wp_skip (pass1 n a w h)))⟩
 obtain ⟨e,a₁,w₁,hq,harr⟩:=start b (.inScope c :: k) cs;cases e with
 | normal => exact ⟨.normal,a₁,w₁,hq,.head step_scope (Steps.trans harr (.one step_inScope))⟩
 | exit id => exact ⟨.exit id,a₁,w₁,hq,fun k' hk => .head step_scope (harr k' (by simp [exitTo,hk]))⟩
 | goto l =>
  match l,hq,harr with
  | 0,⟨m,hj⟩,harr =>
   obtain ⟨e₂,a₂,w₂,hq₂,harr₂⟩:=(key m).1 a₁ w₁ hj;exact ⟨e₂,a₂,w₂,hq₂,.of_steps (.head step_scope (harr _ hg0)) harr₂⟩
  | 1,⟨m,hj⟩,harr =>
   obtain ⟨e₂,a₂,w₂,hq₂,harr₂⟩:=(key m).2 a₁ w₁ hj;exact ⟨e₂,a₂,w₂,hq₂,.of_steps (.head step_scope (harr _ hg1)) harr₂⟩
 | ret => exact ⟨_,a₁,w₁,hq,.of_steps (.one step_scope) harr⟩
 | panic ch => exact ⟨_,a₁,w₁,hq,.of_steps (.one step_scope) harr⟩
 | outgrown => exact ⟨_,a₁,w₁,hq,.of_steps (.one step_scope) harr⟩
end
end Go.Proofs.Ytbklmnieakefnaa
