/- A scope in which the run jumps to one label: what holds at each jump bears a number that every pass lowers. -/
import Derived.ScopeJumps
import Derived.Deep.LoopGhost
import Derived.Test.YtdodmjnicnpefaaSt
namespace Go.Proofs.Ytdodmjnicnpefaa.Q
open Go
/-- As Q; by a goto to label 0: K; by any other goto: no way out. -/
def one (K : Act → World → Prop) (Q : Exit → Act → World → Prop) : Exit → Act → World → Prop
  | .goto 0, a, w => K a w
  | .goto _, _, _ => False
  | e, a, w => Q e a w
section
variable {P : Program} {a : Act} {w : World} {Q : Exit → Act → World → Prop} {K : Act → World → Prop}
@[go_sem] theorem one_goto0 : one K Q (.goto 0) a w = K a w := rfl
@[go_sem] theorem one_normal : one K Q .normal a w = Q .normal a w := rfl
@[go_sem] theorem one_exit (i : Nat) : one K Q (.exit i) a w = Q (.exit i) a w := rfl
@[go_sem] theorem one_ret : one K Q .ret a w = Q .ret a w := rfl
theorem wp_scope_one {c r0 : Code} (h0 : findLabel c 0 = some (.seq .skip r0)) (J : Nat → Act → World → Prop)
    (p0 : ∀ n a w, J n a w → ∀ K : Act → World → Prop, (∀ m a w, m < n → J m a w → K a w) → r0.wp P (one K Q) a w)
    (first : ∀ K : Act → World → Prop, (∀ n a w, J n a w → r0.wp P (one K Q) a w) → c.wp P (one K Q) a w) : (Code.scope c).wp P Q a w := by
  have pass : ∀ n a w, J n a w → r0.wp P (one (fun a w => ∃ m, m < n ∧ J m a w) Q) a w := fun n a w h => p0 n a w h _ (fun m a w hm hj => ⟨m, hm, hj⟩)
  have start : c.wp P (one (fun a w => ∃ m, J m a w) Q) a w := by
    refine first _ ?_
    intro n a w h
    refine wp_mono (pass n a w h) ?_
    intro e a w hq
    cases e with
    | goto l =>
      match l, hq with
      | 0, ⟨m, _, hj⟩ => exact ⟨m, hj⟩
    | normal => exact hq
    | exit id => exact hq
    | ret => exact hq
    | panic ch => exact hq
    | outgrown => exact hq
  intro b k cs
  have hg0 : gotoIn 0 (.inScope c :: k) = some (.code (.seq .skip r0) :: .inScope c :: k) := by simp [gotoIn, h0]
  have key : ∀ n a w, J n a w → ∃ e a' w', Q e a' w' ∧ Arrives P (lone (b.at a (.code (.seq .skip r0) :: .inScope c :: k)) cs w) b k cs e a' w' := by
    intro n
    induction n using Nat.strongRecOn with
    | _ n ih =>
      intro a w h
      obtain ⟨e, a₁, w₁, hq, harr⟩ := (wp_seq (wp_skip (pass n a w h))) b (.inScope c :: k) cs
      cases e with
      | normal => exact ⟨.normal, a₁, w₁, hq, Steps.trans harr (.one step_inScope)⟩
      | exit id => exact ⟨.exit id, a₁, w₁, hq, fun k' hk => harr k' (by simp [exitTo, hk])⟩
      | goto l =>
        match l, hq, harr with
        | 0, ⟨m, hm, hj⟩, harr =>
          obtain ⟨e₂, a₂, w₂, hq₂, harr₂⟩ := ih m hm a₁ w₁ hj
          exact ⟨e₂, a₂, w₂, hq₂, .of_steps (harr _ hg0) harr₂⟩
      | ret => exact ⟨_, a₁, w₁, hq, harr⟩
      | panic ch => exact ⟨_, a₁, w₁, hq, harr⟩
      | outgrown => exact ⟨_, a₁, w₁, hq, harr⟩
  obtain ⟨e, a₁, w₁, hq, harr⟩ := start b (.inScope c :: k) cs
  cases e with
  | normal => exact ⟨.normal, a₁, w₁, hq, .head step_scope (Steps.trans harr (.one step_inScope))⟩
  | exit id => exact ⟨.exit id, a₁, w₁, hq, fun k' hk => .head step_scope (harr k' (by simp [exitTo, hk]))⟩
  | goto l =>
    match l, hq, harr with
    | 0, ⟨m, hj⟩, harr =>
      obtain ⟨e₂, a₂, w₂, hq₂, harr₂⟩ := key m a₁ w₁ hj
      exact ⟨e₂, a₂, w₂, hq₂, .of_steps (.head step_scope (harr _ hg0)) harr₂⟩
  | ret => exact ⟨_, a₁, w₁, hq, .of_steps (.one step_scope) harr⟩
  | panic ch => exact ⟨_, a₁, w₁, hq, .of_steps (.one step_scope) harr⟩
  | outgrown => exact ⟨_, a₁, w₁, hq, .of_steps (.one step_scope) harr⟩
end
end Go.Proofs.Ytdodmjnicnpefaa.Q
