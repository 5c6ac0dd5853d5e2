/- A scope in which the run jumps to five labels: what holds at every jump, and a measure that every pass lowers. After the kit's own law for one label. -/
import Derived.ScopeJumps
import Derived.WalkMore
namespace Go.Proofs.YtkjmbibnfohkjaaDoor
open Go

/-- As Q; by a goto to label l: J l. -/
def jumps (J : Nat → Act → World → Prop) (Q : Exit → Act → World → Prop) : Exit → Act → World → Prop
  | .goto l, a, w => J l a w
  | e, a, w => Q e a w
/-- What holds at a label, and that the measure has gone below m. -/
def under (m : Nat) (J : Nat → Act → World → Prop) (μ : Nat → Act → World → Nat) : Nat → Act → World → Prop := fun l a w => J l a w ∧ μ l a w < m

section
variable {P : Program} {a : Act} {w : World} {Q : Exit → Act → World → Prop} {J : Nat → Act → World → Prop}
@[go_sem] theorem jumps_normal : jumps J Q .normal a w = Q .normal a w := rfl
@[go_sem] theorem jumps_exit (id : Nat) : jumps J Q (.exit id) a w = Q (.exit id) a w := rfl
@[go_sem] theorem jumps_ret : jumps J Q .ret a w = Q .ret a w := rfl
@[go_sem] theorem jumps_panic (ch : List PanicEntry) : jumps J Q (.panic ch) a w = Q (.panic ch) a w := rfl
@[go_sem] theorem jumps_goto (l : Nat) : jumps J Q (.goto l) a w = J l a w := rfl

theorem wp_scope_all {c : Code} (J : Nat → Act → World → Prop) (μ : Nat → Act → World → Nat)
    (pass : ∀ m l a w, J l a w → μ l a w ≤ m → ∃ r, findLabel c l = some r ∧ r.wp P (jumps (under m J μ) Q) a w)
    (first : c.wp P (jumps J Q) a w) : (Code.scope c).wp P Q a w := by
  intro b k cs
  have key : ∀ n l a w, μ l a w = n → J l a w → ∃ r, findLabel c l = some r ∧ ∃ e a' w', Q e a' w' ∧ Arrives P (lone (b.at a (.code r :: .inScope c :: k)) cs w) b k cs e a' w' := by
    intro n
    induction n using Nat.strongRecOn with
    | _ n ih =>
      intro l a w hn hJ
      obtain ⟨r, hr, hw⟩ := pass n l a w hJ (Nat.le_of_eq hn)
      refine ⟨r, hr, ?_⟩
      obtain ⟨e, a₁, w₁, hq, harr⟩ := hw b (.inScope c :: k) cs
      cases e with
      | normal => exact ⟨.normal, a₁, w₁, hq, Steps.trans harr (.one step_inScope)⟩
      | exit id => exact ⟨.exit id, a₁, w₁, hq, fun k' hk => harr k' (by simp [exitTo, hk])⟩
      | goto l' =>
        obtain ⟨hJ', hlt⟩ := hq
        obtain ⟨r', hr', e₂, a₂, w₂, hq₂, harr₂⟩ := ih _ hlt l' a₁ w₁ rfl hJ'
        have hg : gotoIn l' (.inScope c :: k) = some (.code r' :: .inScope c :: k) := by simp [gotoIn, hr']
        exact ⟨e₂, a₂, w₂, hq₂, .of_steps (harr _ hg) harr₂⟩
      | ret => exact ⟨_, a₁, w₁, hq, harr⟩
      | panic ch => exact ⟨_, a₁, w₁, hq, harr⟩
      | outgrown => exact ⟨_, a₁, w₁, hq, harr⟩
  obtain ⟨e, a₁, w₁, hq, harr⟩ := first b (.inScope c :: k) cs
  cases e with
  | normal => exact ⟨.normal, a₁, w₁, hq, .head step_scope (Steps.trans harr (.one step_inScope))⟩
  | exit id => exact ⟨.exit id, a₁, w₁, hq, fun k' hk => .head step_scope (harr k' (by simp [exitTo, hk]))⟩
  | goto l' =>
    have hJ' : J l' a₁ w₁ := hq
    obtain ⟨r', hr', e₂, a₂, w₂, hq₂, harr₂⟩ := key _ l' a₁ w₁ rfl hJ'
    have hg : gotoIn l' (.inScope c :: k) = some (.code r' :: .inScope c :: k) := by simp [gotoIn, hr']
    exact ⟨e₂, a₂, w₂, hq₂, .of_steps (.head step_scope (harr _ hg)) harr₂⟩
  | ret => exact ⟨_, a₁, w₁, hq, .of_steps (.one step_scope) harr⟩
  | panic ch => exact ⟨_, a₁, w₁, hq, .of_steps (.one step_scope) harr⟩
  | outgrown => exact ⟨_, a₁, w₁, hq, .of_steps (.one step_scope) harr⟩

/-- What serves at a label, for every greater bound. -/
def Serves (P : Program) (Q : Exit → Act → World → Prop) (J : Nat → Act → World → Prop) (μ : Nat → Act → World → Nat) (l : Nat) (r : Code) : Prop :=
  ∀ m a w, J l a w → μ l a w ≤ m → r.wp P (jumps (under m J μ) Q) a w
theorem serves_skip {μ : Nat → Act → World → Nat} {l : Nat} {r : Code} (h : Serves P Q J μ l r) : Serves P Q J μ l (.seq .skip r) :=
  fun m a w hJ hm => wp_seq (wp_skip (h m a w hJ hm))

theorem serves_free {μ : Nat → Act → World → Nat} {l : Nat} {r : Code} (h : Serves P Q J μ l r) (hJ : J l a w) : r.wp P (jumps J Q) a w :=
  wp_mono (h (μ l a w) a w hJ (Nat.le_refl _)) fun e a w hq => by
    cases e with
    | goto l => exact hq.1
    | normal => exact hq
    | exit id => exact hq
    | ret => exact hq
    | panic ch => exact hq
    | outgrown => exact hq
/-- Five labels in the order 1, 0, 3, 2, 4: each runs on into the next. -/
theorem wp_scope_five {c r0 r1 r2 r3 r4 : Code} (J : Nat → Act → World → Prop) (μ : Nat → Act → World → Nat) (hJ : ∀ l a w, J l a w → l < 5)
    (h0 : findLabel c 0 = some (.seq .skip r0)) (h1 : findLabel c 1 = some (.seq .skip r1)) (h2 : findLabel c 2 = some (.seq .skip r2)) (h3 : findLabel c 3 = some (.seq .skip r3)) (h4 : findLabel c 4 = some (.seq .skip r4))
    (s4 : Serves P Q J μ 4 r4) (s2 : Serves P Q J μ 4 r4 → Serves P Q J μ 2 r2) (s3 : Serves P Q J μ 2 r2 → Serves P Q J μ 3 r3) (s0 : Serves P Q J μ 3 r3 → Serves P Q J μ 0 r0) (s1 : Serves P Q J μ 0 r0 → Serves P Q J μ 1 r1)
    (first : Serves P Q J μ 1 r1 → c.wp P (jumps J Q) a w) : (Code.scope c).wp P Q a w := by
  have t2 := s2 s4
  have t3 := s3 t2
  have t0 := s0 t3
  have t1 := s1 t0
  refine wp_scope_all J μ ?_ (first t1)
  intro m l a w hj hm
  have hl := hJ l a w hj
  match l, hl with
  | 0, _ => exact ⟨_, h0, serves_skip t0 m a w hj hm⟩
  | 1, _ => exact ⟨_, h1, serves_skip t1 m a w hj hm⟩
  | 2, _ => exact ⟨_, h2, serves_skip t2 m a w hj hm⟩
  | 3, _ => exact ⟨_, h3, serves_skip t3 m a w hj hm⟩
  | 4, _ => exact ⟨_, h4, serves_skip s4 m a w hj hm⟩
end
end Go.Proofs.YtkjmbibnfohkjaaDoor
