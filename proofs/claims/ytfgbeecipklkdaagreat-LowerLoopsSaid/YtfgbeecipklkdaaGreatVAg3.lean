/-
  An abstract machine for Go functions: it is sound for every order; answers that are known. Nothing is asked.
-/
import Derived.Test.YtfgbeecipklkdaaGreatVAg2
import Derived.ChangeArms
import Derived.OpenShut
set_option linter.all false
namespace Go.Ag
abbrev Known := FuncId → List Value → Option Value
noncomputable def runK (P : Program) (O : Known) : Nat → Fns
  | 0 => ⟨fun _ _ _ => none, fun _ _ _ => none, fun _ _ _ => none⟩
  | n + 1 =>
    ⟨fun f args A => match O f args with
      | some v => some (v, A)
      | none => callBody P (runK P O n) f args A, roundBody P (runK P O n),
     fun c E A => (stepC P (runK P O n) c E A).bind fun r => match r with
      | (.normal, E', A') => (runK P O n).loop c E' A'
      | r => some r⟩
structure Knows (P : Program) (f : FuncId) (args : List Value) (v : Value) : Prop where
  plain : args.all plainV = true
  value : plainV v = true
  body : ∃ fn, P.funcs[f]? = some fn ∧ (fn.name == "runtime.NumGoroutine") = false ∧ fn.body.isSome = true
  calls : ∀ w : World, Calls P f args.toArray w fun e w' => e = .returned v ∧ Kept w w' ∧ w'.tape = w.tape
def KnownOk (P : Program) (O : Known) : Prop := ∀ f args v, O f args = some v → Knows P f args v
theorem VRel.plain1_eq {ρ : Ren} {v v' : Value} (h : VRel ρ v v') (hp : Ag.plain1 v = true) : v' = v := by
  cases h <;> first | rfl | skip
  · rename_i h; simp [Ag.plain1] at hp
  · simp [Ag.plain1] at hp
  · simp [Ag.plain1] at hp
  · simp [Ag.plain1] at hp
  · simp [Ag.plain1] at hp
  · rename_i f xs ys xs' ys' h1 h2
    simp only [Ag.plain1, Bool.and_eq_true, List.isEmpty_iff] at hp
    obtain ⟨e1, e2⟩ := hp
    rw [e1] at h1
    rw [e2] at h2
    cases h1' : xs'.toList with
    | nil => cases h2' : ys'.toList with
      | nil =>
        have a1 : xs' = xs := Array.ext' (by rw [h1', e1])
        have a2 : ys' = ys := Array.ext' (by rw [h2', e2])
        rw [a1, a2]
      | cons y yl => rw [h2'] at h2; cases h2
    | cons x xl => rw [h1'] at h1; cases h1
  · simp [Ag.plain1] at hp
  · simp [Ag.plain1] at hp
  · simp [Ag.plain1] at hp
  · simp [Ag.plain1] at hp
theorem VRels.plain1_eq {ρ : Ren} : ∀ {vs vs' : List Value}, VRels ρ vs vs' → vs.all Ag.plain1 = true → vs' = vs
  | [], _, h, _ => by cases h; rfl
  | v :: vs, _, h, hp => by
    cases h with
    | cons h hs =>
      simp only [List.all_cons, Bool.and_eq_true] at hp
      rw [h.plain1_eq hp.1, VRels.plain1_eq hs hp.2]
theorem VRel.plain_eq {ρ : Ren} {v v' : Value} (h : VRel ρ v v') (hp : plainV v = true) : v' = v := by
  unfold plainV at hp
  split at hp
  · cases h with
    | agg h => rw [Array.ext' (VRels.plain1_eq h hp)]
  · cases h with
    | tuple h => rw [Array.ext' (VRels.plain1_eq h hp)]
  · cases h with
    | iface h => rw [h.plain1_eq hp]
  · exact h.plain1_eq hp
theorem VRels.plain_eq {ρ : Ren} : ∀ {vs vs' : List Value}, VRels ρ vs vs' → vs.all plainV = true → vs' = vs
  | [], _, h, _ => by cases h; rfl
  | v :: vs, _, h, hp => by
    cases h with
    | cons h hs =>
      simp only [List.all_cons, Bool.and_eq_true] at hp
      rw [h.plain_eq hp.1, VRels.plain_eq hs hp.2]
theorem runK_ok {P : Program} (hmix : P.follows .mixedOrders = true) {O : Known} (hO : KnownOk P O) : ∀ n, FnsOk P (runK P O n) := by
  intro n
  induction n with
  | zero => exact ⟨fun h => (by cases h), fun h => (by cases h), fun h => (by cases h), fun h => (by cases h), fun h => (by cases h), fun h => (by cases h), fun h => (by cases h)⟩
  | succ n ih =>
    have hd' : DrawOk P (runK P O n) := drawOk hmix ih
    have hloop : ∀ {c : Code} {E E' : Env} {A A' : AState} {x : AExit}, (runK P O (n + 1)).loop c E A = some (x, E', A') → A.size ≤ A'.size ∧ Gives' P [.code c, .inLoop c] E A x E' A' := by
      intro c E E' A A' x h
      change (stepC P (runK P O n) c E A).bind _ = _ at h
      simp only [Option.bind_eq_some_iff] at h
      obtain ⟨⟨y, E1, A1⟩, h1, h2⟩ := h
      have hc := stepC_gives ih hd' c h1
      have other : (y = x ∧ E1 = E' ∧ A1 = A' ∧ ∀ h : x = .normal, False) → A.size ≤ A'.size ∧ Gives' P [.code c, .inLoop c] E A x E' A' := by
        rintro ⟨rfl, rfl, rfl, hx⟩
        refine ⟨hc.1, fun {ρ τ w a lo b} S hE hfree hfo k cs => ?_⟩
        obtain ⟨ρ1, τ1, a1, w1, e1, r1, f1, l1⟩ := hc.2 S hE hfree hfo (.inLoop c :: k) cs
        exact ⟨ρ1, τ1, a1, w1, e1, r1, f1, l1.pass (fun _ => rfl) hx⟩
      cases y with
      | exit id => cases h2; exact other ⟨rfl, rfl, rfl, fun h => by cases h⟩
      | ret => cases h2; exact other ⟨rfl, rfl, rfl, fun h => by cases h⟩
      | normal =>
        have h2' : (runK P O n).loop c E1 A1 = some (x, E', A') := h2
        have hs := ih.loopSize h2'
        refine ⟨Nat.le_trans hc.1 hs, fun {ρ τ w a lo b} S hE hfree hfo k cs => ?_⟩
        obtain ⟨ρ1, τ1, a1, w1, e1, r1, f1, l1⟩ := hc.2 S hE (hfree.head hs) hfo (.inLoop c :: k) cs
        obtain ⟨ρ2, τ2, a2, w2, e2, r2, f2, l2⟩ := ih.loop h2' e1.sim r1 (hfree.tail e1) f1 k cs
        refine ⟨ρ2, τ2, a2, w2, e1.trans e2, r2, f2, ?_⟩
        cases l1 with | normal s1 => exact .of_steps (s1.trans (.one stepR_inLoop)) l2
    have hcall : ∀ {f : FuncId} {args : List Value} {A A' : AState} {v : Value}, (runK P O (n + 1)).call f args A = some (v, A') → A.size ≤ A'.size ∧ (∃ fn, P.funcs[f]? = some fn ∧ (fn.name == "runtime.NumGoroutine") = false ∧ fn.body.isSome = true) ∧
        ∀ {ρ : Ren} {τ : Nat → Option Nat} {w : World} {args' : Array Value}, Sim P ρ τ A w → VRels ρ args args'.toList → Free ρ A A' →
          Calls P f args' w fun e w' => ∃ v' ρ' τ', e = .returned v' ∧ VRel ρ' v v' ∧ Ext P ρ τ A w ρ' τ' A' w' := by
      intro f args A A' v h
      change (match O f args with | some v => some (v, A) | none => callBody P (runK P O n) f args A) = _ at h
      split at h
      · rename_i v1 hv
        cases h
        obtain ⟨k1, k2, k3, k4⟩ := hO f args v hv
        refine ⟨Nat.le_refl _, k3, fun {ρ τ w args'} S ha _ => ?_⟩
        have e := ha.plain_eq k1
        have e' : args' = args.toArray := Array.ext' (by rw [e])
        rw [e']
        refine (k4 w).mono fun en w' ⟨h1, h2, h3⟩ => ?_
        refine ⟨v, ρ, fun r => if r < w.heap.size then τ r else none, h1, .plain k2, ⟨Ren.le_refl _, fun _ _ => rfl, Nat.le_refl _, ⟨h2.size, fun r hr _ => h2.rows r hr, h2.os, h2.out, h3⟩, fun r hr => .inl (if_pos hr),
          fun r R hR => ⟨R, by rw [h2.rows r (Array.getElem?_eq_some_iff.1 hR).1]; exact hR⟩, fun r hr _ => h2.rows r hr, ?_⟩⟩
        exact S.aside h2.size (fun r f _ hr => h2.rows r hr) (fun r hr => if_pos hr) (fun r f hf => by
          split at hf
          · exact hf
          · cases hf)
      · exact callBody_ok ih hd' h
    exact ⟨fun h => (hcall h).1, fun h => (hcall h).2.1, fun h => (hcall h).2.2, fun h => (roundBody_ok ih hd' h).1, fun h => (roundBody_ok ih hd' h).2, fun h => (hloop h).1, fun h => (hloop h).2⟩
theorem knows {P : Program} (hmix : P.follows .mixedOrders = true) {O : Known} (hO : KnownOk P O) {n : Nat} {f : FuncId} {args : List Value} {v : Value} {A' : AState} (h : (runK P O n).call f args ⟨.nil, P.globals.size + 1⟩ = some (v, A'))
    (hp : args.all plainV = true) (hv : plainV v = true) : Knows P f args v := by
  refine ⟨hp, hv, (runK_ok hmix hO n).callBody h, fun w => ?_⟩
  have hargs : VRels (fun g => if g < P.globals.size then some ⟨g, 0, 0, 0, 0⟩ else none) args args.toArray.toList := by
    simp only
    clear h
    induction args with
    | nil => exact .nil
    | cons x xs ih =>
      simp only [List.all_cons, Bool.and_eq_true] at hp
      exact .cons (.plain hp.1) (ih hp.2)
  refine ((runK_ok hmix hO n).call h (sim_start P w) hargs (fun b h1 _ => ?_)).mono fun e w' hR => ?_
  · show (if b < P.globals.size then _ else none) = none
    rw [if_neg (Nat.not_lt.2 (Nat.le_of_succ_le h1))]
  · obtain ⟨v', ρ', τ', rfl, r1, x⟩ := hR
    exact ⟨by rw [r1.plain_eq hv], ⟨x.frm.os, x.frm.out, x.frm.size, fun r hr => x.frm.keep r hr rfl⟩, x.frm.tape⟩
theorem known_none (P : Program) : KnownOk P fun _ _ => none := fun _ _ _ h => by cases h
abbrev Hook := FuncId → List Value → AState → Option (Value × AState)
def HookOk (P : Program) (H : Hook) : Prop := ∀ f args A v A', H f args A = some (v, A') → A.size ≤ A'.size ∧ (∃ fn, P.funcs[f]? = some fn ∧ (fn.name == "runtime.NumGoroutine") = false ∧ fn.body.isSome = true) ∧
  ∀ {ρ : Ren} {τ : Nat → Option Nat} {w : World} {args' : Array Value}, Sim P ρ τ A w → VRels ρ args args'.toList → Free ρ A A' →
    Calls P f args' w fun e w' => ∃ v' ρ' τ', e = .returned v' ∧ VRel ρ' v v' ∧ Ext P ρ τ A w ρ' τ' A' w'
def hookOf (O : Known) : Hook := fun f args => match O f args with
  | some v => fun A => some (v, A)
  | none => fun _ => none
theorem hookOf_ok {P : Program} {O : Known} (hO : KnownOk P O) : HookOk P (hookOf O) := by
  intro f args A v A' h
  unfold hookOf at h
  cases hv : O f args with
  | none => rw [hv] at h; cases h
  | some v1 =>
    rw [hv] at h
    cases h
    obtain ⟨k1, k2, k3, k4⟩ := hO f args v hv
    refine ⟨Nat.le_refl _, k3, fun {ρ τ w args'} S ha _ => ?_⟩
    have e := ha.plain_eq k1
    have e' : args' = args.toArray := Array.ext' (by rw [e])
    rw [e']
    refine (k4 w).mono fun en w' ⟨h1, h2, h3⟩ => ?_
    refine ⟨v, ρ, fun r => if r < w.heap.size then τ r else none, h1, .plain k2, ⟨Ren.le_refl _, fun _ _ => rfl, Nat.le_refl _, ⟨h2.size, fun r hr _ => h2.rows r hr, h2.os, h2.out, h3⟩, fun r hr => .inl (if_pos hr),
      fun r R hR => ⟨R, by rw [h2.rows r (Array.getElem?_eq_some_iff.1 hR).1]; exact hR⟩, fun r hr _ => h2.rows r hr, ?_⟩⟩
    exact S.aside h2.size (fun r f _ hr => h2.rows r hr) (fun r hr => if_pos hr) (fun r f hf => by
      split at hf
      · exact hf
      · cases hf)
theorem hookOf_some {O : Known} {f : FuncId} {args : List Value} {v : Value} (h : O f args = some v) : hookOf O f args = fun A => some (v, A) := by unfold hookOf; rw [h]
noncomputable def runH (P : Program) (O : Hook) : Nat → Fns
  | 0 => ⟨fun _ _ _ => none, fun _ _ _ => none, fun _ _ _ => none⟩
  | n + 1 =>
    ⟨fun f args A => match O f args A with
      | some r => some r
      | none => callBody P (runH P O n) f args A, roundBody P (runH P O n),
     fun c E A => (stepC P (runH P O n) c E A).bind fun r => match r with
      | (.normal, E', A') => (runH P O n).loop c E' A'
      | r => some r⟩
theorem runH_ok {P : Program} (hmix : P.follows .mixedOrders = true) {O : Hook} (hO : HookOk P O) : ∀ n, FnsOk P (runH P O n) := by
  intro n
  induction n with
  | zero => exact ⟨fun h => (by cases h), fun h => (by cases h), fun h => (by cases h), fun h => (by cases h), fun h => (by cases h), fun h => (by cases h), fun h => (by cases h)⟩
  | succ n ih =>
    have hd' : DrawOk P (runH P O n) := drawOk hmix ih
    have hloop : ∀ {c : Code} {E E' : Env} {A A' : AState} {x : AExit}, (runH P O (n + 1)).loop c E A = some (x, E', A') → A.size ≤ A'.size ∧ Gives' P [.code c, .inLoop c] E A x E' A' := by
      intro c E E' A A' x h
      change (stepC P (runH P O n) c E A).bind _ = _ at h
      simp only [Option.bind_eq_some_iff] at h
      obtain ⟨⟨y, E1, A1⟩, h1, h2⟩ := h
      have hc := stepC_gives ih hd' c h1
      have other : (y = x ∧ E1 = E' ∧ A1 = A' ∧ ∀ h : x = .normal, False) → A.size ≤ A'.size ∧ Gives' P [.code c, .inLoop c] E A x E' A' := by
        rintro ⟨rfl, rfl, rfl, hx⟩
        refine ⟨hc.1, fun {ρ τ w a lo b} S hE hfree hfo k cs => ?_⟩
        obtain ⟨ρ1, τ1, a1, w1, e1, r1, f1, l1⟩ := hc.2 S hE hfree hfo (.inLoop c :: k) cs
        exact ⟨ρ1, τ1, a1, w1, e1, r1, f1, l1.pass (fun _ => rfl) hx⟩
      cases y with
      | exit id => cases h2; exact other ⟨rfl, rfl, rfl, fun h => by cases h⟩
      | ret => cases h2; exact other ⟨rfl, rfl, rfl, fun h => by cases h⟩
      | normal =>
        have h2' : (runH P O n).loop c E1 A1 = some (x, E', A') := h2
        have hs := ih.loopSize h2'
        refine ⟨Nat.le_trans hc.1 hs, fun {ρ τ w a lo b} S hE hfree hfo k cs => ?_⟩
        obtain ⟨ρ1, τ1, a1, w1, e1, r1, f1, l1⟩ := hc.2 S hE (hfree.head hs) hfo (.inLoop c :: k) cs
        obtain ⟨ρ2, τ2, a2, w2, e2, r2, f2, l2⟩ := ih.loop h2' e1.sim r1 (hfree.tail e1) f1 k cs
        refine ⟨ρ2, τ2, a2, w2, e1.trans e2, r2, f2, ?_⟩
        cases l1 with | normal s1 => exact .of_steps (s1.trans (.one stepR_inLoop)) l2
    have hcall : ∀ {f : FuncId} {args : List Value} {A A' : AState} {v : Value}, (runH P O (n + 1)).call f args A = some (v, A') → A.size ≤ A'.size ∧ (∃ fn, P.funcs[f]? = some fn ∧ (fn.name == "runtime.NumGoroutine") = false ∧ fn.body.isSome = true) ∧
        ∀ {ρ : Ren} {τ : Nat → Option Nat} {w : World} {args' : Array Value}, Sim P ρ τ A w → VRels ρ args args'.toList → Free ρ A A' →
          Calls P f args' w fun e w' => ∃ v' ρ' τ', e = .returned v' ∧ VRel ρ' v v' ∧ Ext P ρ τ A w ρ' τ' A' w' := by
      intro f args A A' v h
      change (match O f args A with | some r => some r | none => callBody P (runH P O n) f args A) = _ at h
      split at h
      · rename_i r hr
        cases h
        exact hO f args A v A' hr
      · exact callBody_ok ih hd' h
    exact ⟨fun h => (hcall h).1, fun h => (hcall h).2.1, fun h => (hcall h).2.2, fun h => (roundBody_ok ih hd' h).1, fun h => (roundBody_ok ih hd' h).2, fun h => (hloop h).1, fun h => (hloop h).2⟩
end Go.Ag
namespace Go.Ag
set_option linter.unusedVariables false
structure Fns.Le (F G : Fns) : Prop where
  call : ∀ {f a A r}, F.call f a A = some r → G.call f a A = some r
  round : ∀ {l a A r}, F.round l a A = some r → G.round l a A = some r
  loop : ∀ {c E A r}, F.loop c E A = some r → G.loop c E A = some r
section mono
variable {P : Program} {F G : Fns}
theorem callV_le (h : F.Le G) {f : Value} {args : List Value} {A : AState} {r : Value × AState} (hr : callV F f args A = some r) : callV G f args A = some r := by
  unfold callV at hr ⊢
  split at hr
  · exact h.call hr
  · exact h.round hr
  · cases hr
theorem aCall_le (h : F.Le G) {ρ : Operand → Value} {o : Oper} {A : AState} {r : Value × AState} (hr : aCall F ρ o A = some r) : aCall G ρ o A = some r := by
  unfold aCall at hr ⊢
  split at hr
  · exact callV_le h hr
  · cases hr
theorem runOp_le (h : F.Le G) {E : Env} {o : Oper} {A : AState} {r : Value × AState} (hr : runOp P F E o A = some r) : runOp P G E o A = some r := by
  unfold runOp at hr ⊢
  split at hr <;> first | exact hr | exact aCall_le h hr
theorem runOps_le (h : F.Le G) {ops : List Oper} : ∀ {l : List Oper} {E : Env} {A : AState} {r : Env × AState}, runOps P F ops l E A = some r → runOps P G ops l E A = some r := by
  intro l
  induction l with
  | nil => intro E A r hr; exact hr
  | cons o rest ih =>
    intro E A r hr
    unfold runOps at hr ⊢
    split at hr
    · rename_i hw
      rw [if_pos hw]
      split at hr
      · rename_i ho
        rw [if_pos ho]
        obtain ⟨⟨v, A1⟩, h1, h2⟩ := Option.bind_eq_some_iff.1 hr
        obtain ⟨E1, h3, h4⟩ := Option.bind_eq_some_iff.1 h2
        rw [runOp_le h h1]
        simp only [Option.bind_some]
        rw [h3]
        exact ih h4
      · cases hr
    · rename_i hw
      rw [if_neg hw]
      obtain ⟨E1, h3, h4⟩ := Option.bind_eq_some_iff.1 hr
      rw [h3]
      exact ih h4
theorem runChain_le (h : F.Le G) {ops : List Oper} : ∀ {ch : List (Nat × Nat)} {E : Env} {A : AState} {vs : List AState} {r : Env × AState}, runChain P F ops ch E A vs = some r → runChain P G ops ch E A vs = some r := by
  intro ch
  induction ch with
  | nil => intro E A vs r hr; exact hr
  | cons x rest ih =>
    intro E A vs r hr
    obtain ⟨i, a⟩ := x
    unfold runChain at hr ⊢
    obtain ⟨o, h0, hr⟩ := Option.bind_eq_some_iff.1 hr
    rw [h0]
    simp only [Option.bind_some]
    split at hr
    · rename_i hw
      rw [if_pos hw]
      split at hr
      · obtain ⟨v, h1, h2⟩ := Option.bind_eq_some_iff.1 hr
        obtain ⟨E1, h3, h4⟩ := Option.bind_eq_some_iff.1 h2
        rw [h1]; simp only [Option.bind_some]; rw [h3]; exact ih h4
      · obtain ⟨v, h1, h2⟩ := Option.bind_eq_some_iff.1 hr
        obtain ⟨E1, h3, h4⟩ := Option.bind_eq_some_iff.1 h2
        rw [h1]; simp only [Option.bind_some]; rw [h3]; exact ih h4
      · obtain ⟨⟨v, A1⟩, h1, h2⟩ := Option.bind_eq_some_iff.1 hr
        obtain ⟨E1, h3, h4⟩ := Option.bind_eq_some_iff.1 h2
        rw [h1]; simp only [Option.bind_some]; rw [h3]; exact ih h4
      · obtain ⟨⟨v, A1⟩, h1, h2⟩ := Option.bind_eq_some_iff.1 hr
        obtain ⟨E1, h3, h4⟩ := Option.bind_eq_some_iff.1 h2
        rw [h1]; simp only [Option.bind_some]; rw [h3]; exact ih h4
      · obtain ⟨⟨v, A1⟩, h1, h2⟩ := Option.bind_eq_some_iff.1 hr
        obtain ⟨E1, h3, h4⟩ := Option.bind_eq_some_iff.1 h2
        rw [aCall_le h h1]; simp only [Option.bind_some]; rw [h3]; exact ih h4
      · cases hr
    · rename_i hw
      rw [if_neg hw]
      obtain ⟨E1, h3, h4⟩ := Option.bind_eq_some_iff.1 hr
      rw [h3]
      exact ih h4
theorem runDraw_le (h : F.Le G) {ops : List Oper} {E : Env} {A : AState} {r : Env × AState} (hr : runDraw P F ops E A = some r) : runDraw P G ops E A = some r := by
  unfold runDraw at hr ⊢
  split at hr
  · rename_i hp
    rw [if_pos hp]
    obtain ⟨⟨E1, A1⟩, h1, h2⟩ := Option.bind_eq_some_iff.1 hr
    rw [runChain_le h h1]
    exact h2
  · cases hr
theorem stepC_le (h : F.Le G) : ∀ {c : Code} {E : Env} {A : AState} {r : AExit × Env × AState}, stepC P F c E A = some r → stepC P G c E A = some r := by
  intro c
  induction c with
  | skip => intro E A r hr; exact hr
  | label l => intro E A r hr; exact hr
  | ret => intro E A r hr; exact hr
  | exit id => intro E A r hr; exact hr
  | region id ops draw =>
    intro E A r hr
    unfold stepC at hr ⊢
    cases draw with
    | true =>
      simp only [if_true] at hr ⊢
      cases hd : runDraw P F ops.toList E A with
      | none => rw [hd] at hr; cases hr
      | some y => rw [runDraw_le h hd]; rw [hd] at hr; exact hr
    | false =>
      simp only [Bool.false_eq_true, if_false] at hr ⊢
      cases hd : runOps P F ops.toList ops.toList E A with
      | none => rw [hd] at hr; cases hr
      | some y => rw [runOps_le h hd]; rw [hd] at hr; exact hr
  | seq a b iha ihb =>
    intro E A r hr
    unfold stepC at hr ⊢
    obtain ⟨⟨y, E2, A2⟩, h1, h2⟩ := Option.bind_eq_some_iff.1 hr
    rw [iha h1]
    simp only [Option.bind_some]
    cases y with
    | normal => exact ihb h2
    | exit id => exact h2
    | ret => exact h2
  | cond c a b iha ihb =>
    intro E A r hr
    unfold stepC at hr ⊢
    split at hr
    · rename_i t ht
      split at hr
      · rename_i hb; rw [if_pos hb]; exact iha hr
      · rename_i hb; rw [if_neg hb]; exact ihb hr
    · cases hr
  | block id b ih =>
    intro E A r hr
    unfold stepC at hr ⊢
    cases hb : stepC P F b E A with
    | none => rw [hb] at hr; cases hr
    | some y => rw [ih hb]; rw [hb] at hr; exact hr
  | loop b _ => intro E A r hr; exact h.loop hr
  | rangeFunc f ps as bd _ _ =>
    intro E A r hr
    unfold stepC at hr ⊢
    split at hr
    · cases hr
    · rename_i ho
      rw [if_neg ho]
      obtain ⟨⟨v, A2⟩, h1, h2⟩ := Option.bind_eq_some_iff.1 hr
      rw [callV_le h h1]
      exact h2
  | scope b ih => intro E A r hr; exact ih hr
  | goto l => intro E A r hr; cases hr
  | refuse w => intro E A r hr; cases hr
theorem callBody_le (h : F.Le G) {f : FuncId} {args : List Value} {A : AState} {r : Value × AState} (hr : callBody P F f args A = some r) : callBody P G f args A = some r := by
  unfold callBody at hr ⊢
  obtain ⟨fn, h0, hr⟩ := Option.bind_eq_some_iff.1 hr
  rw [h0]
  simp only [Option.bind_some]
  split at hr
  · cases hr
  · rename_i hn
    rw [if_neg hn]
    obtain ⟨c, h1, hr⟩ := Option.bind_eq_some_iff.1 hr
    rw [h1]
    simp only [Option.bind_some]
    obtain ⟨y, h2, h3⟩ := Option.bind_eq_some_iff.1 hr
    rw [stepC_le h h2]
    exact h3
theorem roundBody_le (h : F.Le G) {l : Nat} {args : List Value} {A : AState} {r : Value × AState} (hr : roundBody P F l args A = some r) : roundBody P G l args A = some r := by
  unfold roundBody at hr ⊢
  split at hr
  · obtain ⟨E, h1, hr⟩ := Option.bind_eq_some_iff.1 hr
    rw [h1]
    simp only [Option.bind_some]
    obtain ⟨y, h2, h3⟩ := Option.bind_eq_some_iff.1 hr
    rw [stepC_le h h2]
    simp only [Option.bind_some]
    split at h3
    · split at h3
      · split at h3
        · rename_i hready
          rw [if_pos hready]
          obtain ⟨z, h4, h5⟩ := Option.bind_eq_some_iff.1 h3
          rw [stepC_le h h4]
          exact h5
        · cases h3
      · cases h3
    · cases h3
  · cases hr
end mono
variable {P : Program}
theorem run_le_succ (O : Hook) : ∀ n, (runH P O n).Le (runH P O (n + 1)) := by
  intro n
  induction n with
  | zero => exact ⟨(fun h => by cases h), (fun h => by cases h), (fun h => by cases h)⟩
  | succ n ih =>
    refine ⟨fun {f a A r} h => ?_, fun {l a A r} h => roundBody_le ih h, fun {c E A r} h => ?_⟩
    · change (match O f a A with | some v => some v | none => callBody P (runH P O n) f a A) = some r at h
      show (match O f a A with | some v => some v | none => callBody P (runH P O (n + 1)) f a A) = some r
      cases ho : O f a A with
      | some v => rw [ho] at h; exact h
      | none => rw [ho] at h; exact callBody_le ih h
    · change (stepC P (runH P O n) c E A).bind _ = _ at h
      show (stepC P (runH P O (n + 1)) c E A).bind _ = _
      obtain ⟨⟨y, E2, A2⟩, h1, h2⟩ := Option.bind_eq_some_iff.1 h
      rw [stepC_le ih h1]
      simp only [Option.bind_some]
      cases y with
      | normal => exact ih.loop h2
      | exit id => exact h2
      | ret => exact h2
theorem run_le (O : Hook) {n m : Nat} (h : n ≤ m) : (runH P O n).Le (runH P O m) := by
  induction h with
  | refl => exact ⟨id, id, id⟩
  | step _ ih => exact ⟨fun h => (run_le_succ O _).call (ih.call h), fun h => (run_le_succ O _).round (ih.round h), fun h => (run_le_succ O _).loop (ih.loop h)⟩
open Classical in
noncomputable def pickO {α : Type} (g : Nat → Option α) : Option α := if h : ∃ r, ∃ n, g n = some r then some (Classical.choose h) else none
theorem pickO_some {α : Type} {g : Nat → Option α} {r : α} (h : pickO g = some r) : ∃ n, g n = some r := by
  unfold pickO at h
  split at h
  · rename_i hx
    cases h
    exact Classical.choose_spec hx
  · cases h
theorem pickO_of {α : Type} {g : Nat → Option α} (hm : ∀ {n m r}, n ≤ m → g n = some r → g m = some r) {n : Nat} {r : α} (h : g n = some r) : pickO g = some r := by
  unfold pickO
  have hx : ∃ r, ∃ n, g n = some r := ⟨r, n, h⟩
  rw [dif_pos hx]
  obtain ⟨m, hc⟩ := Classical.choose_spec hx
  have h1 := hm (Nat.le_max_left n m) h
  have h2 := hm (Nat.le_max_right n m) hc
  rw [h1] at h2
  exact h2.symm
variable (P) in
noncomputable def lim (O : Hook) : Fns := ⟨fun f a A => pickO fun n => (runH P O n).call f a A, fun l a A => pickO fun n => (runH P O n).round l a A, fun c E A => pickO fun n => (runH P O n).loop c E A⟩
section fin
variable {O : Hook}
theorem lim_call {f : FuncId} {a : List Value} {A : AState} {r : Value × AState} (h : (lim P O).call f a A = some r) : ∃ n, (runH P O n).call f a A = some r := pickO_some h
theorem lim_round {l : Nat} {a : List Value} {A : AState} {r : Value × AState} (h : (lim P O).round l a A = some r) : ∃ n, (runH P O n).round l a A = some r := pickO_some h
theorem lim_loop {c : Code} {E : Env} {A : AState} {r : AExit × Env × AState} (h : (lim P O).loop c E A = some r) : ∃ n, (runH P O n).loop c E A = some r := pickO_some h
theorem run_lim (n : Nat) : (runH P O n).Le (lim P O) :=
  ⟨fun h => pickO_of (fun hnm => (run_le O hnm).call) h, fun h => pickO_of (fun hnm => (run_le O hnm).round) h, fun h => pickO_of (fun hnm => (run_le O hnm).loop) h⟩
theorem callV_fin {f : Value} {args : List Value} {A : AState} {r : Value × AState} (hr : callV (lim P O) f args A = some r) : ∃ n, callV (runH P O n) f args A = some r := by
  unfold callV at hr ⊢
  split at hr
  · exact lim_call hr
  · exact lim_round hr
  · cases hr
theorem aCall_fin {ρ : Operand → Value} {o : Oper} {A : AState} {r : Value × AState} (hr : aCall (lim P O) ρ o A = some r) : ∃ n, aCall (runH P O n) ρ o A = some r := by
  unfold aCall at hr ⊢
  split at hr
  · exact callV_fin hr
  · cases hr
theorem runOp_fin {E : Env} {o : Oper} {A : AState} {r : Value × AState} (hr : runOp P (lim P O) E o A = some r) : ∃ n, runOp P (runH P O n) E o A = some r := by
  unfold runOp at hr ⊢
  split at hr <;> first | exact ⟨0, hr⟩ | exact aCall_fin hr
theorem runOps_fin {ops : List Oper} : ∀ {l : List Oper} {E : Env} {A : AState} {r : Env × AState}, runOps P (lim P O) ops l E A = some r → ∃ n, runOps P (runH P O n) ops l E A = some r := by
  intro l
  induction l with
  | nil => intro E A r hr; exact ⟨0, hr⟩
  | cons o rest ih =>
    intro E A r hr
    unfold runOps at hr ⊢
    split at hr
    · rename_i hw
      simp only [if_pos hw]
      split at hr
      · rename_i ho
        simp only [if_pos ho]
        obtain ⟨⟨v, A1⟩, h1, h2⟩ := Option.bind_eq_some_iff.1 hr
        obtain ⟨E1, h3, h4⟩ := Option.bind_eq_some_iff.1 h2
        obtain ⟨n1, h5⟩ := runOp_fin h1
        obtain ⟨n2, h6⟩ := ih h4
        refine ⟨max n1 n2, ?_⟩
        rw [runOp_le (run_le O (Nat.le_max_left n1 n2)) h5]
        simp only [Option.bind_some]
        rw [h3]
        exact runOps_le (run_le O (Nat.le_max_right n1 n2)) h6
      · cases hr
    · rename_i hw
      simp only [if_neg hw]
      obtain ⟨E1, h3, h4⟩ := Option.bind_eq_some_iff.1 hr
      obtain ⟨n2, h6⟩ := ih h4
      exact ⟨n2, by rw [h3]; exact h6⟩
theorem runChain_fin {ops : List Oper} : ∀ {ch : List (Nat × Nat)} {E : Env} {A : AState} {vs : List AState} {r : Env × AState}, runChain P (lim P O) ops ch E A vs = some r → ∃ n, runChain P (runH P O n) ops ch E A vs = some r := by
  intro ch
  induction ch with
  | nil => intro E A vs r hr; exact ⟨0, hr⟩
  | cons x rest ih =>
    intro E A vs r hr
    obtain ⟨i, a⟩ := x
    unfold runChain at hr ⊢
    obtain ⟨o, h0, hr⟩ := Option.bind_eq_some_iff.1 hr
    rw [h0]
    simp only [Option.bind_some]
    split at hr
    · rename_i hw
      simp only [if_pos hw]
      split at hr
      · obtain ⟨v, h1, h2⟩ := Option.bind_eq_some_iff.1 hr
        obtain ⟨E1, h3, h4⟩ := Option.bind_eq_some_iff.1 h2
        obtain ⟨n, h5⟩ := ih h4
        exact ⟨n, by rw [h1]; simp only [Option.bind_some]; rw [h3]; exact h5⟩
      · obtain ⟨v, h1, h2⟩ := Option.bind_eq_some_iff.1 hr
        obtain ⟨E1, h3, h4⟩ := Option.bind_eq_some_iff.1 h2
        obtain ⟨n, h5⟩ := ih h4
        exact ⟨n, by rw [h1]; simp only [Option.bind_some]; rw [h3]; exact h5⟩
      · obtain ⟨⟨v, A1⟩, h1, h2⟩ := Option.bind_eq_some_iff.1 hr
        obtain ⟨E1, h3, h4⟩ := Option.bind_eq_some_iff.1 h2
        obtain ⟨n, h5⟩ := ih h4
        exact ⟨n, by rw [h1]; simp only [Option.bind_some]; rw [h3]; exact h5⟩
      · obtain ⟨⟨v, A1⟩, h1, h2⟩ := Option.bind_eq_some_iff.1 hr
        obtain ⟨E1, h3, h4⟩ := Option.bind_eq_some_iff.1 h2
        obtain ⟨n, h5⟩ := ih h4
        exact ⟨n, by rw [h1]; simp only [Option.bind_some]; rw [h3]; exact h5⟩
      · obtain ⟨⟨v, A1⟩, h1, h2⟩ := Option.bind_eq_some_iff.1 hr
        obtain ⟨E1, h3, h4⟩ := Option.bind_eq_some_iff.1 h2
        obtain ⟨n1, h5⟩ := aCall_fin h1
        obtain ⟨n2, h6⟩ := ih h4
        refine ⟨max n1 n2, ?_⟩
        rw [aCall_le (run_le O (Nat.le_max_left n1 n2)) h5]; simp only [Option.bind_some]; rw [h3]; exact runChain_le (run_le O (Nat.le_max_right n1 n2)) h6
      · cases hr
    · rename_i hw
      simp only [if_neg hw]
      obtain ⟨E1, h3, h4⟩ := Option.bind_eq_some_iff.1 hr
      obtain ⟨n, h5⟩ := ih h4
      exact ⟨n, by rw [h3]; exact h5⟩
theorem runDraw_fin {ops : List Oper} {E : Env} {A : AState} {r : Env × AState} (hr : runDraw P (lim P O) ops E A = some r) : ∃ n, runDraw P (runH P O n) ops E A = some r := by
  unfold runDraw at hr ⊢
  split at hr
  · rename_i hp
    simp only [if_pos hp]
    obtain ⟨⟨E1, A1⟩, h1, h2⟩ := Option.bind_eq_some_iff.1 hr
    obtain ⟨n, h3⟩ := runChain_fin h1
    exact ⟨n, by rw [h3]; exact h2⟩
  · cases hr
theorem stepC_fin : ∀ {c : Code} {E : Env} {A : AState} {r : AExit × Env × AState}, stepC P (lim P O) c E A = some r → ∃ n, stepC P (runH P O n) c E A = some r := by
  intro c
  induction c with
  | skip => intro E A r hr; exact ⟨0, hr⟩
  | label l => intro E A r hr; exact ⟨0, hr⟩
  | ret => intro E A r hr; exact ⟨0, hr⟩
  | exit id => intro E A r hr; exact ⟨0, hr⟩
  | region id ops draw =>
    intro E A r hr
    unfold stepC at hr ⊢
    cases draw with
    | true =>
      simp only [if_true] at hr ⊢
      cases hd : runDraw P (lim P O) ops.toList E A with
      | none => rw [hd] at hr; cases hr
      | some y => obtain ⟨n, h⟩ := runDraw_fin hd; exact ⟨n, by rw [h]; rw [hd] at hr; exact hr⟩
    | false =>
      simp only [Bool.false_eq_true, if_false] at hr ⊢
      cases hd : runOps P (lim P O) ops.toList ops.toList E A with
      | none => rw [hd] at hr; cases hr
      | some y => obtain ⟨n, h⟩ := runOps_fin hd; exact ⟨n, by rw [h]; rw [hd] at hr; exact hr⟩
  | seq a b iha ihb =>
    intro E A r hr
    unfold stepC at hr ⊢
    obtain ⟨⟨y, E2, A2⟩, h1, h2⟩ := Option.bind_eq_some_iff.1 hr
    obtain ⟨n1, h3⟩ := iha h1
    cases y with
    | normal =>
      obtain ⟨n2, h4⟩ := ihb h2
      refine ⟨max n1 n2, ?_⟩
      rw [stepC_le (run_le O (Nat.le_max_left n1 n2)) h3]
      exact stepC_le (run_le O (Nat.le_max_right n1 n2)) h4
    | exit id => exact ⟨n1, by rw [h3]; exact h2⟩
    | ret => exact ⟨n1, by rw [h3]; exact h2⟩
  | cond c a b iha ihb =>
    intro E A r hr
    unfold stepC at hr ⊢
    split at hr
    · rename_i t ht
      split at hr
      · rename_i hb; simp only [if_pos hb]; exact iha hr
      · rename_i hb; simp only [if_neg hb]; exact ihb hr
    · cases hr
  | block id b ih =>
    intro E A r hr
    unfold stepC at hr ⊢
    cases hb : stepC P (lim P O) b E A with
    | none => rw [hb] at hr; cases hr
    | some y => obtain ⟨n, h⟩ := ih hb; exact ⟨n, by rw [h]; rw [hb] at hr; exact hr⟩
  | loop b _ => intro E A r hr; exact lim_loop hr
  | rangeFunc f ps as bd _ _ =>
    intro E A r hr
    unfold stepC at hr ⊢
    split at hr
    · cases hr
    · rename_i ho
      simp only [if_neg ho]
      obtain ⟨⟨v, A2⟩, h1, h2⟩ := Option.bind_eq_some_iff.1 hr
      obtain ⟨n, h⟩ := callV_fin h1
      exact ⟨n, by rw [h]; exact h2⟩
  | scope b ih => intro E A r hr; exact ih hr
  | goto l => intro E A r hr; cases hr
  | refuse w => intro E A r hr; cases hr
theorem callBody_fin {f : FuncId} {args : List Value} {A : AState} {r : Value × AState} (hr : callBody P (lim P O) f args A = some r) : ∃ n, callBody P (runH P O n) f args A = some r := by
  unfold callBody at hr ⊢
  obtain ⟨fn, h0, hr⟩ := Option.bind_eq_some_iff.1 hr
  rw [h0]
  simp only [Option.bind_some]
  split at hr
  · cases hr
  · rename_i hn
    simp only [if_neg hn]
    obtain ⟨c, h1, hr⟩ := Option.bind_eq_some_iff.1 hr
    rw [h1]
    simp only [Option.bind_some]
    obtain ⟨y, h2, h3⟩ := Option.bind_eq_some_iff.1 hr
    obtain ⟨n, h⟩ := stepC_fin h2
    exact ⟨n, by rw [h]; exact h3⟩
theorem lim_body {f : FuncId} {args : List Value} {A : AState} {r : Value × AState} (hO : O f args = fun _ => none) (h : callBody P (lim P O) f args A = some r) : (lim P O).call f args A = some r := by
  obtain ⟨n, h1⟩ := callBody_fin h
  refine (run_lim (n + 1)).call ?_
  show (match O f args A with | some v => some v | none => callBody P (runH P O n) f args A) = some r
  rw [hO]
  exact h1
theorem lim_known {f : FuncId} {args : List Value} {A : AState} {r : Value × AState} (hO : O f args A = some r) : (lim P O).call f args A = some r := by
  refine (run_lim 1).call ?_
  show (match O f args A with | some v => some v | none => callBody P (runH P O 0) f args A) = some r
  rw [hO]
theorem lim_again {c : Code} {E E1 : Env} {A A1 : AState} {r : AExit × Env × AState} (h : stepC P (lim P O) c E A = some (.normal, E1, A1)) (h' : (lim P O).loop c E1 A1 = some r) : (lim P O).loop c E A = some r := by
  obtain ⟨n1, h1⟩ := stepC_fin h
  obtain ⟨n2, h2⟩ := lim_loop h'
  refine (run_lim (max n1 n2 + 1)).loop ?_
  show (stepC P (runH P O (max n1 n2)) c E A).bind _ = _
  rw [stepC_le (run_le O (Nat.le_max_left n1 n2)) h1]
  exact (run_le O (Nat.le_max_right n1 n2)).loop h2
theorem lim_leave {c : Code} {E E1 : Env} {A A1 : AState} {x : AExit} (hx : x ≠ .normal) (h : stepC P (lim P O) c E A = some (x, E1, A1)) : (lim P O).loop c E A = some (x, E1, A1) := by
  obtain ⟨n1, h1⟩ := stepC_fin h
  refine (run_lim (n1 + 1)).loop ?_
  show (stepC P (runH P O n1) c E A).bind _ = _
  rw [h1]
  cases x with
  | normal => exact absurd rfl hx
  | exit id => rfl
  | ret => rfl
end fin
end Go.Ag
namespace Go.Ag
open Go.ChangeShapes
structure RoSt (P : Program) (ρ : Ren) (τ : Nat → Option Nat) (A : AState) (w : World) : Prop where
  obj : ∀ b o, A.get b = some o → ∃ cs n, o = .ro cs n P.globals.size ∧ ∃ i, ρ b = some i ∧ i.blk < w.heap.size ∧ τ i.blk = some P.globals.size ∧ ORel ρ A w b i o
  root : (∀ b, A.get b = none) ∨ ∃ cs n, A.get P.globals.size = some (.ro cs n P.globals.size)
  fresh : ∀ b, A.size ≤ b → A.get b = none
  terr : ∀ r f, τ r = some f → f = P.globals.size ∧ ∃ o, A.get f = some o
  glob : ∀ g, g < P.globals.size → ∃ i, ρ g = some i ∧ i.blk = g ∧ i.off = 0
  globs : P.globals.size < A.size
  free : ∀ b, A.size ≤ b → ρ b = none
  rootfree : A.get P.globals.size = none → ρ P.globals.size = none
theorem RoSt.sim {P : Program} {ρ : Ren} {τ : Nat → Option Nat} {A : AState} {w : World} (S : RoSt P ρ τ A w) : Sim P ρ τ A w := by
  refine ⟨fun b o h => ?_, fun b o h => ?_, fun b cs d n es root own top h => ?_, fun b o h cs d n es root own hr => ?_, fun b o h => ?_, S.fresh, fun r f h => (S.terr r f h).2, S.glob, S.globs⟩
  · obtain ⟨cs, n, rfl, i, h1, h2, h3, h4⟩ := S.obj b o h
    exact ⟨i, h1, h2, h3, h4⟩
  · obtain ⟨cs, n, rfl, _⟩ := S.obj b o h
    rcases S.root with hn | ⟨cs', n', hr⟩
    · rw [hn] at h; cases h
    · exact ⟨_, hr, rfl⟩
  · obtain ⟨cs, n, e, _⟩ := S.obj _ _ h; cases e
  · obtain ⟨cs, n, e, _⟩ := S.obj _ _ hr; cases e
  · obtain ⟨cs, n, rfl, _⟩ := S.obj b o h
    exact ⟨fun _ => rfl, fun _ => rfl⟩
theorem ORel.roAny {ρ ρ' : Ren} (hle : ρ.le ρ') {A A' : AState} {w : World} {b : Nat} {i : BInfo} {cs : Tr Value} {n root : Nat} (h : ORel ρ A w b i (.ro cs n root)) : ORel ρ' A' w b i (.ro cs n root) := by
  cases h with
  | ro c el fz ho hroom hsz hin hc hes => exact .ro c el fz ho hroom hsz hin (fun j hj => let ⟨v, v', a, b, c⟩ := hc j hj; ⟨v, v', a, b, c.mono hle⟩) hes
theorem get_put_ne (A : AState) {b c : Nat} (o : AObj) (h : c ≠ b) : (A.put c o).get b = A.get b := by rw [get_put, if_neg h]
theorem RoSt.first {P : Program} {ρ : Ren} {τ : Nat → Option Nat} {A : AState} {w : World} (S : RoSt P ρ τ A w) {r : Nat} {c : Array Value} {el : TypeId} {fz : Nat × Nat} (hr : w.heap[r]? = some (.cells c el fz)) :
    ∃ ρ' τ' A', RoSt P ρ' τ' A' w ∧ ρ.le ρ' ∧ A'.size = A.size ∧ (∀ b o, A.get b = some o → A'.get b = some o) ∧ ∃ cs n, A'.get P.globals.size = some (.ro cs n P.globals.size) := by
  rcases S.root.symm with ⟨cs, n, h⟩ | hn
  · exact ⟨ρ, τ, A, S, Ren.le_refl _, rfl, fun _ _ h => h, cs, n, h⟩
  have hfree := S.rootfree (hn _)
  have hle : ρ.le (ρ.upd P.globals.size ⟨r, 0, c.size, 0, 0⟩) := Ren.le_upd _ hfree
  have hlt : r < w.heap.size := (Array.getElem?_eq_some_iff.1 hr).1
  have hg : (A.put P.globals.size (.ro .nil 0 P.globals.size)).get P.globals.size = some (.ro .nil 0 P.globals.size) := by rw [get_put, if_pos rfl]
  refine ⟨ρ.upd P.globals.size ⟨r, 0, c.size, 0, 0⟩, fun q => if q = r then some P.globals.size else none, A.put P.globals.size (.ro .nil 0 P.globals.size), ?_, hle, rfl, fun b o h => (by rw [hn] at h; cases h), .nil, 0, hg⟩
  refine ⟨fun b o h => ?_, .inr ⟨_, _, hg⟩, fun b hb => ?_, fun q f h => ?_, fun g hgl => ?_, S.globs, fun b hb => ?_, fun h => by rw [hg] at h; cases h⟩
  · by_cases e : P.globals.size = b
    · subst e; rw [hg] at h; cases h
      exact ⟨_, _, rfl, _, Ren.upd_same _ _ _, hlt, if_pos rfl, .ro c el fz hr rfl rfl (by simp) (fun j hj => by omega) (fun e h => by cases h)⟩
    · rw [get_put_ne _ _ e, hn] at h; cases h
  · have hb' : A.size ≤ b := hb
    rw [get_put_ne _ _ (by have := S.globs; omega)]; exact S.fresh b hb'
  · change (if q = r then some P.globals.size else none) = some f at h
    split at h
    · cases h; exact ⟨rfl, _, hg⟩
    · cases h
  · obtain ⟨i, h1, h2, h3⟩ := S.glob g hgl
    exact ⟨i, hle _ _ h1, h2, h3⟩
  · have hb' : A.size ≤ b := hb
    rw [Ren.upd_other _ _ (by have := S.globs; omega)]; exact S.free b hb'
theorem RoSt.add {P : Program} {ρ : Ren} {τ : Nat → Option Nat} {A : AState} {w : World} (S : RoSt P ρ τ A w) {r off n : Nat} {cs : Tr Value} {c : Array Value} {el : TypeId} {fz : Nat × Nat} (hr : w.heap[r]? = some (.cells c el fz)) (hin : off + n ≤ c.size)
    (hc : ∀ j, j < n → ∃ v v', cellAt cs [] j = some v ∧ c[off + j]? = some v' ∧ VRel ρ v v') :
    ∃ ρ' τ' A' b, RoSt P ρ' τ' A' w ∧ ρ.le ρ' ∧ (∀ b o, A.get b = some o → A'.get b = some o) ∧ ρ' b = some ⟨r, off, c.size, (roEs cs n).getD 0, n⟩ ∧ A'.get b = some (.ro cs n P.globals.size) := by
  obtain ⟨ρ1, τ1, A1, S1, hle1, hs1, hk1, rcs, rn, hroot⟩ := S.first hr
  have hle : ρ1.le (ρ1.upd A1.size ⟨r, off, c.size, (roEs cs n).getD 0, n⟩) := Ren.le_upd _ (S1.free _ (Nat.le_refl _))
  have hlt : r < w.heap.size := (Array.getElem?_eq_some_iff.1 hr).1
  have hg : (A1.push (.ro cs n P.globals.size)).get A1.size = some (.ro cs n P.globals.size) := by rw [get_push, if_pos rfl]
  have hold : ∀ b o, A1.get b = some o → (A1.push (.ro cs n P.globals.size)).get b = some o := fun b o h => by
    rw [get_push, if_neg (by intro e; subst e; rw [S1.fresh _ (Nat.le_refl _)] at h; cases h)]; exact h
  refine ⟨ρ1.upd A1.size ⟨r, off, c.size, (roEs cs n).getD 0, n⟩, fun q => if q = r then some P.globals.size else τ1 q, A1.push (.ro cs n P.globals.size), A1.size, ?_, hle1.trans hle, fun b o h => hold b o (hk1 b o h), Ren.upd_same _ _ _, hg⟩
  refine ⟨fun b o h => ?_, .inr ⟨_, _, hold _ _ hroot⟩, fun b hb => ?_, fun q f h => ?_, fun g hgl => ?_, ?_, fun b hb => ?_, fun h => by rw [hold _ _ hroot] at h; cases h⟩
  · by_cases e : A1.size = b
    · subst e; rw [hg] at h; cases h
      refine ⟨_, _, rfl, _, Ren.upd_same _ _ _, hlt, if_pos rfl, .ro c el fz hr rfl rfl hin (fun j hj => ?_) (fun e h => by simp only [h, Option.getD_some])⟩
      obtain ⟨v, v', h1, h2, h3⟩ := hc j hj
      exact ⟨v, v', h1, h2, h3.mono (hle1.trans hle)⟩
    · rw [get_push, if_neg e] at h
      obtain ⟨cs2, n2, rfl, i, h1, h2, h3, h4⟩ := S1.obj b o h
      exact ⟨cs2, n2, rfl, i, hle _ _ h1, h2, by show (if _ then _ else _) = _; rw [h3]; simp, h4.roAny hle⟩
  · rw [size_push] at hb
    rw [get_push, if_neg (by omega)]; exact S1.fresh b (by omega)
  · change (if q = r then some P.globals.size else τ1 q) = some f at h
    split at h
    · cases h; exact ⟨rfl, _, hold _ _ hroot⟩
    · obtain ⟨e, o, ho⟩ := S1.terr q f h
      exact ⟨e, o, hold _ _ ho⟩
  · obtain ⟨i, h1, h2, h3⟩ := S1.glob g hgl
    exact ⟨i, hle _ _ h1, h2, h3⟩
  · rw [size_push]; have := S1.globs; omega
  · rw [size_push] at hb
    rw [Ren.upd_other _ _ (by omega)]; exact S1.free b (by omega)
section
variable {H : Type}
inductive Rd (P : Program) (A : AState) : TypeId → List Value → DataW H → Prop
  | bool {t : TypeId} {b : Bool} (hu : P.underlying t = some .bool) : Rd P A t [.bool b] (.lit (.bool b))
  | int {t : TypeId} {k : IntKind} {n : Int} (hu : P.underlying t = some (.int k)) (hw : (Lit.int k n).wf = true) : Rd P A t [.int k n] (.lit (.int k n))
  | string {t : TypeId} {s : ByteArray} (hu : P.underlying t = some .string) (hs : s.size ≤ reachBytes) : Rd P A t [.string s] (.lit (.string s.data.toList))
  | sliceNil {t e : TypeId} (hu : P.underlying t = some (.slice e)) : Rd P A t [.slice none 0 0] .nil
  | sliceZ {t e : TypeId} (hu : P.underlying t = some (.slice e)) : Rd P A t [.slice (some ⟨0, 0, some 0⟩) 0 0] (.slice [] [])
  | slice {t e : TypeId} {b len cap : Nat} {elems spare : List (DataW H)} (vs : List (List Value)) (cs : Tr Value) (hu : P.underlying t = some (.slice e)) (hcap : 0 < cap) (hlen : len ≤ cap) (hmax : cap ≤ reachBytes) (he : elems.length = len) (hs : spare.length = cap - len)
      (hvs : vs.length = cap) (hb : A.get b = some (.ro cs (cap * P.cellsOf e) P.globals.size)) (hc : ∀ j, j < cap * P.cellsOf e → cellAt cs [] j = vs.flatten[j]?) (hsz : ∀ x ∈ vs, x.length = P.cellsOf e)
      (hr : ∀ (i : Nat) x d, vs[i]? = some x → (elems ++ spare)[i]? = some d → Rd P A e x d) : Rd P A t [.slice (some ⟨b, 0, none⟩) len cap] (.slice elems spare)
  | struct {t : TypeId} {fs : Array Field} {cs : List Value} {ds : List (DataW H)} (hu : P.underlying t = some (.struct fs)) (hl : cs.length = P.cellsOf t) (hd : ds.length = fs.toList.length)
      (hr : ∀ (i : Nat) f d, fs.toList[i]? = some f → ds[i]? = some d → Rd P A f.type ((cs.drop f.offset).take (P.cellsOf f.type)) d) : Rd P A t cs (.agg ds)
theorem Rd.mono {P : Program} {A A' : AState} (h : ∀ b o, A.get b = some o → A'.get b = some o) {t : TypeId} {cs : List Value} {d : DataW H} (r : Rd P A t cs d) : Rd P A' t cs d := by
  induction r with
  | bool hu => exact .bool hu
  | int hu hw => exact .int hu hw
  | string hu hs => exact .string hu hs
  | sliceNil hu => exact .sliceNil hu
  | sliceZ hu => exact .sliceZ hu
  | slice vs cs hu hcap hlen hmax he hs hvs hb hc hsz _ ih => exact .slice vs cs hu hcap hlen hmax he hs hvs (h _ _ hb) hc hsz ih
  | struct hu hl hd _ ih => exact .struct hu hl hd ih
def Laid (P : Program) (w : World) (A : AState) (ρ : Ren) (R : Ren → AState → Prop) : Prop :=
  ∃ ρ' τ' A', RoSt P ρ' τ' A' w ∧ ρ.le ρ' ∧ (∀ b o, A.get b = some o → A'.get b = some o) ∧ R ρ' A'
end
end Go.Ag
namespace Go.Ag
open Go.ChangeShapes
section
variable {H : Type}
def RdV (P : Program) (A : AState) (t : TypeId) (v : Value) (d : DataW H) : Prop := ∃ cs, Rd P A t cs d ∧ ((∃ fs, P.underlying t = some (.struct fs)) ∧ v = .agg cs.toArray ∨ (∀ fs, P.underlying t ≠ some (.struct fs)) ∧ cs = [v])
theorem RdV.mono {P : Program} {A A' : AState} (h : ∀ b o, A.get b = some o → A'.get b = some o) {t : TypeId} {v : Value} {d : DataW H} (r : RdV P A t v d) : RdV P A' t v d := by
  obtain ⟨cs, h1, h2⟩ := r
  exact ⟨cs, h1.mono h, h2⟩
end
end Go.Ag
namespace Go.Ag
set_option linter.unusedVariables false
inductive K where
  | cells (l : List Value) (es : Nat)
  | ro (l : List Value)
  | map (es : List (Value × Value))
  | iter (s : ByteArray) (pos : Nat)
  | loop (L : ALoop)
def K.list : K → Option (List Value)
  | .cells l _ => some l
  | .ro l => some l
  | _ => none
structure MS where
  m : Nat → Option K
  n : Nat
def MS.set (S : MS) (b : Nat) (k : K) : MS := ⟨fun x => if x = b then some k else S.m x, S.n⟩
def MS.del (S : MS) (b : Nat) : MS := ⟨fun x => if x = b then none else S.m x, S.n⟩
def MS.push (S : MS) (k : K) : MS := ⟨fun x => if x = S.n then some k else S.m x, S.n + 1⟩
def MS.list (S : MS) (b : Nat) : Option (List Value) := (S.m b).bind K.list
def faS (off : Nat) (x : Value) : Option Value := match x with | .pointer (some ⟨b, o, none⟩) => some (.pointer (some ⟨b, o + off, none⟩)) | _ => none
def faT (P : Program) (t : TypeId) (field : Nat) : Option Nat :=
  match P.underlying t with
  | some (.struct fields) => (fields[field]?).bind fun f => (P.info? f.type).bind fun i => if i.size = 0 then none else some f.offset
  | _ => none
def mfieldAddr (P : Program) (t : TypeId) (x : Value) (field : Nat) : Option Value := match faT P t field with | some off => faS off x | none => none
def partS (sz : Option Nat) (cs : List Value) (off : Nat) : Option Value :=
  match sz with
  | some n => if Nat.ble (off + n) cs.length then some (.agg ((cs.drop off).take n).toArray) else none
  | none => cs[off]?
def aggT (P : Program) (t : TypeId) : Option (Option Nat) := (P.underlying t).bind fun u => (P.info? t).bind fun i => some (if isAggD u then some i.size else none)
def fldS (sz : Option Nat) (off : Nat) (x : Value) : Option Value := match x with | .agg cs => partS sz cs.toList off | _ => none
def fldT (P : Program) (t : TypeId) (field : Nat) : Option (Option Nat × Nat) :=
  match P.underlying t with
  | some (.struct fields) => (fields[field]?).bind fun f => (aggT P f.type).bind fun a => some (a, f.offset)
  | _ => none
def mfield (P : Program) (t : TypeId) (x : Value) (field : Nat) : Option Value := match fldT P t field with | some (a, off) => fldS a off x | none => none
def iaAS (len sz : Nat) (x ix : Value) : Option Value :=
  match x, ix with
  | .pointer (some ⟨b, off, none⟩), .int _ i => if 0 ≤ i ∧ i < (len : Int) then some (.pointer (some ⟨b, off + i.toNat * sz, none⟩)) else none
  | _, _ => none
def iaSS (sz : Nat) (x ix : Value) : Option Value :=
  match x, ix with
  | .slice (some ⟨b, off, none⟩) len _, .int _ i => if 0 ≤ i ∧ i < (len : Int) then some (.pointer (some ⟨b, off + i.toNat * sz, none⟩)) else none
  | _, _ => none
def elT (P : Program) (t : TypeId) : Option (Option Nat × Nat) :=
  match P.underlying t with
  | some (.array len elem) => (P.info? elem).bind fun e => some (some len, e.size)
  | some (.slice elem) => (P.info? elem).bind fun e => some (none, e.size)
  | _ => none
def mindexAddr (P : Program) (t : TypeId) (x ix : Value) : Option Value :=
  match elT P t with
  | some (some len, sz) => iaAS len sz x ix
  | some (none, sz) => iaSS sz x ix
  | none => none
theorem mfieldAddr_eq (P : Program) (t : TypeId) (x : Value) (f : Nat) {v : Value} (h : mfieldAddr P t x f = some v) : afieldAddr P t x f = some v := by
  unfold mfieldAddr faT at h
  unfold afieldAddr
  split at h
  · rename_i off hf
    split at hf
    · rename_i fields hu
      obtain ⟨f', h1, hf⟩ := Option.bind_eq_some_iff.1 hf
      obtain ⟨i, h2, hf⟩ := Option.bind_eq_some_iff.1 hf
      split at hf
      · cases hf
      · rename_i hne
        cases hf
        unfold faS at h
        split at h
        · cases h
          simp only [hu, h1, h2, Option.bind_some, if_neg hne]
        · cases h
    · cases hf
  · cases h
theorem partA_of {P : Program} {t : TypeId} {a : Option Nat} {cs : List Value} {off : Nat} (h : aggT P t = some a) : partA P t cs off = partS a cs off := by
  unfold aggT at h
  obtain ⟨u, h1, h⟩ := Option.bind_eq_some_iff.1 h
  obtain ⟨i, h2, h⟩ := Option.bind_eq_some_iff.1 h
  cases h
  unfold partA partS
  simp only [h1, h2, Option.bind_some]
  by_cases hu : isAggD u = true
  · simp only [if_pos hu]
  · simp only [if_neg hu]
theorem mfield_eq (P : Program) (t : TypeId) (x : Value) (f : Nat) {v : Value} (h : mfield P t x f = some v) : afield P t x f = some v := by
  unfold mfield fldT at h
  unfold afield
  split at h
  · rename_i a off hf
    split at hf
    · rename_i fields hu
      obtain ⟨f', h1, hf⟩ := Option.bind_eq_some_iff.1 hf
      obtain ⟨a', h2, hf⟩ := Option.bind_eq_some_iff.1 hf
      cases hf
      unfold fldS at h
      split at h
      · simp only [hu, h1, Option.bind_some]; rw [partA_of h2]; exact h
      · cases h
    · cases hf
  · cases h
theorem mindexAddr_eq (P : Program) (t : TypeId) (x ix : Value) {v : Value} (h : mindexAddr P t x ix = some v) : aindexAddr P t x ix = some v := by
  unfold mindexAddr elT at h
  unfold aindexAddr
  split at h
  · rename_i len sz hf
    split at hf
    · rename_i l elem hu
      obtain ⟨e, h1, hf⟩ := Option.bind_eq_some_iff.1 hf
      cases hf
      unfold iaAS at h
      split at h
      · simp only [hu, h1, Option.bind_some]; exact h
      · cases h
    · obtain ⟨e, h1, hf⟩ := Option.bind_eq_some_iff.1 hf
      cases hf
    · cases hf
  · rename_i sz hf
    split at hf
    · obtain ⟨e, h1, hf⟩ := Option.bind_eq_some_iff.1 hf
      cases hf
    · rename_i elem hu
      obtain ⟨e, h1, hf⟩ := Option.bind_eq_some_iff.1 hf
      cases hf
      unfold iaSS at h
      split at h
      · simp only [hu, h1, Option.bind_some]; exact h
      · cases h
    · cases hf
  · cases h
def ixStr (x ix : Value) : Option Value :=
  match x, ix with
  | .string s, .int _ i => if 0 ≤ i then (s.data.toList[i.toNat]?).map fun b => .int .u8 b.toNat else none
  | _, _ => none
def ixArr (len sz : Nat) (a : Option Nat) (x ix : Value) : Option Value :=
  match x, ix with
  | .agg cs, .int _ i => if 0 ≤ i ∧ i < (len : Int) then partS a cs.toList (i.toNat * sz) else none
  | _, _ => none
def ixT (P : Program) (t : TypeId) : Option (Option (Nat × Nat × Option Nat)) :=
  match P.underlying t with
  | some (.array len elem) => (P.info? elem).bind fun e => (aggT P elem).bind fun a => some (some (len, e.size, a))
  | some .string => some none
  | _ => none
def mindex (P : Program) (t : TypeId) (x ix : Value) : Option Value :=
  match ixT P t with
  | some (some (len, sz, a)) => ixArr len sz a x ix
  | some none => ixStr x ix
  | none => none
theorem mindex_eq (P : Program) (t : TypeId) (x ix : Value) {v : Value} (h : mindex P t x ix = some v) : aindex P t x ix = some v := by
  unfold mindex ixT at h
  unfold aindex
  split at h
  · rename_i len sz a hk
    split at hk
    · rename_i l elem hu
      obtain ⟨e, h1, hk⟩ := Option.bind_eq_some_iff.1 hk
      obtain ⟨a', h2, hk⟩ := Option.bind_eq_some_iff.1 hk
      cases hk
      unfold ixArr at h
      split at h
      · simp only [hu, h1, Option.bind_some, partA_of h2]; exact h
      · cases h
    · cases hk
    · cases hk
  · rename_i hk
    split at hk
    · obtain ⟨e, h1, hk⟩ := Option.bind_eq_some_iff.1 hk
      obtain ⟨a', h2, hk⟩ := Option.bind_eq_some_iff.1 hk
      cases hk
    · rename_i hu
      unfold ixStr at h
      split at h
      · simp only [hu]; exact h
      · cases h
    · cases hk
  · cases h
def bdS (pl : Nat → Option (Nat × Nat)) (z : List Value) (parts : List (Nat × Value)) : Option Value := (fillL pl z parts).map fun cs => .agg cs.toArray
def bdT (P : Program) (t : TypeId) : Option ((Nat → Option (Nat × Nat)) × List Value) :=
  (P.info? t).bind fun i => i.zero.bind fun z => (P.underlying t).bind fun u =>
  if z.cells.toList.all plain1 then
    match u with
    | .struct fields => (fieldPlaces P fields.toList).bind fun pl => some ((pl[·]?), z.cells.toList)
    | .array _ elem => (P.info? elem).bind fun e => some (fun i => some (i * e.size, e.size), z.cells.toList)
    | _ => none
  else none
def mbuild (P : Program) (t : TypeId) (parts : List (Nat × Value)) : Option Value := match bdT P t with | some (pl, z) => bdS pl z parts | none => none
theorem mbuild_eq (P : Program) (t : TypeId) (parts : List (Nat × Value)) {v : Value} (h : mbuild P t parts = some v) : abuild P t parts = some v := by
  unfold mbuild bdT at h
  unfold abuild
  split at h
  case h_2 => cases h
  rename_i pl z hk
  obtain ⟨i, h1, hk⟩ := Option.bind_eq_some_iff.1 hk
  obtain ⟨z0, h2, hk⟩ := Option.bind_eq_some_iff.1 hk
  obtain ⟨u, h3, hk⟩ := Option.bind_eq_some_iff.1 hk
  split at hk
  case isFalse => cases hk
  rename_i hp
  simp only [h1, h2, h3, Option.bind_some, hp, if_true]
  split at hk
  · obtain ⟨q, h4, hk⟩ := Option.bind_eq_some_iff.1 hk
    cases hk
    simp only [h4, Option.bind_some]; exact h
  · obtain ⟨q, h4, hk⟩ := Option.bind_eq_some_iff.1 hk
    cases hk
    simp only [h4, Option.bind_some]; exact h
  · cases hk
def cvInt (k : IntKind) (x : Value) : Option Value := match x with | .int _ n => some (.int k (k.wrap n)) | _ => none
def cvStr (x : Value) : Option Value := match x with | .int _ n => some (.string (Utf8.encode n)) | .string s => some (.string s) | _ => none
def cvT (P : Program) (src dst : TypeId) : Option (Option IntKind) :=
  (P.underlying src).bind fun _ => (P.underlying dst).bind fun d => match d with | .int k => some (some k) | .string => some none | _ => none
def mconv (P : Program) (src dst : TypeId) (x : Value) : Option Value := match cvT P src dst with | some (some k) => cvInt k x | some none => cvStr x | none => none
theorem mconv_eq (P : Program) (src dst : TypeId) (x : Value) {v : Value} (h : mconv P src dst x = some v) : aconv P src dst x = some v := by
  unfold mconv cvT at h
  unfold aconv
  split at h
  · rename_i k hk
    obtain ⟨u, h1, hk⟩ := Option.bind_eq_some_iff.1 hk
    obtain ⟨d, h2, hk⟩ := Option.bind_eq_some_iff.1 hk
    split at hk
    · cases hk
      unfold cvInt at h
      split at h
      · simp only [h1, h2, Option.bind_some]; exact h
      · cases h
    · cases hk
    · cases hk
  · rename_i hk
    obtain ⟨u, h1, hk⟩ := Option.bind_eq_some_iff.1 hk
    obtain ⟨d, h2, hk⟩ := Option.bind_eq_some_iff.1 hk
    split at hk
    · cases hk
    · unfold cvStr at h
      split at h
      · simp only [h1, h2, Option.bind_some]; exact h
      · simp only [h1, h2, Option.bind_some]; exact h
      · cases h
    · cases hk
  · cases h
def nilS (v : Value) : Option Value := match v with | .pointer (some a) => some (.pointer (some a)) | .func (.func f) a b => some (.func (.func f) a b) | .func (.yield f) a b => some (.func (.yield f) a b) | _ => none
def pickS (c a b : Value) : Option Value := match c with | .bool t => some (if t then a else b) | _ => none
def mPure (P : Program) (ρ : Operand → Value) (o : Oper) : Option Value :=
  match o.op with
  | .index t x ix => mindex P t (ρ x) (ρ ix)
  | .build t parts => mbuild P t (parts.toList.map fun (i, x) => (i, ρ x))
  | .convert src dst x => mconv P src dst (ρ x)
  | .fieldAddr t x f => mfieldAddr P t (ρ x) f
  | .field t x f => mfield P t (ρ x) f
  | .indexAddr t x ix => mindexAddr P t (ρ x) (ρ ix)
  | _ => aPure P ρ o
theorem mPure_eq {P : Program} {ρ : Operand → Value} {o : Oper} {v : Value} (h : mPure P ρ o = some v) : aPure P ρ o = some v := by
  unfold mPure at h
  split at h
  · rename_i t x ix ho; unfold aPure; rw [ho]; exact mindex_eq _ _ _ _ h
  · rename_i t ps ho; unfold aPure; rw [ho]; exact mbuild_eq _ _ _ h
  · rename_i src dst x ho; unfold aPure; rw [ho]; exact mconv_eq _ _ _ _ h
  · rename_i t x f ho; unfold aPure; rw [ho]; exact mfieldAddr_eq _ _ _ _ h
  · rename_i t x f ho; unfold aPure; rw [ho]; exact mfield_eq _ _ _ _ h
  · rename_i t x ix ho; unfold aPure; rw [ho]; exact mindexAddr_eq _ _ _ _ h
  · exact h
def ldS (sz : Option Nat) (S : MS) (x : Value) : Option Value :=
  match x with
  | .pointer (some ⟨b, off, none⟩) => (S.list b).bind fun l => partS sz l off
  | _ => none
def mload (P : Program) (S : MS) (t : TypeId) (x : Value) : Option Value := match aggT P t with | some a => ldS a S x | none => none
def MS.readAt (S : MS) (b off n : Nat) : Option (List Value) := (S.list b).bind fun l => if Nat.ble (off + n) l.length then some ((l.drop off).take n) else none
def slS (sz : Nat) (S : MS) (x : Value) (low high max : Option Value) : Option Value :=
  match x with
  | .slice none 0 0 => (abounds 0 0 low high max).bind fun _ => some (.slice none 0 0)
  | .slice (some ⟨0, 0, some 0⟩) 0 0 => (abounds 0 0 low high max).bind fun _ => some (.slice (some ⟨0, 0, some 0⟩) 0 0)
  | .slice (some ⟨b, off, none⟩) len cap =>
    if Nat.beq cap unk then
      (S.m b).bind fun k =>
      match k with
      | .cells l es =>
        if Nat.beq es sz && Nat.blt 0 sz && Nat.ble off l.length then
          (abounds len (Nat.max len ((l.length - off) / sz)) low high max).bind fun (l, h, m) =>
            if Nat.blt h unk && Nat.blt m unk then
              match max with
              | some _ => some (.slice (some ⟨b, off + l * sz, none⟩) (h - l) (m - l))
              | none => some (.slice (some ⟨b, off + l * sz, none⟩) (h - l) unk)
            else none
        else none
      | _ => none
    else
      if Nat.blt cap unk then (abounds len cap low high max).bind fun (l, h, m) => some (.slice (some ⟨b, off + l * sz, none⟩) (h - l) (m - l)) else none
  | _ => none
def slA (n sz : Nat) (x : Value) (low high max : Option Value) : Option Value :=
  match x with
  | .pointer (some ⟨b, off, none⟩) => if Nat.blt n unk then (abounds n n low high max).bind fun (l, h, m) => some (.slice (some ⟨b, off + l * sz, none⟩) (h - l) (m - l)) else none
  | _ => none
def slStr (x : Value) (low high max : Option Value) : Option Value :=
  match x with
  | .string s => if max.isSome then none else (abounds s.size s.size low high none).bind fun (l, h, _) => some (.string (s.extract l h))
  | _ => none
inductive SlK where
  | str | slice (sz : Nat) | array (n sz : Nat)
def slT (P : Program) (t : TypeId) : Option SlK :=
  match P.underlying t with
  | some .string => some .str
  | some (.slice elem) => (P.info? elem).bind fun e => some (.slice e.size)
  | some (.array n elem) => (P.info? elem).bind fun e => some (.array n e.size)
  | _ => none
def mslice (P : Program) (S : MS) (t : TypeId) (x : Value) (low high max : Option Value) : Option Value :=
  match slT P t with
  | some .str => slStr x low high max
  | some (.slice sz) => slS sz S x low high max
  | some (.array n sz) => slA n sz x low high max
  | none => none
def strS (S : MS) (x : Value) : Option Value :=
  match x with
  | .slice none 0 0 => some (.string .empty)
  | .slice (some ⟨0, 0, some 0⟩) 0 0 => some (.string .empty)
  | .slice (some ⟨b, off, none⟩) len _ => (S.readAt b off len).bind fun cs => (toBytes cs).map fun l => .string ⟨l.toArray⟩
  | _ => none
def sameS (S : MS) (x : Value) : Option Value :=
  match x with
  | .slice (some ⟨b, off, none⟩) n c => match S.m b with | some (.cells _ _) => some (.slice (some ⟨b, off, none⟩) n c) | _ => none
  | _ => none
def convT (P : Program) (src dst : TypeId) : Option Bool :=
  match P.underlying src, P.underlying dst with
  | some (.slice e), some .string => if isU8 P e then some true else none
  | some (.slice e), some (.slice _) => if src = dst ∧ isU8 P e = true then some false else none
  | _, _ => none
def mconvRead (P : Program) (S : MS) (src dst : TypeId) (x : Value) : Option Value :=
  match convT P src dst with
  | some true => strS S x
  | some false => sameS S x
  | none => none
def entriesS (S : MS) (x : Value) : Option (List (Value × Value)) :=
  match x with
  | .map none => some []
  | .map (some r) => (match S.m r with | some (.map es) => some es | _ => none)
  | _ => none
def lkS (P : Program) (kt : TypeId) (z : Value) (S : MS) (x key : Value) (commaOk : Bool) : Option Value :=
  (entriesS S x).bind fun es => (findA P kt key es 0).bind fun r =>
    some (match r with
      | some (_, v) => if commaOk then .tuple #[v, .bool true] else v
      | none => if commaOk then .tuple #[z, .bool false] else z)
def lkT (P : Program) (t : TypeId) : Option (TypeId × Value) :=
  match P.underlying t with
  | some (.map kt elem) => if keyKind P kt then (P.info? elem).bind fun i => i.zero.bind fun z => if plainV z then some (kt, z) else none else none
  | _ => none
def mlookup (P : Program) (S : MS) (t : TypeId) (x key : Value) (commaOk : Bool) : Option Value := match lkT P t with | some (kt, z) => lkS P kt z S x key commaOk | none => none
def lenSl (x : Value) : Option Value := match x with | .slice _ n _ => some (goInt n) | _ => none
def lenStr (x : Value) : Option Value := match x with | .string s => some (goInt s.size) | _ => none
def lenMap (S : MS) (x : Value) : Option Value := (entriesS S x).map fun es => goInt es.length
inductive LenK where
  | str | slice | array (n : Nat) | map
def lenT (P : Program) (t : TypeId) : Option LenK :=
  match P.underlying t with
  | some .string => some .str
  | some (.array n _) => some (.array n)
  | some (.slice _) => some .slice
  | some (.map _ _) => some .map
  | some (.pointer a) => (match P.underlying a with | some (.array n _) => some (.array n) | _ => none)
  | _ => none
def mlen (P : Program) (S : MS) (t : TypeId) (x : Value) : Option Value :=
  match lenT P t with
  | some .str => lenStr x
  | some .slice => lenSl x
  | some (.array n) => some (goInt n)
  | some .map => lenMap S x
  | none => none
structure SpotM where
  b : Nat
  off : Nat
  n : Nat
def spotS (n : Nat) (p : Value) : Option SpotM := match p with | .pointer (some ⟨b, off, none⟩) => some ⟨b, off, n⟩ | _ => none
def MS.fresh (S : MS) (l : List Value) (es : Nat) : MS := S.push (.cells l es)
def ptrTo (b : Nat) : Value := .pointer (some ⟨b, 0, none⟩)
def allocT (P : Program) (t : TypeId) : Option (List Value) := (P.info? t).bind fun i => i.zero.bind fun z => if z.cells.toList.all plain1 then some z.cells.toList else none
def malloc (P : Program) (S : MS) (t : TypeId) : Option (Value × MS) := match allocT P t with | some l => some (ptrTo S.n, S.fresh l 0) | none => none
def mbox (S : MS) (v : Value) : Value × MS := (ptrTo S.n, S.fresh v.cells.toList 0)
def bsT (P : Program) (t : TypeId) (len : Nat) : Option (Nat × List Value) :=
  match P.underlying t with
  | some (.slice elem) => (P.info? elem).bind fun e =>
    if len * e.size > 16777216 || Nat.ble unk len then none else
    (if len * e.size = 0 then some [] else e.zero.bind fun z => if z.cells.toList.all plain1 && Nat.beq z.cells.size e.size then some z.cells.toList else none).bind fun z =>
    some (e.size, (List.range (len * e.size)).map fun i => (z[i % z.length]?).getD undef)
  | _ => none
def bsS (S : MS) (len sz : Nat) (z : List Value) (parts : List (Nat × Value)) : Option (Value × MS) :=
  (fillL (fun i => some (i * sz, sz)) z parts).bind fun cs => some (.slice (some ⟨S.n, 0, none⟩) len len, S.fresh cs sz)
def mbuildSlice (P : Program) (S : MS) (t : TypeId) (len : Nat) (parts : List (Nat × Value)) : Option (Value × MS) :=
  match bsT P t len with | some (sz, z) => bsS S len sz z parts | none => none
def zeros (z : List Value) (c : Nat) : List Value := (List.replicate c z).flatten
def msT (P : Program) (t : TypeId) : Option (Nat × Nat × List Value) :=
  match P.underlying t with
  | some (.slice elem) => (P.info? elem).bind fun e => e.zero.bind fun z => if z.cells.toList.all plain1 && Nat.blt 0 e.size && Nat.beq z.cells.size e.size then some (e.size, e.bytes, z.cells.toList) else none
  | _ => none
def msS (S : MS) (sz bytes : Nat) (z : List Value) (len cap : Value) : Option (Value × MS) :=
  match len, cap with
  | .int _ l0, .int _ c0 =>
    if 0 ≤ IntKind.i64.wrap l0 ∧ IntKind.i64.wrap l0 ≤ IntKind.i64.wrap c0 ∧ bytes * IntKind.i64.wrap c0 ≤ 281474976710656 ∧ IntKind.i64.wrap c0 < unk then
      some (.slice (some ⟨S.n, 0, none⟩) (IntKind.i64.wrap l0).toNat (IntKind.i64.wrap c0).toNat, S.fresh (zeros z (IntKind.i64.wrap c0).toNat) sz)
    else none
  | _, _ => none
def mmakeSlice (P : Program) (S : MS) (t : TypeId) (len cap : Value) : Option (Value × MS) :=
  match msT P t with | some (sz, bytes, z) => msS S sz bytes z len cap | none => none
def mmakeMap (S : MS) (t : Option Value) : Option (Value × MS) := match t with | none => some (.map (some S.n), S.push (.map [])) | some _ => none
def mrange (P : Program) (S : MS) (t : TypeId) (x : Value) : Option (Value × MS) :=
  match P.underlying t, x with
  | some .string, .string s => some (ptrTo S.n, S.push (.iter s 0))
  | _, _ => none
def bytesS (S : MS) (x : Value) : Option (Value × MS) :=
  match x with
  | .string s => if Nat.blt s.size 2147483648 then some (.slice (some ⟨S.n, 0, none⟩) s.size unk, S.fresh (stringCells s) 1) else none
  | _ => none
def bytesT (P : Program) (src dst : TypeId) : Bool :=
  match P.underlying src, P.underlying dst with
  | some _, some (.slice e) => isU8 P e
  | _, _ => false
def mbytes (P : Program) (S : MS) (src dst : TypeId) (x : Value) : Option (Value × MS) := if bytesT P src dst then bytesS S x else none
def MS.write (S : MS) (b off : Nat) (vs : List Value) : Option MS :=
  match S.m b with
  | some (.cells l es) => if Nat.ble (off + vs.length) l.length then some (S.set b (.cells (spliceL l vs off) es)) else none
  | _ => none
def sizeT (P : Program) (t : TypeId) : Option Nat := (P.info? t).bind fun i => some i.size
def stS (n : Nat) (S : MS) (p v : Value) : Option MS :=
  match p with
  | .pointer (some ⟨b, off, none⟩) => if Nat.beq v.cells.size n && v.cells.toList.all oneCell then S.write b off v.cells.toList else none
  | _ => none
def mstore (P : Program) (S : MS) (t : TypeId) (p v : Value) : Option MS := match sizeT P t with | some n => stS n S p v | none => none
def muS (P : Program) (kt : TypeId) (S : MS) (m key v : Value) : Option MS :=
  match m with
  | .map (some r) =>
    match S.m r with
    | some (.map es) => (findA P kt key es 0).bind fun f => some (match f with | some (i, _) => S.set r (.map (es.set i (key, v))) | none => S.set r (.map (es ++ [(key, v)])))
    | _ => none
  | _ => none
def muT (P : Program) (t : TypeId) : Option TypeId := match P.underlying t with | some (.map kt _) => if keyKind P kt then some kt else none | _ => none
def mmapUpdate (P : Program) (S : MS) (t : TypeId) (m key v : Value) : Option MS := match muT P t with | some kt => muS P kt S m key v | none => none
def firstCellsM (S : MS) (size n : Nat) : Value → Option (List Value)
  | .slice none 0 0 => if n = 0 then some [] else none
  | .slice (some ⟨0, 0, some 0⟩) 0 0 => if n = 0 then some [] else none
  | .slice (some ⟨b, off, none⟩) len _ => if Nat.ble n len then (if n = 0 then some [] else S.readAt b off (n * size)) else none
  | .string s => some (((s.data.toList).take n).map fun b => .int .u8 b.toNat)
  | _ => none
def appendedM (S : MS) (zs : Bool) (sz bytes : Nat) (z : List Value) (x : Value) : Option (Nat × List Value) :=
  if zs then
    match x with
    | .int _ l0 => if 0 ≤ IntKind.i64.wrap l0 ∧ IntKind.i64.wrap l0 * bytes ≤ 281474976710656 ∧ z.all plain1 then some ((IntKind.i64.wrap l0).toNat, zeros z (IntKind.i64.wrap l0).toNat) else none
    | _ => none
  else (lenOfA x).bind fun n => (firstCellsM S sz n x).map fun new => (n, new)
def apT (P : Program) (argTypes : List TypeId) : Option (Bool × Nat × Nat × List Value) :=
  match argTypes with
  | [st, xt] =>
    match P.underlying st, P.underlying xt with
    | some (.slice elem), some xd => (P.info? elem).bind fun e => e.zero.bind fun z => (addKind xd).bind fun zs => if Nat.blt 0 e.size && Nat.beq z.cells.size e.size then some (zs, e.size, e.bytes, z.cells.toList) else none
    | _, _ => none
  | _ => none
def apS (zs : Bool) (sz bytes : Nat) (z : List Value) (S : MS) (args : List Value) : Option (Value × MS) :=
  match args with
  | [s, x] => (appendedM S zs sz bytes z x).bind fun (n, new) =>
    if Nat.beq new.length (n * sz) && new.all oneCell then
      match s with
      | .slice none 0 0 =>
        if n = 0 then some (.slice none 0 0, S)
        else if (2 * n + 1000) * bytes ≤ 281474976710656 ∧ n < 2147483648 then some (.slice (some ⟨S.n, 0, none⟩) n unk, S.fresh new sz)
        else none
      | .slice (some ⟨b, off, none⟩) len cap =>
        match S.m b with
        | some (.cells l es) =>
          if n = 0 then some (.slice (some ⟨b, off, none⟩) len cap, S) else
          if Nat.beq cap unk then
            if Nat.beq es sz then
              if Nat.ble (off + (len + n) * sz) l.length then (S.write b (off + len * sz) new).bind fun S' => some (.slice (some ⟨b, off, none⟩) (len + n) unk, S')
              else if (2 * (len + n) + 1000) * bytes ≤ 281474976710656 ∧ len + n < 2147483648 ∧ off + len * sz ≤ l.length then
                some (.slice (some ⟨S.n, 0, none⟩) (len + n) unk, (S.del b).fresh ((l.drop off).take (len * sz) ++ new) sz)
              else none
            else none
          else if Nat.ble (len + n) cap then (S.write b (off + len * sz) new).bind fun S' => some (.slice (some ⟨b, off, none⟩) (len + n) cap, S')
          else if (2 * (len + n) + 1000) * bytes ≤ 281474976710656 ∧ len + n < 2147483648 ∧ off + len * sz ≤ l.length then
            some (.slice (some ⟨S.n, 0, none⟩) (len + n) unk, S.fresh ((l.drop off).take (len * sz) ++ new) sz)
          else none
        | _ => none
      | _ => none
    else none
  | _ => none
def mappend (P : Program) (S : MS) (argTypes : List TypeId) (args : List Value) : Option (Value × MS) :=
  match apT P argTypes with | some (zs, sz, bytes, z) => apS zs sz bytes z S args | none => none
def cpT (P : Program) (argTypes : List TypeId) : Option Nat :=
  match argTypes with
  | st :: _ => (match P.underlying st with | some (.slice elem) => (P.info? elem).bind fun e => some e.size | _ => none)
  | _ => none
def cpS (sz : Nat) (S : MS) (args : List Value) : Option (Value × MS) :=
  match args with
  | [.slice base dlen _, x] => (lenOfA x).bind fun xl => (firstCellsM S sz (Nat.min xl dlen) x).bind fun cs =>
      if cs.all oneCell then
        if Nat.min xl dlen = 0 then some (goInt (Nat.min xl dlen), S) else
        match base with
        | some ⟨b, off, none⟩ => (S.write b off cs).bind fun S' => some (goInt (Nat.min xl dlen), S')
        | _ => none
      else none
  | _ => none
def mcopy (P : Program) (S : MS) (argTypes : List TypeId) (args : List Value) : Option (Value × MS) := match cpT P argTypes with | some sz => cpS sz S args | none => none
def clT (P : Program) (argTypes : List TypeId) : Option (List Value) :=
  match argTypes with
  | [st] => (match P.underlying st with | some (.slice elem) => (P.info? elem).bind fun e => e.zero.bind fun z => if z.cells.toList.all plain1 then some z.cells.toList else none | _ => none)
  | _ => none
def clS (z : List Value) (S : MS) (args : List Value) : Option (Value × MS) :=
  match args with
  | [.slice base n _] =>
      if n = 0 then some (.tuple #[], S) else
      match base with
      | some ⟨b, off, none⟩ => (S.write b off (zeros z n)).map fun S' => (.tuple #[], S')
      | _ => none
  | _ => none
def mclear (P : Program) (S : MS) (argTypes : List TypeId) (args : List Value) : Option (Value × MS) := match clT P argTypes with | some z => clS z S args | none => none
def mnext (S : MS) (x : Value) (isString : Bool) : Option (Value × MS) :=
  match x, isString with
  | .pointer (some ⟨r, 0, none⟩), true =>
    match S.m r with
    | some (.iter s pos) =>
      if pos < s.size then some (.tuple #[.bool true, goInt pos, .int .i32 (Utf8.decode s pos).1], S.set r (.iter s (pos + (Utf8.decode s pos).2)))
      else some (.tuple #[.bool false], S)
    | _ => none
  | _, _ => none
def mRead (P : Program) (ρ : Operand → Value) (o : Oper) (S : MS) : Option Value :=
  match o.op with
  | .load t a => mload P S t (ρ a)
  | .lookup t x key ok => mlookup P S t (ρ x) (ρ key) ok
  | .slice t x lo hi mx => mslice P S t (ρ x) (lo.map ρ) (hi.map ρ) (mx.map ρ)
  | .convert src dst x => mconvRead P S src dst (ρ x)
  | .call { callee := .builtin .len, args, argTypes } => match args.toList, argTypes.toList with | [x], t :: _ => mlen P S t (ρ x) | _, _ => none
  | _ => none
def mMake (P : Program) (ρ : Operand → Value) (o : Oper) (S : MS) : Option (Value × MS) :=
  match o.op with
  | .alloc t => malloc P S t
  | .box _ x => some (mbox S (ρ x))
  | .buildSlice t len parts => mbuildSlice P S t len (parts.toList.map fun (i, x) => (i, ρ x))
  | .makeSlice t l c => mmakeSlice P S t (ρ l) (ρ c)
  | .makeMap _ r => mmakeMap S (r.map ρ)
  | .range t x => mrange P S t (ρ x)
  | .convert src dst x => mbytes P S src dst (ρ x)
  | _ => none
def mWrite (P : Program) (ρ : Operand → Value) (o : Oper) (S : MS) : Option (Value × MS) :=
  match o.op with
  | .store t p x => (mstore P S t (ρ p) (ρ x)).map fun S' => (undef, S')
  | .mapUpdate t m k x | .insert t m k x => (mmapUpdate P S t (ρ m) (ρ k) (ρ x)).map fun S' => (undef, S')
  | .call { callee := .builtin .append, args, argTypes } => mappend P S argTypes.toList (args.toList.map ρ)
  | .call { callee := .builtin .copy, args, argTypes } => mcopy P S argTypes.toList (args.toList.map ρ)
  | .call { callee := .builtin .clear, args, argTypes } => mclear P S argTypes.toList (args.toList.map ρ)
  | .next x isString => mnext S (ρ x) isString
  | _ => none
end Go.Ag
namespace Go.Ag
set_option linter.unusedVariables false
def CurK (A : AState) (b : Nat) : K → Prop
  | .cells l es => ∃ cs d root own top, A.get b = some (.cells cs d l.length es root own top) ∧ (∀ i, i < l.length → cellAt cs d i = l[i]?) ∧ A.isOpen b root own = true ∧ ∃ rcs rd rn res rown rtop, A.get root = some (.cells rcs rd rn res root rown rtop)
  | .ro l => ∃ cs root, A.get b = some (.ro cs l.length root) ∧ ∀ i, i < l.length → cellAt cs [] i = l[i]?
  | .map es => A.get b = some (.map es)
  | .iter s pos => A.get b = some (.strIter s pos)
  | .loop L => A.get b = some (.loop L)
structure St (A : AState) (S : MS) : Prop where
  size : A.size = S.n
  fresh : ∀ b, A.size ≤ b → A.get b = none
  cur : ∀ b k, S.m b = some k → CurK A b k
  dist : ∀ b1 b2 l1 e1 l2 e2, S.m b1 = some (.cells l1 e1) → S.m b2 = some (.cells l2 e2) → rootA A b1 = rootA A b2 → b1 = b2
section
variable {A A' : AState} {S S' : MS}
theorem CurK.some {b : Nat} {k : K} (h : CurK A b k) : ∃ o, A.get b = some o := by
  cases k with
  | cells l es => obtain ⟨cs, d, root, own, top, h1, _⟩ := h; exact ⟨_, h1⟩
  | ro l => obtain ⟨cs, root, h1, _⟩ := h; exact ⟨_, h1⟩
  | map es => exact ⟨_, h⟩
  | iter s p => exact ⟨_, h⟩
  | loop L => exact ⟨_, h⟩
theorem St.lt (h : St A S) {b : Nat} {k : K} (hk : S.m b = some k) : b < A.size := by
  obtain ⟨o, ho⟩ := (h.cur b k hk).some
  rcases Nat.lt_or_ge b A.size with h1 | h1
  · exact h1
  · rw [h.fresh b h1] at ho; cases ho
theorem St.list (h : St A S) {b : Nat} {l : List Value} (hl : S.list b = some l) : ∃ cs d, A.blkR b = some (cs, d, l.length) ∧ ∀ i, i < l.length → cellAt cs d i = l[i]? := by
  unfold MS.list at hl
  obtain ⟨k, hk, hl⟩ := Option.bind_eq_some_iff.1 hl
  have := h.cur b k hk
  cases k with
  | cells l' es =>
    cases hl
    obtain ⟨cs, d, root, own, top, h1, h2, h3, _⟩ := this
    refine ⟨cs, d, ?_, h2⟩
    unfold AState.blkR
    rw [h1]; simp only [h3, if_true]
  | ro l' =>
    cases hl
    obtain ⟨cs, root, h1, h2⟩ := this
    refine ⟨cs, [], ?_, h2⟩
    unfold AState.blkR
    rw [h1]
  | map es => cases hl
  | iter s p => cases hl
  | loop L => cases hl
theorem St.blk (h : St A S) {b : Nat} {l : List Value} {es : Nat} (hk : S.m b = some (.cells l es)) : ∃ cs d root top, A.blk b = some ⟨cs, d, l.length, es, root, top⟩ ∧ (∀ i, i < l.length → cellAt cs d i = l[i]?) ∧ rootA A b = some root ∧ ∃ rcs rd rn res rown rtop, A.get root = some (.cells rcs rd rn res root rown rtop) := by
  obtain ⟨cs, d, root, own, top, h1, h2, h3, h4⟩ := h.cur b _ hk
  refine ⟨cs, d, root, top, ?_, h2, ?_, h4⟩
  · unfold AState.blk; rw [h1]; simp only [h3, if_true]
  · unfold rootA; rw [h1]
theorem readN_list {cs : Tr Value} {d l : List Value} (h : ∀ i, i < l.length → cellAt cs d i = l[i]?) : ∀ (n off : Nat), off + n ≤ l.length → readN cs d off n = some ((l.drop off).take n) := by
  intro n
  induction n with
  | zero => intro off _; simp [readN]
  | succ n ih =>
    intro off hle
    unfold readN
    rw [h off (by omega), List.getElem?_eq_getElem (by omega), ih (off + 1) (by omega)]
    simp only [Option.bind_some]
    rw [List.drop_eq_getElem_cons (by omega : off < l.length), List.take_succ_cons]
theorem St.readAt (h : St A S) {b off n : Nat} {vs : List Value} (hr : S.readAt b off n = some vs) : A.readAt b off n = some vs := by
  unfold MS.readAt at hr
  obtain ⟨l, hl, hr⟩ := Option.bind_eq_some_iff.1 hr
  split at hr
  · rename_i hle
    cases hr
    obtain ⟨cs, d, h1, h2⟩ := h.list hl
    unfold AState.readAt
    rw [h1]
    simp only [Option.bind_some]
    rw [if_pos hle, readN_list h2 _ _ (by simpa using hle)]
  · cases hr
theorem isOpen_congr {b root own : Nat} (h : A'.ownOf root = A.ownOf root) : A'.isOpen b root own = A.isOpen b root own := by
  unfold AState.isOpen
  rw [h]
theorem rootA_some {b root : Nat} (h : rootA A b = some root) : ∃ cs d n es own top, A.get b = some (.cells cs d n es root own top) := by
  unfold rootA at h
  split at h
  · rename_i cs d n es r own top hg; cases h; exact ⟨_, _, _, _, _, _, hg⟩
  · cases h
theorem St.change (h : St A S) {b root y : Nat} {l : List Value} {es : Nat} (hb : S.m b = some (.cells l es)) (hroot : rootA A b = some root) (hsame : ∀ x, x ≠ b → x ≠ root → x < A.size → A'.get x = A.get x)
    (hfresh : ∀ x, A'.size ≤ x → A'.get x = none) (hsz : A'.size = S'.n)
    (hS' : ∀ x k, S'.m x = some k → (x ≠ b ∧ x ≠ y ∧ S.m x = some k) ∨ (x = y ∧ CurK A' x k ∧ ∀ r, rootA A' x = some r → r = root)) : St A' S' := by
  have hrc := (h.blk hb)
  obtain ⟨_, _, root', _, _, _, hr', rcs, rd, rn, res, rown, rtop, hrg⟩ := hrc
  have : root' = root := by rw [hroot] at hr'; exact (Option.some.inj hr').symm
  subst this
  obtain ⟨bcs, bd, bn, bes, bown, btop, hbg⟩ := rootA_some hroot
  -- another block of the old
  have old : ∀ x k, x ≠ b → S.m x = some k → A'.get x = A.get x ∧ CurK A' x k ∧ rootA A' x = rootA A x ∧ (∀ l2 e2, k = .cells l2 e2 → rootA A x ≠ some root') := by
    intro x k hx hk
    have hc := h.cur x k hk
    have hlt := h.lt hk
    have hne : ∀ l2 e2, k = .cells l2 e2 → rootA A x ≠ some root' := fun l2 e2 e he => by
      subst e
      exact hx (h.dist _ _ _ _ _ _ hk hb (by rw [he, hroot]))
    have hxr : x ≠ root' := by
      intro e; subst e
      cases k with
      | cells l2 e2 =>
        refine hne l2 e2 rfl ?_
        unfold rootA; rw [hrg]
      | ro l2 => obtain ⟨_, _, q, _⟩ := hc; rw [hrg] at q; cases q
      | map es => have q : A.get x = _ := hc; rw [hrg] at q; cases q
      | iter s p => have q : A.get x = _ := hc; rw [hrg] at q; cases q
      | loop L => have q : A.get x = _ := hc; rw [hrg] at q; cases q
    have hg := hsame x hx hxr hlt
    refine ⟨hg, ?_, by unfold rootA; rw [hg], hne⟩
    cases k with
    | cells l2 e2 =>
      obtain ⟨cs, d, r2, own, top, h1, h2, h3, rcs2, rd2, rn2, res2, rown2, rtop2, h4⟩ := hc
      have hr2 : r2 ≠ root' := by
        intro e; subst e
        exact hne l2 e2 rfl (by unfold rootA; rw [h1])
      have hr2b : r2 ≠ b := by
        intro e; subst e
        rw [hbg] at h4
        injection h4 with h4
        injection h4 with _ _ _ _ e _ _
        exact hr2 e.symm
      have hr2lt : r2 < A.size := by
        rcases Nat.lt_or_ge r2 A.size with q | q
        · exact q
        · rw [h.fresh _ q] at h4; cases h4
      have hg2 := hsame r2 hr2b hr2 hr2lt
      refine ⟨cs, d, r2, own, top, by rw [hg]; exact h1, h2, ?_, rcs2, rd2, rn2, res2, rown2, rtop2, by rw [hg2]; exact h4⟩
      rw [isOpen_congr (A := A) (by unfold AState.ownOf; rw [hg2])]
      exact h3
    | ro l2 => obtain ⟨cs, r2, q1, q2⟩ := hc; exact ⟨cs, r2, by rw [hg]; exact q1, q2⟩
    | map es => show A'.get x = _; rw [hg]; exact hc
    | iter s p => show A'.get x = _; rw [hg]; exact hc
    | loop L => show A'.get x = _; rw [hg]; exact hc
  refine ⟨hsz, hfresh, fun x k hk => ?_, fun b1 b2 l1 e1 l2 e2 h1 h2 hr => ?_⟩
  · rcases hS' x k hk with ⟨q1, _, q2⟩ | ⟨_, q, _⟩
    · exact (old x k q1 q2).2.1
    · exact q
  · have hsome : ∀ x l2 e2, CurK A' x (.cells l2 e2) → ∃ r, rootA A' x = some r := fun x l2 e2 hc => by
      obtain ⟨cs, d, r2, own, top, q, _⟩ := hc
      exact ⟨r2, by unfold rootA; rw [q]⟩
    rcases hS' b1 _ h1 with ⟨p1, p2, p3⟩ | ⟨p1, p2, p3⟩ <;> rcases hS' b2 _ h2 with ⟨q1, q2, q3⟩ | ⟨q1, q2, q3⟩
    · obtain ⟨_, _, o1, _⟩ := old b1 _ p1 p3
      obtain ⟨_, _, o2, _⟩ := old b2 _ q1 q3
      exact h.dist _ _ _ _ _ _ p3 q3 (by rw [← o1, ← o2]; exact hr)
    · exfalso
      obtain ⟨_, _, o1, o2⟩ := old b1 _ p1 p3
      obtain ⟨r, hr2⟩ := hsome _ _ _ q2
      have := q3 r hr2
      subst this
      exact o2 _ _ rfl (by rw [← o1, hr, hr2])
    · exfalso
      obtain ⟨_, _, o1, o2⟩ := old b2 _ q1 q3
      obtain ⟨r, hr2⟩ := hsome _ _ _ p2
      have := p3 r hr2
      subst this
      exact o2 _ _ rfl (by rw [← o1, ← hr, hr2])
    · rw [p1, q1]
theorem cellAt_splice {cs : Tr Value} {d l vs : List Value} {off : Nat} (h : ∀ i, i < l.length → cellAt cs d i = l[i]?) (hle : off + vs.length ≤ l.length) :
    (spliceL l vs off).length = l.length ∧ ∀ i, i < l.length → cellAt (writeL cs off vs) d i = (spliceL l vs off)[i]? := by
  have hl : (spliceL l vs off).length = l.length := by simp [spliceL]; omega
  refine ⟨hl, fun i hi => ?_⟩
  rw [cellAt_writeL]
  unfold spliceL
  by_cases h1 : i < off
  · rw [if_neg (by omega), h i hi, List.append_assoc, List.getElem?_append_left (by simp; omega), List.getElem?_take_of_lt h1]
  · by_cases h2 : i < off + vs.length
    · rw [if_pos ⟨by omega, h2⟩, List.append_assoc, List.getElem?_append_right (by simp; omega), List.getElem?_append_left (by simp; omega)]
      congr 1; simp; omega
    · rw [if_neg (by omega), h i hi, List.getElem?_append_right (by simp; omega), List.getElem?_drop]
      congr 1; simp; omega
theorem St.write (h : St A S) {b off : Nat} {vs : List Value} (hw : S.write b off vs = some S') : ∃ A', A.write b off vs = some A' ∧ St A' S' := by
  unfold MS.write at hw
  split at hw
  case h_2 => cases hw
  rename_i l es hb
  split at hw
  case isFalse => cases hw
  rename_i hle
  simp only [Option.some.injEq] at hw
  subst hw
  have hle' : off + vs.length ≤ l.length := by simpa using hle
  obtain ⟨cs, d, root, own, top, h1, h2, h3, rcs, rd, rn, res, rown, rtop, h4⟩ := h.cur b _ hb
  have hroot : rootA A b = some root := by unfold rootA; rw [h1]
  obtain ⟨hsl, hsc⟩ := cellAt_splice h2 hle'
  have hblt := h.lt hb
  unfold AState.write
  rw [h1]
  simp only [hle, h3, Bool.and_self, if_true]
  have hSet : ∀ A', (∀ x, x ≠ b → x ≠ root → x < A.size → A'.get x = A.get x) → A'.size = A.size → CurK A' b (.cells (spliceL l vs off) es) → rootA A' b = some root → (∀ x, A.size ≤ x → A'.get x = none) → St A' (S.set b (.cells (spliceL l vs off) es)) := by
    intro A' hs hz hc hr hf
    refine h.change (y := b) hb hroot hs (fun x hx => hf x (by omega)) (by rw [hz, h.size]; rfl) (fun x k hk => ?_)
    change (if x = b then _ else _) = _ at hk
    split at hk
    · rename_i e; subst e; cases hk; exact .inr ⟨rfl, hc, fun r q => by rw [hr] at q; exact (Option.some.inj q).symm⟩
    · rename_i e; exact .inl ⟨e, e, hk⟩
  by_cases hrb : root = b
  · subst hrb
    simp only [Nat.beq_refl, if_true]
    refine ⟨_, rfl, hSet _ (fun x hx _ _ => by rw [get_put, if_neg (Ne.symm hx)]) rfl ?_ ?_ (fun x hx => by rw [get_put, if_neg (by omega)]; exact h.fresh x hx)⟩
    · refine ⟨_, d, root, _, top, by rw [get_put, if_pos rfl, hsl], fun i hi => hsc i (by omega), ?_, _, _, _, _, _, _, by rw [get_put, if_pos rfl]⟩
      rw [isOpen_root]
      split
      · rw [isOpen_root] at h3; exact h3
      · simp
    · unfold rootA; rw [get_put, if_pos rfl]
  · have hbeq : Nat.beq root b = false := by
      cases hq : Nat.beq root b with
      | false => rfl
      | true => exact absurd (Nat.eq_of_beq_eq_true hq) hrb
    simp only [hbeq, Bool.false_eq_true, if_false, h4, Nat.beq_refl, if_true]
    have hrlt : root < A.size := by
      rcases Nat.lt_or_ge root A.size with q | q
      · exact q
      · rw [h.fresh _ q] at h4; cases h4
    refine ⟨_, rfl, hSet _ (fun x hx hx2 _ => by rw [get_put, if_neg (Ne.symm hx2), get_put, if_neg (Ne.symm hx)]) rfl ?_ ?_ (fun x hx => by rw [get_put, if_neg (by omega), get_put, if_neg (by omega)]; exact h.fresh x hx)⟩
    · refine ⟨_, d, root, own, top, by rw [get_put, if_neg hrb, get_put, if_pos rfl, hsl], fun i hi => hsc i (by omega), ?_, _, _, _, _, _, _, by rw [get_put, if_pos rfl]⟩
      rw [isOpen_other _ _ hrb]
      have : ((A.put b (.cells (writeL cs off vs) d l.length es root own top)).put root (.cells rcs rd rn res root (b + 1) rtop)).ownOf root = some (b + 1) := by unfold AState.ownOf; rw [get_put, if_pos rfl]
      rw [this]; simp
    · unfold rootA; rw [get_put, if_neg hrb, get_put, if_pos rfl]
theorem St.push (h : St A S) {o : AObj} {k : K} (hn : newShape A.size o) (hk : CurK (A.push o) A.size k) : St (A.push o) (S.push k) := by
  have hold : ∀ x k2, S.m x = some k2 → CurK (A.push o) x k2 ∧ rootA (A.push o) x = rootA A x ∧ (∀ l e, k2 = .cells l e → rootA A x ≠ some A.size) ∧ x ≠ A.size := by
    intro x k2 hx
    have hlt := h.lt hx
    have hg : ∀ z, z < A.size → (A.push o).get z = A.get z := fun z hz => by rw [get_push, if_neg (by omega)]
    have hc := h.cur x k2 hx
    have hr : rootA (A.push o) x = rootA A x := by unfold rootA; rw [hg x hlt]
    cases k2 with
    | cells l2 e2 =>
      obtain ⟨cs, d, r2, own, top, h1, h2, h3, rcs2, rd2, rn2, res2, rown2, rtop2, h4⟩ := hc
      have hr2lt : r2 < A.size := by
        rcases Nat.lt_or_ge r2 A.size with q | q
        · exact q
        · rw [h.fresh _ q] at h4; cases h4
      refine ⟨⟨cs, d, r2, own, top, by rw [hg x hlt]; exact h1, h2, ?_, rcs2, rd2, rn2, res2, rown2, rtop2, by rw [hg _ hr2lt]; exact h4⟩, hr, fun l e _ q => ?_, Nat.ne_of_lt hlt⟩
      · rw [isOpen_congr (A := A) (by unfold AState.ownOf; rw [hg _ hr2lt])]; exact h3
      · unfold rootA at q; rw [h1] at q; have := Option.some.inj q; omega
    | ro l2 => obtain ⟨cs, r2, q1, q2⟩ := hc; exact ⟨⟨cs, r2, by rw [hg x hlt]; exact q1, q2⟩, hr, (fun _ _ e => by cases e), Nat.ne_of_lt hlt⟩
    | map es => exact ⟨(by show (A.push o).get x = _; rw [hg x hlt]; exact hc), hr, (fun _ _ e => by cases e), Nat.ne_of_lt hlt⟩
    | iter s p => exact ⟨(by show (A.push o).get x = _; rw [hg x hlt]; exact hc), hr, (fun _ _ e => by cases e), Nat.ne_of_lt hlt⟩
    | loop L => exact ⟨(by show (A.push o).get x = _; rw [hg x hlt]; exact hc), hr, (fun _ _ e => by cases e), Nat.ne_of_lt hlt⟩
  have hcase : ∀ x k2, (S.push k).m x = some k2 → (x = A.size ∧ k2 = k) ∨ (x ≠ A.size ∧ S.m x = some k2) := by
    intro x k2 hx
    change (if x = S.n then _ else _) = _ at hx
    rw [← h.size] at hx
    split at hx
    · rename_i e; cases hx; exact .inl ⟨e, rfl⟩
    · rename_i e; exact .inr ⟨e, hx⟩
  have hnewroot : ∀ r, rootA (A.push o) A.size = some r → r = A.size := by
    intro r hr
    unfold rootA at hr
    rw [get_push, if_pos rfl] at hr
    split at hr
    · rename_i q; cases q; cases hr; exact hn.1
    · cases hr
  refine ⟨by rw [size_push, h.size]; rfl, fun x hx => ?_, fun x k2 hx => ?_, fun b1 b2 l1 e1 l2 e2 h1 h2 hr => ?_⟩
  · rw [size_push] at hx
    rw [get_push, if_neg (by omega)]; exact h.fresh x (by omega)
  · rcases hcase x k2 hx with ⟨rfl, rfl⟩ | ⟨_, q⟩
    · exact hk
    · exact (hold x k2 q).1
  · have hex : ∀ x l e, CurK (A.push o) x (.cells l e) → ∃ r, rootA (A.push o) x = some r := fun x l e hc => by
      obtain ⟨cs, d, r2, own, top, q, _⟩ := hc
      exact ⟨r2, by unfold rootA; rw [q]⟩
    rcases hcase b1 _ h1 with ⟨p1, p2⟩ | ⟨p1, p2⟩ <;> rcases hcase b2 _ h2 with ⟨q1, q2⟩ | ⟨q1, q2⟩
    · rw [p1, q1]
    · exfalso
      obtain ⟨_, o1, o2, _⟩ := hold b2 _ q2
      rw [p1] at hr
      obtain ⟨r, hr2⟩ := hex A.size l1 e1 (by rw [p2]; exact hk)
      have := hnewroot r hr2
      subst this
      exact o2 _ _ rfl (by rw [← o1, ← hr, hr2])
    · exfalso
      obtain ⟨_, o1, o2, _⟩ := hold b1 _ p2
      rw [q1] at hr
      obtain ⟨r, hr2⟩ := hex A.size l2 e2 (by rw [q2]; exact hk)
      have := hnewroot r hr2
      subst this
      exact o2 _ _ rfl (by rw [← o1, hr, hr2])
    · obtain ⟨_, o1, _⟩ := hold b1 _ p2
      obtain ⟨_, o2, _⟩ := hold b2 _ q2
      exact h.dist _ _ _ _ _ _ p2 q2 (by rw [← o1, ← o2]; exact hr)
theorem St.pushCells (h : St A S) {cs : Tr Value} {d l : List Value} {es : Nat} (hc : ∀ i, i < l.length → cellAt cs d i = l[i]?) : St (A.fresh cs d l.length es) (S.fresh l es) := by
  unfold AState.fresh MS.fresh
  refine h.push ⟨rfl, rfl, rfl⟩ ⟨cs, d, A.size, 0, A.size, by rw [get_push, if_pos rfl], hc, by rw [isOpen_root]; rfl, _, _, _, _, _, _, by rw [get_push, if_pos rfl]⟩
theorem St.pushList (h : St A S) {l : List Value} {es n : Nat} (hn : n = l.length) : St (A.fresh (writeL .nil 0 l) [] n es) (S.fresh l es) := by
  subst hn
  exact h.pushCells (fun i hi => cellAt_list _ _ _ hi)
theorem St.put (h : St A S) {b : Nat} {k k' : K} {o o' : AObj} (hb : S.m b = some k) (hg : A.get b = some o) (ho : ∀ cs d n es root own top, o ≠ .cells cs d n es root own top) (hc : CurK (A.put b o') b k') (hk' : ∀ l es, k' ≠ .cells l es) : St (A.put b o') (S.set b k') := by
  have hlt := h.lt hb
  have hgx : ∀ x, x ≠ b → (A.put b o').get x = A.get x := fun x hx => by rw [get_put, if_neg (Ne.symm hx)]
  have hold : ∀ x k2, x ≠ b → S.m x = some k2 → CurK (A.put b o') x k2 ∧ rootA (A.put b o') x = rootA A x := by
    intro x k2 hx hk
    have hc := h.cur x k2 hk
    refine ⟨?_, by unfold rootA; rw [hgx x hx]⟩
    cases k2 with
    | cells l2 e2 =>
      obtain ⟨cs, d, r2, own, top, h1, h2, h3, rcs2, rd2, rn2, res2, rown2, rtop2, h4⟩ := hc
      have hr2 : r2 ≠ b := by intro e; subst e; rw [hg] at h4; cases h4; exact ho _ _ _ _ _ _ _ rfl
      refine ⟨cs, d, r2, own, top, by rw [hgx x hx]; exact h1, h2, ?_, rcs2, rd2, rn2, res2, rown2, rtop2, by rw [hgx _ hr2]; exact h4⟩
      rw [isOpen_congr (A := A) (by unfold AState.ownOf; rw [hgx _ hr2])]; exact h3
    | ro l2 => obtain ⟨cs, r2, q1, q2⟩ := hc; exact ⟨cs, r2, by rw [hgx x hx]; exact q1, q2⟩
    | map es => show _ = _; rw [hgx x hx]; exact hc
    | iter s p => show _ = _; rw [hgx x hx]; exact hc
    | loop L => show _ = _; rw [hgx x hx]; exact hc
  have hcase : ∀ x k2, (S.set b k').m x = some k2 → (x = b ∧ k2 = k') ∨ (x ≠ b ∧ S.m x = some k2) := by
    intro x k2 hx
    change (if x = b then _ else _) = _ at hx
    split at hx
    · rename_i e; cases hx; exact .inl ⟨e, rfl⟩
    · rename_i e; exact .inr ⟨e, hx⟩
  refine ⟨by rw [size_put, h.size]; rfl, fun x hx => ?_, fun x k2 hx => ?_, fun b1 b2 l1 e1 l2 e2 h1 h2 hr => ?_⟩
  · rw [size_put] at hx
    rw [hgx x (by omega)]; exact h.fresh x hx
  · rcases hcase x k2 hx with ⟨rfl, rfl⟩ | ⟨q1, q⟩
    · exact hc
    · exact (hold x k2 q1 q).1
  · rcases hcase b1 _ h1 with ⟨p1, p2⟩ | ⟨p1, p2⟩
    · exact absurd p2.symm (hk' _ _)
    · rcases hcase b2 _ h2 with ⟨q1, q2⟩ | ⟨q1, q2⟩
      · exact absurd q2.symm (hk' _ _)
      · exact h.dist _ _ _ _ _ _ p2 q2 (by rw [← (hold b1 _ p1 p2).2, ← (hold b2 _ q1 q2).2]; exact hr)
theorem St.grown (h : St A S) {b root : Nat} {l new : List Value} {es es' : Nat} {keep : Bool} (hb : S.m b = some (.cells l es)) (hroot : rootA A b = some root) (hkeep : keep = true → A.ownOf root = some 0) :
    ∃ A', A.grown new es' (some (root, keep)) = some (A.size, A') ∧ St A' ((S.del b).fresh new es') := by
  obtain ⟨_, _, root', _, _, _, hr', rcs, rd, rn, res, rown, rtop, hrg⟩ := h.blk hb
  have : root' = root := by rw [hroot] at hr'; exact (Option.some.inj hr').symm
  subst this
  have hrlt : root' < A.size := by
    rcases Nat.lt_or_ge root' A.size with q | q
    · exact q
    · rw [h.fresh _ q] at hrg; cases hrg
  unfold AState.grown
  simp only [hrg, Nat.beq_refl, if_true]
  refine ⟨_, rfl, ?_⟩
  have hgn : ((A.put root' (.cells rcs rd rn res root' (if keep then rown else A.size + 1) A.size)).push (.cells (writeL .nil 0 new) [] new.length es' root' 0 0)).get A.size = some (.cells (writeL .nil 0 new) [] new.length es' root' 0 0) := by
    rw [get_push, size_put, if_pos rfl]
  have hgr : ((A.put root' (.cells rcs rd rn res root' (if keep then rown else A.size + 1) A.size)).push (.cells (writeL .nil 0 new) [] new.length es' root' 0 0)).get root' = some (.cells rcs rd rn res root' (if keep then rown else A.size + 1) A.size) := by
    rw [get_push, size_put, if_neg (by omega), get_put, if_pos rfl]
  refine h.change (y := A.size) hb hroot (fun x hx hx2 hlt => by rw [get_push, size_put, if_neg (by omega), get_put, if_neg (Ne.symm hx2)]) (fun x hx => ?_) (by rw [size_push, size_put, h.size]; rfl) (fun x k hk => ?_)
  · rw [size_push, size_put] at hx
    rw [get_push, size_put, if_neg (by omega), get_put, if_neg (by omega)]; exact h.fresh x (by omega)
  · change (if x = S.n then _ else (if x = b then _ else _)) = _ at hk
    rw [← h.size] at hk
    split at hk
    · rename_i e; subst e; cases hk
      refine .inr ⟨rfl, ⟨_, [], root', 0, 0, hgn, fun i hi => cellAt_list _ _ _ hi, ?_, _, _, _, _, _, _, hgr⟩, fun r q => ?_⟩
      · rw [isOpen_other _ _ (by omega)]
        have : ((A.put root' (.cells rcs rd rn res root' (if keep then rown else A.size + 1) A.size)).push (.cells (writeL .nil 0 new) [] new.length es' root' 0 0)).ownOf root' = some (if keep then rown else A.size + 1) := by unfold AState.ownOf; rw [hgr]
        rw [this]
        cases keep with
        | true =>
          have h0 := hkeep rfl
          have : A.ownOf root' = some rown := by unfold AState.ownOf; rw [hrg]
          rw [this] at h0
          rw [Option.some.inj h0]; rfl
        | false => simp
      · unfold rootA at q; rw [hgn] at q; exact (Option.some.inj q).symm
    · rename_i e
      split at hk
      · cases hk
      · rename_i e2; exact .inl ⟨e2, e, hk⟩
end
end Go.Ag
namespace Go.Ag
set_option linter.unusedVariables false
variable {P : Program} {A A' : AState} {S S' : MS}
theorem aggT_of {t : TypeId} {a : Option Nat} (h : aggT P t = some a) : ∃ u i, P.underlying t = some u ∧ P.info? t = some i ∧ a = if isAggD u then some i.size else none := by
  unfold aggT at h
  obtain ⟨u, h1, h⟩ := Option.bind_eq_some_iff.1 h
  obtain ⟨i, h2, h⟩ := Option.bind_eq_some_iff.1 h
  exact ⟨u, i, h1, h2, (Option.some.inj h).symm⟩
theorem mload_ok (h : St A S) {t : TypeId} {x v : Value} (hl : mload P S t x = some v) : aload P A t x = some v := by
  unfold mload at hl
  split at hl
  case h_2 => cases hl
  rename_i a ha
  obtain ⟨u, i, hu, hi, rfl⟩ := aggT_of ha
  unfold ldS at hl
  split at hl
  case h_2 => cases hl
  rename_i b off
  obtain ⟨l, h1, hl⟩ := Option.bind_eq_some_iff.1 hl
  obtain ⟨cs, d, h2, h3⟩ := h.list h1
  unfold aload
  simp only [hu, hi, Option.bind_some, h2]
  by_cases hagg : isAggD u = true
  · simp only [hagg, if_true, partS] at hl ⊢
    split at hl
    · rename_i hle
      rw [if_pos hle, readN_list h3 _ _ (by simpa using hle)]
      exact hl
    · cases hl
  · simp only [hagg, if_false, partS] at hl ⊢
    have hlt := (List.getElem?_eq_some_iff.1 hl).1
    rw [if_neg (by decide), if_pos (Nat.blt_eq.mpr hlt), h3 off hlt]
    exact hl
theorem mslice_ok0 (h : St A S) {t : TypeId} {x v : Value} {lo hi mx : Option Value} (hl : mslice P S t x lo hi mx = some v) : aslice0 P A t x lo hi mx = some v := by
  unfold mslice slT at hl
  unfold aslice0
  split at hl
  · rename_i hk
    unfold slStr at hl
    split at hl
    · split at hk
      · rename_i hu; simp only [hu]; exact hl
      · obtain ⟨e, _, hk⟩ := Option.bind_eq_some_iff.1 hk; cases hk
      · obtain ⟨e, _, hk⟩ := Option.bind_eq_some_iff.1 hk; cases hk
      · cases hk
    · cases hl
  · rename_i sz hk
    split at hk
    · cases hk
    · rename_i elem hu
      obtain ⟨e, he, hk⟩ := Option.bind_eq_some_iff.1 hk
      cases hk
      unfold slS at hl
      split at hl
      · simp only [hu, he, Option.bind_some]; exact hl
      · simp only [hu, he, Option.bind_some]; exact hl
      · rename_i b off len cap
        simp only [hu, he, Option.bind_some]
        split at hl
        · rename_i hc
          rw [if_pos hc]
          obtain ⟨k, hk, hl⟩ := Option.bind_eq_some_iff.1 hl
          split at hl
          · rename_i l es
            obtain ⟨cs, d, root, top, h1, _⟩ := h.blk hk
            rw [h1]
            simp only [Option.bind_some]
            exact hl
          · cases hl
        · rename_i hc
          rw [if_neg hc]
          exact hl
      · cases hl
    · obtain ⟨e, _, hk⟩ := Option.bind_eq_some_iff.1 hk; cases hk
    · cases hk
  · rename_i n sz hk
    split at hk
    · cases hk
    · obtain ⟨e, _, hk⟩ := Option.bind_eq_some_iff.1 hk; cases hk
    · rename_i n' elem hu
      obtain ⟨e, he, hk⟩ := Option.bind_eq_some_iff.1 hk
      cases hk
      unfold slA at hl
      split at hl
      · simp only [hu, he, Option.bind_some]; exact hl
      · cases hl
    · cases hk
  · cases hl
theorem mslice_ok (h : St A S) {t : TypeId} {x v : Value} {lo hi mx : Option Value} (hl : mslice P S t x lo hi mx = some v) : aslice P A t x lo hi mx = some v := by
  unfold aslice; rw [mslice_ok0 h hl]
theorem mconvRead_ok (h : St A S) {src dst : TypeId} {x v : Value} (hl : mconvRead P S src dst x = some v) : aconvRead P A src dst x = some v := by
  unfold mconvRead convT at hl
  unfold aconvRead
  split at hl
  · rename_i hk
    split at hk
    · rename_i e hs hd
      split at hk
      · rename_i hu8
        unfold strS at hl
        split at hl
        · simp only [hs, hd, hu8, if_true]; exact hl
        · simp only [hs, hd, hu8, if_true]; exact hl
        · rename_i b off len cap
          obtain ⟨cs, h1, hl⟩ := Option.bind_eq_some_iff.1 hl
          simp only [hs, hd, hu8, if_true, h.readAt h1, Option.bind_some]; exact hl
        · cases hl
      · cases hk
    · split at hk <;> cases hk
    · cases hk
  · rename_i hk
    split at hk
    · split at hk <;> cases hk
    · rename_i e e2 hs hd
      split at hk
      · rename_i hc
        unfold sameS at hl
        split at hl
        · rename_i b off n c
          split at hl
          · rename_i l es hb
            obtain ⟨cs, d, root, top, h1, _⟩ := h.blk hb
            simp only [hs, hd]
            rw [if_pos ⟨hc.1, hc.2, rfl, by rw [h1]; rfl⟩]
            exact hl
          · cases hl
        · cases hl
      · cases hk
    · cases hk
  · cases hl
theorem entries_ok (h : St A S) {x : Value} {es : List (Value × Value)} (he : entriesS S x = some es) : (x = .map none ∧ es = []) ∨ ∃ r, x = .map (some r) ∧ A.get r = some (.map es) := by
  unfold entriesS at he
  split at he
  · exact .inl ⟨rfl, (Option.some.inj he).symm⟩
  · rename_i r
    split at he
    · rename_i es' hr
      cases he
      exact .inr ⟨r, rfl, h.cur r _ hr⟩
    · cases he
  · cases he
theorem mlookup_ok (h : St A S) {t : TypeId} {x key v : Value} {ok : Bool} (hl : mlookup P S t x key ok = some v) : alookup P A t x key ok = some v := by
  unfold mlookup lkT at hl
  unfold alookup
  split at hl
  case h_2 => cases hl
  rename_i kt z hk
  split at hk
  case h_2 => cases hk
  rename_i kt' elem hu
  split at hk
  case isFalse => cases hk
  rename_i hkk
  obtain ⟨i, hi, hk⟩ := Option.bind_eq_some_iff.1 hk
  obtain ⟨z', hz, hk⟩ := Option.bind_eq_some_iff.1 hk
  split at hk
  case isFalse => cases hk
  rename_i hpl
  cases hk
  unfold lkS at hl
  obtain ⟨es, h1, hl⟩ := Option.bind_eq_some_iff.1 hl
  obtain ⟨r, h2, hl⟩ := Option.bind_eq_some_iff.1 hl
  simp only [hu, hkk, if_true, hi, Option.bind_some, hz, hpl]
  rcases entries_ok h h1 with ⟨rfl, rfl⟩ | ⟨r0, rfl, hg⟩
  · simp only [Option.bind_some, h2]
    cases r with
    | none => simp only [Option.bind_some]; exact hl
    | some p => obtain ⟨i, v'⟩ := p; simp only [Option.bind_some]; exact hl
  · simp only [hg, Option.bind_some, h2]
    cases r with
    | none => simp only [Option.bind_some]; exact hl
    | some p => obtain ⟨i, v'⟩ := p; simp only [Option.bind_some]; exact hl
theorem mlen_ok (h : St A S) {t : TypeId} {x v : Value} (hl : mlen P S t x = some v) : alen P A t x = some v := by
  unfold mlen lenT at hl
  unfold alen
  split at hl
  · rename_i hk
    unfold lenStr at hl
    split at hl
    · split at hk <;> rename_i hu <;> first | (simp only [hu]; exact hl) | cases hk | (split at hk <;> cases hk)
    · cases hl
  · rename_i hk
    unfold lenSl at hl
    split at hl
    · split at hk <;> rename_i hu <;> first | (simp only [hu]; exact hl) | cases hk | (split at hk <;> cases hk)
    · cases hl
  · rename_i n hk
    split at hk <;> rename_i hu
    · cases hk
    · cases hk; simp only [hu]; exact hl
    · cases hk
    · cases hk
    · split at hk
      · rename_i m _ hu2; cases hk; simp only [hu, hu2]; exact hl
      · cases hk
    · cases hk
  · rename_i hk
    split at hk <;> rename_i hu <;> first | cases hk | (split at hk <;> cases hk) | skip
    unfold lenMap at hl
    obtain ⟨es, h1, hl⟩ := Option.map_eq_some_iff.1 hl
    rcases entries_ok h h1 with ⟨rfl, rfl⟩ | ⟨r0, rfl, hg⟩
    · simp only [hu]; rw [← hl]; rfl
    · simp only [hu, hg]; rw [← hl, h1]; rfl
  · cases hl
theorem mRead_ok (h : St A S) {ρ : Operand → Value} {o : Oper} {v : Value} (hl : mRead P ρ o S = some v) : aRead P ρ o A = some v := by
  unfold mRead at hl
  unfold aRead
  split at hl
  · rename_i ho; rw [ho]; exact mload_ok h hl
  · rename_i ho; rw [ho]; exact mlookup_ok h hl
  · rename_i ho; rw [ho]; exact mslice_ok h hl
  · rename_i ho; rw [ho]; exact mconvRead_ok h hl
  · rename_i ho
    rw [ho]
    simp only
    split at hl
    · rename_i hx ht; simp only [hx, ht]; exact mlen_ok h hl
    · cases hl
  · cases hl
theorem goneIf {α : Type} {c : Prop} [Decidable c] {x : Option α} {y : α} (h : (if c then x else none) = some y) : c ∧ x = some y := by
  split at h
  · rename_i hc; exact ⟨hc, h⟩
  · cases h
theorem malloc_ok (h : St A S) {t : TypeId} {v : Value} (hl : malloc P S t = some (v, S')) : ∃ A', aalloc P A t = some (v, A') ∧ St A' S' := by
  unfold malloc allocT at hl
  split at hl
  case h_2 => cases hl
  rename_i l hk
  obtain ⟨i, h1, hk⟩ := Option.bind_eq_some_iff.1 hk
  obtain ⟨z, h2, hk⟩ := Option.bind_eq_some_iff.1 hk
  obtain ⟨h3, hk⟩ := goneIf hk
  cases hk
  cases hl
  unfold aalloc
  simp only [h1, h2, Option.bind_some, h3, if_true]
  refine ⟨_, by rw [h.size]; rfl, ?_⟩
  refine h.pushCells (cs := .nil) (d := z.cells.toList) (l := z.cells.toList) (es := 0) (fun i hi => ?_)
  unfold cellAt
  rw [Tr.get_nil]
  simp only
  rw [Nat.mod_eq_of_lt hi]
theorem mbox_ok (h : St A S) {x v : Value} (hl : mbox S x = (v, S')) : ∃ A', abox A x = (v, A') ∧ St A' S' := by
  unfold mbox at hl
  cases hl
  unfold abox
  exact ⟨_, by rw [h.size]; rfl, h.pushList (by simp)⟩
theorem mbuildSlice_ok (h : St A S) {t : TypeId} {len : Nat} {parts : List (Nat × Value)} {v : Value} (hl : mbuildSlice P S t len parts = some (v, S')) : ∃ A', abuildSlice P A t len parts = some (v, A') ∧ St A' S' := by
  unfold mbuildSlice bsT at hl
  split at hl
  case h_2 => cases hl
  rename_i sz z hk
  split at hk
  case h_2 => cases hk
  rename_i elem hu
  obtain ⟨e, he, hk⟩ := Option.bind_eq_some_iff.1 hk
  split at hk
  · cases hk
  rename_i hsz
  obtain ⟨z0, hz, hk⟩ := Option.bind_eq_some_iff.1 hk
  cases hk
  unfold bsS at hl
  obtain ⟨cs, h1, hl⟩ := Option.bind_eq_some_iff.1 hl
  cases hl
  unfold abuildSlice
  simp only [hu, he, Option.bind_some, if_neg hsz, hz, h1]
  exact ⟨_, by rw [h.size], h.pushList rfl⟩
theorem zeros_len (z : List Value) (c : Nat) : (zeros z c).length = c * z.length := by
  unfold zeros; induction c with
  | zero => simp
  | succ c ih => rw [List.replicate_succ, List.flatten_cons, List.length_append, ih, Nat.succ_mul, Nat.add_comm]
theorem zeros_get {z : List Value} : ∀ (c i : Nat), i < c * z.length → (zeros z c)[i]? = z[i % z.length]? := by
  intro c
  unfold zeros
  induction c with
  | zero => intro i h; simp at h
  | succ c ih =>
    intro i h
    rw [List.replicate_succ, List.flatten_cons]
    by_cases hi : i < z.length
    · rw [List.getElem?_append_left hi, Nat.mod_eq_of_lt hi]
    · rw [List.getElem?_append_right (by omega), ih (i - z.length) (by rw [Nat.succ_mul] at h; omega), Nat.mod_eq_sub_mod (by omega : i ≥ z.length)]
theorem mmakeSlice_ok (h : St A S) {t : TypeId} {len cap : Value} {v : Value} (hl : mmakeSlice P S t len cap = some (v, S')) : ∃ A', amakeSlice P A t len cap = some (v, A') ∧ St A' S' := by
  unfold mmakeSlice msT at hl
  split at hl
  case h_2 => cases hl
  rename_i sz bytes z hk
  split at hk
  case h_2 => cases hk
  rename_i elem hu
  obtain ⟨e, he, hk⟩ := Option.bind_eq_some_iff.1 hk
  obtain ⟨z0, hz, hk⟩ := Option.bind_eq_some_iff.1 hk
  obtain ⟨hc, hk⟩ := goneIf hk
  cases hk
  simp only [Bool.and_eq_true] at hc
  obtain ⟨⟨hp, hpos⟩, hzs⟩ := hc
  have hpos' : 0 < e.size := by have := hpos; simp [Nat.blt] at this; omega
  have hzs' : z0.cells.size = e.size := Nat.eq_of_beq_eq_true hzs
  unfold msS at hl
  split at hl
  case h_2 => cases hl
  rename_i k l0 k' c0
  obtain ⟨hcond, hl⟩ := goneIf hl
  cases hl
  unfold amakeSlice
  simp only [hu, he, Option.bind_some]
  rw [if_pos hcond]
  have hzl : z0.cells.toList.length = e.size := by simpa using hzs'
  have hlen : (zeros z0.cells.toList (IntKind.i64.wrap c0).toNat).length = (IntKind.i64.wrap c0).toNat * e.size := by rw [zeros_len, hzl]
  by_cases hn : (IntKind.i64.wrap c0).toNat * e.size = 0
  · simp only [hn, if_true]
    refine ⟨_, by rw [h.size], ?_⟩
    have he0 : zeros z0.cells.toList (IntKind.i64.wrap c0).toNat = [] := List.eq_nil_of_length_eq_zero (by rw [hlen]; exact hn)
    rw [he0]
    exact h.pushCells (cs := .nil) (d := []) (l := []) (es := e.size) (fun i hi => by simp at hi)
  · simp only [hn, if_false, hz, Option.bind_some, hp]
    have hb : Nat.blt 0 z0.cells.size = true := by rw [hzs']; exact hpos
    simp only [hb, Bool.and_self, if_true]
    refine ⟨_, by rw [h.size], ?_⟩
    have := h.pushCells (cs := .nil) (d := z0.cells.toList) (l := zeros z0.cells.toList (IntKind.i64.wrap c0).toNat) (es := e.size) (fun i hi => by
      unfold cellAt
      rw [Tr.get_nil]
      simp only
      rw [zeros_get _ _ (by rw [← zeros_len]; exact hi)])
    rw [hlen] at this
    exact this
theorem mMake_ok (h : St A S) {ρ : Operand → Value} {o : Oper} {v : Value} (hl : mMake P ρ o S = some (v, S')) : ∃ A', aMake P ρ o A = some (v, A') ∧ St A' S' := by
  unfold mMake at hl
  unfold aMake
  split at hl
  · rename_i ho; rw [ho]; exact malloc_ok h hl
  · rename_i ho; rw [ho]
    obtain ⟨A', h1, h2⟩ := mbox_ok h (Option.some.inj hl)
    exact ⟨A', congrArg some h1, h2⟩
  · rename_i ho; rw [ho]; exact mbuildSlice_ok h hl
  · rename_i ho; rw [ho]; exact mmakeSlice_ok h hl
  · rename_i t r ho
    rw [ho]
    unfold mmakeMap at hl
    unfold amakeMap
    simp only
    split at hl
    · rename_i hr
      cases hl
      rw [hr]
      exact ⟨_, by rw [h.size], h.push (o := .map []) trivial (by show AState.get _ _ = _; rw [get_push, if_pos rfl])⟩
    · cases hl
  · rename_i t x ho
    rw [ho]
    unfold mrange at hl
    unfold arange
    simp only
    split at hl
    · rename_i s hu hx
      cases hl
      simp only [hu, hx]
      exact ⟨_, by rw [h.size]; rfl, h.push (o := .strIter s 0) trivial (by show AState.get _ _ = _; rw [get_push, if_pos rfl])⟩
    · cases hl
  · rename_i src dst x ho
    rw [ho]
    unfold mbytes at hl
    obtain ⟨hb, hl⟩ := goneIf hl
    unfold bytesS at hl
    unfold abytes
    simp only
    unfold bytesT at hb
    split at hb
    · rename_i e hs hd
      split at hl
      · rename_i s hx
        obtain ⟨hlt, hl⟩ := goneIf hl
        cases hl
        simp only [hs, hd, hx, hb, hlt, Bool.and_self, if_true]
        refine ⟨_, by rw [h.size], h.pushList ?_⟩
        simp [stringCells]
      · cases hl
    · cases hb
  · cases hl
theorem mstore_ok (h : St A S) {t : TypeId} {p x : Value} (hl : mstore P S t p x = some S') : ∃ A', astore P A t p x = some A' ∧ St A' S' := by
  unfold mstore sizeT at hl
  split at hl
  case h_2 => cases hl
  rename_i n hk
  obtain ⟨i, hi, hk⟩ := Option.bind_eq_some_iff.1 hk
  cases hk
  unfold stS at hl
  split at hl
  case h_2 => cases hl
  rename_i b off
  obtain ⟨hc, hl⟩ := goneIf hl
  obtain ⟨A', h1, h2⟩ := h.write hl
  unfold astore
  simp only [hi, Option.bind_some, hc, if_true]
  exact ⟨A', h1, h2⟩
theorem mmapUpdate_ok (h : St A S) {t : TypeId} {m key x : Value} (hl : mmapUpdate P S t m key x = some S') : ∃ A', amapUpdate P A t m key x = some A' ∧ St A' S' := by
  unfold mmapUpdate muT at hl
  split at hl
  case h_2 => cases hl
  rename_i kt hk
  split at hk
  case h_2 => cases hk
  rename_i kt' e hu
  obtain ⟨hkk, hk⟩ := goneIf hk
  cases hk
  unfold muS at hl
  split at hl
  case h_2 => cases hl
  rename_i r
  split at hl
  case h_2 => cases hl
  rename_i es hr
  obtain ⟨f, h1, hl⟩ := Option.bind_eq_some_iff.1 hl
  have hg : A.get r = some (.map es) := h.cur r _ hr
  unfold amapUpdate
  simp only [hu, hkk, if_true, hg, h1, Option.bind_some]
  have hput : ∀ es', St (A.put r (.map es')) (S.set r (.map es')) := fun es' => h.put hr hg (by intros; simp) (by show AState.get _ _ = _; rw [get_put, if_pos rfl]) (by intros; simp)
  cases f with
  | none => cases hl; exact ⟨_, rfl, hput _⟩
  | some p => obtain ⟨i, y⟩ := p; cases hl; exact ⟨_, rfl, hput _⟩
theorem firstCells_ok (h : St A S) {sz n : Nat} {x : Value} {cs : List Value} (hl : firstCellsM S sz n x = some cs) : firstCellsA A sz n x = some cs := by
  unfold firstCellsM at hl
  unfold firstCellsA
  split at hl
  · exact hl
  · exact hl
  · rename_i b off len cap
    obtain ⟨h1, hl⟩ := goneIf hl
    simp only [h1, if_true]
    split at hl
    · rename_i h0; rw [if_pos h0]; exact hl
    · rename_i h0; rw [if_neg h0]; exact h.readAt hl
  · exact hl
  · cases hl
theorem appended_ok (h : St A S) {zs : Bool} {e : TypeInfo} {z : List Value} {x : Value} {r : Nat × List Value} (hl : appendedM S zs e.size e.bytes z x = some r) : appended A zs e z x = some r := by
  unfold appendedM at hl
  unfold appended
  cases zs with
  | true =>
    simp only [if_true] at hl ⊢
    split at hl
    · obtain ⟨hc, hl⟩ := goneIf hl
      dsimp only
      rw [if_pos hc]; exact hl
    · cases hl
  | false =>
    simp only [Bool.false_eq_true, if_false] at hl ⊢
    obtain ⟨n, h1, hl⟩ := Option.bind_eq_some_iff.1 hl
    obtain ⟨cs, h2, hl⟩ := Option.map_eq_some_iff.1 hl
    rw [h1]
    simp only [Option.bind_some]
    rw [firstCells_ok h h2]
    simp only [Option.map_some]
    rw [hl]
theorem mappend_ok (h : St A S) {ts : List TypeId} {args : List Value} {v : Value} (hl : mappend P S ts args = some (v, S')) : ∃ A', aappend P A ts args = some (v, A') ∧ St A' S' := by
  unfold mappend apT at hl
  split at hl
  case h_2 => cases hl
  rename_i zs sz bytes z hk
  split at hk
  case h_2 => cases hk
  rename_i st xt
  split at hk
  case h_2 => cases hk
  rename_i elem xd hu hux
  obtain ⟨e, he, hk⟩ := Option.bind_eq_some_iff.1 hk
  obtain ⟨z0, hz, hk⟩ := Option.bind_eq_some_iff.1 hk
  obtain ⟨zs', hzs, hk⟩ := Option.bind_eq_some_iff.1 hk
  obtain ⟨hc, hk⟩ := goneIf hk
  cases hk
  simp only [Bool.and_eq_true] at hc
  unfold apS at hl
  split at hl
  case h_2 => cases hl
  rename_i s x
  obtain ⟨⟨n, new⟩, h1, hl⟩ := Option.bind_eq_some_iff.1 hl
  obtain ⟨hc2, hl⟩ := goneIf hl
  simp only [Bool.and_eq_true] at hc2
  unfold aappend
  simp only [hu, hux, he, hz, hzs, Option.bind_some]
  rw [appended_ok h h1]
  simp only [Option.bind_some, hc.1, hc.2, hc2.1, hc2.2, Bool.and_self, if_true]
  split at hl
  · split at hl
    · rename_i h0
      rw [if_pos h0]
      cases hl
      exact ⟨_, rfl, h⟩
    · rename_i h0
      rw [if_neg h0]
      obtain ⟨hb, hl⟩ := goneIf hl
      cases hl
      rw [if_pos hb]
      refine ⟨_, by unfold AState.grown; simp only [Option.bind_some]; rw [h.size], h.pushList rfl⟩
  · rename_i b off len cap _ _
    split at hl
    case h_2 => cases hl
    rename_i l es hb
    obtain ⟨cs, d, root, top, g1, g2, g3, rcs, rd, rn, res, rown, rtop, g4⟩ := h.blk hb
    dsimp only
    rw [g1]
    simp only [Option.bind_some]
    have hown : A.ownOf root = some rown := by unfold AState.ownOf; rw [g4]
    split at hl
    · rename_i h0
      rw [if_pos h0]
      cases hl
      exact ⟨_, rfl, h⟩
    · rename_i h0
      rw [if_neg h0]
      split at hl
      · rename_i hcap
        rw [if_pos hcap]
        obtain ⟨hes, hl⟩ := goneIf hl
        rw [if_pos hes]
        split at hl
        · rename_i hfit
          rw [if_pos hfit]
          obtain ⟨S2, hw, hl⟩ := Option.bind_eq_some_iff.1 hl
          cases hl
          obtain ⟨A2, w1, w2⟩ := h.write hw
          rw [w1]
          exact ⟨_, rfl, w2⟩
        · rename_i hfit
          rw [if_neg hfit]
          obtain ⟨hb2, hl⟩ := goneIf hl
          cases hl
          rw [if_pos hb2, readN_list g2 _ _ hb2.2.2]
          simp only [Option.bind_some, hown, g4]
          obtain ⟨A2, w1, w2⟩ := h.grown (new := (l.drop off).take (len * e.size) ++ new) (es' := e.size) (keep := (Nat.beq rown 0 && Nat.beq (off + len * e.size) l.length && Nat.beq rtop b)) hb g3 (fun hk => by
            simp only [Bool.and_eq_true] at hk
            rw [hown, Nat.eq_of_beq_eq_true hk.1.1])
          rw [w1]
          exact ⟨_, by simp only [Option.bind_some]; rw [h.size], w2⟩
      · rename_i hcap
        rw [if_neg hcap]
        split at hl
        · rename_i hfit
          rw [if_pos hfit]
          obtain ⟨S2, hw, hl⟩ := Option.bind_eq_some_iff.1 hl
          cases hl
          obtain ⟨A2, w1, w2⟩ := h.write hw
          rw [w1]
          exact ⟨_, rfl, w2⟩
        · rename_i hfit
          rw [if_neg hfit]
          obtain ⟨hb2, hl⟩ := goneIf hl
          cases hl
          rw [if_pos hb2, readN_list g2 _ _ hb2.2.2]
          simp only [Option.bind_some]
          exact ⟨_, by unfold AState.grown; simp only [Option.bind_some]; rw [h.size], h.pushList rfl⟩
  · cases hl
theorem mcopy_ok (h : St A S) {ts : List TypeId} {args : List Value} {v : Value} (hl : mcopy P S ts args = some (v, S')) : ∃ A', acopy P A ts args = some (v, A') ∧ St A' S' := by
  unfold mcopy cpT at hl
  split at hl
  case h_2 => cases hl
  rename_i sz hk
  split at hk
  case h_2 => cases hk
  rename_i st ts'
  split at hk
  case h_2 => cases hk
  rename_i elem hu
  obtain ⟨e, he, hk⟩ := Option.bind_eq_some_iff.1 hk
  cases hk
  unfold cpS at hl
  split at hl
  case h_2 => cases hl
  rename_i base dlen cap x
  obtain ⟨xl, h1, hl⟩ := Option.bind_eq_some_iff.1 hl
  obtain ⟨cs, h2, hl⟩ := Option.bind_eq_some_iff.1 hl
  obtain ⟨h3, hl⟩ := goneIf hl
  unfold acopy
  simp only [hu, he, Option.bind_some, h1, firstCells_ok h h2, h3, if_true]
  split at hl
  · rename_i h0
    rw [if_pos h0]
    cases hl
    exact ⟨_, rfl, h⟩
  · rename_i h0
    rw [if_neg h0]
    split at hl
    · obtain ⟨S2, hw, hl⟩ := Option.bind_eq_some_iff.1 hl
      cases hl
      obtain ⟨A2, w1, w2⟩ := h.write hw
      dsimp only
      rw [w1]
      exact ⟨_, rfl, w2⟩
    · cases hl
theorem mclear_ok (h : St A S) {ts : List TypeId} {args : List Value} {v : Value} (hl : mclear P S ts args = some (v, S')) : ∃ A', aclear P A ts args = some (v, A') ∧ St A' S' := by
  unfold mclear clT at hl
  split at hl
  case h_2 => cases hl
  rename_i z hk
  split at hk
  case h_2 => cases hk
  rename_i st
  split at hk
  case h_2 => cases hk
  rename_i elem hu
  obtain ⟨e, he, hk⟩ := Option.bind_eq_some_iff.1 hk
  obtain ⟨z0, hz, hk⟩ := Option.bind_eq_some_iff.1 hk
  obtain ⟨hp, hk⟩ := goneIf hk
  cases hk
  unfold clS at hl
  split at hl
  case h_2 => cases hl
  rename_i base n cap
  unfold aclear
  simp only [hu, he, hz, Option.bind_some, hp, if_true]
  split at hl
  · rename_i h0
    rw [if_pos h0]
    cases hl
    exact ⟨_, rfl, h⟩
  · rename_i h0
    rw [if_neg h0]
    split at hl
    · obtain ⟨S2, hw, hl⟩ := Option.map_eq_some_iff.1 hl
      cases hl
      obtain ⟨A2, w1, w2⟩ := h.write hw
      unfold zeros at w1
      simp only [w1, Option.map_some]
      exact ⟨_, rfl, w2⟩
    · cases hl
theorem mnext_ok (h : St A S) {x v : Value} {b : Bool} (hl : mnext S x b = some (v, S')) : ∃ A', anext A x b = some (v, A') ∧ St A' S' := by
  unfold mnext at hl
  split at hl
  case h_2 => cases hl
  rename_i r
  split at hl
  case h_2 => cases hl
  rename_i s pos hr
  have hg : A.get r = some (.strIter s pos) := h.cur r _ hr
  unfold anext
  simp only [hg]
  split at hl
  · rename_i hlt
    cases hl
    rw [if_pos hlt]
    exact ⟨_, rfl, h.put hr hg (by intros; simp) (by show AState.get _ _ = _; rw [get_put, if_pos rfl]) (by intros; simp)⟩
  · rename_i hlt
    cases hl
    rw [if_neg hlt]
    exact ⟨_, rfl, h⟩
theorem mWrite_ok (h : St A S) {ρ : Operand → Value} {o : Oper} {v : Value} (hl : mWrite P ρ o S = some (v, S')) : ∃ A', aWrite P ρ o A = some (v, A') ∧ St A' S' := by
  unfold mWrite at hl
  unfold aWrite
  split at hl
  · rename_i ho
    obtain ⟨S2, h1, hl⟩ := Option.map_eq_some_iff.1 hl
    cases hl
    obtain ⟨A2, w1, w2⟩ := mstore_ok h h1
    rw [ho]; simp only [w1, Option.map_some]
    exact ⟨_, rfl, w2⟩
  · rename_i ho
    obtain ⟨S2, h1, hl⟩ := Option.map_eq_some_iff.1 hl
    cases hl
    obtain ⟨A2, w1, w2⟩ := mmapUpdate_ok h h1
    rw [ho]; simp only [w1, Option.map_some]
    exact ⟨_, rfl, w2⟩
  · rename_i ho
    obtain ⟨S2, h1, hl⟩ := Option.map_eq_some_iff.1 hl
    cases hl
    obtain ⟨A2, w1, w2⟩ := mmapUpdate_ok h h1
    rw [ho]; simp only [w1, Option.map_some]
    exact ⟨_, rfl, w2⟩
  · rename_i ho; rw [ho]; exact mappend_ok h hl
  · rename_i ho; rw [ho]; exact mcopy_ok h hl
  · rename_i ho; rw [ho]; exact mclear_ok h hl
  · rename_i ho; rw [ho]; exact mnext_ok h hl
  · cases hl
end Go.Ag
namespace Go.Ag
set_option linter.unusedVariables false
def CallM (P : Program) (O : Hook) (f : FuncId) (args : List Value) (S : MS) (Q : Value → MS → Prop) : Prop :=
  ∀ A, St A S → ∃ v A' S', (lim P O).call f args A = some (v, A') ∧ St A' S' ∧ Q v S'
def RoundM (P : Program) (O : Hook) (l : Nat) (args : List Value) (S : MS) (Q : Value → MS → Prop) : Prop :=
  ∀ A, St A S → ∃ v A' S', (lim P O).round l args A = some (v, A') ∧ St A' S' ∧ Q v S'
def CallV (P : Program) (O : Hook) (f : Value) (args : List Value) (S : MS) (Q : Value → MS → Prop) : Prop :=
  match f with
  | .func (.func g) first captured => CallM P O g (first.toList ++ args ++ captured.toList) S Q
  | .func (.yield l) first _ => RoundM P O l (first.toList ++ args) S Q
  | _ => False
theorem CallM.mono {P : Program} {O : Hook} {f : FuncId} {args : List Value} {S : MS} {Q Q' : Value → MS → Prop} (h : CallM P O f args S Q) (hq : ∀ v S', Q v S' → Q' v S') : CallM P O f args S Q' := fun A hA => by
  obtain ⟨v, A', S', h1, h2, h3⟩ := h A hA; exact ⟨v, A', S', h1, h2, hq _ _ h3⟩
theorem RoundM.mono {P : Program} {O : Hook} {l : Nat} {args : List Value} {S : MS} {Q Q' : Value → MS → Prop} (h : RoundM P O l args S Q) (hq : ∀ v S', Q v S' → Q' v S') : RoundM P O l args S Q' := fun A hA => by
  obtain ⟨v, A', S', h1, h2, h3⟩ := h A hA; exact ⟨v, A', S', h1, h2, hq _ _ h3⟩
theorem CallV.mono {P : Program} {O : Hook} {f : Value} {args : List Value} {S : MS} {Q Q' : Value → MS → Prop} (h : CallV P O f args S Q) (hq : ∀ v S', Q v S' → Q' v S') : CallV P O f args S Q' := by
  unfold CallV at h ⊢
  split at h
  · exact CallM.mono h hq
  · exact RoundM.mono h hq
  · exact h.elim
theorem callV_ok {P : Program} {O : Hook} {f : Value} {args : List Value} {S : MS} {Q : Value → MS → Prop} {A : AState} (h : CallV P O f args S Q) (hA : St A S) :
    ∃ v A' S', callV (lim P O) f args A = some (v, A') ∧ St A' S' ∧ Q v S' := by
  unfold CallV at h
  unfold callV
  split at h
  · exact h A hA
  · exact h A hA
  · exact h.elim
section
variable (P : Program) (O : Hook) (n : Nat)
noncomputable def evalT (T : FT) : Operand → Value
  | .tmp t => T.get t
  | .const v => v
  | .global g => .pointer (some ⟨g, 0, none⟩)
  | .func f => .func (.func f) #[] #[]
noncomputable def putT (d : Option Tmp) (v : Value) (T : FT) (Q : FT → Prop) : Prop :=
  match d with
  | none => Q T
  | some d => if Nat.blt d n then Q (T.set v d) else False
noncomputable def wpPure (T : FT) (o : Oper) (Q : Value → Prop) : Prop :=
  match o.op with
  | .move x => Q (evalT T x)
  | .assign x => Q (evalT T x)
  | .makeFunc fn first captured => match fn with | .func _ => Q (.func fn (first.toList.map (evalT T)).toArray (captured.toList.map (evalT T)).toArray) | _ => False
  | _ => ∃ v, mPure P (evalT T) o = some v ∧ Q v
noncomputable def wpMake (T : FT) (o : Oper) (S : MS) (Q : Value → MS → Prop) : Prop :=
  match o.op with
  | .alloc t => match allocT P t with | some l => Q (ptrTo S.n) (S.fresh l 0) | none => False
  | .box _ x => Q (ptrTo S.n) (S.fresh (evalT T x).cells.toList 0)
  | _ => ∃ v S', mMake P (evalT T) o S = some (v, S') ∧ Q v S'
noncomputable def wpWrite (T : FT) (o : Oper) (S : MS) (Q : Value → MS → Prop) : Prop :=
  match o.op with
  | .store t p x => ∃ S', mstore P S t (evalT T p) (evalT T x) = some S' ∧ Q undef S'
  | _ => ∃ v S', mWrite P (evalT T) o S = some (v, S') ∧ Q v S'
noncomputable def wpCall (T : FT) (o : Oper) (S : MS) (Q : Value → MS → Prop) : Prop :=
  match o.op with
  | .call { callee := .value f, args, .. } => CallV P O (evalT T f) (args.toList.map (evalT T)) S Q
  | _ => False
noncomputable def wpOp (T : FT) (o : Oper) (S : MS) (Q : Value → MS → Prop) : Prop :=
  match kindOf P o with
  | .pure => wpPure P T o fun v => Q v S
  | .read => ∃ v, mRead P (evalT T) o S = some v ∧ Q v S
  | .make => wpMake P T o S Q
  | .write => wpWrite P T o S Q
  | .call => wpCall P O T o S Q
  | .no => False
def lookK : List (Nat × Bool) → Nat → Option Bool
  | [], _ => none
  | (i, b) :: l, j => if Nat.beq i j then some b else lookK l j
def dstOf (ops : List Oper) (j : Nat) : Option Tmp := (ops[j]?).bind (·.dst)
def sameT : Option Tmp → Option Tmp → Bool
  | some a, some b => Nat.beq a b
  | _, _ => false
def keepK (ops : List Oper) (d : Option Tmp) : List (Nat × Bool) → List (Nat × Bool)
  | [] => []
  | (i, b) :: l => if sameT (dstOf ops i) d then keepK ops d l else (i, b) :: keepK ops d l
noncomputable def mOps (ops : List Oper) : List Oper → List (Nat × Bool) → FT → MS → (FT → MS → Prop) → Prop
  | [], _, T, S, Q => Q T S
  | o :: rest, kn, T, S, Q =>
    let go (kn : List (Nat × Bool)) (T : FT) : Prop := if operOk P o then wpOp P O T o S fun v S' => putT n o.dst v T fun T' => mOps ops rest (keepK ops o.dst kn) T' S' Q else False
    let no (kn : List (Nat × Bool)) (T : FT) : Prop := putT n o.dst undef T fun T' => mOps ops rest (keepK ops o.dst kn) T' S Q
    match o.guard with
    | none => go kn T
    | some (j, want) =>
      match lookK kn j with
      | some b => if (b == want) then go kn T else no kn T
      | none => match dstOf ops j with
        | some t => ∃ b, T.get t = .bool b ∧ (b = true → if want then go ((j, true) :: kn) T else no ((j, true) :: kn) T) ∧ (b = false → if want then no ((j, false) :: kn) T else go ((j, false) :: kn) T)
        | none => False
end
section
variable {P : Program} {O : Hook} {n : Nat}
theorem evalT_eq (T : FT) (n : Nat) : (⟨T, n⟩ : Env).eval = evalT T := by
  funext o; cases o <;> rfl
theorem putT_ok {d : Option Tmp} {v : Value} {T : FT} {Q : FT → Prop} (h : putT n d v T Q) : ∃ T', (⟨T, n⟩ : Env).put d v = some ⟨T', n⟩ ∧ Q T' ∧ (∀ t, d ≠ some t → T'.get t = T.get t) := by
  unfold putT at h
  unfold Env.put
  cases d with
  | none => exact ⟨T, rfl, h, fun _ _ => rfl⟩
  | some d =>
    simp only at h ⊢
    split at h
    · rename_i hlt
      rw [if_pos hlt]
      exact ⟨_, rfl, h, fun t ht => by rw [FT.get_set, if_neg (fun e => ht (by rw [e]))]⟩
    · exact h.elim
theorem wpPure_ok {T : FT} {o : Oper} {Q : Value → Prop} (h : wpPure P T o Q) : ∃ v, aPure P (evalT T) o = some v ∧ Q v := by
  unfold wpPure at h
  split at h
  · rename_i x ho; exact ⟨_, by unfold aPure; rw [ho], h⟩
  · rename_i x ho; exact ⟨_, by unfold aPure; rw [ho], h⟩
  · rename_i fn first cap ho
    split at h
    · exact ⟨_, by unfold aPure; rw [ho], h⟩
    · exact h.elim
  · obtain ⟨v, h1, h2⟩ := h; exact ⟨v, mPure_eq h1, h2⟩
theorem wpOp_ok {T : FT} {o : Oper} {S : MS} {Q : Value → MS → Prop} {A : AState} (h : wpOp P O T o S Q) (hA : St A S) :
    ∃ v A' S', runOp P (lim P O) ⟨T, n⟩ o A = some (v, A') ∧ St A' S' ∧ Q v S' := by
  revert h
  unfold wpOp runOp
  rw [evalT_eq]
  cases kindOf P o <;> intro h <;> dsimp only at h ⊢
  · obtain ⟨v, h1, h2⟩ := wpPure_ok h
    exact ⟨v, A, S, by rw [h1]; rfl, hA, h2⟩
  · obtain ⟨v, h1, h2⟩ := h
    exact ⟨v, A, S, by rw [mRead_ok hA h1]; rfl, hA, h2⟩
  · unfold wpMake at h
    split at h
    · rename_i t ho
      split at h
      · rename_i l hl
        obtain ⟨A', h1, h2⟩ := malloc_ok (P := P) (S' := S.fresh l 0) (v := ptrTo S.n) hA (t := t) (by unfold malloc; rw [hl])
        exact ⟨_, A', _, by unfold aMake; rw [ho]; exact h1, h2, h⟩
      · exact h.elim
    · rename_i t x ho
      obtain ⟨A', h1, h2⟩ := mbox_ok (x := evalT T x) hA rfl
      exact ⟨_, A', _, by unfold aMake; rw [ho]; exact congrArg some h1, h2, h⟩
    · obtain ⟨v, S', h1, h2⟩ := h
      obtain ⟨A', h3, h4⟩ := mMake_ok hA h1
      exact ⟨v, A', S', h3, h4, h2⟩
  · unfold wpWrite at h
    split at h
    · rename_i t p x ho
      obtain ⟨S', h1, h2⟩ := h
      obtain ⟨A', h3, h4⟩ := mstore_ok hA h1
      exact ⟨_, A', S', by unfold aWrite; rw [ho]; simp only [h3, Option.map_some], h4, h2⟩
    · obtain ⟨v, S', h1, h2⟩ := h
      obtain ⟨A', h3, h4⟩ := mWrite_ok hA h1
      exact ⟨v, A', S', h3, h4, h2⟩
  · unfold wpCall at h
    split at h
    · rename_i ho
      obtain ⟨v, A', S', h1, h2, h3⟩ := callV_ok h hA
      exact ⟨v, A', S', by unfold aCall; rw [ho]; exact h1, h2, h3⟩
    · exact h.elim
def KnOk (ops : List Oper) (T : FT) (kn : List (Nat × Bool)) : Prop := ∀ p ∈ kn, ∃ t, dstOf ops p.1 = some t ∧ T.get t = .bool p.2
theorem KnOk.put {ops : List Oper} {T T' : FT} {d : Option Tmp} (hT : ∀ t, d ≠ some t → T'.get t = T.get t) : ∀ {kn : List (Nat × Bool)}, KnOk ops T kn → KnOk ops T' (keepK ops d kn) := by
  intro kn
  induction kn with
  | nil => intro _ p hp; cases hp
  | cons x kn ih =>
    intro h
    obtain ⟨i, b⟩ := x
    have ht := ih (fun p hp => h p (by simp [hp]))
    unfold keepK
    split
    · exact ht
    · rename_i hs
      intro p hp
      rcases List.mem_cons.1 hp with rfl | hp
      · obtain ⟨t, h1, h2⟩ := h (i, b) (by simp)
        refine ⟨t, h1, ?_⟩
        rw [hT t (fun e => hs (by simp only at h1; rw [h1, e]; simp [sameT]))]
        exact h2
      · exact ht p hp
theorem lookK_mem : ∀ {kn : List (Nat × Bool)} {j : Nat} {b : Bool}, lookK kn j = some b → (j, b) ∈ kn := by
  intro kn
  induction kn with
  | nil => intro j b h; cases h
  | cons x kn ih =>
    intro j b h
    obtain ⟨i, c⟩ := x
    unfold lookK at h
    split at h
    · rename_i e
      cases h
      rw [Nat.eq_of_beq_eq_true e]; simp
    · exact List.mem_cons_of_mem _ (ih h)
theorem yielded_of {ops : List Oper} {T : FT} {j : Nat} {t : Tmp} {b : Bool} (h : dstOf ops j = some t) (hb : T.get t = .bool b) : yieldedA ops ⟨T, n⟩ j = some b := by
  unfold yieldedA
  unfold dstOf at h
  rw [h]
  show (match T.get t with | .bool b => some b | _ => none) = some b
  rw [hb]
theorem wanted_none {ops : List Oper} {E : Env} {o : Oper} (h : o.guard = none) : wantedA ops E o = true := by
  unfold wantedA Region.wanted; rw [h]
theorem wanted_some {ops : List Oper} {E : Env} {o : Oper} {j : Nat} {want b : Bool} (h : o.guard = some (j, want)) (hy : yieldedA ops E j = some b) : wantedA ops E o = (b == want) := by
  unfold wantedA Region.wanted; rw [h]; simp only [hy]; cases b <;> cases want <;> rfl
theorem mOps_ok {ops : List Oper} : ∀ {l : List Oper} {kn : List (Nat × Bool)} {T : FT} {S : MS} {Q : FT → MS → Prop} {A : AState}, mOps P O n ops l kn T S Q → KnOk ops T kn → St A S →
    ∃ T' A' S', runOps P (lim P O) ops l ⟨T, n⟩ A = some (⟨T', n⟩, A') ∧ St A' S' ∧ Q T' S' := by
  intro l
  induction l with
  | nil => intro kn T S Q A h _ hA; exact ⟨T, A, S, rfl, hA, h⟩
  | cons o rest ih =>
    intro kn T S Q A h hkn hA
    have go : ∀ kn, KnOk ops T kn → wantedA ops ⟨T, n⟩ o = true → (if operOk P o then wpOp P O T o S fun v S' => putT n o.dst v T fun T' => mOps P O n ops rest (keepK ops o.dst kn) T' S' Q else False) →
        ∃ T' A' S', runOps P (lim P O) ops (o :: rest) ⟨T, n⟩ A = some (⟨T', n⟩, A') ∧ St A' S' ∧ Q T' S' := by
      intro kn hkn hw h
      split at h
      case isFalse => exact h.elim
      rename_i hok
      obtain ⟨v, A1, S1, h1, h2, h3⟩ := wpOp_ok (n := n) h hA
      obtain ⟨T1, h4, h5, h6⟩ := putT_ok h3
      obtain ⟨T2, A2, S2, h7, h8, h9⟩ := ih h5 (hkn.put h6) h2
      refine ⟨T2, A2, S2, ?_, h8, h9⟩
      unfold runOps
      rw [if_pos hw, if_pos hok, h1]
      simp only [Option.bind_some]
      rw [h4]
      exact h7
    have no : ∀ kn, KnOk ops T kn → wantedA ops ⟨T, n⟩ o = false → (putT n o.dst undef T fun T' => mOps P O n ops rest (keepK ops o.dst kn) T' S Q) →
        ∃ T' A' S', runOps P (lim P O) ops (o :: rest) ⟨T, n⟩ A = some (⟨T', n⟩, A') ∧ St A' S' ∧ Q T' S' := by
      intro kn hkn hw h
      obtain ⟨T1, h4, h5, h6⟩ := putT_ok h
      obtain ⟨T2, A2, S2, h7, h8, h9⟩ := ih h5 (hkn.put h6) hA
      refine ⟨T2, A2, S2, ?_, h8, h9⟩
      unfold runOps
      rw [if_neg (by rw [hw]; decide), h4]
      exact h7
    unfold mOps at h
    simp only at h
    split at h
    · rename_i hg
      exact go kn hkn (wanted_none hg) h
    · rename_i j want hg
      split at h
      · rename_i b hb
        obtain ⟨t, h1, h2⟩ := hkn (j, b) (lookK_mem hb)
        have hy := yielded_of (n := n) h1 h2
        have hw := wanted_some hg hy
        split at h
        · rename_i e; exact go kn hkn (by rw [hw]; exact e) h
        · rename_i e; exact no kn hkn (by rw [hw]; simpa using e) h
      · split at h
        · rename_i t ht
          obtain ⟨b, hb, h1, h2⟩ := h
          have hw := wanted_some hg (yielded_of (n := n) ht hb)
          have hkn' : KnOk ops T ((j, b) :: kn) := fun p hp => by
            rcases List.mem_cons.1 hp with rfl | hp
            · exact ⟨t, ht, hb⟩
            · exact hkn p hp
          cases b with
          | true =>
            have h1 := h1 rfl
            cases want with
            | true => exact go _ hkn' hw h1
            | false => exact no _ hkn' hw h1
          | false =>
            have h2 := h2 rfl
            cases want with
            | true => exact no _ hkn' hw h2
            | false => exact go _ hkn' hw h2
        · exact h.elim
end
section
variable (P : Program) (O : Hook) (n : Nat)
def readVersM (ρ : Operand → Value) (o : Oper) : List MS → Option Value
  | [] => none
  | [S] => mRead P ρ o S
  | S :: Ss => (mRead P ρ o S).bind fun v => (readVersM ρ o Ss).bind fun w => if veq v w then some v else none
noncomputable def wpChain (ops : List Oper) : List (Nat × Nat) → List (Nat × Bool) → FT → MS → List MS → (FT → MS → Prop) → Prop
  | [], _, T, S, _, Q => Q T S
  | (i, a) :: rest, kn, T, S, vers, Q =>
    match ops[i]? with
    | none => False
    | some o =>
      let go (kn : List (Nat × Bool)) : Prop :=
        match kindOf P o with
        | .pure => wpPure P T o fun v => putT n o.dst v T fun T' => wpChain ops rest (keepK ops o.dst kn) T' S vers Q
        | .read => ∃ v, readVersM P (evalT T) o (vers.take (vers.length - a)) = some v ∧ putT n o.dst v T fun T' => wpChain ops rest (keepK ops o.dst kn) T' S vers Q
        | .make => wpMake P T o S fun v S' => putT n o.dst v T fun T' => wpChain ops rest (keepK ops o.dst kn) T' S' vers Q
        | .write => wpWrite P T o S fun v S' => putT n o.dst v T fun T' => wpChain ops rest (keepK ops o.dst kn) T' S' (S' :: vers) Q
        | .call => wpCall P O T o S fun v S' => putT n o.dst v T fun T' => wpChain ops rest (keepK ops o.dst kn) T' S' (S' :: vers) Q
        | .no => False
      let no (kn : List (Nat × Bool)) : Prop := putT n o.dst undef T fun T' => wpChain ops rest (keepK ops o.dst kn) T' S (if isEff P o then S :: vers else vers) Q
      match o.guard with
      | none => go kn
      | some (j, want) =>
        match lookK kn j with
        | some b => if (b == want) then go kn else no kn
        | none => match dstOf ops j with
          | some t => ∃ b, T.get t = .bool b ∧ (b = true → if want then go ((j, true) :: kn) else no ((j, true) :: kn)) ∧ (b = false → if want then no ((j, false) :: kn) else go ((j, false) :: kn))
          | none => False
def spotM (ty : TypeId) (p : Value) : Option SpotM := match sizeT P ty with | some n => spotS n p | none => none
def isCells : Option K → Bool
  | some (.cells _ _) => true
  | _ => false
theorem isCells_of {k : Option K} (h : isCells k = true) : ∃ l es, k = some (.cells l es) := by
  unfold isCells at h
  split at h
  · exact ⟨_, _, rfl⟩
  · cases h
def apartM (x y : SpotM) : Bool := if Nat.beq x.b y.b then Nat.ble (x.off + x.n) y.off || Nat.ble (y.off + y.n) x.off else true
noncomputable def wpLast (ops : List Oper) (T : FT) (S0 : MS) : List Nat → List SpotM → MS → (MS → Prop) → Prop
  | [], _, S, Q => Q S
  | i :: rest, spots, S, Q =>
    match ops[i]? with
    | none => False
    | some o =>
      match o.guard with
      | some _ => False
      | none =>
        match o.op with
        | .store ty p x => ∃ s, spotM P ty (evalT T p) = some s ∧ isCells (S0.m s.b) = true ∧ spots.all (apartM s) = true ∧ ∃ S', mstore P S ty (evalT T p) (evalT T x) = some S' ∧ wpLast ops T S0 rest (s :: spots) S' Q
        | _ => False
noncomputable def mDraw (ops : List Oper) (T : FT) (S : MS) (Q : FT → MS → Prop) : Prop :=
  if planB P ops (planOf P ops) then wpChain P O n ops (planOf P ops).chain [] T S [S] fun T' S' => wpLast P ops T' S' (planOf P ops).last [] S' fun S2 => Q T' S2 else False
end
section
variable {P : Program} {O : Hook} {n : Nat}
inductive Sts : List AState → List MS → Prop
  | nil : Sts [] []
  | cons {A : AState} {S : MS} {As : List AState} {Ss : List MS} (h : St A S) (hs : Sts As Ss) : Sts (A :: As) (S :: Ss)
theorem Sts.take : ∀ {As : List AState} {Ss : List MS} (k : Nat), Sts As Ss → Sts (As.take k) (Ss.take k)
  | _, _, k, .nil => by simp; exact .nil
  | _, _, 0, .cons h hs => by simp; exact .nil
  | _, _, k + 1, .cons h hs => by simp only [List.take_succ_cons]; exact .cons h (hs.take k)
theorem Sts.length : ∀ {As : List AState} {Ss : List MS}, Sts As Ss → As.length = Ss.length
  | _, _, .nil => rfl
  | _, _, .cons h hs => by simp [hs.length]
theorem readVers_ok {ρ : Operand → Value} {o : Oper} : ∀ {Ss : List MS} {As : List AState} {v : Value}, Sts As Ss → readVersM P ρ o Ss = some v → readVers P ρ o As = some v
  | [], _, v, _, h => by cases h
  | [S], _, v, .cons hs .nil, h => mRead_ok hs h
  | S :: S2 :: Ss, _, v, .cons (As := A2 :: As) hs hss, h => by
    unfold readVersM at h
    obtain ⟨x, h1, h⟩ := Option.bind_eq_some_iff.1 h
    obtain ⟨y, h2, h⟩ := Option.bind_eq_some_iff.1 h
    unfold readVers
    rw [mRead_ok hs h1]
    simp only [Option.bind_some]
    rw [readVers_ok hss h2]
    exact h
theorem wpChain_ok {ops : List Oper} : ∀ {ch : List (Nat × Nat)} {kn : List (Nat × Bool)} {T : FT} {S : MS} {vers : List MS} {Q : FT → MS → Prop} {A : AState} {versA : List AState}, wpChain P O n ops ch kn T S vers Q → KnOk ops T kn → St A S → Sts versA vers →
    ∃ T' A' S', runChain P (lim P O) ops ch ⟨T, n⟩ A versA = some (⟨T', n⟩, A') ∧ St A' S' ∧ Q T' S' := by
  intro ch
  induction ch with
  | nil => intro kn T S vers Q A versA h _ hA _; exact ⟨T, A, S, rfl, hA, h⟩
  | cons x rest ih =>
    intro kn T S vers Q A versA h hkn hA hvs
    obtain ⟨i, a⟩ := x
    unfold wpChain at h
    cases hoi : ops[i]? with
    | none => rw [hoi] at h; exact h.elim
    | some o =>
    rw [hoi] at h
    simp only at h
    have go : ∀ kn, KnOk ops T kn → wantedA ops ⟨T, n⟩ o = true → (match kindOf P o with
        | .pure => wpPure P T o fun v => putT n o.dst v T fun T' => wpChain P O n ops rest (keepK ops o.dst kn) T' S vers Q
        | .read => ∃ v, readVersM P (evalT T) o (vers.take (vers.length - a)) = some v ∧ putT n o.dst v T fun T' => wpChain P O n ops rest (keepK ops o.dst kn) T' S vers Q
        | .make => wpMake P T o S fun v S' => putT n o.dst v T fun T' => wpChain P O n ops rest (keepK ops o.dst kn) T' S' vers Q
        | .write => wpWrite P T o S fun v S' => putT n o.dst v T fun T' => wpChain P O n ops rest (keepK ops o.dst kn) T' S' (S' :: vers) Q
        | .call => wpCall P O T o S fun v S' => putT n o.dst v T fun T' => wpChain P O n ops rest (keepK ops o.dst kn) T' S' (S' :: vers) Q
        | .no => False) → ∃ T' A' S', runChain P (lim P O) ops ((i, a) :: rest) ⟨T, n⟩ A versA = some (⟨T', n⟩, A') ∧ St A' S' ∧ Q T' S' := by
      intro kn hkn hw h
      unfold runChain
      rw [hoi]
      simp only [Option.bind_some]
      rw [if_pos hw, evalT_eq]
      cases hkd : kindOf P o with
      | pure =>
        rw [hkd] at h
        obtain ⟨v, h1, h2⟩ := wpPure_ok h
        obtain ⟨T1, h4, h5, h6⟩ := putT_ok h2
        obtain ⟨T2, A2, S2, h7, h8, h9⟩ := ih h5 (hkn.put h6) hA hvs
        exact ⟨T2, A2, S2, by simp only [h1, Option.bind_some, h4]; exact h7, h8, h9⟩
      | read =>
        rw [hkd] at h
        obtain ⟨v, h1, h2⟩ := h
        obtain ⟨T1, h4, h5, h6⟩ := putT_ok h2
        obtain ⟨T2, A2, S2, h7, h8, h9⟩ := ih h5 (hkn.put h6) hA hvs
        have h1' := readVers_ok (hvs.take (vers.length - a)) h1
        rw [← hvs.length] at h1'
        exact ⟨T2, A2, S2, by simp only [h1', Option.bind_some, h4]; exact h7, h8, h9⟩
      | make =>
        rw [hkd] at h
        have h' : wpOp P O T o S fun v S' => putT n o.dst v T fun T' => wpChain P O n ops rest (keepK ops o.dst kn) T' S' vers Q := by unfold wpOp; rw [hkd]; exact h
        obtain ⟨v, A1, S1, h1, h2, h3⟩ := wpOp_ok (n := n) h' hA
        unfold runOp at h1
        rw [hkd, evalT_eq] at h1
        obtain ⟨T1, h4, h5, h6⟩ := putT_ok h3
        obtain ⟨T2, A2, S2, h7, h8, h9⟩ := ih h5 (hkn.put h6) h2 hvs
        exact ⟨T2, A2, S2, by simp only at h1 ⊢; rw [h1]; simp only [Option.bind_some, h4]; exact h7, h8, h9⟩
      | write =>
        rw [hkd] at h
        have h' : wpOp P O T o S fun v S' => putT n o.dst v T fun T' => wpChain P O n ops rest (keepK ops o.dst kn) T' S' (S' :: vers) Q := by unfold wpOp; rw [hkd]; exact h
        obtain ⟨v, A1, S1, h1, h2, h3⟩ := wpOp_ok (n := n) h' hA
        unfold runOp at h1
        rw [hkd, evalT_eq] at h1
        obtain ⟨T1, h4, h5, h6⟩ := putT_ok h3
        obtain ⟨T2, A2, S2, h7, h8, h9⟩ := ih h5 (hkn.put h6) h2 (.cons h2 hvs)
        exact ⟨T2, A2, S2, by simp only at h1 ⊢; rw [h1]; simp only [Option.bind_some, h4]; exact h7, h8, h9⟩
      | call =>
        rw [hkd] at h
        have h' : wpOp P O T o S fun v S' => putT n o.dst v T fun T' => wpChain P O n ops rest (keepK ops o.dst kn) T' S' (S' :: vers) Q := by unfold wpOp; rw [hkd]; exact h
        obtain ⟨v, A1, S1, h1, h2, h3⟩ := wpOp_ok (n := n) h' hA
        unfold runOp at h1
        rw [hkd, evalT_eq] at h1
        obtain ⟨T1, h4, h5, h6⟩ := putT_ok h3
        obtain ⟨T2, A2, S2, h7, h8, h9⟩ := ih h5 (hkn.put h6) h2 (.cons h2 hvs)
        exact ⟨T2, A2, S2, by simp only at h1 ⊢; rw [h1]; simp only [Option.bind_some, h4]; exact h7, h8, h9⟩
      | no => rw [hkd] at h; exact h.elim
    have no : ∀ kn, KnOk ops T kn → wantedA ops ⟨T, n⟩ o = false → (putT n o.dst undef T fun T' => wpChain P O n ops rest (keepK ops o.dst kn) T' S (if isEff P o then S :: vers else vers) Q) →
        ∃ T' A' S', runChain P (lim P O) ops ((i, a) :: rest) ⟨T, n⟩ A versA = some (⟨T', n⟩, A') ∧ St A' S' ∧ Q T' S' := by
      intro kn hkn hw h
      obtain ⟨T1, h4, h5, h6⟩ := putT_ok h
      obtain ⟨T2, A2, S2, h7, h8, h9⟩ := ih (versA := if isEff P o then A :: versA else versA) h5 (hkn.put h6) hA (by split; exact .cons hA hvs; exact hvs)
      refine ⟨T2, A2, S2, ?_, h8, h9⟩
      unfold runChain
      rw [hoi]
      simp only [Option.bind_some]
      rw [if_neg (by rw [hw]; decide), h4]
      exact h7
    split at h
    · rename_i hg
      exact go kn hkn (wanted_none hg) h
    · rename_i j want hg
      split at h
      · rename_i b hb
        obtain ⟨t, h1, h2⟩ := hkn (j, b) (lookK_mem hb)
        have hw := wanted_some hg (yielded_of (n := n) h1 h2)
        split at h
        · rename_i e; exact go kn hkn (by rw [hw]; exact e) h
        · rename_i e; exact no kn hkn (by rw [hw]; simpa using e) h
      · split at h
        · rename_i t ht
          obtain ⟨b, hb, h1, h2⟩ := h
          have hw := wanted_some hg (yielded_of (n := n) ht hb)
          have hkn' : KnOk ops T ((j, b) :: kn) := fun p hp => by
            rcases List.mem_cons.1 hp with rfl | hp
            · exact ⟨t, ht, hb⟩
            · exact hkn p hp
          cases b with
          | true =>
            have h1 := h1 rfl
            cases want with
            | true => exact go _ hkn' hw h1
            | false => exact no _ hkn' hw h1
          | false =>
            have h2 := h2 rfl
            cases want with
            | true => exact no _ hkn' hw h2
            | false => exact go _ hkn' hw h2
        · exact h.elim
def SpotRel (A0 : AState) (S0 : MS) (x : Spot) (y : SpotM) : Prop := x.b = y.b ∧ x.off = y.off ∧ x.n = y.n ∧ rootA A0 x.b = some x.root ∧ ∃ l es, S0.m y.b = some (.cells l es)
theorem apart_ok {A0 : AState} {S0 : MS} (h0 : St A0 S0) {x x' : Spot} {y y' : SpotM} (h : SpotRel A0 S0 x y) (h' : SpotRel A0 S0 x' y') (ha : apartM y y' = true) : apart x x' = true := by
  obtain ⟨b1, o1, n1, r1, l1, e1, m1⟩ := h
  obtain ⟨b2, o2, n2, r2, l2, e2, m2⟩ := h'
  unfold apartM at ha
  unfold apart
  rw [b1, b2, o1, o2, n1, n2]
  split
  · rename_i e; rw [if_pos e] at ha; exact ha
  · rename_i e
    cases hr : Nat.beq x.root x'.root with
    | false => rfl
    | true =>
      exfalso
      have := Nat.eq_of_beq_eq_true hr
      have hb := h0.dist y.b y'.b _ _ _ _ m1 m2 (by rw [← b1, ← b2, r1, r2, this])
      exact e (by rw [hb]; exact Nat.beq_refl _)
theorem wpLast_ok {ops : List Oper} {T : FT} {A0 : AState} {S0 : MS} (h0 : St A0 S0) : ∀ {l : List Nat} {spots : List SpotM} {spotsA : List Spot} {S : MS} {A : AState} {Q : MS → Prop}, wpLast P ops T S0 l spots S Q → St A S →
    (spotsA.length = spots.length ∧ ∀ (i : Nat) x y, spotsA[i]? = some x → spots[i]? = some y → SpotRel A0 S0 x y) →
    ∃ A' S', runLast P ops ⟨T, n⟩ A0 l spotsA A = some A' ∧ St A' S' ∧ Q S' := by
  intro l
  induction l with
  | nil => intro spots spotsA S A Q h hA _; exact ⟨A, S, rfl, hA, h⟩
  | cons i rest ih =>
    intro spots spotsA S A Q h hA hs
    unfold wpLast at h
    cases hoi : ops[i]? with
    | none => rw [hoi] at h; exact h.elim
    | some o =>
    rw [hoi] at h
    simp only at h
    split at h
    · exact h.elim
    rename_i hg
    split at h
    · rename_i ty p x ho
      obtain ⟨s, h1, h2, h3, S', h4, h5⟩ := h
      obtain ⟨A', w1, w2⟩ := mstore_ok hA h4
      have h1' := h1
      unfold spotM sizeT at h1
      split at h1
      case h_2 => cases h1
      rename_i nn hsz
      obtain ⟨inf, hi, hsz⟩ := Option.bind_eq_some_iff.1 hsz
      cases hsz
      unfold spotS at h1
      split at h1
      case h_2 => cases h1
      rename_i b off hp
      cases h1
      obtain ⟨l, es, hS0⟩ := isCells_of h2
      obtain ⟨_, _, root, _, _, _, hroot, _⟩ := h0.blk hS0
      have hspot : spotOf P A0 (⟨T, n⟩ : Env).eval o = some ⟨b, off, inf.size, root⟩ := by
        unfold spotOf
        rw [ho, evalT_eq]
        simp only [hp, hi, Option.bind_some, hroot, Option.map_some]
      have hrel : SpotRel A0 S0 ⟨b, off, inf.size, root⟩ ⟨b, off, inf.size⟩ := ⟨rfl, rfl, rfl, hroot, l, es, hS0⟩
      have hall : spotsA.all (apart ⟨b, off, inf.size, root⟩) = true := by
        rw [List.all_eq_true] at h3 ⊢
        intro z hz
        obtain ⟨q, hq⟩ := List.getElem?_of_mem hz
        have hlt : q < spots.length := by rw [← hs.1]; exact (List.getElem?_eq_some_iff.1 hq).1
        obtain ⟨y, hy⟩ : ∃ y, spots[q]? = some y := ⟨_, List.getElem?_eq_getElem hlt⟩
        exact apart_ok h0 hrel (hs.2 q z y hq hy) (h3 y (List.mem_of_getElem? hy))
      obtain ⟨A2, S2, g1, g2, g3⟩ := ih (spotsA := ⟨b, off, inf.size, root⟩ :: spotsA) h5 w2 ⟨by simp [hs.1], fun q x y hx hy => by
        cases q with
        | zero => simp at hx hy; subst hx; subst hy; exact hrel
        | succ q => exact hs.2 q x y (by simpa using hx) (by simpa using hy)⟩
      refine ⟨A2, S2, ?_, g2, g3⟩
      unfold runLast
      rw [hoi]
      simp only [Option.bind_some]
      rw [if_pos (wanted_none hg), hspot]
      simp only [Option.bind_some]
      rw [if_pos hall]
      unfold stW
      rw [hoi]
      simp only [Option.bind_some, ho, evalT_eq, w1]
      exact g1
    · exact h.elim
theorem mDraw_ok {ops : List Oper} {T : FT} {S : MS} {Q : FT → MS → Prop} {A : AState} (h : mDraw P O n ops T S Q) (hA : St A S) :
    ∃ T' A' S', runDraw P (lim P O) ops ⟨T, n⟩ A = some (⟨T', n⟩, A') ∧ St A' S' ∧ Q T' S' := by
  unfold mDraw at h
  split at h
  case isFalse => exact h.elim
  rename_i hp
  obtain ⟨T1, A1, S1, h1, h2, h3⟩ := wpChain_ok h (fun p hp => by cases hp) hA (.cons hA .nil)
  obtain ⟨A2, S2, h4, h5, h6⟩ := wpLast_ok (n := n) h2 h3 h2 ⟨rfl, fun i x y hx => by simp at hx⟩ (spotsA := [])
  refine ⟨T1, A2, S2, ?_, h5, h6⟩
  unfold runDraw
  rw [if_pos hp, h1]
  simp only [Option.bind_some, h4, Option.map_some]
end
end Go.Ag
namespace Go.Ag
set_option linter.unusedVariables false
def MWp (P : Program) (O : Hook) (n : Nat) (c : Code) (T : FT) (S : MS) (Q : AExit → FT → MS → Prop) : Prop :=
  ∀ A, St A S → ∃ x T' A' S', stepC P (lim P O) c ⟨T, n⟩ A = some (x, ⟨T', n⟩, A') ∧ St A' S' ∧ Q x T' S'
section
variable {P : Program} {O : Hook} {n : Nat} {T : FT} {S : MS} {Q : AExit → FT → MS → Prop}
theorem MWp.mono {c : Code} {Q' : AExit → FT → MS → Prop} (h : MWp P O n c T S Q) (hq : ∀ x T' S', Q x T' S' → Q' x T' S') : MWp P O n c T S Q' := fun A hA => by
  obtain ⟨x, T', A', S', h1, h2, h3⟩ := h A hA
  exact ⟨x, T', A', S', h1, h2, hq _ _ _ h3⟩
theorem m_skip (h : Q .normal T S) : MWp P O n .skip T S Q := fun A hA => ⟨_, T, A, S, rfl, hA, h⟩
theorem m_ret (h : Q .ret T S) : MWp P O n .ret T S Q := fun A hA => ⟨_, T, A, S, rfl, hA, h⟩
theorem m_exit {id : Nat} (h : Q (.exit id) T S) : MWp P O n (.exit id) T S Q := fun A hA => ⟨_, T, A, S, rfl, hA, h⟩
theorem m_reg {id : Nat} {ops : Array Oper} (h : mOps P O n ops.toList ops.toList [] T S fun T' S' => Q .normal T' S') : MWp P O n (.region id ops false) T S Q := fun A hA => by
  obtain ⟨T', A', S', h1, h2, h3⟩ := mOps_ok h (fun p hp => by cases hp) hA
  refine ⟨_, T', A', S', ?_, h2, h3⟩
  unfold stepC; simp only [Bool.false_eq_true, if_false]; rw [h1]; rfl
theorem m_draw {id : Nat} {ops : Array Oper} (h : mDraw P O n ops.toList T S fun T' S' => Q .normal T' S') : MWp P O n (.region id ops true) T S Q := fun A hA => by
  obtain ⟨T', A', S', h1, h2, h3⟩ := mDraw_ok h hA
  refine ⟨_, T', A', S', ?_, h2, h3⟩
  unfold stepC; simp only [if_true]; rw [h1]; rfl
theorem m_seq {a b : Code} (h : MWp P O n a T S fun x T1 S1 => match x with | .normal => MWp P O n b T1 S1 Q | x => Q x T1 S1) : MWp P O n (.seq a b) T S Q := fun A hA => by
  obtain ⟨x, T1, A1, S1, h1, h2, h3⟩ := h A hA
  cases x with
  | normal =>
    obtain ⟨y, T2, A2, S2, g1, g2, g3⟩ := h3 A1 h2
    refine ⟨y, T2, A2, S2, ?_, g2, g3⟩
    unfold stepC; rw [h1]; exact g1
  | exit id => refine ⟨_, T1, A1, S1, ?_, h2, h3⟩; unfold stepC; rw [h1]; rfl
  | ret => refine ⟨_, T1, A1, S1, ?_, h2, h3⟩; unfold stepC; rw [h1]; rfl
theorem m_cond {c : Operand} {a b : Code} {t : Bool} (he : evalT T c = .bool t) (ha : t = true → MWp P O n a T S Q) (hb : t = false → MWp P O n b T S Q) : MWp P O n (.cond c a b) T S Q := fun A hA => by
  have e : stepC P (lim P O) (.cond c a b) ⟨T, n⟩ A = if t then stepC P (lim P O) a ⟨T, n⟩ A else stepC P (lim P O) b ⟨T, n⟩ A := by
    rw [show stepC P (lim P O) (.cond c a b) ⟨T, n⟩ A = (match (⟨T, n⟩ : Env).eval c with | .bool t => if t then stepC P (lim P O) a ⟨T, n⟩ A else stepC P (lim P O) b ⟨T, n⟩ A | _ => none) from rfl, evalT_eq, he]
  rw [e]
  cases t with
  | true => exact ha rfl A hA
  | false => exact hb rfl A hA
theorem m_block {id : Nat} {b : Code} (h : MWp P O n b T S fun x T1 S1 => match x with | .exit id' => if id' = id then Q .normal T1 S1 else Q (.exit id') T1 S1 | x => Q x T1 S1) : MWp P O n (.block id b) T S Q := fun A hA => by
  obtain ⟨x, T1, A1, S1, h1, h2, h3⟩ := h A hA
  cases x with
  | normal => refine ⟨_, T1, A1, S1, ?_, h2, h3⟩; unfold stepC; rw [h1]; rfl
  | ret => refine ⟨_, T1, A1, S1, ?_, h2, h3⟩; unfold stepC; rw [h1]; rfl
  | exit id' =>
    simp only at h3
    by_cases e : id' = id
    · rw [if_pos e] at h3
      refine ⟨_, T1, A1, S1, ?_, h2, h3⟩; unfold stepC; rw [h1]; simp [e]
    · rw [if_neg e] at h3
      refine ⟨_, T1, A1, S1, ?_, h2, h3⟩; unfold stepC; rw [h1]; simp [e]
theorem m_loop {b : Code} (I : Nat → FT → MS → Prop) (k : Nat) (h0 : I k T S)
    (step : ∀ k T S, I k T S → MWp P O n b T S fun x T1 S1 => match x with | .normal => ∃ k', k' < k ∧ I k' T1 S1 | x => Q x T1 S1) : MWp P O n (.loop b) T S Q := by
  have main : ∀ N k, k < N → ∀ T S, I k T S → MWp P O n (.loop b) T S Q := by
    intro N
    induction N with
    | zero => intro k hk; omega
    | succ N ih =>
      intro k hk T S hI A hA
      obtain ⟨x, T1, A1, S1, h1, h2, h3⟩ := step k T S hI A hA
      cases x with
      | normal =>
        obtain ⟨k', hk', hI'⟩ := h3
        obtain ⟨y, T2, A2, S2, g1, g2, g3⟩ := ih k' (by omega) T1 S1 hI' A1 h2
        exact ⟨y, T2, A2, S2, lim_again h1 g1, g2, g3⟩
      | exit id => exact ⟨_, T1, A1, S1, lim_leave (by intro h; cases h) h1, h2, h3⟩
      | ret => exact ⟨_, T1, A1, S1, lim_leave (by intro h; cases h) h1, h2, h3⟩
  exact main (k + 1) k (by omega) T S h0
noncomputable def resM (P : Program) (T : FT) (S : MS) : List ResultVar → Option (List Value)
  | [] => some []
  | .tmp t :: rs => (resM P T S rs).bind fun vs => some (T.get t :: vs)
  | .cell a t :: rs => (mload P S t (T.get a)).bind fun v => (resM P T S rs).bind fun vs => some (v :: vs)
theorem resM_ok {A : AState} (hA : St A S) : ∀ {rs : List ResultVar} {vs : List Value}, resM P T S rs = some vs → resultsOf P ⟨T, n⟩ A rs = some vs := by
  intro rs
  induction rs with
  | nil => intro vs h; exact h
  | cons r rs ih =>
    intro vs h
    cases r with
    | tmp t =>
      unfold resM at h
      obtain ⟨ws, h1, h⟩ := Option.bind_eq_some_iff.1 h
      unfold resultsOf
      simp only [resultOf, Option.bind_some, ih h1]
      exact h
    | cell a t =>
      unfold resM at h
      obtain ⟨v, h0, h⟩ := Option.bind_eq_some_iff.1 h
      obtain ⟨ws, h1, h⟩ := Option.bind_eq_some_iff.1 h
      unfold resultsOf
      rw [show resultOf P ⟨T, n⟩ A (.cell a t) = aload P A t (T.get a) from rfl, mload_ok hA h0]
      simp only [Option.bind_some, ih h1]
      exact h
structure FnIs (P : Program) (f : FuncId) (c : Code) (n : Nat) (rs : List ResultVar) : Prop where
  is : ∃ fn, P.funcs[f]? = some fn ∧ (fn.name == "runtime.NumGoroutine") = false ∧ fn.body = some c ∧ fn.ntmps = n ∧ fn.results.toList = rs
def fnIsB (P : Program) (f : FuncId) (n : Nat) : Bool := match P.funcs[f]? with | some fn => !(fn.name == "runtime.NumGoroutine") && Nat.beq fn.ntmps n | none => false
theorem fnIs {f : FuncId} {c : Code} {rs : List ResultVar} (h : fnIsB P f n = true) (hc : (P.funcs[f]?).bind (·.body) = some c) (hr : (P.funcs[f]?).map (·.results.toList) = some rs) : FnIs P f c n rs := by
  unfold fnIsB at h
  split at h
  · rename_i fn hf
    simp only [Bool.and_eq_true, Bool.not_eq_true'] at h
    rw [hf] at hc hr
    exact ⟨fn, hf, h.1, hc, Nat.eq_of_beq_eq_true h.2, Option.some.inj hr⟩
  · cases h
theorem callM_body {f : FuncId} {c : Code} {rs : List ResultVar} {args : List Value} {Q : Value → MS → Prop} (hf : FnIs P f c n rs) (hO : O f args = fun _ => none) (hn : args.length ≤ n)
    (h : MWp P O n c (FT.empty.setL 0 args) S fun x T' S' => (match x with | .exit _ => False | _ => True) ∧ ∃ vs, resM P T' S' rs = some vs ∧ Q (oneOrTuple vs) S') : CallM P O f args S Q := fun A hA => by
  obtain ⟨x, T', A', S', h1, h2, h3, vs, h4, h5⟩ := h A hA
  obtain ⟨fn, g1, g2, g3, g4, g5⟩ := hf.is
  refine ⟨oneOrTuple vs, A', S', lim_body hO ?_, h2, h5⟩
  unfold callBody
  rw [g1]
  simp only [Option.bind_some]
  rw [if_neg (by rw [g2]; decide), g3]
  simp only [Option.bind_some]
  rw [g4, show args.length + (n - args.length) = n by omega, h1]
  simp only [Option.bind_some]
  rw [g5]
  cases x with
  | normal => simp only; rw [resM_ok h2 h4]; rfl
  | ret => simp only; rw [resM_ok h2 h4]; rfl
  | exit id => exact h3.elim
theorem callM_known {f : FuncId} {args : List Value} {v : Value} {Q : Value → MS → Prop} (hO : O f args = fun A => some (v, A)) (h : Q v S) : CallM P O f args S Q := fun A hA =>
  ⟨v, A, S, lim_known (by rw [hO]), hA, h⟩
end
end Go.Ag
namespace Go.Ag
open Go.ChangeShapes
set_option linter.unusedVariables false
def regOf (id : Nat) : Code → Option (Array Oper)
  | .region i ops _ => if Nat.beq i id then some ops else none
  | .seq a b => (regOf id a).or (regOf id b)
  | .cond _ a b => (regOf id a).or (regOf id b)
  | .block _ b => regOf id b
  | .loop b => regOf id b
  | .rangeFunc _ _ a b => (regOf id a).or (regOf id b)
  | .scope b => regOf id b
  | _ => none
def roP (P : Program) (f id : Nat) : Array Oper := (((P.funcs[f]?).bind (·.body)).bind (regOf id)).getD #[]
section
variable {H : Type}
inductive RdS (P : Program) (S : MS) : TypeId → List Value → DataW H → Prop
  | bool {t : TypeId} {b : Bool} (hu : P.underlying t = some .bool) : RdS P S t [.bool b] (.lit (.bool b))
  | int {t : TypeId} {k : IntKind} {n : Int} (hu : P.underlying t = some (.int k)) (hw : (Lit.int k n).wf = true) : RdS P S t [.int k n] (.lit (.int k n))
  | string {t : TypeId} {s : ByteArray} (hu : P.underlying t = some .string) (hs : s.size ≤ reachBytes) : RdS P S t [.string s] (.lit (.string s.data.toList))
  | sliceNil {t e : TypeId} (hu : P.underlying t = some (.slice e)) : RdS P S t [.slice none 0 0] .nil
  | sliceZ {t e : TypeId} (hu : P.underlying t = some (.slice e)) : RdS P S t [.slice (some ⟨0, 0, some 0⟩) 0 0] (.slice [] [])
  | slice {t e : TypeId} {b len cap : Nat} {elems spare : List (DataW H)} (vs : List (List Value)) (hu : P.underlying t = some (.slice e)) (hcap : 0 < cap) (hlen : len ≤ cap) (hmax : cap ≤ reachBytes) (he : elems.length = len) (hs : spare.length = cap - len)
      (hvs : vs.length = cap) (hb : S.m b = some (.ro vs.flatten)) (hsz : ∀ x ∈ vs, x.length = P.cellsOf e)
      (hr : ∀ (i : Nat) x d, vs[i]? = some x → (elems ++ spare)[i]? = some d → RdS P S e x d) : RdS P S t [.slice (some ⟨b, 0, none⟩) len cap] (.slice elems spare)
  | struct {t : TypeId} {fs : Array Field} {cs : List Value} {ds : List (DataW H)} (hu : P.underlying t = some (.struct fs)) (hl : cs.length = P.cellsOf t) (hd : ds.length = fs.toList.length)
      (hr : ∀ (i : Nat) f d, fs.toList[i]? = some f → ds[i]? = some d → RdS P S f.type ((cs.drop f.offset).take (P.cellsOf f.type)) d) : RdS P S t cs (.agg ds)
end
end Go.Ag
namespace Go.Ag
set_option linter.unusedVariables false
theorem faS_ptr (off b o : Nat) : faS off (.pointer (some ⟨b, o, none⟩)) = some (.pointer (some ⟨b, o + off, none⟩)) := rfl
theorem nilS_ptr (a : Addr) : nilS (.pointer (some a)) = some (.pointer (some a)) := rfl
theorem nilS_func (f : FuncId) (a b : Array Value) : nilS (.func (.func f) a b) = some (.func (.func f) a b) := rfl
theorem nilS_yield (f : Nat) (a b : Array Value) : nilS (.func (.yield f) a b) = some (.func (.yield f) a b) := rfl
theorem pickS_bool (t : Bool) (a b : Value) : pickS (.bool t) a b = some (if t then a else b) := rfl
theorem ldS_ptr (sz : Option Nat) (S : MS) (b off : Nat) : ldS sz S (.pointer (some ⟨b, off, none⟩)) = (S.list b).bind fun l => partS sz l off := rfl
theorem list_of {S : MS} {b : Nat} {k : K} (h : S.m b = some k) : S.list b = k.list := by unfold MS.list; rw [h]; rfl
theorem list_cells (l : List Value) (es : Nat) : (K.cells l es).list = some l := rfl
theorem list_ro (l : List Value) : (K.ro l).list = some l := rfl
theorem partS_none (l : List Value) (off : Nat) : partS none l off = l[off]? := rfl
theorem partS_some (l : List Value) (n off : Nat) (h : off + n ≤ l.length) : partS (some n) l off = some (.agg ((l.drop off).take n).toArray) := by
  unfold partS; simp only; rw [if_pos (by simpa using h)]
theorem set_m (S : MS) (b : Nat) (k : K) (x : Nat) : (S.set b k).m x = if x = b then some k else S.m x := rfl
theorem del_m (S : MS) (b : Nat) (x : Nat) : (S.del b).m x = if x = b then none else S.m x := rfl
theorem fresh_m (S : MS) (l : List Value) (es : Nat) (x : Nat) : (S.fresh l es).m x = if x = S.n then some (.cells l es) else S.m x := rfl
theorem fresh_n (S : MS) (l : List Value) (es : Nat) : (S.fresh l es).n = S.n + 1 := rfl
theorem write_of {S : MS} {b off : Nat} {vs l : List Value} {es : Nat} (h : S.m b = some (.cells l es)) (hle : off + vs.length ≤ l.length) : S.write b off vs = some (S.set b (.cells (spliceL l vs off) es)) := by
  unfold MS.write; rw [h]; simp only; rw [if_pos (by simpa using hle)]
theorem splice_one (l : List Value) (off : Nat) (v : Value) (h : off < l.length) : spliceL l [v] off = l.set off v := by
  unfold spliceL
  rw [List.set_eq_take_append_cons_drop, if_pos h]
  simp
theorem stS_one {S : MS} {b off : Nat} {l : List Value} {es : Nat} {v : Value} (h : S.m b = some (.cells l es)) (hlt : off < l.length) (hc : v.cells = #[v]) (ho : oneCell v = true) : stS 1 S (.pointer (some ⟨b, off, none⟩)) v = some (S.set b (.cells (l.set off v) es)) := by
  unfold stS
  simp only [hc]
  rw [if_pos (by simp [ho])]
  rw [write_of h (by show off + 1 ≤ l.length; omega)]
  show some (S.set b (.cells (spliceL l [v] off) es)) = _
  rw [splice_one _ _ _ hlt]
theorem abin_add (P : Program) (t : TypeId) (x y : Operand) (k : IntKind) (a b : Int) : abin P .add t x y (.int k a) (.int k b) = some (.int k (k.wrap (a + b))) := by
  simp [abin, binOp, Op.intArith, pureRun, pure]
theorem abin_sub (P : Program) (t : TypeId) (x y : Operand) (k : IntKind) (a b : Int) : abin P .sub t x y (.int k a) (.int k b) = some (.int k (k.wrap (a - b))) := by
  simp [abin, binOp, Op.intArith, pureRun, pure]
theorem abin_mul (P : Program) (t : TypeId) (x y : Operand) (k : IntKind) (a b : Int) : abin P .mul t x y (.int k a) (.int k b) = some (.int k (k.wrap (a * b))) := by
  simp [abin, binOp, Op.intArith, pureRun, pure]
theorem abin_eql (P : Program) (t : TypeId) (x y : Operand) (k : IntKind) (a b : Int) : abin P .eql t x y (.int k a) (.int k b) = some (.bool (a == b)) := by
  simp [abin, binOp, Op.intCmp, pureRun, pure]
theorem abin_neq (P : Program) (t : TypeId) (x y : Operand) (k : IntKind) (a b : Int) : abin P .neq t x y (.int k a) (.int k b) = some (.bool (a != b)) := by
  simp [abin, binOp, Op.intCmp, pureRun, pure]
theorem abin_lss (P : Program) (t : TypeId) (x y : Operand) (k : IntKind) (a b : Int) : abin P .lss t x y (.int k a) (.int k b) = some (.bool (decide (a < b))) := by
  simp [abin, binOp, Op.intCmp, pureRun, pure]
theorem abin_leq (P : Program) (t : TypeId) (x y : Operand) (k : IntKind) (a b : Int) : abin P .leq t x y (.int k a) (.int k b) = some (.bool (decide (a ≤ b))) := by
  simp [abin, binOp, Op.intCmp, pureRun, pure]
theorem abin_gtr (P : Program) (t : TypeId) (x y : Operand) (k : IntKind) (a b : Int) : abin P .gtr t x y (.int k a) (.int k b) = some (.bool (decide (a > b))) := by
  simp [abin, binOp, Op.intCmp, pureRun, pure]
theorem abin_geq (P : Program) (t : TypeId) (x y : Operand) (k : IntKind) (a b : Int) : abin P .geq t x y (.int k a) (.int k b) = some (.bool (decide (a ≥ b))) := by
  simp [abin, binOp, Op.intCmp, pureRun, pure]
theorem abin_rem (P : Program) (t : TypeId) (x y : Operand) (k : IntKind) (a b : Int) (h : b ≠ 0) : abin P .rem t x y (.int k a) (.int k b) = some (.int k (a.tmod b)) := by
  simp [abin, binOp, Op.intDiv, pureRun, pure, h]
theorem abin_str_eql (P : Program) (t : TypeId) (x y : Operand) (a b : ByteArray) : abin P .eql t x y (.string a) (.string b) = some (.bool (a.toList == b.toList)) := by
  simp [abin, binOp, Op.stringOp, pureRun, pure]
theorem aunary_not (b : Bool) : aunary .not (.bool b) = some (.bool (!b)) := by
  simp [aunary, Op.unary, pureRun, pure]
theorem wrap_i64 {n : Int} (h1 : -9223372036854775808 ≤ n) (h2 : n ≤ 9223372036854775807) : IntKind.i64.wrap n = n := by
  simp only [IntKind.wrap, IntKind.bits, IntKind.signed]
  simp only [Bool.true_and]
  split <;> rename_i h <;> simp at h <;> omega
theorem iaSS_of {sz b off n cap : Nat} {k : IntKind} {i : Int} (h0 : 0 ≤ i) (h1 : i < n) : iaSS sz (.slice (some ⟨b, off, none⟩) n cap) (.int k i) = some (.pointer (some ⟨b, off + i.toNat * sz, none⟩)) := by
  unfold iaSS; simp only; rw [if_pos ⟨h0, h1⟩]
theorem lenSl_of (a : Option Addr) (n c : Nat) : lenSl (.slice a n c) = some (.int .i64 n) := rfl
theorem lenStr_of (s : ByteArray) : lenStr (.string s) = some (.int .i64 s.size) := rfl
theorem cvInt_of (k k' : IntKind) (n : Int) : cvInt k (.int k' n) = some (.int k (k.wrap n)) := rfl
theorem aminmax_max (k k' : IntKind) (a b : Int) : aminmax true [.int k a, .int k' b] = some (.int k (if b > a then b else a)) := rfl
theorem aminmax_min (k k' : IntKind) (a b : Int) : aminmax false [.int k a, .int k' b] = some (.int k (if b < a then b else a)) := rfl
end Go.Ag
namespace Go.Ag
set_option linter.unusedVariables false
theorem MS.ext {S S' : MS} (hm : ∀ x, S.m x = S'.m x) (hn : S.n = S'.n) : S = S' := by
  obtain ⟨m, n⟩ := S
  obtain ⟨m', n'⟩ := S'
  have : m = m' := funext hm
  cases this; cases hn; rfl
theorem set_set (S : MS) (b : Nat) (k k' : K) : (S.set b k).set b k' = S.set b k' := by
  refine MS.ext (fun x => ?_) rfl
  rw [set_m, set_m, set_m]
  split <;> rfl
theorem msS_of (S : MS) (sz bytes : Nat) (z : List Value) (k k' : IntKind) {n : Nat} (h1 : bytes * n ≤ 281474976710656) (h2 : n < 4611686018427387904) :
    msS S sz bytes z (.int k n) (.int k' n) = some (.slice (some ⟨S.n, 0, none⟩) n n, S.fresh (zeros z n) sz) := by
  have hw : IntKind.i64.wrap (n : Int) = n := wrap_i64 (by omega) (by omega)
  have h1' : (bytes : Int) * (n : Int) ≤ 281474976710656 := by rw [← Int.natCast_mul]; omega
  unfold msS
  simp only [hw]
  rw [if_pos ⟨by omega, by omega, h1', by unfold unk; omega⟩]
  rfl
theorem first_of {S : MS} {sz n len cap b off : Nat} {l : List Value} (h : S.list b = some l) (hn : n ≤ len) (h0 : n ≠ 0) (hle : off + n * sz ≤ l.length) : firstCellsM S sz n (.slice (some ⟨b, off, none⟩) len cap) = some ((l.drop off).take (n * sz)) := by
  have e : firstCellsM S sz n (.slice (some ⟨b, off, none⟩) len cap) = (if Nat.ble n len then (if n = 0 then some [] else S.readAt b off (n * sz)) else none) := by
    unfold firstCellsM
    split <;> first | rfl | simp_all
    rename_i h
    exact absurd rfl (h b off len cap rfl rfl rfl)
  rw [e]
  rw [if_pos (Nat.ble_eq.mpr hn), if_neg h0]
  unfold MS.readAt
  rw [h]
  simp only [Option.bind_some]
  rw [if_pos (Nat.ble_eq.mpr hle)]
theorem apS_nil {S : MS} {sz bytes : Nat} {z : List Value} {x : Value} {n : Nat} {new : List Value} (hl : lenOfA x = some n) (hf : firstCellsM S sz n x = some new) (hn : new.length = n * sz) (ho : new.all oneCell = true) (h0 : n ≠ 0) (hb : (2 * n + 1000) * bytes ≤ 281474976710656) (hn2 : n < 2147483648) :
    apS false sz bytes z S [.slice none 0 0, x] = some (.slice (some ⟨S.n, 0, none⟩) n unk, S.fresh new sz) := by
  unfold apS appendedM
  simp only [Bool.false_eq_true, if_false, hl, Option.bind_some, hf, Option.map_some, hn, Nat.beq_refl, ho, Bool.and_self, if_true, if_neg h0]
  rw [if_pos ⟨hb, hn2⟩]
theorem bsS_one (S : MS) (sz : Nat) (z : List Value) (v : Value) (hz : z.length = sz) (hv : v.cells.size = sz) : bsS S 1 sz z [(0, v)] = some (.slice (some ⟨S.n, 0, none⟩) 1 1, S.fresh v.cells.toList sz) := by
  unfold bsS fillL fillL spliceL
  simp [hv, hz, List.drop_of_length_le (Nat.le_of_eq hz)]
theorem cpS_of {S : MS} {sz b off dlen dcap xl n : Nat} {x : Value} {l cs : List Value} {es : Nat} (hb : S.m b = some (.cells l es)) (hx : lenOfA x = some xl) (hn : Nat.min xl dlen = n) (h0 : n ≠ 0) (hf : firstCellsM S sz n x = some cs) (ho : cs.all oneCell = true) (hle : off + cs.length ≤ l.length) :
    cpS sz S [.slice (some ⟨b, off, none⟩) dlen dcap, x] = some (goInt n, S.set b (.cells (spliceL l cs off) es)) := by
  unfold cpS
  simp only [hx, Option.bind_some, hn, hf, ho, if_true, if_neg h0]
  rw [write_of hb hle]
  rfl
theorem splice_all {l vs : List Value} (h : vs.length = l.length) : spliceL l vs 0 = vs := by
  unfold spliceL; simp [h]
end Go.Ag
namespace Go.Ag
def MS.WF (S : MS) : Prop := ∀ b k, S.m b = some k → b < S.n
theorem St.wf {A : AState} {S : MS} (h : St A S) : S.WF := fun b k hk => by rw [← h.size]; exact h.lt hk
theorem callM_wf {P : Program} {O : Hook} {f : FuncId} {args : List Value} {S : MS} {Q : Value → MS → Prop} (h : S.WF → CallM P O f args S Q) : CallM P O f args S Q := fun A hA => h hA.wf A hA
theorem m_wf {P : Program} {O : Hook} {n : Nat} {c : Code} {T : FT} {S : MS} {Q : AExit → FT → MS → Prop} (h : S.WF → MWp P O n c T S Q) : MWp P O n c T S Q := fun A hA => h hA.wf A hA
end Go.Ag
namespace Go.Ag
theorem st_one {S : MS} {b off : Nat} {l : List Value} {es : Nat} {v : Value} (h : S.m b = some (.cells l es)) (hlt : off < l.length) (hc : v.cells = #[v]) (ho : oneCell v = true) :
    ∃ S1, stS 1 S (.pointer (some ⟨b, off, none⟩)) v = some S1 ∧ S1.m b = some (.cells (l.set off v) es) ∧ S1.n = S.n ∧ ∀ x, x ≠ b → S1.m x = S.m x :=
  ⟨_, stS_one h hlt hc ho, by rw [set_m, if_pos rfl], rfl, fun x hx => by rw [set_m, if_neg hx]⟩
end Go.Ag
namespace Go.Ag
theorem st_all {S : MS} {b n : Nat} {l : List Value} {es : Nat} {cs : Array Value} (h : S.m b = some (.cells l es)) (hn : cs.size = n) (hl : l.length = n) (ho : cs.toList.all oneCell = true) :
    ∃ S1, stS n S (.pointer (some ⟨b, 0, none⟩)) (.agg cs) = some S1 ∧ S1.m b = some (.cells cs.toList es) ∧ S1.n = S.n ∧ ∀ x, x ≠ b → S1.m x = S.m x := by
  refine ⟨S.set b (.cells cs.toList es), ?_, by rw [set_m, if_pos rfl], rfl, fun x hx => by rw [set_m, if_neg hx]⟩
  have e : stS n S (.pointer (some ⟨b, 0, none⟩)) (.agg cs) = if Nat.beq cs.size n && cs.toList.all oneCell then S.write b 0 cs.toList else none := rfl
  rw [e, if_pos (by rw [hn, ho]; simp), write_of h (by simp; omega), splice_all (by simp; omega)]
theorem fresh_at (S : MS) (l : List Value) (es : Nat) : (S.fresh l es).m S.n = some (.cells l es) := by rw [fresh_m, if_pos rfl]
theorem fresh_old (S : MS) (l : List Value) (es : Nat) {x : Nat} (h : x ≠ S.n) : (S.fresh l es).m x = S.m x := by rw [fresh_m, if_neg h]
theorem del_old (S : MS) {b x : Nat} (h : x ≠ b) : (S.del b).m x = S.m x := by rw [del_m, if_neg h]
end Go.Ag
namespace Go.Ag
end Go.Ag
namespace Go.Ag
open Go
set_option linter.unusedVariables false
section
variable (P : Program) (O : Hook) (n : Nat)
def keepU (ops : List Oper) (d : Option Tmp) : List Nat → List Nat
  | [] => []
  | i :: l => if sameT (dstOf ops i) d then keepU ops d l else i :: keepU ops d l
def hasU (i : Nat) : List Nat → Bool
  | [] => false
  | j :: l => if Nat.beq i j then true else hasU i l
noncomputable def mOps2 (ops : List Oper) : List Oper → Nat → List Nat → List (Nat × Bool) → FT → MS → (FT → MS → Prop) → Prop
  | [], _, _, _, T, S, Q => Q T S
  | o :: rest, ix, us, kn, T, S, Q =>
    let go (kn : List (Nat × Bool)) (T : FT) : Prop := if operOk P o then wpOp P O T o S fun v S' => putT n o.dst v T fun T' => mOps2 ops rest (ix + 1) (keepU ops o.dst us) (keepK ops o.dst kn) T' S' Q else False
    let no (kn : List (Nat × Bool)) (T : FT) : Prop := putT n o.dst undef T fun T' => mOps2 ops rest (ix + 1) (if sameT (dstOf ops ix) o.dst then ix :: keepU ops o.dst us else keepU ops o.dst us) (keepK ops o.dst kn) T' S Q
    match o.guard with
    | none => go kn T
    | some (j, want) =>
      if hasU j us then no kn T else
      match lookK kn j with
      | some b => if (b == want) then go kn T else no kn T
      | none => match dstOf ops j with
        | some t => ∃ b, T.get t = .bool b ∧ (b = true → if want then go ((j, true) :: kn) T else no ((j, true) :: kn) T) ∧ (b = false → if want then no ((j, false) :: kn) T else go ((j, false) :: kn) T)
        | none => False
end
section
variable {P : Program} {O : Hook} {n : Nat}
def UsOk (ops : List Oper) (T : FT) (us : List Nat) : Prop := ∀ i ∈ us, ∃ t, dstOf ops i = some t ∧ T.get t = undef
theorem UsOk.put {ops : List Oper} {T T' : FT} {d : Option Tmp} (hT : ∀ t, d ≠ some t → T'.get t = T.get t) : ∀ {us : List Nat}, UsOk ops T us → UsOk ops T' (keepU ops d us) := by
  intro us
  induction us with
  | nil => intro _ p hp; cases hp
  | cons i us ih =>
    intro h
    have ht := ih (fun p hp => h p (by simp [hp]))
    unfold keepU
    split
    · exact ht
    · rename_i hs
      intro p hp
      rcases List.mem_cons.1 hp with rfl | hp
      · obtain ⟨t, h1, h2⟩ := h p (by simp)
        refine ⟨t, h1, ?_⟩
        rw [hT t (fun e => hs (by rw [h1, e]; simp [sameT]))]
        exact h2
      · exact ht p hp
theorem hasU_mem : ∀ {us : List Nat} {j : Nat}, hasU j us = true → j ∈ us := by
  intro us
  induction us with
  | nil => intro j h; cases h
  | cons x us ih =>
    intro j h
    unfold hasU at h
    split at h
    · rename_i e; rw [Nat.eq_of_beq_eq_true e]; simp
    · exact List.mem_cons_of_mem _ (ih h)
theorem unwanted {ops : List Oper} {T : FT} {o : Oper} {j : Nat} {want : Bool} {t : Tmp} (h : o.guard = some (j, want)) (hd : dstOf ops j = some t) (ht : T.get t = undef) : wantedA ops ⟨T, n⟩ o = false := by
  have hy : yieldedA ops ⟨T, n⟩ j = none := by
    unfold yieldedA
    unfold dstOf at hd
    rw [hd]
    show (match T.get t with | .bool b => some b | _ => none) = none
    rw [ht]; rfl
  unfold wantedA Region.wanted; rw [h]; simp only [hy]; cases want <;> rfl
theorem sameT_eq {a : Option Tmp} {b : Option Tmp} (h : sameT a b = true) : ∃ t, a = some t ∧ b = some t := by
  cases a with
  | none => cases h
  | some a => cases b with
    | none => cases h
    | some b => exact ⟨a, rfl, by rw [Nat.eq_of_beq_eq_true h]⟩
theorem putT_get {d : Tmp} {v : Value} {T : FT} {Q : FT → Prop} (h : putT n (some d) v T Q) : ∃ T', (⟨T, n⟩ : Env).put (some d) v = some ⟨T', n⟩ ∧ Q T' ∧ (∀ t, some d ≠ some t → T'.get t = T.get t) ∧ T'.get d = v := by
  unfold putT at h
  unfold Env.put
  simp only at h ⊢
  split at h
  · rename_i hlt
    rw [if_pos hlt]
    exact ⟨_, rfl, h, fun t ht => by rw [FT.get_set, if_neg (fun e => ht (by rw [e]))], by rw [FT.get_set, if_pos rfl]⟩
  · exact h.elim
theorem mOps2_ok {ops : List Oper} : ∀ {l : List Oper} {ix : Nat} {us : List Nat} {kn : List (Nat × Bool)} {T : FT} {S : MS} {Q : FT → MS → Prop} {A : AState}, mOps2 P O n ops l ix us kn T S Q → UsOk ops T us → KnOk ops T kn → St A S →
    ∃ T' A' S', runOps P (lim P O) ops l ⟨T, n⟩ A = some (⟨T', n⟩, A') ∧ St A' S' ∧ Q T' S' := by
  intro l
  induction l with
  | nil => intro ix us kn T S Q A h _ _ hA; exact ⟨T, A, S, rfl, hA, h⟩
  | cons o rest ih =>
    intro ix us kn T S Q A h hus hkn hA
    have go : ∀ kn, KnOk ops T kn → wantedA ops ⟨T, n⟩ o = true → (if operOk P o then wpOp P O T o S fun v S' => putT n o.dst v T fun T' => mOps2 P O n ops rest (ix + 1) (keepU ops o.dst us) (keepK ops o.dst kn) T' S' Q else False) →
        ∃ T' A' S', runOps P (lim P O) ops (o :: rest) ⟨T, n⟩ A = some (⟨T', n⟩, A') ∧ St A' S' ∧ Q T' S' := by
      intro kn hkn hw h
      split at h
      case isFalse => exact h.elim
      rename_i hok
      obtain ⟨v, A1, S1, h1, h2, h3⟩ := wpOp_ok (n := n) h hA
      obtain ⟨T1, h4, h5, h6⟩ := putT_ok h3
      obtain ⟨T2, A2, S2, h7, h8, h9⟩ := ih h5 (hus.put h6) (hkn.put h6) h2
      refine ⟨T2, A2, S2, ?_, h8, h9⟩
      unfold runOps
      rw [if_pos hw, if_pos hok, h1]
      simp only [Option.bind_some]
      rw [h4]
      exact h7
    have no : ∀ kn, KnOk ops T kn → wantedA ops ⟨T, n⟩ o = false → (putT n o.dst undef T fun T' => mOps2 P O n ops rest (ix + 1) (if sameT (dstOf ops ix) o.dst then ix :: keepU ops o.dst us else keepU ops o.dst us) (keepK ops o.dst kn) T' S Q) →
        ∃ T' A' S', runOps P (lim P O) ops (o :: rest) ⟨T, n⟩ A = some (⟨T', n⟩, A') ∧ St A' S' ∧ Q T' S' := by
      intro kn hkn hw h
      have hput : ∃ T1, (⟨T, n⟩ : Env).put o.dst undef = some ⟨T1, n⟩ ∧ (mOps2 P O n ops rest (ix + 1) (if sameT (dstOf ops ix) o.dst then ix :: keepU ops o.dst us else keepU ops o.dst us) (keepK ops o.dst kn) T1 S Q) ∧ (∀ t, o.dst ≠ some t → T1.get t = T.get t) ∧ UsOk ops T1 (if sameT (dstOf ops ix) o.dst then ix :: keepU ops o.dst us else keepU ops o.dst us) := by
        cases hd : o.dst with
        | none =>
          rw [hd] at h
          obtain ⟨T1, h4, h5, h6⟩ := putT_ok h
          refine ⟨T1, h4, h5, h6, ?_⟩
          split
          · rename_i hs; obtain ⟨t, _, h'⟩ := sameT_eq hs; cases h'
          · exact hus.put h6
        | some d =>
          rw [hd] at h
          obtain ⟨T1, h4, h5, h6, h66⟩ := putT_get h
          refine ⟨T1, h4, h5, h6, ?_⟩
          split
          · rename_i hs
            obtain ⟨t, e1, h'⟩ := sameT_eq hs
            cases h'
            intro i hi
            rcases List.mem_cons.1 hi with rfl | hi
            · exact ⟨d, e1, h66⟩
            · exact hus.put h6 i hi
          · exact hus.put h6
      obtain ⟨T1, h4, h5, h6, hu1⟩ := hput
      obtain ⟨T2, A2, S2, h7, h8, h9⟩ := ih h5 hu1 (hkn.put h6) hA
      refine ⟨T2, A2, S2, ?_, h8, h9⟩
      unfold runOps
      rw [if_neg (by rw [hw]; decide), h4]
      exact h7
    unfold mOps2 at h
    simp only at h
    split at h
    · rename_i hg
      exact go kn hkn (wanted_none hg) h
    · rename_i j want hg
      split at h
      · rename_i hu
        obtain ⟨t, h1, h2⟩ := hus j (hasU_mem hu)
        exact no kn hkn (unwanted hg h1 h2) h
      split at h
      · rename_i b hb
        obtain ⟨t, h1, h2⟩ := hkn (j, b) (lookK_mem hb)
        have hy := yielded_of (n := n) h1 h2
        have hw := wanted_some hg hy
        split at h
        · rename_i e; exact go kn hkn (by rw [hw]; exact e) h
        · rename_i e; exact no kn hkn (by rw [hw]; simpa using e) h
      · split at h
        · rename_i t ht
          obtain ⟨b, hb, h1, h2⟩ := h
          have hw := wanted_some hg (yielded_of (n := n) ht hb)
          have hkn' : KnOk ops T ((j, b) :: kn) := fun p hp => by
            rcases List.mem_cons.1 hp with rfl | hp
            · exact ⟨t, ht, hb⟩
            · exact hkn p hp
          cases b with
          | true =>
            have h1 := h1 rfl
            cases want with
            | true => exact go _ hkn' hw h1
            | false => exact no _ hkn' hw h1
          | false =>
            have h2 := h2 rfl
            cases want with
            | true => exact no _ hkn' hw h2
            | false => exact go _ hkn' hw h2
        · exact h.elim
end
section
variable {P : Program} {O : Hook} {n : Nat} {T : FT} {S : MS} {Q : AExit → FT → MS → Prop}
theorem m_reg2 {id : Nat} {ops : Array Oper} (h : mOps2 P O n ops.toList ops.toList 0 [] [] T S fun T' S' => Q .normal T' S') : MWp P O n (.region id ops false) T S Q := fun A hA => by
  obtain ⟨T', A', S', h1, h2, h3⟩ := mOps2_ok h (fun p hp => by cases hp) (fun p hp => by cases hp) hA
  refine ⟨_, T', A', S', ?_, h2, h3⟩
  unfold stepC; simp only [Bool.false_eq_true, if_false]; rw [h1]; rfl
end
end Go.Ag
namespace Go.Ag
open Go
set_option linter.unusedVariables false
section
variable (P : Program) (O : Hook) (n : Nat)
end
section
variable {P : Program} {O : Hook} {n : Nat}
end
end Go.Ag
