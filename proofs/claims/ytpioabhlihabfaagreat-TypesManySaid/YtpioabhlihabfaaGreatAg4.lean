/-
  An abstract machine for Go functions, run by few steps; numbers of which only a remainder is asked. Nothing is asked.
-/
import Derived.Test.YtpioabhlihabfaaGreatAg3
set_option linter.all false
namespace Go.Ag
set_option linter.unusedVariables false
set_option linter.unusedSimpArgs false

section congr
variable {P : Program} {ρ ρ' : Operand → Value} {o : Oper} {A : AState} {F : Fns}
def Same (ρ ρ' : Operand → Value) (o : Oper) : Prop := ∀ x ∈ o.op.operands.toList, ρ x = ρ' x

theorem map_same {xs : List Operand} (h : ∀ x ∈ xs, ρ x = ρ' x) : xs.map ρ = xs.map ρ' := List.map_congr_left h
theorem parts_same {ps : List (Nat × Operand)} (h : ∀ x ∈ ps.map (·.2), ρ x = ρ' x) : (ps.map fun (i, x) => (i, ρ x)) = ps.map fun (i, x) => (i, ρ' x) := by
  refine List.map_congr_left fun p hp => ?_
  obtain ⟨i, x⟩ := p
  show (i, ρ x) = (i, ρ' x)
  rw [h x (List.mem_map.2 ⟨(i, x), hp, rfl⟩)]
theorem opt_same {x : Option Operand} (h : ∀ y ∈ x.toList, ρ y = ρ' y) : x.map ρ = x.map ρ' := by
  cases x with
  | none => rfl
  | some y => show some _ = some _; rw [h y (by simp)]

theorem call_same {c : Call} (h : ∀ x ∈ c.operands.toList, ρ x = ρ' x) : (∀ x ∈ c.args.toList, ρ x = ρ' x) ∧ (∀ f, c.callee = .value f → ρ f = ρ' f) := by
  refine ⟨fun x hx => h x ?_, fun f hf => h f ?_⟩
  · unfold Call.operands; cases c.callee <;> simp at hx ⊢ <;> first | exact hx | exact .inr hx
  · unfold Call.operands; rw [hf]; simp

theorem aPure_same (h : Same ρ ρ' o) : aPure P ρ o = aPure P ρ' o := by
  obtain ⟨dst, op, ty, pos, after, guard⟩ := o
  unfold Same at h
  unfold aPure
  cases op <;> simp only [Op.operands] at h ⊢ <;> try rfl
  case move x => rw [h x (by simp)]
  case assign x => rw [h x (by simp)]
  case pick c a b => rw [h c (by simp), h a (by simp), h b (by simp)]
  case build t ps => rw [parts_same (by simpa using h)]
  case nilCheck x => rw [h x (by simp)]
  case binOp op t x y _ => rw [h x (by simp), h y (by simp)]
  case unOp op t x => rw [h x (by simp)]
  case convert s d x => rw [h x (by simp)]
  case makeInterface t x => rw [h x (by simp)]
  case makeFunc fn first captured =>
    simp only [Array.toList_append, List.mem_append] at h
    cases fn <;> simp only
    rw [map_same fun x hx => h x (.inl hx), map_same fun x hx => h x (.inr hx)]
  case fieldAddr t x f => rw [h x (by simp)]
  case field t x f => rw [h x (by simp)]
  case indexAddr t x i => rw [h x (by simp), h i (by simp)]
  case index t x i => rw [h x (by simp), h i (by simp)]
  case extract x i => rw [h x (by simp)]
  case typeAssert x a b c => cases c <;> simp only; rw [h x (by simp)]
  case call c =>
    obtain ⟨callee, args, ats⟩ := c
    have hs := (call_same h).1
    cases callee with
    | builtin b =>
      cases b with
      | max => show aminmax true (args.toList.map ρ) = aminmax true (args.toList.map ρ'); rw [map_same hs]
      | min => show aminmax false (args.toList.map ρ) = aminmax false (args.toList.map ρ'); rw [map_same hs]
      | _ => rfl
    | _ => rfl

theorem aRead_same (h : Same ρ ρ' o) : aRead P ρ o A = aRead P ρ' o A := by
  obtain ⟨dst, op, ty, pos, after, guard⟩ := o
  unfold Same at h
  unfold aRead
  cases op <;> simp only [Op.operands] at h ⊢ <;> try rfl
  case load t x => rw [h x (by simp)]
  case convert s d x => rw [h x (by simp)]
  case lookup t x k ok => rw [h x (by simp), h k (by simp)]
  case slice t x l hi m =>
    simp only [Array.toList_append, List.mem_append] at h
    rw [h x (.inl (.inl (.inl (by simp)))), opt_same fun y hy => h y (.inl (.inl (.inr (by simpa using hy)))), opt_same fun y hy => h y (.inl (.inr (by simpa using hy))), opt_same fun y hy => h y (.inr (by simpa using hy))]
  case call c =>
    obtain ⟨callee, args, ats⟩ := c
    have hs := (call_same h).1
    cases callee with
    | builtin b =>
      cases b with
      | len =>
        show (match args.toList, ats.toList with | [x], t :: _ => alen P A t (ρ x) | _, _ => none) = (match args.toList, ats.toList with | [x], t :: _ => alen P A t (ρ' x) | _, _ => none)
        simp only at hs
        split
        · rename_i x t ts hx ht
          rw [hx] at hs
          rw [hs x (by simp)]
        · rfl
      | _ => rfl
    | _ => rfl

theorem aMake_same (h : Same ρ ρ' o) : aMake P ρ o A = aMake P ρ' o A := by
  obtain ⟨dst, op, ty, pos, after, guard⟩ := o
  unfold Same at h
  unfold aMake
  cases op <;> simp only [Op.operands] at h ⊢ <;> try rfl
  case box t x => rw [h x (by simp)]
  case buildSlice t n ps => rw [parts_same (by simpa using h)]
  case makeSlice t l c => rw [h l (by simp), h c (by simp)]
  case makeMap t r => rw [opt_same (by simpa using h)]
  case range t x => rw [h x (by simp)]
  case convert s d x => rw [h x (by simp)]

theorem aWrite_same (h : Same ρ ρ' o) : aWrite P ρ o A = aWrite P ρ' o A := by
  obtain ⟨dst, op, ty, pos, after, guard⟩ := o
  unfold Same at h
  unfold aWrite
  cases op <;> simp only [Op.operands] at h ⊢ <;> try rfl
  case store t p x => rw [h p (by simp), h x (by simp)]
  case mapUpdate t m k x => rw [h m (by simp), h k (by simp), h x (by simp)]
  case insert t m k x => rw [h m (by simp), h k (by simp), h x (by simp)]
  case next x b => rw [h x (by simp)]
  case call c =>
    obtain ⟨callee, args, ats⟩ := c
    have hs := (call_same h).1
    cases callee with
    | builtin b =>
      cases b with
      | append => show aappend P A ats.toList (args.toList.map ρ) = aappend P A ats.toList (args.toList.map ρ'); rw [map_same hs]
      | copy => show acopy P A ats.toList (args.toList.map ρ) = acopy P A ats.toList (args.toList.map ρ'); rw [map_same hs]
      | clear => show aclear P A ats.toList (args.toList.map ρ) = aclear P A ats.toList (args.toList.map ρ'); rw [map_same hs]
      | _ => rfl
    | _ => rfl

theorem aCall_same (h : Same ρ ρ' o) : aCall F ρ o A = aCall F ρ' o A := by
  obtain ⟨dst, op, ty, pos, after, guard⟩ := o
  unfold Same at h
  unfold aCall
  cases op <;> simp only [Op.operands] at h ⊢ <;> try rfl
  case call c =>
    obtain ⟨callee, args, ats⟩ := c
    obtain ⟨h1, h2⟩ := call_same h
    cases callee with
    | value f => show callV F (ρ f) (args.toList.map ρ) A = callV F (ρ' f) (args.toList.map ρ') A; rw [map_same h1, h2 f rfl]
    | _ => rfl
end congr
end Go.Ag
namespace Go.Ag
set_option linter.unusedVariables false

/-- which temporaries may part, and how; which operations may look at them -/
structure Parts where
  D : Nat → Bool
  Q : Nat → Value → Value → Prop
  sp : Oper → Bool

variable (P : Program) (W : Parts)

def VPart (t : Nat) (v v' : Value) : Prop := v = v' ∨ (W.D t = true ∧ W.Q t v v')
structure EPart (E E' : Env) : Prop where
  n : E.n = E'.n
  get : ∀ t, VPart W t (E.get t) (E'.get t)
def opdIn : Operand → Bool
  | .tmp t => W.D t
  | _ => false
def readsD (o : Oper) : Bool := o.op.operands.toList.any (opdIn W)
def DPart (d : Option Tmp) (v v' : Value) : Prop := v = v' ∨ ∃ t, d = some t ∧ W.D t = true ∧ W.Q t v v'
/-- of the operations that look at what parts: what they tell parts likewise -/
def SpOk : Prop := ∀ o, W.sp o = true → kindOf P o = .pure ∧ ∀ (E E' : Env) v, EPart W E E' → aPure P E.eval o = some v → ∃ v', aPure P E'.eval o = some v' ∧ DPart W o.dst v v'
def okOper (ops : List Oper) (o : Oper) : Bool := (!(readsD W o) || W.sp o) && (match o.guard with | none => true | some (j, _) => match (ops[j]?).bind (·.dst) with | some t => !(W.D t) | none => true)
def okReg (ops : List Oper) : Bool := ops.all (okOper W ops)
/-- a region that draws its order, without last stores -/
def okDraw (ops : List Oper) : Bool := okReg W ops && (planOf P ops).last.isEmpty
noncomputable def okCode : Code → Bool
  | .skip => true
  | .label _ => true
  | .ret => true
  | .exit _ => true
  | .region _ ops draw => if draw then okDraw P W ops.toList else okReg W ops.toList
  | .seq a b => okCode a && okCode b
  | .cond c a b => !(opdIn W c) && (okCode a && okCode b)
  | .block _ b => okCode b
  | .scope b => okCode b
  | .loop b => okCode b
  | _ => false

variable {P W} {E E' : Env}
theorem EPart.same (h : EPart W E E') {o : Oper} (hr : readsD W o = false) : Same E.eval E'.eval o := by
  intro x hx
  have hno : opdIn W x = false := by
    unfold readsD at hr
    rw [List.any_eq_false] at hr
    simpa using hr x hx
  cases x with
  | tmp t =>
    rcases h.get t with e | ⟨e, _⟩
    · exact e
    · change W.D t = false at hno; rw [e] at hno; cases hno
  | _ => rfl
theorem EPart.put (h : EPart W E E') {d : Option Tmp} {v v' : Value} (hv : DPart W d v v') {E1 : Env} (hp : E.put d v = some E1) : ∃ E1', E'.put d v' = some E1' ∧ EPart W E1 E1' := by
  cases d with
  | none => cases hp; exact ⟨E', rfl, h⟩
  | some d =>
    obtain ⟨hd, rfl⟩ := Env.put_some hp
    have hd' : Nat.blt d E'.n = true := by rw [← h.n]; exact Nat.blt_eq.mpr hd
    have hp' : E'.put (some d) v' = some ⟨E'.t.set v' d, E'.n⟩ := by
      show (if Nat.blt d E'.n then _ else _) = _
      rw [if_pos hd']
    refine ⟨_, hp', h.n, fun t => ?_⟩
    rw [Env.get_put hp, Env.get_put hp']
    by_cases e : d = t
    · rw [if_pos e, if_pos e]
      subst e
      rcases hv with hv | ⟨t, ht, h1, h2⟩
      · exact .inl hv
      · cases ht; exact .inr ⟨h1, h2⟩
    · rw [if_neg e, if_neg e]; exact h.get t
theorem EPart.wanted (h : EPart W E E') {ops : List Oper} {o : Oper} (ho : okOper W ops o = true) : wantedA ops E' o = wantedA ops E o := by
  unfold okOper at ho
  rw [Bool.and_eq_true] at ho
  obtain ⟨_, h2⟩ := ho
  unfold wantedA Region.wanted
  cases hg : o.guard with
  | none => rfl
  | some g =>
    obtain ⟨j, want⟩ := g
    rw [hg] at h2
    simp only at h2 ⊢
    unfold yieldedA
    cases hd : (ops[j]?).bind (·.dst) with
    | none => rfl
    | some t =>
      rw [hd] at h2
      simp only at h2 ⊢
      rcases h.get t with e | ⟨e, _⟩
      · rw [e]
      · rw [e] at h2; cases h2

variable {F : Fns}
theorem runOp_part (hs : SpOk P W) (h : EPart W E E') {ops : List Oper} {o : Oper} (ho : okOper W ops o = true) {A A' : AState} {v : Value} (hr : runOp P F E o A = some (v, A')) :
    ∃ v', runOp P F E' o A = some (v', A') ∧ DPart W o.dst v v' := by
  unfold okOper at ho
  rw [Bool.and_eq_true, Bool.or_eq_true, Bool.not_eq_true'] at ho
  rcases ho.1 with h1 | h1
  · have hm := h.same h1
    refine ⟨v, ?_, .inl rfl⟩
    rw [← hr]
    unfold runOp
    rw [aPure_same hm, aRead_same hm, aMake_same hm, aWrite_same hm, aCall_same hm]
  · obtain ⟨hk, hp⟩ := hs o h1
    unfold runOp at hr ⊢
    rw [hk] at hr ⊢
    simp only at hr ⊢
    cases hv : aPure P E.eval o with
    | none => rw [hv] at hr; cases hr
    | some w =>
      rw [hv] at hr
      cases hr
      obtain ⟨v', h2, h3⟩ := hp E E' _ h hv
      exact ⟨v', by rw [h2]; rfl, h3⟩

theorem runOps_part (hs : SpOk P W) {ops : List Oper} : ∀ {l : List Oper} {E E' : Env} {A : AState} {E1 : Env} {A1 : AState}, (∀ o ∈ l, okOper W ops o = true) → EPart W E E' → runOps P F ops l E A = some (E1, A1) →
    ∃ E1', runOps P F ops l E' A = some (E1', A1) ∧ EPart W E1 E1' := by
  intro l
  induction l with
  | nil => intro E E' A E1 A1 _ h hr; cases hr; exact ⟨E', rfl, h⟩
  | cons o rest ih =>
    intro E E' A E1 A1 hl h hr
    have ho := hl o (by simp)
    unfold runOps at hr ⊢
    rw [h.wanted ho]
    split at hr
    · rename_i hw
      rw [if_pos hw]
      split at hr
      · rename_i hok
        rw [if_pos hok]
        obtain ⟨⟨v, A2⟩, h1, h2⟩ := Option.bind_eq_some_iff.1 hr
        obtain ⟨E2, h3, h4⟩ := Option.bind_eq_some_iff.1 h2
        obtain ⟨v', h5, h6⟩ := runOp_part hs h ho h1
        obtain ⟨E2', h7, h8⟩ := h.put h6 h3
        obtain ⟨E1', h9, h10⟩ := ih (fun o ho => hl o (by simp [ho])) h8 h4
        refine ⟨E1', ?_, h10⟩
        rw [h5]
        simp only [Option.bind_some]
        rw [h7]
        exact h9
      · cases hr
    · rename_i hw
      rw [if_neg hw]
      obtain ⟨E2, h3, h4⟩ := Option.bind_eq_some_iff.1 hr
      obtain ⟨E2', h7, h8⟩ := h.put (.inl rfl) h3
      obtain ⟨E1', h9, h10⟩ := ih (fun o ho => hl o (by simp [ho])) h8 h4
      refine ⟨E1', ?_, h10⟩
      rw [h7]
      exact h9

theorem readVers_same {ρ ρ' : Operand → Value} {o : Oper} (h : Same ρ ρ' o) : ∀ As, readVers P ρ o As = readVers P ρ' o As := by
  intro As
  induction As with
  | nil => rfl
  | cons A As ih =>
    cases As with
    | nil => exact aRead_same h
    | cons B Bs => show (aRead P ρ o A).bind _ = (aRead P ρ' o A).bind _; rw [aRead_same h, ih]

theorem runChain_part (hs : SpOk P W) {ops : List Oper} (hops : okReg W ops = true) : ∀ {ch : List (Nat × Nat)} {E E' : Env} {A : AState} {vers : List AState} {E1 : Env} {A1 : AState}, EPart W E E' → runChain P F ops ch E A vers = some (E1, A1) →
    ∃ E1', runChain P F ops ch E' A vers = some (E1', A1) ∧ EPart W E1 E1' := by
  intro ch
  induction ch with
  | nil => intro E E' A vers E1 A1 h hr; cases hr; exact ⟨E', rfl, h⟩
  | cons x rest ih =>
    intro E E' A vers E1 A1 h hr
    obtain ⟨i, a⟩ := x
    unfold runChain at hr ⊢
    cases hoi : ops[i]? with
    | none => rw [hoi] at hr; cases hr
    | some o =>
      rw [hoi] at hr
      simp only [Option.bind_some] at hr ⊢
      have ho : okOper W ops o = true := List.all_eq_true.1 hops o (List.mem_of_getElem? hoi)
      rw [h.wanted ho]
      split at hr
      · rename_i hw
        rw [if_pos hw]
        have hcase : readsD W o = false ∨ W.sp o = true := by
          have := ho
          unfold okOper at this
          rw [Bool.and_eq_true, Bool.or_eq_true, Bool.not_eq_true'] at this
          exact this.1
        have fin : ∀ {E2 : Env} {v v' : Value} {A2 : AState} {vs : List AState}, DPart W o.dst v v' → (E.put o.dst v).bind (fun E' => runChain P F ops rest E' A2 vs) = some (E1, A1) →
            ∃ E1', (E'.put o.dst v').bind (fun E' => runChain P F ops rest E' A2 vs) = some (E1', A1) ∧ EPart W E1 E1' := by
          intro _ v v' A2 vs hd hb
          obtain ⟨E2, h3, h4⟩ := Option.bind_eq_some_iff.1 hb
          obtain ⟨E2', h7, h8⟩ := h.put hd h3
          obtain ⟨E1', h9, h10⟩ := ih h8 h4
          exact ⟨E1', by rw [h7]; exact h9, h10⟩
        rcases hcase with hrd | hsp
        · have hm := h.same hrd
          split at hr
          · obtain ⟨v, h1, h2⟩ := Option.bind_eq_some_iff.1 hr
            rw [← aPure_same hm, h1]
            exact fin (E2 := E) (.inl rfl) h2
          · obtain ⟨v, h1, h2⟩ := Option.bind_eq_some_iff.1 hr
            rw [← readVers_same hm, h1]
            exact fin (E2 := E) (.inl rfl) h2
          · obtain ⟨⟨v, A2⟩, h1, h2⟩ := Option.bind_eq_some_iff.1 hr
            rw [← aMake_same hm, h1]
            exact fin (E2 := E) (.inl rfl) h2
          · obtain ⟨⟨v, A2⟩, h1, h2⟩ := Option.bind_eq_some_iff.1 hr
            rw [← aWrite_same hm, h1]
            exact fin (E2 := E) (.inl rfl) h2
          · obtain ⟨⟨v, A2⟩, h1, h2⟩ := Option.bind_eq_some_iff.1 hr
            rw [← aCall_same hm, h1]
            exact fin (E2 := E) (.inl rfl) h2
          · cases hr
        · obtain ⟨hk, hp⟩ := hs o hsp
          rw [hk] at hr ⊢
          simp only at hr ⊢
          obtain ⟨v, h1, h2⟩ := Option.bind_eq_some_iff.1 hr
          obtain ⟨v', h5, h6⟩ := hp E E' v h h1
          rw [h5]
          exact fin (E2 := E) h6 h2
      · rename_i hw
        rw [if_neg hw]
        obtain ⟨E2, h3, h4⟩ := Option.bind_eq_some_iff.1 hr
        obtain ⟨E2', h7, h8⟩ := h.put (.inl rfl) h3
        obtain ⟨E1', h9, h10⟩ := ih h8 h4
        exact ⟨E1', by rw [h7]; exact h9, h10⟩

theorem runDraw_part (hs : SpOk P W) {ops : List Oper} (hops : okDraw P W ops = true) {A : AState} {E1 : Env} {A1 : AState} (h : EPart W E E') (hr : runDraw P F ops E A = some (E1, A1)) :
    ∃ E1', runDraw P F ops E' A = some (E1', A1) ∧ EPart W E1 E1' := by
  unfold okDraw at hops
  rw [Bool.and_eq_true, List.isEmpty_iff] at hops
  unfold runDraw at hr ⊢
  split at hr
  · rename_i hp
    rw [if_pos hp]
    obtain ⟨⟨E2, A2⟩, h1, h2⟩ := Option.bind_eq_some_iff.1 hr
    obtain ⟨E2', h3, h4⟩ := runChain_part hs hops.1 h h1
    rw [h3]
    simp only [Option.bind_some] at h2 ⊢
    rw [hops.2] at h2 ⊢
    cases h2
    exact ⟨E2', rfl, h4⟩
  · cases hr

/-- a table of functions of which a loop's code may be run from what parts -/
def LoopPart (P : Program) (W : Parts) (F : Fns) : Prop := ∀ {c : Code} {E E' : Env} {A : AState} {x : AExit} {E1 : Env} {A1 : AState}, okCode P W c = true → EPart W E E' → F.loop c E A = some (x, E1, A1) → ∃ E1', F.loop c E' A = some (x, E1', A1) ∧ EPart W E1 E1'

theorem stepC_part (hs : SpOk P W) (hF : LoopPart P W F) : ∀ {c : Code} {E E' : Env} {A : AState} {x : AExit} {E1 : Env} {A1 : AState}, okCode P W c = true → EPart W E E' → stepC P F c E A = some (x, E1, A1) →
    ∃ E1', stepC P F c E' A = some (x, E1', A1) ∧ EPart W E1 E1' := by
  intro c
  induction c with
  | skip => intro E E' A x E1 A1 _ h hr; cases hr; exact ⟨E', rfl, h⟩
  | label l => intro E E' A x E1 A1 _ h hr; cases hr; exact ⟨E', rfl, h⟩
  | ret => intro E E' A x E1 A1 _ h hr; cases hr; exact ⟨E', rfl, h⟩
  | exit id => intro E E' A x E1 A1 _ h hr; cases hr; exact ⟨E', rfl, h⟩
  | region id ops draw =>
    intro E E' A x E1 A1 hc h hr
    unfold stepC at hr ⊢
    unfold okCode at hc
    cases draw with
    | true =>
      simp only [if_true] at hr hc ⊢
      cases hd : runDraw P F ops.toList E A with
      | none => rw [hd] at hr; cases hr
      | some y =>
        rw [hd] at hr
        cases hr
        obtain ⟨E1', h1, h2⟩ := runDraw_part hs hc h hd
        exact ⟨E1', by rw [h1]; rfl, h2⟩
    | false =>
      simp only [Bool.false_eq_true, if_false] at hr hc ⊢
      cases hd : runOps P F ops.toList ops.toList E A with
      | none => rw [hd] at hr; cases hr
      | some y =>
        rw [hd] at hr
        cases hr
        obtain ⟨E1', h1, h2⟩ := runOps_part hs (List.all_eq_true.1 hc) h hd
        exact ⟨E1', by rw [h1]; rfl, h2⟩
  | seq a b iha ihb =>
    intro E E' A x E1 A1 hc h hr
    unfold okCode at hc
    rw [Bool.and_eq_true] at hc
    unfold stepC at hr ⊢
    obtain ⟨⟨y, E2, A2⟩, h1, h2⟩ := Option.bind_eq_some_iff.1 hr
    obtain ⟨E2', h3, h4⟩ := iha hc.1 h h1
    rw [h3]
    simp only [Option.bind_some]
    cases y with
    | normal => exact ihb hc.2 h4 h2
    | exit id => cases h2; exact ⟨E2', rfl, h4⟩
    | ret => cases h2; exact ⟨E2', rfl, h4⟩
  | cond c a b iha ihb =>
    intro E E' A x E1 A1 hc h hr
    unfold okCode at hc
    rw [Bool.and_eq_true, Bool.and_eq_true, Bool.not_eq_true'] at hc
    obtain ⟨hc1, hc2, hc3⟩ := hc
    have e : E'.eval c = E.eval c := by
      cases c with
      | tmp t =>
        rcases h.get t with e | ⟨e, _⟩
        · exact e.symm
        · change W.D t = false at hc1; rw [e] at hc1; cases hc1
      | _ => rfl
    unfold stepC at hr ⊢
    rw [e]
    split at hr
    · rename_i t ht
      split at hr
      · rename_i hb; rw [if_pos hb]; exact iha hc2 h hr
      · rename_i hb; rw [if_neg hb]; exact ihb hc3 h hr
    · cases hr
  | block id b ih =>
    intro E E' A x E1 A1 hc h hr
    unfold stepC at hr ⊢
    cases hb : stepC P F b E A with
    | none => rw [hb] at hr; cases hr
    | some y =>
      obtain ⟨z, E2, A2⟩ := y
      rw [hb] at hr
      obtain ⟨E2', h1, h2⟩ := ih hc h hb
      rw [h1]
      simp only [Option.map_some, Option.some.injEq] at hr ⊢
      cases z with
      | normal => cases hr; exact ⟨E2', rfl, h2⟩
      | ret => cases hr; exact ⟨E2', rfl, h2⟩
      | exit id' =>
        simp only at hr ⊢
        split at hr
        · rename_i e; rw [if_pos e]; cases hr; exact ⟨E2', rfl, h2⟩
        · rename_i e; rw [if_neg e]; cases hr; exact ⟨E2', rfl, h2⟩
  | loop b _ =>
    intro E E' A x E1 A1 hc h hr
    exact hF hc h hr
  | rangeFunc => intro E E' A x E1 A1 hc; cases hc
  | scope b ih =>
    intro E E' A x E1 A1 hc h hr
    exact ih hc h hr
  | goto l => intro E E' A x E1 A1 hc; cases hc
  | refuse w => intro E E' A x E1 A1 hc; cases hc

theorem loop_part (hs : SpOk P W) (O : Known) : ∀ n, LoopPart P W (runK P O n) := by
  intro n
  induction n with
  | zero => intro c E E' A x E1 A1 _ _ hr; cases hr
  | succ n ih =>
    intro c E E' A x E1 A1 hc h hr
    change (stepC P (runK P O n) c E A).bind _ = _ at hr
    show ∃ E1', (stepC P (runK P O n) c E' A).bind _ = _ ∧ _
    obtain ⟨⟨y, E2, A2⟩, h1, h2⟩ := Option.bind_eq_some_iff.1 hr
    obtain ⟨E2', h3, h4⟩ := stepC_part hs ih hc h h1
    rw [h3]
    simp only [Option.bind_some]
    cases y with
    | normal => exact ih hc h4 h2
    | exit id => cases h2; exact ⟨E2', rfl, h4⟩
    | ret => cases h2; exact ⟨E2', rfl, h4⟩

def resIn (W : Parts) : ResultVar → Bool
  | .tmp t => W.D t
  | .cell a _ => opdIn W (.tmp a)
/-- a function may be called with arguments that part -/
noncomputable def okFn (P : Program) (W : Parts) (f : FuncId) : Bool :=
  match P.funcs[f]? with
  | some fn => match fn.body with
    | some c => okCode P W c && fn.results.toList.all fun r => !(resIn W r)
    | none => false
  | none => false

theorem results_part (h : EPart W E E') {A : AState} : ∀ {rs : List ResultVar}, (∀ r ∈ rs, resIn W r = false) → resultsOf P E' A rs = resultsOf P E A rs := by
  have get : ∀ t, W.D t = false → E'.get t = E.get t := by
    intro t ht
    rcases h.get t with e | ⟨e, _⟩
    · exact e.symm
    · rw [e] at ht; cases ht
  intro rs
  induction rs with
  | nil => intro _; rfl
  | cons r rs ih =>
    intro hr
    have h1 : resultOf P E' A r = resultOf P E A r := by
      have := hr r (by simp)
      cases r with
      | tmp t => show some _ = some _; rw [get t this]
      | cell a t => show aload P A t _ = aload P A t _; rw [get a this]
    show (resultOf P E' A r).bind _ = (resultOf P E A r).bind _
    rw [h1, ih fun r hr' => hr r (by simp [hr'])]

theorem call_part (hs : SpOk P W) {O : Known} {n : Nat} {f : FuncId} (hf : okFn P W f = true) {args args' : List Value} (hl : args.length = args'.length)
    (ha : ∀ t : Nat, VPart W t ((args[t]?).getD undef) ((args'[t]?).getD undef)) (hO : O f args = none) (hO' : O f args' = none) {A : AState} {r : Value × AState} (h : (runK P O n).call f args A = some r) : (runK P O n).call f args' A = some r := by
  cases n with
  | zero => cases h
  | succ n =>
    change (match O f args with | some v => some (v, A) | none => callBody P (runK P O n) f args A) = some r at h
    show (match O f args' with | some v => some (v, A) | none => callBody P (runK P O n) f args' A) = some r
    rw [hO] at h
    rw [hO']
    simp only at h ⊢
    unfold callBody at h ⊢
    unfold okFn at hf
    split at hf
    · rename_i fn hfn
      rw [hfn] at h ⊢
      simp only [Option.bind_some] at h ⊢
      split at h
      · cases h
      · rename_i hname
        rw [if_neg hname]
        split at hf
        · rename_i c hc
          rw [hc] at h ⊢
          rw [Bool.and_eq_true] at hf
          simp only [Option.bind_some] at h ⊢
          obtain ⟨⟨x, E1, A1⟩, h1, h2⟩ := Option.bind_eq_some_iff.1 h
          have hE : EPart W ⟨FT.empty.setL 0 args, args.length + (fn.ntmps - args.length)⟩ ⟨FT.empty.setL 0 args', args'.length + (fn.ntmps - args'.length)⟩ := by
            refine ⟨by show args.length + _ = args'.length + _; rw [hl], fun t => ?_⟩
            have g : ∀ as : List Value, (FT.empty.setL 0 as).get t = (as[t]?).getD undef := by
              intro as
              rw [FT.get_setL, FT.get_empty, Nat.sub_zero, Nat.zero_add]
              split
              · rfl
              · rw [List.getElem?_eq_none (by omega)]; rfl
            show VPart W t ((FT.empty.setL 0 args).get t) ((FT.empty.setL 0 args').get t)
            rw [g, g]
            exact ha t
          obtain ⟨E1', h3, h4⟩ := stepC_part hs (loop_part hs O n) hf.1 hE h1
          rw [h3]
          simp only [Option.bind_some]
          have hr : ∀ q ∈ fn.results.toList, resIn W q = false := fun q hq => by have := List.all_eq_true.1 hf.2 q hq; simpa using this
          cases x with
          | normal => simp only at h2 ⊢; rw [results_part h4 hr]; exact h2
          | ret => simp only at h2 ⊢; rw [results_part h4 hr]; exact h2
          | exit id => cases h2
        · cases hf
    · cases hf
end Go.Ag
namespace Go.Ag
set_option linter.unusedVariables false

/-- of a temporary: its modulus, and a class: 0 any, 1 smaller than the modulus (below 0, too), 2 not below 0 -/
abbrev Desc := List (Nat × Nat × Nat)
def descOf (t : Nat) : Desc → Option (Nat × Nat)
  | [] => none
  | x :: xs => if Nat.beq x.1 t then some x.2 else descOf t xs

def ModQ (md : Desc) (t : Nat) (v v' : Value) : Prop := ∃ (m cl : Nat) (kk : IntKind) (a b : Int), descOf t md = some (m, cl) ∧ v = .int kk a ∧ v' = .int kk b ∧ a % (m : Int) = b % (m : Int) ∧
  (cl = 1 → (-(m : Int) < a ∧ a < m) ∧ (-(m : Int) < b ∧ b < m)) ∧ (cl = 2 → 0 ≤ a ∧ 0 ≤ b)
def opdTmp : Operand → Option Nat
  | .tmp s => some s
  | _ => none
def opdNat : Operand → Option Nat
  | .const (.int _ (.ofNat c)) => some c
  | _ => none
def dstDesc (md : Desc) (o : Oper) : Option (Nat × Nat) := o.dst.bind fun d => descOf d md
def sameDesc : Option (Nat × Nat) → Option (Nat × Nat) → Bool
  | some (a, b), some (c, d) => Nat.beq a c && Nat.beq b d
  | _, _ => false
def modSp (md : Desc) (o : Oper) : Bool :=
  match o.op with
  | .move x => match opdTmp x with
    | some s => sameDesc (descOf s md) (dstDesc md o)
    | none => false
  | .binOp .rem _ x y _ => match opdTmp x, opdNat y with
    | some s, some c => match descOf s md with
      | some (m, cl) => Nat.beq c m && (Nat.blt 0 m && (Nat.beq cl 2 || (Nat.beq cl 0 && sameDesc (some (m, 1)) (dstDesc md o))))
      | none => false
    | _, _ => false
  | .binOp .add _ x y _ => match opdTmp x, opdNat y with
    | some s, some c => match descOf s md with
      | some (m, cl) => Nat.beq c m && (Nat.beq cl 1 && (Nat.ble m 30 && sameDesc (some (m, 2)) (dstDesc md o)))
      | none => false
    | _, _ => false
  | _ => false
def modParts (md : Desc) : Parts := ⟨fun t => (descOf t md).isSome, ModQ md, modSp md⟩

theorem opdTmp_some {x : Operand} {s : Nat} (h : opdTmp x = some s) : x = .tmp s := by
  cases x <;> first | (cases h; rfl) | cases h
theorem opdNat_some {x : Operand} {c : Nat} (h : opdNat x = some c) : ∃ kk, x = .const (.int kk (.ofNat c)) := by
  unfold opdNat at h
  split at h
  · cases h; exact ⟨_, rfl⟩
  · cases h
theorem sameDesc_eq {x y : Option (Nat × Nat)} (h : sameDesc x y = true) : ∃ p, x = some p ∧ y = some p := by
  unfold sameDesc at h
  split at h
  · rename_i a b c d
    rw [Bool.and_eq_true] at h
    obtain rfl := Nat.eq_of_beq_eq_true h.1
    obtain rfl := Nat.eq_of_beq_eq_true h.2
    exact ⟨_, rfl, rfl⟩
  · cases h
theorem dstDesc_some {md : Desc} {o : Oper} {p : Nat × Nat} (h : dstDesc md o = some p) : ∃ d, o.dst = some d ∧ descOf d md = some p := by
  unfold dstDesc at h
  exact Option.bind_eq_some_iff.1 h

theorem tmod_pos_eq {a b m : Int} (hm : 0 < m) (ha : 0 ≤ a) (hb : 0 ≤ b) (h : a % m = b % m) : a.tmod m = b.tmod m := by
  rw [Int.tmod_eq_emod_of_nonneg ha, Int.tmod_eq_emod_of_nonneg hb, h]
theorem tmod_emod (a m : Int) : a.tmod m % m = a % m := by
  have h : a = m * (a.tdiv m) + a.tmod m := (Int.mul_tdiv_add_tmod a m).symm
  conv => rhs; rw [h]
  rw [Int.add_comm, Int.add_mul_emod_self_left]
theorem tmod_small {a m : Int} (hm : 0 < m) : -m < a.tmod m ∧ a.tmod m < m := by
  refine ⟨?_, Int.tmod_lt_of_pos a hm⟩
  have h1 := Int.tmod_lt_of_pos (-a) hm
  rw [Int.neg_tmod] at h1
  omega

theorem modSp_ok (P : Program) (md : Desc) : SpOk P (modParts md) := by
  intro o ho
  change modSp md o = true at ho
  unfold modSp at ho
  split at ho
  · rename_i x hop
    split at ho
    · rename_i s hs
      obtain rfl := opdTmp_some hs
      refine ⟨by unfold kindOf; rw [hop], fun E E' v hE hv => ?_⟩
      unfold aPure at hv ⊢
      rw [hop] at hv ⊢
      simp only at hv ⊢
      cases hv
      refine ⟨E'.get s, rfl, ?_⟩
      rcases hE.get s with e | ⟨_, e⟩
      · exact .inl e
      · obtain ⟨p, h1, h2⟩ := sameDesc_eq ho
        obtain ⟨d, h3, h4⟩ := dstDesc_some h2
        obtain ⟨m, cl, kk, a, b, q1, q2, q3, q4, q5, q6⟩ := e
        rw [h1] at q1
        cases q1
        exact .inr ⟨d, h3, by show (descOf d md).isSome = true; rw [h4]; rfl, m, cl, kk, a, b, h4, q2, q3, q4, q5, q6⟩
    · cases ho
  · rename_i t x y rt hop
    split at ho
    · rename_i s c hs hc
      obtain rfl := opdTmp_some hs
      obtain ⟨k2, rfl⟩ := opdNat_some hc
      split at ho
      · rename_i m cl hd
        simp only [Bool.and_eq_true, Bool.or_eq_true] at ho
        obtain ⟨ho1, ho2, ho3⟩ := ho
        obtain rfl := Nat.eq_of_beq_eq_true ho1
        have hm0 : 0 < c := Nat.blt_eq.mp ho2
        have hm : (0 : Int) < (c : Int) := by omega
        refine ⟨by unfold kindOf; rw [hop], fun E E' v hE hv => ?_⟩
        unfold aPure at hv ⊢
        rw [hop] at hv ⊢
        change abin P .rem t (.tmp s) (.const (.int k2 (.ofNat c))) (E.get s) (.int k2 (.ofNat c)) = some v at hv
        show ∃ v', abin P .rem t (.tmp s) (.const (.int k2 (.ofNat c))) (E'.get s) (.int k2 (.ofNat c)) = some v' ∧ _
        rcases hE.get s with e | ⟨_, e⟩
        · rw [← e]; exact ⟨v, hv, .inl rfl⟩
        · obtain ⟨m', cl', kk, a, b, q1, q2, q3, q4, q5, q6⟩ := e
          rw [hd] at q1
          cases q1
          rw [q2] at hv
          rw [q3]
          change pureRun (binOp .rem t (.int kk a) (.int k2 (.ofNat c))) = some v at hv
          show ∃ v', pureRun (binOp .rem t (.int kk b) (.int k2 (.ofNat c))) = some v' ∧ _
          have hc0 : ¬ (Int.ofNat c = 0) := by
            have : (Int.ofNat c) = (c : Int) := rfl
            omega
          by_cases hk : kk = k2
          · subst hk
            simp only [binOp, Op.intDiv, ne_eq, not_true_eq_false, if_false, if_neg hc0] at hv ⊢
            change some (Value.int kk (a.tmod c)) = some v at hv
            cases hv
            refine ⟨.int kk (b.tmod c), rfl, ?_⟩
            rcases ho3 with h2 | ⟨h0, h1⟩
            · obtain ⟨ha, hb⟩ := q6 (Nat.eq_of_beq_eq_true h2)
              rw [tmod_pos_eq hm ha hb q4]
              exact .inl rfl
            · obtain ⟨p, e1, e2⟩ := sameDesc_eq h1
              cases e1
              obtain ⟨d, h3, h4⟩ := dstDesc_some e2
              refine .inr ⟨d, h3, by show (descOf d md).isSome = true; rw [h4]; rfl, c, 1, kk, _, _, h4, rfl, rfl, ?_, fun _ => ⟨tmod_small hm, tmod_small hm⟩, fun h => by cases h⟩
              rw [tmod_emod, tmod_emod, q4]
          · simp only [binOp, ne_eq, hk, not_false_eq_true, if_true] at hv
            cases hv
      · cases ho
    · cases ho
  · rename_i t x y rt hop
    split at ho
    · rename_i s c hs hc
      obtain rfl := opdTmp_some hs
      obtain ⟨k2, rfl⟩ := opdNat_some hc
      split at ho
      · rename_i m cl hd
        simp only [Bool.and_eq_true] at ho
        obtain ⟨ho1, ho2, ho3, ho4⟩ := ho
        obtain rfl := Nat.eq_of_beq_eq_true ho1
        obtain rfl := Nat.eq_of_beq_eq_true ho2
        have hm30 : c ≤ 30 := Nat.le_of_ble_eq_true ho3
        obtain ⟨p, e1, e2⟩ := sameDesc_eq ho4
        cases e1
        obtain ⟨d, h3, h4⟩ := dstDesc_some e2
        refine ⟨by unfold kindOf; rw [hop], fun E E' v hE hv => ?_⟩
        unfold aPure at hv ⊢
        rw [hop] at hv ⊢
        change abin P .add t (.tmp s) (.const (.int k2 (.ofNat c))) (E.get s) (.int k2 (.ofNat c)) = some v at hv
        show ∃ v', abin P .add t (.tmp s) (.const (.int k2 (.ofNat c))) (E'.get s) (.int k2 (.ofNat c)) = some v' ∧ _
        rcases hE.get s with e | ⟨_, e⟩
        · rw [← e]; exact ⟨v, hv, .inl rfl⟩
        · obtain ⟨m', cl', kk, a, b, q1, q2, q3, q4, q5, q6⟩ := e
          rw [hd] at q1
          cases q1
          rw [q2] at hv
          rw [q3]
          change pureRun (binOp .add t (.int kk a) (.int k2 (.ofNat c))) = some v at hv
          show ∃ v', pureRun (binOp .add t (.int kk b) (.int k2 (.ofNat c))) = some v' ∧ _
          obtain ⟨⟨ha1, ha2⟩, hb1, hb2⟩ := q5 rfl
          by_cases hk : kk = k2
          · subst hk
            simp only [binOp, Op.intArith, ne_eq, not_true_eq_false, if_false] at hv ⊢
            change some (Value.int kk (kk.wrap (a + c))) = some v at hv
            cases hv
            refine ⟨.int kk (kk.wrap (b + c)), rfl, ?_⟩
            have hw : ∀ x : Int, -(c : Int) < x → x < c → kk.wrap (x + c) = x + c := by
              intro x h1 h2
              obtain ⟨q, hq⟩ : ∃ q : Nat, x + c = Int.ofNat q := ⟨(x + c).toNat, by show x + c = ((x + c).toNat : Int); omega⟩
              rw [hq]
              refine wrap_small ?_
              have : q ≤ 60 := by have : (Int.ofNat q) = (q : Int) := rfl; omega
              cases kk <;> simp only [lim] <;> omega
            refine .inr ⟨d, h3, by show (descOf d md).isSome = true; rw [h4]; rfl, c, 2, kk, _, _, h4, rfl, rfl, ?_, (fun h => by cases h), fun _ => ?_⟩
            · rw [hw a ha1 ha2, hw b hb1 hb2]
              rw [Int.add_emod_right, Int.add_emod_right, q4]
            · rw [hw a ha1 ha2, hw b hb1 hb2]; omega
          · simp only [binOp, ne_eq, hk, not_false_eq_true, if_true] at hv
            cases hv
      · cases ho
    · cases ho
  · cases ho

/-- a law of numbers of which only remainders are asked holds, if it does at some numbers with these remainders -/
theorem quick_part {P : Program} {tab : PlanTab} (hmix : P.follows .mixedOrders = true) (ht : TabsOk P tab) {gl : AnsTab} (hg : AnsOk P gl) {pl : List FuncId} {m0 m : Nat} {f : FuncId} {args args' : List Value} {W : Parts} (hs : SpOk P W)
    (h : tellsTrue ((fnG P tab f).f (Km P tab gl pl m0 m) args ⟨.nil, P.globals.size⟩) = true) (hi : isIn f pl = false) (ha : ansOf f gl = none) (hf : okFn P W f = true) (hl : args.length = args'.length)
    (hv : ∀ t : Nat, VPart W t ((args[t]?).getD undef) ((args'[t]?).getD undef)) (hp : args'.all plainV = true) : Knows P f args' (.bool true) := by
  obtain ⟨A', e⟩ := tellsTrue_some h
  have hO : ∀ as, memoO P tab gl pl m0 f as = none := fun as => by unfold memoO; rw [hi, ha]; cases as <;> rfl
  have h1 : (runK P (memoO P tab gl pl m0) (m + 1)).call f args ⟨.nil, P.globals.size⟩ = some (.bool true, A') := by
    show (match memoO P tab gl pl m0 f args with | some v => some (v, _) | none => callBody P (runK P (memoO P tab gl pl m0) m) f args _) = _
    rw [hO]
    exact fnG_some ht (Km_ok ht gl pl m0 m) e
  exact knows hmix (memo_known hmix ht hg pl m0) (call_part hs hf hl hv (hO _) (hO _) h1) hp rfl
end Go.Ag
namespace Go.Ag
theorem vpart_nat {md : Desc} {t m : Nat} {kk : IntKind} {a : Int} (h : descOf t md = some (m, 2)) (h0 : 0 ≤ a) : VPart (modParts md) t (.int kk (.ofNat (a.toNat % m))) (.int kk a) := by
  refine .inr ⟨by show (descOf t md).isSome = true; rw [h]; rfl, m, 2, kk, _, _, h, rfl, rfl, ?_, (fun h => by cases h), fun _ => ⟨Int.natCast_nonneg _, h0⟩⟩
  show ((a.toNat % m : Nat) : Int) % (m : Int) = _
  obtain ⟨n, rfl⟩ := Int.eq_ofNat_of_zero_le h0
  simp
theorem vpart_int {md : Desc} {t m : Nat} {kk : IntKind} {a : Int} (h : descOf t md = some (m, 0)) (hm : 0 < m) : VPart (modParts md) t (.int kk (.ofNat (a % (m : Int)).toNat)) (.int kk a) := by
  have h0 : 0 ≤ a % (m : Int) := Int.emod_nonneg _ (by omega)
  refine .inr ⟨by show (descOf t md).isSome = true; rw [h]; rfl, m, 0, kk, _, _, h, rfl, rfl, ?_, (fun h => by cases h), (fun h => by cases h)⟩
  show (((a % (m : Int)).toNat : Nat) : Int) % (m : Int) = _
  rw [Int.toNat_of_nonneg h0, Int.emod_emod_of_dvd _ (Int.dvd_refl _)]
end Go.Ag
