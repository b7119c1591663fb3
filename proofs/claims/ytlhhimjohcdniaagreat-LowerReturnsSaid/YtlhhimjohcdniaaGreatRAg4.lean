/-
  An abstract machine for Go functions, run by few steps; numbers of which only a remainder is asked. Nothing is asked.
-/
import Derived.Test.YtlhhimjohcdniaaGreatRAg3
set_option linter.all false
namespace Go.Ag
set_option linter.unusedVariables false
set_option linter.unusedSimpArgs false

section congr
variable {P : Program} {ρ ρ' : Operand → Value} {o : Oper} {A : AState} {F : Fns}
def Same (ρ ρ' : Operand → Value) (o : Oper) : Prop := ∀ x ∈ o.op.operands.toList, ρ x = ρ' x

theorem map_same {xs : List Operand} (h : ∀ x ∈ xs, ρ x = ρ' x) : xs.map ρ = xs.map ρ' := List.map_congr_left h
theorem parts_same {ps : List (Nat × Operand)} (h : ∀ x ∈ ps.map (·.2), ρ x = ρ' x) : (ps.map fun (i, x) => (i, ρ x)) = ps.map fun (i, x) => (i, ρ' x) := by
  refine List.map_congr_left fun p hp => ?_
  obtain ⟨i, x⟩ := p
  show (i, ρ x) = (i, ρ' x)
  rw [h x (List.mem_map.2 ⟨(i, x), hp, rfl⟩)]
theorem opt_same {x : Option Operand} (h : ∀ y ∈ x.toList, ρ y = ρ' y) : x.map ρ = x.map ρ' := by
  cases x with
  | none => rfl
  | some y => show some _ = some _; rw [h y (by simp)]

theorem call_same {c : Call} (h : ∀ x ∈ c.operands.toList, ρ x = ρ' x) : (∀ x ∈ c.args.toList, ρ x = ρ' x) ∧ (∀ f, c.callee = .value f → ρ f = ρ' f) := by
  refine ⟨fun x hx => h x ?_, fun f hf => h f ?_⟩
  · unfold Call.operands; cases c.callee <;> simp at hx ⊢ <;> first | exact hx | exact .inr hx
  · unfold Call.operands; rw [hf]; simp

theorem aPure_same (h : Same ρ ρ' o) : aPure P ρ o = aPure P ρ' o := by
  obtain ⟨dst, op, ty, pos, after, guard⟩ := o
  unfold Same at h
  unfold aPure
  cases op <;> simp only [Op.operands] at h ⊢ <;> try rfl
  case move x => rw [h x (by simp)]
  case assign x => rw [h x (by simp)]
  case pick c a b => rw [h c (by simp), h a (by simp), h b (by simp)]
  case build t ps => rw [parts_same (by simpa using h)]
  case nilCheck x => rw [h x (by simp)]
  case binOp op t x y _ => rw [h x (by simp), h y (by simp)]
  case unOp op t x => rw [h x (by simp)]
  case convert s d x => rw [h x (by simp)]
  case makeInterface t x => rw [h x (by simp)]
  case makeFunc fn first captured =>
    simp only [Array.toList_append, List.mem_append] at h
    cases fn <;> simp only
    rw [map_same fun x hx => h x (.inl hx), map_same fun x hx => h x (.inr hx)]
  case fieldAddr t x f => rw [h x (by simp)]
  case field t x f => rw [h x (by simp)]
  case indexAddr t x i => rw [h x (by simp), h i (by simp)]
  case index t x i => rw [h x (by simp), h i (by simp)]
  case extract x i => rw [h x (by simp)]
  case typeAssert x a b c => cases c <;> simp only; rw [h x (by simp)]
  case call c =>
    obtain ⟨callee, args, ats⟩ := c
    have hs := (call_same h).1
    cases callee with
    | builtin b =>
      cases b with
      | max => show aminmax true (args.toList.map ρ) = aminmax true (args.toList.map ρ'); rw [map_same hs]
      | min => show aminmax false (args.toList.map ρ) = aminmax false (args.toList.map ρ'); rw [map_same hs]
      | _ => rfl
    | _ => rfl

theorem aRead_same (h : Same ρ ρ' o) : aRead P ρ o A = aRead P ρ' o A := by
  obtain ⟨dst, op, ty, pos, after, guard⟩ := o
  unfold Same at h
  unfold aRead
  cases op <;> simp only [Op.operands] at h ⊢ <;> try rfl
  case load t x => rw [h x (by simp)]
  case convert s d x => rw [h x (by simp)]
  case lookup t x k ok => rw [h x (by simp), h k (by simp)]
  case slice t x l hi m =>
    simp only [Array.toList_append, List.mem_append] at h
    rw [h x (.inl (.inl (.inl (by simp)))), opt_same fun y hy => h y (.inl (.inl (.inr (by simpa using hy)))), opt_same fun y hy => h y (.inl (.inr (by simpa using hy))), opt_same fun y hy => h y (.inr (by simpa using hy))]
  case call c =>
    obtain ⟨callee, args, ats⟩ := c
    have hs := (call_same h).1
    cases callee with
    | builtin b =>
      cases b with
      | len =>
        show (match args.toList, ats.toList with | [x], t :: _ => alen P A t (ρ x) | _, _ => none) = (match args.toList, ats.toList with | [x], t :: _ => alen P A t (ρ' x) | _, _ => none)
        simp only at hs
        split
        · rename_i x t ts hx ht
          rw [hx] at hs
          rw [hs x (by simp)]
        · rfl
      | _ => rfl
    | _ => rfl

theorem aMake_same (h : Same ρ ρ' o) : aMake P ρ o A = aMake P ρ' o A := by
  obtain ⟨dst, op, ty, pos, after, guard⟩ := o
  unfold Same at h
  unfold aMake
  cases op <;> simp only [Op.operands] at h ⊢ <;> try rfl
  case box t x => rw [h x (by simp)]
  case buildSlice t n ps => rw [parts_same (by simpa using h)]
  case makeSlice t l c => rw [h l (by simp), h c (by simp)]
  case makeMap t r => rw [opt_same (by simpa using h)]
  case range t x => rw [h x (by simp)]
  case convert s d x => rw [h x (by simp)]

theorem aWrite_same (h : Same ρ ρ' o) : aWrite P ρ o A = aWrite P ρ' o A := by
  obtain ⟨dst, op, ty, pos, after, guard⟩ := o
  unfold Same at h
  unfold aWrite
  cases op <;> simp only [Op.operands] at h ⊢ <;> try rfl
  case store t p x => rw [h p (by simp), h x (by simp)]
  case mapUpdate t m k x => rw [h m (by simp), h k (by simp), h x (by simp)]
  case insert t m k x => rw [h m (by simp), h k (by simp), h x (by simp)]
  case next x b => rw [h x (by simp)]
  case call c =>
    obtain ⟨callee, args, ats⟩ := c
    have hs := (call_same h).1
    cases callee with
    | builtin b =>
      cases b with
      | append => show aappend P A ats.toList (args.toList.map ρ) = aappend P A ats.toList (args.toList.map ρ'); rw [map_same hs]
      | copy => show acopy P A ats.toList (args.toList.map ρ) = acopy P A ats.toList (args.toList.map ρ'); rw [map_same hs]
      | clear => show aclear P A ats.toList (args.toList.map ρ) = aclear P A ats.toList (args.toList.map ρ'); rw [map_same hs]
      | _ => rfl
    | _ => rfl

theorem aCall_same (h : Same ρ ρ' o) : aCall F ρ o A = aCall F ρ' o A := by
  obtain ⟨dst, op, ty, pos, after, guard⟩ := o
  unfold Same at h
  unfold aCall
  cases op <;> simp only [Op.operands] at h ⊢ <;> try rfl
  case call c =>
    obtain ⟨callee, args, ats⟩ := c
    obtain ⟨h1, h2⟩ := call_same h
    cases callee with
    | value f => show callV F (ρ f) (args.toList.map ρ) A = callV F (ρ' f) (args.toList.map ρ') A; rw [map_same h1, h2 f rfl]
    | _ => rfl
end congr
end Go.Ag
namespace Go.Ag
set_option linter.unusedVariables false

/-- which temporaries may part, and how; which operations may look at them -/
structure Parts where
  D : Nat → Bool
  Q : Nat → Value → Value → Prop
  sp : Oper → Bool

variable (P : Program) (W : Parts)

def VPart (t : Nat) (v v' : Value) : Prop := v = v' ∨ (W.D t = true ∧ W.Q t v v')
structure EPart (E E' : Env) : Prop where
  n : E.n = E'.n
  get : ∀ t, VPart W t (E.get t) (E'.get t)
def opdIn : Operand → Bool
  | .tmp t => W.D t
  | _ => false
def readsD (o : Oper) : Bool := o.op.operands.toList.any (opdIn W)
def DPart (d : Option Tmp) (v v' : Value) : Prop := v = v' ∨ ∃ t, d = some t ∧ W.D t = true ∧ W.Q t v v'
/-- of the operations that look at what parts: what they tell parts likewise -/
def SpOk : Prop := ∀ o, W.sp o = true → kindOf P o = .pure ∧ ∀ (E E' : Env) v, EPart W E E' → aPure P E.eval o = some v → ∃ v', aPure P E'.eval o = some v' ∧ DPart W o.dst v v'
def okOper (ops : List Oper) (o : Oper) : Bool := (!(readsD W o) || W.sp o) && (match o.guard with | none => true | some (j, _) => match (ops[j]?).bind (·.dst) with | some t => !(W.D t) | none => true)
def okReg (ops : List Oper) : Bool := ops.all (okOper W ops)
/-- a region that draws its order, without last stores -/
def okDraw (ops : List Oper) : Bool := okReg W ops && (planOf P ops).last.isEmpty
noncomputable def okCode : Code → Bool
  | .skip => true
  | .label _ => true
  | .ret => true
  | .exit _ => true
  | .region _ ops draw => if draw then okDraw P W ops.toList else okReg W ops.toList
  | .seq a b => okCode a && okCode b
  | .cond c a b => !(opdIn W c) && (okCode a && okCode b)
  | .block _ b => okCode b
  | .scope b => okCode b
  | .loop b => okCode b
  | _ => false

variable {P W} {E E' : Env}
theorem EPart.same (h : EPart W E E') {o : Oper} (hr : readsD W o = false) : Same E.eval E'.eval o := by
  intro x hx
  have hno : opdIn W x = false := by
    unfold readsD at hr
    rw [List.any_eq_false] at hr
    simpa using hr x hx
  cases x with
  | tmp t =>
    rcases h.get t with e | ⟨e, _⟩
    · exact e
    · change W.D t = false at hno; rw [e] at hno; cases hno
  | _ => rfl
theorem EPart.put (h : EPart W E E') {d : Option Tmp} {v v' : Value} (hv : DPart W d v v') {E1 : Env} (hp : E.put d v = some E1) : ∃ E1', E'.put d v' = some E1' ∧ EPart W E1 E1' := by
  cases d with
  | none => cases hp; exact ⟨E', rfl, h⟩
  | some d =>
    obtain ⟨hd, rfl⟩ := Env.put_some hp
    have hd' : Nat.blt d E'.n = true := by rw [← h.n]; exact Nat.blt_eq.mpr hd
    have hp' : E'.put (some d) v' = some ⟨E'.t.set v' d, E'.n⟩ := by
      show (if Nat.blt d E'.n then _ else _) = _
      rw [if_pos hd']
    refine ⟨_, hp', h.n, fun t => ?_⟩
    rw [Env.get_put hp, Env.get_put hp']
    by_cases e : d = t
    · rw [if_pos e, if_pos e]
      subst e
      rcases hv with hv | ⟨t, ht, h1, h2⟩
      · exact .inl hv
      · cases ht; exact .inr ⟨h1, h2⟩
    · rw [if_neg e, if_neg e]; exact h.get t
theorem EPart.wanted (h : EPart W E E') {ops : List Oper} {o : Oper} (ho : okOper W ops o = true) : wantedA ops E' o = wantedA ops E o := by
  unfold okOper at ho
  rw [Bool.and_eq_true] at ho
  obtain ⟨_, h2⟩ := ho
  unfold wantedA Region.wanted
  cases hg : o.guard with
  | none => rfl
  | some g =>
    obtain ⟨j, want⟩ := g
    rw [hg] at h2
    simp only at h2 ⊢
    unfold yieldedA
    cases hd : (ops[j]?).bind (·.dst) with
    | none => rfl
    | some t =>
      rw [hd] at h2
      simp only at h2 ⊢
      rcases h.get t with e | ⟨e, _⟩
      · rw [e]
      · rw [e] at h2; cases h2

variable {F : Fns}
theorem runOp_part (hs : SpOk P W) (h : EPart W E E') {ops : List Oper} {o : Oper} (ho : okOper W ops o = true) {A A' : AState} {v : Value} (hr : runOp P F E o A = some (v, A')) :
    ∃ v', runOp P F E' o A = some (v', A') ∧ DPart W o.dst v v' := by
  unfold okOper at ho
  rw [Bool.and_eq_true, Bool.or_eq_true, Bool.not_eq_true'] at ho
  rcases ho.1 with h1 | h1
  · have hm := h.same h1
    refine ⟨v, ?_, .inl rfl⟩
    rw [← hr]
    unfold runOp
    rw [aPure_same hm, aRead_same hm, aMake_same hm, aWrite_same hm, aCall_same hm]
  · obtain ⟨hk, hp⟩ := hs o h1
    unfold runOp at hr ⊢
    rw [hk] at hr ⊢
    simp only at hr ⊢
    cases hv : aPure P E.eval o with
    | none => rw [hv] at hr; cases hr
    | some w =>
      rw [hv] at hr
      cases hr
      obtain ⟨v', h2, h3⟩ := hp E E' _ h hv
      exact ⟨v', by rw [h2]; rfl, h3⟩

theorem runOps_part (hs : SpOk P W) {ops : List Oper} : ∀ {l : List Oper} {E E' : Env} {A : AState} {E1 : Env} {A1 : AState}, (∀ o ∈ l, okOper W ops o = true) → EPart W E E' → runOps P F ops l E A = some (E1, A1) →
    ∃ E1', runOps P F ops l E' A = some (E1', A1) ∧ EPart W E1 E1' := by
  intro l
  induction l with
  | nil => intro E E' A E1 A1 _ h hr; cases hr; exact ⟨E', rfl, h⟩
  | cons o rest ih =>
    intro E E' A E1 A1 hl h hr
    have ho := hl o (by simp)
    unfold runOps at hr ⊢
    rw [h.wanted ho]
    split at hr
    · rename_i hw
      rw [if_pos hw]
      split at hr
      · rename_i hok
        rw [if_pos hok]
        obtain ⟨⟨v, A2⟩, h1, h2⟩ := Option.bind_eq_some_iff.1 hr
        obtain ⟨E2, h3, h4⟩ := Option.bind_eq_some_iff.1 h2
        obtain ⟨v', h5, h6⟩ := runOp_part hs h ho h1
        obtain ⟨E2', h7, h8⟩ := h.put h6 h3
        obtain ⟨E1', h9, h10⟩ := ih (fun o ho => hl o (by simp [ho])) h8 h4
        refine ⟨E1', ?_, h10⟩
        rw [h5]
        simp only [Option.bind_some]
        rw [h7]
        exact h9
      · cases hr
    · rename_i hw
      rw [if_neg hw]
      obtain ⟨E2, h3, h4⟩ := Option.bind_eq_some_iff.1 hr
      obtain ⟨E2', h7, h8⟩ := h.put (.inl rfl) h3
      obtain ⟨E1', h9, h10⟩ := ih (fun o ho => hl o (by simp [ho])) h8 h4
      refine ⟨E1', ?_, h10⟩
      rw [h7]
      exact h9

theorem readVers_same {ρ ρ' : Operand → Value} {o : Oper} (h : Same ρ ρ' o) : ∀ As, readVers P ρ o As = readVers P ρ' o As := by
  intro As
  induction As with
  | nil => rfl
  | cons A As ih =>
    cases As with
    | nil => exact aRead_same h
    | cons B Bs => show (aRead P ρ o A).bind _ = (aRead P ρ' o A).bind _; rw [aRead_same h, ih]

theorem runChain_part (hs : SpOk P W) {ops : List Oper} (hops : okReg W ops = true) : ∀ {ch : List (Nat × Nat)} {E E' : Env} {A : AState} {vers : List AState} {E1 : Env} {A1 : AState}, EPart W E E' → runChain P F ops ch E A vers = some (E1, A1) →
    ∃ E1', runChain P F ops ch E' A vers = some (E1', A1) ∧ EPart W E1 E1' := by
  intro ch
  induction ch with
  | nil => intro E E' A vers E1 A1 h hr; cases hr; exact ⟨E', rfl, h⟩
  | cons x rest ih =>
    intro E E' A vers E1 A1 h hr
    obtain ⟨i, a⟩ := x
    unfold runChain at hr ⊢
    cases hoi : ops[i]? with
    | none => rw [hoi] at hr; cases hr
    | some o =>
      rw [hoi] at hr
      simp only [Option.bind_some] at hr ⊢
      have ho : okOper W ops o = true := List.all_eq_true.1 hops o (List.mem_of_getElem? hoi)
      rw [h.wanted ho]
      split at hr
      · rename_i hw
        rw [if_pos hw]
        have hcase : readsD W o = false ∨ W.sp o = true := by
          have := ho
          unfold okOper at this
          rw [Bool.and_eq_true, Bool.or_eq_true, Bool.not_eq_true'] at this
          exact this.1
        have fin : ∀ {E2 : Env} {v v' : Value} {A2 : AState} {vs : List AState}, DPart W o.dst v v' → (E.put o.dst v).bind (fun E' => runChain P F ops rest E' A2 vs) = some (E1, A1) →
            ∃ E1', (E'.put o.dst v').bind (fun E' => runChain P F ops rest E' A2 vs) = some (E1', A1) ∧ EPart W E1 E1' := by
          intro _ v v' A2 vs hd hb
          obtain ⟨E2, h3, h4⟩ := Option.bind_eq_some_iff.1 hb
          obtain ⟨E2', h7, h8⟩ := h.put hd h3
          obtain ⟨E1', h9, h10⟩ := ih h8 h4
          exact ⟨E1', by rw [h7]; exact h9, h10⟩
        rcases hcase with hrd | hsp
        · have hm := h.same hrd
          split at hr
          · obtain ⟨v, h1, h2⟩ := Option.bind_eq_some_iff.1 hr
            rw [← aPure_same hm, h1]
            exact fin (E2 := E) (.inl rfl) h2
          · obtain ⟨v, h1, h2⟩ := Option.bind_eq_some_iff.1 hr
            rw [← readVers_same hm, h1]
            exact fin (E2 := E) (.inl rfl) h2
          · obtain ⟨⟨v, A2⟩, h1, h2⟩ := Option.bind_eq_some_iff.1 hr
            rw [← aMake_same hm, h1]
            exact fin (E2 := E) (.inl rfl) h2
          · obtain ⟨⟨v, A2⟩, h1, h2⟩ := Option.bind_eq_some_iff.1 hr
            rw [← aWrite_same hm, h1]
            exact fin (E2 := E) (.inl rfl) h2
          · obtain ⟨⟨v, A2⟩, h1, h2⟩ := Option.bind_eq_some_iff.1 hr
            rw [← aCall_same hm, h1]
            exact fin (E2 := E) (.inl rfl) h2
          · cases hr
        · obtain ⟨hk, hp⟩ := hs o hsp
          rw [hk] at hr ⊢
          simp only at hr ⊢
          obtain ⟨v, h1, h2⟩ := Option.bind_eq_some_iff.1 hr
          obtain ⟨v', h5, h6⟩ := hp E E' v h h1
          rw [h5]
          exact fin (E2 := E) h6 h2
      · rename_i hw
        rw [if_neg hw]
        obtain ⟨E2, h3, h4⟩ := Option.bind_eq_some_iff.1 hr
        obtain ⟨E2', h7, h8⟩ := h.put (.inl rfl) h3
        obtain ⟨E1', h9, h10⟩ := ih h8 h4
        exact ⟨E1', by rw [h7]; exact h9, h10⟩

theorem runDraw_part (hs : SpOk P W) {ops : List Oper} (hops : okDraw P W ops = true) {A : AState} {E1 : Env} {A1 : AState} (h : EPart W E E') (hr : runDraw P F ops E A = some (E1, A1)) :
    ∃ E1', runDraw P F ops E' A = some (E1', A1) ∧ EPart W E1 E1' := by
  unfold okDraw at hops
  rw [Bool.and_eq_true, List.isEmpty_iff] at hops
  unfold runDraw at hr ⊢
  split at hr
  · rename_i hp
    rw [if_pos hp]
    obtain ⟨⟨E2, A2⟩, h1, h2⟩ := Option.bind_eq_some_iff.1 hr
    obtain ⟨E2', h3, h4⟩ := runChain_part hs hops.1 h h1
    rw [h3]
    simp only [Option.bind_some] at h2 ⊢
    rw [hops.2] at h2 ⊢
    cases h2
    exact ⟨E2', rfl, h4⟩
  · cases hr

/-- a table of functions of which a loop's code may be run from what parts -/
def LoopPart (P : Program) (W : Parts) (F : Fns) : Prop := ∀ {c : Code} {E E' : Env} {A : AState} {x : AExit} {E1 : Env} {A1 : AState}, okCode P W c = true → EPart W E E' → F.loop c E A = some (x, E1, A1) → ∃ E1', F.loop c E' A = some (x, E1', A1) ∧ EPart W E1 E1'

theorem stepC_part (hs : SpOk P W) (hF : LoopPart P W F) : ∀ {c : Code} {E E' : Env} {A : AState} {x : AExit} {E1 : Env} {A1 : AState}, okCode P W c = true → EPart W E E' → stepC P F c E A = some (x, E1, A1) →
    ∃ E1', stepC P F c E' A = some (x, E1', A1) ∧ EPart W E1 E1' := by
  intro c
  induction c with
  | skip => intro E E' A x E1 A1 _ h hr; cases hr; exact ⟨E', rfl, h⟩
  | label l => intro E E' A x E1 A1 _ h hr; cases hr; exact ⟨E', rfl, h⟩
  | ret => intro E E' A x E1 A1 _ h hr; cases hr; exact ⟨E', rfl, h⟩
  | exit id => intro E E' A x E1 A1 _ h hr; cases hr; exact ⟨E', rfl, h⟩
  | region id ops draw =>
    intro E E' A x E1 A1 hc h hr
    unfold stepC at hr ⊢
    unfold okCode at hc
    cases draw with
    | true =>
      simp only [if_true] at hr hc ⊢
      cases hd : runDraw P F ops.toList E A with
      | none => rw [hd] at hr; cases hr
      | some y =>
        rw [hd] at hr
        cases hr
        obtain ⟨E1', h1, h2⟩ := runDraw_part hs hc h hd
        exact ⟨E1', by rw [h1]; rfl, h2⟩
    | false =>
      simp only [Bool.false_eq_true, if_false] at hr hc ⊢
      cases hd : runOps P F ops.toList ops.toList E A with
      | none => rw [hd] at hr; cases hr
      | some y =>
        rw [hd] at hr
        cases hr
        obtain ⟨E1', h1, h2⟩ := runOps_part hs (List.all_eq_true.1 hc) h hd
        exact ⟨E1', by rw [h1]; rfl, h2⟩
  | seq a b iha ihb =>
    intro E E' A x E1 A1 hc h hr
    unfold okCode at hc
    rw [Bool.and_eq_true] at hc
    unfold stepC at hr ⊢
    obtain ⟨⟨y, E2, A2⟩, h1, h2⟩ := Option.bind_eq_some_iff.1 hr
    obtain ⟨E2', h3, h4⟩ := iha hc.1 h h1
    rw [h3]
    simp only [Option.bind_some]
    cases y with
    | normal => exact ihb hc.2 h4 h2
    | exit id => cases h2; exact ⟨E2', rfl, h4⟩
    | ret => cases h2; exact ⟨E2', rfl, h4⟩
  | cond c a b iha ihb =>
    intro E E' A x E1 A1 hc h hr
    unfold okCode at hc
    rw [Bool.and_eq_true, Bool.and_eq_true, Bool.not_eq_true'] at hc
    obtain ⟨hc1, hc2, hc3⟩ := hc
    have e : E'.eval c = E.eval c := by
      cases c with
      | tmp t =>
        rcases h.get t with e | ⟨e, _⟩
        · exact e.symm
        · change W.D t = false at hc1; rw [e] at hc1; cases hc1
      | _ => rfl
    unfold stepC at hr ⊢
    rw [e]
    split at hr
    · rename_i t ht
      split at hr
      · rename_i hb; rw [if_pos hb]; exact iha hc2 h hr
      · rename_i hb; rw [if_neg hb]; exact ihb hc3 h hr
    · cases hr
  | block id b ih =>
    intro E E' A x E1 A1 hc h hr
    unfold stepC at hr ⊢
    cases hb : stepC P F b E A with
    | none => rw [hb] at hr; cases hr
    | some y =>
      obtain ⟨z, E2, A2⟩ := y
      rw [hb] at hr
      obtain ⟨E2', h1, h2⟩ := ih hc h hb
      rw [h1]
      simp only [Option.map_some, Option.some.injEq] at hr ⊢
      cases z with
      | normal => cases hr; exact ⟨E2', rfl, h2⟩
      | ret => cases hr; exact ⟨E2', rfl, h2⟩
      | exit id' =>
        simp only at hr ⊢
        split at hr
        · rename_i e; rw [if_pos e]; cases hr; exact ⟨E2', rfl, h2⟩
        · rename_i e; rw [if_neg e]; cases hr; exact ⟨E2', rfl, h2⟩
  | loop b _ =>
    intro E E' A x E1 A1 hc h hr
    exact hF hc h hr
  | rangeFunc => intro E E' A x E1 A1 hc; cases hc
  | scope b ih =>
    intro E E' A x E1 A1 hc h hr
    exact ih hc h hr
  | goto l => intro E E' A x E1 A1 hc; cases hc
  | refuse w => intro E E' A x E1 A1 hc; cases hc

theorem loop_part (hs : SpOk P W) (O : Known) : ∀ n, LoopPart P W (runK P O n) := by
  intro n
  induction n with
  | zero => intro c E E' A x E1 A1 _ _ hr; cases hr
  | succ n ih =>
    intro c E E' A x E1 A1 hc h hr
    change (stepC P (runK P O n) c E A).bind _ = _ at hr
    show ∃ E1', (stepC P (runK P O n) c E' A).bind _ = _ ∧ _
    obtain ⟨⟨y, E2, A2⟩, h1, h2⟩ := Option.bind_eq_some_iff.1 hr
    obtain ⟨E2', h3, h4⟩ := stepC_part hs ih hc h h1
    rw [h3]
    simp only [Option.bind_some]
    cases y with
    | normal => exact ih hc h4 h2
    | exit id => cases h2; exact ⟨E2', rfl, h4⟩
    | ret => cases h2; exact ⟨E2', rfl, h4⟩

def resIn (W : Parts) : ResultVar → Bool
  | .tmp t => W.D t
  | .cell a _ => opdIn W (.tmp a)
/-- a function may be called with arguments that part -/
noncomputable def okFn (P : Program) (W : Parts) (f : FuncId) : Bool :=
  match P.funcs[f]? with
  | some fn => match fn.body with
    | some c => okCode P W c && fn.results.toList.all fun r => !(resIn W r)
    | none => false
  | none => false

theorem results_part (h : EPart W E E') {A : AState} : ∀ {rs : List ResultVar}, (∀ r ∈ rs, resIn W r = false) → resultsOf P E' A rs = resultsOf P E A rs := by
  have get : ∀ t, W.D t = false → E'.get t = E.get t := by
    intro t ht
    rcases h.get t with e | ⟨e, _⟩
    · exact e.symm
    · rw [e] at ht; cases ht
  intro rs
  induction rs with
  | nil => intro _; rfl
  | cons r rs ih =>
    intro hr
    have h1 : resultOf P E' A r = resultOf P E A r := by
      have := hr r (by simp)
      cases r with
      | tmp t => show some _ = some _; rw [get t this]
      | cell a t => show aload P A t _ = aload P A t _; rw [get a this]
    show (resultOf P E' A r).bind _ = (resultOf P E A r).bind _
    rw [h1, ih fun r hr' => hr r (by simp [hr'])]

theorem call_part (hs : SpOk P W) {O : Known} {n : Nat} {f : FuncId} (hf : okFn P W f = true) {args args' : List Value} (hl : args.length = args'.length)
    (ha : ∀ t : Nat, VPart W t ((args[t]?).getD undef) ((args'[t]?).getD undef)) (hO : O f args = none) (hO' : O f args' = none) {A : AState} {r : Value × AState} (h : (runK P O n).call f args A = some r) : (runK P O n).call f args' A = some r := by
  cases n with
  | zero => cases h
  | succ n =>
    change (match O f args with | some v => some (v, A) | none => callBody P (runK P O n) f args A) = some r at h
    show (match O f args' with | some v => some (v, A) | none => callBody P (runK P O n) f args' A) = some r
    rw [hO] at h
    rw [hO']
    simp only at h ⊢
    unfold callBody at h ⊢
    unfold okFn at hf
    split at hf
    · rename_i fn hfn
      rw [hfn] at h ⊢
      simp only [Option.bind_some] at h ⊢
      split at h
      · cases h
      · rename_i hname
        rw [if_neg hname]
        split at hf
        · rename_i c hc
          rw [hc] at h ⊢
          rw [Bool.and_eq_true] at hf
          simp only [Option.bind_some] at h ⊢
          obtain ⟨⟨x, E1, A1⟩, h1, h2⟩ := Option.bind_eq_some_iff.1 h
          have hE : EPart W ⟨FT.empty.setL 0 args, args.length + (fn.ntmps - args.length)⟩ ⟨FT.empty.setL 0 args', args'.length + (fn.ntmps - args'.length)⟩ := by
            refine ⟨by show args.length + _ = args'.length + _; rw [hl], fun t => ?_⟩
            have g : ∀ as : List Value, (FT.empty.setL 0 as).get t = (as[t]?).getD undef := by
              intro as
              rw [FT.get_setL, FT.get_empty, Nat.sub_zero, Nat.zero_add]
              split
              · rfl
              · rw [List.getElem?_eq_none (by omega)]; rfl
            show VPart W t ((FT.empty.setL 0 args).get t) ((FT.empty.setL 0 args').get t)
            rw [g, g]
            exact ha t
          obtain ⟨E1', h3, h4⟩ := stepC_part hs (loop_part hs O n) hf.1 hE h1
          rw [h3]
          simp only [Option.bind_some]
          have hr : ∀ q ∈ fn.results.toList, resIn W q = false := fun q hq => by have := List.all_eq_true.1 hf.2 q hq; simpa using this
          cases x with
          | normal => simp only at h2 ⊢; rw [results_part h4 hr]; exact h2
          | ret => simp only at h2 ⊢; rw [results_part h4 hr]; exact h2
          | exit id => cases h2
        · cases hf
    · cases hf

theorem body_part (hs : SpOk P W) {F : Fns} (hL : LoopPart P W F) {f : FuncId} (hf : okFn P W f = true) {args args' : List Value} (hl : args.length = args'.length)
    (ha : ∀ t : Nat, VPart W t ((args[t]?).getD undef) ((args'[t]?).getD undef)) {A : AState} {r : Value × AState} (h : callBody P F f args A = some r) : callBody P F f args' A = some r := by
  unfold callBody at h ⊢
  unfold okFn at hf
  split at hf
  · rename_i fn hfn
    rw [hfn] at h ⊢
    simp only [Option.bind_some] at h ⊢
    split at h
    · cases h
    · rename_i hname
      rw [if_neg hname]
      split at hf
      · rename_i c hc
        rw [hc] at h ⊢
        rw [Bool.and_eq_true] at hf
        simp only [Option.bind_some] at h ⊢
        obtain ⟨⟨x, E1, A1⟩, h1, h2⟩ := Option.bind_eq_some_iff.1 h
        have hE : EPart W ⟨FT.empty.setL 0 args, args.length + (fn.ntmps - args.length)⟩ ⟨FT.empty.setL 0 args', args'.length + (fn.ntmps - args'.length)⟩ := by
          refine ⟨by show args.length + _ = args'.length + _; rw [hl], fun t => ?_⟩
          have g : ∀ as : List Value, (FT.empty.setL 0 as).get t = (as[t]?).getD undef := by
            intro as
            rw [FT.get_setL, FT.get_empty, Nat.sub_zero, Nat.zero_add]
            split
            · rfl
            · rw [List.getElem?_eq_none (by omega)]; rfl
          show VPart W t ((FT.empty.setL 0 args).get t) ((FT.empty.setL 0 args').get t)
          rw [g, g]
          exact ha t
        obtain ⟨E1', h3, h4⟩ := stepC_part hs hL hf.1 hE h1
        rw [h3]
        simp only [Option.bind_some]
        have hr : ∀ q ∈ fn.results.toList, resIn W q = false := fun q hq => by have := List.all_eq_true.1 hf.2 q hq; simpa using this
        cases x with
        | normal => simp only at h2 ⊢; rw [results_part h4 hr]; exact h2
        | ret => simp only at h2 ⊢; rw [results_part h4 hr]; exact h2
        | exit id => cases h2
      · cases hf
  · cases hf

end Go.Ag
namespace Go.Ag
set_option linter.unusedVariables false

/-- of a temporary: its modulus, and a class: 0 any, 1 smaller than the modulus (below 0, too), 2 not below 0 -/
abbrev Desc := List (Nat × Nat × Nat)
def descOf (t : Nat) : Desc → Option (Nat × Nat)
  | [] => none
  | x :: xs => if Nat.beq x.1 t then some x.2 else descOf t xs

def ModQ (md : Desc) (t : Nat) (v v' : Value) : Prop := ∃ (m cl : Nat) (kk : IntKind) (a b : Int), descOf t md = some (m, cl) ∧ v = .int kk a ∧ v' = .int kk b ∧ a % (m : Int) = b % (m : Int) ∧
  (cl = 1 → (-(m : Int) < a ∧ a < m) ∧ (-(m : Int) < b ∧ b < m)) ∧ (cl = 2 → 0 ≤ a ∧ 0 ≤ b)
def opdTmp : Operand → Option Nat
  | .tmp s => some s
  | _ => none
def opdNat : Operand → Option Nat
  | .const (.int _ (.ofNat c)) => some c
  | _ => none
def dstDesc (md : Desc) (o : Oper) : Option (Nat × Nat) := o.dst.bind fun d => descOf d md
def sameDesc : Option (Nat × Nat) → Option (Nat × Nat) → Bool
  | some (a, b), some (c, d) => Nat.beq a c && Nat.beq b d
  | _, _ => false
def modSp (md : Desc) (o : Oper) : Bool :=
  match o.op with
  | .move x => match opdTmp x with
    | some s => sameDesc (descOf s md) (dstDesc md o)
    | none => false
  | .binOp .rem _ x y _ => match opdTmp x, opdNat y with
    | some s, some c => match descOf s md with
      | some (m, cl) => Nat.beq c m && (Nat.blt 0 m && (Nat.beq cl 2 || (Nat.beq cl 0 && sameDesc (some (m, 1)) (dstDesc md o))))
      | none => false
    | _, _ => false
  | .binOp .add _ x y _ => match opdTmp x, opdNat y with
    | some s, some c => match descOf s md with
      | some (m, cl) => Nat.beq c m && (Nat.beq cl 1 && (Nat.ble m 30 && sameDesc (some (m, 2)) (dstDesc md o)))
      | none => false
    | _, _ => false
  | _ => false
def modParts (md : Desc) : Parts := ⟨fun t => (descOf t md).isSome, ModQ md, modSp md⟩

theorem opdTmp_some {x : Operand} {s : Nat} (h : opdTmp x = some s) : x = .tmp s := by
  cases x <;> first | (cases h; rfl) | cases h
theorem opdNat_some {x : Operand} {c : Nat} (h : opdNat x = some c) : ∃ kk, x = .const (.int kk (.ofNat c)) := by
  unfold opdNat at h
  split at h
  · cases h; exact ⟨_, rfl⟩
  · cases h
theorem sameDesc_eq {x y : Option (Nat × Nat)} (h : sameDesc x y = true) : ∃ p, x = some p ∧ y = some p := by
  unfold sameDesc at h
  split at h
  · rename_i a b c d
    rw [Bool.and_eq_true] at h
    obtain rfl := Nat.eq_of_beq_eq_true h.1
    obtain rfl := Nat.eq_of_beq_eq_true h.2
    exact ⟨_, rfl, rfl⟩
  · cases h
theorem dstDesc_some {md : Desc} {o : Oper} {p : Nat × Nat} (h : dstDesc md o = some p) : ∃ d, o.dst = some d ∧ descOf d md = some p := by
  unfold dstDesc at h
  exact Option.bind_eq_some_iff.1 h

theorem tmod_pos_eq {a b m : Int} (hm : 0 < m) (ha : 0 ≤ a) (hb : 0 ≤ b) (h : a % m = b % m) : a.tmod m = b.tmod m := by
  rw [Int.tmod_eq_emod_of_nonneg ha, Int.tmod_eq_emod_of_nonneg hb, h]
theorem tmod_emod (a m : Int) : a.tmod m % m = a % m := by
  have h : a = m * (a.tdiv m) + a.tmod m := (Int.mul_tdiv_add_tmod a m).symm
  conv => rhs; rw [h]
  rw [Int.add_comm, Int.add_mul_emod_self_left]
theorem tmod_small {a m : Int} (hm : 0 < m) : -m < a.tmod m ∧ a.tmod m < m := by
  refine ⟨?_, Int.tmod_lt_of_pos a hm⟩
  have h1 := Int.tmod_lt_of_pos (-a) hm
  rw [Int.neg_tmod] at h1
  omega

theorem modSp_ok (P : Program) (md : Desc) : SpOk P (modParts md) := by
  intro o ho
  change modSp md o = true at ho
  unfold modSp at ho
  split at ho
  · rename_i x hop
    split at ho
    · rename_i s hs
      obtain rfl := opdTmp_some hs
      refine ⟨by unfold kindOf; rw [hop], fun E E' v hE hv => ?_⟩
      unfold aPure at hv ⊢
      rw [hop] at hv ⊢
      simp only at hv ⊢
      cases hv
      refine ⟨E'.get s, rfl, ?_⟩
      rcases hE.get s with e | ⟨_, e⟩
      · exact .inl e
      · obtain ⟨p, h1, h2⟩ := sameDesc_eq ho
        obtain ⟨d, h3, h4⟩ := dstDesc_some h2
        obtain ⟨m, cl, kk, a, b, q1, q2, q3, q4, q5, q6⟩ := e
        rw [h1] at q1
        cases q1
        exact .inr ⟨d, h3, by show (descOf d md).isSome = true; rw [h4]; rfl, m, cl, kk, a, b, h4, q2, q3, q4, q5, q6⟩
    · cases ho
  · rename_i t x y rt hop
    split at ho
    · rename_i s c hs hc
      obtain rfl := opdTmp_some hs
      obtain ⟨k2, rfl⟩ := opdNat_some hc
      split at ho
      · rename_i m cl hd
        simp only [Bool.and_eq_true, Bool.or_eq_true] at ho
        obtain ⟨ho1, ho2, ho3⟩ := ho
        obtain rfl := Nat.eq_of_beq_eq_true ho1
        have hm0 : 0 < c := Nat.blt_eq.mp ho2
        have hm : (0 : Int) < (c : Int) := by omega
        refine ⟨by unfold kindOf; rw [hop], fun E E' v hE hv => ?_⟩
        unfold aPure at hv ⊢
        rw [hop] at hv ⊢
        change abin P .rem t (.tmp s) (.const (.int k2 (.ofNat c))) (E.get s) (.int k2 (.ofNat c)) = some v at hv
        show ∃ v', abin P .rem t (.tmp s) (.const (.int k2 (.ofNat c))) (E'.get s) (.int k2 (.ofNat c)) = some v' ∧ _
        rcases hE.get s with e | ⟨_, e⟩
        · rw [← e]; exact ⟨v, hv, .inl rfl⟩
        · obtain ⟨m', cl', kk, a, b, q1, q2, q3, q4, q5, q6⟩ := e
          rw [hd] at q1
          cases q1
          rw [q2] at hv
          rw [q3]
          change pureRun (binOp .rem t (.int kk a) (.int k2 (.ofNat c))) = some v at hv
          show ∃ v', pureRun (binOp .rem t (.int kk b) (.int k2 (.ofNat c))) = some v' ∧ _
          have hc0 : ¬ (Int.ofNat c = 0) := by
            have : (Int.ofNat c) = (c : Int) := rfl
            omega
          by_cases hk : kk = k2
          · subst hk
            simp only [binOp, Op.intDiv, ne_eq, not_true_eq_false, if_false, if_neg hc0] at hv ⊢
            change some (Value.int kk (a.tmod c)) = some v at hv
            cases hv
            refine ⟨.int kk (b.tmod c), rfl, ?_⟩
            rcases ho3 with h2 | ⟨h0, h1⟩
            · obtain ⟨ha, hb⟩ := q6 (Nat.eq_of_beq_eq_true h2)
              rw [tmod_pos_eq hm ha hb q4]
              exact .inl rfl
            · obtain ⟨p, e1, e2⟩ := sameDesc_eq h1
              cases e1
              obtain ⟨d, h3, h4⟩ := dstDesc_some e2
              refine .inr ⟨d, h3, by show (descOf d md).isSome = true; rw [h4]; rfl, c, 1, kk, _, _, h4, rfl, rfl, ?_, fun _ => ⟨tmod_small hm, tmod_small hm⟩, fun h => by cases h⟩
              rw [tmod_emod, tmod_emod, q4]
          · simp only [binOp, ne_eq, hk, not_false_eq_true, if_true] at hv
            cases hv
      · cases ho
    · cases ho
  · rename_i t x y rt hop
    split at ho
    · rename_i s c hs hc
      obtain rfl := opdTmp_some hs
      obtain ⟨k2, rfl⟩ := opdNat_some hc
      split at ho
      · rename_i m cl hd
        simp only [Bool.and_eq_true] at ho
        obtain ⟨ho1, ho2, ho3, ho4⟩ := ho
        obtain rfl := Nat.eq_of_beq_eq_true ho1
        obtain rfl := Nat.eq_of_beq_eq_true ho2
        have hm30 : c ≤ 30 := Nat.le_of_ble_eq_true ho3
        obtain ⟨p, e1, e2⟩ := sameDesc_eq ho4
        cases e1
        obtain ⟨d, h3, h4⟩ := dstDesc_some e2
        refine ⟨by unfold kindOf; rw [hop], fun E E' v hE hv => ?_⟩
        unfold aPure at hv ⊢
        rw [hop] at hv ⊢
        change abin P .add t (.tmp s) (.const (.int k2 (.ofNat c))) (E.get s) (.int k2 (.ofNat c)) = some v at hv
        show ∃ v', abin P .add t (.tmp s) (.const (.int k2 (.ofNat c))) (E'.get s) (.int k2 (.ofNat c)) = some v' ∧ _
        rcases hE.get s with e | ⟨_, e⟩
        · rw [← e]; exact ⟨v, hv, .inl rfl⟩
        · obtain ⟨m', cl', kk, a, b, q1, q2, q3, q4, q5, q6⟩ := e
          rw [hd] at q1
          cases q1
          rw [q2] at hv
          rw [q3]
          change pureRun (binOp .add t (.int kk a) (.int k2 (.ofNat c))) = some v at hv
          show ∃ v', pureRun (binOp .add t (.int kk b) (.int k2 (.ofNat c))) = some v' ∧ _
          obtain ⟨⟨ha1, ha2⟩, hb1, hb2⟩ := q5 rfl
          by_cases hk : kk = k2
          · subst hk
            simp only [binOp, Op.intArith, ne_eq, not_true_eq_false, if_false] at hv ⊢
            change some (Value.int kk (kk.wrap (a + c))) = some v at hv
            cases hv
            refine ⟨.int kk (kk.wrap (b + c)), rfl, ?_⟩
            have hw : ∀ x : Int, -(c : Int) < x → x < c → kk.wrap (x + c) = x + c := by
              intro x h1 h2
              obtain ⟨q, hq⟩ : ∃ q : Nat, x + c = Int.ofNat q := ⟨(x + c).toNat, by show x + c = ((x + c).toNat : Int); omega⟩
              rw [hq]
              refine wrap_small ?_
              have : q ≤ 60 := by have : (Int.ofNat q) = (q : Int) := rfl; omega
              cases kk <;> simp only [lim] <;> omega
            refine .inr ⟨d, h3, by show (descOf d md).isSome = true; rw [h4]; rfl, c, 2, kk, _, _, h4, rfl, rfl, ?_, (fun h => by cases h), fun _ => ?_⟩
            · rw [hw a ha1 ha2, hw b hb1 hb2]
              rw [Int.add_emod_right, Int.add_emod_right, q4]
            · rw [hw a ha1 ha2, hw b hb1 hb2]; omega
          · simp only [binOp, ne_eq, hk, not_false_eq_true, if_true] at hv
            cases hv
      · cases ho
    · cases ho
  · cases ho

/-- a law of numbers of which only remainders are asked holds, if it does at some numbers with these remainders -/
theorem quick_part {P : Program} {tab : PlanTab} (hmix : P.follows .mixedOrders = true) (ht : TabsOk P tab) {gl : AnsTab} (hg : AnsOk P gl) {pl : List FuncId} {m0 m : Nat} {f : FuncId} {args args' : List Value} {W : Parts} (hs : SpOk P W)
    (h : tellsTrue ((fnG P tab f).f (Km P tab gl pl m0 m) args ⟨.nil, P.globals.size⟩) = true) (hi : isIn f pl = false) (ha : ansOf f gl = none) (hf : okFn P W f = true) (hl : args.length = args'.length)
    (hv : ∀ t : Nat, VPart W t ((args[t]?).getD undef) ((args'[t]?).getD undef)) (hp : args'.all plainV = true) : Knows P f args' (.bool true) := by
  obtain ⟨A', e⟩ := tellsTrue_some h
  have hO : ∀ as, memoO P tab gl pl m0 f as = none := fun as => by unfold memoO; rw [hi, ha]; cases as <;> rfl
  have h1 : (runK P (memoO P tab gl pl m0) (m + 1)).call f args ⟨.nil, P.globals.size⟩ = some (.bool true, A') := by
    show (match memoO P tab gl pl m0 f args with | some v => some (v, _) | none => callBody P (runK P (memoO P tab gl pl m0) m) f args _) = _
    rw [hO]
    exact fnG_some ht (Km_ok ht gl pl m0 m) e
  exact knows hmix (memo_known hmix ht hg pl m0) (call_part hs hf hl hv (hO _) (hO _) h1) hp rfl
end Go.Ag
namespace Go.Ag
theorem vpart_nat {md : Desc} {t m : Nat} {kk : IntKind} {a : Int} (h : descOf t md = some (m, 2)) (h0 : 0 ≤ a) : VPart (modParts md) t (.int kk (.ofNat (a.toNat % m))) (.int kk a) := by
  refine .inr ⟨by show (descOf t md).isSome = true; rw [h]; rfl, m, 2, kk, _, _, h, rfl, rfl, ?_, (fun h => by cases h), fun _ => ⟨Int.natCast_nonneg _, h0⟩⟩
  show ((a.toNat % m : Nat) : Int) % (m : Int) = _
  obtain ⟨n, rfl⟩ := Int.eq_ofNat_of_zero_le h0
  simp
theorem vpart_int {md : Desc} {t m : Nat} {kk : IntKind} {a : Int} (h : descOf t md = some (m, 0)) (hm : 0 < m) : VPart (modParts md) t (.int kk (.ofNat (a % (m : Int)).toNat)) (.int kk a) := by
  have h0 : 0 ≤ a % (m : Int) := Int.emod_nonneg _ (by omega)
  refine .inr ⟨by show (descOf t md).isSome = true; rw [h]; rfl, m, 0, kk, _, _, h, rfl, rfl, ?_, (fun h => by cases h), (fun h => by cases h)⟩
  show (((a % (m : Int)).toNat : Nat) : Int) % (m : Int) = _
  rw [Int.toNat_of_nonneg h0, Int.emod_emod_of_dvd _ (Int.dvd_refl _)]
end Go.Ag
namespace Go.Ag
set_option linter.unusedVariables false

/-! ### the same, by sight, however deep -/
def natEqL : List UInt8 → List UInt8 → Bool
  | [], [] => true
  | x :: xs, y :: ys => Nat.beq x.toNat y.toNat && natEqL xs ys
  | _, _ => false
theorem natEqL_eq : ∀ {a b : List UInt8}, natEqL a b = true → a = b
  | [], [], _ => rfl
  | x :: xs, y :: ys, h => by
    unfold natEqL at h
    rw [Bool.and_eq_true] at h
    rw [UInt8.toNat_inj.1 (Nat.eq_of_beq_eq_true h.1), natEqL_eq h.2]
  | [], _ :: _, h => by cases h
  | _ :: _, [], h => by cases h
def strEq (a b : ByteArray) : Bool := natEqL a.data.toList b.data.toList
theorem strEq_eq {a b : ByteArray} (h : strEq a b = true) : a = b := by
  have := Array.ext' (natEqL_eq h)
  cases a; cases b
  simp only at this
  rw [this]
def addrEq : Option Addr → Option Addr → Bool
  | none, none => true
  | some ⟨b, o, none⟩, some ⟨c, p, none⟩ => Nat.beq b c && Nat.beq o p
  | _, _ => false
theorem addrEq_eq {a b : Option Addr} (h : addrEq a b = true) : a = b := by
  unfold addrEq at h
  split at h
  · rfl
  · rw [Bool.and_eq_true] at h
    rw [Nat.eq_of_beq_eq_true h.1, Nat.eq_of_beq_eq_true h.2]
  · cases h
def optEq : Option Nat → Option Nat → Bool
  | none, none => true
  | some a, some b => Nat.beq a b
  | _, _ => false
theorem optEq_eq {a b : Option Nat} (h : optEq a b = true) : a = b := by
  unfold optEq at h
  split at h
  · rfl
  · rw [Nat.eq_of_beq_eq_true h]
  · cases h
def intEq : Int → Int → Bool
  | .ofNat a, .ofNat b => Nat.beq a b
  | .negSucc a, .negSucc b => Nat.beq a b
  | _, _ => false
theorem intEq_eq {a b : Int} (h : intEq a b = true) : a = b := by
  unfold intEq at h
  split at h
  · rw [Nat.eq_of_beq_eq_true h]
  · rw [Nat.eq_of_beq_eq_true h]
  · cases h
noncomputable def eqVL {α : Type} (e : α → α → Bool) (l : List α) : List α → Bool :=
  List.rec (motive := fun _ => List α → Bool) (fun m => match m with | [] => true | _ => false) (fun x _ ih m => match m with | y :: ys => Bool.rec false (ih ys) (e x y) | [] => false) l
theorem eqVL_eq {α : Type} {e : α → α → Bool} (he : ∀ x y, e x y = true → x = y) : ∀ {l m : List α}, eqVL e l m = true → l = m := by
  intro l
  induction l with
  | nil => intro m h; cases m with
    | nil => rfl
    | cons y ys => cases h
  | cons x xs ih => intro m h; cases m with
    | nil => cases h
    | cons y ys =>
      change (Bool.rec false (eqVL e xs ys) (e x y) : Bool) = true at h
      cases hx : e x y with
      | false => rw [hx] at h; cases h
      | true => rw [hx] at h; rw [he _ _ hx, ih h]
noncomputable def eqV : Nat → Value → Value → Bool := Nat.rec (motive := fun _ => Value → Value → Bool) (fun _ _ => false) fun _ ih a b =>
  match a, b with
  | .bool a, .bool b => a == b
  | .int k a, .int l b => decide (k = l) && intEq a b
  | .string a, .string b => strEq a b
  | .pointer a, .pointer b => addrEq a b
  | .slice a n c, .slice b m d => addrEq a b && (Nat.beq n m && Nat.beq c d)
  | .map a, .map b => optEq a b
  | .func (.func f) x y, .func (.func g) x' y' => Nat.beq f g && (eqVL ih x.toList x'.toList && eqVL ih y.toList y'.toList)
  | .nilFunc, .nilFunc => true
  | .iface t a, .iface u b => Nat.beq t u && ih a b
  | .nilIface, .nilIface => true
  | .agg a, .agg b => eqVL ih a.toList b.toList
  | .tuple a, .tuple b => eqVL ih a.toList b.toList
  | _, _ => false
theorem eqV_succ (n : Nat) (a b : Value) : eqV (n + 1) a b = (match a, b with
  | .bool a, .bool b => a == b
  | .int k a, .int l b => decide (k = l) && intEq a b
  | .string a, .string b => strEq a b
  | .pointer a, .pointer b => addrEq a b
  | .slice a n c, .slice b m d => addrEq a b && (Nat.beq n m && Nat.beq c d)
  | .map a, .map b => optEq a b
  | .func (.func f) x y, .func (.func g) x' y' => Nat.beq f g && (eqVL (eqV n) x.toList x'.toList && eqVL (eqV n) y.toList y'.toList)
  | .nilFunc, .nilFunc => true
  | .iface t a, .iface u b => Nat.beq t u && eqV n a b
  | .nilIface, .nilIface => true
  | .agg a, .agg b => eqVL (eqV n) a.toList b.toList
  | .tuple a, .tuple b => eqVL (eqV n) a.toList b.toList
  | _, _ => false) := rfl
theorem eqV_eq : ∀ (n : Nat) (a b : Value), eqV n a b = true → a = b := by
  intro n
  induction n with
  | zero => intro a b h; cases h
  | succ n ih =>
    intro a b h
    rw [eqV_succ] at h
    split at h
    · rw [eq_of_beq h]
    · rw [Bool.and_eq_true, decide_eq_true_eq] at h; rw [h.1, intEq_eq h.2]
    · rw [strEq_eq h]
    · rw [addrEq_eq h]
    · rw [Bool.and_eq_true, Bool.and_eq_true] at h; rw [addrEq_eq h.1, Nat.eq_of_beq_eq_true h.2.1, Nat.eq_of_beq_eq_true h.2.2]
    · rw [optEq_eq h]
    · rw [Bool.and_eq_true, Bool.and_eq_true] at h; rw [Nat.eq_of_beq_eq_true h.1, Array.ext' (eqVL_eq ih h.2.1), Array.ext' (eqVL_eq ih h.2.2)]
    · rfl
    · rw [Bool.and_eq_true] at h; rw [Nat.eq_of_beq_eq_true h.1, ih _ _ h.2]
    · rfl
    · rw [Array.ext' (eqVL_eq ih h)]
    · rw [Array.ext' (eqVL_eq ih h)]
    · cases h
noncomputable def oSome {α : Type} (e : α → α → Bool) : Option α → Option α → Bool
  | none, none => true
  | some x, some y => e x y
  | _, _ => false
theorem oSome_eq {α : Type} {e : α → α → Bool} (he : ∀ x y, e x y = true → x = y) {x y : Option α} (h : oSome e x y = true) : x = y := by
  unfold oSome at h
  split at h
  · rfl
  · rw [he _ _ h]
  · cases h
noncomputable def trEq {α : Type} (e : α → α → Bool) (s : Tr α) : Tr α → Bool :=
  Tr.rec (motive := fun _ => Tr α → Bool) (fun t => match t with | .nil => true | _ => false)
    (fun _ v _ ihl ihr t => match t with | .node l' v' r' => Bool.rec false (Bool.rec false (ihr r') (ihl l')) (oSome e v v') | .nil => false) s
theorem bandR {a b : Bool} (h : (Bool.rec false b a : Bool) = true) : a = true ∧ b = true := by
  cases a with
  | false => cases h
  | true => exact ⟨rfl, h⟩
theorem trEq_eq {α : Type} {e : α → α → Bool} (he : ∀ x y, e x y = true → x = y) : ∀ {s t : Tr α}, trEq e s t = true → s = t := by
  intro s
  induction s with
  | nil => intro t h; cases t with
    | nil => rfl
    | node l v r => cases h
  | node l v r ihl ihr => intro t h; cases t with
    | nil => cases h
    | node l' v' r' =>
      obtain ⟨h1, h2⟩ := bandR h
      obtain ⟨h2, h3⟩ := bandR h2
      rw [oSome_eq he h1, ihl h2, ihr h3]
noncomputable def pairEq (p q : Value × Value) : Bool := eqV 7 p.1 q.1 && eqV 7 p.2 q.2
theorem pairEq_eq (p q : Value × Value) (h : pairEq p q = true) : p = q := by
  unfold pairEq at h
  rw [Bool.and_eq_true] at h
  exact Prod.ext (eqV_eq _ _ _ h.1) (eqV_eq _ _ _ h.2)
noncomputable def oEq : AObj → AObj → Bool
  | .cells cs d n es root own top, .cells cs' d' n' es' root' own' top' => Nat.beq n n' && (Nat.beq es es' && (Nat.beq root root' && (Nat.beq own own' && (Nat.beq top top' && (eqVL (eqV 7) d d' && trEq (eqV 7) cs cs')))))
  | .map es, .map es' => eqVL pairEq es es'
  | .strIter s p, .strIter s' p' => strEq s s' && Nat.beq p p'
  | _, _ => false
theorem oEq_eq (a b : AObj) (h : oEq a b = true) : a = b := by
  unfold oEq at h
  split at h
  · simp only [Bool.and_eq_true] at h
    obtain ⟨h1, h2, h3, h4, h5, h6, h7⟩ := h
    rw [Nat.eq_of_beq_eq_true h1, Nat.eq_of_beq_eq_true h2, Nat.eq_of_beq_eq_true h3, Nat.eq_of_beq_eq_true h4, Nat.eq_of_beq_eq_true h5, eqVL_eq (eqV_eq 7) h6, trEq_eq (eqV_eq 7) h7]
  · rw [eqVL_eq pairEq_eq h]
  · rw [Bool.and_eq_true] at h
    rw [strEq_eq h.1, Nat.eq_of_beq_eq_true h.2]
  · cases h

/-! ### a part of a memory -/
noncomputable def oSub (x y : Option AObj) : Bool :=
  match x, y with
  | none, _ => true
  | some a, some b => oEq a b
  | _, _ => false
noncomputable def subT (s : Tr AObj) : Tr AObj → Bool :=
  Tr.rec (motive := fun _ => Tr AObj → Bool) (fun _ => true)
    (fun _ v _ ihl ihr t => match t with | .node l' v' r' => Bool.rec false (Bool.rec false (ihr r') (ihl l')) (oSub v v') | .nil => false) s
theorem oSub_eq {x y : Option AObj} (h : oSub x y = true) {o : AObj} (hx : x = some o) : y = some o := by
  subst hx
  cases y with
  | none => cases h
  | some b => rw [oEq_eq _ _ h]
theorem subT_get : ∀ {s t : Tr AObj}, subT s t = true → ∀ b o, s.get b = some o → t.get b = some o := by
  intro s
  induction s with
  | nil => intro t h b o hb; cases hb
  | node l v r ihl ihr =>
    intro t h b o hb
    cases t with
    | nil => cases h
    | node l' v' r' =>
      obtain ⟨h1, h2⟩ := bandR h
      obtain ⟨h2, h3⟩ := bandR h2
      cases b with
      | zero => rw [Tr.get_node_zero] at hb ⊢; exact oSub_eq h1 hb
      | succ b =>
        rw [Tr.get_node_succ] at hb ⊢
        split
        · rename_i e; rw [if_pos e] at hb; exact ihl h2 _ _ hb
        · rename_i e; rw [if_neg e] at hb; exact ihr h3 _ _ hb
noncomputable def famB (A : AState) : AObj → Bool
  | .cells _ _ _ _ root _ _ => (match A.get root with
    | some (.cells _ _ _ _ root' _ top') => Nat.beq root' root && (A.get top').isSome
    | _ => false)
  | .loop _ => false
  | _ => true
noncomputable def allT (p : AObj → Bool) (s : Tr AObj) : Bool :=
  Tr.rec (motive := fun _ => Bool) true (fun _ v _ ihl ihr => Bool.rec false (Bool.rec false ihr ihl) (match v with | some o => p o | none => true)) s
theorem allT_get {p : AObj → Bool} : ∀ {s : Tr AObj}, allT p s = true → ∀ b o, s.get b = some o → p o = true := by
  intro s
  induction s with
  | nil => intro h b o hb; cases hb
  | node l v r ihl ihr =>
    intro h b o hb
    obtain ⟨h1, h2⟩ := bandR h
    obtain ⟨h2, h3⟩ := bandR h2
    cases b with
    | zero => rw [Tr.get_node_zero] at hb; subst hb; exact h1
    | succ b =>
      rw [Tr.get_node_succ] at hb
      split at hb
      · exact ihl h2 _ _ hb
      · exact ihr h3 _ _ hb
/-- with a block its family's first and newest are there -/
noncomputable def closedB (A : AState) : Bool := allT (famB A) A.heap
noncomputable def partB (L A : AState) : Bool := Nat.beq L.size A.size && subT L.heap A.heap

noncomputable def cutT (L : AState) (τ : Nat → Option Nat) (r : Nat) : Option Nat := match τ r with
  | some f => (match L.get f with
    | some _ => some f
    | none => none)
  | none => none
theorem famB_cells {A : AState} {cs : Tr Value} {d : List Value} {n es root own top : Nat} (h : famB A (.cells cs d n es root own top) = true) :
    ∃ cs' d' n' es' own' top', A.get root = some (.cells cs' d' n' es' root own' top') ∧ (A.get top').isSome = true := by
  change (match A.get root with
    | some (.cells _ _ _ _ root' _ top') => Nat.beq root' root && (A.get top').isSome
    | _ => false) = true at h
  split at h
  · rename_i h1
    rw [Bool.and_eq_true] at h
    rw [Nat.eq_of_beq_eq_true h.1] at h1
    exact ⟨_, _, _, _, _, _, h1, h.2⟩
  · cases h
theorem part_sim {P : Program} {ρ : Ren} {τ : Nat → Option Nat} {A L : AState} {w : World} (S : Sim P ρ τ A w) (hp : partB L A = true) (hc : closedB L = true) :
    ∃ τ', (∀ r, τ' r = τ r ∨ τ' r = none) ∧ (∀ r f, τ r = some f → L.get f = none → τ' r = none) ∧ Sim P ρ τ' L w := by
  unfold partB at hp
  rw [Bool.and_eq_true] at hp
  have hz := Nat.eq_of_beq_eq_true hp.1
  have hs : ∀ b o, L.get b = some o → A.get b = some o := subT_get hp.2
  have hfam : ∀ b o, L.get b = some o → famB L o = true := allT_get hc
  have hroot : ∀ b o, L.get b = some o → ∃ o', L.get (famOf b o) = some o' ∧ A.get (famOf b o) = some o' := fun b o hb => by
    have h := hfam b o hb
    cases o with
    | cells cs d n es root own top =>
      obtain ⟨_, _, _, _, _, _, h1, _⟩ := famB_cells h
      exact ⟨_, h1, hs _ _ h1⟩
    | loop _ => cases h
    | map _ => exact ⟨_, hb, hs _ _ hb⟩
    | strIter _ _ => exact ⟨_, hb, hs _ _ hb⟩
  refine ⟨cutT L τ, fun r => ?_, fun r f hf hn => (by unfold cutT; rw [hf]; simp only; rw [hn]), ?_⟩
  · unfold cutT
    split
    · rename_i f hf
      split
      · exact .inl hf.symm
      · exact .inr rfl
    · exact .inr rfl
  refine ⟨fun b o hb => ?_, fun b o hb => ?_, fun b cs d n es root own top hb rcs rd rn res rtop hr => ?_, fun b o hb cs d n es root own hr => ?_, fun b hb => ?_, fun r f hf => ?_, S.glob, by rw [hz]; exact S.globs⟩
  · obtain ⟨i, h1, h2, h3, h4⟩ := S.obj b o (hs b o hb)
    obtain ⟨o', r1, r2⟩ := hroot b o hb
    refine ⟨i, h1, h2, by unfold cutT; rw [h3]; simp only; rw [r1], ?_⟩
    refine h4.keep rfl fun cs d n es root own top e hop => ?_
    subst e
    unfold AState.isOpen at hop ⊢
    split at hop
    · rename_i e; rw [if_pos e]; exact hop
    · rename_i e
      rw [if_neg e]
      change L.get root = some o' at r1
      change A.get root = some o' at r2
      unfold AState.ownOf at hop ⊢
      rw [r1] at hop
      rw [r2]
      exact hop
  · obtain ⟨o', r1, r2⟩ := hroot b o hb
    obtain ⟨o2, q1, q2⟩ := S.root b o (hs b o hb)
    rw [r2] at q1
    cases q1
    exact ⟨o', r1, q2⟩
  · have h := hfam b _ hb
    obtain ⟨ot, i, j, g1, g2, g3, g4, g5⟩ := S.top b _ _ _ _ _ _ _ (hs _ _ hb) _ _ _ _ _ (hs _ _ hr)
    refine ⟨ot, i, j, ?_, g2, g3, g4, g5⟩
    obtain ⟨_, _, _, _, _, _, q1, q2⟩ := famB_cells h
    rw [hr] at q1
    cases q1
    obtain ⟨x, hx⟩ := Option.isSome_iff_exists.1 q2
    have := hs _ _ hx
    rw [g1] at this
    cases this
    exact hx
  · exact S.solo b o (hs b o hb) cs d n es root own (hs _ _ hr)
  · cases h : L.get b with
    | none => rfl
    | some o =>
      have := hs _ _ h
      rw [S.fresh b (by rw [← hz]; exact hb)] at this
      cases this
  · unfold cutT at hf
    split at hf
    · rename_i f' _
      split at hf
      · rename_i o ho
        cases hf
        exact ⟨o, ho⟩
      · cases hf
    · cases hf

/-! ### calls of which it is known what they leave -/
structure Ent where
  f : FuncId
  args : List Value
  A : AState
  v : Value
  B : AState

structure EntOk (P : Program) (e : Ent) : Prop where
  closed : closedB e.A = true
  size : e.A.size ≤ e.B.size
  body : ∃ fn, P.funcs[e.f]? = some fn ∧ (fn.name == "runtime.NumGoroutine") = false ∧ fn.body.isSome = true
  calls : ∀ {ρ : Ren} {τ : Nat → Option Nat} {w : World} {args' : Array Value}, Sim P ρ τ e.A w → VRels ρ e.args args'.toList → Free ρ e.A e.B →
    Calls P e.f args' w fun r w' => ∃ v' ρ' τ', r = .returned v' ∧ VRel ρ' e.v v' ∧ Ext P ρ τ e.A w ρ' τ' e.B w'
theorem Ext.part {P : Program} {ρ ρ' : Ren} {τ τ' : Nat → Option Nat} {A A' B : AState} {w w' : World} (x : Ext P ρ τ A w ρ' τ' A' w') (hp : partB B A' = true) (hc : closedB B = true) : ∃ τ2, Ext P ρ τ A w ρ' τ2 B w' := by
  obtain ⟨τ2, h1, _, h2⟩ := part_sim x.sim hp hc
  have hz : B.size = A'.size := by unfold partB at hp; rw [Bool.and_eq_true] at hp; exact Nat.eq_of_beq_eq_true hp.1
  exact ⟨τ2, ⟨x.le, fun b hb => x.same b (by rw [← hz]; exact hb), by rw [hz]; exact x.size, x.frm, fun r hr => (h1 r).elim (fun e => (x.told r hr).imp (fun e' => e.trans e') (fun e' => e.trans e')) .inr, x.loops, h2⟩⟩

/-- what a run tells, and leaves, becomes known -/
theorem ent_ok {P : Program} {F : Fns} (H : FnsOk P F) {f : FuncId} {args : List Value} {A A1 B : AState} {v : Value} (h : F.call f args A = some (v, A1)) (hA : closedB A = true) (hp : partB B A1 = true) (hB : closedB B = true) : EntOk P ⟨f, args, A, v, B⟩ := by
  have hz : B.size = A1.size := by unfold partB at hp; rw [Bool.and_eq_true] at hp; exact Nat.eq_of_beq_eq_true hp.1
  refine ⟨hA, by rw [show (Ent.B ⟨f, args, A, v, B⟩) = B from rfl, hz]; exact H.callSize h, H.callBody h, fun S ha hfree => ?_⟩
  refine (H.call h S ha (fun b h1 h2 => hfree b h1 (by show b < B.size; rw [hz]; exact h2))).mono fun r w' ⟨v', ρ', τ', e1, e2, x⟩ => ?_
  obtain ⟨τ2, x2⟩ := x.part hp hB
  exact ⟨v', ρ', τ2, e1, e2, x2⟩

/-- a call that is known, and blocks that it leaves alone and that are asked for behind it -/
structure Use where
  e : Ent
  keep : List Nat
def UsesOk (P : Program) (X : List Use) : Prop := ∀ u, u ∈ X → EntOk P u.e
theorem usesOk_nil (P : Program) : UsesOk P [] := fun u h => by cases h
theorem usesOk_cons {P : Program} {u : Use} {X : List Use} (h : EntOk P u.e) (hs : UsesOk P X) : UsesOk P (u :: X) := fun x hx => by
  rcases List.mem_cons.1 hx with rfl | hx
  · exact h
  · exact hs x hx
noncomputable def addO (h : Tr AObj) (b : Nat) (x : Option AObj) : Tr AObj := Option.rec (motive := fun _ => Tr AObj) h (fun o => h.set o b) x
noncomputable def addT (A : AState) (keep : List Nat) (h : Tr AObj) : Tr AObj := List.rec (motive := fun _ => Tr AObj) h (fun b _ ih => addO ih b (A.get b)) keep
noncomputable def keptO (keep : List Nat) : AObj → Bool
  | .cells _ _ _ _ root _ _ => isIn root keep
  | _ => true
noncomputable def topO (keep : List Nat) : AObj → Bool
  | .cells _ _ _ _ _ _ top => isIn top keep
  | _ => true
noncomputable def keepOk (A L B : AState) (all : List Nat) (keep : List Nat) : Bool :=
  List.rec (motive := fun _ => Bool) true (fun b _ ih => (match A.get b, L.get b, B.get b with | some o, none, none => keptO all o && (topO all o && ih) | _, _, _ => false)) keep
noncomputable def Use.res (u : Use) (A : AState) : AState := ⟨addT A u.keep u.e.B.heap, u.e.B.size⟩
theorem addT_get {A : AState} {h : Tr AObj} : ∀ {keep : List Nat}, (∀ b ∈ keep, ∃ o, A.get b = some o) → ∀ b, (addT A keep h).get b = if b ∈ keep then A.get b else h.get b := by
  intro keep
  induction keep with
  | nil => intro _ b; simp; rfl
  | cons c cs ih =>
    intro hk b
    obtain ⟨o, ho⟩ := hk c (List.mem_cons_self ..)
    show (addO (addT A cs h) c (A.get c)).get b = _
    rw [ho]
    show ((addT A cs h).set o c).get b = _
    rw [Tr.get_set, ih (fun b hb => hk b (List.mem_cons_of_mem _ hb))]
    by_cases e : c = b
    · subst e; simp [ho]
    · rw [if_neg e]
      by_cases e2 : b ∈ cs
      · rw [if_pos e2, if_pos (List.mem_cons_of_mem _ e2)]
      · rw [if_neg e2, if_neg (by simp [e2, Ne.symm e])]
theorem keepOk_some {A L B : AState} {all : List Nat} : ∀ {keep : List Nat}, keepOk A L B all keep = true → ∀ b ∈ keep, ∃ o, A.get b = some o ∧ L.get b = none ∧ B.get b = none ∧ keptO all o = true ∧ topO all o = true := by
  intro keep
  induction keep with
  | nil => intro _ b hb; cases hb
  | cons c cs ih =>
    intro h b hb
    change (match A.get c, L.get c, B.get c with | some o, none, none => keptO all o && (topO all o && keepOk A L B all cs) | _, _, _ => false) = true at h
    split at h
    · rename_i o h1 h2 h3
      simp only [Bool.and_eq_true] at h
      rcases List.mem_cons.1 hb with rfl | hb
      · exact ⟨o, h1, h2, h3, h.1, h.2.1⟩
      · exact ih h.2.2 b hb
    · cases h

def joinT (keep : List Nat) (N : Nat) (τ τ2 : Nat → Option Nat) (r : Nat) : Option Nat := match τ r with
  | some f => if r < N ∧ f ∈ keep then some f else τ2 r
  | none => τ2 r
theorem use_ext {P : Program} {ρ ρ' : Ren} {τ τ1 τ2 : Nat → Option Nat} {A L B : AState} {w w' : World} {keep : List Nat} (S : Sim P ρ τ A w) (hz : A.size ≤ L.size)
    (t1 : ∀ r, τ1 r = τ r ∨ τ1 r = none) (t2 : ∀ r f, τ r = some f → L.get f = none → τ1 r = none) (hk : keepOk A L B keep keep = true) (x : Ext P ρ τ1 L w ρ' τ2 B w') :
    ∃ τ3, Ext P ρ τ A w ρ' τ3 ⟨addT A keep B.heap, B.size⟩ w' := by
  have K : ∀ b ∈ keep, ∃ o, A.get b = some o ∧ L.get b = none ∧ B.get b = none ∧ keptO keep o = true ∧ topO keep o = true := keepOk_some hk
  have G : ∀ b, (⟨addT A keep B.heap, B.size⟩ : AState).get b = if b ∈ keep then A.get b else B.get b := addT_get (fun b hb => let ⟨o, h, _⟩ := K b hb; ⟨o, h⟩)
  have Gk : ∀ b, b ∈ keep → (⟨addT A keep B.heap, B.size⟩ : AState).get b = A.get b := fun b hb => by rw [G, if_pos hb]
  have Gb : ∀ b o, B.get b = some o → (⟨addT A keep B.heap, B.size⟩ : AState).get b = some o ∧ b ∉ keep := fun b o hb => by
    have hn : b ∉ keep := fun hm => by obtain ⟨_, _, _, h, _⟩ := K b hm; rw [hb] at h; cases h
    exact ⟨by rw [G, if_neg hn]; exact hb, hn⟩
  have fam : ∀ b o, b ∈ keep → A.get b = some o → famOf b o ∈ keep := fun b o hb ho => by
    obtain ⟨o', h1, _, _, h4, _⟩ := K b hb
    rw [ho] at h1
    cases h1
    cases o with
    | cells cs d n es root own top => exact isIn_iff.1 h4
    | map _ => exact hb
    | strIter _ _ => exact hb
    | loop _ => exact hb
  have quiet : ∀ r f, τ r = some f → f ∈ keep → r < w.heap.size → τ1 r = none ∧ τ2 r = none := fun r f hr hf hlt => by
    obtain ⟨o, _, h2, _⟩ := K f hf
    have h := t2 r f hr h2
    exact ⟨h, (x.told r hlt).elim (fun e => e.trans h) id⟩
  have sz := x.size
  refine ⟨joinT keep w.heap.size τ τ2, x.le, fun b hb => x.same b (hb.elim (fun h => .inl (Nat.lt_of_lt_of_le h hz)) .inr), Nat.le_trans hz sz,
    ⟨x.frm.size, fun r hr ht => x.frm.keep r hr ((t1 r).elim (fun e => e.trans ht) id), x.frm.os, x.frm.out, x.frm.tape⟩, fun r hr => ?_, x.loops, ?_⟩
  · unfold joinT
    split
    · rename_i f hf
      split
      · exact .inl hf.symm
      · exact (x.told r hr).elim (fun e => (t1 r).imp (fun e' => e.trans e') (fun e' => e.trans e')) .inr
    · rename_i hf
      exact (x.told r hr).elim (fun e => (t1 r).imp (fun e' => e.trans e') (fun e' => e.trans e')) .inr
  have hτ : ∀ r, (∀ f, τ r = some f → f ∈ keep → r < w.heap.size → False) → joinT keep w.heap.size τ τ2 r = τ2 r := fun r h => by
    unfold joinT
    split
    · rename_i f hf
      rw [if_neg (fun hc => h f hf hc.2 hc.1)]
    · rfl
  refine ⟨fun b o hb => ?_, fun b o hb => ?_, fun b cs d n es root own top hb rcs rd rn res rtop hr => ?_, fun b o hb cs d n es root own hr => ?_, fun b hb => ?_, fun r f hf => ?_, x.sim.glob, x.sim.globs⟩
  · by_cases hm : b ∈ keep
    · rw [Gk b hm] at hb
      obtain ⟨i, h1, h2, h3, h4⟩ := S.obj b o hb
      have hf := fam b o hm hb
      refine ⟨i, x.le _ _ h1, Nat.lt_of_lt_of_le h2 x.frm.size, by unfold joinT; rw [h3]; simp only; rw [if_pos ⟨h2, hf⟩], ?_⟩
      refine (h4.mono x.le).keep (x.frm.keep _ h2 (quiet _ _ h3 hf h2).1) fun cs d n es root own top e hop => ?_
      subst e
      unfold AState.isOpen at hop ⊢
      split at hop
      · rename_i e; rw [if_pos e]; exact hop
      · rename_i e
        rw [if_neg e]
        unfold AState.ownOf at hop ⊢
        rw [Gk root hf] at hop
        exact hop
    · rw [G, if_neg hm] at hb
      obtain ⟨i, h1, h2, h3, h4⟩ := x.sim.obj b o hb
      refine ⟨i, h1, h2, ?_, ?_⟩
      · rw [hτ i.blk (fun f hf hfk hlt => by rw [(quiet _ f hf hfk hlt).2] at h3; cases h3)]
        exact h3
      · refine h4.keep rfl fun cs d n es root own top e hop => ?_
        subst e
        unfold AState.isOpen at hop ⊢
        split at hop
        · rename_i e; rw [if_pos e]; exact hop
        · rename_i e
          rw [if_neg e]
          unfold AState.ownOf at hop ⊢
          obtain ⟨o', r1, _⟩ := x.sim.root b _ hb
          rw [(Gb root o' r1).1] at hop
          change B.get root = some o' at r1
          rw [r1]
          exact hop
  · by_cases hm : b ∈ keep
    · rw [Gk b hm] at hb
      obtain ⟨o', q1, q2⟩ := S.root b o hb
      exact ⟨o', by rw [Gk _ (fam b o hm hb)]; exact q1, q2⟩
    · rw [G, if_neg hm] at hb
      obtain ⟨o', q1, q2⟩ := x.sim.root b o hb
      exact ⟨o', (Gb _ _ q1).1, q2⟩
  · by_cases hm : b ∈ keep
    · rw [Gk b hm] at hb
      have hf : root ∈ keep := fam b _ hm hb
      rw [Gk root hf] at hr
      obtain ⟨ot, i, j, g1, g2, g3, g4, g5⟩ := S.top b _ _ _ _ _ _ _ hb _ _ _ _ _ hr
      obtain ⟨o', k1, _, _, _, k5⟩ := K root hf
      rw [hr] at k1
      cases k1
      exact ⟨ot, i, j, by rw [Gk rtop (isIn_iff.1 k5)]; exact g1, g2, x.le _ _ g3, x.le _ _ g4, g5⟩
    · rw [G, if_neg hm] at hb
      obtain ⟨o', q1, q2⟩ := x.sim.root b _ hb
      rw [(Gb root _ q1).1] at hr
      change B.get root = some o' at q1
      cases hr
      obtain ⟨ot, i, j, g1, g2, g3, g4, g5⟩ := x.sim.top b _ _ _ _ _ _ _ hb _ _ _ _ _ q1
      exact ⟨ot, i, j, (Gb _ _ g1).1, g2, g3, g4, g5⟩
  · by_cases hm : b ∈ keep
    · rw [Gk b hm] at hb
      rw [Gk _ (fam b o hm hb)] at hr
      exact S.solo b o hb cs d n es root own hr
    · rw [G, if_neg hm] at hb
      obtain ⟨o', q1, q2⟩ := x.sim.root b _ hb
      rw [(Gb _ _ q1).1] at hr
      cases hr
      exact x.sim.solo b o hb cs d n es root own q1
  · by_cases hm : b ∈ keep
    · obtain ⟨o, h1, _⟩ := K b hm
      rw [S.fresh b (by have : B.size ≤ b := hb; omega)] at h1
      cases h1
    · rw [G, if_neg hm]
      exact x.sim.fresh b hb
  · unfold joinT at hf
    split at hf
    · rename_i f' hf'
      split at hf
      · rename_i hc
        cases hf
        obtain ⟨o, h1, _⟩ := K f hc.2
        exact ⟨o, by rw [Gk f hc.2]; exact h1⟩
      · obtain ⟨o, ho⟩ := x.sim.terr r f hf
        exact ⟨o, (Gb f o ho).1⟩
    · obtain ⟨o, ho⟩ := x.sim.terr r f hf
      exact ⟨o, (Gb f o ho).1⟩

noncomputable def isEnt (f : FuncId) (args : List Value) (A : AState) (u : Use) : Bool :=
  Nat.beq u.e.f f && (Nat.ble A.size u.e.A.size && (eqVL (eqV 7) u.e.args args && (subT u.e.A.heap A.heap && keepOk A u.e.A u.e.B u.keep u.keep)))
noncomputable def findX (X : List Use) (f : FuncId) (args : List Value) (A : AState) : VA :=
  List.rec (motive := fun _ => VA) none (fun u _ ih => Bool.rec (motive := fun _ => VA) ih (some (u.e.v, u.res A)) (isEnt f args A u)) X
theorem findX_some {X : List Use} {f : FuncId} {args : List Value} {A A' : AState} {v : Value} (h : findX X f args A = some (v, A')) :
    ∃ u ∈ X, u.e.f = f ∧ u.e.args = args ∧ A.size ≤ u.e.A.size ∧ subT u.e.A.heap A.heap = true ∧ keepOk A u.e.A u.e.B u.keep u.keep = true ∧ u.e.v = v ∧ u.res A = A' := by
  induction X with
  | nil => cases h
  | cons u X ih =>
    change (Bool.rec (motive := fun _ => VA) (findX X f args A) (some (u.e.v, u.res A)) (isEnt f args A u) : VA) = some (v, A') at h
    cases he : isEnt f args A u with
    | false => rw [he] at h; obtain ⟨u', h1, h2⟩ := ih h; exact ⟨u', List.mem_cons_of_mem _ h1, h2⟩
    | true =>
      rw [he] at h
      cases h
      unfold isEnt at he
      simp only [Bool.and_eq_true] at he
      obtain ⟨h1, h2, h3, h4, h5⟩ := he
      exact ⟨u, List.mem_cons_self .., Nat.eq_of_beq_eq_true h1, eqVL_eq (eqV_eq 7) h3, Nat.le_of_ble_eq_true h2, h4, h5, rfl, rfl⟩

noncomputable def runX (P : Program) (O : Known) (X : List Use) : Nat → Fns
  | 0 => ⟨fun _ _ _ => none, fun _ _ _ => none, fun _ _ _ => none⟩
  | n + 1 =>
    ⟨fun f args A => match findX X f args A with
      | some r => some r
      | none => match O f args with
        | some v => some (v, A)
        | none => callBody P (runX P O X n) f args A, roundBody P (runX P O X n),
     fun c E A => (stepC P (runX P O X n) c E A).bind fun r => match r with
      | (.normal, E', A') => (runX P O X n).loop c E' A'
      | r => some r⟩

theorem runX_ok {P : Program} (hmix : P.follows .mixedOrders = true) {O : Known} (hO : KnownOk P O) {X : List Use} (hX : UsesOk P X) : ∀ n, FnsOk P (runX P O X n) := by
  intro n
  induction n with
  | zero => exact ⟨fun h => (by cases h), fun h => (by cases h), fun h => (by cases h), fun h => (by cases h), fun h => (by cases h), fun h => (by cases h), fun h => (by cases h)⟩
  | succ n ih =>
    have hd' : DrawOk P (runX P O X n) := drawOk hmix ih
    have hloop : ∀ {c : Code} {E E' : Env} {A A' : AState} {x : AExit}, (runX P O X (n + 1)).loop c E A = some (x, E', A') → A.size ≤ A'.size ∧ Gives' P [.code c, .inLoop c] E A x E' A' := by
      intro c E E' A A' x h
      change (stepC P (runX P O X n) c E A).bind _ = _ at h
      simp only [Option.bind_eq_some_iff] at h
      obtain ⟨⟨y, E1, A1⟩, h1, h2⟩ := h
      have hc := stepC_gives ih hd' c h1
      have other : (y = x ∧ E1 = E' ∧ A1 = A' ∧ ∀ h : x = .normal, False) → A.size ≤ A'.size ∧ Gives' P [.code c, .inLoop c] E A x E' A' := by
        rintro ⟨rfl, rfl, rfl, hx⟩
        refine ⟨hc.1, fun {ρ τ w a lo b} S hE hfree hfo k cs => ?_⟩
        obtain ⟨ρ1, τ1, a1, w1, e1, r1, f1, l1⟩ := hc.2 S hE hfree hfo (.inLoop c :: k) cs
        exact ⟨ρ1, τ1, a1, w1, e1, r1, f1, l1.pass (fun _ => rfl) hx⟩
      cases y with
      | exit id => cases h2; exact other ⟨rfl, rfl, rfl, fun h => by cases h⟩
      | ret => cases h2; exact other ⟨rfl, rfl, rfl, fun h => by cases h⟩
      | normal =>
        have h2' : (runX P O X n).loop c E1 A1 = some (x, E', A') := h2
        have hs := ih.loopSize h2'
        refine ⟨Nat.le_trans hc.1 hs, fun {ρ τ w a lo b} S hE hfree hfo k cs => ?_⟩
        obtain ⟨ρ1, τ1, a1, w1, e1, r1, f1, l1⟩ := hc.2 S hE (hfree.head hs) hfo (.inLoop c :: k) cs
        obtain ⟨ρ2, τ2, a2, w2, e2, r2, f2, l2⟩ := ih.loop h2' e1.sim r1 (hfree.tail e1) f1 k cs
        refine ⟨ρ2, τ2, a2, w2, e1.trans e2, r2, f2, ?_⟩
        cases l1 with | normal s1 => exact .of_steps (s1.trans (.one stepR_inLoop)) l2
    have hcall : ∀ {f : FuncId} {args : List Value} {A A' : AState} {v : Value}, (runX P O X (n + 1)).call f args A = some (v, A') → A.size ≤ A'.size ∧ (∃ fn, P.funcs[f]? = some fn ∧ (fn.name == "runtime.NumGoroutine") = false ∧ fn.body.isSome = true) ∧
        ∀ {ρ : Ren} {τ : Nat → Option Nat} {w : World} {args' : Array Value}, Sim P ρ τ A w → VRels ρ args args'.toList → Free ρ A A' →
          Calls P f args' w fun e w' => ∃ v' ρ' τ', e = .returned v' ∧ VRel ρ' v v' ∧ Ext P ρ τ A w ρ' τ' A' w' := by
      intro f args A A' v h
      change (match findX X f args A with | some r => some r | none => match O f args with | some v => some (v, A) | none => callBody P (runX P O X n) f args A) = _ at h
      split at h
      · rename_i r hr
        cases h
        obtain ⟨u, he, rfl, rfl, hz, hsub, hk, rfl, rfl⟩ := findX_some hr
        have E := hX u he
        refine ⟨Nat.le_trans hz E.size, E.body, fun {ρ τ w args'} S ha hfree => ?_⟩
        obtain ⟨τ0, t1, t2, S0⟩ := part_sim (S.gap hz) (L := u.e.A) (by unfold partB; rw [Bool.and_eq_true]; exact ⟨Nat.beq_refl _, hsub⟩) E.closed
        refine (E.calls S0 ha (fun b h1 h2 => hfree b (Nat.le_trans hz h1) h2)).mono fun r w' ⟨v', ρ', τ', e1, e2, x⟩ => ?_
        obtain ⟨τ3, x3⟩ := use_ext S hz t1 t2 hk x
        exact ⟨v', ρ', τ3, e1, e2, x3⟩
      split at h
      · rename_i v1 hv
        cases h
        obtain ⟨k1, k2, k3, k4⟩ := hO f args v hv
        refine ⟨Nat.le_refl _, k3, fun {ρ τ w args'} S ha _ => ?_⟩
        have e := ha.plain_eq k1
        have e' : args' = args.toArray := Array.ext' (by rw [e])
        rw [e']
        refine (k4 w).mono fun en w' ⟨h1, h2, h3⟩ => ?_
        refine ⟨v, ρ, fun r => if r < w.heap.size then τ r else none, h1, .plain k2, ⟨Ren.le_refl _, fun _ _ => rfl, Nat.le_refl _, ⟨h2.size, fun r hr _ => h2.rows r hr, h2.os, h2.out, h3⟩, fun r hr => .inl (if_pos hr),
          fun r R hR => ⟨R, by rw [h2.rows r (Array.getElem?_eq_some_iff.1 hR).1]; exact hR⟩, ?_⟩⟩
        exact S.aside h2.size (fun r f _ hr => h2.rows r hr) (fun r hr => if_pos hr) (fun r f hf => by
          split at hf
          · exact hf
          · cases hf)
      · exact callBody_ok ih hd' h
    exact ⟨fun h => (hcall h).1, fun h => (hcall h).2.1, fun h => (hcall h).2.2, fun h => (roundBody_ok ih hd' h).1, fun h => (roundBody_ok ih hd' h).2, fun h => (hloop h).1, fun h => (hloop h).2⟩

/-! ### the quick machine with such calls -/
section
variable (P : Program) (tab : PlanTab)
noncomputable def callX (gl : AnsTab) (pl : List FuncId) (m0 : Nat) (K : FF) (f : FuncId) (args : List Value) (A : AState) : VA :=
  Bool.rec (motive := fun _ => VA) (Option.rec (motive := fun _ => VA) ((fnG P tab f).f K args A) (fun v => List.rec (motive := fun _ => VA) (some (v, A)) (fun _ _ _ => none) args) (ansOf f gl)) (memoG P tab m0 f args A) (isIn f pl)
noncomputable def Kx (gl : AnsTab) (pl : List FuncId) (X : List Use) (m0 m : Nat) : FF := Nat.rec (motive := fun _ => FF) .zero (fun _ K => .succ
  (fun f args A => Option.rec (motive := fun _ => VA) (callX P tab gl pl m0 K f args A) (fun r => some r) (findX X f args A))
  (fun l args A => roundG P K l args A) K) m
end
variable {P : Program} {tab : PlanTab}
theorem callX_some (ht : TabsOk P tab) {gl : AnsTab} {pl : List FuncId} {m0 : Nat} {K : FF} {F : Fns} (hF : FOk P K F) {f : FuncId} {a : List Value} {A : AState} {x : Value × AState} (h : callX P tab gl pl m0 K f a A = some x) :
    (match memoO P tab gl pl m0 f a with | some v => some (v, A) | none => callBody P F f a A) = some x := by
  unfold callX at h
  cases hi : isIn f pl with
  | false =>
    rw [hi] at h
    cases ha : ansOf f gl with
    | none =>
      have : memoO P tab gl pl m0 f a = none := by unfold memoO; rw [hi, ha]; cases a <;> rfl
      rw [this]
      rw [ha] at h
      exact fnG_some ht hF h
    | some v =>
      rw [ha] at h
      cases a with
      | nil =>
        have : memoO P tab gl pl m0 f [] = some v := by unfold memoO; rw [hi]; exact ha
        rw [this]
        exact h
      | cons x xs => cases h
  | true =>
    rw [hi] at h
    have e : memoO P tab gl pl m0 f a = memoV P tab m0 f a := by unfold memoO; rw [hi]; rfl
    rw [e]
    change memoG P tab m0 f a A = some x at h
    unfold memoG at h
    rcases normL_or none a (fun args => Option.rec (motive := fun _ => VA) none (fun v => some (v, A)) (memoV P tab m0 f args)) with h1 | h1
    · rw [h1] at h; cases h
    · rw [h1] at h
      cases hv : memoV P tab m0 f a with
      | none => rw [hv] at h; cases h
      | some v => rw [hv] at h; exact h
theorem Kx_ok (ht : TabsOk P tab) (gl : AnsTab) (pl : List FuncId) (X : List Use) (m0 : Nat) : ∀ m, FOk P (Kx P tab gl pl X m0 m) (runX P (memoO P tab gl pl m0) X m) := by
  intro m
  induction m with
  | zero => exact .zero
  | succ m ih =>
    refine .succ (F0 := runX P (memoO P tab gl pl m0) X m) ih (fun {f a A x} h => ?_) (fun {l a A x} h => ?_) (fun b E A => rfl)
    · show (match findX X f a A with | some r => some r | none => match memoO P tab gl pl m0 f a with | some v => some (v, A) | none => callBody P (runX P (memoO P tab gl pl m0) X m) f a A) = some x
      cases hf : findX X f a A with
      | some r => rw [hf] at h; exact h
      | none => rw [hf] at h; exact callX_some ht ih h
    · exact roundG_some ih h

/-- a call's entry, by the quick machine -/
noncomputable def entR (e : Ent) (r : VA) : Bool := Option.rec (motive := fun _ => Bool) false (fun p => Prod.rec (motive := fun _ => Bool) (fun v A => Bool.rec false (partB e.B A) (eqV 7 e.v v)) p) r
noncomputable def entB (P : Program) (tab : PlanTab) (gl : AnsTab) (pl : List FuncId) (X : List Use) (m0 m : Nat) (e : Ent) : Bool :=
  Bool.rec false (Bool.rec false (entR e ((fnG P tab e.f).f (Kx P tab gl pl X m0 m) e.args e.A)) (closedB e.B)) (closedB e.A)
theorem entB_ok (hmix : P.follows .mixedOrders = true) (ht : TabsOk P tab) {gl : AnsTab} (hg : AnsOk P gl) {pl : List FuncId} {X : List Use} (hX : UsesOk P X) {m0 m : Nat} {e : Ent} (h : entB P tab gl pl X m0 m e = true) : EntOk P e := by
  obtain ⟨h1, h2⟩ := bandR h
  obtain ⟨h2, h3⟩ := bandR h2
  cases hr : (fnG P tab e.f).f (Kx P tab gl pl X m0 m) e.args e.A with
  | none => rw [hr] at h3; cases h3
  | some r =>
    obtain ⟨v, A1⟩ := r
    rw [hr] at h3
    obtain ⟨h4, h5⟩ := bandR h3
    obtain rfl := eqV_eq _ _ _ h4
    refine ent_ok (F := ⟨callBody P (runX P (memoO P tab gl pl m0) X m), (runX P (memoO P tab gl pl m0) X (m + 1)).round, (runX P (memoO P tab gl pl m0) X (m + 1)).loop⟩) ?_ (fnG_some ht (Kx_ok ht gl pl X m0 m) hr) h1 h5 h2
    have H := runX_ok hmix (memo_known hmix ht hg pl m0) hX (m + 1)
    have H0 := runX_ok hmix (memo_known hmix ht hg pl m0) hX m
    have hd := drawOk hmix H0
    exact ⟨fun h => (callBody_ok H0 hd h).1, fun h => (callBody_ok H0 hd h).2.1, fun h => (callBody_ok H0 hd h).2.2, H.roundSize, H.round, H.loopSize, H.loop⟩
end Go.Ag
namespace Go.Ag
/-- whatever the machine tells of a law's own code, with calls that are known, the program does -/
theorem knowsB {P : Program} (hmix : P.follows .mixedOrders = true) {O : Known} (hO : KnownOk P O) {X : List Use} (hX : UsesOk P X) {n : Nat} {f : FuncId} {args : List Value} {v : Value} {A' : AState}
    (h : callBody P (runX P O X n) f args ⟨.nil, P.globals.size⟩ = some (v, A')) (hp : args.all plainV = true) (hv : plainV v = true) : Knows P f args v := by
  have H0 := runX_ok hmix hO hX n
  have hb := callBody_ok H0 (drawOk hmix H0) h
  refine ⟨hp, hv, hb.2.1, fun w => ?_⟩
  have hargs : VRels (fun g => if g < P.globals.size then some ⟨g, 0, 0, 0, 0⟩ else none) args args.toArray.toList := by
    simp only
    clear hb h
    induction args with
    | nil => exact .nil
    | cons x xs ih =>
      simp only [List.all_cons, Bool.and_eq_true] at hp
      exact .cons (.plain hp.1) (ih hp.2)
  refine (hb.2.2 (sim_start P w) hargs (fun b h1 _ => ?_)).mono fun e w' hR => ?_
  · show (if b < P.globals.size then _ else none) = none
    rw [if_neg (Nat.not_lt.2 h1)]
  · obtain ⟨v', ρ', τ', rfl, r1, x⟩ := hR
    exact ⟨by rw [r1.plain_eq hv], ⟨x.frm.os, x.frm.out, x.frm.size, fun r hr => x.frm.keep r hr rfl⟩, x.frm.tape⟩
theorem quickX_true {P : Program} {tab : PlanTab} (hmix : P.follows .mixedOrders = true) (ht : TabsOk P tab) {gl : AnsTab} (hg : AnsOk P gl) {pl : List FuncId} {X : List Use} (hX : UsesOk P X) {m0 m : Nat} {f : FuncId} {args : List Value}
    (h : tellsTrue ((fnG P tab f).f (Kx P tab gl pl X m0 m) args ⟨.nil, P.globals.size⟩) = true) (hp : args.all plainV = true) : Knows P f args (.bool true) := by
  obtain ⟨A', e⟩ := tellsTrue_some h
  exact knowsB hmix (memo_known hmix ht hg pl m0) hX (fnG_some ht (Kx_ok ht gl pl X m0 m) e) hp rfl
theorem loop_partX {P : Program} {W : Parts} (hs : SpOk P W) (O : Known) (X : List Use) : ∀ n, LoopPart P W (runX P O X n) := by
  intro n
  induction n with
  | zero => intro c E E' A x E1 A1 _ _ hr; cases hr
  | succ n ih =>
    intro c E E' A x E1 A1 hc h hr
    change (stepC P (runX P O X n) c E A).bind _ = _ at hr
    show ∃ E1', (stepC P (runX P O X n) c E' A).bind _ = _ ∧ _
    obtain ⟨⟨y, E2, A2⟩, h1, h2⟩ := Option.bind_eq_some_iff.1 hr
    obtain ⟨E2', h3, h4⟩ := stepC_part hs ih hc h h1
    rw [h3]
    simp only [Option.bind_some]
    cases y with
    | normal => exact ih hc h4 h2
    | exit id => cases h2; exact ⟨E2', rfl, h4⟩
    | ret => cases h2; exact ⟨E2', rfl, h4⟩
theorem quickX_part {P : Program} {tab : PlanTab} (hmix : P.follows .mixedOrders = true) (ht : TabsOk P tab) {gl : AnsTab} (hg : AnsOk P gl) {pl : List FuncId} {X : List Use} (hX : UsesOk P X) {m0 m : Nat} {f : FuncId} {args args' : List Value} {W : Parts} (hs : SpOk P W)
    (h : tellsTrue ((fnG P tab f).f (Kx P tab gl pl X m0 m) args ⟨.nil, P.globals.size⟩) = true) (hf : okFn P W f = true) (hl : args.length = args'.length)
    (hv : ∀ t : Nat, VPart W t ((args[t]?).getD undef) ((args'[t]?).getD undef)) (hp : args'.all plainV = true) : Knows P f args' (.bool true) := by
  obtain ⟨A', e⟩ := tellsTrue_some h
  exact knowsB hmix (memo_known hmix ht hg pl m0) hX (body_part hs (loop_partX hs _ X m) hf hl hv (fnG_some ht (Kx_ok ht gl pl X m0 m) e)) hp rfl
end Go.Ag
