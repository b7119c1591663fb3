/-
  An abstract machine for Go functions, over memory as a function of blocks: how operations come out. Nothing is asked.
-/
import Derived.Test.YtfgbeecipklkdaaGreatVAg4
set_option linter.all false
namespace Go.Ag
set_option linter.unusedVariables false
def natEqL : List UInt8 → List UInt8 → Bool
  | [], [] => true
  | x :: xs, y :: ys => Nat.beq x.toNat y.toNat && natEqL xs ys
  | _, _ => false
theorem natEqL_eq : ∀ {a b : List UInt8}, natEqL a b = true → a = b
  | [], [], _ => rfl
  | x :: xs, y :: ys, h => by
    unfold natEqL at h
    rw [Bool.and_eq_true] at h
    rw [UInt8.toNat_inj.1 (Nat.eq_of_beq_eq_true h.1), natEqL_eq h.2]
  | [], _ :: _, h => by cases h
  | _ :: _, [], h => by cases h
def strEq (a b : ByteArray) : Bool := natEqL a.data.toList b.data.toList
theorem strEq_eq {a b : ByteArray} (h : strEq a b = true) : a = b := by
  have := Array.ext' (natEqL_eq h)
  cases a; cases b
  simp only at this
  rw [this]
def addrEq : Option Addr → Option Addr → Bool
  | none, none => true
  | some ⟨b, o, none⟩, some ⟨c, p, none⟩ => Nat.beq b c && Nat.beq o p
  | _, _ => false
theorem addrEq_eq {a b : Option Addr} (h : addrEq a b = true) : a = b := by
  unfold addrEq at h
  split at h
  · rfl
  · rw [Bool.and_eq_true] at h
    rw [Nat.eq_of_beq_eq_true h.1, Nat.eq_of_beq_eq_true h.2]
  · cases h
def optEq : Option Nat → Option Nat → Bool
  | none, none => true
  | some a, some b => Nat.beq a b
  | _, _ => false
theorem optEq_eq {a b : Option Nat} (h : optEq a b = true) : a = b := by
  unfold optEq at h
  split at h
  · rfl
  · rw [Nat.eq_of_beq_eq_true h]
  · cases h
def intEq : Int → Int → Bool
  | .ofNat a, .ofNat b => Nat.beq a b
  | .negSucc a, .negSucc b => Nat.beq a b
  | _, _ => false
theorem intEq_eq {a b : Int} (h : intEq a b = true) : a = b := by
  unfold intEq at h
  split at h
  · rw [Nat.eq_of_beq_eq_true h]
  · rw [Nat.eq_of_beq_eq_true h]
  · cases h
noncomputable def eqVL {α : Type} (e : α → α → Bool) (l : List α) : List α → Bool :=
  List.rec (motive := fun _ => List α → Bool) (fun m => match m with | [] => true | _ => false) (fun x _ ih m => match m with | y :: ys => Bool.rec false (ih ys) (e x y) | [] => false) l
theorem eqVL_eq {α : Type} {e : α → α → Bool} (he : ∀ x y, e x y = true → x = y) : ∀ {l m : List α}, eqVL e l m = true → l = m := by
  intro l
  induction l with
  | nil => intro m h; cases m with
    | nil => rfl
    | cons y ys => cases h
  | cons x xs ih => intro m h; cases m with
    | nil => cases h
    | cons y ys =>
      change (Bool.rec false (eqVL e xs ys) (e x y) : Bool) = true at h
      cases hx : e x y with
      | false => rw [hx] at h; cases h
      | true => rw [hx] at h; rw [he _ _ hx, ih h]
noncomputable def eqV : Nat → Value → Value → Bool := Nat.rec (motive := fun _ => Value → Value → Bool) (fun _ _ => false) fun _ ih a b =>
  match a, b with
  | .bool a, .bool b => a == b
  | .int k a, .int l b => decide (k = l) && intEq a b
  | .string a, .string b => strEq a b
  | .pointer a, .pointer b => addrEq a b
  | .slice a n c, .slice b m d => addrEq a b && (Nat.beq n m && Nat.beq c d)
  | .map a, .map b => optEq a b
  | .func (.func f) x y, .func (.func g) x' y' => Nat.beq f g && (eqVL ih x.toList x'.toList && eqVL ih y.toList y'.toList)
  | .nilFunc, .nilFunc => true
  | .iface t a, .iface u b => Nat.beq t u && ih a b
  | .nilIface, .nilIface => true
  | .agg a, .agg b => eqVL ih a.toList b.toList
  | .tuple a, .tuple b => eqVL ih a.toList b.toList
  | _, _ => false
theorem eqV_succ (n : Nat) (a b : Value) : eqV (n + 1) a b = (match a, b with
  | .bool a, .bool b => a == b
  | .int k a, .int l b => decide (k = l) && intEq a b
  | .string a, .string b => strEq a b
  | .pointer a, .pointer b => addrEq a b
  | .slice a n c, .slice b m d => addrEq a b && (Nat.beq n m && Nat.beq c d)
  | .map a, .map b => optEq a b
  | .func (.func f) x y, .func (.func g) x' y' => Nat.beq f g && (eqVL (eqV n) x.toList x'.toList && eqVL (eqV n) y.toList y'.toList)
  | .nilFunc, .nilFunc => true
  | .iface t a, .iface u b => Nat.beq t u && eqV n a b
  | .nilIface, .nilIface => true
  | .agg a, .agg b => eqVL (eqV n) a.toList b.toList
  | .tuple a, .tuple b => eqVL (eqV n) a.toList b.toList
  | _, _ => false) := rfl
theorem eqV_eq : ∀ (n : Nat) (a b : Value), eqV n a b = true → a = b := by
  intro n
  induction n with
  | zero => intro a b h; cases h
  | succ n ih =>
    intro a b h
    rw [eqV_succ] at h
    split at h
    · rw [eq_of_beq h]
    · rw [Bool.and_eq_true, decide_eq_true_eq] at h; rw [h.1, intEq_eq h.2]
    · rw [strEq_eq h]
    · rw [addrEq_eq h]
    · rw [Bool.and_eq_true, Bool.and_eq_true] at h; rw [addrEq_eq h.1, Nat.eq_of_beq_eq_true h.2.1, Nat.eq_of_beq_eq_true h.2.2]
    · rw [optEq_eq h]
    · rw [Bool.and_eq_true, Bool.and_eq_true] at h; rw [Nat.eq_of_beq_eq_true h.1, Array.ext' (eqVL_eq ih h.2.1), Array.ext' (eqVL_eq ih h.2.2)]
    · rfl
    · rw [Bool.and_eq_true] at h; rw [Nat.eq_of_beq_eq_true h.1, ih _ _ h.2]
    · rfl
    · rw [Array.ext' (eqVL_eq ih h)]
    · rw [Array.ext' (eqVL_eq ih h)]
    · cases h
noncomputable def oSome {α : Type} (e : α → α → Bool) : Option α → Option α → Bool
  | none, none => true
  | some x, some y => e x y
  | _, _ => false
theorem oSome_eq {α : Type} {e : α → α → Bool} (he : ∀ x y, e x y = true → x = y) {x y : Option α} (h : oSome e x y = true) : x = y := by
  unfold oSome at h
  split at h
  · rfl
  · rw [he _ _ h]
  · cases h
noncomputable def trEq {α : Type} (e : α → α → Bool) (s : Tr α) : Tr α → Bool :=
  Tr.rec (motive := fun _ => Tr α → Bool) (fun t => match t with | .nil => true | _ => false)
    (fun _ v _ ihl ihr t => match t with | .node l' v' r' => Bool.rec false (Bool.rec false (ihr r') (ihl l')) (oSome e v v') | .nil => false) s
theorem bandR {a b : Bool} (h : (Bool.rec false b a : Bool) = true) : a = true ∧ b = true := by
  cases a with
  | false => cases h
  | true => exact ⟨rfl, h⟩
theorem trEq_eq {α : Type} {e : α → α → Bool} (he : ∀ x y, e x y = true → x = y) : ∀ {s t : Tr α}, trEq e s t = true → s = t := by
  intro s
  induction s with
  | nil => intro t h; cases t with
    | nil => rfl
    | node l v r => cases h
  | node l v r ihl ihr => intro t h; cases t with
    | nil => cases h
    | node l' v' r' =>
      obtain ⟨h1, h2⟩ := bandR h
      obtain ⟨h2, h3⟩ := bandR h2
      rw [oSome_eq he h1, ihl h2, ihr h3]
noncomputable def pairEq (p q : Value × Value) : Bool := eqV 7 p.1 q.1 && eqV 7 p.2 q.2
theorem pairEq_eq (p q : Value × Value) (h : pairEq p q = true) : p = q := by
  unfold pairEq at h
  rw [Bool.and_eq_true] at h
  exact Prod.ext (eqV_eq _ _ _ h.1) (eqV_eq _ _ _ h.2)
noncomputable def oEq : AObj → AObj → Bool
  | .cells cs d n es root own top, .cells cs' d' n' es' root' own' top' => Nat.beq n n' && (Nat.beq es es' && (Nat.beq root root' && (Nat.beq own own' && (Nat.beq top top' && (eqVL (eqV 7) d d' && trEq (eqV 7) cs cs')))))
  | .map es, .map es' => eqVL pairEq es es'
  | .strIter s p, .strIter s' p' => strEq s s' && Nat.beq p p'
  | _, _ => false
theorem oEq_eq (a b : AObj) (h : oEq a b = true) : a = b := by
  unfold oEq at h
  split at h
  · simp only [Bool.and_eq_true] at h
    obtain ⟨h1, h2, h3, h4, h5, h6, h7⟩ := h
    rw [Nat.eq_of_beq_eq_true h1, Nat.eq_of_beq_eq_true h2, Nat.eq_of_beq_eq_true h3, Nat.eq_of_beq_eq_true h4, Nat.eq_of_beq_eq_true h5, eqVL_eq (eqV_eq 7) h6, trEq_eq (eqV_eq 7) h7]
  · rw [eqVL_eq pairEq_eq h]
  · rw [Bool.and_eq_true] at h
    rw [strEq_eq h.1, Nat.eq_of_beq_eq_true h.2]
  · cases h
noncomputable def oSub (x y : Option AObj) : Bool :=
  match x, y with
  | none, _ => true
  | some a, some b => oEq a b
  | _, _ => false
noncomputable def subT (s : Tr AObj) : Tr AObj → Bool :=
  Tr.rec (motive := fun _ => Tr AObj → Bool) (fun _ => true)
    (fun _ v _ ihl ihr t => match t with | .node l' v' r' => Bool.rec false (Bool.rec false (ihr r') (ihl l')) (oSub v v') | .nil => false) s
theorem oSub_eq {x y : Option AObj} (h : oSub x y = true) {o : AObj} (hx : x = some o) : y = some o := by
  subst hx
  cases y with
  | none => cases h
  | some b => rw [oEq_eq _ _ h]
theorem subT_get : ∀ {s t : Tr AObj}, subT s t = true → ∀ b o, s.get b = some o → t.get b = some o := by
  intro s
  induction s with
  | nil => intro t h b o hb; cases hb
  | node l v r ihl ihr =>
    intro t h b o hb
    cases t with
    | nil => cases h
    | node l' v' r' =>
      obtain ⟨h1, h2⟩ := bandR h
      obtain ⟨h2, h3⟩ := bandR h2
      cases b with
      | zero => rw [Tr.get_node_zero] at hb ⊢; exact oSub_eq h1 hb
      | succ b =>
        rw [Tr.get_node_succ] at hb ⊢
        split
        · rename_i e; rw [if_pos e] at hb; exact ihl h2 _ _ hb
        · rename_i e; rw [if_neg e] at hb; exact ihr h3 _ _ hb
noncomputable def famB (A : AState) : AObj → Bool
  | .cells _ _ _ _ root _ _ => (match A.get root with
    | some (.cells _ _ _ _ root' _ top') => Nat.beq root' root && (A.get top').isSome
    | _ => false)
  | .loop _ => false
  | .ro _ _ _ => false
  | _ => true
noncomputable def allT (p : AObj → Bool) (s : Tr AObj) : Bool :=
  Tr.rec (motive := fun _ => Bool) true (fun _ v _ ihl ihr => Bool.rec false (Bool.rec false ihr ihl) (match v with | some o => p o | none => true)) s
theorem allT_get {p : AObj → Bool} : ∀ {s : Tr AObj}, allT p s = true → ∀ b o, s.get b = some o → p o = true := by
  intro s
  induction s with
  | nil => intro h b o hb; cases hb
  | node l v r ihl ihr =>
    intro h b o hb
    obtain ⟨h1, h2⟩ := bandR h
    obtain ⟨h2, h3⟩ := bandR h2
    cases b with
    | zero => rw [Tr.get_node_zero] at hb; subst hb; exact h1
    | succ b =>
      rw [Tr.get_node_succ] at hb
      split at hb
      · exact ihl h2 _ _ hb
      · exact ihr h3 _ _ hb
noncomputable def closedB (A : AState) : Bool := allT (famB A) A.heap
noncomputable def partB (L A : AState) : Bool := Nat.beq L.size A.size && subT L.heap A.heap
noncomputable def cutT (L : AState) (τ : Nat → Option Nat) (r : Nat) : Option Nat := match τ r with
  | some f => (match L.get f with
    | some _ => some f
    | none => none)
  | none => none
theorem famB_cells {A : AState} {cs : Tr Value} {d : List Value} {n es root own top : Nat} (h : famB A (.cells cs d n es root own top) = true) :
    ∃ cs' d' n' es' own' top', A.get root = some (.cells cs' d' n' es' root own' top') ∧ (A.get top').isSome = true := by
  change (match A.get root with
    | some (.cells _ _ _ _ root' _ top') => Nat.beq root' root && (A.get top').isSome
    | _ => false) = true at h
  split at h
  · rename_i h1
    rw [Bool.and_eq_true] at h
    rw [Nat.eq_of_beq_eq_true h.1] at h1
    exact ⟨_, _, _, _, _, _, h1, h.2⟩
  · cases h
theorem part_sim {P : Program} {ρ : Ren} {τ : Nat → Option Nat} {A L : AState} {w : World} (S : Sim P ρ τ A w) (hp : partB L A = true) (hc : closedB L = true) :
    ∃ τ', (∀ r, τ' r = τ r ∨ τ' r = none) ∧ (∀ r f, τ r = some f → L.get f = none → τ' r = none) ∧ Sim P ρ τ' L w := by
  unfold partB at hp
  rw [Bool.and_eq_true] at hp
  have hz := Nat.eq_of_beq_eq_true hp.1
  have hs : ∀ b o, L.get b = some o → A.get b = some o := subT_get hp.2
  have hfam : ∀ b o, L.get b = some o → famB L o = true := allT_get hc
  have hroot : ∀ b o, L.get b = some o → ∃ o', L.get (famOf b o) = some o' ∧ A.get (famOf b o) = some o' := fun b o hb => by
    have h := hfam b o hb
    cases o with
    | cells cs d n es root own top =>
      obtain ⟨_, _, _, _, _, _, h1, _⟩ := famB_cells h
      exact ⟨_, h1, hs _ _ h1⟩
    | loop _ => cases h
    | ro _ _ _ => cases h
    | map _ => exact ⟨_, hb, hs _ _ hb⟩
    | strIter _ _ => exact ⟨_, hb, hs _ _ hb⟩
  refine ⟨cutT L τ, fun r => ?_, fun r f hf hn => (by unfold cutT; rw [hf]; simp only; rw [hn]), ?_⟩
  · unfold cutT
    split
    · rename_i f hf
      split
      · exact .inl hf.symm
      · exact .inr rfl
    · exact .inr rfl
  refine ⟨fun b o hb => ?_, fun b o hb => ?_, fun b cs d n es root own top hb rcs rd rn res rtop hr => ?_, fun b o hb cs d n es root own hr => ?_, fun b o hb => S.ro b o (hs b o hb), fun b hb => ?_, fun r f hf => ?_, S.glob, by rw [hz]; exact S.globs⟩
  · obtain ⟨i, h1, h2, h3, h4⟩ := S.obj b o (hs b o hb)
    obtain ⟨o', r1, r2⟩ := hroot b o hb
    refine ⟨i, h1, h2, by unfold cutT; rw [h3]; simp only; rw [r1], ?_⟩
    refine h4.keep rfl fun cs d n es root own top e hop => ?_
    subst e
    unfold AState.isOpen at hop ⊢
    split at hop
    · rename_i e; rw [if_pos e]; exact hop
    · rename_i e
      rw [if_neg e]
      change L.get root = some o' at r1
      change A.get root = some o' at r2
      unfold AState.ownOf at hop ⊢
      rw [r1] at hop
      rw [r2]
      exact hop
  · obtain ⟨o', r1, r2⟩ := hroot b o hb
    obtain ⟨o2, q1, q2⟩ := S.root b o (hs b o hb)
    rw [r2] at q1
    cases q1
    exact ⟨o', r1, q2⟩
  · have h := hfam b _ hb
    obtain ⟨ot, i, j, g1, g2, g3, g4, g5⟩ := S.top b _ _ _ _ _ _ _ (hs _ _ hb) _ _ _ _ _ (hs _ _ hr)
    refine ⟨ot, i, j, ?_, g2, g3, g4, g5⟩
    obtain ⟨_, _, _, _, _, _, q1, q2⟩ := famB_cells h
    rw [hr] at q1
    cases q1
    obtain ⟨x, hx⟩ := Option.isSome_iff_exists.1 q2
    have := hs _ _ hx
    rw [g1] at this
    cases this
    exact hx
  · exact S.solo b o (hs b o hb) cs d n es root own (hs _ _ hr)
  · cases h : L.get b with
    | none => rfl
    | some o =>
      have := hs _ _ h
      rw [S.fresh b (by rw [← hz]; exact hb)] at this
      cases this
  · unfold cutT at hf
    split at hf
    · rename_i f' _
      split at hf
      · rename_i o ho
        cases hf
        exact ⟨o, ho⟩
      · cases hf
    · cases hf
structure Ent where
  f : FuncId
  args : List Value
  A : AState
  v : Value
  B : AState
structure EntOk (P : Program) (e : Ent) : Prop where
  closed : closedB e.A = true
  size : e.A.size ≤ e.B.size
  body : ∃ fn, P.funcs[e.f]? = some fn ∧ (fn.name == "runtime.NumGoroutine") = false ∧ fn.body.isSome = true
  calls : ∀ {ρ : Ren} {τ : Nat → Option Nat} {w : World} {args' : Array Value}, Sim P ρ τ e.A w → VRels ρ e.args args'.toList → Free ρ e.A e.B →
    Calls P e.f args' w fun r w' => ∃ v' ρ' τ', r = .returned v' ∧ VRel ρ' e.v v' ∧ Ext P ρ τ e.A w ρ' τ' e.B w'
theorem Ext.part {P : Program} {ρ ρ' : Ren} {τ τ' : Nat → Option Nat} {A A' B : AState} {w w' : World} (x : Ext P ρ τ A w ρ' τ' A' w') (hp : partB B A' = true) (hc : closedB B = true) : ∃ τ2, Ext P ρ τ A w ρ' τ2 B w' := by
  obtain ⟨τ2, h1, _, h2⟩ := part_sim x.sim hp hc
  have hz : B.size = A'.size := by unfold partB at hp; rw [Bool.and_eq_true] at hp; exact Nat.eq_of_beq_eq_true hp.1
  exact ⟨τ2, ⟨x.le, fun b hb => x.same b (by rw [← hz]; exact hb), by rw [hz]; exact x.size, x.frm, fun r hr => (h1 r).elim (fun e => (x.told r hr).imp (fun e' => e.trans e') (fun e' => e.trans e')) .inr, x.loops, x.ro, h2⟩⟩
structure Use where
  e : Ent
  keep : List Nat
def UsesOk (P : Program) (X : List Use) : Prop := ∀ u, u ∈ X → EntOk P u.e
theorem usesOk_nil (P : Program) : UsesOk P [] := fun u h => by cases h
noncomputable def addO (h : Tr AObj) (b : Nat) (x : Option AObj) : Tr AObj := Option.rec (motive := fun _ => Tr AObj) h (fun o => h.set o b) x
noncomputable def addT (A : AState) (keep : List Nat) (h : Tr AObj) : Tr AObj := List.rec (motive := fun _ => Tr AObj) h (fun b _ ih => addO ih b (A.get b)) keep
noncomputable def keptO (keep : List Nat) : AObj → Bool
  | .cells _ _ _ _ root _ _ => isIn root keep
  | .ro _ _ root => isIn root keep
  | _ => true
noncomputable def topO (keep : List Nat) : AObj → Bool
  | .cells _ _ _ _ _ _ top => isIn top keep
  | _ => true
noncomputable def keepOk (A L B : AState) (all : List Nat) (keep : List Nat) : Bool :=
  List.rec (motive := fun _ => Bool) true (fun b _ ih => (match A.get b, L.get b, B.get b with | some o, none, none => keptO all o && (topO all o && ih) | _, _, _ => false)) keep
noncomputable def Use.res (u : Use) (A : AState) : AState := ⟨addT A u.keep u.e.B.heap, u.e.B.size⟩
theorem addT_get {A : AState} {h : Tr AObj} : ∀ {keep : List Nat}, (∀ b ∈ keep, ∃ o, A.get b = some o) → ∀ b, (addT A keep h).get b = if b ∈ keep then A.get b else h.get b := by
  intro keep
  induction keep with
  | nil => intro _ b; simp; rfl
  | cons c cs ih =>
    intro hk b
    obtain ⟨o, ho⟩ := hk c (List.mem_cons_self ..)
    show (addO (addT A cs h) c (A.get c)).get b = _
    rw [ho]
    show ((addT A cs h).set o c).get b = _
    rw [Tr.get_set, ih (fun b hb => hk b (List.mem_cons_of_mem _ hb))]
    by_cases e : c = b
    · subst e; simp [ho]
    · rw [if_neg e]
      by_cases e2 : b ∈ cs
      · rw [if_pos e2, if_pos (List.mem_cons_of_mem _ e2)]
      · rw [if_neg e2, if_neg (by simp [e2, Ne.symm e])]
theorem keepOk_some {A L B : AState} {all : List Nat} : ∀ {keep : List Nat}, keepOk A L B all keep = true → ∀ b ∈ keep, ∃ o, A.get b = some o ∧ L.get b = none ∧ B.get b = none ∧ keptO all o = true ∧ topO all o = true := by
  intro keep
  induction keep with
  | nil => intro _ b hb; cases hb
  | cons c cs ih =>
    intro h b hb
    change (match A.get c, L.get c, B.get c with | some o, none, none => keptO all o && (topO all o && keepOk A L B all cs) | _, _, _ => false) = true at h
    split at h
    · rename_i o h1 h2 h3
      simp only [Bool.and_eq_true] at h
      rcases List.mem_cons.1 hb with rfl | hb
      · exact ⟨o, h1, h2, h3, h.1, h.2.1⟩
      · exact ih h.2.2 b hb
    · cases h
def joinT (keep : List Nat) (N : Nat) (τ τ2 : Nat → Option Nat) (r : Nat) : Option Nat := match τ r with
  | some f => if r < N ∧ f ∈ keep then some f else τ2 r
  | none => τ2 r
theorem use_ext {P : Program} {ρ ρ' : Ren} {τ τ1 τ2 : Nat → Option Nat} {A L B : AState} {w w' : World} {keep : List Nat} (S : Sim P ρ τ A w) (hz : A.size ≤ L.size)
    (t1 : ∀ r, τ1 r = τ r ∨ τ1 r = none) (t2 : ∀ r f, τ r = some f → L.get f = none → τ1 r = none) (hk : keepOk A L B keep keep = true) (x : Ext P ρ τ1 L w ρ' τ2 B w') :
    ∃ τ3, Ext P ρ τ A w ρ' τ3 ⟨addT A keep B.heap, B.size⟩ w' := by
  have K : ∀ b ∈ keep, ∃ o, A.get b = some o ∧ L.get b = none ∧ B.get b = none ∧ keptO keep o = true ∧ topO keep o = true := keepOk_some hk
  have G : ∀ b, (⟨addT A keep B.heap, B.size⟩ : AState).get b = if b ∈ keep then A.get b else B.get b := addT_get (fun b hb => let ⟨o, h, _⟩ := K b hb; ⟨o, h⟩)
  have Gk : ∀ b, b ∈ keep → (⟨addT A keep B.heap, B.size⟩ : AState).get b = A.get b := fun b hb => by rw [G, if_pos hb]
  have Gb : ∀ b o, B.get b = some o → (⟨addT A keep B.heap, B.size⟩ : AState).get b = some o ∧ b ∉ keep := fun b o hb => by
    have hn : b ∉ keep := fun hm => by obtain ⟨_, _, _, h, _⟩ := K b hm; rw [hb] at h; cases h
    exact ⟨by rw [G, if_neg hn]; exact hb, hn⟩
  have fam : ∀ b o, b ∈ keep → A.get b = some o → famOf b o ∈ keep := fun b o hb ho => by
    obtain ⟨o', h1, _, _, h4, _⟩ := K b hb
    rw [ho] at h1
    cases h1
    cases o with
    | cells cs d n es root own top => exact isIn_iff.1 h4
    | ro cs n root => exact isIn_iff.1 h4
    | map _ => exact hb
    | strIter _ _ => exact hb
    | loop _ => exact hb
  have quiet : ∀ r f, τ r = some f → f ∈ keep → r < w.heap.size → τ1 r = none ∧ τ2 r = none := fun r f hr hf hlt => by
    obtain ⟨o, _, h2, _⟩ := K f hf
    have h := t2 r f hr h2
    exact ⟨h, (x.told r hlt).elim (fun e => e.trans h) id⟩
  have sz := x.size
  refine ⟨joinT keep w.heap.size τ τ2, x.le, fun b hb => x.same b (hb.elim (fun h => .inl (Nat.lt_of_lt_of_le h hz)) .inr), Nat.le_trans hz sz,
    ⟨x.frm.size, fun r hr ht => x.frm.keep r hr ((t1 r).elim (fun e => e.trans ht) id), x.frm.os, x.frm.out, x.frm.tape⟩, fun r hr => ?_, x.loops, fun r hr ht => (t1 r).elim (fun e => x.ro r hr (e.trans ht)) (fun e => x.frm.keep r hr e), ?_⟩
  · unfold joinT
    split
    · rename_i f hf
      split
      · exact .inl hf.symm
      · exact (x.told r hr).elim (fun e => (t1 r).imp (fun e' => e.trans e') (fun e' => e.trans e')) .inr
    · rename_i hf
      exact (x.told r hr).elim (fun e => (t1 r).imp (fun e' => e.trans e') (fun e' => e.trans e')) .inr
  have hτ : ∀ r, (∀ f, τ r = some f → f ∈ keep → r < w.heap.size → False) → joinT keep w.heap.size τ τ2 r = τ2 r := fun r h => by
    unfold joinT
    split
    · rename_i f hf
      rw [if_neg (fun hc => h f hf hc.2 hc.1)]
    · rfl
  refine ⟨fun b o hb => ?_, fun b o hb => ?_, fun b cs d n es root own top hb rcs rd rn res rtop hr => ?_, fun b o hb cs d n es root own hr => ?_, fun b o hb => ?_, fun b hb => ?_, fun r f hf => ?_, x.sim.glob, x.sim.globs⟩
  · by_cases hm : b ∈ keep
    · rw [Gk b hm] at hb
      obtain ⟨i, h1, h2, h3, h4⟩ := S.obj b o hb
      have hf := fam b o hm hb
      refine ⟨i, x.le _ _ h1, Nat.lt_of_lt_of_le h2 x.frm.size, by unfold joinT; rw [h3]; simp only; rw [if_pos ⟨h2, hf⟩], ?_⟩
      refine (h4.mono x.le).keep (x.frm.keep _ h2 (quiet _ _ h3 hf h2).1) fun cs d n es root own top e hop => ?_
      subst e
      unfold AState.isOpen at hop ⊢
      split at hop
      · rename_i e; rw [if_pos e]; exact hop
      · rename_i e
        rw [if_neg e]
        unfold AState.ownOf at hop ⊢
        rw [Gk root hf] at hop
        exact hop
    · rw [G, if_neg hm] at hb
      obtain ⟨i, h1, h2, h3, h4⟩ := x.sim.obj b o hb
      refine ⟨i, h1, h2, ?_, ?_⟩
      · rw [hτ i.blk (fun f hf hfk hlt => by rw [(quiet _ f hf hfk hlt).2] at h3; cases h3)]
        exact h3
      · refine h4.keep rfl fun cs d n es root own top e hop => ?_
        subst e
        unfold AState.isOpen at hop ⊢
        split at hop
        · rename_i e; rw [if_pos e]; exact hop
        · rename_i e
          rw [if_neg e]
          unfold AState.ownOf at hop ⊢
          obtain ⟨o', r1, _⟩ := x.sim.root b _ hb
          rw [(Gb root o' r1).1] at hop
          change B.get root = some o' at r1
          rw [r1]
          exact hop
  · by_cases hm : b ∈ keep
    · rw [Gk b hm] at hb
      obtain ⟨o', q1, q2⟩ := S.root b o hb
      exact ⟨o', by rw [Gk _ (fam b o hm hb)]; exact q1, q2⟩
    · rw [G, if_neg hm] at hb
      obtain ⟨o', q1, q2⟩ := x.sim.root b o hb
      exact ⟨o', (Gb _ _ q1).1, q2⟩
  · by_cases hm : b ∈ keep
    · rw [Gk b hm] at hb
      have hf : root ∈ keep := fam b _ hm hb
      rw [Gk root hf] at hr
      obtain ⟨ot, i, j, g1, g2, g3, g4, g5⟩ := S.top b _ _ _ _ _ _ _ hb _ _ _ _ _ hr
      obtain ⟨o', k1, _, _, _, k5⟩ := K root hf
      rw [hr] at k1
      cases k1
      exact ⟨ot, i, j, by rw [Gk rtop (isIn_iff.1 k5)]; exact g1, g2, x.le _ _ g3, x.le _ _ g4, g5⟩
    · rw [G, if_neg hm] at hb
      obtain ⟨o', q1, q2⟩ := x.sim.root b _ hb
      rw [(Gb root _ q1).1] at hr
      change B.get root = some o' at q1
      cases hr
      obtain ⟨ot, i, j, g1, g2, g3, g4, g5⟩ := x.sim.top b _ _ _ _ _ _ _ hb _ _ _ _ _ q1
      exact ⟨ot, i, j, (Gb _ _ g1).1, g2, g3, g4, g5⟩
  · by_cases hm : b ∈ keep
    · rw [Gk b hm] at hb
      rw [Gk _ (fam b o hm hb)] at hr
      exact S.solo b o hb cs d n es root own hr
    · rw [G, if_neg hm] at hb
      obtain ⟨o', q1, q2⟩ := x.sim.root b _ hb
      rw [(Gb _ _ q1).1] at hr
      cases hr
      exact x.sim.solo b o hb cs d n es root own q1
  · by_cases hm : b ∈ keep
    · rw [Gk b hm] at hb
      exact S.ro b o hb
    · rw [G, if_neg hm] at hb
      exact x.sim.ro b o hb
  · by_cases hm : b ∈ keep
    · obtain ⟨o, h1, _⟩ := K b hm
      rw [S.fresh b (by have : B.size ≤ b := hb; omega)] at h1
      cases h1
    · rw [G, if_neg hm]
      exact x.sim.fresh b hb
  · unfold joinT at hf
    split at hf
    · rename_i f' hf'
      split at hf
      · rename_i hc
        cases hf
        obtain ⟨o, h1, _⟩ := K f hc.2
        exact ⟨o, by rw [Gk f hc.2]; exact h1⟩
      · obtain ⟨o, ho⟩ := x.sim.terr r f hf
        exact ⟨o, (Gb f o ho).1⟩
    · obtain ⟨o, ho⟩ := x.sim.terr r f hf
      exact ⟨o, (Gb f o ho).1⟩
noncomputable def isEnt (f : FuncId) (args : List Value) (A : AState) (u : Use) : Bool :=
  Nat.beq u.e.f f && (Nat.ble A.size u.e.A.size && (eqVL (eqV 7) u.e.args args && (subT u.e.A.heap A.heap && keepOk A u.e.A u.e.B u.keep u.keep)))
noncomputable def findX (X : List Use) (f : FuncId) (args : List Value) (A : AState) : VA :=
  List.rec (motive := fun _ => VA) none (fun u _ ih => Bool.rec (motive := fun _ => VA) ih (some (u.e.v, u.res A)) (isEnt f args A u)) X
theorem findX_some {X : List Use} {f : FuncId} {args : List Value} {A A' : AState} {v : Value} (h : findX X f args A = some (v, A')) :
    ∃ u ∈ X, u.e.f = f ∧ u.e.args = args ∧ A.size ≤ u.e.A.size ∧ subT u.e.A.heap A.heap = true ∧ keepOk A u.e.A u.e.B u.keep u.keep = true ∧ u.e.v = v ∧ u.res A = A' := by
  induction X with
  | nil => cases h
  | cons u X ih =>
    change (Bool.rec (motive := fun _ => VA) (findX X f args A) (some (u.e.v, u.res A)) (isEnt f args A u) : VA) = some (v, A') at h
    cases he : isEnt f args A u with
    | false => rw [he] at h; obtain ⟨u', h1, h2⟩ := ih h; exact ⟨u', List.mem_cons_of_mem _ h1, h2⟩
    | true =>
      rw [he] at h
      cases h
      unfold isEnt at he
      simp only [Bool.and_eq_true] at he
      obtain ⟨h1, h2, h3, h4, h5⟩ := he
      exact ⟨u, List.mem_cons_self .., Nat.eq_of_beq_eq_true h1, eqVL_eq (eqV_eq 7) h3, Nat.le_of_ble_eq_true h2, h4, h5, rfl, rfl⟩
noncomputable def runX (P : Program) (O : Known) (X : List Use) : Nat → Fns
  | 0 => ⟨fun _ _ _ => none, fun _ _ _ => none, fun _ _ _ => none⟩
  | n + 1 =>
    ⟨fun f args A => match findX X f args A with
      | some r => some r
      | none => match O f args with
        | some v => some (v, A)
        | none => callBody P (runX P O X n) f args A, roundBody P (runX P O X n),
     fun c E A => (stepC P (runX P O X n) c E A).bind fun r => match r with
      | (.normal, E', A') => (runX P O X n).loop c E' A'
      | r => some r⟩
theorem runX_ok {P : Program} (hmix : P.follows .mixedOrders = true) {O : Known} (hO : KnownOk P O) {X : List Use} (hX : UsesOk P X) : ∀ n, FnsOk P (runX P O X n) := by
  intro n
  induction n with
  | zero => exact ⟨fun h => (by cases h), fun h => (by cases h), fun h => (by cases h), fun h => (by cases h), fun h => (by cases h), fun h => (by cases h), fun h => (by cases h)⟩
  | succ n ih =>
    have hd' : DrawOk P (runX P O X n) := drawOk hmix ih
    have hloop : ∀ {c : Code} {E E' : Env} {A A' : AState} {x : AExit}, (runX P O X (n + 1)).loop c E A = some (x, E', A') → A.size ≤ A'.size ∧ Gives' P [.code c, .inLoop c] E A x E' A' := by
      intro c E E' A A' x h
      change (stepC P (runX P O X n) c E A).bind _ = _ at h
      simp only [Option.bind_eq_some_iff] at h
      obtain ⟨⟨y, E1, A1⟩, h1, h2⟩ := h
      have hc := stepC_gives ih hd' c h1
      have other : (y = x ∧ E1 = E' ∧ A1 = A' ∧ ∀ h : x = .normal, False) → A.size ≤ A'.size ∧ Gives' P [.code c, .inLoop c] E A x E' A' := by
        rintro ⟨rfl, rfl, rfl, hx⟩
        refine ⟨hc.1, fun {ρ τ w a lo b} S hE hfree hfo k cs => ?_⟩
        obtain ⟨ρ1, τ1, a1, w1, e1, r1, f1, l1⟩ := hc.2 S hE hfree hfo (.inLoop c :: k) cs
        exact ⟨ρ1, τ1, a1, w1, e1, r1, f1, l1.pass (fun _ => rfl) hx⟩
      cases y with
      | exit id => cases h2; exact other ⟨rfl, rfl, rfl, fun h => by cases h⟩
      | ret => cases h2; exact other ⟨rfl, rfl, rfl, fun h => by cases h⟩
      | normal =>
        have h2' : (runX P O X n).loop c E1 A1 = some (x, E', A') := h2
        have hs := ih.loopSize h2'
        refine ⟨Nat.le_trans hc.1 hs, fun {ρ τ w a lo b} S hE hfree hfo k cs => ?_⟩
        obtain ⟨ρ1, τ1, a1, w1, e1, r1, f1, l1⟩ := hc.2 S hE (hfree.head hs) hfo (.inLoop c :: k) cs
        obtain ⟨ρ2, τ2, a2, w2, e2, r2, f2, l2⟩ := ih.loop h2' e1.sim r1 (hfree.tail e1) f1 k cs
        refine ⟨ρ2, τ2, a2, w2, e1.trans e2, r2, f2, ?_⟩
        cases l1 with | normal s1 => exact .of_steps (s1.trans (.one stepR_inLoop)) l2
    have hcall : ∀ {f : FuncId} {args : List Value} {A A' : AState} {v : Value}, (runX P O X (n + 1)).call f args A = some (v, A') → A.size ≤ A'.size ∧ (∃ fn, P.funcs[f]? = some fn ∧ (fn.name == "runtime.NumGoroutine") = false ∧ fn.body.isSome = true) ∧
        ∀ {ρ : Ren} {τ : Nat → Option Nat} {w : World} {args' : Array Value}, Sim P ρ τ A w → VRels ρ args args'.toList → Free ρ A A' →
          Calls P f args' w fun e w' => ∃ v' ρ' τ', e = .returned v' ∧ VRel ρ' v v' ∧ Ext P ρ τ A w ρ' τ' A' w' := by
      intro f args A A' v h
      change (match findX X f args A with | some r => some r | none => match O f args with | some v => some (v, A) | none => callBody P (runX P O X n) f args A) = _ at h
      split at h
      · rename_i r hr
        cases h
        obtain ⟨u, he, rfl, rfl, hz, hsub, hk, rfl, rfl⟩ := findX_some hr
        have E := hX u he
        refine ⟨Nat.le_trans hz E.size, E.body, fun {ρ τ w args'} S ha hfree => ?_⟩
        obtain ⟨τ0, t1, t2, S0⟩ := part_sim (S.gap hz) (L := u.e.A) (by unfold partB; rw [Bool.and_eq_true]; exact ⟨Nat.beq_refl _, hsub⟩) E.closed
        refine (E.calls S0 ha (fun b h1 h2 => hfree b (Nat.le_trans hz h1) h2)).mono fun r w' ⟨v', ρ', τ', e1, e2, x⟩ => ?_
        obtain ⟨τ3, x3⟩ := use_ext S hz t1 t2 hk x
        exact ⟨v', ρ', τ3, e1, e2, x3⟩
      split at h
      · rename_i v1 hv
        cases h
        obtain ⟨k1, k2, k3, k4⟩ := hO f args v hv
        refine ⟨Nat.le_refl _, k3, fun {ρ τ w args'} S ha _ => ?_⟩
        have e := ha.plain_eq k1
        have e' : args' = args.toArray := Array.ext' (by rw [e])
        rw [e']
        refine (k4 w).mono fun en w' ⟨h1, h2, h3⟩ => ?_
        refine ⟨v, ρ, fun r => if r < w.heap.size then τ r else none, h1, .plain k2, ⟨Ren.le_refl _, fun _ _ => rfl, Nat.le_refl _, ⟨h2.size, fun r hr _ => h2.rows r hr, h2.os, h2.out, h3⟩, fun r hr => .inl (if_pos hr),
          fun r R hR => ⟨R, by rw [h2.rows r (Array.getElem?_eq_some_iff.1 hR).1]; exact hR⟩, fun r hr _ => h2.rows r hr, ?_⟩⟩
        exact S.aside h2.size (fun r f _ hr => h2.rows r hr) (fun r hr => if_pos hr) (fun r f hf => by
          split at hf
          · exact hf
          · cases hf)
      · exact callBody_ok ih hd' h
    exact ⟨fun h => (hcall h).1, fun h => (hcall h).2.1, fun h => (hcall h).2.2, fun h => (roundBody_ok ih hd' h).1, fun h => (roundBody_ok ih hd' h).2, fun h => (hloop h).1, fun h => (hloop h).2⟩
section
variable (P : Program) (tab : PlanTab)
noncomputable def callX (gl : AnsTab) (pl : List FuncId) (m0 : Nat) (K : FF) (f : FuncId) (args : List Value) (A : AState) : VA :=
  Bool.rec (motive := fun _ => VA) (Option.rec (motive := fun _ => VA) ((fnG P tab f).f K args A) (fun v => List.rec (motive := fun _ => VA) (some (v, A)) (fun _ _ _ => none) args) (ansOf f gl)) (memoG P tab m0 f args A) (isIn f pl)
noncomputable def Kx (gl : AnsTab) (pl : List FuncId) (X : List Use) (m0 m : Nat) : FF := Nat.rec (motive := fun _ => FF) .zero (fun _ K => .succ
  (fun f args A => Option.rec (motive := fun _ => VA) (callX P tab gl pl m0 K f args A) (fun r => some r) (findX X f args A))
  (fun l args A => roundG P K l args A) K) m
end
variable {P : Program} {tab : PlanTab}
theorem callX_some (ht : TabsOk P tab) {gl : AnsTab} {pl : List FuncId} {m0 : Nat} {K : FF} {F : Fns} (hF : FOk P K F) {f : FuncId} {a : List Value} {A : AState} {x : Value × AState} (h : callX P tab gl pl m0 K f a A = some x) :
    (match memoO P tab gl pl m0 f a with | some v => some (v, A) | none => callBody P F f a A) = some x := by
  unfold callX at h
  cases hi : isIn f pl with
  | false =>
    rw [hi] at h
    cases ha : ansOf f gl with
    | none =>
      have : memoO P tab gl pl m0 f a = none := by unfold memoO; rw [hi, ha]; cases a <;> rfl
      rw [this]
      rw [ha] at h
      exact fnG_some ht hF h
    | some v =>
      rw [ha] at h
      cases a with
      | nil =>
        have : memoO P tab gl pl m0 f [] = some v := by unfold memoO; rw [hi]; exact ha
        rw [this]
        exact h
      | cons x xs => cases h
  | true =>
    rw [hi] at h
    have e : memoO P tab gl pl m0 f a = memoV P tab m0 f a := by unfold memoO; rw [hi]; rfl
    rw [e]
    change memoG P tab m0 f a A = some x at h
    unfold memoG at h
    rcases normL_or none a (fun args => Option.rec (motive := fun _ => VA) none (fun v => some (v, A)) (memoV P tab m0 f args)) with h1 | h1
    · rw [h1] at h; cases h
    · rw [h1] at h
      cases hv : memoV P tab m0 f a with
      | none => rw [hv] at h; cases h
      | some v => rw [hv] at h; exact h
theorem Kx_ok (ht : TabsOk P tab) (gl : AnsTab) (pl : List FuncId) (X : List Use) (m0 : Nat) : ∀ m, FOk P (Kx P tab gl pl X m0 m) (runX P (memoO P tab gl pl m0) X m) := by
  intro m
  induction m with
  | zero => exact .zero
  | succ m ih =>
    refine .succ (F0 := runX P (memoO P tab gl pl m0) X m) ih (fun {f a A x} h => ?_) (fun {l a A x} h => ?_) (fun b E A => rfl)
    · show (match findX X f a A with | some r => some r | none => match memoO P tab gl pl m0 f a with | some v => some (v, A) | none => callBody P (runX P (memoO P tab gl pl m0) X m) f a A) = some x
      cases hf : findX X f a A with
      | some r => rw [hf] at h; exact h
      | none => rw [hf] at h; exact callX_some ht ih h
    · exact roundG_some ih h
end Go.Ag
namespace Go.Ag
set_option linter.unusedVariables false
noncomputable def avoids (g : Nat) : Nat → Value → Bool := Nat.rec (motive := fun _ => Value → Bool) (fun _ => false) fun _ ih v => match v with
  | .pointer (some a) => !(Nat.beq a.block g)
  | .slice (some ⟨b, _, none⟩) _ _ => !(Nat.beq b g)
  | .map (some b) => !(Nat.beq b g)
  | .func (.func _) xs ys => xs.toList.all ih && ys.toList.all ih
  | .func (.yield _) _ _ => false
  | .iface _ v => ih v
  | .agg xs => xs.toList.all ih
  | .tuple xs => xs.toList.all ih
  | _ => true
theorem avoids_succ (g n : Nat) (v : Value) : avoids g (n + 1) v = (match v with
  | .pointer (some a) => !(Nat.beq a.block g)
  | .slice (some ⟨b, _, none⟩) _ _ => !(Nat.beq b g)
  | .map (some b) => !(Nat.beq b g)
  | .func (.func _) xs ys => xs.toList.all (avoids g n) && ys.toList.all (avoids g n)
  | .func (.yield _) _ _ => false
  | .iface _ v => avoids g n v
  | .agg xs => xs.toList.all (avoids g n)
  | .tuple xs => xs.toList.all (avoids g n)
  | _ => true) := rfl
theorem beqN {a b : Nat} (h : (!(Nat.beq a b)) = true) : a ≠ b := fun e => by
  subst e
  rw [Nat.beq_refl] at h
  cases h
theorem VRels.swap0 {ρ ρ2 : Ren} {p : Value → Bool} (h : ∀ v v', VRel ρ v v' → p v = true → VRel ρ2 v v') : ∀ {vs vs' : List Value}, VRels ρ vs vs' → vs.all p = true → VRels ρ2 vs vs'
  | [], _, hr, _ => by cases hr; exact .nil
  | v :: vs, _, hr, ha => by
    cases hr with
    | cons h1 h2 =>
      rw [List.all_cons, Bool.and_eq_true] at ha
      exact .cons (h _ _ h1 ha.1) (VRels.swap0 h h2 ha.2)
theorem VRel.swap {ρ ρ2 : Ren} {g : Nat} (h : ∀ b, b ≠ g → ρ2 b = ρ b) : ∀ (n : Nat) (v v' : Value), VRel ρ v v' → avoids g n v = true → VRel ρ2 v v' := by
  intro n
  induction n with
  | zero => intro v v' _ ha; cases ha
  | succ n ih =>
    intro v v' hr ha
    rw [avoids_succ] at ha
    cases hr with
    | bool b => exact .bool b
    | int k m => exact .int k m
    | float k m => exact .float k m
    | string s => exact .string s
    | ptrNil => exact .ptrNil
    | ptr hb => exact .ptr (by rw [h _ (beqN ha)]; exact hb)
    | sliceNil => exact .sliceNil
    | sliceEx hb hk hn ho => exact .sliceEx (by rw [h _ (beqN ha)]; exact hb) hk hn ho
    | sliceUn hb hn ho hs hr => exact .sliceUn (by rw [h _ (beqN ha)]; exact hb) hn ho hs hr
    | sliceZ => exact .sliceZ
    | mapNil => exact .mapNil
    | map hb => exact .map (by rw [h _ (beqN ha)]; exact hb)
    | chanNil => exact .chanNil
    | func h1 h2 =>
      simp only [Bool.and_eq_true] at ha
      exact .func (VRels.swap0 ih h1 ha.1) (VRels.swap0 ih h2 ha.2)
    | yield hb h1 h2 => cases ha
    | nilFunc => exact .nilFunc
    | nilIface => exact .nilIface
    | iface h1 => exact .iface (ih _ _ h1 ha)
    | agg h1 => exact .agg (VRels.swap0 ih h1 ha)
    | tuple h1 => exact .tuple (VRels.swap0 ih h1 ha)
theorem VRels.swap {ρ ρ2 : Ren} {g : Nat} (h : ∀ b, b ≠ g → ρ2 b = ρ b) (n : Nat) {vs vs' : List Value} (hr : VRels ρ vs vs') (ha : vs.all (avoids g n) = true) : VRels ρ2 vs vs' :=
  VRels.swap0 (VRel.swap h n) hr ha
structure EntM where
  f : FuncId
  args : List Value
  L : List (Nat × Nat × List Value)
  n0 : Nat
  v : Value
  N : List (Nat × Nat × List Value)
  n1 : Nat
noncomputable def roC (p : Nat × Nat × List Value) : Tr Value := writeL .nil 0 (p.2.2 ++ [.int .u64 p.2.1])
noncomputable def roT (g : Nat) (L : List (Nat × Nat × List Value)) : Tr AObj := List.rec (motive := fun _ => Tr AObj) (Tr.set (.ro .nil 0 g) .nil g) (fun p _ ih => Tr.set (.ro (roC p) p.2.2.length g) ih p.1) L
noncomputable def roA (g : Nat) (e : EntM) : AState := ⟨match e.L with | [] => .nil | L => roT g L, e.n0⟩
theorem roT_nil (g : Nat) : roT g [] = Tr.set (.ro .nil 0 g) .nil g := rfl
theorem roT_cons (g : Nat) (p : Nat × Nat × List Value) (L : List (Nat × Nat × List Value)) : roT g (p :: L) = Tr.set (.ro (roC p) p.2.2.length g) (roT g L) p.1 := rfl
theorem roT_cases {g : Nat} : ∀ {L : List (Nat × Nat × List Value)} {b : Nat} {o : AObj}, (roT g L).get b = some o → (b = g ∧ o = .ro .nil 0 g) ∨ ∃ p ∈ L, p.1 = b ∧ o = .ro (roC p) p.2.2.length g := by
  intro L
  induction L with
  | nil =>
    intro b o h
    rw [roT_nil, Tr.get_set] at h
    split at h
    · rename_i e; cases h; exact .inl ⟨e.symm, rfl⟩
    · cases h
  | cons p L ih =>
    intro b o h
    rw [roT_cons, Tr.get_set] at h
    split at h
    · rename_i e; cases h; exact .inr ⟨p, List.mem_cons_self .., e, rfl⟩
    · rcases ih h with h | ⟨q, h1, h2⟩
      · exact .inl h
      · exact .inr ⟨q, List.mem_cons_of_mem _ h1, h2⟩
theorem roT_root {g : Nat} : ∀ {L : List (Nat × Nat × List Value)}, (∀ p ∈ L, p.1 ≠ g) → (roT g L).get g = some (.ro .nil 0 g) := by
  intro L
  induction L with
  | nil => intro _; rw [roT_nil, Tr.get_set, if_pos rfl]
  | cons p L ih =>
    intro h
    rw [roT_cons, Tr.get_set, if_neg (h p (List.mem_cons_self ..))]
    exact ih fun q hq => h q (List.mem_cons_of_mem _ hq)
def Match (A : AState) (L : List (Nat × Nat × List Value)) : Prop := ∀ p ∈ L, ∃ cs d root own top, A.get p.1 = some (.cells cs d p.2.2.length p.2.1 root own top) ∧ A.isOpen p.1 root own = true ∧ ∀ j, j < p.2.2.length → cellAt cs d j = p.2.2[j]?
theorem roC_at (p : Nat × Nat × List Value) {j : Nat} (hj : j < p.2.2.length) : cellAt (roC p) [] j = p.2.2[j]? := by
  unfold roC
  rw [cellAt_list _ _ _ (by rw [List.length_append]; omega), List.getElem?_append_left hj]
theorem roC_es (p : Nat × Nat × List Value) : roEs (roC p) p.2.2.length = some p.2.1 := by
  unfold roEs roC
  rw [writeL_get, List.getElem?_append_right (Nat.le_refl _), Nat.sub_self]
  rfl
theorem Sim.ownRow {P : Program} {ρ : Ren} {τ : Nat → Option Nat} {A : AState} {w : World} (S : Sim P ρ τ A w) {b n es root own top : Nat} {cs : Tr Value} {d : List Value} (h : A.get b = some (.cells cs d n es root own top)) (ho : A.isOpen b root own = true) :
    ∃ i c el fz f, ρ b = some i ∧ i.blk < w.heap.size ∧ τ i.blk = some f ∧ w.heap[i.blk]? = some (.cells c el fz) ∧ c.size = i.room ∧ i.sz = n ∧ i.off + n ≤ i.room ∧ (∀ j, j < n → ∃ v v', cellAt cs d j = some v ∧ c[i.off + j]? = some v' ∧ VRel ρ v v') ∧ i.es = es := by
  obtain ⟨i, h1, h2, h3, h4⟩ := S.obj _ _ h
  cases h4 with
  | cells c el fz h5 hroom hsz hes hin hfz _ hc => exact ⟨i, c, el, fz, _, h1, h2, h3, h5, hroom, hsz, hin, hc ho, hes⟩
structure EntFine (g : Nat) (e : EntM) : Prop where
  keys : ∀ p ∈ e.L, p.1 ≠ g ∧ p.1 < e.n0
  g0 : g < e.n0
  n01 : e.n0 ≤ e.n1
  avA : e.args.all (avoids g 7) = true
  avL : ∀ p ∈ e.L, p.2.2.all (avoids g 7) = true
  avV : avoids g 7 e.v = true
  avN : ∀ q ∈ e.N, q.2.2.all (avoids g 7) = true
  ge : ∀ q ∈ e.N, e.n0 ≤ q.1 ∧ q.1 < e.n1
  uniq : ∀ q ∈ e.N, ∀ q' ∈ e.N, q.1 = q'.1 → q = q'
open Classical in
theorem ro_sim {P : Program} {ρ : Ren} {τ : Nat → Option Nat} {A : AState} {w : World} (S : Sim P ρ τ A w) {e : EntM} (F : EntFine P.globals.size e) (hm : Match A e.L) (hz : A.size ≤ e.n0) :
    ∃ ρ1 τ1, (∀ b, b ≠ P.globals.size → ρ1 b = ρ b) ∧ (∀ r, τ r = none → τ1 r = none) ∧ (∀ r f, τ1 r = some f → f = P.globals.size) ∧ Sim P ρ1 τ1 (roA P.globals.size e) w := by
  cases hL : e.L with
  | nil =>
    refine ⟨ρ, fun _ => none, fun _ _ => rfl, fun _ _ => rfl, fun r f h => (by cases h), ?_⟩
    have hn : ∀ b, (roA P.globals.size e).get b = none := fun b => by unfold roA; rw [hL]; rfl
    refine ⟨fun b o h => ?_, fun b o h => ?_, fun b cs d n es root own top h => ?_, fun b o h => ?_, fun b o h => ?_, fun b _ => hn b, fun r f h => (by cases h), S.glob, F.g0⟩ <;> (rw [hn] at h; cases h)
  | cons p0 L0 =>
    have hp0 : p0 ∈ e.L := by rw [hL]; exact List.mem_cons_self ..
    have hroA : roA P.globals.size e = ⟨roT P.globals.size e.L, e.n0⟩ := by unfold roA; rw [hL]
    obtain ⟨cs0, d0, root0, own0, top0, hb0, ho0, _⟩ := hm p0 hp0
    obtain ⟨i0, c0, el0, fz0, f0, a1, a2, a3, a4, a5, a6, a7, a8, a9⟩ := S.ownRow hb0 ho0
    have hsw : ∀ b, b ≠ P.globals.size → (fun b => if b = P.globals.size then some (⟨i0.blk, 0, c0.size, 0, 0⟩ : BInfo) else ρ b) b = ρ b := fun b hb => if_neg hb
    refine ⟨fun b => if b = P.globals.size then some ⟨i0.blk, 0, c0.size, 0, 0⟩ else ρ b, fun r => if ∃ p ∈ e.L, ∃ i, ρ p.1 = some i ∧ i.blk = r then some P.globals.size else none, hsw, fun r hr => ?_, fun r f h => ?_, ?_⟩
    · refine if_neg ?_
      rintro ⟨p, hp, i, hi, rfl⟩
      obtain ⟨cs, d, root1, own1, top1, hb, hop, _⟩ := hm p hp
      obtain ⟨i', c, el, fz, f, q1, q2, q3, _⟩ := S.ownRow hb hop
      obtain rfl := Option.some.inj (hi.symm.trans q1)
      rw [q3] at hr
      cases hr
    · simp only at h
      split at h
      · cases h; rfl
      · cases h
    · rw [hroA]
      have hfam : ∀ b o, (⟨roT P.globals.size e.L, e.n0⟩ : AState).get b = some o → ∃ cs n, o = .ro cs n P.globals.size := fun b o h => by
        rcases roT_cases h with ⟨_, rfl⟩ | ⟨p, _, _, rfl⟩ <;> exact ⟨_, _, rfl⟩
      have hroot : (⟨roT P.globals.size e.L, e.n0⟩ : AState).get P.globals.size = some (.ro .nil 0 P.globals.size) := roT_root fun p hp => (F.keys p hp).1
      refine ⟨fun b o h => ?_, fun b o h => ?_, fun b cs d n es root own top h => ?_, fun b o h cs d n es root own hr => ?_, fun b o h => ?_, fun b hb => ?_, fun r f h => ?_, fun g hg => ?_, F.g0⟩
      · rcases roT_cases h with ⟨rfl, rfl⟩ | ⟨p, hp, rfl, rfl⟩
        · exact ⟨_, if_pos rfl, a2, if_pos ⟨p0, hp0, i0, a1, rfl⟩, .ro c0 el0 fz0 a4 rfl rfl (by simp) (fun j hj => by omega) (fun e h => by cases h)⟩
        · obtain ⟨cs, d, root1, own1, top1, hb, hop, hc⟩ := hm p hp
          obtain ⟨i, c, el, fz, f, q1, q2, q3, q4, q5, q6, q7, q8, q9⟩ := S.ownRow hb hop
          refine ⟨i, by rw [if_neg (F.keys p hp).1]; exact q1, q2, if_pos ⟨p, hp, i, q1, rfl⟩, .ro c el fz q4 q5 q6 q7 (fun j hj => ?_) (fun e he => by rw [roC_es] at he; cases he; exact q9)⟩
          obtain ⟨v, v', r1, r2, r3⟩ := q8 j hj
          refine ⟨v, v', by rw [roC_at _ hj, ← hc j hj]; exact r1, r2, VRel.swap hsw 7 v v' r3 ?_⟩
          rw [hc j hj] at r1
          exact List.all_eq_true.1 (F.avL p hp) v (List.mem_of_getElem? r1)
      · obtain ⟨cs, n, rfl⟩ := hfam b o h
        exact ⟨_, hroot, rfl⟩
      · obtain ⟨_, _, e⟩ := hfam _ _ h; cases e
      · obtain ⟨_, _, e⟩ := hfam _ _ hr; cases e
      · obtain ⟨cs, n, rfl⟩ := hfam b o h
        exact ⟨fun _ => rfl, fun _ => rfl⟩
      · cases hg : (⟨roT P.globals.size e.L, e.n0⟩ : AState).get b with
        | none => rfl
        | some o =>
          rcases roT_cases hg with ⟨rfl, _⟩ | ⟨p, hp, rfl, _⟩
          · have := F.g0; have hb' : e.n0 ≤ P.globals.size := hb; omega
          · have := (F.keys p hp).2; have hb' : e.n0 ≤ p.1 := hb; omega
      · split at h
        · cases h; exact ⟨_, hroot⟩
        · cases h
      · obtain ⟨j, h1, h2, h3⟩ := S.glob g hg
        exact ⟨j, by rw [if_neg (Nat.ne_of_lt hg)]; exact h1, h2, h3⟩
structure NewOk (A1 : AState) (e : EntM) : Prop where
  size : A1.size = e.n1
  cells : ∀ q ∈ e.N, ∃ cs d root own top, A1.get q.1 = some (.cells cs d q.2.2.length q.2.1 root own top) ∧ A1.isOpen q.1 root own = true ∧ ∀ j, j < q.2.2.length → cellAt cs d j = q.2.2[j]?
  apart : ∀ q ∈ e.N, ∀ q' ∈ e.N, rootA A1 q.1 = rootA A1 q'.1 → q = q'
structure EntMOk (P : Program) (e : EntM) : Prop where
  fine : EntFine P.globals.size e
  body : ∃ fn, P.funcs[e.f]? = some fn ∧ (fn.name == "runtime.NumGoroutine") = false ∧ fn.body.isSome = true
  calls : ∀ {ρ : Ren} {τ : Nat → Option Nat} {w : World} {args' : Array Value}, Sim P ρ τ (roA P.globals.size e) w → VRels ρ e.args args'.toList → (∀ b, e.n0 ≤ b → b < e.n1 → ρ b = none) →
    Calls P e.f args' w fun r w' => ∃ v' ρ' τ' A1, r = .returned v' ∧ VRel ρ' e.v v' ∧ Ext P ρ τ (roA P.globals.size e) w ρ' τ' A1 w' ∧ NewOk A1 e
noncomputable def addT' (h : Tr AObj) (N : List (Nat × Nat × List Value)) : Tr AObj := List.rec (motive := fun _ => Tr AObj) h (fun q _ ih => Tr.set (.cells (writeL .nil 0 q.2.2) [] q.2.2.length q.2.1 q.1 0 q.1) ih q.1) N
noncomputable def addN (A : AState) (e : EntM) : AState := ⟨addT' A.heap e.N, e.n1⟩
theorem addT_cases {h : Tr AObj} : ∀ {N : List (Nat × Nat × List Value)} {b : Nat} {o : AObj}, (addT' h N).get b = some o → (∃ q ∈ N, q.1 = b ∧ o = .cells (writeL .nil 0 q.2.2) [] q.2.2.length q.2.1 q.1 0 q.1) ∨ ((∀ q ∈ N, q.1 ≠ b) ∧ h.get b = some o) := by
  intro N
  induction N with
  | nil => intro b o hb; exact .inr ⟨fun q hq => (by cases hq), hb⟩
  | cons q N ih =>
    intro b o hb
    change (Tr.set _ (addT' h N) q.1).get b = some o at hb
    rw [Tr.get_set] at hb
    split at hb
    · rename_i e; cases hb; exact .inl ⟨q, List.mem_cons_self .., e, rfl⟩
    · rename_i e
      rcases ih hb with ⟨q', h1, h2⟩ | ⟨h1, h2⟩
      · exact .inl ⟨q', List.mem_cons_of_mem _ h1, h2⟩
      · refine .inr ⟨fun x hx => ?_, h2⟩
        rcases List.mem_cons.1 hx with rfl | hx
        · exact e
        · exact h1 x hx
theorem addT_old {h : Tr AObj} : ∀ {N : List (Nat × Nat × List Value)} {b : Nat}, (∀ q ∈ N, q.1 ≠ b) → (addT' h N).get b = h.get b := by
  intro N
  induction N with
  | nil => intro b _; rfl
  | cons q N ih =>
    intro b hb
    refine (Tr.get_set ..).trans ?_
    rw [if_neg (hb q (List.mem_cons_self ..))]
    exact ih fun x hx => hb x (List.mem_cons_of_mem _ hx)
theorem addT_new {h : Tr AObj} : ∀ {N : List (Nat × Nat × List Value)} {q : Nat × Nat × List Value}, (∀ q ∈ N, ∀ q' ∈ N, q.1 = q'.1 → q = q') → q ∈ N → (addT' h N).get q.1 = some (.cells (writeL .nil 0 q.2.2) [] q.2.2.length q.2.1 q.1 0 q.1) := by
  intro N
  induction N with
  | nil => intro q _ hq; cases hq
  | cons x N ih =>
    intro q hu hq
    refine (Tr.get_set ..).trans ?_
    by_cases e : x.1 = q.1
    · rw [if_pos e]
      have := hu x (List.mem_cons_self ..) q hq e
      subst this; rfl
    · rw [if_neg e]
      rcases List.mem_cons.1 hq with rfl | hq
      · exact absurd rfl e
      · exact ih (fun a ha b hb => hu a (List.mem_cons_of_mem _ ha) b (List.mem_cons_of_mem _ hb)) hq
open Classical in
theorem ent_ext {P : Program} {e : EntM} (F : EntFine P.globals.size e) {ρ ρ1 ρ' : Ren} {τ τ1 τ' : Nat → Option Nat} {A A1 : AState} {w w' : World} (S : Sim P ρ τ A w) (hz : A.size ≤ e.n0) (hfree : ∀ b, A.size ≤ b → b < e.n1 → ρ b = none)
    (h1 : ∀ b, b ≠ P.globals.size → ρ1 b = ρ b) (h2 : ∀ r, τ r = none → τ1 r = none) (h3 : ∀ r f, τ1 r = some f → f = P.globals.size)
    (x : Ext P ρ1 τ1 (roA P.globals.size e) w ρ' τ' A1 w') (hN : NewOk A1 e) :
    ∃ ρ2 τ2, (∀ b, b ≠ P.globals.size → ρ2 b = ρ' b) ∧ Ext P ρ τ A w ρ2 τ2 (addN A e) w' := by
  have hrow : ∀ r, r < w.heap.size → w'.heap[r]? = w.heap[r]? := fun r hr => by
    cases ht : τ1 r with
    | none => exact x.frm.keep r hr ht
    | some f => exact x.ro r hr (by rw [ht, h3 r f ht])
  have huniq := F.uniq
  have hAlt : ∀ b o, A.get b = some o → b < A.size := fun b o h => by
    rcases Nat.lt_or_ge b A.size with h' | h'
    · exact h'
    · rw [S.fresh b h'] at h; cases h
  have hold : ∀ b, b < e.n0 → (addN A e).get b = A.get b := fun b hb => addT_old fun q hq hqb => by have := (F.ge q hq).1; omega
  have hnew : ∀ q ∈ e.N, (addN A e).get q.1 = some (.cells (writeL .nil 0 q.2.2) [] q.2.2.length q.2.1 q.1 0 q.1) := fun q hq => addT_new huniq hq
  have hcase : ∀ b o, (addN A e).get b = some o → (∃ q ∈ e.N, q.1 = b ∧ o = .cells (writeL .nil 0 q.2.2) [] q.2.2.length q.2.1 q.1 0 q.1) ∨ (b < A.size ∧ A.get b = some o) := fun b o hb => by
    rcases addT_cases hb with h | ⟨_, h⟩
    · exact .inl h
    · exact .inr ⟨hAlt b o h, h⟩
  have hle : ρ.le (fun b => if b = P.globals.size then ρ P.globals.size else ρ' b) := fun b i hb => by
    simp only
    split
    · rename_i e0; rw [← e0]; exact hb
    · rename_i e0; exact x.le b i (by rw [h1 b e0]; exact hb)
  -- a new block's row is new
  have hrownew : ∀ q ∈ e.N, ∃ i c el fz root, ρ' q.1 = some i ∧ w.heap.size ≤ i.blk ∧ i.blk < w'.heap.size ∧ τ' i.blk = some root ∧ rootA A1 q.1 = some root ∧ w'.heap[i.blk]? = some (.cells c el fz) ∧ c.size = i.room ∧ i.sz = q.2.2.length ∧ i.es = q.2.1 ∧ i.off + q.2.2.length ≤ i.room ∧ Thawed fz i.room ∧ (q.2.1 = 0 → i.off = 0) ∧
      ∀ j, j < q.2.2.length → ∃ v v', q.2.2[j]? = some v ∧ c[i.off + j]? = some v' ∧ VRel ρ' v v' := fun q hq => by
    obtain ⟨cs, d, root, own, top, g1, g2, g3⟩ := hN.cells q hq
    obtain ⟨i, a1, a2, a3, a4⟩ := x.sim.obj _ _ g1
    cases a4 with
    | cells c el fz ho hroom hsz hes hin hfz h0 hc =>
    refine ⟨i, c, el, fz, root, a1, ?_, a2, a3, by unfold rootA; rw [g1], ho, hroom, hsz, hes, hin, hfz, h0, fun j hj => ?_⟩
    · rcases Nat.lt_or_ge i.blk w.heap.size with hlt | hge
      · exfalso
        have hro := x.sim.ro _ _ g1
        have hnr : root ≠ P.globals.size := fun e0 => by have := hro.1 e0; cases this
        rcases x.told i.blk hlt with ht | ht
        · rw [ht] at a3; exact hnr (h3 _ _ a3)
        · rw [ht] at a3; cases a3
      · exact hge
    · obtain ⟨v, v', b1, b2, b3⟩ := hc g2 j hj
      exact ⟨v, v', by rw [← g3 j hj]; exact b1, b2, b3⟩
  have hchoose : ∀ q ∈ e.N, ∀ q' ∈ e.N, ∀ i i', ρ' q.1 = some i → ρ' q'.1 = some i' → i.blk = i'.blk → q = q' := fun q hq q' hq' i i' e1 e2 e3 => by
    obtain ⟨j, _, _, _, root, b1, _, _, b4, b5, _⟩ := hrownew q hq
    obtain ⟨j', _, _, _, root', c1, _, _, c4, c5, _⟩ := hrownew q' hq'
    obtain rfl := Option.some.inj (e1.symm.trans b1)
    obtain rfl := Option.some.inj (e2.symm.trans c1)
    rw [e3, c4] at b4
    exact hN.apart q hq q' hq' (by rw [b5, c5, b4])
  refine ⟨fun b => if b = P.globals.size then ρ P.globals.size else ρ' b, fun r => if r < w.heap.size then τ r else if h : ∃ q, q ∈ e.N ∧ ∃ i, ρ' q.1 = some i ∧ i.blk = r then some (Classical.choose h).1 else none, fun b hb => if_neg hb, ?_⟩
  have hsz : (roA P.globals.size e).size = e.n0 := by unfold roA; rfl
  have hswap : ∀ b, b ≠ P.globals.size → (fun b => if b = P.globals.size then ρ P.globals.size else ρ' b) b = ρ' b := fun b hb => if_neg hb
  refine ⟨hle, fun b hb => ?_, Nat.le_trans hz F.n01, ⟨x.frm.size, fun r hr _ => hrow r hr, x.frm.os, x.frm.out, x.frm.tape⟩, fun r hr => .inl (if_pos hr), fun r R hR => ⟨R, by rw [hrow r (Array.getElem?_eq_some_iff.1 hR).1]; exact hR⟩, fun r hr _ => hrow r hr, ?_⟩
  · split
    · rename_i e0; rw [e0]
    · rename_i e0
      rw [x.same b (hb.elim (fun h => .inl (by rw [hsz]; omega)) (fun h => .inr (by rw [hN.size]; exact h))), h1 b e0]
  have hqg : ∀ q ∈ e.N, q.1 ≠ P.globals.size := fun q hq e0 => by have := (F.ge q hq).1; have := F.g0; omega
  refine ⟨fun b o hb => ?_, fun b o hb => ?_, fun b cs d n es root own top hb rcs rd rn res rtop hr => ?_, fun b o hb cs d n es root own hr => ?_, fun b o hb => ?_, fun b hb => ?_, fun r f hf => ?_, fun g hg => ?_, Nat.lt_of_lt_of_le F.g0 F.n01⟩
  · rcases hcase b o hb with ⟨q, hq, rfl, rfl⟩ | ⟨hlt, hA⟩
    · obtain ⟨i, c, el, fz, root, b1, b2, b3, b4, b5, b6, b7, b8, b9, b10, b11, b12, b13⟩ := hrownew q hq
      refine ⟨i, by rw [if_neg (hqg q hq)]; exact b1, b3, ?_, .cells c el fz b6 b7 b8 b9 b10 b11 b12 (fun _ j hj => ?_)⟩
      · rw [if_neg (by omega)]
        have hex : ∃ q', q' ∈ e.N ∧ ∃ i', ρ' q'.1 = some i' ∧ i'.blk = i.blk := ⟨q, hq, i, b1, rfl⟩
        rw [dif_pos hex]
        obtain ⟨y1, i', y2, y3⟩ := Classical.choose_spec hex
        have := hchoose _ y1 q hq i' i y2 b1 y3
        rw [this]; rfl
      · obtain ⟨v, v', d1, d2, d3⟩ := b13 j hj
        refine ⟨v, v', by rw [cellAt_list _ _ _ hj]; exact d1, d2, VRel.swap hswap 7 v v' d3 ?_⟩
        exact List.all_eq_true.1 (F.avN q hq) v (List.mem_of_getElem? d1)
    · obtain ⟨i, b1, b2, b3, b4⟩ := S.obj b o hA
      refine ⟨i, hle _ _ b1, Nat.lt_of_lt_of_le b2 x.frm.size, by rw [if_pos b2]; exact b3, ?_⟩
      refine (b4.mono hle).keep (hrow _ b2) fun cs d n es root own top eo hop => ?_
      subst eo
      unfold AState.isOpen at hop ⊢
      split at hop
      · rename_i e0; rw [if_pos e0]; exact hop
      · rename_i e0
        rw [if_neg e0]
        obtain ⟨o4, h4, _⟩ := S.root _ _ hA
        unfold AState.ownOf at hop ⊢
        rw [hold root (Nat.lt_of_lt_of_le (hAlt _ _ h4) hz)] at hop
        exact hop
  · rcases hcase b o hb with ⟨q, hq, rfl, rfl⟩ | ⟨hlt, hA⟩
    · exact ⟨_, hnew q hq, rfl⟩
    · obtain ⟨o4, h4, e4⟩ := S.root _ _ hA
      exact ⟨o4, by rw [hold _ (Nat.lt_of_lt_of_le (hAlt _ _ h4) hz)]; exact h4, e4⟩
  · rcases hcase b _ hb with ⟨q, hq, rfl, eo⟩ | ⟨hlt, hA⟩
    · cases eo
      rw [hnew q hq] at hr
      cases hr
      obtain ⟨i, c, el, fz, root, b1, _⟩ := hrownew q hq
      exact ⟨_, i, i, hnew q hq, rfl, by rw [if_neg (hqg q hq)]; exact b1, by rw [if_neg (hqg q hq)]; exact b1, fun _ => Nat.le_refl _⟩
    · obtain ⟨o4, h4, e4⟩ := S.root _ _ hA
      have h4' : A.get root = some o4 := h4
      rw [hold _ (Nat.lt_of_lt_of_le (hAlt _ _ h4') hz)] at hr
      obtain ⟨ot, i, j, k1, k2, k3, k4, k5⟩ := S.top _ _ _ _ _ _ _ _ hA _ _ _ _ _ hr
      exact ⟨ot, i, j, by rw [hold _ (Nat.lt_of_lt_of_le (hAlt _ _ k1) hz)]; exact k1, k2, hle _ _ k3, hle _ _ k4, k5⟩
  · rcases hcase b o hb with ⟨q, hq, rfl, rfl⟩ | ⟨hlt, hA⟩
    · rfl
    · obtain ⟨o4, h4, e4⟩ := S.root _ _ hA
      rw [hold _ (Nat.lt_of_lt_of_le (hAlt _ _ h4) hz)] at hr
      exact S.solo b o hA cs d n es root own hr
  · rcases hcase b o hb with ⟨q, hq, rfl, rfl⟩ | ⟨hlt, hA⟩
    · exact ⟨fun e0 => absurd e0 (hqg q hq), fun e0 => by cases e0⟩
    · exact S.ro b o hA
  · cases hg : (addN A e).get b with
    | none => rfl
    | some o =>
      have hb' : e.n1 ≤ b := hb
      rcases hcase b o hg with ⟨q, hq, rfl, rfl⟩ | ⟨hlt, hA⟩
      · have := (F.ge q hq).2; omega
      · have := F.n01; omega
  · split at hf
    · obtain ⟨o, ho⟩ := S.terr r f hf
      exact ⟨o, by rw [hold _ (Nat.lt_of_lt_of_le (hAlt _ _ ho) hz)]; exact ho⟩
    · split at hf
      · rename_i hex
        cases hf
        exact ⟨_, hnew _ (Classical.choose_spec hex).1⟩
      · cases hf
  · obtain ⟨j, k1, k2, k3⟩ := S.glob g hg
    exact ⟨j, hle _ _ k1, k2, k3⟩
end Go.Ag
namespace Go.Ag
set_option linter.unusedVariables false
noncomputable def eqCells (cs : Tr Value) (d : List Value) (l : List Value) : Nat → Bool :=
  List.rec (motive := fun _ => Nat → Bool) (fun _ => true) (fun x _ ih i => Bool.rec false (ih (Nat.succ i)) (oSome (eqV 7) (cellAt cs d i) (some x))) l
theorem eqCells_at {cs : Tr Value} {d : List Value} : ∀ {l : List Value} {i : Nat}, eqCells cs d l i = true → ∀ j, j < l.length → cellAt cs d (i + j) = l[j]? := by
  intro l
  induction l with
  | nil => intro i _ j hj; cases hj
  | cons x l ih =>
    intro i h j hj
    obtain ⟨h1, h2⟩ := bandR h
    cases j with
    | zero => exact oSome_eq (eqV_eq 7) h1
    | succ j =>
      have := ih h2 j (by simpa using hj)
      rw [show i + (j + 1) = Nat.succ i + j by omega, this]
      rfl
noncomputable def cellB (A : AState) (q : Nat × Nat × List Value) : Bool :=
  match A.get q.1 with
  | some (.cells cs d n es root own top) => Nat.beq n q.2.2.length && (Nat.beq es q.2.1 && (A.isOpen q.1 root own && eqCells cs d q.2.2 0))
  | _ => false
theorem cellB_ok {A : AState} {q : Nat × Nat × List Value} (h : cellB A q = true) : ∃ cs d root own top, A.get q.1 = some (.cells cs d q.2.2.length q.2.1 root own top) ∧ A.isOpen q.1 root own = true ∧ ∀ j, j < q.2.2.length → cellAt cs d j = q.2.2[j]? := by
  unfold cellB at h
  split at h
  · rename_i cs d n es root own top hg
    simp only [Bool.and_eq_true] at h
    obtain ⟨h1, h2, h3, h4⟩ := h
    rw [Nat.eq_of_beq_eq_true h1, Nat.eq_of_beq_eq_true h2] at hg
    refine ⟨cs, d, root, own, top, hg, h3, fun j hj => ?_⟩
    have := eqCells_at h4 j hj
    rwa [Nat.zero_add] at this
  · cases h
noncomputable def allR {α : Type} (p : α → Bool) (l : List α) : Bool := List.rec (motive := fun _ => Bool) true (fun x _ ih => Bool.rec false ih (p x)) l
theorem allR_mem {α : Type} {p : α → Bool} : ∀ {l : List α}, allR p l = true → ∀ x ∈ l, p x = true := by
  intro l
  induction l with
  | nil => intro _ x hx; cases hx
  | cons y l ih =>
    intro h x hx
    obtain ⟨h1, h2⟩ := bandR h
    rcases List.mem_cons.1 hx with rfl | hx
    · exact h1
    · exact ih h2 x hx
noncomputable def pairsR {α : Type} (p : α → α → Bool) (l : List α) : Bool := List.rec (motive := fun _ => Bool) true (fun x l ih => Bool.rec false ih (allR (p x) l)) l
theorem pairsR_uniq {α : Type} {p : α → α → Bool} (hs : ∀ x y, p x y = true → p y x = true) : ∀ {l : List α}, pairsR p l = true → ∀ x ∈ l, ∀ y ∈ l, p x y = false → x = y := by
  intro l
  induction l with
  | nil => intro _ x hx; cases hx
  | cons z l ih =>
    intro h x hx y hy hxy
    obtain ⟨h1, h2⟩ := bandR h
    rcases List.mem_cons.1 hx with rfl | hx' <;> rcases List.mem_cons.1 hy with rfl | hy'
    · rfl
    · rw [allR_mem h1 y hy'] at hxy; cases hxy
    · rw [hs _ _ (allR_mem h1 x hx')] at hxy; cases hxy
    · exact ih h2 x hx' y hy' hxy
noncomputable def newB (A : AState) (e : EntM) : Bool := Bool.rec false (Bool.rec false (pairsR (fun q q' => !(optEq (rootA A q.1) (rootA A q'.1))) e.N) (allR (cellB A) e.N)) (Nat.beq A.size e.n1)
theorem optEq_refl (a : Option Nat) : optEq a a = true := by cases a <;> simp [optEq, Nat.beq_refl]
theorem newB_ok {A : AState} {e : EntM} (h : newB A e = true) : NewOk A e := by
  obtain ⟨h1, h⟩ := bandR h
  obtain ⟨h2, h3⟩ := bandR h
  refine ⟨Nat.eq_of_beq_eq_true h1, fun q hq => cellB_ok (allR_mem h2 q hq), fun q hq q' hq' e0 => pairsR_uniq (fun x y hxy => ?_) h3 q hq q' hq' ?_⟩
  · cases hc : optEq (rootA A y.1) (rootA A x.1) with
    | false => rfl
    | true =>
      rw [optEq_eq hc, optEq_refl] at hxy
      cases hxy
  · rw [e0, optEq_refl]; rfl
noncomputable def fineB (g : Nat) (e : EntM) : Bool :=
  Bool.rec false (Bool.rec false (Bool.rec false (Bool.rec false (Bool.rec false (Bool.rec false (Bool.rec false (pairsR (fun q q' => !(Nat.beq q.1 q'.1)) e.N)
    (allR (fun q => Bool.rec false (Nat.blt q.1 e.n1) (Nat.ble e.n0 q.1)) e.N))
    (allR (fun q => q.2.2.all (avoids g 7)) e.N))
    (avoids g 7 e.v))
    (allR (fun p => p.2.2.all (avoids g 7)) e.L))
    (e.args.all (avoids g 7)))
    (allR (fun p => Bool.rec false (Nat.blt p.1 e.n0) (!(Nat.beq p.1 g))) e.L))
    (Bool.rec false (Nat.ble e.n0 e.n1) (Nat.blt g e.n0))
theorem fineB_ok {g : Nat} {e : EntM} (h : fineB g e = true) : EntFine g e := by
  obtain ⟨h0, h⟩ := bandR h
  obtain ⟨h01, h02⟩ := bandR h0
  obtain ⟨h1, h⟩ := bandR h
  obtain ⟨h2, h⟩ := bandR h
  obtain ⟨h3, h⟩ := bandR h
  obtain ⟨h4, h⟩ := bandR h
  obtain ⟨h5, h⟩ := bandR h
  obtain ⟨h6, h7⟩ := bandR h
  refine ⟨fun p hp => ?_, by simpa [Nat.blt_eq] using h01, Nat.le_of_ble_eq_true h02, h2, allR_mem h3, h4, allR_mem h5, fun q hq => ?_, fun q hq q' hq' e0 => pairsR_uniq (fun x y hxy => ?_) h7 q hq q' hq' ?_⟩
  · obtain ⟨a, b⟩ := bandR (allR_mem h1 p hp)
    exact ⟨beqN a, by simpa [Nat.blt_eq] using b⟩
  · obtain ⟨a, b⟩ := bandR (allR_mem h6 q hq)
    exact ⟨Nat.le_of_ble_eq_true a, by simpa [Nat.blt_eq] using b⟩
  · have := beqN hxy
    cases hc : Nat.beq y.1 x.1 with
    | false => rfl
    | true => exact absurd (Nat.eq_of_beq_eq_true hc).symm this
  · rw [e0, Nat.beq_refl]; rfl
noncomputable def entRun (e : EntM) (r : VA) : Bool := Option.rec (motive := fun _ => Bool) false (fun p => Prod.rec (motive := fun _ => Bool) (fun v A => Bool.rec false (newB A e) (eqV 7 e.v v)) p) r
noncomputable def entMB (P : Program) (tab : PlanTab) (gl : AnsTab) (pl : List FuncId) (m0 m : Nat) (g : Nat) (e : EntM) : Bool :=
  Bool.rec false (entRun e ((fnG P tab e.f).f (Kx P tab gl pl [] m0 m) e.args (roA g e))) (fineB g e)
theorem entM_ok {P : Program} (hmix : P.follows .mixedOrders = true) {tab : PlanTab} (ht : TabsOk P tab) {gl : AnsTab} (hg : AnsOk P gl) {pl : List FuncId} {m0 m : Nat} {e : EntM} (h : entMB P tab gl pl m0 m P.globals.size e = true) : EntMOk P e := by
  obtain ⟨h1, h2⟩ := bandR h
  cases hr : (fnG P tab e.f).f (Kx P tab gl pl [] m0 m) e.args (roA P.globals.size e) with
  | none => rw [hr] at h2; cases h2
  | some r =>
    obtain ⟨v, A1⟩ := r
    rw [hr] at h2
    obtain ⟨h4, h5⟩ := bandR h2
    have hv := eqV_eq _ _ _ h4
    subst hv
    have hN := newB_ok h5
    have hrun := fnG_some ht (Kx_ok ht gl pl [] m0 m) hr
    have H0 := runX_ok hmix (memo_known hmix ht hg pl m0) (usesOk_nil P) m
    have hb := callBody_ok H0 (drawOk hmix H0) hrun
    refine ⟨fineB_ok h1, hb.2.1, fun S ha hfree => ?_⟩
    refine (hb.2.2 S ha (fun b b1 b2 => hfree b b1 (by rw [← hN.size]; exact b2))).mono fun r w' ⟨v', ρ', τ', e1, e2, x⟩ => ?_
    exact ⟨v', ρ', τ', A1, e1, e2, x, hN⟩
def hitsE (f : FuncId) (args : List Value) (A : AState) (e : EntM) : Prop := e.f = f ∧ e.args = args ∧ A.size ≤ e.n0 ∧ Match A e.L
open Classical in
noncomputable def hitB (f : FuncId) (args : List Value) (A : AState) (e : EntM) : Bool := decide (hitsE f args A e)
theorem hitB_eq {f : FuncId} {args : List Value} {A : AState} {e : EntM} : hitB f args A e = true ↔ hitsE f args A e := by
  classical
  unfold hitB
  exact decide_eq_true_iff
noncomputable def pickE (A : AState) : Option EntM → Option (Value × AState)
  | some e => some (e.v, addN A e)
  | none => none
open Classical in
noncomputable def hookE (es : List EntM) : Hook := fun f args => if ∃ e ∈ es, e.f = f then fun A => pickE A (es.find? (hitB f args A)) else fun _ => none
theorem hookE_none {es : List EntM} {f : FuncId} {args : List Value} (h : ∀ e ∈ es, e.f ≠ f) : hookE es f args = fun _ => none := by
  unfold hookE
  rw [if_neg]
  rintro ⟨e, he, hf⟩
  exact h e he hf
theorem hookE_ok {P : Program} {es : List EntM} (h : ∀ e ∈ es, EntMOk P e) : HookOk P (hookE es) := by
  intro f args A v A' hr
  unfold hookE at hr
  split at hr
  case isFalse => cases hr
  change pickE A (es.find? (hitB f args A)) = some (v, A') at hr
  cases hfind : es.find? (hitB f args A) with
  | none => rw [hfind] at hr; cases hr
  | some e =>
  rw [hfind] at hr
  cases hr
  have he := List.mem_of_find?_eq_some hfind
  have hp := hitB_eq.1 (List.find?_some hfind)
  obtain ⟨rfl, rfl, hz, hm⟩ := hp
  have E := h e he
  refine ⟨Nat.le_trans hz E.fine.n01, E.body, fun {ρ τ w args'} S ha hfree => ?_⟩
  obtain ⟨ρ1, τ1, g1, g2, g3, S1⟩ := ro_sim S E.fine hm hz
  have hfree1 : ∀ b, e.n0 ≤ b → b < e.n1 → ρ1 b = none := fun b b1 b2 => by
    rw [g1 b (by have := E.fine.g0; omega)]
    exact hfree b (Nat.le_trans hz b1) b2
  refine (E.calls S1 (VRels.swap g1 7 ha E.fine.avA) hfree1).mono fun r w' ⟨v', ρ', τ', A1, e1, e2, x, hN⟩ => ?_
  obtain ⟨ρ2, τ2, k1, x2⟩ := ent_ext E.fine S hz (fun b b1 b2 => hfree b b1 b2) g1 g2 g3 x hN
  exact ⟨v', ρ2, τ2, e1, VRel.swap k1 7 _ _ e2 E.fine.avV, x2⟩
noncomputable def MS.addN (S : MS) (e : EntM) : MS := ⟨fun b => match e.N.find? (fun q => q.1 == b) with
  | some q => some (.cells q.2.2 q.2.1)
  | none => S.m b, e.n1⟩
theorem addN_old {S : MS} {e : EntM} {g : Nat} (F : EntFine g e) {b : Nat} (hb : b < e.n0) : (S.addN e).m b = S.m b := by
  show (match e.N.find? (fun q => q.1 == b) with | some q => some (K.cells q.2.2 q.2.1) | none => S.m b) = S.m b
  cases h : e.N.find? (fun q => q.1 == b) with
  | none => rfl
  | some q =>
    have h1 := List.mem_of_find?_eq_some h
    have h2 : (q.1 == b) = true := List.find?_some (p := fun q : Nat × Nat × List Value => q.1 == b) h
    have := (F.ge q h1).1
    have := eq_of_beq h2
    omega
theorem addN_new {S : MS} {e : EntM} {g : Nat} (F : EntFine g e) {q : Nat × Nat × List Value} (hq : q ∈ e.N) : (S.addN e).m q.1 = some (.cells q.2.2 q.2.1) := by
  show (match e.N.find? (fun x => x.1 == q.1) with | some q => some (K.cells q.2.2 q.2.1) | none => S.m q.1) = _
  cases h : e.N.find? (fun x => x.1 == q.1) with
  | none =>
    have := List.find?_eq_none.1 h q hq
    simp at this
  | some x =>
    have h1 := List.mem_of_find?_eq_some h
    have h2 : (x.1 == q.1) = true := List.find?_some (p := fun x : Nat × Nat × List Value => x.1 == q.1) h
    rw [F.uniq x h1 q hq (eq_of_beq h2)]
theorem St.addN {A : AState} {S : MS} {e : EntM} {g : Nat} (F : EntFine g e) (h : St A S) (hz : A.size ≤ e.n0) : St (Go.Ag.addN A e) (S.addN e) := by
  have hAlt : ∀ b o, A.get b = some o → b < A.size := fun b o hb => by
    rcases Nat.lt_or_ge b A.size with h' | h'
    · exact h'
    · rw [h.fresh b h'] at hb; cases hb
  have hold : ∀ b, b < e.n0 → (Go.Ag.addN A e).get b = A.get b := fun b hb => addT_old fun q hq hqb => by have := (F.ge q hq).1; omega
  have hnew : ∀ q ∈ e.N, (Go.Ag.addN A e).get q.1 = some (.cells (writeL .nil 0 q.2.2) [] q.2.2.length q.2.1 q.1 0 q.1) := fun q hq => addT_new F.uniq hq
  have hcase : ∀ b k, (S.addN e).m b = some k → (∃ q ∈ e.N, q.1 = b ∧ k = .cells q.2.2 q.2.1) ∨ (b < A.size ∧ S.m b = some k) := fun b k hb => by
    change (match e.N.find? (fun q => q.1 == b) with | some q => some (K.cells q.2.2 q.2.1) | none => S.m b) = some k at hb
    cases hf : e.N.find? (fun q => q.1 == b) with
    | none => rw [hf] at hb; exact .inr ⟨h.lt hb, hb⟩
    | some q =>
      rw [hf] at hb
      cases hb
      exact .inl ⟨q, List.mem_of_find?_eq_some hf, eq_of_beq (List.find?_some (p := fun q : Nat × Nat × List Value => q.1 == b) hf), rfl⟩
  have hrootO : ∀ b k, S.m b = some k → rootA (Go.Ag.addN A e) b = rootA A b := fun b k hb => by
    unfold rootA
    rw [hold b (Nat.lt_of_lt_of_le (h.lt hb) hz)]
  refine ⟨rfl, fun b hb => ?_, fun b k hk => ?_, fun b1 b2 l1 e1 l2 e2 k1 k2 hr => ?_⟩
  · cases hg : (Go.Ag.addN A e).get b with
    | none => rfl
    | some o =>
      have hb' : e.n1 ≤ b := hb
      rcases addT_cases hg with ⟨q, hq, rfl, _⟩ | ⟨_, hA⟩
      · have := (F.ge q hq).2; omega
      · have := hAlt b o hA; have := F.n01; omega
  · rcases hcase b k hk with ⟨q, hq, rfl, rfl⟩ | ⟨hlt, hS⟩
    · exact ⟨_, [], q.1, 0, q.1, hnew q hq, fun i hi => cellAt_list _ _ _ hi, by rw [isOpen_root]; rfl, _, _, _, _, _, _, hnew q hq⟩
    · have hc := h.cur b k hS
      have hb0 := hold b (Nat.lt_of_lt_of_le hlt hz)
      cases k with
      | cells l es =>
        obtain ⟨cs, d, root, own, top, c1, c2, c3, rcs, rd, rn, res, rown, rtop, c4⟩ := hc
        have hr0 := hold root (Nat.lt_of_lt_of_le (hAlt _ _ c4) hz)
        refine ⟨cs, d, root, own, top, by rw [hb0]; exact c1, c2, ?_, rcs, rd, rn, res, rown, rtop, by rw [hr0]; exact c4⟩
        unfold AState.isOpen AState.ownOf at c3 ⊢
        rw [hr0]
        exact c3
      | ro l =>
        obtain ⟨cs, root, c1, c2⟩ := hc
        exact ⟨cs, root, by rw [hb0]; exact c1, c2⟩
      | map es => exact hb0.trans hc
      | iter s p => exact hb0.trans hc
      | loop L => exact hb0.trans hc
  · have rootNew : ∀ q ∈ e.N, rootA (Go.Ag.addN A e) q.1 = some q.1 := fun q hq => by unfold rootA; rw [hnew q hq]
    have rootOld : ∀ b l es, S.m b = some (.cells l es) → ∃ r, rootA A b = some r ∧ r < A.size := fun b l es hb => by
      obtain ⟨cs, d, root, own, top, c1, c2, c3, rcs, rd, rn, res, rown, rtop, c4⟩ := h.cur b _ hb
      exact ⟨root, by unfold rootA; rw [c1], hAlt _ _ c4⟩
    rcases hcase b1 _ k1 with ⟨q1, hq1, rfl, _⟩ | ⟨lt1, s1⟩ <;> rcases hcase b2 _ k2 with ⟨q2, hq2, rfl, _⟩ | ⟨lt2, s2⟩
    · rw [rootNew q1 hq1, rootNew q2 hq2] at hr
      exact Option.some.inj hr
    · obtain ⟨r, r1, r2⟩ := rootOld b2 _ _ s2
      rw [rootNew q1 hq1, hrootO b2 _ s2, r1] at hr
      have := Option.some.inj hr
      have := (F.ge q1 hq1).1
      omega
    · obtain ⟨r, r1, r2⟩ := rootOld b1 _ _ s1
      rw [rootNew q2 hq2, hrootO b1 _ s1, r1] at hr
      have := Option.some.inj hr
      have := (F.ge q2 hq2).1
      omega
    · rw [hrootO b1 _ s1, hrootO b2 _ s2] at hr
      exact h.dist _ _ _ _ _ _ s1 s2 hr
theorem callM_ent {P : Program} {O : Hook} {es : List EntM} {e : EntM} {g : Nat} (F : EntFine g e) (hO : O e.f e.args = hookE es e.f e.args) (he : e ∈ es) (hu : ∀ e' ∈ es, e'.f = e.f → e'.args = e.args → e' = e) {S : MS} (hn : S.n ≤ e.n0) (hm : ∀ p ∈ e.L, S.m p.1 = some (.cells p.2.2 p.2.1))
    {Q : Value → MS → Prop} (hq : Q e.v (S.addN e)) : CallM P O e.f e.args S Q := by
  intro A hA
  have hz : A.size ≤ e.n0 := by rw [hA.size]; exact hn
  have hmatch : Match A e.L := fun p hp => by
    obtain ⟨cs, d, root, own, top, c1, c2, c3, _⟩ := hA.cur _ _ (hm p hp)
    exact ⟨cs, d, root, own, top, c1, c3, c2⟩
  refine ⟨e.v, Go.Ag.addN A e, S.addN e, lim_known ?_, hA.addN F hz, hq⟩
  rw [hO]
  unfold hookE
  rw [if_pos ⟨e, he, rfl⟩]
  have hf : es.find? (hitB e.f e.args A) = some e := by
    cases hx : es.find? (hitB e.f e.args A) with
    | none =>
      have := List.find?_eq_none.1 hx e he
      exact absurd (hitB_eq.2 ⟨rfl, rfl, hz, hmatch⟩) this
    | some e' =>
      have h1 := List.mem_of_find?_eq_some hx
      have h2 := hitB_eq.1 (List.find?_some hx)
      rw [hu e' h1 h2.1 h2.2.1]
  show pickE A (es.find? (hitB e.f e.args A)) = _
  rw [hf]
  rfl
end Go.Ag
