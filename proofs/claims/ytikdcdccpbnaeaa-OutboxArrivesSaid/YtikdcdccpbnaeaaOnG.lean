/-
  The walk through the outbox's code: what its functions do to memory, part OnG. Nothing is asked.
-/
import Derived.Test.YtikdcdccpbnaeaaAg4
set_option linter.all false
namespace Go.Ag
open Go
set_option linter.unusedVariables false
set_option maxRecDepth 100000
section
variable {α : Type} {f : α → List Value} {sz : Nat}

theorem fm_len (hf : ∀ a, (f a).length = sz) : ∀ l : List α, (l.flatMap f).length = l.length * sz := by
  intro l
  induction l with
  | nil => simp
  | cons a l ih => simp only [List.flatMap_cons, List.length_append, ih, hf, List.length_cons, Nat.add_mul, Nat.one_mul]; omega
theorem fm_drop (hf : ∀ a, (f a).length = sz) : ∀ (l : List α) (k : Nat), (l.flatMap f).drop (k * sz) = (l.drop k).flatMap f := by
  intro l
  induction l with
  | nil => intro k; simp
  | cons a l ih =>
    intro k
    cases k with
    | zero => simp
    | succ k =>
      have e : (k + 1) * sz = (f a).length + k * sz := by rw [hf, Nat.succ_mul]; omega
      rw [List.flatMap_cons, e, ← List.drop_drop, List.drop_left' rfl]
      exact ih k
theorem fm_take (hf : ∀ a, (f a).length = sz) (l m : List α) : ((l ++ m).flatMap f).take (l.length * sz) = l.flatMap f := by
  rw [List.flatMap_append, List.take_left' (fm_len hf l)]

/-- a slice of elements of so many cells, of the code's own, in blocks from B on -/
inductive SlF (f : α → List Value) (sz : Nat) (S : MS) (B : Nat) : Value → List α → Prop
  | non : SlF f sz S B (.slice none 0 0) []
  | own {b cap : Nat} {l junk : List α} (hb : S.m b = some (.cells ((l ++ junk).flatMap f) sz)) (hB : B ≤ b) (hc : cap = unk ∨ (cap < unk ∧ (l ++ junk).length = cap)) (hj : (l ++ junk).length ≤ 1000000) : SlF f sz S B (.slice (some ⟨b, 0, none⟩) l.length cap) l

theorem SlF.len {S : MS} {B : Nat} {v : Value} {l : List α} (h : SlF f sz S B v l) : lenOfA v = some l.length := by cases h <;> rfl
theorem SlF.lenSl {S : MS} {B : Nat} {v : Value} {l : List α} (h : SlF f sz S B v l) : Go.Ag.lenSl v = some (.int .i64 l.length) := by cases h <;> rfl
theorem SlF.cells (hfl : ∀ a, (f a).length = sz) {S : MS} {B : Nat} {v : Value} {l : List α} (h : SlF f sz S B v l) : firstCellsM S sz l.length v = some (l.flatMap f) := by
  cases h with
  | non => rfl
  | own hb hB hc hj =>
    rename_i b cap junk
    by_cases h0 : l.length = 0
    · have : l = [] := List.length_eq_zero_iff.1 h0
      subst this
      unfold firstCellsM; simp
    · rw [first_of (list_of hb) (Nat.le_refl _) h0 (by rw [fm_len hfl, List.length_append, Nat.add_mul]; omega)]
      rw [List.drop_zero, fm_take hfl]
theorem SlF.keep {S S' : MS} {B : Nat} {v : Value} {l : List α} (h : SlF f sz S B v l) (hk : ∀ x k, S.m x = some k → S'.m x = S.m x) : SlF f sz S' B v l := by
  cases h with
  | non => exact .non
  | own hb hB hc hj => exact .own (by rw [hk _ _ hb]; exact hb) hB hc hj
end
section
variable {α : Type} {f : α → List Value} {sz : Nat}

theorem fm_splice (hf : ∀ a, (f a).length = sz) (l junk new : List α) (h : new.length ≤ junk.length) : spliceL ((l ++ junk).flatMap f) (new.flatMap f) (0 + l.length * sz) = ((l ++ new) ++ junk.drop new.length).flatMap f := by
  unfold spliceL
  rw [Nat.zero_add, fm_take hf, fm_len hf, ← Nat.add_mul, fm_drop hf, List.drop_append, List.drop_of_length_le (by omega : l.length ≤ l.length + new.length)]
  simp [List.flatMap_append]

end
section
variable {α : Type} {f : α → List Value} {sz : Nat}
/-- v is no slice of the block y -/
def Av (v : Value) (y : Nat) : Prop := ∀ l c, v ≠ .slice (some ⟨y, 0, none⟩) l c
theorem SlF.av {S : MS} {B : Nat} {v : Value} {l : List α} (h : SlF f sz S B v l) {y : Nat} (hy : y < B) : Av v y := by
  cases h with
  | non => intro l c e; cases e
  | own hb hB hc hj => intro l c e; cases e; omega
theorem SlF.keep1 {S S' : MS} {B : Nat} {v : Value} {l : List α} (h : SlF f sz S B v l) (hk : ∀ y k, ¬ Av v y → S.m y = some k → S'.m y = S.m y) : SlF f sz S' B v l := by
  cases h with
  | non => exact .non
  | own hb hB hc hj => exact .own (by rw [hk _ _ (fun h => h _ _ rfl) hb]; exact hb) hB hc hj
theorem SlF.avN {S : MS} {B : Nat} {v : Value} {l : List α} (h : SlF f sz S B v l) (wf : S.WF) {y : Nat} (hy : S.n ≤ y) : Av v y := by
  cases h with
  | non => intro l c e; cases e
  | own hb hB hc hj => intro l c e; cases e; have := wf _ _ hb; omega
theorem SlF.weaken {S : MS} {B B' : Nat} {v : Value} {l : List α} (h : SlF f sz S B v l) (hB : B' ≤ B) : SlF f sz S B' v l := by
  cases h with
  | non => exact .non
  | own hb h2 hc hj => exact .own hb (Nat.le_trans hB h2) hc hj
theorem SlF.at (hfl : ∀ a, (f a).length = sz) {S : MS} {B : Nat} {v : Value} {l : List α} {i : Nat} {x : α} (h : SlF f sz S B v l) (hx : l[i]? = some x) : ∃ b, ¬ Av v b ∧ iaSS sz v (.int .i64 (i : Int)) = some (.pointer (some ⟨b, i * sz, none⟩)) ∧ ∀ S', S'.m b = S.m b → ldS (some sz) S' (.pointer (some ⟨b, i * sz, none⟩)) = some (.agg (f x).toArray) := by
  have hlt := (List.getElem?_eq_some_iff.1 hx).1
  cases h with
  | non => cases hx
  | own hb hB hc hj =>
    rename_i b cap junk
    refine ⟨b, fun h => h _ _ rfl, ?_, fun S' hS' => ?_⟩
    · rw [iaSS_of (k := .i64) (i := (i : Int)) (by omega) (by omega : (i : Int) < (l.length : Int)), Int.toNat_natCast, Nat.zero_add]
    · rw [ldS_ptr, list_of (hS'.trans hb)]
      have e : l ++ junk = l.take i ++ (x :: (l.drop (i + 1) ++ junk)) := by
        have h1 : l = l.take i ++ l.drop i := (List.take_append_drop i l).symm
        have h2 : l.drop i = x :: l.drop (i + 1) := by
          rw [List.drop_eq_getElem_cons hlt]; congr 1
          have := List.getElem?_eq_getElem hlt
          rw [hx] at this; exact (Option.some.inj this).symm
        rw [h2] at h1
        conv => lhs; rw [h1]
        simp
      have hl : (l.take i).length = i := by rw [List.length_take]; omega
      show partS (some sz) ((l ++ junk).flatMap f) (i * sz) = _
      rw [partS_some]
      · rw [e, List.flatMap_append, List.drop_left' (by rw [fm_len hfl, hl]), List.flatMap_cons, List.take_left' (hfl x)]
      · rw [fm_len hfl, List.length_append]
        have : (i + 1) * sz ≤ (l.length + junk.length) * sz := Nat.mul_le_mul_right _ (by omega)
        rw [Nat.succ_mul] at this; omega

/-- append of elements: which blocks stay -/
theorem SlF.app2 (hfl : ∀ a, (f a).length = sz) (hone : ∀ a, (f a).all oneCell = true) (hsz : 0 < sz) {bytes : Nat} {z : List Value} {S : MS} {B : Nat} {v x : Value} {l new : List α} (h : SlF f sz S B v l) (wf : S.WF) (hBn : B ≤ S.n) (hl : lenOfA x = some new.length) (hf : firstCellsM S sz new.length x = some (new.flatMap f)) (hsm : (2 * (l.length + new.length) + 1000) * bytes ≤ 281474976710656) (hsm2 : l.length + new.length ≤ 1000000) :
    ∃ v' S', apS false sz bytes z S [v, x] = some (v', S') ∧ SlF f sz S' B v' (l ++ new) ∧ S.n ≤ S'.n ∧ (∀ y, y < S.n → Av v y → S'.m y = S.m y) ∧ ∀ y, y < S.n → Av v y → Av v' y := by
  have ho : ∀ l : List α, (l.flatMap f).all oneCell = true := by
    intro l
    rw [List.all_eq_true]
    intro v hv
    obtain ⟨a, _, ha⟩ := List.mem_flatMap.1 hv
    exact List.all_eq_true.1 (hone a) v ha
  have avn : ∀ y l c, y < S.n → Av (.slice (some ⟨S.n, 0, none⟩) l c) y := fun y l c hy l' c' e => by cases e; omega
  by_cases h0 : new.length = 0
  · have : new = [] := List.length_eq_zero_iff.1 h0
    subst this
    refine ⟨v, S, ?_, by rw [List.append_nil]; exact h, Nat.le_refl _, fun _ _ _ => rfl, fun _ _ h => h⟩
    unfold apS appendedM
    simp only [Bool.false_eq_true, if_false, hl, Option.bind_some, hf, Option.map_some]
    cases h with
    | non => simp
    | own hb hB hc hj => simp [hb]
  · have hnl : (new.flatMap f).length = new.length * sz := fm_len hfl new
    cases h with
    | non =>
      refine ⟨_, _, apS_nil hl hf hnl (ho _) h0 (by simpa using hsm) (by simp at hsm2; omega), ?_, Nat.le_succ _, fun y hy _ => fresh_old _ _ _ (Nat.ne_of_lt hy), fun y hy _ => avn y _ _ hy⟩
      rw [List.nil_append]
      exact .own (junk := []) (by rw [List.append_nil]; exact fresh_at _ _ _) hBn (.inl rfl) (by simpa using hsm2)
    | own hb hB hc hj =>
      rename_i b cap junk
      have nb : ∀ y, Av (.slice (some ⟨b, 0, none⟩) l.length cap) y → y ≠ b := fun y hy e => by subst e; exact hy _ _ rfl
      have hcl : ((l ++ junk).flatMap f).length = (l.length + junk.length) * sz := by rw [fm_len hfl, List.length_append]
      have hl2 : l.length + new.length = (l ++ new).length := by simp
      have inplace : new.length ≤ junk.length → ∃ S', S.write b (0 + l.length * sz) (new.flatMap f) = some S' ∧ SlF f sz S' B (.slice (some ⟨b, 0, none⟩) (l.length + new.length) cap) (l ++ new) ∧ S.n ≤ S'.n ∧ (∀ y, y < S.n → Av (.slice (some ⟨b, 0, none⟩) l.length cap) y → S'.m y = S.m y) ∧ ∀ y, y < S.n → Av (.slice (some ⟨b, 0, none⟩) l.length cap) y → Av (.slice (some ⟨b, 0, none⟩) (l.length + new.length) cap) y := by
        intro hge
        rw [write_of hb (by rw [hcl, hnl, Nat.zero_add, ← Nat.add_mul]; exact Nat.mul_le_mul_right _ (by omega))]
        refine ⟨_, rfl, ?_, Nat.le_refl _, fun y _ hy => by rw [set_m, if_neg (nb y hy)], fun y _ hy l' c' e => by cases e; exact hy _ _ rfl⟩
        rw [hl2]
        refine .own (junk := junk.drop new.length) (by rw [set_m, if_pos rfl, fm_splice hfl _ _ _ hge]) hB ?_ (by simp at hj ⊢; omega)
        rcases hc with hc | ⟨hc, hc2⟩
        · exact .inl hc
        · refine .inr ⟨hc, ?_⟩
          simp at hc2 ⊢; omega
      have hble : (Nat.ble (0 + (l.length + new.length) * sz) ((l ++ junk).flatMap f).length = true) ↔ new.length ≤ junk.length := by
        rw [Nat.ble_eq, hcl, Nat.zero_add]
        constructor
        · intro h; have := Nat.le_of_mul_le_mul_right h hsz; omega
        · intro h; exact Nat.mul_le_mul_right _ (by omega)
      have e0 : (List.drop 0 ((l ++ junk).flatMap f)).take (l.length * sz) ++ new.flatMap f = ((l ++ new) ++ []).flatMap f := by
        rw [List.drop_zero, fm_take hfl, List.append_nil, List.flatMap_append]
      have hle0 : 0 + l.length * sz ≤ ((l ++ junk).flatMap f).length := by rw [hcl, Nat.zero_add]; exact Nat.mul_le_mul_right _ (by omega)
      unfold apS appendedM
      simp only [Bool.false_eq_true, if_false, hl, Option.bind_some, hf, Option.map_some, hnl, Nat.beq_refl, ho, Bool.and_self, if_true, if_neg h0, hb]
      rcases hc with hc | ⟨hc, hc2⟩
      · subst hc
        rw [if_pos (Nat.beq_refl _)]
        by_cases hge : new.length ≤ junk.length
        · rw [if_pos (hble.2 hge)]
          obtain ⟨S', h1, h2⟩ := inplace hge
          rw [h1]
          exact ⟨_, _, rfl, h2⟩
        · rw [if_neg (fun h => hge (hble.1 h)), if_pos ⟨hsm, by omega, hle0⟩]
          refine ⟨_, _, rfl, ?_, Nat.le_succ _, fun y hy hv => ?_, fun y hy _ => avn y _ _ hy⟩
          · rw [e0, hl2]
            exact .own (junk := []) (fresh_at _ _ _) hBn (.inl rfl) (by simpa using hsm2)
          · have e : (S.del b).n = S.n := rfl
            rw [fresh_old _ _ _ (by rw [e]; exact Nat.ne_of_lt hy), del_old _ (nb y hv)]
      · rw [if_neg (by rw [Nat.beq_eq]; omega)]
        by_cases hge : l.length + new.length ≤ cap
        · rw [if_pos (by rw [Nat.ble_eq]; omega)]
          obtain ⟨S', h1, h2⟩ := inplace (by rw [List.length_append] at hc2; omega)
          rw [h1]
          exact ⟨_, _, rfl, h2⟩
        · rw [if_neg (by rw [Nat.ble_eq]; omega), if_pos ⟨hsm, by omega, hle0⟩]
          refine ⟨_, _, rfl, ?_, Nat.le_succ _, fun y hy _ => fresh_old _ _ _ (Nat.ne_of_lt hy), fun y hy _ => avn y _ _ hy⟩
          rw [e0, hl2]
          exact .own (junk := []) (fresh_at _ _ _) hBn (.inl rfl) (by simpa using hsm2)
end
theorem SlF.one {α : Type} {f : α → List Value} {sz : Nat} {S : MS} {B : Nat} {v : Value} {l : List α} (h : SlF f sz S B v l) : v.cells = #[v] ∧ oneCell v = true := by cases h <;> exact ⟨rfl, rfl⟩
def Old (S S' : MS) : Prop := S.n ≤ S'.n ∧ ∀ y, y < S.n → S'.m y = S.m y
theorem Old.refl (S : MS) : Old S S := ⟨Nat.le_refl _, fun _ _ => rfl⟩
theorem Old.trans {S S' S'' : MS} (h : Old S S') (h' : Old S' S'') : Old S S'' := ⟨Nat.le_trans h.1 h'.1, fun y hy => by rw [h'.2 y (Nat.lt_of_lt_of_le hy h.1), h.2 y hy]⟩
theorem old_fresh (S : MS) (l : List Value) (es : Nat) : Old S (S.fresh l es) := ⟨Nat.le_succ _, fun y hy => fresh_old _ _ _ (Nat.ne_of_lt hy)⟩
theorem wf_fresh' {S : MS} (wf : S.WF) (l : List Value) (es : Nat) : (S.fresh l es).WF := fun x k hk => by
  by_cases e : x = S.n
  · subst e; exact Nat.lt_succ_self _
  · rw [fresh_old _ _ _ e] at hk; exact Nat.lt_succ_of_lt (wf x k hk)
theorem callM_wf_post {P : Program} {O : Hook} {f : FuncId} {args : List Value} {S : MS} {Q : Value → MS → Prop} (h : CallM P O f args S fun v S' => S'.WF → Q v S') : CallM P O f args S Q := fun A hA => by
  obtain ⟨v, A', S', h1, h2, h3⟩ := h A hA
  exact ⟨v, A', S', h1, h2, h3 h2.wf⟩
theorem list_keep {S S' : MS} {b : Nat} {l : List Value} (wf : S.WF) (hk : ∀ x, x < S.n → S'.m x = S.m x) (h : S.list b = some l) : S'.list b = some l := by
  unfold MS.list at h ⊢
  cases hm : S.m b with
  | none => rw [hm] at h; cases h
  | some k => rw [hk b (wf _ _ hm)]; exact h
section
variable {α : Type} {f : α → List Value} {sz : Nat}
end

end Go.Ag

