/-
  The walk through the code of blocks and of what is reached, part F1: what its functions do to memory. Nothing is asked.
-/
import Derived.Test.YtgkdmnfmfcdfmaaStW
set_option linter.all false
namespace Go.Ag
open Go
set_option linter.unusedVariables false
set_option maxRecDepth 100000

def iv (n : Int) : Value := .int .i64 n
theorem iv_one (l : List Int) : (l.map iv).all oneCell = true := by rw [List.all_eq_true]; intro v hv; obtain ⟨x, _, rfl⟩ := List.mem_map.1 hv; rfl

/-- a slice of numbers of the code's own, in blocks from B on -/
inductive Sl (S : MS) (B : Nat) : Value → List Int → Prop
  | non : Sl S B (.slice none 0 0) []
  | own {b cap : Nat} {l junk : List Int} (hb : S.m b = some (.cells ((l ++ junk).map iv) 1)) (hB : B ≤ b) (hc : cap = unk ∨ (cap < unk ∧ (l ++ junk).length = cap)) (hj : (l ++ junk).length ≤ 1000000) : Sl S B (.slice (some ⟨b, 0, none⟩) l.length cap) l

theorem Sl.len {S : MS} {B : Nat} {v : Value} {l : List Int} (h : Sl S B v l) : lenOfA v = some l.length := by cases h <;> rfl
theorem Sl.lenSl {S : MS} {B : Nat} {v : Value} {l : List Int} (h : Sl S B v l) : Go.Ag.lenSl v = some (.int .i64 l.length) := by cases h <;> rfl
theorem Sl.cells {S : MS} {B : Nat} {v : Value} {l : List Int} (h : Sl S B v l) : firstCellsM S 1 l.length v = some (l.map iv) := by
  cases h with
  | non => rfl
  | own hb hB hc hj =>
    rename_i b cap junk
    by_cases h0 : l.length = 0
    · have : l = [] := List.length_eq_zero_iff.1 h0
      subst this
      unfold firstCellsM; simp
    · rw [first_of (list_of hb) (Nat.le_refl _) h0 (by simp)]
      simp
theorem Sl.at {S : MS} {B : Nat} {v : Value} {l : List Int} {i : Nat} {x : Int} (h : Sl S B v l) (hx : l[i]? = some x) : ∃ b, iaSS 1 v (.int .i64 (i : Int)) = some (.pointer (some ⟨b, i, none⟩)) ∧ ldS none S (.pointer (some ⟨b, i, none⟩)) = some (.int .i64 x) := by
  have hlt := (List.getElem?_eq_some_iff.1 hx).1
  cases h with
  | non => cases hx
  | own hb hB hc hj =>
    rename_i b cap junk
    refine ⟨b, ?_, ?_⟩
    · rw [iaSS_of (k := .i64) (i := (i : Int)) (by omega) (by omega : (i : Int) < (l.length : Int)), Int.toNat_natCast, Nat.mul_one, Nat.zero_add]
    · rw [ldS_ptr, list_of hb]
      simp only [K.list, Option.bind_some, partS_none]
      rw [List.getElem?_map, List.getElem?_append, if_pos hlt, hx]; rfl
theorem Sl.keep {S S' : MS} {B : Nat} {v : Value} {l : List Int} (h : Sl S B v l) (hk : ∀ x k, S.m x = some k → S'.m x = S.m x) : Sl S' B v l := by
  cases h with
  | non => exact .non
  | own hb hB hc hj => exact .own (by rw [hk _ _ hb]; exact hb) hB hc hj

/-- append of numbers -/
theorem Sl.app2 {S : MS} {B : Nat} {v x : Value} {l new : List Int} (h : Sl S B v l) (wf : S.WF) (hBn : B ≤ S.n) (hl : lenOfA x = some new.length) (hf : firstCellsM S 1 new.length x = some (new.map iv)) (hsm : l.length + new.length < 1000000) :
    ∃ v' S', apS false 1 8 [.int .i64 0] S [v, x] = some (v', S') ∧ Sl S' B v' (l ++ new) ∧ S.n ≤ S'.n ∧ ∀ y, (y < B ∨ ∃ l', S.m y = some (.cells l' 0)) → S'.m y = S.m y := by
  have ne : ∀ y, (y < B ∨ ∃ l', S.m y = some (.cells l' 0)) → y ≠ S.n := fun y hy => by
    rcases hy with hy | ⟨l', hy⟩
    · omega
    · exact Nat.ne_of_lt (wf _ _ hy)
  by_cases h0 : new.length = 0
  · have : new = [] := List.length_eq_zero_iff.1 h0
    subst this
    refine ⟨v, S, ?_, by rw [List.append_nil]; exact h, Nat.le_refl _, fun _ _ => rfl⟩
    unfold apS appendedM
    simp only [Bool.false_eq_true, if_false, hl, Option.bind_some, hf, Option.map_some]
    cases h with
    | non => simp
    | own hb hB hc hj => simp [hb]
  · have hnl : (new.map iv).length = new.length * 1 := by simp
    cases h with
    | non =>
      refine ⟨_, _, apS_nil hl hf hnl (iv_one _) h0 (by omega) (by omega), ?_, Nat.le_succ _, fun y hy => fresh_old _ _ _ (ne y hy)⟩
      rw [List.nil_append]
      exact .own (junk := []) (by rw [List.append_nil]; exact fresh_at _ _ _) hBn (.inl rfl) (by simp; omega)
    | own hb hB hc hj =>
      rename_i b cap junk
      have hblt := wf _ _ hb
      have nb : ∀ y, (y < B ∨ ∃ l', S.m y = some (.cells l' 0)) → y ≠ b := fun y hy e => by
        rcases hy with hy | ⟨l', hy⟩
        · omega
        · rw [e, hb] at hy; cases hy
      have hunk : 1000000 < unk := by decide
      -- in its place, or in a new one
      have inplace : ((l ++ junk).map iv).length ≥ l.length + new.length → ∃ S', S.write b (0 + l.length * 1) (new.map iv) = some S' ∧ Sl S' B (.slice (some ⟨b, 0, none⟩) (l.length + new.length) cap) (l ++ new) ∧ S.n ≤ S'.n ∧ ∀ y, (y < B ∨ ∃ l', S.m y = some (.cells l' 0)) → S'.m y = S.m y := by
        intro hge
        rw [write_of hb (by simp at hge ⊢; omega)]
        refine ⟨_, rfl, ?_, Nat.le_refl _, fun y hy => by rw [set_m, if_neg (nb y hy)]⟩
        have e : spliceL ((l ++ junk).map iv) (new.map iv) (0 + l.length * 1) = ((l ++ new) ++ junk.drop new.length).map iv := by
          unfold spliceL
          simp only [List.map_append, List.length_map, Nat.zero_add, Nat.mul_one]
          rw [List.take_append_of_le_length (by simp), List.take_of_length_le (by simp), List.drop_append, List.drop_of_length_le (by simp)]
          simp
        have hl2 : l.length + new.length = (l ++ new).length := by simp
        rw [hl2]
        refine .own (junk := junk.drop new.length) (by rw [set_m, if_pos rfl, e]) hB ?_ (by simp at hge hj ⊢; omega)
        rcases hc with hc | ⟨hc, hc2⟩
        · exact .inl hc
        · refine .inr ⟨hc, ?_⟩
          simp at hge hc2 ⊢; omega
      unfold apS appendedM
      simp only [Bool.false_eq_true, if_false, hl, Option.bind_some, hf, Option.map_some, hnl, Nat.beq_refl, iv_one, Bool.and_self, if_true, if_neg h0, hb]
      rcases hc with hc | ⟨hc, hc2⟩
      · subst hc
        rw [if_pos (Nat.beq_refl _)]
        by_cases hge : ((l ++ junk).map iv).length ≥ l.length + new.length
        · rw [if_pos (by rw [Nat.ble_eq]; omega)]
          obtain ⟨S', h1, h2⟩ := inplace hge
          rw [h1]
          exact ⟨_, _, rfl, h2⟩
        · rw [if_neg (by rw [Nat.ble_eq]; omega), if_pos ⟨by omega, by omega, by simp⟩]
          refine ⟨_, _, rfl, ?_, Nat.le_succ _, fun y hy => ?_⟩
          · have e : ((List.drop 0 (List.map iv (l ++ junk))).take (l.length * 1) ++ new.map iv) = ((l ++ new) ++ []).map iv := by simp
            have hl2 : l.length + new.length = (l ++ new).length := by simp
            rw [e, hl2]
            exact .own (junk := []) (fresh_at _ _ _) hBn (.inl rfl) (by simp; omega)
          · have e : (S.del b).n = S.n := rfl
            rw [fresh_old _ _ _ (by rw [e]; exact ne y hy), del_old _ (nb y hy)]
      · rw [if_neg (by rw [Nat.beq_eq]; omega)]
        by_cases hge : l.length + new.length ≤ cap
        · rw [if_pos (by rw [Nat.ble_eq]; omega)]
          obtain ⟨S', h1, h2⟩ := inplace (by rw [List.length_map]; omega)
          rw [h1]
          exact ⟨_, _, rfl, h2⟩
        · rw [if_neg (by rw [Nat.ble_eq]; omega), if_pos ⟨by omega, by omega, by simp⟩]
          refine ⟨_, _, rfl, ?_, Nat.le_succ _, fun y hy => fresh_old _ _ _ (ne y hy)⟩
          have e : ((List.drop 0 (List.map iv (l ++ junk))).take (l.length * 1) ++ new.map iv) = ((l ++ new) ++ []).map iv := by simp
          have hl2 : l.length + new.length = (l ++ new).length := by simp
          rw [e, hl2]
          exact .own (junk := []) (fresh_at _ _ _) hBn (.inl rfl) (by simp; omega)

/-- append of numbers, with less said -/
theorem Sl.app {S : MS} {B : Nat} {v x : Value} {l new : List Int} (h : Sl S B v l) (wf : S.WF) (hBn : B ≤ S.n) (hl : lenOfA x = some new.length) (hf : firstCellsM S 1 new.length x = some (new.map iv)) (hsm : l.length + new.length < 1000000) :
    ∃ v' S', apS false 1 8 [.int .i64 0] S [v, x] = some (v', S') ∧ Sl S' B v' (l ++ new) ∧ S.n ≤ S'.n ∧ ∀ y, y < B → S'.m y = S.m y := by
  obtain ⟨v', S', h1, h2, h3, h4⟩ := h.app2 wf hBn hl hf hsm
  exact ⟨v', S', h1, h2, h3, fun y hy => h4 y (.inl hy)⟩

theorem slS_own (sz : Nat) (S : MS) (b off len cap : Nat) (low high : Option Value) : slS sz S (.slice (some ⟨b, off, none⟩) len cap) low high none =
    if Nat.beq cap unk then
      (S.m b).bind fun k =>
      match k with
      | .cells l es =>
        if Nat.beq es sz && Nat.blt 0 sz && Nat.ble off l.length then
          (abounds len (Nat.max len ((l.length - off) / sz)) low high none).bind fun (l, h, m) =>
            if Nat.blt h unk && Nat.blt m unk then some (.slice (some ⟨b, off + l * sz, none⟩) (h - l) unk) else none
        else none
      | _ => none
    else
      if Nat.blt cap unk then (abounds len cap low high none).bind fun (l, h, m) => some (.slice (some ⟨b, off + l * sz, none⟩) (h - l) (m - l)) else none := by
  unfold slS
  split
  · rename_i h; cases h
  · rename_i h; cases h
  · rename_i h; cases h; rfl
  · rename_i h1 h2 h3; exact absurd rfl (h3 b off len cap)

/-- the last one taken off -/
theorem Sl.pop {S : MS} {B : Nat} {v : Value} {l : List Int} {x : Int} (h : Sl S B v (l ++ [x])) (hsm : l.length < 1000000) : ∃ v', slS 1 S v none (some (.int .i64 (l.length : Int))) none = some v' ∧ Sl S B v' l := by
  generalize he : l ++ [x] = l' at h
  cases h with
  | non => simp at he
  | own hb hB hc hj =>
    rename_i b cap junk
    subst he
    have hunk : 1000000 < unk := by decide
    have e : ((l ++ [x]) ++ junk) = l ++ (x :: junk) := by simp
    rw [e] at hb hc
    have hin : ∀ c, l.length + 1 ≤ c → ∀ m, abounds m c none (some (.int .i64 (l.length : Int))) none = some (0, l.length, c) := by
      intro c hc m
      unfold abounds intIn
      simp only [Option.bind_some]
      rw [if_pos ⟨by omega, by omega⟩]
      simp
    have hlen : (l ++ [x]).length = l.length + 1 := by simp
    rcases hc with hc | ⟨hc, hc2⟩
    · subst hc
      rw [slS_own]
      simp only [Nat.beq_refl, if_true, hb, Option.bind_some, List.length_map]
      rw [if_pos (by simp), hin _ (by rw [hlen]; exact Nat.le_max_left _ _)]
      simp only [Option.bind_some]
      rw [if_pos ?_]
      · refine ⟨_, rfl, ?_⟩
        simp only [Nat.zero_mul, Nat.add_zero, Nat.sub_zero]
        exact .own hb hB (.inl rfl) (by rw [← e]; exact hj)
      · have hm : Nat.max (l ++ [x]).length (((l ++ x :: junk).length - 0) / 1) < unk := by
          rw [← e, Nat.sub_zero, Nat.div_one]
          refine Nat.lt_of_le_of_lt ?_ hunk
          exact Nat.max_le.2 ⟨by simp; omega, hj⟩
        rw [Bool.and_eq_true, Nat.blt_eq, Nat.blt_eq]
        exact ⟨by omega, hm⟩
    · rw [slS_own, if_neg (by rw [Nat.beq_eq]; omega), if_pos (by rw [Nat.blt_eq]; exact hc), hin _ (by rw [← hc2]; simp)]
      refine ⟨_, rfl, ?_⟩
      simp only [Nat.zero_mul, Nat.add_zero, Nat.sub_zero]
      exact .own hb hB (.inr ⟨hc, hc2⟩) (by rw [← e]; exact hj)
end Go.Ag

