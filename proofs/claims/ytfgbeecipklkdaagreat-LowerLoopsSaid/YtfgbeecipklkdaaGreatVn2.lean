/-
  The walk through LowerLoops: what its functions do to memory, part Vn2. Nothing is asked.
-/
import Derived.Test.YtfgbeecipklkdaaGreatVn1
import Derived.Test.YtfgbeecipklkdaaGreatVAg5
set_option linter.all false

namespace Go.Ag
theorem setL_c (T : FT) (i : Nat) (v : Value) (vs : List Value) : FT.setL T i (v :: vs) = FT.setL (T.set v i) (i + 1) vs := rfl
theorem aext (vs : Array Value) (ix : Nat) : aextract (.tuple vs) ix = vs.toList[ix]? := rfl
theorem setL_n (T : FT) (i : Nat) : FT.setL T i [] = T := rfl
def SV := And.intro @aext (And.intro @setL_c (And.intro @setL_n (And.intro @FT.get_set (And.intro @faS_ptr (And.intro @nilS_ptr (And.intro @nilS_func (And.intro @nilS_yield (And.intro @pickS_bool (And.intro @ldS_ptr (And.intro @list_cells (And.intro @list_ro (And.intro @partS_none (And.intro @lenSl_of (And.intro @lenStr_of (And.intro @cvInt_of (And.intro @aminmax_max (And.intro @aminmax_min (And.intro @abin_add (And.intro @abin_sub (And.intro @abin_mul (And.intro @abin_eql (And.intro @abin_neq (And.intro @abin_lss (And.intro @abin_leq (And.intro @abin_gtr (And.intro @abin_geq @aunary_not))))))))))))))))))))))))))
end Go.Ag
namespace Go.Ag
open Go
set_option linter.unusedVariables false
set_option maxRecDepth 100000
section
variable {α : Type} {f : α → List Value} {sz : Nat}

theorem fm_len (hf : ∀ a, (f a).length = sz) : ∀ l : List α, (l.flatMap f).length = l.length * sz := by
  intro l
  induction l with
  | nil => simp
  | cons a l ih => simp only [List.flatMap_cons, List.length_append, ih, hf, List.length_cons, Nat.add_mul, Nat.one_mul]; omega
theorem fm_drop (hf : ∀ a, (f a).length = sz) : ∀ (l : List α) (k : Nat), (l.flatMap f).drop (k * sz) = (l.drop k).flatMap f := by
  intro l
  induction l with
  | nil => intro k; simp
  | cons a l ih =>
    intro k
    cases k with
    | zero => simp
    | succ k =>
      have e : (k + 1) * sz = (f a).length + k * sz := by rw [hf, Nat.succ_mul]; omega
      rw [List.flatMap_cons, e, ← List.drop_drop, List.drop_left' rfl]
      exact ih k
theorem fm_take (hf : ∀ a, (f a).length = sz) (l m : List α) : ((l ++ m).flatMap f).take (l.length * sz) = l.flatMap f := by
  rw [List.flatMap_append, List.take_left' (fm_len hf l)]

/-- a slice of elements of so many cells, of the code's own, in blocks from B on -/
inductive SlF (f : α → List Value) (sz : Nat) (S : MS) (B : Nat) : Value → List α → Prop
  | non : SlF f sz S B (.slice none 0 0) []
  | own {b cap : Nat} {l junk : List α} (hb : S.m b = some (.cells ((l ++ junk).flatMap f) sz)) (hB : B ≤ b) (hc : cap = unk ∨ (cap < unk ∧ (l ++ junk).length = cap)) (hj : (l ++ junk).length ≤ 1000000) : SlF f sz S B (.slice (some ⟨b, 0, none⟩) l.length cap) l

theorem SlF.len {S : MS} {B : Nat} {v : Value} {l : List α} (h : SlF f sz S B v l) : lenOfA v = some l.length := by cases h <;> rfl
theorem SlF.lenSl {S : MS} {B : Nat} {v : Value} {l : List α} (h : SlF f sz S B v l) : Go.Ag.lenSl v = some (.int .i64 l.length) := by cases h <;> rfl
theorem SlF.cells (hfl : ∀ a, (f a).length = sz) {S : MS} {B : Nat} {v : Value} {l : List α} (h : SlF f sz S B v l) : firstCellsM S sz l.length v = some (l.flatMap f) := by
  cases h with
  | non => rfl
  | own hb hB hc hj =>
    rename_i b cap junk
    by_cases h0 : l.length = 0
    · have : l = [] := List.length_eq_zero_iff.1 h0
      subst this
      unfold firstCellsM; simp
    · rw [first_of (list_of hb) (Nat.le_refl _) h0 (by rw [fm_len hfl, List.length_append, Nat.add_mul]; omega)]
      rw [List.drop_zero, fm_take hfl]
theorem SlF.keep {S S' : MS} {B : Nat} {v : Value} {l : List α} (h : SlF f sz S B v l) (hk : ∀ x k, S.m x = some k → S'.m x = S.m x) : SlF f sz S' B v l := by
  cases h with
  | non => exact .non
  | own hb hB hc hj => exact .own (by rw [hk _ _ hb]; exact hb) hB hc hj
end
section
variable {α : Type} {f : α → List Value} {sz : Nat}

theorem fm_splice (hf : ∀ a, (f a).length = sz) (l junk new : List α) (h : new.length ≤ junk.length) : spliceL ((l ++ junk).flatMap f) (new.flatMap f) (0 + l.length * sz) = ((l ++ new) ++ junk.drop new.length).flatMap f := by
  unfold spliceL
  rw [Nat.zero_add, fm_take hf, fm_len hf, ← Nat.add_mul, fm_drop hf, List.drop_append, List.drop_of_length_le (by omega : l.length ≤ l.length + new.length)]
  simp [List.flatMap_append]

end
section
variable {α : Type} {f : α → List Value} {sz : Nat}
/-- v is no slice of the block y -/
def Av (v : Value) (y : Nat) : Prop := ∀ l c, v ≠ .slice (some ⟨y, 0, none⟩) l c
theorem SlF.av {S : MS} {B : Nat} {v : Value} {l : List α} (h : SlF f sz S B v l) {y : Nat} (hy : y < B) : Av v y := by
  cases h with
  | non => intro l c e; cases e
  | own hb hB hc hj => intro l c e; cases e; omega
theorem SlF.keep1 {S S' : MS} {B : Nat} {v : Value} {l : List α} (h : SlF f sz S B v l) (hk : ∀ y k, ¬ Av v y → S.m y = some k → S'.m y = S.m y) : SlF f sz S' B v l := by
  cases h with
  | non => exact .non
  | own hb hB hc hj => exact .own (by rw [hk _ _ (fun h => h _ _ rfl) hb]; exact hb) hB hc hj
theorem SlF.avN {S : MS} {B : Nat} {v : Value} {l : List α} (h : SlF f sz S B v l) (wf : S.WF) {y : Nat} (hy : S.n ≤ y) : Av v y := by
  cases h with
  | non => intro l c e; cases e
  | own hb hB hc hj => intro l c e; cases e; have := wf _ _ hb; omega
theorem SlF.weaken {S : MS} {B B' : Nat} {v : Value} {l : List α} (h : SlF f sz S B v l) (hB : B' ≤ B) : SlF f sz S B' v l := by
  cases h with
  | non => exact .non
  | own hb h2 hc hj => exact .own hb (Nat.le_trans hB h2) hc hj
theorem SlF.at (hfl : ∀ a, (f a).length = sz) {S : MS} {B : Nat} {v : Value} {l : List α} {i : Nat} {x : α} (h : SlF f sz S B v l) (hx : l[i]? = some x) : ∃ b, ¬ Av v b ∧ iaSS sz v (.int .i64 (i : Int)) = some (.pointer (some ⟨b, i * sz, none⟩)) ∧ ∀ S', S'.m b = S.m b → ldS (some sz) S' (.pointer (some ⟨b, i * sz, none⟩)) = some (.agg (f x).toArray) := by
  have hlt := (List.getElem?_eq_some_iff.1 hx).1
  cases h with
  | non => cases hx
  | own hb hB hc hj =>
    rename_i b cap junk
    refine ⟨b, fun h => h _ _ rfl, ?_, fun S' hS' => ?_⟩
    · rw [iaSS_of (k := .i64) (i := (i : Int)) (by omega) (by omega : (i : Int) < (l.length : Int)), Int.toNat_natCast, Nat.zero_add]
    · rw [ldS_ptr, list_of (hS'.trans hb)]
      have e : l ++ junk = l.take i ++ (x :: (l.drop (i + 1) ++ junk)) := by
        have h1 : l = l.take i ++ l.drop i := (List.take_append_drop i l).symm
        have h2 : l.drop i = x :: l.drop (i + 1) := by
          rw [List.drop_eq_getElem_cons hlt]; congr 1
          have := List.getElem?_eq_getElem hlt
          rw [hx] at this; exact (Option.some.inj this).symm
        rw [h2] at h1
        conv => lhs; rw [h1]
        simp
      have hl : (l.take i).length = i := by rw [List.length_take]; omega
      show partS (some sz) ((l ++ junk).flatMap f) (i * sz) = _
      rw [partS_some]
      · rw [e, List.flatMap_append, List.drop_left' (by rw [fm_len hfl, hl]), List.flatMap_cons, List.take_left' (hfl x)]
      · rw [fm_len hfl, List.length_append]
        have : (i + 1) * sz ≤ (l.length + junk.length) * sz := Nat.mul_le_mul_right _ (by omega)
        rw [Nat.succ_mul] at this; omega

/-- append of elements: which blocks stay -/
theorem SlF.app2 (hfl : ∀ a, (f a).length = sz) (hone : ∀ a, (f a).all oneCell = true) (hsz : 0 < sz) {bytes : Nat} {z : List Value} {S : MS} {B : Nat} {v x : Value} {l new : List α} (h : SlF f sz S B v l) (wf : S.WF) (hBn : B ≤ S.n) (hl : lenOfA x = some new.length) (hf : firstCellsM S sz new.length x = some (new.flatMap f)) (hsm : (2 * (l.length + new.length) + 1000) * bytes ≤ 281474976710656) (hsm2 : l.length + new.length ≤ 1000000) :
    ∃ v' S', apS false sz bytes z S [v, x] = some (v', S') ∧ SlF f sz S' B v' (l ++ new) ∧ S.n ≤ S'.n ∧ (∀ y, y < S.n → Av v y → S'.m y = S.m y) ∧ ∀ y, y < S.n → Av v y → Av v' y := by
  have ho : ∀ l : List α, (l.flatMap f).all oneCell = true := by
    intro l
    rw [List.all_eq_true]
    intro v hv
    obtain ⟨a, _, ha⟩ := List.mem_flatMap.1 hv
    exact List.all_eq_true.1 (hone a) v ha
  have avn : ∀ y l c, y < S.n → Av (.slice (some ⟨S.n, 0, none⟩) l c) y := fun y l c hy l' c' e => by cases e; omega
  by_cases h0 : new.length = 0
  · have : new = [] := List.length_eq_zero_iff.1 h0
    subst this
    refine ⟨v, S, ?_, by rw [List.append_nil]; exact h, Nat.le_refl _, fun _ _ _ => rfl, fun _ _ h => h⟩
    unfold apS appendedM
    simp only [Bool.false_eq_true, if_false, hl, Option.bind_some, hf, Option.map_some]
    cases h with
    | non => simp
    | own hb hB hc hj => simp [hb]
  · have hnl : (new.flatMap f).length = new.length * sz := fm_len hfl new
    cases h with
    | non =>
      refine ⟨_, _, apS_nil hl hf hnl (ho _) h0 (by simpa using hsm) (by simp at hsm2; omega), ?_, Nat.le_succ _, fun y hy _ => fresh_old _ _ _ (Nat.ne_of_lt hy), fun y hy _ => avn y _ _ hy⟩
      rw [List.nil_append]
      exact .own (junk := []) (by rw [List.append_nil]; exact fresh_at _ _ _) hBn (.inl rfl) (by simpa using hsm2)
    | own hb hB hc hj =>
      rename_i b cap junk
      have nb : ∀ y, Av (.slice (some ⟨b, 0, none⟩) l.length cap) y → y ≠ b := fun y hy e => by subst e; exact hy _ _ rfl
      have hcl : ((l ++ junk).flatMap f).length = (l.length + junk.length) * sz := by rw [fm_len hfl, List.length_append]
      have hl2 : l.length + new.length = (l ++ new).length := by simp
      have inplace : new.length ≤ junk.length → ∃ S', S.write b (0 + l.length * sz) (new.flatMap f) = some S' ∧ SlF f sz S' B (.slice (some ⟨b, 0, none⟩) (l.length + new.length) cap) (l ++ new) ∧ S.n ≤ S'.n ∧ (∀ y, y < S.n → Av (.slice (some ⟨b, 0, none⟩) l.length cap) y → S'.m y = S.m y) ∧ ∀ y, y < S.n → Av (.slice (some ⟨b, 0, none⟩) l.length cap) y → Av (.slice (some ⟨b, 0, none⟩) (l.length + new.length) cap) y := by
        intro hge
        rw [write_of hb (by rw [hcl, hnl, Nat.zero_add, ← Nat.add_mul]; exact Nat.mul_le_mul_right _ (by omega))]
        refine ⟨_, rfl, ?_, Nat.le_refl _, fun y _ hy => by rw [set_m, if_neg (nb y hy)], fun y _ hy l' c' e => by cases e; exact hy _ _ rfl⟩
        rw [hl2]
        refine .own (junk := junk.drop new.length) (by rw [set_m, if_pos rfl, fm_splice hfl _ _ _ hge]) hB ?_ (by simp at hj ⊢; omega)
        rcases hc with hc | ⟨hc, hc2⟩
        · exact .inl hc
        · refine .inr ⟨hc, ?_⟩
          simp at hc2 ⊢; omega
      have hble : (Nat.ble (0 + (l.length + new.length) * sz) ((l ++ junk).flatMap f).length = true) ↔ new.length ≤ junk.length := by
        rw [Nat.ble_eq, hcl, Nat.zero_add]
        constructor
        · intro h; have := Nat.le_of_mul_le_mul_right h hsz; omega
        · intro h; exact Nat.mul_le_mul_right _ (by omega)
      have e0 : (List.drop 0 ((l ++ junk).flatMap f)).take (l.length * sz) ++ new.flatMap f = ((l ++ new) ++ []).flatMap f := by
        rw [List.drop_zero, fm_take hfl, List.append_nil, List.flatMap_append]
      have hle0 : 0 + l.length * sz ≤ ((l ++ junk).flatMap f).length := by rw [hcl, Nat.zero_add]; exact Nat.mul_le_mul_right _ (by omega)
      unfold apS appendedM
      simp only [Bool.false_eq_true, if_false, hl, Option.bind_some, hf, Option.map_some, hnl, Nat.beq_refl, ho, Bool.and_self, if_true, if_neg h0, hb]
      rcases hc with hc | ⟨hc, hc2⟩
      · subst hc
        rw [if_pos (Nat.beq_refl _)]
        by_cases hge : new.length ≤ junk.length
        · rw [if_pos (hble.2 hge)]
          obtain ⟨S', h1, h2⟩ := inplace hge
          rw [h1]
          exact ⟨_, _, rfl, h2⟩
        · rw [if_neg (fun h => hge (hble.1 h)), if_pos ⟨hsm, by omega, hle0⟩]
          refine ⟨_, _, rfl, ?_, Nat.le_succ _, fun y hy hv => ?_, fun y hy _ => avn y _ _ hy⟩
          · rw [e0, hl2]
            exact .own (junk := []) (fresh_at _ _ _) hBn (.inl rfl) (by simpa using hsm2)
          · have e : (S.del b).n = S.n := rfl
            rw [fresh_old _ _ _ (by rw [e]; exact Nat.ne_of_lt hy), del_old _ (nb y hv)]
      · rw [if_neg (by rw [Nat.beq_eq]; omega)]
        by_cases hge : l.length + new.length ≤ cap
        · rw [if_pos (by rw [Nat.ble_eq]; omega)]
          obtain ⟨S', h1, h2⟩ := inplace (by rw [List.length_append] at hc2; omega)
          rw [h1]
          exact ⟨_, _, rfl, h2⟩
        · rw [if_neg (by rw [Nat.ble_eq]; omega), if_pos ⟨hsm, by omega, hle0⟩]
          refine ⟨_, _, rfl, ?_, Nat.le_succ _, fun y hy _ => fresh_old _ _ _ (Nat.ne_of_lt hy), fun y hy _ => avn y _ _ hy⟩
          rw [e0, hl2]
          exact .own (junk := []) (fresh_at _ _ _) hBn (.inl rfl) (by simpa using hsm2)
end
theorem slS_own (sz : Nat) (S : MS) (b off len cap : Nat) (low high : Option Value) : slS sz S (.slice (some ⟨b, off, none⟩) len cap) low high none =
    if Nat.beq cap unk then
      (S.m b).bind fun k =>
      match k with
      | .cells l es =>
        if Nat.beq es sz && Nat.blt 0 sz && Nat.ble off l.length then
          (abounds len (Nat.max len ((l.length - off) / sz)) low high none).bind fun (l, h, m) =>
            if Nat.blt h unk && Nat.blt m unk then some (.slice (some ⟨b, off + l * sz, none⟩) (h - l) unk) else none
        else none
      | _ => none
    else
      if Nat.blt cap unk then (abounds len cap low high none).bind fun (l, h, m) => some (.slice (some ⟨b, off + l * sz, none⟩) (h - l) (m - l)) else none := by
  unfold slS
  split
  · rename_i h; cases h
  · rename_i h; cases h
  · rename_i h; cases h; rfl
  · rename_i h1 h2 h3; exact absurd rfl (h3 b off len cap)

theorem SlF.one {α : Type} {f : α → List Value} {sz : Nat} {S : MS} {B : Nat} {v : Value} {l : List α} (h : SlF f sz S B v l) : v.cells = #[v] ∧ oneCell v = true := by cases h <;> exact ⟨rfl, rfl⟩
def Old (S S' : MS) : Prop := S.n ≤ S'.n ∧ ∀ y, y < S.n → S'.m y = S.m y
theorem Old.refl (S : MS) : Old S S := ⟨Nat.le_refl _, fun _ _ => rfl⟩
theorem Old.trans {S S' S'' : MS} (h : Old S S') (h' : Old S' S'') : Old S S'' := ⟨Nat.le_trans h.1 h'.1, fun y hy => by rw [h'.2 y (Nat.lt_of_lt_of_le hy h.1), h.2 y hy]⟩
theorem old_fresh (S : MS) (l : List Value) (es : Nat) : Old S (S.fresh l es) := ⟨Nat.le_succ _, fun y hy => fresh_old _ _ _ (Nat.ne_of_lt hy)⟩
theorem wf_fresh' {S : MS} (wf : S.WF) (l : List Value) (es : Nat) : (S.fresh l es).WF := fun x k hk => by
  by_cases e : x = S.n
  · subst e; exact Nat.lt_succ_self _
  · rw [fresh_old _ _ _ e] at hk; exact Nat.lt_succ_of_lt (wf x k hk)
theorem veq_int (k : IntKind) (n : Int) : veq (.int k n) (.int k n) = true := by simp [veq, veq1]
section
variable {α : Type} {f : α → List Value} {sz : Nat}
theorem fm_load (hf : ∀ a, (f a).length = sz) {S : MS} {b es i : Nat} {L : List α} {x : α} (hb : S.m b = some (.cells (L.flatMap f) es)) (hx : L[i]? = some x) : ldS (some sz) S (.pointer (some ⟨b, i * sz, none⟩)) = some (.agg (f x).toArray) := by
  have hlt := (List.getElem?_eq_some_iff.1 hx).1
  rw [ldS_ptr, list_of hb]
  have e : L = L.take i ++ (x :: L.drop (i + 1)) := by
    have h1 : L = L.take i ++ L.drop i := (List.take_append_drop i L).symm
    have h2 : L.drop i = x :: L.drop (i + 1) := by
      rw [List.drop_eq_getElem_cons hlt]; congr 1
      have := List.getElem?_eq_getElem hlt
      rw [hx] at this; exact (Option.some.inj this).symm
    rw [h2] at h1; exact h1
  have hl : (L.take i).length = i := by rw [List.length_take]; omega
  show partS (some sz) (L.flatMap f) (i * sz) = _
  rw [partS_some]
  · conv => lhs; rw [e]
    rw [List.flatMap_append, List.drop_left' (by rw [fm_len hf, hl]), List.flatMap_cons, List.take_left' (hf x)]
  · rw [fm_len hf]
    have : (i + 1) * sz ≤ L.length * sz := Nat.mul_le_mul_right _ (by omega)
    rw [Nat.succ_mul] at this; omega
theorem fm_get (hf : ∀ a, (f a).length = sz) {L : List α} {i k : Nat} {x : α} (hx : L[i]? = some x) (hk : k < sz) : (L.flatMap f)[i * sz + k]? = (f x)[k]? := by
  have hlt := (List.getElem?_eq_some_iff.1 hx).1
  have h2 : L.drop i = x :: L.drop (i + 1) := by
    rw [List.drop_eq_getElem_cons hlt]; congr 1
    have := List.getElem?_eq_getElem hlt
    rw [hx] at this; exact (Option.some.inj this).symm
  rw [← List.getElem?_drop, fm_drop hf, h2, List.flatMap_cons, List.getElem?_append_left (by rw [hf]; exact hk)]
theorem fm_store (hf : ∀ a, (f a).length = sz) (hone : ∀ a, (f a).all oneCell = true) {S : MS} {b es i : Nat} {L : List α} {x : α} (hb : S.m b = some (.cells (L.flatMap f) es)) (hi : i < L.length) :
    ∃ S1, stS sz S (.pointer (some ⟨b, i * sz, none⟩)) (.agg (f x).toArray) = some S1 ∧ S1.m b = some (.cells ((L.set i x).flatMap f) es) ∧ S1.n = S.n ∧ ∀ y, y ≠ b → S1.m y = S.m y := by
  have hle : i * sz + sz ≤ L.length * sz := by
    have : (i + 1) * sz ≤ L.length * sz := Nat.mul_le_mul_right _ (by omega)
    rw [Nat.succ_mul] at this; exact this
  refine ⟨S.set b (.cells ((L.set i x).flatMap f) es), ?_, by rw [set_m, if_pos rfl], rfl, fun y hy => by rw [set_m, if_neg hy]⟩
  have e : stS sz S (.pointer (some ⟨b, i * sz, none⟩)) (.agg (f x).toArray) = if Nat.beq (f x).toArray.size sz && (f x).toArray.toList.all oneCell then S.write b (i * sz) (f x).toArray.toList else none := rfl
  rw [e, if_pos (by simp [hf, hone]), write_of hb (by rw [fm_len hf]; simp [hf]; exact hle)]
  have hset : L.set i x = L.take i ++ (x :: L.drop (i + 1)) := by rw [List.set_eq_take_append_cons_drop, if_pos hi]
  have hl : (L.take i).length = i := by rw [List.length_take]; omega
  congr 3
  unfold spliceL
  rw [hset, List.flatMap_append, List.flatMap_cons]
  have h1 : (L.flatMap f).take (i * sz) = (L.take i).flatMap f := by
    have e2 : L.flatMap f = (L.take i ++ L.drop i).flatMap f := by rw [List.take_append_drop]
    have := fm_take hf (L.take i) (L.drop i)
    rw [hl] at this
    rw [e2]; exact this
  have h2 : (L.flatMap f).drop (i * sz + (f x).toArray.toList.length) = (L.drop (i + 1)).flatMap f := by
    have e2 : i * sz + (f x).toArray.toList.length = (i + 1) * sz := by simp [hf]; rw [Nat.succ_mul]
    rw [e2, fm_drop hf]
  rw [h1, h2]
  simp
end

theorem intIn_of {k : IntKind} {j c : Nat} (h : j ≤ c) : intIn (some (.int k (j : Int))) c = some j := by
  unfold intIn
  simp only
  rw [if_pos ⟨by omega, by omega⟩]
  simp
/-- a part of a slice of the code's own -/
theorem slS_part {S : MS} {b cap sz len i j N : Nat} {L : List Value} {low high : Option Value} (hb : S.m b = some (.cells L sz)) (hsz : 0 < sz) (hN : L.length = N * sz) (hNs : N ≤ 1000000) (hlen : len ≤ N) (hij : i ≤ j) (hj : j ≤ N) (hc : cap = unk ∨ (cap < unk ∧ N = cap)) (hlo : (low = none ∧ i = 0) ∨ low = some (.int .i64 i)) (hhi : (high = none ∧ j = len) ∨ high = some (.int .i64 j)) :
    slS sz S (.slice (some ⟨b, 0, none⟩) len cap) low high none = some (.slice (some ⟨b, i * sz, none⟩) (j - i) (if cap = unk then unk else cap - i)) := by
  have hab : ∀ c, j ≤ c → len ≤ c → abounds len c low high none = some (i, j, c) := by
    intro c hjc hlc
    unfold abounds
    rcases hhi with ⟨rfl, rfl⟩ | rfl <;> rcases hlo with ⟨rfl, rfl⟩ | rfl <;> simp only [intIn_of hjc, intIn_of hij, Option.bind_some]
  have hunk : 1000000 < unk := by decide
  rw [slS_own]
  rcases hc with rfl | ⟨hc1, hc2⟩
  · have hd : (L.length - 0) / sz = N := by rw [Nat.sub_zero, hN, Nat.mul_div_cancel _ hsz]
    have hm : Nat.max len N = N := Nat.max_eq_right hlen
    simp only [Nat.beq_refl, if_true, hb, Option.bind_some]
    rw [if_pos (by simp [hsz]), hd, hm, hab N hj hlen]
    simp only [Option.bind_some, Nat.zero_add]
    rw [if_pos (by rw [Bool.and_eq_true, Nat.blt_eq, Nat.blt_eq]; omega)]
  · rw [if_neg (by rw [Nat.beq_eq]; omega), if_pos (by rw [Nat.blt_eq]; exact hc1), hab cap (by omega) (by omega), if_neg (by omega)]
    simp only [Option.bind_some, Nat.zero_add]
end Go.Ag
namespace Go.Proofs.YtfgbeecipklkdaaGreat
open Go Go.Ag
set_option linter.unusedVariables false
set_option maxRecDepth 100000

/-- calls that are walked -/
def walked : List Nat := [10, 157, 171, 83, 34, 243, 169, 168, 32, 33, 12, 160, 82, 240, 155, 81, 30, 31, 11, 13, 302, 14, 15, 156, 164, 166]
def Fr (O : Hook) : Prop := ∀ f, walked.contains f = true → ∀ args, O f args = fun _ => none
theorem Fr.at {O : Hook} (h : Fr O) {f : Nat} (hf : walked.contains f = true) (args : List Value) : O f args = fun _ => none := h f hf args

abbrev es : Value := .string ⟨⟨[]⟩⟩
/-- a value: its kind and its number -/
def lN (k n : Int) : List Value := [.int .i64 k, .int .i64 n, es, .int .i64 0, .slice none 0 0]
def vN (k n : Int) : Value := .agg #[.int .i64 k, .int .i64 n, es, .int .i64 0, .slice none 0 0]
theorem vN_cells (k n : Int) : (Value.cells (vN k n)).toList = lN k n := rfl
theorem agg47 : aggT Tryz.prog 47 = some (some 5) := by kernel_rfl
theorem res_cell5 {T : FT} {S : MS} {b es t : Nat} {l : List Value} {rs : List ResultVar} (hT : T.get t = .pointer (some ⟨b, 0, none⟩)) (h : S.m b = some (.cells l es)) (hl : l.length = 5) : resM Tryz.prog T S (.cell t 47 :: rs) = (resM Tryz.prog T S rs).bind fun vs => some (.agg l.toArray :: vs) := by
  have e : mload Tryz.prog S 47 (T.get t) = some (.agg l.toArray) := by
    unfold mload
    rw [agg47, hT]
    show ldS (some 5) S _ = _
    rw [ldS_ptr, list_of h, list_cells]
    show partS (some 5) l 0 = _
    rw [partS_some _ _ _ (by omega), List.drop_zero, List.take_of_length_le (by omega)]
  show (mload Tryz.prog S 47 (T.get t)).bind _ = _
  rw [e]
  rfl
theorem res_tmp {T : FT} {S : MS} {t : Nat} {rs : List ResultVar} : resM Tryz.prog T S (.tmp t :: rs) = (resM Tryz.prog T S rs).bind fun vs => some (T.get t :: vs) := rfl
theorem res_nil {T : FT} {S : MS} : resM Tryz.prog T S [] = some [] := rfl

/-- Num -/
theorem num10 {O : Hook} (hO : Fr O) {n : Int} {S : MS} {Q : Value → MS → Prop} (hq : ∀ S', Old S S' → Q (vN 1 n) S') : CallM Tryz.prog O 10 [.int .i64 n] S Q := by
  refine callM_body (fnIs is10 body10 res10) (hO.at rfl _) (by simp) ?_
  refine m_seq (m_reg ?_)
  rw [reg10_0]
  refine m_seq (m_reg ?_)
  rw [reg10_1]
  simp (decide := true) only [SV, Option.some.injEq, Prod.mk.injEq, Value.bool.injEq, exists_eq_left', exists_and_left, and_assoc, decide_eq_true_eq, decide_eq_false_iff_not, if_true, if_false, Nat.zero_add, Nat.add_zero, Option.bind_some, true_and, and_true, forall_const, true_implies, Bool.not_eq_true, Bool.false_eq_true, false_implies, ite_self, Nat.mul_one, ptrTo]
  obtain ⟨S1, e1, g1, g2, g3⟩ := st_all (n := 5) (cs := (lN 1 n).toArray) (fresh_at S [.int .i64 0, .int .i64 0, es, .int .i64 0, .slice none 0 0] 0) rfl rfl rfl
  refine ⟨_, rfl, S1, e1, m_ret ?_⟩
  refine ⟨trivial, [vN 1 n], ?_, ?_⟩
  · rw [res_cell5 (by simp [FT.get_set, FT.setL]) g1 rfl, res_nil]; rfl
  · refine hq S1 ⟨?_, fun y hy => ?_⟩
    · rw [g2, fresh_n]; omega
    · rw [g3 y (by omega), fresh_old _ _ _ (by omega)]

/-- Yes -/
theorem yes157 {O : Hook} (hO : Fr O) {b : Bool} {S : MS} {Q : Value → MS → Prop} (hq : ∀ S', Old S S' → Q (vN 3 (if b then 1 else 0)) S') : CallM Tryz.prog O 157 [.bool b] S Q := by
  refine callM_body (fnIs is157 body157 res157) (hO.at rfl _) (by simp) ?_
  refine m_seq (m_reg ?_)
  rw [reg157_0]
  refine m_seq (m_seq (m_reg ?_))
  rw [reg157_1]
  simp (decide := true) only [SV, Option.some.injEq, Prod.mk.injEq, Value.bool.injEq, exists_eq_left', exists_and_left, and_assoc, decide_eq_true_eq, decide_eq_false_iff_not, if_true, if_false, Nat.zero_add, Nat.add_zero, Option.bind_some, true_and, and_true, forall_const, true_implies, Bool.not_eq_true, Bool.false_eq_true, false_implies, ite_self, Nat.mul_one, ptrTo]
  refine m_cond (t := b) (by simp [evalT, SV]) (fun hb => ?_) (fun hb => m_skip ?_)
  · subst hb
    refine m_seq (m_reg ?_)
    rw [reg157_2]
    simp (decide := true) only [SV, Option.some.injEq, Prod.mk.injEq, Value.bool.injEq, exists_eq_left', exists_and_left, and_assoc, decide_eq_true_eq, decide_eq_false_iff_not, if_true, if_false, Nat.zero_add, Nat.add_zero, Option.bind_some, true_and, and_true, forall_const, true_implies, Bool.not_eq_true, Bool.false_eq_true, false_implies, ite_self, Nat.mul_one, ptrTo]
    obtain ⟨S1, e1, g1, g2, g3⟩ := st_all (n := 5) (cs := (lN 3 1).toArray) (fresh_at S [.int .i64 0, .int .i64 0, es, .int .i64 0, .slice none 0 0] 0) rfl rfl rfl
    refine ⟨_, rfl, S1, e1, m_ret ?_⟩
    refine ⟨trivial, [vN 3 1], ?_, ?_⟩
    · rw [res_cell5 (by simp [FT.get_set, FT.setL]) g1 rfl, res_nil]; rfl
    · refine hq S1 ⟨?_, fun y hy => ?_⟩
      · rw [g2, fresh_n]; omega
      · rw [g3 y (by omega), fresh_old _ _ _ (by omega)]
  · subst hb
    refine m_seq (m_reg ?_)
    rw [reg157_3]
    simp (decide := true) only [SV, Option.some.injEq, Prod.mk.injEq, Value.bool.injEq, exists_eq_left', exists_and_left, and_assoc, decide_eq_true_eq, decide_eq_false_iff_not, if_true, if_false, Nat.zero_add, Nat.add_zero, Option.bind_some, true_and, and_true, forall_const, true_implies, Bool.not_eq_true, Bool.false_eq_true, false_implies, ite_self, Nat.mul_one, ptrTo]
    obtain ⟨S1, e1, g1, g2, g3⟩ := st_all (n := 5) (cs := (lN 3 0).toArray) (fresh_at S [.int .i64 0, .int .i64 0, es, .int .i64 0, .slice none 0 0] 0) rfl rfl rfl
    refine ⟨_, rfl, S1, e1, m_ret ?_⟩
    refine ⟨trivial, [vN 3 0], ?_, ?_⟩
    · rw [res_cell5 (by simp [FT.get_set, FT.setL]) g1 rfl, res_nil]; rfl
    · refine hq S1 ⟨?_, fun y hy => ?_⟩
      · rw [g2, fresh_n]; omega
      · rw [g3 y (by omega), fresh_old _ _ _ (by omega)]

/-- order -/
theorem order171 {O : Hook} (hO : Fr O) {a b : Bool} {S : MS} {Q : Value → MS → Prop} (hq : Q (.int .i64 (if a then -1 else if b then 1 else 0)) S) : CallM Tryz.prog O 171 [.bool a, .bool b] S Q := by
  refine callM_body (fnIs is171 body171 res171) (hO.at rfl _) (by simp) ?_
  refine m_seq (m_reg ?_)
  rw [reg171_0]
  refine m_seq (m_block (m_seq (m_reg ?_)))
  rw [reg171_1]
  refine m_cond (t := a) (by simp [evalT, SV]) (fun ha => ?_) (fun ha => ?_)
  · subst ha
    refine m_seq (m_reg ?_)
    rw [reg171_2]
    exact m_ret ⟨trivial, _, by rw [res_tmp, res_nil]; rfl, by simpa [SV, oneOrTuple] using hq⟩
  · subst ha
    refine m_seq (m_reg ?_)
    rw [reg171_3]
    refine m_cond (t := b) (by simp [evalT, SV]) (fun hb => ?_) (fun hb => m_skip ?_)
    · subst hb
      refine m_seq (m_reg ?_)
      rw [reg171_4]
      exact m_ret ⟨trivial, _, by rw [res_tmp, res_nil]; rfl, by simpa [SV, oneOrTuple] using hq⟩
    · subst hb
      refine m_seq (m_reg ?_)
      rw [reg171_5]
      exact m_ret ⟨trivial, _, by rw [res_tmp, res_nil]; rfl, by simpa [SV, oneOrTuple] using hq⟩
end Go.Proofs.YtfgbeecipklkdaaGreat
namespace Go.Proofs.YtfgbeecipklkdaaGreat
open Go Go.Ag
set_option linter.unusedVariables false
set_option maxRecDepth 100000

theorem lN0 (k n : Int) : (lN k n)[0]? = some (.int .i64 k) := rfl
theorem lN1 (k n : Int) : (lN k n)[1]? = some (.int .i64 n) := rfl
theorem lN2 (k n : Int) : (lN k n)[2]? = some es := rfl
theorem lN3 (k n : Int) : (lN k n)[3]? = some (.int .i64 0) := rfl
theorem lN4 (k n : Int) : (lN k n)[4]? = some (.slice none 0 0) := rfl
theorem str_lss {t : TypeId} {x y : Operand} : abin Tryz.prog .lss t x y es es = some (.bool false) := by simp [abin, binOp, Op.stringOp, pureRun, pure, es]; try decide
theorem str_gtr {t : TypeId} {x y : Operand} : abin Tryz.prog .gtr t x y es es = some (.bool false) := by simp [abin, binOp, Op.stringOp, pureRun, pure, es]; try decide
theorem if0 (c : Int) : (if c = 0 then 0 else c) = c := by split <;> simp_all
def ord (a b : Int) : Int := if a < b then -1 else if a > b then 1 else 0
def cmpI (k n k' n' : Int) : Int := if ord k k' = 0 then ord n n' else ord k k'
theorem ord_eq {a b : Int} : (if decide (a < b) = true then (-1 : Int) else if decide (a > b) = true then 1 else 0) = ord a b := by
  unfold ord; simp

structure J83 (S0 : MS) (k n k' n' c : Int) (T : FT) (S : MS) : Prop where
  l1 : S.list S0.n = some (lN k n)
  l2 : S.list (S0.n + 1) = some (lN k' n')
  t2 : T.get 2 = .pointer (some ⟨S0.n, 0, none⟩)
  t3 : T.get 3 = .pointer (some ⟨S0.n + 1, 0, none⟩)
  t5 : T.get 5 = .int .i64 c
  old : Old S0 S

theorem stage83_2 {O : Hook} (hO : Fr O) {S0 S : MS} {k n k' n' c : Int} {T : FT} (h : J83 S0 k n k' n' c T S) :
    MWp Tryz.prog O 104 (.seq (.region 2 (ro 83 2) false) (.cond (.tmp 19) (.region 3 (ro 83 3) false) .skip)) T S (fun x T' S' => x = .normal ∧ J83 S0 k n k' n' (if c = 0 then ord n n' else c) T' S') := by
  obtain ⟨l1, l2, t2, t3, t5, old⟩ := h
  refine m_seq (m_reg ?_)
  rw [reg83_2]
  simp (decide := true) only [SV, Option.some.injEq, Prod.mk.injEq, Value.bool.injEq, exists_eq_left', exists_and_left, and_assoc, decide_eq_true_eq, decide_eq_false_iff_not, if_true, if_false, Nat.zero_add, Nat.add_zero, Option.bind_some, true_and, and_true, forall_const, true_implies, Bool.not_eq_true, Bool.false_eq_true, false_implies, ite_self, Nat.mul_one, t5]
  refine m_cond (t := (c == 0)) (by simp [evalT, SV]) (fun hb => ?_) (fun hb => m_skip ?_)
  · have hc : c = 0 := by simpa using hb
    refine m_reg ?_
    rw [reg83_3]
    simp (decide := true) only [SV, Option.some.injEq, Prod.mk.injEq, Value.bool.injEq, exists_eq_left', exists_and_left, and_assoc, decide_eq_true_eq, decide_eq_false_iff_not, if_true, if_false, Nat.zero_add, Nat.add_zero, Option.bind_some, true_and, and_true, forall_const, true_implies, Bool.not_eq_true, Bool.false_eq_true, false_implies, ite_self, Nat.mul_one, t2, t3, l1, l2, lN0, lN1, lN2, lN3, lN4, str_lss, str_gtr, Option.bind_some]
    refine order171 hO ?_
    refine ⟨l1, l2, ?_, ?_, ?_, old⟩
    · simp [SV, t2]
    · simp [SV, t3]
    · rw [if_pos hc]
      simp [SV]
      rfl
  · have hc : c ≠ 0 := by simpa using hb
    refine ⟨rfl, l1, l2, ?_, ?_, ?_, old⟩
    · simp [SV, t2]
    · simp [SV, t3]
    · rw [if_neg hc]
      simp [SV, t5]

theorem stage83_4 {O : Hook} (hO : Fr O) {S0 S : MS} {k n k' n' c : Int} {T : FT} (h : J83 S0 k n k' n' c T S) :
    MWp Tryz.prog O 104 (.seq (.region 4 (ro 83 4) false) (.cond (.tmp 32) (.region 5 (ro 83 5) false) .skip)) T S (fun x T' S' => x = .normal ∧ J83 S0 k n k' n' (if c = 0 then 0 else c) T' S') := by
  obtain ⟨l1, l2, t2, t3, t5, old⟩ := h
  refine m_seq (m_reg ?_)
  rw [reg83_4]
  simp (decide := true) only [SV, Option.some.injEq, Prod.mk.injEq, Value.bool.injEq, exists_eq_left', exists_and_left, and_assoc, decide_eq_true_eq, decide_eq_false_iff_not, if_true, if_false, Nat.zero_add, Nat.add_zero, Option.bind_some, true_and, and_true, forall_const, true_implies, Bool.not_eq_true, Bool.false_eq_true, false_implies, ite_self, Nat.mul_one, t5]
  refine m_cond (t := (c == 0)) (by simp [evalT, SV]) (fun hb => ?_) (fun hb => m_skip ?_)
  · have hc : c = 0 := by simpa using hb
    refine m_reg ?_
    rw [reg83_5]
    simp (decide := true) only [SV, Option.some.injEq, Prod.mk.injEq, Value.bool.injEq, exists_eq_left', exists_and_left, and_assoc, decide_eq_true_eq, decide_eq_false_iff_not, if_true, if_false, Nat.zero_add, Nat.add_zero, Option.bind_some, true_and, and_true, forall_const, true_implies, Bool.not_eq_true, Bool.false_eq_true, false_implies, ite_self, Nat.mul_one, t2, t3, l1, l2, lN0, lN1, lN2, lN3, lN4, str_lss, str_gtr, Option.bind_some]
    refine order171 hO ?_
    refine ⟨l1, l2, ?_, ?_, ?_, old⟩
    · simp [SV, t2]
    · simp [SV, t3]
    · rw [if_pos hc]
      simp [SV]
  · have hc : c ≠ 0 := by simpa using hb
    refine ⟨rfl, l1, l2, ?_, ?_, ?_, old⟩
    · simp [SV, t2]
    · simp [SV, t3]
    · rw [if_neg hc]
      simp [SV, t5]

theorem stage83_6 {O : Hook} (hO : Fr O) {S0 S : MS} {k n k' n' c : Int} {T : FT} (h : J83 S0 k n k' n' c T S) :
    MWp Tryz.prog O 104 (.seq (.region 6 (ro 83 6) false) (.cond (.tmp 45) (.region 7 (ro 83 7) false) .skip)) T S (fun x T' S' => x = .normal ∧ J83 S0 k n k' n' (if c = 0 then 0 else c) T' S') := by
  obtain ⟨l1, l2, t2, t3, t5, old⟩ := h
  refine m_seq (m_reg ?_)
  rw [reg83_6]
  simp (decide := true) only [SV, Option.some.injEq, Prod.mk.injEq, Value.bool.injEq, exists_eq_left', exists_and_left, and_assoc, decide_eq_true_eq, decide_eq_false_iff_not, if_true, if_false, Nat.zero_add, Nat.add_zero, Option.bind_some, true_and, and_true, forall_const, true_implies, Bool.not_eq_true, Bool.false_eq_true, false_implies, ite_self, Nat.mul_one, t5]
  refine m_cond (t := (c == 0)) (by simp [evalT, SV]) (fun hb => ?_) (fun hb => m_skip ?_)
  · have hc : c = 0 := by simpa using hb
    refine m_reg ?_
    rw [reg83_7]
    simp (decide := true) only [SV, Option.some.injEq, Prod.mk.injEq, Value.bool.injEq, exists_eq_left', exists_and_left, and_assoc, decide_eq_true_eq, decide_eq_false_iff_not, if_true, if_false, Nat.zero_add, Nat.add_zero, Option.bind_some, true_and, and_true, forall_const, true_implies, Bool.not_eq_true, Bool.false_eq_true, false_implies, ite_self, Nat.mul_one, t2, t3, l1, l2, lN0, lN1, lN2, lN3, lN4, str_lss, str_gtr, Option.bind_some]
    refine order171 hO ?_
    refine ⟨l1, l2, ?_, ?_, ?_, old⟩
    · simp [SV, t2]
    · simp [SV, t3]
    · rw [if_pos hc]
      simp [SV]
  · have hc : c ≠ 0 := by simpa using hb
    refine ⟨rfl, l1, l2, ?_, ?_, ?_, old⟩
    · simp [SV, t2]
    · simp [SV, t3]
    · rw [if_neg hc]
      simp [SV, t5]

theorem stage83_12 {O : Hook} (hO : Fr O) {S0 S : MS} {k n k' n' c : Int} {T : FT} (h : J83 S0 k n k' n' c T S) :
    MWp Tryz.prog O 104 (.seq (.region 12 (ro 83 12) false) (.cond (.tmp 87) (.region 13 (ro 83 13) false) .skip)) T S (fun x T' S' => x = .normal ∧ J83 S0 k n k' n' (if c = 0 then 0 else c) T' S') := by
  obtain ⟨l1, l2, t2, t3, t5, old⟩ := h
  refine m_seq (m_reg ?_)
  rw [reg83_12]
  simp (decide := true) only [SV, Option.some.injEq, Prod.mk.injEq, Value.bool.injEq, exists_eq_left', exists_and_left, and_assoc, decide_eq_true_eq, decide_eq_false_iff_not, if_true, if_false, Nat.zero_add, Nat.add_zero, Option.bind_some, true_and, and_true, forall_const, true_implies, Bool.not_eq_true, Bool.false_eq_true, false_implies, ite_self, Nat.mul_one, t5]
  refine m_cond (t := (c == 0)) (by simp [evalT, SV]) (fun hb => ?_) (fun hb => m_skip ?_)
  · have hc : c = 0 := by simpa using hb
    refine m_reg ?_
    rw [reg83_13]
    simp (decide := true) only [SV, Option.some.injEq, Prod.mk.injEq, Value.bool.injEq, exists_eq_left', exists_and_left, and_assoc, decide_eq_true_eq, decide_eq_false_iff_not, if_true, if_false, Nat.zero_add, Nat.add_zero, Option.bind_some, true_and, and_true, forall_const, true_implies, Bool.not_eq_true, Bool.false_eq_true, false_implies, ite_self, Nat.mul_one, t2, t3, l1, l2, lN0, lN1, lN2, lN3, lN4, str_lss, str_gtr, Option.bind_some]
    refine order171 hO ?_
    refine ⟨l1, l2, ?_, ?_, ?_, old⟩
    · simp [SV, t2]
    · simp [SV, t3]
    · rw [if_pos hc]
      simp [SV]
  · have hc : c ≠ 0 := by simpa using hb
    refine ⟨rfl, l1, l2, ?_, ?_, ?_, old⟩
    · simp [SV, t2]
    · simp [SV, t3]
    · rw [if_neg hc]
      simp [SV, t5]

/-- Compare of two numbers -/
theorem cmp83 {O : Hook} (hO : Fr O) {k n k' n' : Int} {S : MS} {Q : Value → MS → Prop} (hq : ∀ S', Old S S' → Q (.int .i64 (cmpI k n k' n')) S') : CallM Tryz.prog O 83 [vN k n, vN k' n'] S Q := by
  refine callM_body (fnIs is83 body83 res83) (hO.at rfl _) (by simp) ?_
  refine m_seq (m_reg ?_)
  rw [reg83_0]
  simp (decide := true) only [SV, Option.some.injEq, Prod.mk.injEq, Value.bool.injEq, exists_eq_left', exists_and_left, and_assoc, decide_eq_true_eq, decide_eq_false_iff_not, if_true, if_false, Nat.zero_add, Nat.add_zero, Option.bind_some, true_and, and_true, forall_const, true_implies, Bool.not_eq_true, Bool.false_eq_true, false_implies, ite_self, Nat.mul_one, vN_cells, ptrTo]
  have old2 : Old S ((S.fresh (lN k n) 0).fresh (lN k' n') 0) := (old_fresh _ _ _).trans (old_fresh _ _ _)
  have l1 : ((S.fresh (lN k n) 0).fresh (lN k' n') 0).list S.n = some (lN k n) := by rw [list_of ((fresh_old _ _ _ (by rw [fresh_n]; omega)).trans (fresh_at S _ _)), list_cells]
  have l2 : ((S.fresh (lN k n) 0).fresh (lN k' n') 0).list (S.n + 1) = some (lN k' n') := by
    show ((S.fresh (lN k n) 0).fresh (lN k' n') 0).list (S.fresh (lN k n) 0).n = _
    rw [list_of (fresh_at (S.fresh (lN k n) 0) _ _), list_cells]
  generalize (S.fresh (lN k n) 0).fresh (lN k' n') 0 = S2 at old2 l1 l2
  refine m_seq (m_reg ?_)
  rw [reg83_1]
  simp (decide := true) only [SV, Option.some.injEq, Prod.mk.injEq, Value.bool.injEq, exists_eq_left', exists_and_left, and_assoc, decide_eq_true_eq, decide_eq_false_iff_not, if_true, if_false, Nat.zero_add, Nat.add_zero, Option.bind_some, true_and, and_true, forall_const, true_implies, Bool.not_eq_true, Bool.false_eq_true, false_implies, ite_self, Nat.mul_one, l1, l2, lN0, lN1, fresh_n]
  refine order171 hO ?_
  rw [ord_eq]
  refine m_seq (MWp.mono (stage83_2 hO (S0 := S) (k := k) (n := n) (k' := k') (n' := n') (c := ord k k') ⟨l1, l2, by simp [SV, fresh_n], by simp [SV, fresh_n], by simp [SV], old2⟩) ?_)
  rintro _ T3 S3 ⟨rfl, h3⟩
  refine m_seq (MWp.mono (stage83_4 hO h3) ?_)
  rintro _ T4 S4 ⟨rfl, h4⟩
  refine m_seq (MWp.mono (stage83_6 hO h4) ?_)
  rintro _ T5 S5 ⟨rfl, h5⟩
  refine m_seq (m_seq (m_reg ?_))
  rw [reg83_8]
  obtain ⟨l1', l2', t2, t3, t5, old5⟩ := h5
  generalize hc : (if (if (if ord k k' = 0 then ord n n' else ord k k') = 0 then 0 else (if ord k k' = 0 then ord n n' else ord k k')) = 0 then (0 : Int) else (if (if ord k k' = 0 then ord n n' else ord k k') = 0 then 0 else (if ord k k' = 0 then ord n n' else ord k k'))) = c at t5
  have hc' : c = cmpI k n k' n' := by
    rw [← hc]; unfold cmpI
    simp only [if0]
  refine m_block (m_loop (fun m T S' => J83 S k n k' n' c T S' ∧ T.get 6 = .int .i64 0) 0 ⟨⟨l1', l2', by simp [SV, t2], by simp [SV, t3], by simp [SV, t5], old5⟩, by simp [SV]⟩ ?_)
  rintro m T6 S6 ⟨⟨m1, m2, u2, u3, u5, old6⟩, u6⟩
  refine m_seq (m_seq (m_reg ?_))
  rw [reg83_9]
  simp (decide := true) only [SV, Option.some.injEq, Prod.mk.injEq, Value.bool.injEq, exists_eq_left', exists_and_left, and_assoc, decide_eq_true_eq, decide_eq_false_iff_not, if_true, if_false, Nat.zero_add, Nat.add_zero, Option.bind_some, true_and, and_true, forall_const, true_implies, Bool.not_eq_true, Bool.false_eq_true, false_implies, ite_self, Nat.mul_one, u2, u3, u5, u6, m1, m2, lN4]
  refine m_cond (t := false) (by simp [evalT, SV]) (fun h => by cases h) (fun _ => m_exit ?_)
  simp only [if_true]
  refine m_seq (MWp.mono (stage83_12 hO (S0 := S) (k := k) (n := n) (k' := k') (n' := n') (c := c) ⟨m1, m2, by simp [SV, u2], by simp [SV, u3], by simp [SV, u5], old6⟩) ?_)
  rintro _ T7 S7 ⟨rfl, h7⟩
  refine m_seq (m_reg ?_)
  rw [reg83_14]
  refine m_ret ?_
  refine ⟨trivial, [T7.get 5], ?_, ?_⟩
  · rw [res_tmp, res_nil]; simp [SV]
  · rw [h7.t5]
    have : (if c = 0 then 0 else c) = cmpI k n k' n' := by rw [← hc', if0]
    rw [this]
    exact hq _ h7.old

/-- Same of two numbers -/
theorem same34 {O : Hook} (hO : Fr O) {k n k' n' : Int} {S : MS} {Q : Value → MS → Prop} (hq : ∀ S', Old S S' → Q (.bool (cmpI k n k' n' == 0)) S') : CallM Tryz.prog O 34 [vN k n, vN k' n'] S Q := by
  refine callM_body (fnIs is34 body34 res34) (hO.at rfl _) (by simp) ?_
  refine m_seq (m_reg ?_)
  rw [reg34_0]
  simp (decide := true) only [SV, Option.some.injEq, Prod.mk.injEq, Value.bool.injEq, exists_eq_left', exists_and_left, and_assoc, decide_eq_true_eq, decide_eq_false_iff_not, if_true, if_false, Nat.zero_add, Nat.add_zero, Option.bind_some, true_and, and_true, forall_const, true_implies, Bool.not_eq_true, Bool.false_eq_true, false_implies, ite_self, Nat.mul_one, vN_cells, ptrTo]
  have old2 : Old S ((S.fresh (lN k n) 0).fresh (lN k' n') 0) := (old_fresh _ _ _).trans (old_fresh _ _ _)
  have l1 : ldS (some 5) ((S.fresh (lN k n) 0).fresh (lN k' n') 0) (.pointer (some ⟨S.n, 0, none⟩)) = some (vN k n) := by
    rw [ldS_ptr, list_of ((fresh_old _ _ _ (by rw [fresh_n]; omega)).trans (fresh_at S _ _)), list_cells]; rfl
  have l2 : ldS (some 5) ((S.fresh (lN k n) 0).fresh (lN k' n') 0) (.pointer (some ⟨S.n + 1, 0, none⟩)) = some (vN k' n') := by
    have e : ((S.fresh (lN k n) 0).fresh (lN k' n') 0).list (S.n + 1) = some (lN k' n') := by
      show ((S.fresh (lN k n) 0).fresh (lN k' n') 0).list (S.fresh (lN k n) 0).n = _
      rw [list_of (fresh_at (S.fresh (lN k n) 0) _ _), list_cells]
    rw [ldS_ptr, e]; rfl
  generalize (S.fresh (lN k n) 0).fresh (lN k' n') 0 = S2 at old2 l1 l2
  refine m_seq (m_reg ?_)
  rw [reg34_1]
  simp (decide := true) only [FT.get_set, FT.setL, if_true, if_false, fresh_n, l1, l2, Option.some.injEq, exists_eq_left']
  refine cmp83 hO fun S3 f3 => ?_
  simp (decide := true) only [SV, Option.some.injEq, Prod.mk.injEq, Value.bool.injEq, exists_eq_left', exists_and_left, and_assoc, decide_eq_true_eq, decide_eq_false_iff_not, if_true, if_false, Nat.zero_add, Nat.add_zero, Option.bind_some, true_and, and_true, forall_const, true_implies, Bool.not_eq_true, Bool.false_eq_true, false_implies, ite_self, Nat.mul_one, ]
  refine m_ret ?_
  refine ⟨trivial, [.bool (cmpI k n k' n' == 0)], ?_, hq _ (old2.trans f3)⟩
  rw [res_tmp, res_nil]; simp [SV]
end Go.Proofs.YtfgbeecipklkdaaGreat
namespace Go.Proofs.YtfgbeecipklkdaaGreat
open Go Go.Ag
set_option linter.unusedVariables false
set_option maxRecDepth 100000

theorem wrap_u64 {n : Int} (h1 : 0 ≤ n) (h2 : n ≤ 9223372036854775807) : IntKind.u64.wrap n = n := by
  unfold IntKind.wrap IntKind.bits IntKind.signed
  simp
  omega

/-- Reckon: a sum -/
theorem add243 {O : Hook} (hO : Fr O) {a b : Int} (ha : 0 ≤ a ∧ a ≤ 1000000) (hb : 0 ≤ b ∧ b ≤ 1000000) {S : MS} {Q : Value → MS → Prop} (hq : Q (.tuple #[.int .i64 (a + b), .int .i64 0]) S) : CallM Tryz.prog O 243 [.int .i64 5, .int .i64 a, .int .i64 b] S Q := by
  have w1 : IntKind.u64.wrap a = a := wrap_u64 ha.1 (by omega)
  have w2 : IntKind.u64.wrap b = b := wrap_u64 hb.1 (by omega)
  have w3 : IntKind.u64.wrap (a + b) = a + b := wrap_u64 (by omega) (by omega)
  have w4 : IntKind.i64.wrap (a + b) = a + b := wrap_i64 (by omega) (by omega)
  have d1 : decide (a ≥ 0) = true := by simp; omega
  have d2 : decide (b ≥ 0) = true := by simp; omega
  have d3 : decide (a + b < 0) = false := by simp; omega
  have d4 : decide (a < 0) = false := by simp; omega
  have p1 : (a ≥ 0) = True := by simp; omega
  have p2 : (b ≥ 0) = True := by simp; omega
  have p3 : (a + b < 0) = False := by simp; omega
  have p4 : (a < 0) = False := by simp; omega
  refine callM_body (fnIs is243 body243 res243) (hO.at rfl _) (by simp) ?_
  refine m_seq (m_reg ?_)
  rw [reg243_0]
  refine m_seq (m_reg ?_)
  rw [reg243_1]
  simp (decide := true) only [SV, Option.some.injEq, Prod.mk.injEq, Value.bool.injEq, exists_eq_left', exists_and_left, and_assoc, decide_eq_true_eq, decide_eq_false_iff_not, if_true, if_false, Nat.zero_add, Nat.add_zero, Option.bind_some, true_and, and_true, forall_const, true_implies, Bool.not_eq_true, Bool.false_eq_true, false_implies, ite_self, Nat.mul_one, w1, w2]
  refine m_seq (m_seq (m_reg ?_))
  rw [reg243_2]
  refine m_block (m_seq (m_reg ?_))
  rw [reg243_3]
  simp (decide := true) only [SV, Option.some.injEq, Prod.mk.injEq, Value.bool.injEq, exists_eq_left', exists_and_left, and_assoc, decide_eq_true_eq, decide_eq_false_iff_not, if_true, if_false, Nat.zero_add, Nat.add_zero, Option.bind_some, true_and, and_true, forall_const, true_implies, Bool.not_eq_true, Bool.false_eq_true, false_implies, ite_self, Nat.mul_one, ]
  refine m_cond (t := false) (by simp [evalT, SV]) (fun h => by cases h) (fun _ => m_seq (m_reg ?_))
  rw [reg243_5]
  simp (decide := true) only [SV, Option.some.injEq, Prod.mk.injEq, Value.bool.injEq, exists_eq_left', exists_and_left, and_assoc, decide_eq_true_eq, decide_eq_false_iff_not, if_true, if_false, Nat.zero_add, Nat.add_zero, Option.bind_some, true_and, and_true, forall_const, true_implies, Bool.not_eq_true, Bool.false_eq_true, false_implies, ite_self, Nat.mul_one, ]
  refine m_cond (t := false) (by simp [evalT, SV]) (fun h => by cases h) (fun _ => m_seq (m_reg ?_))
  rw [reg243_7]
  simp (decide := true) only [SV, Option.some.injEq, Prod.mk.injEq, Value.bool.injEq, exists_eq_left', exists_and_left, and_assoc, decide_eq_true_eq, decide_eq_false_iff_not, if_true, if_false, Nat.zero_add, Nat.add_zero, Option.bind_some, true_and, and_true, forall_const, true_implies, Bool.not_eq_true, Bool.false_eq_true, false_implies, ite_self, Nat.mul_one, ]
  refine m_cond (t := false) (by simp [evalT, SV]) (fun h => by cases h) (fun _ => m_seq (m_reg ?_))
  rw [reg243_9]
  simp (decide := true) only [SV, Option.some.injEq, Prod.mk.injEq, Value.bool.injEq, exists_eq_left', exists_and_left, and_assoc, decide_eq_true_eq, decide_eq_false_iff_not, if_true, if_false, Nat.zero_add, Nat.add_zero, Option.bind_some, true_and, and_true, forall_const, true_implies, Bool.not_eq_true, Bool.false_eq_true, false_implies, ite_self, Nat.mul_one, ]
  refine m_cond (t := true) (by simp [evalT, SV]) (fun _ => m_seq (m_reg ?_)) (fun h => by cases h)
  rw [reg243_10]
  simp (decide := true) only [SV, Option.some.injEq, Prod.mk.injEq, Value.bool.injEq, exists_eq_left', exists_and_left, and_assoc, decide_eq_true_eq, decide_eq_false_iff_not, if_true, if_false, Nat.zero_add, Nat.add_zero, Option.bind_some, true_and, and_true, forall_const, true_implies, Bool.not_eq_true, Bool.false_eq_true, false_implies, ite_self, Nat.mul_one, w3, w4]
  refine m_seq (m_seq (m_reg2 ?_))
  rw [reg243_11]
  simp (decide := true) only [SV, Option.some.injEq, Prod.mk.injEq, Value.bool.injEq, exists_eq_left', exists_and_left, and_assoc, decide_eq_true_eq, decide_eq_false_iff_not, if_true, if_false, Nat.zero_add, Nat.add_zero, Option.bind_some, true_and, and_true, forall_const, true_implies, Bool.not_eq_true, Bool.false_eq_true, false_implies, ite_self, Nat.mul_one, d1, d2, d3, d4, p1, p2, p3, p4, decide_true, decide_false]
  refine m_cond (t := false) (by simp [evalT, SV]) (fun h => by cases h) (fun _ => m_skip ?_)
  refine m_seq (m_reg ?_)
  rw [reg243_13]
  refine m_ret ?_
  refine ⟨trivial, [.int .i64 (a + b), .int .i64 0], ?_, hq⟩
  rw [res_tmp, res_tmp, res_nil]; simp [SV]

/-- Charge -/
theorem charge168 {O : Hook} (hO : Fr O) {w es : Nat} {l : List Value} {fu : Int} {S : MS} (hw : S.m w = some (.cells l es)) (hl : l.length = 17) (h14 : l[14]? = some (.int .i64 fu)) (h0 : 0 ≤ fu) (h4 : fu < 400) {Q : Value → MS → Prop}
    (hq : ∀ S', S'.n = S.n → S'.m w = some (.cells (l.set 14 (.int .i64 (fu + 1))) es) → (∀ y, y ≠ w → S'.m y = S.m y) → Q (.bool false) S') : CallM Tryz.prog O 168 [.pointer (some ⟨w, 0, none⟩)] S Q := by
  have hll : S.list w = some l := by rw [list_of hw, list_cells]
  have e4 : (fu == 400) = false := by rw [beq_eq_false_iff_ne]; omega
  have w4 : IntKind.i64.wrap (fu + 1) = fu + 1 := wrap_i64 (by omega) (by omega)
  refine callM_body (fnIs is168 body168 res168) (hO.at rfl _) (by simp) ?_
  refine m_seq (m_reg ?_)
  rw [reg168_0]
  refine m_seq (m_seq (m_reg ?_))
  rw [reg168_1]
  simp (decide := true) only [SV, Option.some.injEq, Prod.mk.injEq, Value.bool.injEq, exists_eq_left', exists_and_left, and_assoc, decide_eq_true_eq, decide_eq_false_iff_not, if_true, if_false, Nat.zero_add, Nat.add_zero, Option.bind_some, true_and, and_true, forall_const, true_implies, Bool.not_eq_true, Bool.false_eq_true, false_implies, ite_self, Nat.mul_one, hll, h14, e4]
  refine m_cond (t := false) (by simp [evalT, SV]) (fun h => by cases h) (fun _ => m_skip ?_)
  refine m_seq (m_reg ?_)
  rw [reg168_3]
  simp (decide := true) only [SV, Option.some.injEq, Prod.mk.injEq, Value.bool.injEq, exists_eq_left', exists_and_left, and_assoc, decide_eq_true_eq, decide_eq_false_iff_not, if_true, if_false, Nat.zero_add, Nat.add_zero, Option.bind_some, true_and, and_true, forall_const, true_implies, Bool.not_eq_true, Bool.false_eq_true, false_implies, ite_self, Nat.mul_one, hll, h14, w4]
  obtain ⟨S1, e1, g1, g2, g3⟩ := st_one (v := .int .i64 (fu + 1)) hw (off := 14) (by omega) rfl rfl
  refine ⟨S1, e1, ?_⟩
  refine m_seq (m_reg ?_)
  rw [reg168_4]
  refine m_ret ?_
  refine ⟨trivial, [.bool false], ?_, hq S1 g2 g1 g3⟩
  rw [res_tmp, res_nil]; simp [SV]
end Go.Proofs.YtfgbeecipklkdaaGreat
namespace Go.Proofs.YtfgbeecipklkdaaGreat
open Go Go.Ag
set_option linter.unusedVariables false
set_option maxRecDepth 100000

def zN : List Value := [.int .i64 0, .int .i64 0, es, .int .i64 0, .slice none 0 0]
/-- two boxes and a cell -/
structure B3 (S : MS) (k n k' n' : Int) (S2 : MS) : Prop where
  l1 : S2.list S.n = some (lN k n)
  l2 : S2.list (S.n + 1) = some (lN k' n')
  l3 : S2.m (S.n + 2) = some (.cells zN 0)
  o : Old S S2
  n : S.n + 3 ≤ S2.n
theorem b3_of (S : MS) (k n k' n' : Int) : B3 S k n k' n' (((S.fresh (lN k n) 0).fresh (lN k' n') 0).fresh zN 0) := by
  refine ⟨?_, ?_, fresh_at ((S.fresh (lN k n) 0).fresh (lN k' n') 0) _ _, (old_fresh _ _ _).trans ((old_fresh _ _ _).trans (old_fresh _ _ _)), Nat.le_refl _⟩
  · have e : (((S.fresh (lN k n) 0).fresh (lN k' n') 0).fresh zN 0).m S.n = some (.cells (lN k n) 0) := by
      rw [fresh_old _ _ _ (by show S.n ≠ S.n + 1 + 1; omega), fresh_old _ _ _ (by show S.n ≠ S.n + 1; omega), fresh_at]
    rw [list_of e, list_cells]
  · have e : (((S.fresh (lN k n) 0).fresh (lN k' n') 0).fresh zN 0).m (S.n + 1) = some (.cells (lN k' n') 0) := by
      rw [fresh_old _ _ _ (by show S.n + 1 ≠ S.n + 1 + 1; omega)]
      exact fresh_at (S.fresh (lN k n) 0) _ _
    rw [list_of e, list_cells]
theorem B3.old {S S2 S3 : MS} {k n k' n' : Int} (h : B3 S k n k' n' S2) (f : Old S2 S3) : B3 S k n k' n' S3 := by
  have hn := h.n
  refine ⟨?_, ?_, (f.2 _ (by omega)).trans h.l3, h.o.trans f, Nat.le_trans h.n f.1⟩
  · unfold MS.list; rw [f.2 _ (by omega)]; exact h.l1
  · unfold MS.list; rw [f.2 _ (by omega)]; exact h.l2
theorem B3.ld1 {S S2 : MS} {k n k' n' : Int} (h : B3 S k n k' n' S2) : ldS (some 5) S2 (.pointer (some ⟨S.n, 0, none⟩)) = some (vN k n) := by rw [ldS_ptr, h.l1]; rfl
theorem B3.ld2 {S S2 : MS} {k n k' n' : Int} (h : B3 S k n k' n' S2) : ldS (some 5) S2 (.pointer (some ⟨S.n + 1, 0, none⟩)) = some (vN k' n') := by rw [ldS_ptr, h.l2]; rfl
/-- the end: the result is in its cell -/
theorem B3.fin {S S2 : MS} {k n k' n' : Int} (h : B3 S k n k' n' S2) (a b : Int) : ∃ S3, stS 5 S2 (.pointer (some ⟨S.n + 2, 0, none⟩)) (vN a b) = some S3 ∧ Old S S3 ∧ S3.m (S.n + 2) = some (.cells (lN a b) 0) := by
  have hn := h.n
  obtain ⟨S3, e, g1, g2, g3⟩ := st_all (n := 5) (cs := (lN a b).toArray) h.l3 rfl rfl rfl
  exact ⟨S3, e, ⟨by rw [g2]; exact h.o.1, fun y hy => by rw [g3 y (by omega)]; exact h.o.2 y hy⟩, g1⟩

/-- Pure: a sum -/
theorem pure_add {O : Hook} (hO : Fr O) {a b : Int} (ha : 0 ≤ a ∧ a ≤ 1000000) (hb : 0 ≤ b ∧ b ≤ 1000000) {S : MS} {Q : Value → MS → Prop} (hq : ∀ S', Old S S' → Q (.tuple #[vN 1 (a + b), .int .i64 0, .bool true]) S') : CallM Tryz.prog O 169 [.int .i64 5, vN 1 a, vN 1 b] S Q := by
  refine callM_body (fnIs is169 body169 res169) (hO.at rfl _) (by simp) ?_
  refine m_seq (m_reg ?_)
  rw [reg169_0]
  have h := b3_of S 1 a 1 b
  simp (decide := true) only [SV, Option.some.injEq, Prod.mk.injEq, Value.bool.injEq, exists_eq_left', exists_and_left, and_assoc, decide_eq_true_eq, decide_eq_false_iff_not, if_true, if_false, Nat.zero_add, Nat.add_zero, Option.bind_some, true_and, and_true, forall_const, true_implies, Bool.not_eq_true, Bool.false_eq_true, false_implies, ite_self, Nat.mul_one, vN_cells, ptrTo]
  have e : ([.int .i64 0, .int .i64 0, .string ⟨⟨[]⟩⟩, .int .i64 0, .slice none 0 0] : List Value) = zN := rfl
  rw [e]
  simp only [fresh_n]
  generalize ((S.fresh (lN 1 a) 0).fresh (lN 1 b) 0).fresh zN 0 = S2 at h
  refine m_seq (m_seq (m_reg ?_))
  rw [reg169_1]
  simp (decide := true) only [SV, Option.some.injEq, Prod.mk.injEq, Value.bool.injEq, exists_eq_left', exists_and_left, and_assoc, decide_eq_true_eq, decide_eq_false_iff_not, if_true, if_false, Nat.zero_add, Nat.add_zero, Option.bind_some, true_and, and_true, forall_const, true_implies, Bool.not_eq_true, Bool.false_eq_true, false_implies, ite_self, Nat.mul_one, ]
  refine m_cond (t := true) (by simp [evalT, SV]) (fun _ => m_seq (m_reg ?_)) (fun h => by cases h)
  rw [reg169_2]
  simp (decide := true) only [SV, Option.some.injEq, Prod.mk.injEq, Value.bool.injEq, exists_eq_left', exists_and_left, and_assoc, decide_eq_true_eq, decide_eq_false_iff_not, if_true, if_false, Nat.zero_add, Nat.add_zero, Option.bind_some, true_and, and_true, forall_const, true_implies, Bool.not_eq_true, Bool.false_eq_true, false_implies, ite_self, Nat.mul_one, h.l1, h.l2, lN1]
  refine add243 hO ha hb ?_
  simp (decide := true) only [aextract, FT.get_set, FT.setL, List.getElem?_cons_zero, List.getElem?_cons_succ, Option.some.injEq, exists_eq_left', if_true, if_false]
  refine m_seq (m_seq (m_reg ?_))
  rw [reg169_3]
  simp (decide := true) only [SV, Option.some.injEq, Prod.mk.injEq, Value.bool.injEq, exists_eq_left', exists_and_left, and_assoc, decide_eq_true_eq, decide_eq_false_iff_not, if_true, if_false, Nat.zero_add, Nat.add_zero, Option.bind_some, true_and, and_true, forall_const, true_implies, Bool.not_eq_true, Bool.false_eq_true, false_implies, ite_self, Nat.mul_one, ]
  refine m_cond (t := false) (by simp [evalT, SV]) (fun h => by cases h) (fun _ => m_skip ?_)
  refine m_seq (m_reg ?_)
  rw [reg169_5]
  simp (decide := true) only [SV, Option.some.injEq, Prod.mk.injEq, Value.bool.injEq, exists_eq_left', exists_and_left, and_assoc, decide_eq_true_eq, decide_eq_false_iff_not, if_true, if_false, Nat.zero_add, Nat.add_zero, Option.bind_some, true_and, and_true, forall_const, true_implies, Bool.not_eq_true, Bool.false_eq_true, false_implies, ite_self, Nat.mul_one, ]
  refine num10 hO fun S3 f3 => ?_
  obtain ⟨S4, e4, o4, g4⟩ := (h.old f3).fin 1 (a + b)
  refine ⟨S4, e4, m_ret ?_⟩
  refine ⟨trivial, [vN 1 (a + b), .int .i64 0, .bool true], ?_, hq _ o4⟩
  rw [res_cell5 (by simp [SV]) g4 rfl, res_tmp, res_tmp, res_nil]; simp [SV]; rfl

theorem pure_eq {O : Hook} (hO : Fr O) {k a k' b : Int} {S : MS} {Q : Value → MS → Prop} (hq : ∀ S', Old S S' → Q (.tuple #[vN 3 (if (cmpI k a k' b == 0) = true then 1 else 0), .int .i64 0, .bool true]) S') : CallM Tryz.prog O 169 [.int .i64 14, vN k a, vN k' b] S Q := by
  refine callM_body (fnIs is169 body169 res169) (hO.at rfl _) (by simp) ?_
  refine m_seq (m_reg ?_)
  rw [reg169_0]
  have h := b3_of S k a k' b
  simp (decide := true) only [SV, Option.some.injEq, Prod.mk.injEq, Value.bool.injEq, exists_eq_left', exists_and_left, and_assoc, decide_eq_true_eq, decide_eq_false_iff_not, if_true, if_false, Nat.zero_add, Nat.add_zero, Option.bind_some, true_and, and_true, forall_const, true_implies, Bool.not_eq_true, Bool.false_eq_true, false_implies, ite_self, Nat.mul_one, vN_cells, ptrTo]
  have e : ([.int .i64 0, .int .i64 0, .string ⟨⟨[]⟩⟩, .int .i64 0, .slice none 0 0] : List Value) = zN := rfl
  rw [e]
  simp only [fresh_n]
  generalize ((S.fresh (lN k a) 0).fresh (lN k' b) 0).fresh zN 0 = S2 at h
  refine m_seq (m_seq (m_reg ?_))
  rw [reg169_1]
  simp (decide := true) only [SV, Option.some.injEq, Prod.mk.injEq, Value.bool.injEq, exists_eq_left', exists_and_left, and_assoc, decide_eq_true_eq, decide_eq_false_iff_not, if_true, if_false, Nat.zero_add, Nat.add_zero, Option.bind_some, true_and, and_true, forall_const, true_implies, Bool.not_eq_true, Bool.false_eq_true, false_implies, ite_self, Nat.mul_one, ]
  refine m_cond (t := false) (by simp [evalT, SV]) (fun h => by cases h) (fun _ => m_skip ?_)
  refine m_seq (m_reg ?_)
  rw [reg169_6]
  simp (decide := true) only [FT.get_set, FT.setL, if_true, if_false, h.ld1, h.ld2, Option.some.injEq, exists_eq_left']
  refine cmp83 hO fun S3 f3 => ?_
  have h3 := h.old f3
  refine m_seq (m_seq (m_reg ?_))
  rw [reg169_7]
  simp (decide := true) only [SV, Option.some.injEq, Prod.mk.injEq, Value.bool.injEq, exists_eq_left', exists_and_left, and_assoc, decide_eq_true_eq, decide_eq_false_iff_not, if_true, if_false, Nat.zero_add, Nat.add_zero, Option.bind_some, true_and, and_true, forall_const, true_implies, Bool.not_eq_true, Bool.false_eq_true, false_implies, ite_self, Nat.mul_one, ]
  refine m_block (m_seq (m_reg ?_))
  rw [reg169_8]
  simp (decide := true) only [SV, Option.some.injEq, Prod.mk.injEq, Value.bool.injEq, exists_eq_left', exists_and_left, and_assoc, decide_eq_true_eq, decide_eq_false_iff_not, if_true, if_false, Nat.zero_add, Nat.add_zero, Option.bind_some, true_and, and_true, forall_const, true_implies, Bool.not_eq_true, Bool.false_eq_true, false_implies, ite_self, Nat.mul_one, ]
  refine m_cond (t := false) (by simp [evalT, SV]) (fun h => by cases h) (fun _ => m_seq (m_reg ?_))
  rw [reg169_12]
  simp (decide := true) only [SV, Option.some.injEq, Prod.mk.injEq, Value.bool.injEq, exists_eq_left', exists_and_left, and_assoc, decide_eq_true_eq, decide_eq_false_iff_not, if_true, if_false, Nat.zero_add, Nat.add_zero, Option.bind_some, true_and, and_true, forall_const, true_implies, Bool.not_eq_true, Bool.false_eq_true, false_implies, ite_self, Nat.mul_one, ]
  refine m_cond (t := true) (by simp [evalT, SV]) (fun _ => m_seq (m_reg ?_)) (fun h => by cases h)
  rw [reg169_13]
  simp (decide := true) only [SV, Option.some.injEq, Prod.mk.injEq, Value.bool.injEq, exists_eq_left', exists_and_left, and_assoc, decide_eq_true_eq, decide_eq_false_iff_not, if_true, if_false, Nat.zero_add, Nat.add_zero, Option.bind_some, true_and, and_true, forall_const, true_implies, Bool.not_eq_true, Bool.false_eq_true, false_implies, ite_self, Nat.mul_one, ]
  refine yes157 hO fun S5 f5 => ?_
  obtain ⟨S4, e4, o4, g4⟩ := (h3.old f5).fin 3 (if (cmpI k a k' b == 0) = true then 1 else 0)
  refine ⟨S4, e4, m_ret ?_⟩
  refine ⟨trivial, [vN 3 (if (cmpI k a k' b == 0) = true then 1 else 0), .int .i64 0, .bool true], ?_, hq _ o4⟩
  rw [res_cell5 (by simp [SV]) g4 rfl, res_tmp, res_tmp, res_nil]; simp [SV]; rfl

theorem pure_lt {O : Hook} (hO : Fr O) {k a k' b : Int} {S : MS} {Q : Value → MS → Prop} (hq : ∀ S', Old S S' → Q (.tuple #[vN 3 (if decide (cmpI k a k' b < 0) = true then 1 else 0), .int .i64 0, .bool true]) S') : CallM Tryz.prog O 169 [.int .i64 16, vN k a, vN k' b] S Q := by
  refine callM_body (fnIs is169 body169 res169) (hO.at rfl _) (by simp) ?_
  refine m_seq (m_reg ?_)
  rw [reg169_0]
  have h := b3_of S k a k' b
  simp (decide := true) only [SV, Option.some.injEq, Prod.mk.injEq, Value.bool.injEq, exists_eq_left', exists_and_left, and_assoc, decide_eq_true_eq, decide_eq_false_iff_not, if_true, if_false, Nat.zero_add, Nat.add_zero, Option.bind_some, true_and, and_true, forall_const, true_implies, Bool.not_eq_true, Bool.false_eq_true, false_implies, ite_self, Nat.mul_one, vN_cells, ptrTo]
  have e : ([.int .i64 0, .int .i64 0, .string ⟨⟨[]⟩⟩, .int .i64 0, .slice none 0 0] : List Value) = zN := rfl
  rw [e]
  simp only [fresh_n]
  generalize ((S.fresh (lN k a) 0).fresh (lN k' b) 0).fresh zN 0 = S2 at h
  refine m_seq (m_seq (m_reg ?_))
  rw [reg169_1]
  simp (decide := true) only [SV, Option.some.injEq, Prod.mk.injEq, Value.bool.injEq, exists_eq_left', exists_and_left, and_assoc, decide_eq_true_eq, decide_eq_false_iff_not, if_true, if_false, Nat.zero_add, Nat.add_zero, Option.bind_some, true_and, and_true, forall_const, true_implies, Bool.not_eq_true, Bool.false_eq_true, false_implies, ite_self, Nat.mul_one, ]
  refine m_cond (t := false) (by simp [evalT, SV]) (fun h => by cases h) (fun _ => m_skip ?_)
  refine m_seq (m_reg ?_)
  rw [reg169_6]
  simp (decide := true) only [FT.get_set, FT.setL, if_true, if_false, h.ld1, h.ld2, Option.some.injEq, exists_eq_left']
  refine cmp83 hO fun S3 f3 => ?_
  have h3 := h.old f3
  refine m_seq (m_seq (m_reg ?_))
  rw [reg169_7]
  simp (decide := true) only [SV, Option.some.injEq, Prod.mk.injEq, Value.bool.injEq, exists_eq_left', exists_and_left, and_assoc, decide_eq_true_eq, decide_eq_false_iff_not, if_true, if_false, Nat.zero_add, Nat.add_zero, Option.bind_some, true_and, and_true, forall_const, true_implies, Bool.not_eq_true, Bool.false_eq_true, false_implies, ite_self, Nat.mul_one, ]
  refine m_block (m_seq (m_reg ?_))
  rw [reg169_8]
  simp (decide := true) only [SV, Option.some.injEq, Prod.mk.injEq, Value.bool.injEq, exists_eq_left', exists_and_left, and_assoc, decide_eq_true_eq, decide_eq_false_iff_not, if_true, if_false, Nat.zero_add, Nat.add_zero, Option.bind_some, true_and, and_true, forall_const, true_implies, Bool.not_eq_true, Bool.false_eq_true, false_implies, ite_self, Nat.mul_one, ]
  refine m_cond (t := false) (by simp [evalT, SV]) (fun h => by cases h) (fun _ => m_seq (m_reg ?_))
  rw [reg169_12]
  simp (decide := true) only [SV, Option.some.injEq, Prod.mk.injEq, Value.bool.injEq, exists_eq_left', exists_and_left, and_assoc, decide_eq_true_eq, decide_eq_false_iff_not, if_true, if_false, Nat.zero_add, Nat.add_zero, Option.bind_some, true_and, and_true, forall_const, true_implies, Bool.not_eq_true, Bool.false_eq_true, false_implies, ite_self, Nat.mul_one, ]
  refine m_cond (t := false) (by simp [evalT, SV]) (fun h => by cases h) (fun _ => m_seq (m_reg ?_))
  rw [reg169_14]
  simp (decide := true) only [SV, Option.some.injEq, Prod.mk.injEq, Value.bool.injEq, exists_eq_left', exists_and_left, and_assoc, decide_eq_true_eq, decide_eq_false_iff_not, if_true, if_false, Nat.zero_add, Nat.add_zero, Option.bind_some, true_and, and_true, forall_const, true_implies, Bool.not_eq_true, Bool.false_eq_true, false_implies, ite_self, Nat.mul_one, ]
  refine m_cond (t := false) (by simp [evalT, SV]) (fun h => by cases h) (fun _ => m_seq (m_reg ?_))
  rw [reg169_16]
  simp (decide := true) only [SV, Option.some.injEq, Prod.mk.injEq, Value.bool.injEq, exists_eq_left', exists_and_left, and_assoc, decide_eq_true_eq, decide_eq_false_iff_not, if_true, if_false, Nat.zero_add, Nat.add_zero, Option.bind_some, true_and, and_true, forall_const, true_implies, Bool.not_eq_true, Bool.false_eq_true, false_implies, ite_self, Nat.mul_one, ]
  refine m_cond (t := true) (by simp [evalT, SV]) (fun _ => m_seq (m_reg ?_)) (fun h => by cases h)
  rw [reg169_17]
  simp (decide := true) only [SV, Option.some.injEq, Prod.mk.injEq, Value.bool.injEq, exists_eq_left', exists_and_left, and_assoc, decide_eq_true_eq, decide_eq_false_iff_not, if_true, if_false, Nat.zero_add, Nat.add_zero, Option.bind_some, true_and, and_true, forall_const, true_implies, Bool.not_eq_true, Bool.false_eq_true, false_implies, ite_self, Nat.mul_one, ]
  refine yes157 hO fun S5 f5 => ?_
  obtain ⟨S4, e4, o4, g4⟩ := (h3.old f5).fin 3 (if decide (cmpI k a k' b < 0) = true then 1 else 0)
  refine ⟨S4, e4, m_ret ?_⟩
  refine ⟨trivial, [vN 3 (if decide (cmpI k a k' b < 0) = true then 1 else 0), .int .i64 0, .bool true], ?_, hq _ o4⟩
  rw [res_cell5 (by simp [SV]) g4 rfl, res_tmp, res_tmp, res_nil]; simp [SV]; rfl
end Go.Proofs.YtfgbeecipklkdaaGreat
namespace Go.Proofs.YtfgbeecipklkdaaGreat
open Go Go.Ag
set_option linter.unusedVariables false
set_option maxRecDepth 100000

abbrev En := Int × Int
/-- an entry's cells: two values, each a kind and a number -/
abbrev Ce := En × En
def fG (e : Ce) : List Value := lN e.1.1 e.1.2 ++ lN e.2.1 e.2.2
theorem fG_len (e : Ce) : (fG e).length = 10 := rfl
theorem fG_one (e : Ce) : (fG e).all oneCell = true := rfl
def up (e : En) : Ce := ((1, e.1), (1, e.2))
def SlE (S : MS) (v : Value) (l : List En) : Prop := SlF fG 10 S 0 v (l.map up)
theorem SlE.lenSl {S : MS} {v : Value} {l : List En} (h : SlE S v l) : Go.Ag.lenSl v = some (.int .i64 l.length) := by
  have := SlF.lenSl h
  rwa [List.length_map] at this
/-- how many keys stand ahead -/
def idx : List En → Int → Nat
  | [], _ => 0
  | e :: l, k => if e.1 < k then idx l k + 1 else 0
def isAt (l : List En) (i : Nat) (k : Int) : Bool := match l[i]? with | some e => e.1 == k | none => false
theorem idx_le (k : Int) : ∀ l : List En, idx l k ≤ l.length := by
  intro l
  induction l with
  | nil => exact Nat.le_refl _
  | cons e l ih => unfold idx; split <;> simp <;> omega
theorem idx_lt {k : Int} : ∀ {l : List En} {i : Nat} {e : En}, i < idx l k → l[i]? = some e → e.1 < k := by
  intro l
  induction l with
  | nil => intro i e h; cases h
  | cons x l ih =>
    intro i e h he
    unfold idx at h
    split at h
    · rename_i hx
      cases i with
      | zero => simp at he; subst he; exact hx
      | succ i => exact ih (i := i) (e := e) (by omega) (by simpa using he)
    · cases h
theorem idx_at {k : Int} : ∀ {l : List En} {e : En}, l[idx l k]? = some e → ¬ e.1 < k := by
  intro l
  induction l with
  | nil => intro e h; cases h
  | cons x l ih =>
    intro e he
    unfold idx at he
    split at he
    · exact ih (by simpa using he)
    · rename_i hx
      simp at he; subst he; exact hx
theorem cmp_lt (a b : Int) : decide (cmpI 1 a 1 b < 0) = decide (a < b) := by
  unfold cmpI ord
  by_cases h : a < b
  · simp [h]
  · by_cases h2 : b < a
    · simp [h, h2]
    · simp [h, h2]
theorem cmp_eq (a b : Int) : (cmpI 1 a 1 b == 0) = (a == b) := by
  unfold cmpI ord
  by_cases h : a < b
  · have : (a == b) = false := by rw [beq_eq_false_iff_ne]; omega
    simp [h, this]
  · by_cases h2 : b < a
    · have : (a == b) = false := by rw [beq_eq_false_iff_ne]; omega
      simp [h, h2, this]
    · have : a = b := by omega
      simp [h, h2, this]

/-- a state of one map -/
structure IsSt (S : MS) (mv : Value) (l : List En) : Prop where
  ex1 : ∃ b c lv junk, mv = .slice (some ⟨b, 0, none⟩) 1 c ∧ S.m b = some (.cells (lv :: junk) 1) ∧ b < S.n ∧ SlE S lv l
theorem IsSt.ex {S : MS} {mv : Value} {l : List En} (h : IsSt S mv l) : ∃ b c lv junk, mv = .slice (some ⟨b, 0, none⟩) 1 c ∧ S.list b = some (lv :: junk) ∧ b < S.n ∧ SlE S lv l := by
  obtain ⟨b, c, lv, junk, h1, h2, h3, h4⟩ := h.ex1
  exact ⟨b, c, lv, junk, h1, by rw [list_of h2, list_cells], h3, h4⟩
/-- blocks of other kinds may change -/
theorem IsSt.keepE {S S' : MS} {mv : Value} {l : List En} (h : IsSt S mv l) (hn : S.n ≤ S'.n) (hk : ∀ y l es, (es = 1 ∨ es = 10) → S.m y = some (.cells l es) → S'.m y = S.m y) : IsSt S' mv l := by
  obtain ⟨b, c, lv, junk, h1, h2, h3, h4⟩ := h.ex1
  refine ⟨b, c, lv, junk, h1, (hk _ _ _ (.inl rfl) h2).trans h2, Nat.lt_of_lt_of_le h3 hn, ?_⟩
  have h4' : SlF fG 10 S 0 lv (l.map up) := h4
  show SlF fG 10 S' 0 lv (l.map up)
  cases h : l.map up with
  | nil =>
    rw [h] at h4'
    cases h4' with
    | non => exact .non
    | own hb hB hc hj => exact .own ((hk _ _ _ (.inr rfl) hb).trans hb) hB hc hj
  | cons a m =>
    rw [h] at h4'
    cases h4' with
    | own hb hB hc hj => exact .own ((hk _ _ _ (.inr rfl) hb).trans hb) hB hc hj
theorem SlE.old {S S' : MS} {lv : Value} {l : List En} (h : SlE S lv l) (wf : S.WF) (f : Old S S') : SlE S' lv l := SlF.keep h fun x k hk => f.2 x (wf x k hk)
theorem IsSt.old {S S' : MS} {mv : Value} {l : List En} (h : IsSt S mv l) (wf : S.WF) (f : Old S S') : IsSt S' mv l := by
  obtain ⟨b, c, lv, junk, h1, h2, h3, h4⟩ := h.ex1
  exact ⟨b, c, lv, junk, h1, by rw [f.2 b h3]; exact h2, Nat.lt_of_lt_of_le h3 f.1, SlE.old h4 wf f⟩

theorem SlF.key {S : MS} {lv : Value} {l : List Ce} {i : Nat} {e : Ce} (h : SlF fG 10 S 0 lv l) (hx : l[i]? = some e) : ∃ b, iaSS 10 lv (.int .i64 (i : Int)) = some (.pointer (some ⟨b, i * 10, none⟩)) ∧ ldS (some 5) S (.pointer (some ⟨b, i * 10 + 0, none⟩)) = some (vN e.1.1 e.1.2) ∧ ldS (some 5) S (.pointer (some ⟨b, i * 10 + 5, none⟩)) = some (vN e.2.1 e.2.2) := by
  have hlt := (List.getElem?_eq_some_iff.1 hx).1
  cases h with
  | non => cases hx
  | own hb hB hc hj =>
    rename_i b cap junk
    have hx' : (l ++ junk)[i]? = some e := by rw [List.getElem?_append_left hlt]; exact hx
    have hlen : i * 10 + 10 ≤ ((l ++ junk).flatMap fG).length := by
      rw [fm_len fG_len, List.length_append]
      have : (i + 1) * 10 ≤ (l.length + junk.length) * 10 := Nat.mul_le_mul_right _ (by omega)
      omega
    have h2 : (l ++ junk).drop i = e :: (l ++ junk).drop (i + 1) := by
      have hlt' : i < (l ++ junk).length := by rw [List.length_append]; omega
      rw [List.drop_eq_getElem_cons hlt']; congr 1
      have := List.getElem?_eq_getElem hlt'
      rw [hx'] at this; exact (Option.some.inj this).symm
    have hd : ((l ++ junk).flatMap fG).drop (i * 10) = fG e ++ ((l ++ junk).drop (i + 1)).flatMap fG := by rw [fm_drop fG_len, h2, List.flatMap_cons]
    refine ⟨b, ?_, ?_, ?_⟩
    · rw [iaSS_of (k := .i64) (i := (i : Int)) (by omega) (by omega : (i : Int) < (l.length : Int)), Int.toNat_natCast, Nat.zero_add]
    · rw [ldS_ptr, list_of hb, list_cells]
      show partS (some 5) _ (i * 10 + 0) = _
      rw [partS_some _ _ _ (by omega), Nat.add_zero, hd]
      rfl
    · rw [ldS_ptr, list_of hb, list_cells]
      show partS (some 5) _ (i * 10 + 5) = _
      rw [partS_some _ _ _ (by omega), ← List.drop_drop, hd]
      rfl

theorem SlE.key {S : MS} {lv : Value} {l : List En} {i : Nat} {e : En} (h : SlE S lv l) (hx : l[i]? = some e) : ∃ b, iaSS 10 lv (.int .i64 (i : Int)) = some (.pointer (some ⟨b, i * 10, none⟩)) ∧ ldS (some 5) S (.pointer (some ⟨b, i * 10 + 0, none⟩)) = some (vN 1 e.1) ∧ ldS (some 5) S (.pointer (some ⟨b, i * 10 + 5, none⟩)) = some (vN 1 e.2) :=
  SlF.key h (e := up e) (by rw [List.getElem?_map, hx]; rfl)

/-- at -/
theorem at32 {O : Hook} (hO : Fr O) {mv : Value} {l : List En} {k : Int} {S : MS} (wf : S.WF) (hs : IsSt S mv l) (hlen : l.length ≤ 1000) {Q : Value → MS → Prop} (hq : ∀ S', Old S S' → Q (.tuple #[.int .i64 (idx l k : Nat), .bool (isAt l (idx l k) k)]) S') : CallM Tryz.prog O 32 [.agg #[mv], .int .i64 0, vN 1 k] S Q := by
  refine callM_body (fnIs is32 body32 res32) (hO.at rfl _) (by simp) ?_
  refine m_seq (m_reg ?_)
  rw [reg32_0]
  have hc : (Value.cells (.agg #[mv])).toList = [mv] := rfl
  simp (decide := true) only [SV, Option.some.injEq, Prod.mk.injEq, Value.bool.injEq, exists_eq_left', exists_and_left, and_assoc, decide_eq_true_eq, decide_eq_false_iff_not, if_true, if_false, Nat.zero_add, Nat.add_zero, Option.bind_some, true_and, and_true, forall_const, true_implies, Bool.not_eq_true, Bool.false_eq_true, false_implies, ite_self, Nat.mul_one, vN_cells, ptrTo, hc]
  have o2 : Old S ((S.fresh [mv] 0).fresh (lN 1 k) 0) := (old_fresh _ _ _).trans (old_fresh _ _ _)
  have wf2 := wf_fresh' (wf_fresh' wf [mv] 0) (lN 1 k) 0
  have hs2 := hs.old wf o2
  have l1 : ((S.fresh [mv] 0).fresh (lN 1 k) 0).list S.n = some [mv] := by rw [list_of ((fresh_old _ _ _ (by rw [fresh_n]; omega)).trans (fresh_at S _ _)), list_cells]
  have l2 : ((S.fresh [mv] 0).fresh (lN 1 k) 0).m (S.n + 1) = some (.cells (lN 1 k) 0) := by
    exact fresh_at (S.fresh [mv] 0) _ _
  simp only [fresh_n]
  generalize (S.fresh [mv] 0).fresh (lN 1 k) 0 = S2 at o2 l1 l2 hs2 wf2
  obtain ⟨b, c, lv, junk, rfl, hb, hbn, hl⟩ := hs2.ex
  refine m_seq (m_seq (m_reg ?_))
  rw [reg32_1]
  simp (decide := true) only [SV, Option.some.injEq, Prod.mk.injEq, Value.bool.injEq, exists_eq_left', exists_and_left, and_assoc, decide_eq_true_eq, decide_eq_false_iff_not, if_true, if_false, Nat.zero_add, Nat.add_zero, Option.bind_some, true_and, and_true, forall_const, true_implies, Bool.not_eq_true, Bool.false_eq_true, false_implies, ite_self, Nat.mul_one, l1, List.getElem?_cons_zero]
  refine m_cond (t := false) (by simp [evalT, SV]) (fun h => by cases h) (fun _ => m_skip ?_)
  refine m_seq (m_reg ?_)
  rw [reg32_3]
  have ia : iaSS 1 (.slice (some ⟨b, 0, none⟩) 1 c) (.int .i64 0) = some (.pointer (some ⟨b, 0, none⟩)) := rfl
  simp (decide := true) only [SV, Option.some.injEq, Prod.mk.injEq, Value.bool.injEq, exists_eq_left', exists_and_left, and_assoc, decide_eq_true_eq, decide_eq_false_iff_not, if_true, if_false, Nat.zero_add, Nat.add_zero, Option.bind_some, true_and, and_true, forall_const, true_implies, Bool.not_eq_true, Bool.false_eq_true, false_implies, ite_self, Nat.mul_one, l1, List.getElem?_cons_zero, ia, hb]
  refine m_seq (m_reg ?_)
  rw [reg32_4]
  refine m_seq (m_block (m_loop (fun m T S' => Old S2 S' ∧ ∃ i : Nat, i + m = idx l k ∧ T.get 8 = lv ∧ T.get 9 = .int .i64 (i : Int) ∧ T.get 5 = .pointer (some ⟨S.n + 1, 0, none⟩)) (idx l k) ⟨Old.refl _, 0, by omega, by simp [SV], by simp [SV], by simp [SV]⟩ ?_))
  rintro m T S3 ⟨o3, i, him, t8, t9, t5⟩
  have hl3 := SlE.old hl wf2 o3
  have l23 : ldS (some 5) S3 (.pointer (some ⟨S.n + 1, 0, none⟩)) = some (vN 1 k) := by
    rw [ldS_ptr, list_of ((o3.2 _ (wf2 _ _ l2)).trans l2)]; rfl
  have hile : i ≤ l.length := by have := idx_le k l; omega
  refine m_seq (m_seq (m_draw ?_))
  rw [reg32_5]
  have hd : decide ((i : Int) < (l.length : Int)) = decide (i < l.length) := by simp
  -- behind the loop
  have after : ∀ (T' : FT) (S' : MS), Old S2 S' → i = idx l k → T'.get 8 = lv → T'.get 9 = .int .i64 (i : Int) → T'.get 5 = .pointer (some ⟨S.n + 1, 0, none⟩) →
      MWp Tryz.prog O 54 (.seq (.region 7 (ro 32 7) true) .ret) T' S' (fun x T' S' => (match x with | .exit _ => False | _ => True) ∧ ∃ vs, resM Tryz.prog T' S' [.tmp 6, .tmp 7] = some vs ∧ Q (oneOrTuple vs) S') := by
    intro T' S' o' hi u8 u9 u5
    have hl' := SlE.old hl wf2 o'
    have l2' : ldS (some 5) S' (.pointer (some ⟨S.n + 1, 0, none⟩)) = some (vN 1 k) := by
      rw [ldS_ptr, list_of ((o'.2 _ (wf2 _ _ l2)).trans l2)]; rfl
    refine m_seq (m_draw ?_)
    rw [reg32_7]
    by_cases hlt : i < l.length
    · have hx : l[i]? = some l[i] := List.getElem?_eq_getElem hlt
      obtain ⟨b2, i1, i2, i3⟩ := SlE.key hl' hx
      have pd : ((i : Int) < (l.length : Int)) = True := by simp; omega
      simp (decide := true) only [FT.get_set, u8, u9, u5, hl'.lenSl, abin_lss, hd, hlt, pd, decide_true, Option.some.injEq, exists_eq_left', Value.bool.injEq, true_implies, if_true, if_false, i1, faS_ptr, i2, l2', Bool.true_eq_false, false_implies, and_true]
      refine same34 hO fun S4 f4 => ?_
      rw [cmp_eq]
      simp (decide := true) only [pickS_bool, if_true, Option.some.injEq, exists_eq_left']
      refine m_ret ?_
      refine ⟨trivial, [.int .i64 (idx l k : Nat), .bool (isAt l (idx l k) k)], ?_, hq _ (o2.trans (o'.trans f4))⟩
      have e1 : isAt l (idx l k) k = (l[i].1 == k) := by unfold isAt; rw [← hi, hx]
      rw [res_tmp, res_tmp, res_nil, e1, ← hi]
      simp [SV]
    · have hx : l[i]? = none := List.getElem?_eq_none (by omega)
      have pd : ((i : Int) < (l.length : Int)) = False := by simp; omega
      simp (decide := true) only [FT.get_set, u8, u9, u5, hl'.lenSl, abin_lss, hd, hlt, pd, decide_false, Option.some.injEq, exists_eq_left', Value.bool.injEq, Bool.false_eq_true, false_implies, true_implies, true_and, if_true, if_false, pickS_bool]
      refine m_ret ?_
      refine ⟨trivial, [.int .i64 (idx l k : Nat), .bool (isAt l (idx l k) k)], ?_, hq _ (o2.trans o')⟩
      have e1 : isAt l (idx l k) k = false := by unfold isAt; rw [← hi, hx]
      rw [res_tmp, res_tmp, res_nil, e1, ← hi]
      simp [SV]
  by_cases hlt : i < l.length
  · have hx : l[i]? = some l[i] := List.getElem?_eq_getElem hlt
    obtain ⟨b2, i1, i2, i3⟩ := SlE.key hl3 hx
    have pd : ((i : Int) < (l.length : Int)) = True := by simp; omega
    simp (decide := true) only [FT.get_set, t8, t9, t5, hl3.lenSl, abin_lss, hd, hlt, pd, decide_true, Option.some.injEq, exists_eq_left', Value.bool.injEq, true_implies, if_true, if_false, i1, faS_ptr, i2, l23, Bool.true_eq_false, false_implies, and_true]
    refine cmp83 hO fun S4 f4 => ?_
    simp (decide := true) only [pickS_bool, abin_lss, cmp_lt, if_true, Option.some.injEq, exists_eq_left']
    refine m_cond (t := decide (l[i].1 < k)) (by simp [evalT, SV]) (fun h => m_skip ?_) (fun h => m_exit ?_)
    · have hk : l[i].1 < k := by simpa using h
      have hne : i ≠ idx l k := fun e => idx_at (by rw [← e]; exact hx) hk
      simp only
      refine m_block (m_reg ?_)
      rw [reg32_6]
      have w1 : IntKind.i64.wrap ((i : Int) + 1) = ((i + 1 : Nat) : Int) := by rw [wrap_i64 (by omega) (by omega)]; rfl
      simp (decide := true) only [SV, Option.some.injEq, Prod.mk.injEq, Value.bool.injEq, exists_eq_left', exists_and_left, and_assoc, decide_eq_true_eq, decide_eq_false_iff_not, if_true, if_false, Nat.zero_add, Nat.add_zero, Option.bind_some, true_and, and_true, forall_const, true_implies, Bool.not_eq_true, Bool.false_eq_true, false_implies, ite_self, Nat.mul_one, t9, w1]
      exact ⟨m - 1, by omega, o3.trans f4, i + 1, by omega, by simp [SV, t8], by simp [SV], by simp [SV, t5]⟩
    · have hk : ¬ l[i].1 < k := by simpa using h
      have hi : i = idx l k := by
        rcases Nat.lt_or_ge i (idx l k) with h' | h'
        · exact absurd (idx_lt h' hx) hk
        · omega
      simp only [if_true]
      exact after _ _ (o3.trans f4) hi (by simp [SV, t8]) (by simp [SV, t9]) (by simp [SV, t5])
  · have hi : i = idx l k := by have := idx_le k l; omega
    have pd : ((i : Int) < (l.length : Int)) = False := by simp; omega
    simp (decide := true) only [FT.get_set, t8, t9, t5, hl3.lenSl, abin_lss, hd, hlt, pd, decide_false, Option.some.injEq, exists_eq_left', Value.bool.injEq, Bool.false_eq_true, false_implies, true_implies, true_and, if_true, if_false, pickS_bool]
    refine m_cond (t := false) (by simp [evalT, SV]) (fun h => by cases h) (fun _ => m_exit ?_)
    simp only [if_true]
    exact after _ _ o3 hi (by simp [SV, t8]) (by simp [SV, t9]) (by simp [SV, t5])
end Go.Proofs.YtfgbeecipklkdaaGreat

