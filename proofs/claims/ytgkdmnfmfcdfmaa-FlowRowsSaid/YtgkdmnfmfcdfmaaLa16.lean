/-
  The walk through the code of blocks and of what is reached, part L16: what its functions do to memory. Nothing is asked.
-/
import Derived.Test.YtgkdmnfmfcdfmaaLa15
set_option linter.all false
namespace Go.Ag
open Go
set_option linter.unusedVariables false
set_option maxRecDepth 100000
section
variable {α : Type} {f : α → List Value} {sz : Nat}

/-- v is no slice of the block y -/
def Av (v : Value) (y : Nat) : Prop := ∀ l c, v ≠ .slice (some ⟨y, 0, none⟩) l c
theorem SlF.av {S : MS} {B : Nat} {v : Value} {l : List α} (h : SlF f sz S B v l) {y : Nat} (hy : y < B) : Av v y := by
  cases h with
  | non => intro l c e; cases e
  | own hb hB hc => intro l c e; cases e; omega
theorem SlF.keep1 {S S' : MS} {B : Nat} {v : Value} {l : List α} (h : SlF f sz S B v l) (hk : ∀ y k, ¬ Av v y → S.m y = some k → S'.m y = S.m y) : SlF f sz S' B v l := by
  cases h with
  | non => exact .non
  | own hb hB hc => exact .own (by rw [hk _ _ (fun h => h _ _ rfl) hb]; exact hb) hB hc
theorem SlF.avN {S : MS} {B : Nat} {v : Value} {l : List α} (h : SlF f sz S B v l) (wf : S.WF) {y : Nat} (hy : S.n ≤ y) : Av v y := by
  cases h with
  | non => intro l c e; cases e
  | own hb hB hc => intro l c e; cases e; have := wf _ _ hb; omega
theorem SlF.weaken {S : MS} {B B' : Nat} {v : Value} {l : List α} (h : SlF f sz S B v l) (hB : B' ≤ B) : SlF f sz S B' v l := by
  cases h with
  | non => exact .non
  | own hb h2 hc => exact .own hb (Nat.le_trans hB h2) hc
theorem SlF.at (hfl : ∀ a, (f a).length = sz) {S : MS} {B : Nat} {v : Value} {l : List α} {i : Nat} {x : α} (h : SlF f sz S B v l) (hx : l[i]? = some x) : ∃ b, ¬ Av v b ∧ iaSS sz v (.int .i64 (i : Int)) = some (.pointer (some ⟨b, i * sz, none⟩)) ∧ ∀ S', S'.m b = S.m b → ldS (some sz) S' (.pointer (some ⟨b, i * sz, none⟩)) = some (.agg (f x).toArray) := by
  have hlt := (List.getElem?_eq_some_iff.1 hx).1
  cases h with
  | non => cases hx
  | own hb hB hc =>
    rename_i b cap junk
    refine ⟨b, fun h => h _ _ rfl, ?_, fun S' hS' => ?_⟩
    · rw [iaSS_of (k := .i64) (i := (i : Int)) (by omega) (by omega : (i : Int) < (l.length : Int)), Int.toNat_natCast, Nat.zero_add]
    · rw [ldS_ptr, list_of (hS'.trans hb)]
      have e : l ++ junk = l.take i ++ (x :: (l.drop (i + 1) ++ junk)) := by
        have h1 : l = l.take i ++ l.drop i := (List.take_append_drop i l).symm
        have h2 : l.drop i = x :: l.drop (i + 1) := by
          rw [List.drop_eq_getElem_cons hlt]; congr 1
          have := List.getElem?_eq_getElem hlt
          rw [hx] at this; exact (Option.some.inj this).symm
        rw [h2] at h1
        conv => lhs; rw [h1]
        simp
      have hl : (l.take i).length = i := by rw [List.length_take]; omega
      show partS (some sz) ((l ++ junk).flatMap f) (i * sz) = _
      rw [partS_some]
      · rw [e, List.flatMap_append, List.drop_left' (by rw [fm_len hfl, hl]), List.flatMap_cons, List.take_left' (hfl x)]
      · rw [fm_len hfl, List.length_append]
        have : (i + 1) * sz ≤ (l.length + junk.length) * sz := Nat.mul_le_mul_right _ (by omega)
        rw [Nat.succ_mul] at this; omega

/-- append of elements: which blocks stay -/
theorem SlF.app2 (hfl : ∀ a, (f a).length = sz) (hone : ∀ a, (f a).all oneCell = true) (hsz : 0 < sz) {bytes : Nat} {z : List Value} {S : MS} {B : Nat} {v x : Value} {l new : List α} (h : SlF f sz S B v l) (wf : S.WF) (hBn : B ≤ S.n) (hl : lenOfA x = some new.length) (hf : firstCellsM S sz new.length x = some (new.flatMap f)) (hsm : (2 * (l.length + new.length) + 1000) * bytes ≤ 281474976710656) (hsm2 : l.length + new.length < 2147483648) :
    ∃ v' S', apS false sz bytes z S [v, x] = some (v', S') ∧ SlF f sz S' B v' (l ++ new) ∧ S.n ≤ S'.n ∧ (∀ y, y < S.n → Av v y → S'.m y = S.m y) ∧ ∀ y, y < S.n → Av v y → Av v' y := by
  have ho : ∀ l : List α, (l.flatMap f).all oneCell = true := by
    intro l
    rw [List.all_eq_true]
    intro v hv
    obtain ⟨a, _, ha⟩ := List.mem_flatMap.1 hv
    exact List.all_eq_true.1 (hone a) v ha
  have avn : ∀ y l c, y < S.n → Av (.slice (some ⟨S.n, 0, none⟩) l c) y := fun y l c hy l' c' e => by cases e; omega
  by_cases h0 : new.length = 0
  · have : new = [] := List.length_eq_zero_iff.1 h0
    subst this
    refine ⟨v, S, ?_, by rw [List.append_nil]; exact h, Nat.le_refl _, fun _ _ _ => rfl, fun _ _ h => h⟩
    unfold apS appendedM
    simp only [Bool.false_eq_true, if_false, hl, Option.bind_some, hf, Option.map_some]
    cases h with
    | non => simp
    | own hb hB hc => simp [hb]
  · have hnl : (new.flatMap f).length = new.length * sz := fm_len hfl new
    cases h with
    | non =>
      refine ⟨_, _, apS_nil hl hf hnl (ho _) h0 (by simpa using hsm) (by simpa using hsm2), ?_, Nat.le_succ _, fun y hy _ => fresh_old _ _ _ (Nat.ne_of_lt hy), fun y hy _ => avn y _ _ hy⟩
      rw [List.nil_append]
      exact .own (junk := []) (by rw [List.append_nil]; exact fresh_at _ _ _) hBn (.inl rfl)
    | own hb hB hc =>
      rename_i b cap junk
      have nb : ∀ y, Av (.slice (some ⟨b, 0, none⟩) l.length cap) y → y ≠ b := fun y hy e => by subst e; exact hy _ _ rfl
      have hcl : ((l ++ junk).flatMap f).length = (l.length + junk.length) * sz := by rw [fm_len hfl, List.length_append]
      have hl2 : l.length + new.length = (l ++ new).length := by simp
      have inplace : new.length ≤ junk.length → ∃ S', S.write b (0 + l.length * sz) (new.flatMap f) = some S' ∧ SlF f sz S' B (.slice (some ⟨b, 0, none⟩) (l.length + new.length) cap) (l ++ new) ∧ S.n ≤ S'.n ∧ (∀ y, y < S.n → Av (.slice (some ⟨b, 0, none⟩) l.length cap) y → S'.m y = S.m y) ∧ ∀ y, y < S.n → Av (.slice (some ⟨b, 0, none⟩) l.length cap) y → Av (.slice (some ⟨b, 0, none⟩) (l.length + new.length) cap) y := by
        intro hge
        rw [write_of hb (by rw [hcl, hnl, Nat.zero_add, ← Nat.add_mul]; exact Nat.mul_le_mul_right _ (by omega))]
        refine ⟨_, rfl, ?_, Nat.le_refl _, fun y _ hy => by rw [set_m, if_neg (nb y hy)], fun y _ hy l' c' e => by cases e; exact hy _ _ rfl⟩
        rw [hl2]
        refine .own (junk := junk.drop new.length) (by rw [set_m, if_pos rfl, fm_splice hfl _ _ _ hge]) hB ?_
        rcases hc with hc | ⟨hc, hc2⟩
        · exact .inl hc
        · refine .inr ⟨hc, ?_⟩
          simp at hc2 ⊢; omega
      have hble : (Nat.ble (0 + (l.length + new.length) * sz) ((l ++ junk).flatMap f).length = true) ↔ new.length ≤ junk.length := by
        rw [Nat.ble_eq, hcl, Nat.zero_add]
        constructor
        · intro h; have := Nat.le_of_mul_le_mul_right h hsz; omega
        · intro h; exact Nat.mul_le_mul_right _ (by omega)
      have e0 : (List.drop 0 ((l ++ junk).flatMap f)).take (l.length * sz) ++ new.flatMap f = ((l ++ new) ++ []).flatMap f := by
        rw [List.drop_zero, fm_take hfl, List.append_nil, List.flatMap_append]
      have hle0 : 0 + l.length * sz ≤ ((l ++ junk).flatMap f).length := by rw [hcl, Nat.zero_add]; exact Nat.mul_le_mul_right _ (by omega)
      unfold apS appendedM
      simp only [Bool.false_eq_true, if_false, hl, Option.bind_some, hf, Option.map_some, hnl, Nat.beq_refl, ho, Bool.and_self, if_true, if_neg h0, hb]
      rcases hc with hc | ⟨hc, hc2⟩
      · subst hc
        rw [if_pos (Nat.beq_refl _)]
        by_cases hge : new.length ≤ junk.length
        · rw [if_pos (hble.2 hge)]
          obtain ⟨S', h1, h2⟩ := inplace hge
          rw [h1]
          exact ⟨_, _, rfl, h2⟩
        · rw [if_neg (fun h => hge (hble.1 h)), if_pos ⟨hsm, hsm2, hle0⟩]
          refine ⟨_, _, rfl, ?_, Nat.le_succ _, fun y hy hv => ?_, fun y hy _ => avn y _ _ hy⟩
          · rw [e0, hl2]
            exact .own (junk := []) (fresh_at _ _ _) hBn (.inl rfl)
          · have e : (S.del b).n = S.n := rfl
            rw [fresh_old _ _ _ (by rw [e]; exact Nat.ne_of_lt hy), del_old _ (nb y hv)]
      · rw [if_neg (by rw [Nat.beq_eq]; omega)]
        by_cases hge : l.length + new.length ≤ cap
        · rw [if_pos (by rw [Nat.ble_eq]; omega)]
          obtain ⟨S', h1, h2⟩ := inplace (by rw [List.length_append] at hc2; omega)
          rw [h1]
          exact ⟨_, _, rfl, h2⟩
        · rw [if_neg (by rw [Nat.ble_eq]; omega), if_pos ⟨hsm, hsm2, hle0⟩]
          refine ⟨_, _, rfl, ?_, Nat.le_succ _, fun y hy _ => fresh_old _ _ _ (Nat.ne_of_lt hy), fun y hy _ => avn y _ _ hy⟩
          rw [e0, hl2]
          exact .own (junk := []) (fresh_at _ _ _) hBn (.inl rfl)
end
end Go.Ag
namespace Go.Proofs.Ytgkdmnfmfcdfmaa
open Go Go.Ag

theorem Ops.lenA {S : MS} {ov : Value} {os : List Op5} (h : Ops S ov os) : lenOfA ov = some os.length := by
  have h1 := h.len
  unfold lenSl at h1
  split at h1
  · rename_i a n c
    have : n = os.length := by
      have h2 := Option.some.inj h1
      unfold goInt at h2
      cases h2; rfl
    rw [this]; rfl
  · cases h1
theorem flat_parts {l : List Value} : ∀ (os : List Op5) (k : Nat), (∀ (i : Nat) x, os[i]? = some x → partS (some 5) l ((k + i) * 5) = some (.agg (opL x).toArray)) → k * 5 + os.length * 5 ≤ l.length ∨ os = [] → (l.drop (k * 5)).take (os.length * 5) = os.flatMap opL := by
  intro os
  induction os with
  | nil => intro k _ _; simp
  | cons o os ih =>
    intro k hp hle
    have hle : k * 5 + (os.length + 1) * 5 ≤ l.length := by rcases hle with h | h; simpa using h; cases h
    have h0 := hp 0 o rfl
    rw [Nat.add_zero, partS_some _ _ _ (by omega)] at h0
    have h0 : (l.drop (k * 5)).take 5 = opL o := by
      have := Option.some.inj h0
      injection this with e
      have := congrArg Array.toList e
      simpa using this
    have h1 := ih (k + 1) (fun i x hx => by have := hp (i + 1) x hx; rw [← this]; congr 1; omega) (.inl (by omega))
    rw [List.flatMap_cons, ← h0, ← h1, List.length_cons, show (os.length + 1) * 5 = 5 + os.length * 5 by omega, List.take_add, List.drop_drop]
    congr 3
    omega
theorem Ops.first {S : MS} {ov : Value} {os : List Op5} (h : Ops S ov os) (he : os = [] → ∀ S' sz, firstCellsM S' sz 0 ov = some []) : firstCellsM S 5 os.length ov = some (os.flatMap opL) := by
  by_cases h0 : os = []
  · subst h0; exact he rfl _ _
  · obtain ⟨ab, cap, l, h1, h2, h3⟩ := h.cells h0
    have hlen : os.length ≠ 0 := fun e => h0 (List.length_eq_zero_iff.1 e)
    have hlast : os.length * 5 ≤ l.length := by
      obtain ⟨x, hx⟩ : ∃ x, os[os.length - 1]? = some x := ⟨_, List.getElem?_eq_getElem (by omega)⟩
      have := h3 _ _ hx
      unfold partS at this
      simp only at this
      split at this
      · rename_i hb; rw [Nat.ble_eq] at hb; omega
      · cases this
    rw [h1, first_of h2 (Nat.le_refl _) hlen (by omega)]
    have := flat_parts (l := l) os 0 (fun i x hx => by rw [Nat.zero_add]; exact h3 i x hx) (.inl (by omega))
    rw [Nat.zero_mul] at this
    rw [this]

/-- a block's length when it is laid; where the k-th one begins -/
def bLen (b : Blk) (i : Nat) : Nat := b.ops.length + (tailL b i).length
def pos (bs : List Blk) : Nat → Nat
  | 0 => 0
  | k + 1 => pos bs k + (match bs[k]? with | some b => bLen b k | none => 0)
theorem pos_succ {bs : List Blk} {k : Nat} {b : Blk} (h : bs[k]? = some b) : pos bs (k + 1) = pos bs k + bLen b k := by
  show pos bs k + _ = _; rw [h]
def fixOp (bs : List Blk) (o : Op5) : Op5 := if o.c = 40 then o else ⟨o.c, o.d, o.a, o.b, (pos bs o.k.toNat : Nat)⟩
def rowOps (bs : List Blk) (i : Nat) (b : Blk) : List Op5 := b.ops ++ (tailL b i).map (fixOp bs)
def allOps (bs : List Blk) : Nat → List Op5
  | 0 => []
  | k + 1 => allOps bs k ++ (match bs[k]? with | some b => rowOps bs k b | none => [])
theorem all_succ {bs : List Blk} {k : Nat} {b : Blk} (h : bs[k]? = some b) : allOps bs (k + 1) = allOps bs k ++ rowOps bs k b := by
  show allOps bs k ++ _ = _; rw [h]
theorem all_len (bs : List Blk) : ∀ k, (allOps bs k).length = pos bs k := by
  intro k
  induction k with
  | zero => rfl
  | succ k ih =>
    show (allOps bs k ++ _).length = pos bs k + _
    rw [List.length_append, ih]
    congr 1
    split <;> simp [rowOps, bLen]
theorem pos_mono (bs : List Blk) {a b : Nat} (h : a ≤ b) : pos bs a ≤ pos bs b := by
  induction h with
  | refl => exact Nat.le_refl _
  | step _ ih => exact Nat.le_trans ih (Nat.le_add_right _ _)

/-- where blocks begin, as far as it is told -/
def bgL (bs : List Blk) (n k : Nat) : List Int := (List.range n).map fun i => if i < k then (pos bs i : Int) else 0
theorem bg_zero (bs : List Blk) (n : Nat) : bgL bs n 0 = List.replicate n 0 := by
  unfold bgL; refine List.ext_getElem? fun i => ?_
  simp [List.getElem?_replicate, List.getElem?_range]
  split <;> simp_all
theorem bg_len (bs : List Blk) (n k : Nat) : (bgL bs n k).length = n := by simp [bgL]
theorem bg_set (bs : List Blk) {n k : Nat} (h : k < n) : (bgL bs n k).set k (pos bs k : Int) = bgL bs n (k + 1) := by
  refine List.ext_getElem? fun i => ?_
  rw [List.getElem?_set]
  unfold bgL
  by_cases e : k = i
  · subst e; simp [h]
  · rw [if_neg e]
    rw [List.getElem?_map, List.getElem?_map]
    by_cases hi : i < n
    · rw [List.getElem?_range hi]; simp only [Option.map_some, Option.some.injEq]
      by_cases h1 : i < k
      · rw [if_pos h1, if_pos (by omega)]
      · rw [if_neg h1, if_neg (by omega)]
    · rw [List.getElem?_eq_none (by simp; omega)]; rfl
theorem bg_at (bs : List Blk) {n i : Nat} (h : i < n) : (bgL bs n n)[i]? = some (pos bs i : Int) := by
  unfold bgL; rw [List.getElem?_map, List.getElem?_range h]; simp [h]
end Go.Proofs.Ytgkdmnfmfcdfmaa

