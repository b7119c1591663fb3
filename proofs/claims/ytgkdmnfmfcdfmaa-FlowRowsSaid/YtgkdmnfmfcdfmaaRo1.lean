/-
  The walk through the code of blocks and of what is reached, part R1: what its functions do to memory. Nothing is asked.
-/
import Derived.Test.YtgkdmnfmfcdfmaaRoW
set_option linter.all false
namespace Go.Proofs.Ytgkdmnfmfcdfmaa
open Go Go.Ag
set_option linter.unusedVariables false
set_option maxRecDepth 100000

/-- a block of a row: where its one instruction lies, its end -/
structure RB where
  ob : Nat
  e : Int
  a : Int
  t : Int
def o35 : Op5 := ⟨35, 0, 0, 0, 0⟩
def rbL (r : RB) : List Value := [.slice (some ⟨r.ob, 0, none⟩) 1 1, .int .i64 r.e, .int .i64 r.a, .int .i64 r.t, .int .i64 0]
def rbB (r : RB) : Blk := ⟨.slice (some ⟨r.ob, 0, none⟩) 1 1, [o35], r.e, r.a, r.t, 0⟩
theorem rb_len (r : RB) : (rbL r).length = 5 := rfl
theorem rb_one (r : RB) : (rbL r).all oneCell = true := rfl
/-- how the i-th block ends -/
def endR (n : Nat) (back : Int) (i : Nat) : Int × Int × Int := if (i : Int) = back then (38, 0, 0) else if i + 1 = n then (40, -1, 0) else (38, 0, (i + 1 : Nat))
def IsRow (n : Nat) (back : Int) (bs : List Blk) : Prop := bs.length = n ∧ ∀ (i : Nat) b, bs[i]? = some b → b.ops = [o35] ∧ b.l = 0 ∧ (b.e, b.a, b.t) = endR n back i

theorem IsRow.cases {n : Nat} {back : Int} {bs : List Blk} (h : IsRow n back bs) {i : Nat} {b : Blk} (hb : bs[i]? = some b) : b.ops = [o35] ∧ b.l = 0 ∧ (((i : Int) = back ∧ b.e = 38 ∧ b.a = 0 ∧ b.t = 0) ∨ ((i : Int) ≠ back ∧ i + 1 = n ∧ b.e = 40 ∧ b.a = -1 ∧ b.t = 0) ∨ ((i : Int) ≠ back ∧ i + 1 < n ∧ b.e = 38 ∧ b.a = 0 ∧ b.t = (i + 1 : Nat))) := by
  obtain ⟨h1, h2, h3⟩ := h.2 i b hb
  have hlt := (List.getElem?_eq_some_iff.1 hb).1
  rw [h.1] at hlt
  refine ⟨h1, h2, ?_⟩
  unfold endR at h3
  split at h3
  · rename_i e; simp at h3; exact .inl ⟨e, h3⟩
  · rename_i e
    split at h3
    · rename_i e2; simp at h3; exact .inr (.inl ⟨e, e2, h3⟩)
    · rename_i e2; simp at h3; exact .inr (.inr ⟨e, by omega, h3.1, h3.2.1, by omega⟩)

theorem IsRow.ok {n : Nat} {back : Int} {bs : List Blk} (h : IsRow n back bs) (h1 : 1 ≤ n) (h2 : n ≤ 60) : okG bs := by
  refine ⟨by rw [h.1]; exact h1, by rw [h.1]; omega, fun b hb => ?_⟩
  obtain ⟨i, hi⟩ := List.getElem?_of_mem hb
  obtain ⟨g1, g2, g3⟩ := h.cases hi
  refine ⟨fun o ho => ?_, ?_⟩
  · rw [g1] at ho; simp at ho; subst ho; exact ⟨by decide, by decide, by decide⟩
  · rw [h.1]
    rcases g3 with ⟨_, e, a, t⟩ | ⟨_, _, e, a, t⟩ | ⟨_, hl, e, a, t⟩
    · exact .inl ⟨e, by omega, a, g2⟩
    · exact .inr (.inr ⟨e, by omega, t, g2⟩)
    · exact .inl ⟨e, by omega, a, g2⟩

def len1 (n : Nat) (back : Int) (i : Nat) : Nat := if (i : Int) = back ∨ i + 1 = n then 2 else 1
theorem IsRow.blen {n : Nat} {back : Int} {bs : List Blk} (h : IsRow n back bs) {i : Nat} {b : Blk} (hb : bs[i]? = some b) : bLen b i = len1 n back i := by
  obtain ⟨g1, g2, g3⟩ := h.cases hb
  unfold Ytgkdmnfmfcdfmaa.bLen len1
  rw [g1]
  rcases g3 with ⟨h1, e, a, t⟩ | ⟨h1, h2, e, a, t⟩ | ⟨h1, h2, e, a, t⟩
  · rw [if_pos (.inl h1)]
    unfold tailL
    rw [if_neg (by omega), if_neg (by omega), if_neg (by omega)]; rfl
  · rw [if_pos (.inr h2)]
    unfold tailL
    rw [if_pos e]; rfl
  · rw [if_neg (by omega)]
    unfold tailL
    rw [if_neg (by omega), if_neg (by omega), if_pos (by omega)]; rfl
theorem IsRow.posn {n : Nat} {back : Int} {bs : List Blk} (h : IsRow n back bs) : ∀ k, k ≤ n → (pos bs k : Int) = k + (if 0 ≤ back ∧ back < k then 1 else 0) + (if k = n ∧ 1 ≤ n ∧ back ≠ (n : Int) - 1 then 1 else 0) := by
  intro k
  induction k with
  | zero =>
    intro _
    show ((0 : Nat) : Int) = _
    rw [if_neg (by omega), if_neg (by omega)]; rfl
  | succ k ih =>
    intro hk
    have hlt : k < bs.length := by rw [h.1]; omega
    obtain ⟨b, hb⟩ : ∃ b, bs[k]? = some b := ⟨_, List.getElem?_eq_getElem hlt⟩
    have e := pos_succ hb
    rw [h.blen hb] at e
    have ih := ih (by omega)
    rw [e]
    unfold len1
    rw [if_neg (show ¬ (k = n ∧ 1 ≤ n ∧ back ≠ (n : Int) - 1) by omega)] at ih
    split <;> split at ih <;> split <;> split <;> omega
theorem IsRow.good {n : Nat} {back : Int} {bs : List Blk} (h : IsRow n back bs) : Good (allOps bs n) := by
  have main : ∀ k, k ≤ n → ∀ o ∈ allOps bs k, (o.c = 38 ∨ o.c = 39) → 0 ≤ o.k ∧ o.k < pos bs n := by
    intro k
    induction k with
    | zero => intro _ o ho; cases ho
    | succ k ih =>
      intro hk o ho hc
      have hlt : k < bs.length := by rw [h.1]; omega
      obtain ⟨b, hb⟩ : ∃ b, bs[k]? = some b := ⟨_, List.getElem?_eq_getElem hlt⟩
      rw [all_succ hb] at ho
      rcases List.mem_append.1 ho with ho | ho
      · exact ih (by omega) o ho hc
      · unfold rowOps at ho
        obtain ⟨g1, g2, g3⟩ := h.cases hb
        rcases List.mem_append.1 ho with ho | ho
        · rw [g1] at ho; simp at ho; subst ho; exact absurd hc (by decide)
        · obtain ⟨o', ho', rfl⟩ := List.mem_map.1 ho
          have hn1 : 1 ≤ n := by omega
          have h0 : (pos bs 0 : Int) < pos bs n := by
            have := h.posn n (Nat.le_refl _)
            show ((0 : Nat) : Int) < _
            split at this <;> split at this <;> omega
          unfold tailL at ho'
          rcases g3 with ⟨h1, e, a, t⟩ | ⟨h1, h2, e, a, t⟩ | ⟨h1, h2, e, a, t⟩
          · rw [if_neg (by omega), if_neg (by omega), if_neg (by omega)] at ho'
            simp at ho'; subst ho'
            simp only [fixOp, if_neg (show ¬ ((38 : Int) = 40) by decide), t]
            exact ⟨by omega, h0⟩
          · rw [if_pos e] at ho'
            simp at ho'; subst ho'
            simp [fixOp] at hc
          · rw [if_neg (by omega), if_neg (by omega), if_pos (by omega)] at ho'
            cases ho'
  intro i o hi hc
  obtain ⟨h1, h2⟩ := main n (Nat.le_refl _) o (List.mem_of_getElem? hi) hc
  rw [all_len]
  exact ⟨h1, h2⟩

theorem IsRow.reach {n : Nat} {back : Int} {bs : List Blk} (h : IsRow n back bs) (hn : 1 ≤ n) (hb0 : -1 ≤ back) (hbn : back < n) {ms : List Bool} (hv : VisG n (nxG bs) ms []) (hok : okG bs) {i : Nat} (hi : i < n) : ms[i]? = some (decide (back < 0 ∨ (i : Int) ≤ back)) := by
  have nx : ∀ k, k < n → nxG bs k = if (k : Int) = back then [0] else if k + 1 = n then [] else [((k + 1 : Nat) : Int)] := by
    intro k hk
    have hlt : k < bs.length := by rw [h.1]; omega
    obtain ⟨b, hb⟩ : ∃ b, bs[k]? = some b := ⟨_, List.getElem?_eq_getElem hlt⟩
    obtain ⟨g1, g2, g3⟩ := h.cases hb
    rw [nxG_of hb]
    unfold nxB
    rcases g3 with ⟨h1, e, a, t⟩ | ⟨h1, h2, e, a, t⟩ | ⟨h1, h2, e, a, t⟩
    · rw [if_pos e, if_pos h1, t]
    · rw [if_neg (by omega), if_neg (by omega), if_neg h1, if_pos h2]
    · rw [if_pos e, if_neg h1, if_neg (by omega), t]
  have good := nxG_good hok
  rw [h.1] at good
  have only : ∀ k, ReachG (nxG bs) k → k < n ∧ (back < 0 ∨ (k : Int) ≤ back) := by
    intro k hk
    induction hk with
    | zero => exact ⟨by omega, by omega⟩
    | step hr hj ih =>
      rename_i k j
      obtain ⟨h1, h2⟩ := good k ih.1 j hj
      refine ⟨by omega, ?_⟩
      rw [nx k ih.1] at hj
      split at hj
      · simp at hj; omega
      · split at hj
        · cases hj
        · simp at hj; rcases ih.2 with h3 | h3 <;> omega
  have all : ∀ k, k < n → (back < 0 ∨ (k : Int) ≤ back) → ReachG (nxG bs) k := by
    intro k
    induction k with
    | zero => intro _ _; exact .zero
    | succ k ih =>
      intro hk hc
      have hr := ih (by omega) (by omega)
      have : ((k + 1 : Nat) : Int) ∈ nxG bs k := by
        rw [nx k (by omega), if_neg (by omega), if_neg (by omega)]; simp
      have := ReachG.step hr this
      simpa using this
  by_cases hc : back < 0 ∨ (i : Int) ≤ back
  · rw [decide_eq_true hc]
    exact hv.done good (all i hi hc)
  · rw [decide_eq_false hc]
    have hl : i < ms.length := by rw [hv.len]; exact hi
    cases hm : ms[i]? with
    | none => rw [List.getElem?_eq_none_iff] at hm; omega
    | some x =>
      cases x with
      | false => rfl
      | true => exact absurd (only i (hv.sound i hm)).2 hc

/-- a row of the code's own, as blocks -/
theorem blks_of {S : MS} {B : Nat} {w : Value} {rs : List RB} (h : SlF rbL 5 S B w rs) (ho : ∀ r ∈ rs, S.list r.ob = some (opL o35)) : Blks S w (rs.map rbB) := by
  refine ⟨(SlF.one h).1, (SlF.one h).2, by rw [h.lenSl, List.length_map], fun hne => ?_, fun b hb => ?_, fun b hb => ?_⟩
  · cases h with
    | non => exact absurd rfl hne
    | own hb hB hc =>
      rename_i b cap junk
      refine ⟨b, cap, _, by rw [List.length_map], list_of hb, fun k x hx => ?_⟩
      rw [List.getElem?_map] at hx
      cases hr : rs[k]? with
      | none => rw [hr] at hx; cases hx
      | some r =>
        rw [hr] at hx; cases hx
        obtain ⟨b', _, q1, q2⟩ := (SlF.own hb hB hc : SlF rbL 5 S B (.slice (some ⟨b, 0, none⟩) rs.length cap) rs).at rb_len hr
        have hkl := (List.getElem?_eq_some_iff.1 hr).1
        rw [iaSS_of (k := .i64) (i := (k : Int)) (by omega) (by omega : (k : Int) < (rs.length : Int)), Int.toNat_natCast, Nat.zero_add] at q1
        cases q1
        have := q2 S rfl
        rw [ldS_ptr, list_of hb] at this
        exact this
  · obtain ⟨r, hr, rfl⟩ := List.mem_map.1 hb
    refine ⟨rfl, rfl, rfl, fun _ => ⟨r.ob, 1, opL o35, rfl, ho r hr, fun k x hx => ?_⟩⟩
    cases k with
    | zero => cases hx; rfl
    | succ k => cases hx
  · obtain ⟨r, hr, rfl⟩ := List.mem_map.1 hb
    intro h; cases h
theorem ops_of {S : MS} {B : Nat} {w : Value} {os : List Op5} (h : SlF opL 5 S B w os) : Ops S w os := by
  refine ⟨(SlF.one h).1, (SlF.one h).2, h.lenSl, fun hne => ?_⟩
  cases h with
  | non => exact absurd rfl hne
  | own hb hB hc =>
    rename_i b cap junk
    refine ⟨b, cap, _, rfl, list_of hb, fun k x hr => ?_⟩
    obtain ⟨b', _, q1, q2⟩ := (SlF.own hb hB hc : SlF opL 5 S B (.slice (some ⟨b, 0, none⟩) os.length cap) os).at opL_len hr
    have hkl := (List.getElem?_eq_some_iff.1 hr).1
    rw [iaSS_of (k := .i64) (i := (k : Int)) (by omega) (by omega : (k : Int) < (os.length : Int)), Int.toNat_natCast, Nat.zero_add] at q1
    cases q1
    have := q2 S rfl
    rw [ldS_ptr, list_of hb] at this
    exact this
end Go.Proofs.Ytgkdmnfmfcdfmaa

