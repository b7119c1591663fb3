/-
  The walk through the journal's code: what its functions do to memory, part FmJ1. Nothing is asked.
-/
import Derived.Test.YtmfmbadfgnhonaaFmD8
import Derived.Test.YtmfmbadfgnhonaaFmG
set_option linter.all false
namespace Go.Proofs.Ytmfmbadfgnhonaa
open Go Go.Ag
set_option linter.unusedVariables false
set_option maxRecDepth 100000

/-! ### bytes that are read -/
def bL (bs : List UInt8) : List Value := bs.map fun b => .int .u8 b.toNat
theorem bL_len (bs : List UInt8) : (bL bs).length = bs.length := by simp [bL]
theorem bL_get {bs : List UInt8} {i : Nat} {b : UInt8} (h : bs[i]? = some b) : (bL bs)[i]? = some (.int .u8 b.toNat) := by simp [bL, h]
theorem bL_one (bs : List UInt8) : (bL bs).all oneCell = true := by
  rw [List.all_eq_true]
  intro v hv
  obtain ⟨b, _, rfl⟩ := List.mem_map.1 hv
  rfl
theorem bL_append (a b : List UInt8) : bL (a ++ b) = bL a ++ bL b := by simp [bL]
theorem bL_bytes : ∀ bs : List UInt8, toBytes (bL bs) = some bs := by
  intro bs
  induction bs with
  | nil => rfl
  | cons b bs ih =>
    show (toBytes (bL bs)).map _ = _
    rw [ih]
    simp
/-- one cell a byte -/
def bF (b : UInt8) : List Value := [.int .u8 b.toNat]
theorem bF_len (b : UInt8) : (bF b).length = 1 := rfl
theorem bF_one (b : UInt8) : (bF b).all oneCell = true := rfl
theorem bF_flat (bs : List UInt8) : bs.flatMap bF = bL bs := by
  induction bs with
  | nil => rfl
  | cons b bs ih => rw [List.flatMap_cons, ih]; rfl

/-- a slice that reads as these bytes -/
def RB (S : MS) (v : Value) (bs : List UInt8) : Prop :=
  (v = .slice none 0 0 ∧ bs = []) ∨ (v = .slice (some ⟨0, 0, some 0⟩) 0 0 ∧ bs = []) ∨
  ∃ b off cap L, v = .slice (some ⟨b, off, none⟩) bs.length cap ∧ S.list b = some L ∧ off + bs.length ≤ L.length ∧ (L.drop off).take bs.length = bL bs ∧ bs.length ≤ cap ∧ (cap < unk ∨ (cap = unk ∧ ∃ l, S.m b = some (.cells l 1) ∧ l.length ≤ 1000000))
theorem RB.nil {S : MS} : RB S (.slice none 0 0) [] := .inl ⟨rfl, rfl⟩
theorem RB.keep {S S' : MS} {v : Value} {bs : List UInt8} (h : RB S v bs) (wf : S.WF) (hk : ∀ x, x < S.n → S'.m x = S.m x) : RB S' v bs := by
  rcases h with h | h | ⟨b, off, cap, L, h1, h2, h3, h4, h5, h6⟩
  · exact .inl h
  · exact .inr (.inl h)
  · refine .inr (.inr ⟨b, off, cap, L, h1, list_keep wf hk h2, h3, h4, h5, ?_⟩)
    rcases h6 with h | ⟨h, l, hl, hs⟩
    · exact .inl h
    · exact .inr ⟨h, l, by rw [hk b (wf _ _ hl)]; exact hl, hs⟩
theorem RB.len {S : MS} {v : Value} {bs : List UInt8} (h : RB S v bs) : lenSl v = some (.int .i64 bs.length) := by
  rcases h with ⟨rfl, rfl⟩ | ⟨rfl, rfl⟩ | ⟨b, off, cap, L, rfl, _⟩ <;> rfl
theorem RB.lenA {S : MS} {v : Value} {bs : List UInt8} (h : RB S v bs) : lenOfA v = some bs.length := by
  rcases h with ⟨rfl, rfl⟩ | ⟨rfl, rfl⟩ | ⟨b, off, cap, L, rfl, _⟩ <;> rfl
theorem RB.one {S : MS} {v : Value} {bs : List UInt8} (h : RB S v bs) : v.cells = #[v] ∧ oneCell v = true := by
  rcases h with ⟨rfl, rfl⟩ | ⟨rfl, rfl⟩ | ⟨b, off, cap, L, rfl, _⟩ <;> exact ⟨rfl, rfl⟩
theorem RB.first {S : MS} {v : Value} {bs : List UInt8} {j : Nat} (h : RB S v bs) (hj : j ≤ bs.length) : firstCellsM S 1 j v = some (bL (bs.take j)) := by
  rcases h with ⟨rfl, rfl⟩ | ⟨rfl, rfl⟩ | ⟨b, off, cap, L, rfl, h2, h3, h4, h5, h6⟩
  · have : j = 0 := by simpa using hj
    subst this; rfl
  · have : j = 0 := by simpa using hj
    subst this; rfl
  · by_cases h0 : j = 0
    · subst h0
      rw [first_zero (fun h => by cases h) (fun x h => by cases h; rfl)]; rfl
    · rw [first_of h2 hj h0 (by omega), Nat.mul_one]
      have : (L.drop off).take j = ((L.drop off).take bs.length).take j := by rw [List.take_take]; congr 1; omega
      rw [this, h4]
      simp [bL, List.map_take]
theorem RB.all {S : MS} {v : Value} {bs : List UInt8} (h : RB S v bs) : firstCellsM S 1 bs.length v = some (bL bs) := by
  have := h.first (Nat.le_refl bs.length)
  rwa [List.take_length] at this
theorem RB.flat {S : MS} {v : Value} {bs : List UInt8} (h : RB S v bs) : firstCellsM S 1 bs.length v = some (bs.flatMap bF) := by rw [bF_flat]; exact h.all
theorem RB.at {S : MS} {v : Value} {bs : List UInt8} {i : Nat} {b : UInt8} (h : RB S v bs) (hb : bs[i]? = some b) : ∃ p, iaSS 1 v (.int .i64 (i : Int)) = some p ∧ ldS none S p = some (.int .u8 b.toNat) := by
  have hlt := (List.getElem?_eq_some_iff.1 hb).1
  rcases h with ⟨rfl, rfl⟩ | ⟨rfl, rfl⟩ | ⟨b', off, cap, L, rfl, h2, h3, h4, h5, h6⟩
  · cases hb
  · cases hb
  · refine ⟨.pointer (some ⟨b', off + i, none⟩), ?_, ?_⟩
    · rw [iaSS_of (k := .i64) (i := (i : Int)) (by omega) (by omega : (i : Int) < (bs.length : Int)), Int.toNat_natCast, Nat.mul_one]
    · rw [ldS_ptr, h2]
      have := bL_get hb
      rw [← h4, List.getElem?_take, if_pos hlt, List.getElem?_drop] at this
      exact this
theorem RB.str {S : MS} {v : Value} {bs : List UInt8} (h : RB S v bs) : strS S v = some (.string ⟨bs.toArray⟩) := by
  rcases h with ⟨rfl, rfl⟩ | ⟨rfl, rfl⟩ | ⟨b, off, cap, L, rfl, h2, h3, h4, h5, h6⟩
  · rfl
  · rfl
  · rw [strS_own]
    unfold MS.readAt
    rw [h2]
    simp only [Option.bind_some]
    rw [if_pos (by rw [Nat.ble_eq]; exact h3), h4]
    simp only [Option.bind_some, bL_bytes]
    rfl
/-- a part of it -/
theorem RB.sub {S : MS} {v : Value} {bs : List UInt8} {i j : Nat} {low high : Option Value} (h : RB S v bs) (hij : i ≤ j) (hj : j ≤ bs.length) (hlo : (low = none ∧ i = 0) ∨ low = some (.int .i64 i)) (hhi : (high = none ∧ j = bs.length) ∨ high = some (.int .i64 j)) :
    ∃ v', slS 1 S v low high none = some v' ∧ RB S v' ((bs.drop i).take (j - i)) := by
  have hab : ∀ c, j ≤ c → bs.length ≤ c → abounds bs.length c low high none = some (i, j, c) := by
    intro c hjc hlc
    unfold abounds
    rcases hhi with ⟨rfl, rfl⟩ | rfl <;> rcases hlo with ⟨rfl, rfl⟩ | rfl <;> simp only [intIn_of hjc, intIn_of hij, Option.bind_some]
  have hl : ((bs.drop i).take (j - i)).length = j - i := by rw [List.length_take, List.length_drop]; omega
  rcases h with ⟨rfl, rfl⟩ | ⟨rfl, rfl⟩ | ⟨b, off, cap, L, rfl, h2, h3, h4, h5, h6⟩
  · have h0 := hab 0 hj (Nat.le_refl _)
    refine ⟨.slice none 0 0, ?_, by simp; exact .nil⟩
    show (abounds 0 0 low high none).bind _ = _
    rw [show abounds 0 0 low high none = _ from h0]; rfl
  · have h0 := hab 0 hj (Nat.le_refl _)
    refine ⟨.slice (some ⟨0, 0, some 0⟩) 0 0, ?_, by simp; exact .inr (.inl ⟨rfl, rfl⟩)⟩
    show (abounds 0 0 low high none).bind _ = _
    rw [show abounds 0 0 low high none = _ from h0]; rfl
  · have hcells : (L.drop (off + i)).take (j - i) = bL ((bs.drop i).take (j - i)) := by
      have e : bL ((bs.drop i).take (j - i)) = ((bL bs).drop i).take (j - i) := by simp [bL, List.map_take, List.map_drop]
      rw [e, ← h4, List.drop_take, List.take_take, List.drop_drop]
      congr 1; omega
    rw [slS_own]
    rcases h6 with h6 | ⟨rfl, l, hl2, hs2⟩
    · rw [if_neg (by rw [Nat.beq_eq]; omega), if_pos (by rw [Nat.blt_eq]; exact h6), hab cap (by omega) h5]
      simp only [Option.bind_some, Nat.mul_one]
      refine ⟨_, rfl, .inr (.inr ⟨b, off + i, cap - i, L, by rw [hl], h2, by rw [hl]; omega, by rw [hl]; exact hcells, by rw [hl]; omega, .inl (by omega)⟩)⟩
    · have hLl : L = l := by
        have := list_of hl2
        rw [h2] at this; exact Option.some.inj this
      subst hLl
      have hN : bs.length ≤ Nat.max bs.length ((L.length - off) / 1) := Nat.le_max_left _ _
      simp only [Nat.beq_refl, if_true, hl2, Option.bind_some]
      rw [if_pos (by simp; omega), hab _ (by omega) hN]
      simp only [Option.bind_some, Nat.mul_one]
      have hbig : Nat.max bs.length ((L.length - off) / 1) < unk := by
        have h9 : Nat.max bs.length ((L.length - off) / 1) = L.length - off := by rw [Nat.div_one]; exact Nat.max_eq_right (by omega)
        have : (1000000 : Nat) < unk := by decide
        omega
      rw [if_pos (by rw [Bool.and_eq_true, Nat.blt_eq, Nat.blt_eq]; omega)]
      refine ⟨_, rfl, .inr (.inr ⟨b, off + i, unk, L, by rw [hl], h2, by rw [hl]; omega, by rw [hl]; exact hcells, by rw [hl]; have : (1000000 : Nat) < unk := by decide
                                                                                                                      omega, .inr ⟨rfl, L, hl2, hs2⟩⟩)⟩
end Go.Proofs.Ytmfmbadfgnhonaa

