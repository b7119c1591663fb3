/-
  The walk through the code of blocks and of what is reached, part L5: what its functions do to memory. Nothing is asked.
-/
import Derived.Test.YtgkdmnfmfcdfmaaLa4
set_option linter.all false
namespace Go.Proofs.Ytgkdmnfmfcdfmaa
open Go Go.Ag
set_option linter.unusedVariables false
set_option maxRecDepth 100000

/-- the law's blocks, only read -/
structure Blks (S : MS) (gv : Value) (bs : List Blk) : Prop where
  one : gv.cells = #[gv]
  oneC : oneCell gv = true
  len : lenSl gv = some (.int .i64 bs.length)
  cells : bs ≠ [] → ∃ ab cap l, gv = .slice (some ⟨ab, 0, none⟩) bs.length cap ∧ S.list ab = some l ∧ ∀ (k : Nat) b, bs[k]? = some b → partS (some 5) l (k * 5) = some (blkV b)
  ops : ∀ b ∈ bs, Ops S b.ov b.ops
  emp : ∀ b ∈ bs, b.ops = [] → ∀ S' sz, firstCellsM S' sz 0 b.ov = some []
theorem Blks.keep {S S' : MS} {gv : Value} {bs : List Blk} (h : Blks S gv bs) (wf : S.WF) (hk : ∀ x, x < S.n → S'.m x = S.m x) : Blks S' gv bs :=
  ⟨h.one, h.oneC, h.len, fun hne => by obtain ⟨ab, cap, l, h1, h2, h3⟩ := h.cells hne; exact ⟨ab, cap, l, h1, list_keep wf hk h2, h3⟩, fun b hb => (h.ops b hb).keep wf hk, h.emp⟩
theorem Blks.at {S : MS} {gv : Value} {bs : List Blk} (h : Blks S gv bs) {i : Nat} {b : Blk} (hb : bs[i]? = some b) : ∃ p, iaSS 5 gv (.int .i64 (i : Int)) = some p ∧ ldS (some 5) S p = some (blkV b) := by
  have hlt := (List.getElem?_eq_some_iff.1 hb).1
  obtain ⟨ab, cap, l, h1, h2, h3⟩ := h.cells (fun e => by rw [e] at hb; cases hb)
  refine ⟨.pointer (some ⟨ab, i * 5, none⟩), ?_, ?_⟩
  · rw [h1, iaSS_of (k := .i64) (i := (i : Int)) (by omega) (by omega : (i : Int) < (bs.length : Int)), Int.toNat_natCast, Nat.zero_add]
  · rw [ldS_ptr, h2]
    exact h3 i b hb
def okG (bs : List Blk) : Prop := 1 ≤ bs.length ∧ bs.length ≤ 2000 ∧ ∀ b ∈ bs, okB bs.length b

end Go.Proofs.Ytgkdmnfmfcdfmaa

