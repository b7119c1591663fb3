/-
  The walk through the outbox's code: what its functions do to memory, part On3. Nothing is asked.
-/
import Derived.Test.YtikdcdccpbnaeaaOn2
set_option linter.all false
namespace Go.Proofs.Ytikdcdccpbnaeaa
open Go Go.Ag
set_option linter.unusedVariables false
set_option maxRecDepth 100000

/-- bytes that are only read -/
structure By (S : MS) (dv : Value) (ds : List Nat) : Prop where
  len : lenSl dv = some (.int .i64 ds.length)
  small : ∀ d ∈ ds, d < 256
  cells : ds ≠ [] → ∃ ab cap l, dv = .slice (some ⟨ab, 0, none⟩) ds.length cap ∧ S.list ab = some l ∧ ∀ (k : Nat) d, ds[k]? = some d → l[k]? = some (.int .u8 d)
theorem By.keep {S S' : MS} {dv : Value} {ds : List Nat} (h : By S dv ds) (wf : S.WF) (hk : ∀ x, x < S.n → S'.m x = S.m x) : By S' dv ds :=
  ⟨h.len, h.small, fun hne => by obtain ⟨ab, cap, l, h1, h2, h3⟩ := h.cells hne; exact ⟨ab, cap, l, h1, list_keep wf hk h2, h3⟩⟩
theorem By.at {S : MS} {dv : Value} {ds : List Nat} (h : By S dv ds) {i d : Nat} (hd : ds[i]? = some d) : ∃ p, iaSS 1 dv (.int .i64 (i : Int)) = some p ∧ ldS none S p = some (.int .u8 d) := by
  have hlt := (List.getElem?_eq_some_iff.1 hd).1
  obtain ⟨ab, cap, l, h1, h2, h3⟩ := h.cells (fun e => by rw [e] at hd; cases hd)
  refine ⟨.pointer (some ⟨ab, i, none⟩), ?_, ?_⟩
  · rw [h1, iaSS_of (k := .i64) (i := (i : Int)) (by omega) (by omega : (i : Int) < (ds.length : Int)), Int.toNat_natCast, Nat.zero_add, Nat.mul_one]
  · rw [ldS_ptr, h2]
    exact h3 i d hd

/-- the law's own book: which numbers were seen -/
structure Seen (G : List Em) (g : List Bool) : Prop where
  len : g.length = 41
  iff : ∀ j : Nat, 1 ≤ j → j ≤ 40 → (g[j]? = some true ↔ has G (j : Int))
  top : ∀ p ∈ G, p.1 ≤ 40
theorem Seen.at {G : List Em} {g : List Bool} (h : Seen G g) {j : Nat} (hj : j ≤ 40) : ∃ b, g[j]? = some b ∧ (1 ≤ j → (b = true ↔ has G (j : Int))) := by
  refine ⟨g[j]'(by have := h.len; omega), List.getElem?_eq_getElem _, fun h1 => ?_⟩
  rw [← h.iff j h1 hj, List.getElem?_eq_getElem (by have := h.len; omega)]
  simp
structure LC (S0 : MS) (ds : List Nat) (dv : Value) (r mb gb : Nat) (i : Nat) (G : List Em) (g : List Bool) (T : FT) (S : MS) : Prop where
  old : Old S0 S
  r0 : S0.n ≤ r
  m0 : S0.n ≤ mb
  g0 : S0.n ≤ gb
  gr : gb ≠ r ∧ gb ≠ mb
  rcv : IsR S r mb G
  book : S.m gb = some (.cells (g.map Value.bool) 0)
  seen : Seen G g
  cnt : G.length ≤ i
  t0 : T.get 0 = dv
  t3 : T.get 3 = .pointer (some ⟨r, 0, none⟩)
  t4 : T.get 4 = .pointer (some ⟨gb, 0, none⟩)
  t5 : T.get 5 = .int .i64 G.length

end Go.Proofs.Ytikdcdccpbnaeaa

