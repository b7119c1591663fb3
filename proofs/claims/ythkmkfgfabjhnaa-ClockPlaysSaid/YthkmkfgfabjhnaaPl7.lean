/-
  The walk through both clocks' code: what its functions do to memory, part Pl7. Nothing is asked.
-/
import Derived.Test.YthkmkfgfabjhnaaPl6
set_option linter.all false
namespace Go.Proofs.Ythkmkfgfabjhnaa
open Go Go.Ag
set_option linter.unusedVariables false
set_option maxRecDepth 100000

theorem SlF.fld {α : Type} {f : α → List Value} {sz : Nat} (hfl : ∀ a, (f a).length = sz) {S : MS} {B : Nat} {v : Value} {l : List α} {i : Nat} {x : α} (h : SlF f sz S B v l) (hx : l[i]? = some x) : ∃ b L, iaSS sz v (.int .i64 (i : Int)) = some (.pointer (some ⟨b, i * sz, none⟩)) ∧ S.list b = some L ∧ ∀ k, k < sz → L[i * sz + k]? = (f x)[k]? := by
  have hlt := (List.getElem?_eq_some_iff.1 hx).1
  cases h with
  | non => cases hx
  | own hb hB hc hj =>
    rename_i b cap junk
    refine ⟨b, _, ?_, list_of hb, fun k hk => ?_⟩
    · rw [iaSS_of (k := .i64) (i := (i : Int)) (by omega) (by omega : (i : Int) < (l.length : Int)), Int.toNat_natCast, Nat.zero_add]
    · exact fm_get hfl (by rw [List.getElem?_append_left hlt]; exact hx) hk

/-- bytes that are only read -/
structure By (S : MS) (dv : Value) (ds : List Nat) : Prop where
  len : lenSl dv = some (.int .i64 ds.length)
  small : ∀ d ∈ ds, d < 256
  cells : ds ≠ [] → ∃ ab cap l, dv = .slice (some ⟨ab, 0, none⟩) ds.length cap ∧ S.list ab = some l ∧ ∀ (k : Nat) d, ds[k]? = some d → l[k]? = some (.int .u8 d)
theorem By.keep {S S' : MS} {dv : Value} {ds : List Nat} (h : By S dv ds) (wf : S.WF) (hk : ∀ x, x < S.n → S'.m x = S.m x) : By S' dv ds :=
  ⟨h.len, h.small, fun hne => by obtain ⟨ab, cap, l, h1, h2, h3⟩ := h.cells hne; exact ⟨ab, cap, l, h1, list_keep wf hk h2, h3⟩⟩
theorem By.at {S : MS} {dv : Value} {ds : List Nat} (h : By S dv ds) {i d : Nat} (hd : ds[i]? = some d) : ∃ p, iaSS 1 dv (.int .i64 (i : Int)) = some p ∧ ldS none S p = some (.int .u8 d) := by
  have hlt := (List.getElem?_eq_some_iff.1 hd).1
  obtain ⟨ab, cap, l, h1, h2, h3⟩ := h.cells (fun e => by rw [e] at hd; cases hd)
  refine ⟨.pointer (some ⟨ab, i, none⟩), ?_, ?_⟩
  · rw [h1, iaSS_of (k := .i64) (i := (i : Int)) (by omega) (by omega : (i : Int) < (ds.length : Int)), Int.toNat_natCast, Nat.zero_add, Nat.mul_one]
  · rw [ldS_ptr, h2]
    exact h3 i d hd

/-- while it ticks -/
structure TC (S0 : MS) (ds : List Nat) (dv : Value) (ticks : Int) (c cb : Nat) (t : Int) (w : Value) (l : List Tm) (came : List Int) (T : FT) (S : MS) : Prop where
  old : Old S0 S
  c0 : S0.n ≤ c
  ccb : c < cb
  cbn : cb < S.n
  clk : IsC S c (c + 1) (4 + t) (10 + (ds.length : Int)) w l
  hw : Waits ds ds.length (4 + t) l
  cam : S.m cb = some (.cells (came.map fun x => .int .i64 x) 1)
  av : Av w cb
  t0 : T.get 0 = dv
  t1 : T.get 1 = .int .i64 ticks
  t5 : T.get 5 = .pointer (some ⟨c, 0, none⟩)
  t9 : T.get 9 = .slice (some ⟨cb, 0, none⟩) ds.length ds.length
  ll : l.length ≤ 12

end Go.Proofs.Ythkmkfgfabjhnaa

