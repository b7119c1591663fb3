/-
  The walk through the journal's code: what its functions do to memory, part FmJ30. Nothing is asked.
-/
import Derived.Test.YtmfmbadfgnhonaaFmJ29
set_option linter.all false
namespace Go.Proofs.Ytmfmbadfgnhonaa
open Go Go.Ag
set_option linter.unusedVariables false
set_option maxRecDepth 100000

/-! ### how arguments read -/
theorem under3 : Try.prog.underlying 3 = some (.int .i64) := by kernel_rfl
theorem under5 : Try.prog.underlying 5 = some (.int .u8) := by kernel_rfl
theorem cells5 : Try.prog.cellsOf 5 = 1 := by kernel_rfl
section
variable {H : Type} {S : MS}
theorem rd_int {t : TypeId} {k : IntKind} (hu : Try.prog.underlying t = some (.int k)) {cs : List Value} {d : DataW H} (h : RdS Try.prog S t cs d) : ∃ n, cs = [.int k n] ∧ (Lit.int k n).wf = true := by
  cases h with
  | int hu' hw => rw [hu] at hu'; cases hu'; exact ⟨_, rfl, hw⟩
  | bool hu' => rw [hu] at hu'; cases hu'
  | string hu' _ => rw [hu] at hu'; cases hu'
  | sliceNil hu' => rw [hu] at hu'; cases hu'
  | sliceZ hu' => rw [hu] at hu'; cases hu'
  | slice vs hu' => rw [hu] at hu'; cases hu'
  | struct hu' => rw [hu] at hu'; cases hu'
theorem list_of_each {α : Type} {p : Nat → α → Prop} : ∀ n, (∀ k, k < n → ∃ x, p k x) → ∃ xs : List α, xs.length = n ∧ ∀ (k : Nat) x, xs[k]? = some x → p k x := by
  intro n
  induction n with
  | zero => intro _; exact ⟨[], rfl, fun k x h => by cases h⟩
  | succ n ih =>
    intro h
    obtain ⟨xs, h1, h2⟩ := ih fun k hk => h k (by omega)
    obtain ⟨x, hx⟩ := h n (by omega)
    refine ⟨xs ++ [x], by simp [h1], fun k y hy => ?_⟩
    rw [List.getElem?_append] at hy
    split at hy
    · exact h2 k y hy
    · rename_i hk
      have : k = n := by have := (List.getElem?_eq_some_iff.1 hy).1; simp at this; omega
      subst this
      simp [h1] at hy
      subst hy; exact hx

theorem flat1 : ∀ (vs : List (List Value)), (∀ y ∈ vs, y.length = 1) → vs.flatten.length = vs.length ∧ ∀ (k : Nat), vs.flatten[k]? = (vs[k]?).bind (·[0]?) := by
  intro vs
  induction vs with
  | nil => intro _; exact ⟨rfl, fun k => rfl⟩
  | cons v vs ih =>
    intro h
    have hv := h v (by simp)
    obtain ⟨h1, h2⟩ := ih fun y hy => h y (by simp [hy])
    match v, hv with
    | [x], _ =>
      refine ⟨by simp [h1], fun k => ?_⟩
      cases k with
      | zero => rfl
      | succ k => simpa using h2 k
theorem unk_reach : reachBytes < unk := by decide
/-- bytes -/
theorem rd_bytes {cs : List Value} {d : DataW H} (h : RdS Try.prog S 32 cs d) : ∃ v bs, cs = [v] ∧ RB S v bs ∧ bs.length ≤ reachBytes ∧ ∀ y, On v y → ∃ l, S.m y = some (.ro l) := by
  cases h with
  | bool hu' => rw [under32] at hu'; cases hu'
  | int hu' => rw [under32] at hu'; cases hu'
  | string hu' _ => rw [under32] at hu'; cases hu'
  | struct hu' => rw [under32] at hu'; cases hu'
  | sliceNil hu' => exact ⟨_, [], rfl, .nil, Nat.zero_le _, fun y ⟨o, n, c, e⟩ => by cases e⟩
  | sliceZ hu' => exact ⟨_, [], rfl, .inr (.inl ⟨rfl, rfl⟩), Nat.zero_le _, fun y ⟨o, n, c, e⟩ => by cases e⟩
  | slice vs hu hcap hlen hmax he hs hvs hb hsz hr =>
    rename_i e b len cap elems spare
    rw [under32] at hu; cases hu
    rw [cells5] at hsz
    have hst : ∀ k, k < len → ∃ x : UInt8, vs[k]? = some [.int .u8 x.toNat] := by
      intro k hk
      have hkv : k < vs.length := by omega
      have hkd : k < (elems ++ spare).length := by rw [List.length_append]; omega
      obtain ⟨n, h1, h2⟩ := rd_int under5 (hr k _ _ (List.getElem?_eq_getElem hkv) (List.getElem?_eq_getElem hkd))
      simp [Lit.wf, IntKind.min, IntKind.max, IntKind.signed, IntKind.bits] at h2
      refine ⟨UInt8.ofNat n.toNat, ?_⟩
      rw [List.getElem?_eq_getElem hkv, h1, u8_nat _ (by omega), Int.toNat_of_nonneg (by omega)]
    obtain ⟨bs, hbl, hx⟩ := list_of_each (p := fun k (x : UInt8) => vs[k]? = some [.int .u8 x.toNat]) len hst
    obtain ⟨f1, f2⟩ := flat1 vs hsz
    have hlr := unk_reach
    refine ⟨_, bs, rfl, .inr (.inr ⟨b, 0, cap, vs.flatten, by rw [hbl], list_of hb, by omega, ?_, by omega, .inl (by omega)⟩), by omega, fun y ⟨o, n, c, e⟩ => by cases e; exact ⟨_, hb⟩⟩
    refine List.ext_getElem? fun k => ?_
    rw [List.getElem?_take, List.drop_zero]
    by_cases hk : k < bs.length
    · obtain ⟨x, hxk⟩ : ∃ x, bs[k]? = some x := ⟨_, List.getElem?_eq_getElem hk⟩
      rw [if_pos hk, f2, hx k x hxk, bL_get hxk]; rfl
    · rw [if_neg hk, List.getElem?_eq_none (by rw [bL_len]; omega)]
theorem rd_sv {t : TypeId} {cs : List Value} {d : DataW H} {v : Value} (h : (∃ fs, Try.prog.underlying t = some (.struct fs)) ∧ v = .agg cs.toArray ∨ (∀ fs, Try.prog.underlying t ≠ some (.struct fs)) ∧ cs = [v]) (hu : ∀ fs, Try.prog.underlying t ≠ some (.struct fs)) : cs = [v] := by
  rcases h with ⟨⟨fs, hf⟩, _⟩ | ⟨_, h⟩
  · exact absurd hf (hu fs)
  · exact h
end
end Go.Proofs.Ytmfmbadfgnhonaa

