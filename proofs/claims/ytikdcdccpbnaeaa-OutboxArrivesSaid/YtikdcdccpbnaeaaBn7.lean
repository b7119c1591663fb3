/-
  The walk through the outbox's code: what its functions do to memory, part Bn7. Nothing is asked.
-/
import Derived.Test.YtikdcdccpbnaeaaBn6
set_option linter.all false
namespace Go.Proofs.Ytikdcdccpbnaeaa
open Go Go.Ag
set_option linter.unusedVariables false
set_option maxRecDepth 100000
/-! ### the arguments' reading -/
theorem under5 : Try.prog.underlying 5 = some (.int .u8) := by kernel_rfl
theorem under23 : Try.prog.underlying 23 = some (.slice 5) := by kernel_rfl
theorem cells5 : Try.prog.cellsOf 5 = 1 := by kernel_rfl

section
variable {H : Type} {S : MS}
theorem rd_int {t : TypeId} {k : IntKind} (hu : Try.prog.underlying t = some (.int k)) {cs : List Value} {d : DataW H} (h : RdS Try.prog S t cs d) : ∃ n, cs = [.int k n] ∧ (Lit.int k n).wf = true := by
  cases h with
  | int hu' hw => rw [hu] at hu'; cases hu'; exact ⟨_, rfl, hw⟩
  | bool hu' => rw [hu] at hu'; cases hu'
  | string hu' _ => rw [hu] at hu'; cases hu'
  | sliceNil hu' => rw [hu] at hu'; cases hu'
  | sliceZ hu' => rw [hu] at hu'; cases hu'
  | slice vs hu' => rw [hu] at hu'; cases hu'
  | struct hu' => rw [hu] at hu'; cases hu'
theorem list_of_each {α : Type} {p : Nat → α → Prop} : ∀ n, (∀ k, k < n → ∃ x, p k x) → ∃ xs : List α, xs.length = n ∧ ∀ (k : Nat) x, xs[k]? = some x → p k x := by
  intro n
  induction n with
  | zero => intro _; exact ⟨[], rfl, fun k x h => by cases h⟩
  | succ n ih =>
    intro h
    obtain ⟨xs, h1, h2⟩ := ih fun k hk => h k (by omega)
    obtain ⟨x, hx⟩ := h n (by omega)
    refine ⟨xs ++ [x], by simp [h1], fun k y hy => ?_⟩
    rw [List.getElem?_append] at hy
    split at hy
    · exact h2 k y hy
    · rename_i hk
      have : k = n := by have := (List.getElem?_eq_some_iff.1 hy).1; simp at this; omega
      subst this
      simp [h1] at hy
      subst hy; exact hx
theorem flat_one : ∀ (vs : List (List Value)) (k : Nat) (v : Value), (∀ y ∈ vs, y.length = 1) → vs[k]? = some [v] → vs.flatten[k]? = some v := by
  intro vs
  induction vs with
  | nil => intro k v _ h; cases h
  | cons x vs ih =>
    intro k v hn h
    have hx := hn x (by simp)
    match x, hx with
    | [a], _ =>
      cases k with
      | zero => cases h; rfl
      | succ k => exact ih k v (fun y hy => hn y (by simp [hy])) h
theorem wf_u8 {n : Int} (h : (Lit.int .u8 n).wf = true) : 0 ≤ n ∧ n < 256 := by
  simp [Lit.wf, IntKind.min, IntKind.max, IntKind.signed, IntKind.bits] at h
  omega
theorem rd_by {cs : List Value} {d : DataW H} (h : RdS Try.prog S 23 cs d) : ∃ dv ds, cs = [dv] ∧ By S dv ds := by
  cases h with
  | bool hu' => rw [under23] at hu'; cases hu'
  | int hu' => rw [under23] at hu'; cases hu'
  | string hu' _ => rw [under23] at hu'; cases hu'
  | struct hu' => rw [under23] at hu'; cases hu'
  | sliceNil hu' => exact ⟨_, [], rfl, rfl, (fun d hd => by cases hd), fun h => absurd rfl h⟩
  | sliceZ hu' => exact ⟨_, [], rfl, rfl, (fun d hd => by cases hd), fun h => absurd rfl h⟩
  | slice vs hu hcap hlen hmax he hs hvs hb hsz hr =>
    rename_i e b len cap elems spare
    rw [under23] at hu; cases hu
    rw [cells5] at hsz
    have hst : ∀ k, k < len → ∃ n : Nat, vs[k]? = some [.int .u8 n] ∧ n < 256 := by
      intro k hk
      have hkv : k < vs.length := by omega
      have hkd : k < (elems ++ spare).length := by rw [List.length_append]; omega
      obtain ⟨n, h1, h2⟩ := rd_int under5 (hr k _ _ (List.getElem?_eq_getElem hkv) (List.getElem?_eq_getElem hkd))
      obtain ⟨h3, h4⟩ := wf_u8 h2
      refine ⟨n.toNat, by rw [List.getElem?_eq_getElem hkv, h1, Int.toNat_of_nonneg h3], by omega⟩
    obtain ⟨xs, hxl, hx⟩ := list_of_each (p := fun k (n : Nat) => vs[k]? = some [.int .u8 n] ∧ n < 256) len hst
    refine ⟨_, xs, rfl, by rw [lenSl_of, hxl], fun n hn => ?_, fun _ => ⟨b, cap, vs.flatten, by rw [hxl], list_of hb, fun k x hk => flat_one vs k _ hsz (hx k x hk).1⟩⟩
    obtain ⟨k, hk⟩ := List.getElem?_of_mem hn
    exact (hx k n hk).2

theorem under22 : Try.prog.underlying 22 = some (.slice 9) := by kernel_rfl
theorem under9 : Try.prog.underlying 9 = some .string := by kernel_rfl
theorem cells9 : Try.prog.cellsOf 9 = 1 := by kernel_rfl
theorem rd_str {t : TypeId} (hu : Try.prog.underlying t = some .string) {cs : List Value} {d : DataW H} (h : RdS Try.prog S t cs d) : ∃ s, cs = [.string s] := by
  cases h with
  | string hu' _ => exact ⟨_, rfl⟩
  | int hu' _ => rw [hu] at hu'; cases hu'
  | bool hu' => rw [hu] at hu'; cases hu'
  | sliceNil hu' => rw [hu] at hu'; cases hu'
  | sliceZ hu' => rw [hu] at hu'; cases hu'
  | slice vs hu' => rw [hu] at hu'; cases hu'
  | struct hu' => rw [hu] at hu'; cases hu'
theorem rd_txs {cs : List Value} {d : DataW H} (h : RdS Try.prog S 22 cs d) : ∃ tv ts, cs = [tv] ∧ Txs S tv ts := by
  cases h with
  | bool hu' => rw [under22] at hu'; cases hu'
  | int hu' => rw [under22] at hu'; cases hu'
  | string hu' _ => rw [under22] at hu'; cases hu'
  | struct hu' => rw [under22] at hu'; cases hu'
  | sliceNil hu' => exact ⟨_, [], rfl, rfl, fun h => absurd rfl h⟩
  | sliceZ hu' => exact ⟨_, [], rfl, rfl, fun h => absurd rfl h⟩
  | slice vs hu hcap hlen hmax he hs hvs hb hsz hr =>
    rename_i e b len cap elems spare
    rw [under22] at hu; cases hu
    rw [cells9] at hsz
    have hst : ∀ k, k < len → ∃ s : ByteArray, vs[k]? = some [.string s] := by
      intro k hk
      have hkv : k < vs.length := by omega
      have hkd : k < (elems ++ spare).length := by rw [List.length_append]; omega
      obtain ⟨s, h1⟩ := rd_str under9 (hr k _ _ (List.getElem?_eq_getElem hkv) (List.getElem?_eq_getElem hkd))
      exact ⟨s, by rw [List.getElem?_eq_getElem hkv, h1]⟩
    obtain ⟨xs, hxl, hx⟩ := list_of_each (p := fun k (s : ByteArray) => vs[k]? = some [.string s]) len hst
    exact ⟨_, xs, rfl, by rw [lenSl_of, hxl], fun _ => ⟨b, cap, vs.flatten, by rw [hxl], list_of hb, fun k x hk => flat_one vs k _ hsz (hx k x hk)⟩⟩

/-- whatever reads so: the law tells true -/
theorem run3 (ds : List (DataW H)) (vs : List Value) (h : RdSAll Try.prog S [22, 23] vs ds) : CallM Try.prog O 3 vs S fun v _ => v = .bool true := by
  have two : ∃ a b d1 d2, vs = [a, b] ∧ ds = [d1, d2] := by
    rcases vs with _ | ⟨a, _ | ⟨b, _ | ⟨c, vs⟩⟩⟩ <;> rcases ds with _ | ⟨d1, _ | ⟨d2, _ | ⟨d3, ds⟩⟩⟩ <;> first | exact h.elim | exact h.2.elim | exact h.2.2.elim | exact ⟨_, _, _, _, rfl, rfl⟩
  obtain ⟨a, b, d1, d2, rfl, rfl⟩ := two
  obtain ⟨⟨cs, r1, k1⟩, ⟨cs2, r2, k2⟩, _⟩ := h
  obtain ⟨tv, ts, rfl, ht⟩ := rd_txs r1
  obtain ⟨dv, bs, rfl, hb⟩ := rd_by r2
  rcases k1 with ⟨⟨fs, hf⟩, _⟩ | ⟨_, e1⟩
  · rw [under22] at hf; cases hf
  rcases k2 with ⟨⟨fs, hf⟩, _⟩ | ⟨_, e2⟩
  · rw [under23] at hf; cases hf
  cases e1; cases e2
  exact law3 ht hb
end
end Go.Proofs.Ytikdcdccpbnaeaa

