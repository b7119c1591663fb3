/-
  The walk through the code of blocks and of what is reached, part F11: what its functions do to memory. Nothing is asked.
-/
import Derived.Test.YtgkdmnfmfcdfmaaSt10
set_option linter.all false
namespace Go.Proofs.Ytgkdmnfmfcdfmaa
open Go Go.Ag
set_option linter.unusedVariables false
set_option maxRecDepth 100000

theorem under3 : Try.prog.underlying 3 = some (.int .i64) := by kernel_rfl
theorem under27 : Try.prog.underlying 27 = some (.slice 36) := by kernel_rfl
theorem cells36 : Try.prog.cellsOf 36 = 5 := by kernel_rfl
theorem cells27 : Try.prog.cellsOf 27 = 1 := by kernel_rfl
theorem cells3 : Try.prog.cellsOf 3 = 1 := by kernel_rfl
theorem under36 : ∃ fs, Try.prog.underlying 36 = some (.struct fs) ∧ fs.toList.map (fun f => (f.type, f.offset)) = [(3, 0), (3, 1), (3, 2), (3, 3), (3, 4)] := by
  have h : (match Try.prog.underlying 36 with | some (.struct fs) => fs.toList.map (fun f => (f.type, f.offset)) | _ => []) = [(3, 0), (3, 1), (3, 2), (3, 3), (3, 4)] := by kernel_rfl
  split at h
  · rename_i fs e; exact ⟨fs, e, h⟩
  · cases h
section
variable {H : Type} {S : MS}
theorem rd_int {t : TypeId} {k : IntKind} (hu : Try.prog.underlying t = some (.int k)) {cs : List Value} {d : DataW H} (h : RdS Try.prog S t cs d) : ∃ n, cs = [.int k n] := by
  cases h with
  | int hu' hw => rw [hu] at hu'; cases hu'; exact ⟨_, rfl⟩
  | bool hu' => rw [hu] at hu'; cases hu'
  | string hu' _ => rw [hu] at hu'; cases hu'
  | sliceNil hu' => rw [hu] at hu'; cases hu'
  | sliceZ hu' => rw [hu] at hu'; cases hu'
  | slice vs hu' => rw [hu] at hu'; cases hu'
  | struct hu' => rw [hu] at hu'; cases hu'

theorem rd_fields {t : TypeId} {sig : List (TypeId × Nat)} (hu : ∃ fs, Try.prog.underlying t = some (.struct fs) ∧ fs.toList.map (fun f => (f.type, f.offset)) = sig) {x : List Value} {d : DataW H} (h : RdS Try.prog S t x d) : x.length = Try.prog.cellsOf t ∧ ∀ (i : Nat) t' o, sig[i]? = some (t', o) → ∃ d' : DataW H, RdS Try.prog S t' ((x.drop o).take (Try.prog.cellsOf t')) d' := by
  obtain ⟨fs0, hu, hfs⟩ := hu
  cases h with
  | bool hu' => rw [hu] at hu'; cases hu'
  | int hu' => rw [hu] at hu'; cases hu'
  | string hu' _ => rw [hu] at hu'; cases hu'
  | sliceNil hu' => rw [hu] at hu'; cases hu'
  | sliceZ hu' => rw [hu] at hu'; cases hu'
  | slice vs hu' => rw [hu] at hu'; cases hu'
  | struct hu' hl hd hr =>
    rename_i fs ds
    rw [hu] at hu'; cases hu'
    refine ⟨hl, fun i t' o hi => ?_⟩
    rw [← hfs, List.getElem?_map] at hi
    cases hf : fs0.toList[i]? with
    | none => rw [hf] at hi; cases hi
    | some f =>
      rw [hf] at hi
      cases hi
      have hlt : i < ds.length := by rw [hd]; exact (List.getElem?_eq_some_iff.1 hf).1
      exact ⟨_, hr i f _ hf (List.getElem?_eq_getElem hlt)⟩

theorem rd_op {x : List Value} {d : DataW H} (h : RdS Try.prog S 36 x d) : ∃ o : Op5, x = opL o := by
  obtain ⟨hl, fld⟩ := rd_fields under36 h
  rw [cells36] at hl
  match x, hl with
  | [a, b, c, e, g], _ =>
    obtain ⟨_, h0⟩ := fld 0 3 0 rfl
    obtain ⟨_, h1⟩ := fld 1 3 1 rfl
    obtain ⟨_, h2⟩ := fld 2 3 2 rfl
    obtain ⟨_, h3⟩ := fld 3 3 3 rfl
    obtain ⟨_, h4⟩ := fld 4 3 4 rfl
    rw [cells3] at h0 h1 h2 h3 h4
    obtain ⟨n0, e0⟩ := rd_int under3 h0
    obtain ⟨n1, e1⟩ := rd_int under3 h1
    obtain ⟨n2, e2⟩ := rd_int under3 h2
    obtain ⟨n3, e3⟩ := rd_int under3 h3
    obtain ⟨n4, e4⟩ := rd_int under3 h4
    simp at e0 e1 e2 e3 e4
    subst e0 e1 e2 e3 e4
    exact ⟨⟨n0, n1, n2, n3, n4⟩, rfl⟩

theorem list_of_each {α : Type} {p : Nat → α → Prop} : ∀ n, (∀ k, k < n → ∃ x, p k x) → ∃ xs : List α, xs.length = n ∧ ∀ (k : Nat) x, xs[k]? = some x → p k x := by
  intro n
  induction n with
  | zero => intro _; exact ⟨[], rfl, fun k x h => by cases h⟩
  | succ n ih =>
    intro h
    obtain ⟨xs, h1, h2⟩ := ih fun k hk => h k (by omega)
    obtain ⟨x, hx⟩ := h n (by omega)
    refine ⟨xs ++ [x], by simp [h1], fun k y hy => ?_⟩
    rw [List.getElem?_append] at hy
    split at hy
    · exact h2 k y hy
    · rename_i hk
      have : k = n := by have := (List.getElem?_eq_some_iff.1 hy).1; simp at this; omega
      subst this
      simp [h1] at hy
      subst hy; exact hx

theorem flat_at {n : Nat} : ∀ (vs : List (List Value)) (k : Nat) (x : List Value), (∀ y ∈ vs, y.length = n) → vs[k]? = some x → ((vs.flatten.drop (k * n)).take n = x ∧ k * n + n ≤ vs.flatten.length) := by
  intro vs
  induction vs with
  | nil => intro k x _ h; cases h
  | cons v vs ih =>
    intro k x hn h
    have hv := hn v (by simp)
    cases k with
    | zero => cases h; simp [hv]
    | succ k =>
      obtain ⟨g1, g2⟩ := ih k x (fun y hy => hn y (by simp [hy])) h
      have e : (k + 1) * n = v.length + k * n := by rw [hv, Nat.succ_mul]; omega
      refine ⟨?_, ?_⟩
      · rw [List.flatten_cons, e, ← List.drop_drop, List.drop_left']
        · exact g1
        · rfl
      · rw [List.flatten_cons, List.length_append, e]; omega

theorem rd_ops {cs : List Value} {d : DataW H} (h : RdS Try.prog S 27 cs d) : ∃ ov os, cs = [ov] ∧ Ops S ov os := by
  cases h with
  | bool hu' => rw [under27] at hu'; cases hu'
  | int hu' => rw [under27] at hu'; cases hu'
  | string hu' _ => rw [under27] at hu'; cases hu'
  | struct hu' => rw [under27] at hu'; cases hu'
  | sliceNil hu' => exact ⟨_, [], rfl, rfl, rfl, rfl, fun h => absurd rfl h⟩
  | sliceZ hu' => exact ⟨_, [], rfl, rfl, rfl, rfl, fun h => absurd rfl h⟩
  | slice vs hu hcap hlen hmax he hs hvs hb hsz hr =>
    rename_i e b len cap elems spare
    rw [under27] at hu; cases hu
    rw [cells36] at hsz
    have hst : ∀ k, k < len → ∃ o : Op5, vs[k]? = some (opL o) := by
      intro k hk
      have hkv : k < vs.length := by omega
      have hkd : k < (elems ++ spare).length := by rw [List.length_append]; omega
      obtain ⟨s, h1⟩ := rd_op (hr k _ _ (List.getElem?_eq_getElem hkv) (List.getElem?_eq_getElem hkd))
      exact ⟨s, by rw [List.getElem?_eq_getElem hkv, h1]⟩
    obtain ⟨xs, hxl, hx⟩ := list_of_each (p := fun k (s : Op5) => vs[k]? = some (opL s)) len hst
    refine ⟨_, xs, rfl, rfl, rfl, by rw [lenSl_of, hxl], fun _ => ⟨b, cap, vs.flatten, by rw [hxl], hb, fun k x hk => ?_⟩⟩
    obtain ⟨g1, g2⟩ := flat_at vs k _ hsz (hx k x hk)
    rw [partS_some _ _ _ g2, g1]

end
end Go.Proofs.Ytgkdmnfmfcdfmaa

