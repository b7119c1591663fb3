/-
  The walk through the disk's code, part 19: what its functions do to memory. Nothing is asked.
-/
import Derived.Test.YtlepbifmkleoeaaPl18
set_option linter.all false
namespace Go.Proofs.Ytlepbifmkleoeaa
open Go Go.Ag
set_option linter.unusedVariables false
set_option maxRecDepth 100000

theorem under3 : Try.prog.underlying 3 = some (.int .i64) := by kernel_rfl
theorem under4 : Try.prog.underlying 4 = some .bool := by kernel_rfl
theorem under5 : Try.prog.underlying 5 = some (.int .u8) := by kernel_rfl
theorem under22 : Try.prog.underlying 22 = some (.slice 32) := by kernel_rfl
theorem cells32 : Try.prog.cellsOf 32 = 5 := by kernel_rfl
theorem cells3 : Try.prog.cellsOf 3 = 1 := by kernel_rfl
theorem cells4 : Try.prog.cellsOf 4 = 1 := by kernel_rfl
theorem cells5 : Try.prog.cellsOf 5 = 1 := by kernel_rfl
theorem under32 : ∃ fs, Try.prog.underlying 32 = some (.struct fs) ∧ fs.toList.map (fun f => (f.type, f.offset)) = [(3, 0), (3, 1), (3, 2), (5, 3), (4, 4)] := by
  have h : (match Try.prog.underlying 32 with | some (.struct fs) => fs.toList.map (fun f => (f.type, f.offset)) | _ => []) = [(3, 0), (3, 1), (3, 2), (5, 3), (4, 4)] := by kernel_rfl
  split at h
  · rename_i fs e; exact ⟨fs, e, h⟩
  · cases h

section
variable {H : Type} {S : MS}
theorem rd_int {t : TypeId} {k : IntKind} (hu : Try.prog.underlying t = some (.int k)) {cs : List Value} {d : DataW H} (h : RdS Try.prog S t cs d) : ∃ n, cs = [.int k n] ∧ (Lit.int k n).wf = true := by
  cases h with
  | int hu' hw => rw [hu] at hu'; cases hu'; exact ⟨_, rfl, hw⟩
  | bool hu' => rw [hu] at hu'; cases hu'
  | string hu' _ => rw [hu] at hu'; cases hu'
  | sliceNil hu' => rw [hu] at hu'; cases hu'
  | sliceZ hu' => rw [hu] at hu'; cases hu'
  | slice vs hu' => rw [hu] at hu'; cases hu'
  | struct hu' => rw [hu] at hu'; cases hu'
theorem rd_bool {t : TypeId} (hu : Try.prog.underlying t = some .bool) {cs : List Value} {d : DataW H} (h : RdS Try.prog S t cs d) : ∃ b, cs = [.bool b] := by
  cases h with
  | bool hu' => exact ⟨_, rfl⟩
  | int hu' => rw [hu] at hu'; cases hu'
  | string hu' _ => rw [hu] at hu'; cases hu'
  | sliceNil hu' => rw [hu] at hu'; cases hu'
  | sliceZ hu' => rw [hu] at hu'; cases hu'
  | slice vs hu' => rw [hu] at hu'; cases hu'
  | struct hu' => rw [hu] at hu'; cases hu'

theorem rd_step {x : List Value} {d : DataW H} (h : RdS Try.prog S 32 x d) : ∃ s : Stp, x = stepL s.w s.i s.n s.f s.s ∧ -9223372036854775808 ≤ s.n ∧ s.n ≤ 9223372036854775807 := by
  obtain ⟨fs0, hu, hfs⟩ := under32
  cases h with
  | bool hu' => rw [hu] at hu'; cases hu'
  | int hu' => rw [hu] at hu'; cases hu'
  | string hu' _ => rw [hu] at hu'; cases hu'
  | sliceNil hu' => rw [hu] at hu'; cases hu'
  | sliceZ hu' => rw [hu] at hu'; cases hu'
  | slice vs hu' => rw [hu] at hu'; cases hu'
  | struct hu' hl hd hr =>
    rename_i fs ds
    rw [hu] at hu'; cases hu'
    rw [cells32] at hl
    have hlen : fs0.toList.length = 5 := by have := congrArg List.length hfs; simpa using this
    have fld : ∀ (i : Nat) t o, [(3, 0), (3, 1), (3, 2), (5, 3), (4, 4)][i]? = some (t, o) → ∃ d : DataW H, RdS Try.prog S t ((x.drop o).take (Try.prog.cellsOf t)) d := by
      intro i t o hi
      rw [← hfs, List.getElem?_map] at hi
      cases hf : fs0.toList[i]? with
      | none => rw [hf] at hi; cases hi
      | some f =>
        rw [hf] at hi
        cases hi
        have hlt : i < ds.length := by rw [hd]; exact (List.getElem?_eq_some_iff.1 hf).1
        exact ⟨_, hr i f _ hf (List.getElem?_eq_getElem hlt)⟩
    match x, hl with
    | [a, b, c, e, g], _ =>
      obtain ⟨_, h0⟩ := fld 0 3 0 rfl
      obtain ⟨_, h1⟩ := fld 1 3 1 rfl
      obtain ⟨_, h2⟩ := fld 2 3 2 rfl
      obtain ⟨_, h3⟩ := fld 3 5 3 rfl
      obtain ⟨_, h4⟩ := fld 4 4 4 rfl
      rw [cells3] at h0 h1 h2
      rw [cells5] at h3
      rw [cells4] at h4
      obtain ⟨n0, e0, _⟩ := rd_int under3 h0
      obtain ⟨n1, e1, _⟩ := rd_int under3 h1
      obtain ⟨n2, e2, w2⟩ := rd_int under3 h2
      obtain ⟨n3, e3, _⟩ := rd_int under5 h3
      obtain ⟨b4, e4⟩ := rd_bool under4 h4
      simp at e0 e1 e2 e3 e4
      subst e0 e1 e2 e3 e4
      refine ⟨⟨n0, n1, n2, n3, b4⟩, rfl, ?_⟩
      simp [Lit.wf, IntKind.min, IntKind.max, IntKind.signed, IntKind.bits] at w2
      exact w2

theorem list_of_each {α : Type} {p : Nat → α → Prop} : ∀ n, (∀ k, k < n → ∃ x, p k x) → ∃ xs : List α, xs.length = n ∧ ∀ (k : Nat) x, xs[k]? = some x → p k x := by
  intro n
  induction n with
  | zero => intro _; exact ⟨[], rfl, fun k x h => by cases h⟩
  | succ n ih =>
    intro h
    obtain ⟨xs, h1, h2⟩ := ih fun k hk => h k (by omega)
    obtain ⟨x, hx⟩ := h n (by omega)
    refine ⟨xs ++ [x], by simp [h1], fun k y hy => ?_⟩
    rw [List.getElem?_append] at hy
    split at hy
    · exact h2 k y hy
    · rename_i hk
      have : k = n := by have := (List.getElem?_eq_some_iff.1 hy).1; simp at this; omega
      subst this
      simp [h1] at hy
      subst hy; exact hx

theorem flat_at {n : Nat} : ∀ (vs : List (List Value)) (k : Nat) (x : List Value), (∀ y ∈ vs, y.length = n) → vs[k]? = some x → ((vs.flatten.drop (k * n)).take n = x ∧ k * n + n ≤ vs.flatten.length) := by
  intro vs
  induction vs with
  | nil => intro k x _ h; cases h
  | cons v vs ih =>
    intro k x hn h
    have hv := hn v (by simp)
    cases k with
    | zero => cases h; simp [hv]
    | succ k =>
      obtain ⟨g1, g2⟩ := ih k x (fun y hy => hn y (by simp [hy])) h
      have e : (k + 1) * n = v.length + k * n := by rw [hv, Nat.succ_mul]; omega
      refine ⟨?_, ?_⟩
      · rw [List.flatten_cons, e, ← List.drop_drop, List.drop_left']
        · exact g1
        · rfl
      · rw [List.flatten_cons, List.length_append, e]; omega

theorem rd_steps {cs : List Value} {d : DataW H} (h : RdS Try.prog S 22 cs d) : ∃ lv xs, cs = [lv] ∧ ArgL S lv xs := by
  cases h with
  | bool hu' => rw [under22] at hu'; cases hu'
  | int hu' => rw [under22] at hu'; cases hu'
  | string hu' _ => rw [under22] at hu'; cases hu'
  | struct hu' => rw [under22] at hu'; cases hu'
  | sliceNil hu' => exact ⟨_, [], rfl, rfl, fun h => absurd rfl h, fun x hx => by cases hx⟩
  | sliceZ hu' => exact ⟨_, [], rfl, rfl, fun h => absurd rfl h, fun x hx => by cases hx⟩
  | slice vs hu hcap hlen hmax he hs hvs hb hsz hr =>
    rename_i e b len cap elems spare
    rw [under22] at hu; cases hu
    rw [cells32] at hsz
    have hst : ∀ k, k < len → ∃ s : Stp, vs[k]? = some (stepL s.w s.i s.n s.f s.s) ∧ -9223372036854775808 ≤ s.n ∧ s.n ≤ 9223372036854775807 := by
      intro k hk
      have hkv : k < vs.length := by omega
      have hkd : k < (elems ++ spare).length := by rw [List.length_append]; omega
      obtain ⟨s, h1, h2⟩ := rd_step (hr k _ _ (List.getElem?_eq_getElem hkv) (List.getElem?_eq_getElem hkd))
      exact ⟨s, by rw [List.getElem?_eq_getElem hkv, h1], h2⟩
    obtain ⟨xs, hxl, hx⟩ := list_of_each (p := fun k (s : Stp) => vs[k]? = some (stepL s.w s.i s.n s.f s.s) ∧ -9223372036854775808 ≤ s.n ∧ s.n ≤ 9223372036854775807) len hst
    refine ⟨_, xs, rfl, by rw [lenSl_of, hxl], fun _ => ⟨b, cap, vs.flatten, by rw [hxl], hb, fun k x hk => ?_⟩, fun x hx' => ?_⟩
    · obtain ⟨g1, g2⟩ := flat_at vs k _ hsz (hx k x hk).1
      rw [partS_some _ _ _ g2, g1]
    · obtain ⟨k, hk⟩ := List.getElem?_of_mem hx'
      exact (hx k x hk).2

/-- whatever reads so: the law tells true -/
theorem run3 (ds : List (DataW H)) (vs : List Value) (h : RdSAll Try.prog S [3, 22] vs ds) : CallM Try.prog O 3 vs S fun v _ => v = .bool true := by
  have two : ∃ a b d1 d2, vs = [a, b] ∧ ds = [d1, d2] := by
    cases vs with
    | nil => exact h.elim
    | cons a vs =>
      cases ds with
      | nil => exact h.elim
      | cons d1 ds =>
        have h := h.2
        cases vs with
        | nil => exact h.elim
        | cons b vs =>
          cases ds with
          | nil => exact h.elim
          | cons d2 ds =>
            have h := h.2
            cases vs with
            | nil => cases ds with
              | nil => exact ⟨a, b, d1, d2, rfl, rfl⟩
              | cons d ds => exact h.elim
            | cons c vs => exact h.elim
  obtain ⟨a, b, d1, d2, rfl, rfl⟩ := two
  obtain ⟨⟨cs1, r1, k1⟩, ⟨cs2, r2, k2⟩, _⟩ := h
  obtain ⟨n, rfl, _⟩ := rd_int under3 r1
  obtain ⟨lv, xs, rfl, ha⟩ := rd_steps r2
  rcases k1 with ⟨⟨fs, hf⟩, _⟩ | ⟨_, k1⟩
  · rw [under3] at hf; cases hf
  rcases k2 with ⟨⟨fs, hf⟩, _⟩ | ⟨_, k2⟩
  · rw [under22] at hf; cases hf
  cases k1; cases k2
  exact plays ha
end
end Go.Proofs.Ytlepbifmkleoeaa
