/-
  The walk through both clocks' code: what its functions do to memory, part PlJ. Nothing is asked.
-/
import Derived.Test.YthkmkfgfabjhnaaPlI
set_option linter.all false
namespace Go.Proofs.Ythkmkfgfabjhnaa
open Go Go.Ag
set_option linter.unusedVariables false
set_option maxRecDepth 100000

/-! ### the arguments' reading -/
theorem under2 : Try.prog.underlying 2 = some (.int .i64) := by kernel_rfl
theorem under9 : Try.prog.underlying 9 = some .string := by kernel_rfl
theorem under29 : Try.prog.underlying 29 = some (.slice 71) := by kernel_rfl
theorem under35s : Try.prog.underlying 35 = some (.slice 38) := by kernel_rfl
theorem under42 : Try.prog.underlying 42 = some (.slice 33) := by kernel_rfl
theorem cells2 : Try.prog.cellsOf 2 = 1 := by kernel_rfl
theorem cells3 : Try.prog.cellsOf 3 = 1 := by kernel_rfl
theorem cells9 : Try.prog.cellsOf 9 = 1 := by kernel_rfl
theorem cells29 : Try.prog.cellsOf 29 = 1 := by kernel_rfl
theorem cells31 : Try.prog.cellsOf 31 = 2 := by kernel_rfl
theorem cells33 : Try.prog.cellsOf 33 = 3 := by kernel_rfl
theorem cells38 : Try.prog.cellsOf 38 = 4 := by kernel_rfl
theorem cells71 : Try.prog.cellsOf 71 = 5 := by kernel_rfl
theorem under31 : ∃ fs, Try.prog.underlying 31 = some (.struct fs) ∧ fs.toList.map (fun f => (f.type, f.offset)) = [(9, 0), (29, 1)] := by
  have h : (match Try.prog.underlying 31 with | some (.struct fs) => fs.toList.map (fun f => (f.type, f.offset)) | _ => []) = [(9, 0), (29, 1)] := by kernel_rfl
  split at h
  · rename_i fs e; exact ⟨fs, e, h⟩
  · cases h
theorem under33 : ∃ fs, Try.prog.underlying 33 = some (.struct fs) ∧ fs.toList.map (fun f => (f.type, f.offset)) = [(3, 0), (31, 1)] := by
  have h : (match Try.prog.underlying 33 with | some (.struct fs) => fs.toList.map (fun f => (f.type, f.offset)) | _ => []) = [(3, 0), (31, 1)] := by kernel_rfl
  split at h
  · rename_i fs e; exact ⟨fs, e, h⟩
  · cases h
theorem under38 : ∃ fs, Try.prog.underlying 38 = some (.struct fs) ∧ fs.toList.map (fun f => (f.type, f.offset)) = [(3, 0), (3, 1), (31, 2)] := by
  have h : (match Try.prog.underlying 38 with | some (.struct fs) => fs.toList.map (fun f => (f.type, f.offset)) | _ => []) = [(3, 0), (3, 1), (31, 2)] := by kernel_rfl
  split at h
  · rename_i fs e; exact ⟨fs, e, h⟩
  · cases h
theorem under71 : ∃ fs, Try.prog.underlying 71 = some (.struct fs) ∧ fs.toList.map (fun f => (f.type, f.offset)) = [(3, 0), (2, 1), (9, 2), (3, 3), (29, 4)] := by
  have h : (match Try.prog.underlying 71 with | some (.struct fs) => fs.toList.map (fun f => (f.type, f.offset)) | _ => []) = [(3, 0), (2, 1), (9, 2), (3, 3), (29, 4)] := by kernel_rfl
  split at h
  · rename_i fs e; exact ⟨fs, e, h⟩
  · cases h

theorem flat_at {n : Nat} : ∀ (vs : List (List Value)) (k : Nat) (x : List Value), (∀ y ∈ vs, y.length = n) → vs[k]? = some x → ((vs.flatten.drop (k * n)).take n = x ∧ k * n + n ≤ vs.flatten.length) := by
  intro vs
  induction vs with
  | nil => intro k x _ h; cases h
  | cons v vs ih =>
    intro k x hn h
    have hv := hn v (by simp)
    cases k with
    | zero => cases h; simp [hv]
    | succ k =>
      obtain ⟨g1, g2⟩ := ih k x (fun y hy => hn y (by simp [hy])) h
      have e : (k + 1) * n = v.length + k * n := by rw [hv, Nat.succ_mul]; omega
      refine ⟨?_, ?_⟩
      · rw [List.flatten_cons, e, ← List.drop_drop, List.drop_left']
        · exact g1
        · rfl
      · rw [List.flatten_cons, List.length_append, e]; omega
theorem flat_take {α : Type} {f : α → List Value} {n : Nat} : ∀ (vs : List (List Value)) (xs : List α), (∀ y ∈ vs, y.length = n) → (∀ (k : Nat) x, xs[k]? = some x → vs[k]? = some (f x)) → (vs.flatten.take (xs.length * n) = xs.flatMap f ∧ xs.length * n ≤ vs.flatten.length) := by
  intro vs
  induction vs with
  | nil =>
    intro xs _ h
    cases xs with
    | nil => simp
    | cons x xs => have := h 0 x rfl; cases this
  | cons v vs ih =>
    intro xs hn h
    cases xs with
    | nil => simp
    | cons x xs =>
      have hv := hn v (by simp)
      have hx : v = f x := by have := h 0 x rfl; cases this; rfl
      obtain ⟨g1, g2⟩ := ih xs (fun y hy => hn y (by simp [hy])) (fun k y hk => h (k + 1) y hk)
      have e : (x :: xs).length * n = v.length + xs.length * n := by rw [hv, List.length_cons, Nat.succ_mul]; omega
      refine ⟨?_, ?_⟩
      · rw [List.flatten_cons, e, List.take_length_add_append, g1, List.flatMap_cons, hx]
      · rw [List.flatten_cons, List.length_append, e]; omega

section
variable {H : Type} {S : MS}
theorem rd_str {t : TypeId} (hu : Try.prog.underlying t = some .string) {cs : List Value} {d : DataW H} (h : RdS Try.prog S t cs d) : ∃ s, cs = [.string s] := by
  cases h with
  | string hu' _ => exact ⟨_, rfl⟩
  | bool hu' => rw [hu] at hu'; cases hu'
  | int hu' => rw [hu] at hu'; cases hu'
  | sliceNil hu' => rw [hu] at hu'; cases hu'
  | sliceZ hu' => rw [hu] at hu'; cases hu'
  | slice vs hu' => rw [hu] at hu'; cases hu'
  | struct hu' => rw [hu] at hu'; cases hu'
theorem rd_fields {t : TypeId} {sig : List (TypeId × Nat)} (hu : ∃ fs, Try.prog.underlying t = some (.struct fs) ∧ fs.toList.map (fun f => (f.type, f.offset)) = sig) {x : List Value} {d : DataW H} (h : RdS Try.prog S t x d) : x.length = Try.prog.cellsOf t ∧ ∀ (i : Nat) t' o, sig[i]? = some (t', o) → ∃ d' : DataW H, RdS Try.prog S t' ((x.drop o).take (Try.prog.cellsOf t')) d' := by
  obtain ⟨fs0, hu, hfs⟩ := hu
  cases h with
  | bool hu' => rw [hu] at hu'; cases hu'
  | int hu' => rw [hu] at hu'; cases hu'
  | string hu' _ => rw [hu] at hu'; cases hu'
  | sliceNil hu' => rw [hu] at hu'; cases hu'
  | sliceZ hu' => rw [hu] at hu'; cases hu'
  | slice vs hu' => rw [hu] at hu'; cases hu'
  | struct hu' hl hd hr =>
    rename_i fs ds
    rw [hu] at hu'; cases hu'
    refine ⟨hl, fun i t' o hi => ?_⟩
    rw [← hfs, List.getElem?_map] at hi
    cases hf : fs0.toList[i]? with
    | none => rw [hf] at hi; cases hi
    | some f =>
      rw [hf] at hi
      cases hi
      have hlt : i < ds.length := by rw [hd]; exact (List.getElem?_eq_some_iff.1 hf).1
      exact ⟨_, hr i f _ hf (List.getElem?_eq_getElem hlt)⟩

/-- the language's values, and what is within them -/
theorem rd_vals {t : TypeId} {cs : List Value} {d : DataW H} (h : RdS Try.prog S t cs d) : (t = 29 → ∃ aa an ac, cs = [.slice aa an ac] ∧ Vl S aa an ac) ∧ (t = 71 → ∃ v : V5, cs = v5L v ∧ Vl S v.fa v.fn v.fc) := by
  obtain ⟨f71, u71, s71⟩ := under71
  induction h with
  | bool hu' => exact ⟨fun e => (by subst e; rw [under29] at hu'; cases hu'), fun e => (by subst e; rw [u71] at hu'; cases hu')⟩
  | int hu' => exact ⟨fun e => (by subst e; rw [under29] at hu'; cases hu'), fun e => (by subst e; rw [u71] at hu'; cases hu')⟩
  | string hu' _ => exact ⟨fun e => (by subst e; rw [under29] at hu'; cases hu'), fun e => (by subst e; rw [u71] at hu'; cases hu')⟩
  | sliceNil hu' => exact ⟨fun e => ⟨_, _, _, rfl, .emp⟩, fun e => by subst e; rw [u71] at hu'; cases hu'⟩
  | sliceZ hu' => exact ⟨fun e => ⟨_, _, _, rfl, .emp⟩, fun e => by subst e; rw [u71] at hu'; cases hu'⟩
  | slice vs hu hcap hlen hmax he hs hvs hb hsz hr ih =>
    rename_i t e b len cap elems spare
    refine ⟨fun et => ?_, fun et => by subst et; rw [u71] at hu; cases hu⟩
    subst et
    rw [under29] at hu; cases hu
    rw [cells71] at hsz
    have hst : ∀ k, k < len → ∃ o : V5, vs[k]? = some (v5L o) ∧ Vl S o.fa o.fn o.fc := by
      intro k hk
      have hkv : k < vs.length := by omega
      have hkd : k < (elems ++ spare).length := by rw [List.length_append]; omega
      obtain ⟨s, h1, h2⟩ := (ih k _ _ (List.getElem?_eq_getElem hkv) (List.getElem?_eq_getElem hkd)).2 rfl
      exact ⟨s, by rw [List.getElem?_eq_getElem hkv, h1], h2⟩
    obtain ⟨xs, hxl, hx⟩ := list_of_each (p := fun k (s : V5) => vs[k]? = some (v5L s) ∧ Vl S s.fa s.fn s.fc) len hst
    have hg : ∀ i, i < len → xs[i]? = some ((xs[i]?).getD ⟨0, 0, ⟨⟨[]⟩⟩, 0, none, 0, 0⟩) := fun i hi => by
      rw [List.getElem?_eq_getElem (by omega)]; rfl
    refine ⟨_, _, _, rfl, .mk vs.flatten (fun i => (xs[i]?).getD ⟨0, 0, ⟨⟨[]⟩⟩, 0, none, 0, 0⟩) (list_of hb) (by unfold reachBytes at hmax; omega) (fun i hi => ?_) fun i hi => (hx i _ (hg i hi)).2⟩
    obtain ⟨g1, g2⟩ := flat_at vs i _ hsz (hx i _ (hg i hi)).1
    rw [partS_some _ _ _ g2, g1]
  | struct hu hl hd hr ih =>
    rename_i t fs cs ds
    refine ⟨fun et => (by subst et; rw [under29] at hu; cases hu), fun et => ?_⟩
    subst et
    rw [u71] at hu; cases hu
    rw [cells71] at hl
    have fld : ∀ (i : Nat) t' o, [(3, 0), (2, 1), (9, 2), (3, 3), (29, 4)][i]? = some (t', o) → ∃ d' : DataW H, RdS Try.prog S t' ((cs.drop o).take (Try.prog.cellsOf t')) d' ∧ (t' = 29 → ∃ aa an ac, (cs.drop o).take (Try.prog.cellsOf t') = [.slice aa an ac] ∧ Vl S aa an ac) := by
      intro i t' o hi
      rw [← s71, List.getElem?_map] at hi
      cases hf : f71.toList[i]? with
      | none => rw [hf] at hi; cases hi
      | some f =>
        rw [hf] at hi
        cases hi
        have hlt : i < ds.length := by rw [hd]; exact (List.getElem?_eq_some_iff.1 hf).1
        exact ⟨_, hr i f _ hf (List.getElem?_eq_getElem hlt), (ih i f _ hf (List.getElem?_eq_getElem hlt)).1⟩
    match cs, hl with
    | [a, b, c, e, g], _ =>
      obtain ⟨_, h0, _⟩ := fld 0 3 0 rfl
      obtain ⟨_, h1, _⟩ := fld 1 2 1 rfl
      obtain ⟨_, h2, _⟩ := fld 2 9 2 rfl
      obtain ⟨_, h3, _⟩ := fld 3 3 3 rfl
      obtain ⟨_, _, h4⟩ := fld 4 29 4 rfl
      have h4 := h4 rfl
      rw [cells3] at h0 h3
      rw [cells2] at h1
      rw [cells9] at h2
      rw [cells29] at h4
      obtain ⟨n0, e0, _⟩ := rd_int under3 h0
      obtain ⟨n1, e1, _⟩ := rd_int under2 h1
      obtain ⟨s2, e2⟩ := rd_str under9 h2
      obtain ⟨n3, e3, _⟩ := rd_int under3 h3
      obtain ⟨aa, an, ac, e4, hv⟩ := h4
      simp at e0 e1 e2 e3 e4
      subst e0 e1 e2 e3 e4
      exact ⟨⟨n0, n1, s2, n3, aa, an, ac⟩, rfl, hv⟩

theorem rd_event {x : List Value} {d : DataW H} (h : RdS Try.prog S 31 x d) : ∃ nm aa an ac, x = [.string nm, .slice aa an ac] ∧ Vl S aa an ac := by
  obtain ⟨hl, fld⟩ := rd_fields under31 h
  rw [cells31] at hl
  match x, hl with
  | [a, b], _ =>
    obtain ⟨_, h0⟩ := fld 0 9 0 rfl
    obtain ⟨_, h1⟩ := fld 1 29 1 rfl
    rw [cells9] at h0
    rw [cells29] at h1
    obtain ⟨s, e0⟩ := rd_str under9 h0
    obtain ⟨aa, an, ac, e1, hv⟩ := (rd_vals h1).1 rfl
    simp at e0 e1
    subst e0 e1
    exact ⟨_, _, _, _, rfl, hv⟩
theorem rd_timer {x : List Value} {d : DataW H} (h : RdS Try.prog S 38 x d) : ∃ o : Tm, x = tmL o ∧ Vl S o.aa o.an o.ac := by
  obtain ⟨hl, fld⟩ := rd_fields under38 h
  rw [cells38] at hl
  match x, hl with
  | [a, b, c, e], _ =>
    obtain ⟨_, h0⟩ := fld 0 3 0 rfl
    obtain ⟨_, h1⟩ := fld 1 3 1 rfl
    obtain ⟨_, h2⟩ := fld 2 31 2 rfl
    rw [cells3] at h0 h1
    rw [cells31] at h2
    obtain ⟨n0, e0, _⟩ := rd_int under3 h0
    obtain ⟨n1, e1, _⟩ := rd_int under3 h1
    obtain ⟨nm, aa, an, ac, e2, hv⟩ := rd_event h2
    simp at e0 e1 e2
    obtain ⟨e2, e3⟩ := e2
    subst e0 e1 e2 e3
    exact ⟨⟨n0, n1, nm, aa, an, ac⟩, rfl, hv⟩
theorem rd_plan {x : List Value} {d : DataW H} (h : RdS Try.prog S 33 x d) : ∃ o : Pln, x = pnL o ∧ Vl S o.aa o.an o.ac := by
  obtain ⟨hl, fld⟩ := rd_fields under33 h
  rw [cells33] at hl
  match x, hl with
  | [a, c, e], _ =>
    obtain ⟨_, h0⟩ := fld 0 3 0 rfl
    obtain ⟨_, h2⟩ := fld 1 31 1 rfl
    rw [cells3] at h0
    rw [cells31] at h2
    obtain ⟨n0, e0, _⟩ := rd_int under3 h0
    obtain ⟨nm, aa, an, ac, e2, hv⟩ := rd_event h2
    simp at e0 e2
    obtain ⟨e2, e3⟩ := e2
    subst e0 e2 e3
    exact ⟨⟨n0, nm, aa, an, ac⟩, rfl, hv⟩
theorem rd_timers {cs : List Value} {d : DataW H} (h : RdS Try.prog S 35 cs d) : ∃ fv fs, cs = [fv] ∧ Tms S fv fs := by
  cases h with
  | bool hu' => rw [under35s] at hu'; cases hu'
  | int hu' => rw [under35s] at hu'; cases hu'
  | string hu' _ => rw [under35s] at hu'; cases hu'
  | struct hu' => rw [under35s] at hu'; cases hu'
  | sliceNil hu' => exact ⟨_, [], rfl, rfl, rfl, by simp, .inl ⟨rfl, rfl⟩, fun x hx => by cases hx⟩
  | sliceZ hu' => exact ⟨_, [], rfl, rfl, rfl, by simp, .inr (.inl ⟨rfl, rfl⟩), fun x hx => by cases hx⟩
  | slice vs hu hcap hlen hmax he hs hvs hb hsz hr =>
    rename_i e b len cap elems spare
    rw [under35s] at hu; cases hu
    rw [cells38] at hsz
    have hst : ∀ k, k < len → ∃ o : Tm, vs[k]? = some (tmL o) ∧ Vl S o.aa o.an o.ac := by
      intro k hk
      have hkv : k < vs.length := by omega
      have hkd : k < (elems ++ spare).length := by rw [List.length_append]; omega
      obtain ⟨s, h1, h2⟩ := rd_timer (hr k _ _ (List.getElem?_eq_getElem hkv) (List.getElem?_eq_getElem hkd))
      exact ⟨s, by rw [List.getElem?_eq_getElem hkv, h1], h2⟩
    obtain ⟨xs, hxl, hx⟩ := list_of_each (p := fun k (s : Tm) => vs[k]? = some (tmL s) ∧ Vl S s.aa s.an s.ac) len hst
    obtain ⟨g1, g2⟩ := flat_take (f := tmL) vs xs hsz (fun k x hk => (hx k x hk).1)
    unfold reachBytes at hmax
    refine ⟨_, xs, rfl, by rw [lenSl_of, hxl], by rw [hxl]; rfl, by omega, .inr (.inr ⟨b, cap, vs.flatten, by rw [hxl], list_of hb, by omega, by unfold unk; omega, g2, g1⟩), fun x hx' => ?_⟩
    obtain ⟨k, hk⟩ := List.getElem?_of_mem hx'
    exact (hx k x hk).2
theorem rd_plans {cs : List Value} {d : DataW H} (h : RdS Try.prog S 42 cs d) : ∃ pv ps, cs = [pv] ∧ Pls S pv ps := by
  cases h with
  | bool hu' => rw [under42] at hu'; cases hu'
  | int hu' => rw [under42] at hu'; cases hu'
  | string hu' _ => rw [under42] at hu'; cases hu'
  | struct hu' => rw [under42] at hu'; cases hu'
  | sliceNil hu' => exact ⟨_, [], rfl, rfl, by simp, fun h => absurd rfl h, fun x hx => by cases hx⟩
  | sliceZ hu' => exact ⟨_, [], rfl, rfl, by simp, fun h => absurd rfl h, fun x hx => by cases hx⟩
  | slice vs hu hcap hlen hmax he hs hvs hb hsz hr =>
    rename_i e b len cap elems spare
    rw [under42] at hu; cases hu
    rw [cells33] at hsz
    have hst : ∀ k, k < len → ∃ o : Pln, vs[k]? = some (pnL o) ∧ Vl S o.aa o.an o.ac := by
      intro k hk
      have hkv : k < vs.length := by omega
      have hkd : k < (elems ++ spare).length := by rw [List.length_append]; omega
      obtain ⟨s, h1, h2⟩ := rd_plan (hr k _ _ (List.getElem?_eq_getElem hkv) (List.getElem?_eq_getElem hkd))
      exact ⟨s, by rw [List.getElem?_eq_getElem hkv, h1], h2⟩
    obtain ⟨xs, hxl, hx⟩ := list_of_each (p := fun k (s : Pln) => vs[k]? = some (pnL s) ∧ Vl S s.aa s.an s.ac) len hst
    obtain ⟨g1, g2⟩ := flat_take (f := pnL) vs xs hsz (fun k x hk => (hx k x hk).1)
    unfold reachBytes at hmax
    refine ⟨_, xs, rfl, by rw [lenSl_of, hxl], by omega, fun _ => ⟨b, cap, vs.flatten, by rw [hxl], list_of hb, g2, g1⟩, fun x hx' => ?_⟩
    obtain ⟨k, hk⟩ := List.getElem?_of_mem hx'
    exact (hx k x hk).2

/-- whatever reads so: the law tells true -/
theorem run5 (ds : List (DataW H)) (vs : List Value) (h : RdSAll Try.prog S [3, 3, 35, 42, 22] vs ds) : CallM Try.prog O 5 vs S fun v _ => v = .bool true := by
  have five : ∃ a b c d e d1 d2 d3 d4 d5, vs = [a, b, c, d, e] ∧ ds = [d1, d2, d3, d4, d5] := by
    rcases vs with _ | ⟨a, _ | ⟨b, _ | ⟨c, _ | ⟨d, _ | ⟨e, _ | ⟨f, vs⟩⟩⟩⟩⟩⟩ <;> rcases ds with _ | ⟨d1, _ | ⟨d2, _ | ⟨d3, _ | ⟨d4, _ | ⟨d5, _ | ⟨d6, ds⟩⟩⟩⟩⟩⟩ <;> first | exact h.elim | exact h.2.elim | exact h.2.2.elim | exact h.2.2.2.elim | exact h.2.2.2.2.elim | exact h.2.2.2.2.2.elim | exact ⟨_, _, _, _, _, _, _, _, _, _, rfl, rfl⟩
  obtain ⟨a, b, c, d, e, d1, d2, d3, d4, d5, rfl, rfl⟩ := five
  obtain ⟨⟨cs1, r1, k1⟩, ⟨cs2, r2, k2⟩, ⟨cs3, r3, k3⟩, ⟨cs4, r4, k4⟩, ⟨cs5, r5, k5⟩, _⟩ := h
  obtain ⟨n1, rfl, _⟩ := rd_int under3 r1
  obtain ⟨n2, rfl, _⟩ := rd_int under3 r2
  obtain ⟨fv, fs, rfl, hf⟩ := rd_timers r3
  obtain ⟨pv, ps, rfl, hp⟩ := rd_plans r4
  obtain ⟨tv, bs, rfl, hb⟩ := rd_by r5
  rcases k1 with ⟨⟨fs, hf⟩, _⟩ | ⟨_, e1⟩
  · rw [under3] at hf; cases hf
  rcases k2 with ⟨⟨fs, hf⟩, _⟩ | ⟨_, e2⟩
  · rw [under3] at hf; cases hf
  rcases k3 with ⟨⟨fs, hf⟩, _⟩ | ⟨_, e3⟩
  · rw [under35s] at hf; cases hf
  rcases k4 with ⟨⟨fs, hf⟩, _⟩ | ⟨_, e4⟩
  · rw [under42] at hf; cases hf
  rcases k5 with ⟨⟨fs, hf⟩, _⟩ | ⟨_, e5⟩
  · rw [under22] at hf; cases hf
  cases e1; cases e2; cases e3; cases e4; cases e5
  exact law5 n1 n2 hf hp hb
end
end Go.Proofs.Ythkmkfgfabjhnaa

