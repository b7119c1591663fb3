/-
  The walk through the journal's code: what its functions do to memory, part PyJ7. Nothing is asked.
-/
import Derived.Test.YtmfmbadfgnhonaaPyJ6
set_option linter.all false
namespace Go.Proofs.Ytmfmbadfgnhonaa
open Go Go.Ag
set_option linter.unusedVariables false
set_option maxRecDepth 100000

theorem js3 (d : Nat) (h e : Int) (a b c x : Value) (k : Bool) : (jouL d h e a b c k).set 3 x = jouL d h e x b c k := rfl
theorem js4 (d : Nat) (h e : Int) (a b c x : Value) (k : Bool) : (jouL d h e a b c k).set 4 x = jouL d h e a x c k := rfl
theorem jl4 (d : Nat) (h e : Int) (a b c : Value) (k : Bool) : (jouL d h e a b c k)[4]? = some b := rfl
theorem jlen (d : Nat) (h e : Int) (a b c : Value) (k : Bool) : (jouL d h e a b c k).length = 7 := rfl

noncomputable def loop10 (T : FT) (st : LoopState) : K := .loop ⟨st, none, ⟨T, 97⟩, [80], .region 13 (ro 10 13) false, blk10_1⟩

/-- while records are told: S0 is as it was ahead of the journal's struct (block S0.n) -/
structure I10 (S S0 : MS) (d half end' : Nat) (v tv : Value) (base : List UInt8) (rs : List (List UInt8)) (T : FT) (st : LoopState) (k : Nat) (S' : MS) : Prop where
  old : Old S0 S'
  n5 : S0.n + 5 ≤ S'.n
  b1 : S'.m (S0.n + 1) = some (.cells [.pointer (some ⟨S0.n, 0, none⟩)] 0)
  b2 : S'.m (S0.n + 2) = some (.cells [.bool (k == 0)] 0)
  b4 : S'.m (S0.n + 4) = some (loop10 T st)
  ex : ∃ bv rv rl, S'.m S0.n = some (.cells (jouL d half end' bv rv tv false) 0) ∧ (k = 0 ∨ RB S0 bv base) ∧ (∀ y, On bv y → On v y) ∧ SlF svF 1 S' (S0.n + 5) rv rl ∧ RBs S0 rl (rs.take (k - 1)) ∧ ∀ x ∈ rl, ∀ y, On x.v y → On v y

theorem I10.set {S S0 : MS} {d half end' : Nat} {v tv : Value} {base : List UInt8} {rs : List (List UInt8)} {T : FT} {st : LoopState} {k : Nat} {S' : MS} (h : I10 S S0 d half end' v tv base rs T st k S') (st' : LoopState) : I10 S S0 d half end' v tv base rs T st' k (S'.set (S0.n + 4) (loop10 T st')) := by
  have ne : ∀ x, x ≠ S0.n + 4 → (S'.set (S0.n + 4) (loop10 T st')).m x = S'.m x := fun x hx => by rw [set_m, if_neg hx]
  obtain ⟨bv, rv, rl, h1, h2, h3, h4, h5, h6⟩ := h.ex
  refine ⟨⟨h.old.1, fun y hy => by rw [ne y (by omega)]; exact h.old.2 y hy⟩, h.n5, by rw [ne _ (by omega)]; exact h.b1, by rw [ne _ (by omega)]; exact h.b2, by rw [set_m, if_pos rfl], bv, rv, rl, by rw [ne _ (by omega)]; exact h1, h2, h3, h4.keep1 fun y q hy _ => ne y fun e => ?_, h5, h6⟩
  have : Av rv y := SlF.av h4 (by omega)
  exact hy this

theorem step10 {S S0 : MS} {d half end' : Nat} {v tv : Value} {base : List UInt8} {rs : List (List UInt8)} {T : FT} (t9 : T.get 9 = .pointer (some ⟨S0.n + 1, 0, none⟩)) (t10 : T.get 10 = .pointer (some ⟨S0.n + 2, 0, none⟩)) (hsm : rs.length ≤ 100000)
    (hv : ∀ y, On v y → y < S0.n) (k : Nat) (S1 : MS) (r : List UInt8) (x : Value) (hr : (base :: rs)[k]? = some r) (wf : S1.WF) (hi : I10 S S0 d half end' v tv base rs T .ready k S1) (hx : RB S1 x r) (hon : ∀ y, On x y → On v y) :
    RoundM Try.prog O (S0.n + 4) [x] S1 fun v' S' => v' = .bool true ∧ I10 S S0 d half end' v tv base rs T .ready (k + 1) S' ∧ S'.m (S0.n + 3) = S1.m (S0.n + 3) ∧ ∀ y, On v y → S'.m y = S1.m y := by
  refine roundM_body (T := T.set x 80) hi.b4 rfl ?_
  refine m_reg ?_
  rw [reg10_13]
  simp (decide := true) only [FT.get_set, FT.setL, faS_ptr, nilS_ptr, nilS_func, nilS_yield, pickS_bool, ldS_ptr, list_cells, list_ro, partS_none, lenSl_of, lenStr_of, cvInt_of, aminmax_max, aminmax_min, abin_add, abin_sub, abin_mul, abin_eql, abin_neq, abin_lss, abin_leq, abin_gtr, abin_geq, aunary_not, aextract, Option.some.injEq, Prod.mk.injEq, Value.bool.injEq, exists_eq_left', exists_and_left, and_assoc, decide_eq_true_eq, decide_eq_false_iff_not, if_true, if_false, Nat.zero_add, Nat.add_zero, Option.bind_some, true_and, and_true, forall_const, true_implies, Bool.not_eq_true, Bool.false_eq_true, false_implies, ite_self, Nat.mul_one, ]
  refine ⟨_, hi.b4, rfl, ?_⟩
  have hi2 := hi.set .busy
  have hn5 := hi.n5
  have hx0 : RB S0 x r := hx.keepOn fun y hy => (hi.old.2 y (hv y (hon y hy))).symm
  obtain ⟨S2, hS2⟩ : ∃ S2, S2 = S1.set (S0.n + 4) (loop10 T .busy) := ⟨_, rfl⟩
  have wf2 : S2.WF := fun y q hq => by
    rw [hS2, set_m] at hq
    by_cases e : y = S0.n + 4
    · subst e; rw [hS2, set_n]; omega
    · rw [if_neg e] at hq; rw [hS2, set_n]; exact wf y q hq
  have e12 : ∀ y, y ≠ S0.n + 4 → S2.m y = S1.m y := fun y hy => by rw [hS2, set_m, if_neg hy]
  rw [← hS2] at hi2
  show MWp Try.prog O 97 blk10_1 _ (S1.set (S0.n + 4) (loop10 T .busy)) _
  rw [← hS2]
  have hn2 : S2.n = S1.n := by rw [hS2, set_n]
  obtain ⟨bv, rv, rl, h1, h2, h3, h4, h5, h6⟩ := hi2.ex
  unfold blk10_1
  refine m_block (m_seq (m_seq (m_reg ?_)))
  rw [reg10_14]
  simp (decide := true) only [FT.get_set, FT.setL, faS_ptr, nilS_ptr, nilS_func, nilS_yield, pickS_bool, ldS_ptr, list_cells, list_ro, partS_none, lenSl_of, lenStr_of, cvInt_of, aminmax_max, aminmax_min, abin_add, abin_sub, abin_mul, abin_eql, abin_neq, abin_lss, abin_leq, abin_gtr, abin_geq, aunary_not, aextract, Option.some.injEq, Prod.mk.injEq, Value.bool.injEq, exists_eq_left', exists_and_left, and_assoc, decide_eq_true_eq, decide_eq_false_iff_not, if_true, if_false, Nat.zero_add, Nat.add_zero, Option.bind_some, true_and, and_true, forall_const, true_implies, Bool.not_eq_true, Bool.false_eq_true, false_implies, ite_self, Nat.mul_one, t10, list_of hi2.b2, List.getElem?_cons_zero]
  cases k with
  | zero =>
    refine m_cond (t := true) (by simp [evalT, FT.get_set, FT.setL, faS_ptr, nilS_ptr, nilS_func, nilS_yield, pickS_bool, ldS_ptr, list_cells, list_ro, partS_none, lenSl_of, lenStr_of, cvInt_of, aminmax_max, aminmax_min, abin_add, abin_sub, abin_mul, abin_eql, abin_neq, abin_lss, abin_leq, abin_gtr, abin_geq, aunary_not, aextract]) (fun _ => ?_) tf
    refine m_seq (m_reg ?_)
    rw [reg10_15]
    obtain ⟨S3, u1, u2, u3, u4⟩ := st_one (off := 3) (v := x) h1 (by rw [jlen]; decide) hx.one.1 hx.one.2
    rw [js3] at u2
    have hb2 : S3.m (S0.n + 2) = some (.cells [.bool true] 0) := by rw [u4 _ (by omega)]; exact hi2.b2
    obtain ⟨S4, w1, w2, w3, w4⟩ := st_one (off := 0) (v := .bool false) hb2 (by decide) rfl rfl
    simp (decide := true) only [FT.get_set, FT.setL, faS_ptr, nilS_ptr, nilS_func, nilS_yield, pickS_bool, ldS_ptr, list_cells, list_ro, partS_none, lenSl_of, lenStr_of, cvInt_of, aminmax_max, aminmax_min, abin_add, abin_sub, abin_mul, abin_eql, abin_neq, abin_lss, abin_leq, abin_gtr, abin_geq, aunary_not, aextract, Option.some.injEq, Prod.mk.injEq, Value.bool.injEq, exists_eq_left', exists_and_left, and_assoc, decide_eq_true_eq, decide_eq_false_iff_not, if_true, if_false, Nat.zero_add, Nat.add_zero, Option.bind_some, true_and, and_true, forall_const, true_implies, Bool.not_eq_true, Bool.false_eq_true, false_implies, ite_self, Nat.mul_one, t9, t10, list_of hi2.b1, List.getElem?_cons_zero]
    refine ⟨S3, u1, S4, w1, m_exit ?_⟩
    have hb4 : S4.m (S0.n + 4) = some (loop10 T .busy) := by rw [w4 _ (by omega), u4 _ (by omega)]; exact hi2.b4
    simp (decide := true) only [if_false, if_true]
    have e4 : ∀ y, y < S0.n → S4.m y = S2.m y := fun y hy => by rw [w4 y (by omega), u4 y (by omega)]
    have r0 : r = base := by simp at hr; exact hr.symm
    have hi4 : I10 S S0 d half end' v tv base rs T .busy 1 S4 := by
      refine ⟨⟨by rw [w3, u3]; exact hi2.old.1, fun y hy => by rw [e4 y hy]; exact hi2.old.2 y hy⟩, by rw [w3, u3]; exact hi2.n5, by rw [w4 _ (by omega), u4 _ (by omega)]; exact hi2.b1, w2, hb4, x, rv, rl, by rw [w4 _ (by omega)]; exact u2, .inr (r0 ▸ hx0), hon, h4.keep1 fun y q hy _ => ?_, h5, h6⟩
      have hya : S0.n + 5 ≤ y := by
        by_cases hlt : y < S0.n + 5
        · exact absurd (SlF.av h4 hlt) hy
        · omega
      rw [w4 y (by omega), u4 y (by omega)]
    refine ⟨_, hb4, hi4.set .ready, ?_, fun y hy => ?_⟩
    · rw [set_m, if_neg (by omega), w4 _ (by omega), u4 _ (by omega), e12 _ (by omega)]
    · have := hv y hy
      rw [set_m, if_neg (by omega), e4 y this, e12 y (by omega)]
  | succ k =>
    refine m_cond (t := false) (by simp [evalT, FT.get_set, FT.setL, faS_ptr, nilS_ptr, nilS_func, nilS_yield, pickS_bool, ldS_ptr, list_cells, list_ro, partS_none, lenSl_of, lenStr_of, cvInt_of, aminmax_max, aminmax_min, abin_add, abin_sub, abin_mul, abin_eql, abin_neq, abin_lss, abin_leq, abin_gtr, abin_geq, aunary_not, aextract]) ff (fun _ => m_skip ?_)
    simp only
    refine m_draw ?_
    rw [reg10_16]
    obtain ⟨s, rfl⟩ := hx.sv
    have hbs : bsS S2 1 1 [.slice none 0 0] [(0, s.v)] = some (.slice (some ⟨S2.n, 0, none⟩) 1 1, S2.fresh [s.v] 1) := bsS_one S2 1 _ s.v rfl rfl
    have wf3 := wf_fresh' wf2 [s.v] 1
    have f3 := old_fresh S2 [s.v] 1
    have hnew : firstCellsM (S2.fresh [s.v] 1) 1 [s].length (.slice (some ⟨S2.n, 0, none⟩) 1 1) = some ([s].flatMap svF) := by
      exact (first_of (sz := 1) (n := 1) (len := 1) (cap := 1) (off := 0) (list_of (fresh_at S2 [s.v] 1)) (Nat.le_refl _) (by decide) (by simp)).trans rfl
    have h43 : SlF svF 1 (S2.fresh [s.v] 1) (S0.n + 5) rv rl := h4.keep fun y q hq => f3.2 y (wf2 y q hq)
    have hrl : rl.length ≤ 100000 := by rw [h5.1, List.length_take]; omega
    obtain ⟨rv', S4, a1, a2, a3, a4, a5⟩ := h43.app2 (bytes := 24) (z := [.slice none 0 0]) sv_len sv_one (by decide) (x := .slice (some ⟨S2.n, 0, none⟩) 1 1) (new := [s]) wf3 (by simp only [fresh_n]; omega) rfl hnew (by simp; omega) (by simp; omega)
    have e4 : ∀ y, y < S0.n + 5 → S4.m y = S2.m y := fun y hy => by rw [a4 y (by simp only [fresh_n]; omega) (SlF.av h43 hy), f3.2 y (by omega)]
    have hb1 : S4.m (S0.n + 1) = some (.cells [.pointer (some ⟨S0.n, 0, none⟩)] 0) := by rw [e4 _ (by omega)]; exact hi2.b1
    have hj4 : S4.m S0.n = some (.cells (jouL d half end' bv rv tv false) 0) := by rw [e4 _ (by omega)]; exact h1
    have hone := SlF.one a2
    obtain ⟨S5, u1, u2, u3, u4⟩ := st_one (off := 4) (v := rv') hj4 (by rw [jlen]; decide) hone.1 hone.2
    rw [js4] at u2
    simp (decide := true) only [FT.get_set, FT.setL, faS_ptr, nilS_ptr, nilS_func, nilS_yield, pickS_bool, ldS_ptr, list_cells, list_ro, partS_none, lenSl_of, lenStr_of, cvInt_of, aminmax_max, aminmax_min, abin_add, abin_sub, abin_mul, abin_eql, abin_neq, abin_lss, abin_leq, abin_gtr, abin_geq, aunary_not, aextract, Option.some.injEq, Prod.mk.injEq, Value.bool.injEq, exists_eq_left', exists_and_left, and_assoc, decide_eq_true_eq, decide_eq_false_iff_not, if_true, if_false, Nat.zero_add, Nat.add_zero, Option.bind_some, true_and, and_true, forall_const, true_implies, Bool.not_eq_true, Bool.false_eq_true, false_implies, ite_self, Nat.mul_one, t9, list_of hi2.b1, list_of hb1, list_of h1, jl4, List.getElem?_cons_zero, hbs, a1, veq_ptr]
    refine ⟨S5, u1, ?_⟩
    have e5 : ∀ y, y < S0.n + 5 → y ≠ S0.n → S5.m y = S2.m y := fun y hy hne => by rw [u4 y hne, e4 y hy]
    have hb4 : S5.m (S0.n + 4) = some (loop10 T .busy) := by rw [e5 _ (by omega) (by omega)]; exact hi2.b4
    simp only [fresh_n] at a3
    have hri : rs[k]? = some r := by simpa using hr
    have hi5 : I10 S S0 d half end' v tv base rs T .busy (k + 1 + 1) S5 := by
      refine ⟨⟨by rw [u3]; have := hi2.old.1; omega, fun y hy => by rw [e5 y (by omega) (by omega)]; exact hi2.old.2 y hy⟩, by rw [u3]; omega, by rw [e5 _ (by omega) (by omega)]; exact hi2.b1, by rw [e5 _ (by omega) (by omega)]; exact hi2.b2, hb4, bv, rv', rl ++ [s], u2, ?_, h3, a2.keep1 fun y q hy _ => ?_, ?_, fun x hx => ?_⟩
      · rcases h2 with h2 | h2
        · cases h2
        · exact .inr h2
      · exact u4 y fun e => hy (SlF.av a2 (by omega))
      · have htk : rs.take (k + 1 + 1 - 1) = rs.take k ++ [r] := by rw [show k + 1 + 1 - 1 = k + 1 by omega, List.take_add_one, hri]; rfl
        have h51 := h5.1
        rw [show k + 1 - 1 = k by omega] at h5 h51
        refine ⟨by rw [htk, List.length_append, List.length_append, h51]; rfl, fun i x r' hx hr' => ?_⟩
        rw [htk] at hr'
        by_cases hil : i < rl.length
        · rw [List.getElem?_append_left hil] at hx
          rw [List.getElem?_append_left (by rw [← h51]; exact hil)] at hr'
          exact h5.2 i x r' hx hr'
        · rw [List.getElem?_append_right (by omega)] at hx
          rw [List.getElem?_append_right (by rw [← h51]; omega), ← h51] at hr'
          obtain ⟨e1, e2⟩ := List.getElem?_eq_some_iff.1 hx
          have : i - rl.length = 0 := by simp at e1; omega
          rw [this] at hx hr'
          cases hx; cases hr'
          exact hx0
      · rcases List.mem_append.1 hx with hx | hx
        · exact h6 x hx
        · have : x = s := by simpa using hx
          subst this; exact hon
    refine ⟨_, hb4, hi5.set .ready, ?_, fun y hy => ?_⟩
    · rw [set_m, if_neg (by omega), e5 _ (by omega) (by omega), e12 _ (by omega)]
    · have := hv y hy
      rw [set_m, if_neg (by omega), e5 y (by omega) (by omega), e12 y (by omega)]
end Go.Proofs.Ytmfmbadfgnhonaa
namespace Go.Proofs.Ytmfmbadfgnhonaa
open Go Go.Ag
set_option linter.unusedVariables false
set_option maxRecDepth 100000

/-- the range over the records -/
theorem range10 {S0 : MS} {d half end' : Nat} {v tv : Value} {base : List UInt8} {rs : List (List UInt8)} {T : FT} (t9 : T.get 9 = .pointer (some ⟨S0.n + 1, 0, none⟩)) (t10 : T.get 10 = .pointer (some ⟨S0.n + 2, 0, none⟩)) (t79 : T.get 79 = .func (.func 45) #[] #[.pointer (some ⟨S0.n + 3, 0, none⟩)])
    (hsm : liveN base rs ≤ 400000) (hv : ∀ y, On v y → y < S0.n) {S6 : MS} (hn : S6.n = S0.n + 4) (hold : Old S0 S6) (hj : S6.m S0.n = some (.cells (jouL d half end' (.slice none 0 0) (.slice none 0 0) tv false) 0)) (hb1 : S6.m (S0.n + 1) = some (.cells [.pointer (some ⟨S0.n, 0, none⟩)] 0)) (hb2 : S6.m (S0.n + 2) = some (.cells [.bool true] 0)) (hb3 : S6.m (S0.n + 3) = some (.cells [v] 0)) (hrb : RB S6 v (allB base rs)) :
    MWp Try.prog O 97 blk10_0 T S6 fun x T' S' => x = .normal ∧ T' = T ∧ I10 S0 S0 d half end' v tv base rs T .exhausted (rs.length + 1) S' := by
  unfold blk10_0
  refine m_block (m_rangeFunc rfl ?_)
  rw [show evalT T (.tmp 79) = .func (.func 45) #[] #[.pointer (some ⟨S0.n + 3, 0, none⟩)] from t79]
  show CallM Try.prog O 45 [.func (.yield (S6.n)) #[] #[], .pointer (some ⟨S0.n + 3, 0, none⟩)] _ _
  rw [hn]
  have hl3 := hsm
  unfold liveN at hl3
  have hlen := wsum_len rs
  have hfl : (base :: rs).flatMap laid = allB base rs := by rw [List.flatMap_cons]; rfl
  have hpu : ∀ x, x < S0.n + 4 → (S6.push (loop10 T .ready)).m x = S6.m x := fun x hx => by rw [push_m, if_neg (by omega)]
  have i0 : I10 S0 S0 d half end' v tv base rs T .ready 0 (S6.push (loop10 T .ready)) := by
    refine ⟨⟨by rw [push_n]; omega, fun y hy => by rw [hpu y (by omega)]; exact hold.2 y hy⟩, by rw [push_n]; omega, by rw [hpu _ (by omega)]; exact hb1, by rw [hpu _ (by omega)]; exact hb2, by rw [push_m, hn, if_pos rfl], .slice none 0 0, .slice none 0 0, [], by rw [hpu _ (by omega)]; exact hj, .inl rfl, ?_, .non, ⟨rfl, fun i x r hx => by cases hx⟩, fun x hx => by cases hx⟩
    rintro y ⟨o, n, c, e⟩
    cases e
  have hwf : ∀ {k S'}, I10 S0 S0 d half end' v tv base rs T .ready k S' → True := fun _ => trivial
  refine CallM.mono (parts45 (box := S0.n + 3) (l := S0.n + 4) (v := v) (rs := base :: rs) (by rw [wsum]; omega) (fun k S' => I10 S0 S0 d half end' v tv base rs T .ready k S') i0 ((hpu _ (by omega)).trans hb3) (hfl ▸ hrb.keepOn fun y hy => hpu y (by have := hv y hy; omega)) ?_ ?_ ?_) ?_
  · intro k S1 S2 hi hx hn2
    obtain ⟨bv, rv, rl, h1, h2, h3, h4, h5, h6⟩ := hi.ex
    refine ⟨⟨by rw [hn2]; exact hi.old.1, fun y hy => by rw [hx y (by omega)]; exact hi.old.2 y hy⟩, by rw [hn2]; exact hi.n5, by rw [hx _ (by omega)]; exact hi.b1, by rw [hx _ (by omega)]; exact hi.b2, by rw [hx _ (by omega)]; exact hi.b4, bv, rv, rl, by rw [hx _ (by omega)]; exact h1, h2, h3, h4.keep1 fun y q hy _ => hx y fun e => ?_, h5, h6⟩
    exact hy (SlF.av h4 (by omega))
  · intro ho
    have := hv _ ho
    omega
  · intro k S1 r x hr wf hi hx hon
    exact step10 t9 t10 (by omega) hv k S1 r x hr wf hi hx hon
  · intro _ S' hi
    have hi : I10 S0 S0 d half end' v tv base rs T .ready (rs.length + 1) S' := hi
    refine ⟨_, hi.b4, by simp, ?_⟩
    exact ⟨rfl, rfl, hi.set .exhausted⟩

theorem open10 {X : Nat → Prop} {S : MS} {d : Nat} {D : DK} {c : Nat → List UInt8} (h : IsD S d D) (hc : Holds S D c) (hcut : D.cut = false) (hn : 64 ≤ D.made.length ∧ D.made.length ≤ 2000) {half end' : Nat} {base : List UInt8} {rs : List (List UInt8)} (hs : Says D.made.length c half end' base rs) (hX : ∀ y, X y → y < S.n) {Q : Value → MS → Prop}
    (hq : ∀ j rv S', Old S S' → S.n ≤ j → (∀ y, ¬ Av rv y → S.n ≤ y) → JJ X S' d D j rv half end' base rs false → Q (.tuple #[.pointer (some ⟨j, 0, none⟩), .int .i64 0]) S') : CallM Try.prog O 10 [.pointer (some ⟨d, 0, none⟩)] S Q := by
  refine callM_wf fun wf => ?_
  refine callM_body (fnIs is10 body10 res10) (O_none (by decide)) (by simp) ?_
  refine m_seq (m_reg ?_)
  rw [reg10_0]
  refine m_scope (m_seq (m_reg ?_))
  rw [reg10_1]
  simp (decide := true) only [FT.get_set, FT.setL, faS_ptr, nilS_ptr, nilS_func, nilS_yield, pickS_bool, ldS_ptr, list_cells, list_ro, partS_none, lenSl_of, lenStr_of, cvInt_of, aminmax_max, aminmax_min, abin_add, abin_sub, abin_mul, abin_eql, abin_neq, abin_lss, abin_leq, abin_gtr, abin_geq, aunary_not, aextract, Option.some.injEq, Prod.mk.injEq, Value.bool.injEq, exists_eq_left', exists_and_left, and_assoc, decide_eq_true_eq, decide_eq_false_iff_not, if_true, if_false, Nat.zero_add, Nat.add_zero, Option.bind_some, true_and, and_true, forall_const, true_implies, Bool.not_eq_true, Bool.false_eq_true, false_implies, ite_self, Nat.mul_one, ]
  refine readP h hc (i := 0) (by omega) (fun hx => by rw [hcut] at hx; cases hx) fun _ => ?_
  obtain ⟨S1, hS1⟩ : ∃ S1, S1 = S.fresh (bL (c 0)) 1 := ⟨_, rfl⟩
  have f1 : Old S S1 := by rw [hS1]; exact old_fresh _ _ _
  have hl0 : (c 0).length = 256 := by rw [hs.c0, headB_len]
  have rb : RB S1 (.slice (some ⟨S.n, 0, none⟩) 256 256) (c 0) := RB.block (es := 1) (by rw [hS1]; exact fresh_at _ _ _) hl0
  have hI : IsD S1 d D := h.old' wf f1
  have wf1 : S1.WF := by rw [hS1]; exact wf_fresh' wf _ _
  have hc1 := hc.old wf f1
  rw [← hS1]
  simp (decide := true) only [FT.get_set, FT.setL, faS_ptr, nilS_ptr, nilS_func, nilS_yield, pickS_bool, ldS_ptr, list_cells, list_ro, partS_none, lenSl_of, lenStr_of, cvInt_of, aminmax_max, aminmax_min, abin_add, abin_sub, abin_mul, abin_eql, abin_neq, abin_lss, abin_leq, abin_gtr, abin_geq, aunary_not, aextract, Option.some.injEq, Prod.mk.injEq, Value.bool.injEq, exists_eq_left', exists_and_left, and_assoc, decide_eq_true_eq, decide_eq_false_iff_not, if_true, if_false, Nat.zero_add, Nat.add_zero, Option.bind_some, true_and, and_true, forall_const, true_implies, Bool.not_eq_true, Bool.false_eq_true, false_implies, ite_self, Nat.mul_one, List.getElem?_cons_zero, List.getElem?_cons_succ]
  refine m_seq (m_seq (m_reg ?_))
  rw [reg10_2]
  simp (decide := true) only [FT.get_set, FT.setL, faS_ptr, nilS_ptr, nilS_func, nilS_yield, pickS_bool, ldS_ptr, list_cells, list_ro, partS_none, lenSl_of, lenStr_of, cvInt_of, aminmax_max, aminmax_min, abin_add, abin_sub, abin_mul, abin_eql, abin_neq, abin_lss, abin_leq, abin_gtr, abin_geq, aunary_not, aextract, Option.some.injEq, Prod.mk.injEq, Value.bool.injEq, exists_eq_left', exists_and_left, and_assoc, decide_eq_true_eq, decide_eq_false_iff_not, if_true, if_false, Nat.zero_add, Nat.add_zero, Option.bind_some, true_and, and_true, forall_const, true_implies, Bool.not_eq_true, Bool.false_eq_true, false_implies, ite_self, Nat.mul_one, bne_self_eq_false]
  refine m_cond (t := false) (by simp [evalT, FT.get_set, FT.setL, faS_ptr, nilS_ptr, nilS_func, nilS_yield, pickS_bool, ldS_ptr, list_cells, list_ro, partS_none, lenSl_of, lenStr_of, cvInt_of, aminmax_max, aminmax_min, abin_add, abin_sub, abin_mul, abin_eql, abin_neq, abin_lss, abin_leq, abin_gtr, abin_geq, aunary_not, aextract]) ff (fun _ => m_skip ?_)
  simp only
  refine m_seq (m_draw ?_)
  rw [reg10_4]
  obtain ⟨v8, a1, a2⟩ := rb.sub (i := 8) (j := 256) (low := some (.int .i64 ((8 : Nat) : Int))) (high := none) (by omega) (by omega) (.inr rfl) (.inl ⟨rfl, hl0.symm⟩)
  obtain ⟨v16, b1, b2⟩ := rb.sub (i := 16) (j := 256) (low := some (.int .i64 ((16 : Nat) : Int))) (high := none) (by omega) (by omega) (.inr rfl) (.inl ⟨rfl, hl0.symm⟩)
  have a1' : slS 1 S1 (.slice (some ⟨S.n, 0, none⟩) 256 256) (some (.int .i64 8)) none none = some v8 := a1
  have b1' : slS 1 S1 (.slice (some ⟨S.n, 0, none⟩) 256 256) (some (.int .i64 16)) none none = some v16 := b1
  have hh := hs.hh
  have hle := hs.le
  have hen := hs.he
  have h8 : 8 ≤ end' := by rw [hen]; unfold liveN; omega
  have hsmall : end' ≤ 255744 := by omega
  simp (decide := true) only [FT.get_set, FT.setL, faS_ptr, nilS_ptr, nilS_func, nilS_yield, pickS_bool, ldS_ptr, list_cells, list_ro, partS_none, lenSl_of, lenStr_of, cvInt_of, aminmax_max, aminmax_min, abin_add, abin_sub, abin_mul, abin_eql, abin_neq, abin_lss, abin_leq, abin_gtr, abin_geq, aunary_not, aextract, Option.some.injEq, Prod.mk.injEq, Value.bool.injEq, exists_eq_left', exists_and_left, and_assoc, decide_eq_true_eq, decide_eq_false_iff_not, if_true, if_false, Nat.zero_add, Nat.add_zero, Option.bind_some, true_and, and_true, forall_const, true_implies, Bool.not_eq_true, Bool.false_eq_true, false_implies, ite_self, Nat.mul_one, a1']
  refine read36 half (by omega) a2 (by rw [hs.c0]; exact headB_8 _ _) ?_
  simp (decide := true) only [FT.get_set, FT.setL, faS_ptr, nilS_ptr, nilS_func, nilS_yield, pickS_bool, ldS_ptr, list_cells, list_ro, partS_none, lenSl_of, lenStr_of, cvInt_of, aminmax_max, aminmax_min, abin_add, abin_sub, abin_mul, abin_eql, abin_neq, abin_lss, abin_leq, abin_gtr, abin_geq, aunary_not, aextract, Option.some.injEq, Prod.mk.injEq, Value.bool.injEq, exists_eq_left', exists_and_left, and_assoc, decide_eq_true_eq, decide_eq_false_iff_not, if_true, if_false, Nat.zero_add, Nat.add_zero, Option.bind_some, true_and, and_true, forall_const, true_implies, Bool.not_eq_true, Bool.false_eq_true, false_implies, ite_self, Nat.mul_one, b1', b2.veq]
  refine read36 end' (by omega) b2 (by rw [hs.c0]; exact headB_16 _ _) ?_
  refine m_seq (m_seq (m_reg (g10_ok wf1 hI hn (by simp [FT.get_set, FT.setL, faS_ptr, nilS_ptr, nilS_func, nilS_yield, pickS_bool, ldS_ptr, list_cells, list_ro, partS_none, lenSl_of, lenStr_of, cvInt_of, aminmax_max, aminmax_min, abin_add, abin_sub, abin_mul, abin_eql, abin_neq, abin_lss, abin_leq, abin_gtr, abin_geq, aunary_not, aextract]) (by simp [FT.get_set, FT.setL, faS_ptr, nilS_ptr, nilS_func, nilS_yield, pickS_bool, ldS_ptr, list_cells, list_ro, partS_none, lenSl_of, lenStr_of, cvInt_of, aminmax_max, aminmax_min, abin_add, abin_sub, abin_mul, abin_eql, abin_neq, abin_lss, abin_leq, abin_gtr, abin_geq, aunary_not, aextract]) (by simp [FT.get_set, FT.setL, faS_ptr, nilS_ptr, nilS_func, nilS_yield, pickS_bool, ldS_ptr, list_cells, list_ro, partS_none, lenSl_of, lenStr_of, cvInt_of, aminmax_max, aminmax_min, abin_add, abin_sub, abin_mul, abin_eql, abin_neq, abin_lss, abin_leq, abin_gtr, abin_geq, aunary_not, aextract]) (by simp [FT.get_set, FT.setL, faS_ptr, nilS_ptr, nilS_func, nilS_yield, pickS_bool, ldS_ptr, list_cells, list_ro, partS_none, lenSl_of, lenStr_of, cvInt_of, aminmax_max, aminmax_min, abin_add, abin_sub, abin_mul, abin_eql, abin_neq, abin_lss, abin_leq, abin_gtr, abin_geq, aunary_not, aextract]) (hs.c0 ▸ rb) hs.hh h8 hs.le fun T' S2 f2 t0 t4 t6 t7 t57 => ?_)))
  simp only [FT.get_set, FT.setL] at t0 t4 t6 t7
  simp (decide := true) only [if_false, if_true] at t0 t4 t6 t7
  refine m_cond (t := false) t57 ff (fun _ => m_skip ?_)
  simp only
  have hI2 := hI.old' wf1 f2
  have hc2 := hc1.old wf1 f2
  refine m_wf fun wf2 => m_seq (m_reg ?_)
  rw [reg10_7]
  simp (decide := true) only [FT.get_set, FT.setL, faS_ptr, nilS_ptr, nilS_func, nilS_yield, pickS_bool, ldS_ptr, list_cells, list_ro, partS_none, lenSl_of, lenStr_of, cvInt_of, aminmax_max, aminmax_min, abin_add, abin_sub, abin_mul, abin_eql, abin_neq, abin_lss, abin_leq, abin_gtr, abin_geq, aunary_not, aextract, Option.some.injEq, Prod.mk.injEq, Value.bool.injEq, exists_eq_left', exists_and_left, and_assoc, decide_eq_true_eq, decide_eq_false_iff_not, if_true, if_false, Nat.zero_add, Nat.add_zero, Option.bind_some, true_and, and_true, forall_const, true_implies, Bool.not_eq_true, Bool.false_eq_true, false_implies, ite_self, Nat.mul_one, t0, t6, t7]
  refine callM_wf_post (bytes38 hI2 hc2 hcut hs.hh (by omega) hn.2 hs.le fun v S3 f3 rv3 on3 wf3 => ?_)
  rw [hs.all] at rv3
  have hal : (allB base rs).length = end' := by rw [allB_len, hen]
  simp (decide := true) only [FT.get_set, FT.setL, faS_ptr, nilS_ptr, nilS_func, nilS_yield, pickS_bool, ldS_ptr, list_cells, list_ro, partS_none, lenSl_of, lenStr_of, cvInt_of, aminmax_max, aminmax_min, abin_add, abin_sub, abin_mul, abin_eql, abin_neq, abin_lss, abin_leq, abin_gtr, abin_geq, aunary_not, aextract, Option.some.injEq, Prod.mk.injEq, Value.bool.injEq, exists_eq_left', exists_and_left, and_assoc, decide_eq_true_eq, decide_eq_false_iff_not, if_true, if_false, Nat.zero_add, Nat.add_zero, Option.bind_some, true_and, and_true, forall_const, true_implies, Bool.not_eq_true, Bool.false_eq_true, false_implies, ite_self, Nat.mul_one, List.getElem?_cons_zero, List.getElem?_cons_succ]
  refine m_seq (m_seq (m_reg ?_))
  rw [reg10_8]
  simp (decide := true) only [FT.get_set, FT.setL, faS_ptr, nilS_ptr, nilS_func, nilS_yield, pickS_bool, ldS_ptr, list_cells, list_ro, partS_none, lenSl_of, lenStr_of, cvInt_of, aminmax_max, aminmax_min, abin_add, abin_sub, abin_mul, abin_eql, abin_neq, abin_lss, abin_leq, abin_gtr, abin_geq, aunary_not, aextract, Option.some.injEq, Prod.mk.injEq, Value.bool.injEq, exists_eq_left', exists_and_left, and_assoc, decide_eq_true_eq, decide_eq_false_iff_not, if_true, if_false, Nat.zero_add, Nat.add_zero, Option.bind_some, true_and, and_true, forall_const, true_implies, Bool.not_eq_true, Bool.false_eq_true, false_implies, ite_self, Nat.mul_one, bne_self_eq_false]
  refine m_cond (t := false) (by simp [evalT, FT.get_set, FT.setL, faS_ptr, nilS_ptr, nilS_func, nilS_yield, pickS_bool, ldS_ptr, list_cells, list_ro, partS_none, lenSl_of, lenStr_of, cvInt_of, aminmax_max, aminmax_min, abin_add, abin_sub, abin_mul, abin_eql, abin_neq, abin_lss, abin_leq, abin_gtr, abin_geq, aunary_not, aextract]) ff (fun _ => m_skip ?_)
  simp only
  refine m_seq (m_reg ?_)
  rw [reg10_10]
  have w1 : (end' : Int).tdiv 256 = ((end' / 256 : Nat) : Int) := by rw [Int.tdiv_eq_ediv_of_nonneg (by omega)]; rfl
  have w2 : IntKind.i64.wrap ((end' / 256 : Nat) : Int) = ((end' / 256 : Nat) : Int) := wrap_i64 (by omega) (by omega)
  have w3 : IntKind.i64.wrap (((end' / 256 : Nat) : Int) * 256) = ((end' / 256 * 256 : Nat) : Int) := by rw [wrap_i64 (by omega) (by omega)]; omega
  have q1 : abin Try.prog .quo 3 (.tmp 72) (.const (.int .i64 256)) (.int .i64 (end' : Int)) (.int .i64 256) = some (.int .i64 ((end' / 256 : Nat) : Int)) := by rw [abin_quo _ _ _ _ _ _ _ (by decide), w1, w2]
  obtain ⟨tv, c1, c2⟩ := rv3.sub (i := end' / 256 * 256) (j := end') (low := some (.int .i64 ((end' / 256 * 256 : Nat) : Int))) (high := none) (by omega) (by omega) (.inr rfl) (.inl ⟨rfl, hal.symm⟩)
  rw [List.take_of_length_le (by rw [List.length_drop]; omega)] at c2
  have hct : ∀ y, On tv y → On v y := fun y hy => slS_on c1 hy
  have bd := bd_j d half end' tv c2.one.1
  have hcl : (Value.cells (.agg (jouL d half end' (.slice none 0 0) (.slice none 0 0) tv false).toArray)).toList = jouL d half end' (.slice none 0 0) (.slice none 0 0) tv false := rfl
  have hj3 := fresh_at S3 (jouL d half end' (.slice none 0 0) (.slice none 0 0) tv false) 0
  obtain ⟨S4, u1, u2, u3, u4⟩ := st_one (off := 0) (v := .pointer (some ⟨S3.n, 0, none⟩)) (fresh_at (S3.fresh (jouL d half end' (.slice none 0 0) (.slice none 0 0) tv false) 0) [.pointer none] 0) (by decide) rfl rfl
  simp only [fresh_n] at u1 u2 u3 u4
  simp (decide := true) only [FT.get_set, FT.setL, faS_ptr, nilS_ptr, nilS_func, nilS_yield, pickS_bool, ldS_ptr, list_cells, list_ro, partS_none, lenSl_of, lenStr_of, cvInt_of, aminmax_max, aminmax_min, abin_add, abin_sub, abin_mul, abin_eql, abin_neq, abin_lss, abin_leq, abin_gtr, abin_geq, aunary_not, aextract, Option.some.injEq, Prod.mk.injEq, Value.bool.injEq, exists_eq_left', exists_and_left, and_assoc, decide_eq_true_eq, decide_eq_false_iff_not, if_true, if_false, Nat.zero_add, Nat.add_zero, Option.bind_some, true_and, and_true, forall_const, true_implies, Bool.not_eq_true, Bool.false_eq_true, false_implies, ite_self, Nat.mul_one, t0, t6, t7, q1, w3, c1, bd, ptrTo, hcl, fresh_n]
  refine ⟨S4, u1, ?_⟩
  have hj4 : S4.m S3.n = some (.cells (jouL d half end' (.slice none 0 0) (.slice none 0 0) tv false) 0) := by rw [u4 _ (by omega), fresh_old _ _ _ (by rw [fresh_n]; omega)]; exact hj3
  have f4 : Old S3 S4 := ⟨by omega, fun y hy => by rw [u4 y (by omega), fresh_old _ _ _ (by rw [fresh_n]; omega), fresh_old _ _ _ (by omega)]⟩
  refine m_seq (m_reg ?_)
  rw [reg10_11]
  obtain ⟨S5, x1, x2, x3, x4⟩ := st_one (off := 0) (v := .bool true) (fresh_at S4 [.bool false] 0) (by decide) rfl rfl
  simp (decide := true) only [FT.get_set, FT.setL, faS_ptr, nilS_ptr, nilS_func, nilS_yield, pickS_bool, ldS_ptr, list_cells, list_ro, partS_none, lenSl_of, lenStr_of, cvInt_of, aminmax_max, aminmax_min, abin_add, abin_sub, abin_mul, abin_eql, abin_neq, abin_lss, abin_leq, abin_gtr, abin_geq, aunary_not, aextract, Option.some.injEq, Prod.mk.injEq, Value.bool.injEq, exists_eq_left', exists_and_left, and_assoc, decide_eq_true_eq, decide_eq_false_iff_not, if_true, if_false, Nat.zero_add, Nat.add_zero, Option.bind_some, true_and, and_true, forall_const, true_implies, Bool.not_eq_true, Bool.false_eq_true, false_implies, ite_self, Nat.mul_one, ptrTo]
  refine ⟨S5, x1, ?_⟩
  simp only [fresh_n] at x3
  have e5 : ∀ y, y < S4.n → S5.m y = S4.m y := fun y hy => by rw [x4 y (by omega), fresh_old _ _ _ (by omega)]
  have f5 : Old S3 S5 := ⟨by omega, fun y hy => by rw [e5 y (by omega)]; exact f4.2 y hy⟩
  refine m_seq (m_label ?_)
  simp only
  refine m_wf fun wf5 => m_seq (m_seq (m_reg ?_))
  rw [reg10_12]
  simp (decide := true) only [FT.get_set, FT.setL, faS_ptr, nilS_ptr, nilS_func, nilS_yield, pickS_bool, ldS_ptr, list_cells, list_ro, partS_none, lenSl_of, lenStr_of, cvInt_of, aminmax_max, aminmax_min, abin_add, abin_sub, abin_mul, abin_eql, abin_neq, abin_lss, abin_leq, abin_gtr, abin_geq, aunary_not, aextract, Option.some.injEq, Prod.mk.injEq, Value.bool.injEq, exists_eq_left', exists_and_left, and_assoc, decide_eq_true_eq, decide_eq_false_iff_not, if_true, if_false, Nat.zero_add, Nat.add_zero, Option.bind_some, true_and, and_true, forall_const, true_implies, Bool.not_eq_true, Bool.false_eq_true, false_implies, ite_self, Nat.mul_one, ]
  refine parts39 (rv3.keep wf3 f5.2) ?_
  have hn5 : S5.n = S3.n + 3 := by omega
  have f6 := old_fresh S5 [v] 0
  have hon3 : ∀ y, On v y → y < S3.n := fun y hy => rv3.on_lt wf3 hy
  refine MWp.mono (range10 (S0 := S3) (d := d) (half := half) (end' := end') (v := v) (tv := tv) (base := base) (rs := rs) (by simp [FT.get_set, FT.setL, faS_ptr, nilS_ptr, nilS_func, nilS_yield, pickS_bool, ldS_ptr, list_cells, list_ro, partS_none, lenSl_of, lenStr_of, cvInt_of, aminmax_max, aminmax_min, abin_add, abin_sub, abin_mul, abin_eql, abin_neq, abin_lss, abin_leq, abin_gtr, abin_geq, aunary_not, aextract]) (by simp [FT.get_set, FT.setL, faS_ptr, nilS_ptr, nilS_func, nilS_yield, pickS_bool, ldS_ptr, list_cells, list_ro, partS_none, lenSl_of, lenStr_of, cvInt_of, aminmax_max, aminmax_min, abin_add, abin_sub, abin_mul, abin_eql, abin_neq, abin_lss, abin_leq, abin_gtr, abin_geq, aunary_not, aextract]; try omega) (by simp [FT.get_set, FT.setL, faS_ptr, nilS_ptr, nilS_func, nilS_yield, pickS_bool, ldS_ptr, list_cells, list_ro, partS_none, lenSl_of, lenStr_of, cvInt_of, aminmax_max, aminmax_min, abin_add, abin_sub, abin_mul, abin_eql, abin_neq, abin_lss, abin_leq, abin_gtr, abin_geq, aunary_not, aextract]; try omega) (by omega) hon3 (by rw [fresh_n]; omega) (f5.trans f6) ?_ ?_ ?_ ?_ ?_) ?_
  · rw [f6.2 _ (by omega), e5 _ (by omega)]; exact hj4
  · rw [f6.2 _ (by omega), e5 _ (by omega)]; exact u2
  · rw [f6.2 _ (by omega)]
    have : S3.n + 2 = S4.n := by omega
    rw [this]; exact x2
  · rw [← hn5]; exact fresh_at S5 _ _
  · exact (rv3.keep wf3 f5.2).keep wf5 f6.2
  · rintro x T6 S7 ⟨rfl, rfl, hi⟩
    simp only
    refine m_wf fun wf7 => m_seq (m_reg ?_)
    rw [reg10_17]
    simp (decide := true) only [FT.get_set, FT.setL, faS_ptr, nilS_ptr, nilS_func, nilS_yield, pickS_bool, ldS_ptr, list_cells, list_ro, partS_none, lenSl_of, lenStr_of, cvInt_of, aminmax_max, aminmax_min, abin_add, abin_sub, abin_mul, abin_eql, abin_neq, abin_lss, abin_leq, abin_gtr, abin_geq, aunary_not, aextract, Option.some.injEq, Prod.mk.injEq, Value.bool.injEq, exists_eq_left', exists_and_left, and_assoc, decide_eq_true_eq, decide_eq_false_iff_not, if_true, if_false, Nat.zero_add, Nat.add_zero, Option.bind_some, true_and, and_true, forall_const, true_implies, Bool.not_eq_true, Bool.false_eq_true, false_implies, ite_self, Nat.mul_one, list_of hi.b1, List.getElem?_cons_zero]
    refine m_ret ?_
    simp [resM, FT.get_set, FT.setL, faS_ptr, nilS_ptr, nilS_func, nilS_yield, pickS_bool, ldS_ptr, list_cells, list_ro, partS_none, lenSl_of, lenStr_of, cvInt_of, aminmax_max, aminmax_min, abin_add, abin_sub, abin_mul, abin_eql, abin_neq, abin_lss, abin_leq, abin_gtr, abin_geq, aunary_not, aextract, oneOrTuple]
    have hd := wf _ _ h.hd
    have hnb := wf _ _ h.hn
    have o13 : Old S S3 := (f1.trans f2).trans f3
    have o17 : Old S S7 := o13.trans hi.old
    have hn7 := hi.n5
    have hF : ∀ y, S.n ≤ y → y < S7.n → FrD S7 d D y := fun y h1 h2 => FrD.new h wf h1 h2
    obtain ⟨bv, rv, rl, h1, h2, h3, h4, h5, h6⟩ := hi.ex
    have hvv : ∀ y, On v y → FrD S7 d D y ∧ y ≠ S3.n ∧ Av rv y ∧ ¬ X y := fun y hy => by
      have h1 := hon3 y hy
      have h2 := on3 y hy
      have := f1.1; have := f2.1
      exact ⟨hF y (by omega) (by omega), by omega, SlF.av h4 (by omega), fun hx => by have := hX y hx; omega⟩
    have hb : RB S3 bv base := by
      rcases h2 with h2 | h2
      · cases h2
      · exact h2
    have := o13.1
    refine hq S3.n rv S7 o17 this (fun y hy => ?_) ⟨⟨bv, tv, rl, h1, hb.keep wf3 hi.old.2, SlF.weaken h4 (Nat.zero_le _), ?_, c2.keep wf3 hi.old.2, ?_⟩, ⟨hF _ (by omega) (by omega), SlF.av h4 (by omega)⟩, fun y hy => ?_⟩
    · by_cases hlt : y < S3.n + 5
      · exact absurd (SlF.av h4 hlt) hy
      · omega
    · have e : rs.take (rs.length + 1 - 1) = rs := by simp
      rw [e] at h5
      exact h5.keep wf3 hi.old.2
    · rintro y (hy | hy | ⟨x, hx, hy⟩)
      · exact hvv y (h3 y hy)
      · exact hvv y (hct y hy)
      · exact hvv y (h6 x hx y hy)
    · have h1 : y < S7.n := Nat.lt_of_not_le fun e => hy (SlF.avN h4 wf7 e)
      refine hF y ?_ h1
      by_cases hlt : y < S3.n + 5
      · exact absurd (SlF.av h4 hlt) hy
      · omega
end Go.Proofs.Ytmfmbadfgnhonaa
namespace Go.Proofs.Ytmfmbadfgnhonaa
open Go Go.Ag
set_option linter.unusedVariables false
set_option maxRecDepth 100000

/-! ### plain facts: what writes make of what a disk says -/
theorem catB_get {c : Nat → List UInt8} {p : Nat} : ∀ (k : Nat), (∀ i, i < k → (c (p + i)).length = 256) → ∀ x, x < 256 * k → (catB c p k)[x]? = (c (p + x / 256))[x % 256]?
  | 0, _, x, h => by omega
  | k + 1, hl, x, h => by
    have hk := catB_len k fun i hi => hl i (by omega)
    rw [catB]
    by_cases hx : x < 256 * k
    · rw [List.getElem?_append_left (by rw [hk]; exact hx)]
      exact catB_get k (fun i hi => hl i (by omega)) x hx
    · rw [List.getElem?_append_right (by rw [hk]; omega), hk]
      have h1 : x / 256 = k := by omega
      have h2 : x % 256 = x - 256 * k := by omega
      rw [h1, h2]
/-- what stands in blocks, byte by byte -/
def Stands (c : Nat → List UInt8) (p : Nat) (l : List UInt8) : Prop := ∀ x, x < l.length → (c (p + x / 256))[x % 256]? = l[x]?
theorem stands_of {c : Nat → List UInt8} {p e : Nat} {l : List UInt8} (hl : ∀ i, i < (e + 255) / 256 → (c (p + i)).length = 256) (h : (catB c p ((e + 255) / 256)).take e = l) : l.length = e ∧ Stands c p l := by
  have hk := catB_len _ hl
  have hle : e ≤ 256 * ((e + 255) / 256) := by omega
  have hll : l.length = e := by rw [← h, List.length_take, hk]; omega
  refine ⟨hll, fun x hx => ?_⟩
  rw [← catB_get _ hl x (by omega), ← h, List.getElem?_take, if_pos (by omega)]
theorem of_stands {c : Nat → List UInt8} {p : Nat} {l : List UInt8} (hl : ∀ i, i < (l.length + 255) / 256 → (c (p + i)).length = 256) (h : Stands c p l) : (catB c p ((l.length + 255) / 256)).take l.length = l := by
  have hk := catB_len _ hl
  refine List.ext_getElem? fun x => ?_
  rw [List.getElem?_take]
  by_cases hx : x < l.length
  · rw [if_pos hx, catB_get _ hl x (by omega)]; exact h x hx
  · rw [if_neg hx, List.getElem?_eq_none (by omega)]

theorem pieceN_get (bs : List UInt8) (i y : Nat) (hy : y < 256) (h : 256 * i + y < bs.length) : (pieceN bs i)[y]? = bs[256 * i + y]? := by
  unfold pieceN
  rw [List.getElem?_append_left (by rw [List.length_take, List.length_drop]; omega), List.getElem?_take, if_pos hy, List.getElem?_drop]
/-- blocks behind the first k pieces -/
theorem appC_pieces (c : Nat → List UInt8) (bs : List UInt8) (p : Nat) : ∀ k, k ≤ pieceK bs → ∀ j, appC c ((piecesN bs p).take k) j = if p ≤ j ∧ j < p + k then pieceN bs (j - p) else c j := by
  intro k
  induction k with
  | zero => intro _ j; rw [if_neg (by omega)]; rfl
  | succ k ih =>
    intro hk j
    rw [piecesN_take _ _ _ (by omega), appC_snoc]
    simp only
    by_cases e : j = p + k
    · subst e
      rw [if_pos rfl, if_pos (by omega)]
      congr 1; omega
    · rw [if_neg e, ih (by omega) j]
      by_cases e2 : p ≤ j ∧ j < p + k
      · rw [if_pos e2, if_pos (by omega)]
      · rw [if_neg e2, if_neg (by omega)]
theorem appC_all (c : Nat → List UInt8) (bs : List UInt8) (p : Nat) (w : List UInt8) (hp : 1 ≤ p) (j : Nat) : appC c (piecesN bs p ++ [(0, w)]) j = if j = 0 then w else if p ≤ j ∧ j < p + pieceK bs then pieceN bs (j - p) else c j := by
  rw [appC_snoc]
  simp only
  by_cases e : j = 0
  · rw [if_pos e, if_pos e]
  · rw [if_neg e, if_neg e]
    have := appC_pieces c bs p (pieceK bs) (Nat.le_refl _) j
    rw [← piecesN_len bs p, List.take_length, piecesN_len] at this
    exact this

/-- bytes that were just laid down stand -/
theorem stands_new (c : Nat → List UInt8) (bs : List UInt8) (p : Nat) (w : List UInt8) (hp : 1 ≤ p) : Stands (appC c (piecesN bs p ++ [(0, w)])) p bs := fun x hx => by
  rw [appC_all _ _ _ _ hp, if_neg (by omega), if_pos (by unfold pieceK; omega), show p + x / 256 - p = x / 256 by omega, pieceN_get _ _ _ (by omega) (by omega)]
  congr 1; omega

def Len (n : Nat) (c : Nat → List UInt8) : Prop := ∀ i, i < n → (c i).length = 256
theorem Len.appC {n : Nat} {V : List (Nat × List UInt8)} : ∀ {c : Nat → List UInt8}, Len n c → (∀ w ∈ V, w.2.length = 256) → Len n (appC c V) := by
  induction V with
  | nil => intro c h _; exact h
  | cons w V ih =>
    intro c h hv
    refine ih (c := fun j => if j = w.1 then w.2 else c j) (fun i hi => ?_) fun x hx => hv x (List.mem_cons_of_mem _ hx)
    simp only
    split
    · exact hv w List.mem_cons_self
    · exact h i hi
theorem pieces_len (bs : List UInt8) (p : Nat) : ∀ w ∈ piecesN bs p, w.2.length = 256 := by
  intro w hw
  obtain ⟨i, _, rfl⟩ := List.mem_map.1 hw
  exact pieceN_len _ _

theorem Says.mk' {n : Nat} {c : Nat → List UInt8} {half : Nat} {base : List UInt8} {rs : List (List UInt8)} (hl : Len n c) (hh : half ≤ 1) (hn : 1 ≤ n) (h0 : c 0 = headB half (liveN base rs)) (hle : liveN base rs ≤ (n - 1) / 2 * 256) (hs : Stands c (placeN n half) (allB base rs)) : Says n c half (liveN base rs) base rs := by
  refine ⟨hh, h0, rfl, hle, ?_⟩
  have hmul : half * ((n - 1) / 2) ≤ 1 * ((n - 1) / 2) := Nat.mul_le_mul_right _ hh
  have := of_stands (c := c) (p := placeN n half) (l := allB base rs) (fun i hi => hl _ (by rw [allB_len] at hi; unfold placeN; omega)) hs
  rwa [allB_len] at this
theorem Says.stands {n : Nat} {c : Nat → List UInt8} {half end' : Nat} {base : List UInt8} {rs : List (List UInt8)} (h : Says n c half end' base rs) (hl : Len n c) (hn : 1 ≤ n) : Stands c (placeN n half) (allB base rs) := by
  have hh := h.hh
  have hle := h.le
  have hmul : half * ((n - 1) / 2) ≤ 1 * ((n - 1) / 2) := Nat.mul_le_mul_right _ hh
  exact (stands_of (fun i hi => hl _ (by unfold placeN; omega)) h.all).2

/-- where blocks that don't matter were written, all says what it said -/
theorem Says.other {n : Nat} {c c' : Nat → List UInt8} {half end' : Nat} {base : List UInt8} {rs : List (List UInt8)} (h : Says n c half end' base rs) (hl : Len n c) (hl' : Len n c') (hn : 1 ≤ n) (h0 : c' 0 = c 0) (hs : ∀ x, x < end' → (c' (placeN n half + x / 256))[x % 256]? = (c (placeN n half + x / 256))[x % 256]?) : Says n c' half end' base rs := by
  have hst := h.stands hl hn
  have he := h.he
  subst he
  exact Says.mk' hl' h.hh hn (h0.trans h.c0) h.le fun x hx => by
    rw [hs x (by rw [allB_len] at hx; exact hx)]; exact hst x hx

/-! #### a snapshot -/
theorem snap_part {n : Nat} {c : Nat → List UInt8} {half end' : Nat} {base : List UInt8} {rs : List (List UInt8)} (h : Says n c half end' base rs) (hl : Len n c) (hn : 1 ≤ n) (b : List UInt8) (hb : (laid b).length ≤ (n - 1) / 2 * 256) {k : Nat} (hk : k ≤ pieceK (laid b)) : Says n (appC c ((piecesN (laid b) (placeN n (1 - half))).take k)) half end' base rs := by
  have hh := h.hh
  have hle := h.le
  have hpk : pieceK (laid b) ≤ (n - 1) / 2 := by unfold pieceK; omega
  refine h.other hl (hl.appC fun w hw => pieces_len _ _ w (List.mem_of_mem_take hw)) hn ?_ fun x hx => ?_
  · rw [appC_pieces _ _ _ _ hk, if_neg (by unfold placeN; omega)]
  · rw [appC_pieces _ _ _ _ hk, if_neg]
    unfold placeN
    rcases (by omega : half = 0 ∨ half = 1) with rfl | rfl <;> simp <;> omega
theorem snap_all {n : Nat} {c : Nat → List UInt8} {half : Nat} (hl : Len n c) (hn : 1 ≤ n) (hh : half ≤ 1) (b : List UInt8) (hb : (laid b).length ≤ (n - 1) / 2 * 256) : Says n (appC c (piecesN (laid b) (placeN n half) ++ [(0, headB half (laid b).length)])) half (liveN b []) b [] := by
  have e : (laid b).length = liveN b [] := by rw [laid_len]; rfl
  have e2 : allB b [] = laid b := by simp [allB]
  refine Says.mk' (hl.appC fun w hw => ?_) hh hn ?_ (by rw [← e]; exact hb) ?_
  · rcases List.mem_append.1 hw with hw | hw
    · exact pieces_len _ _ w hw
    · have : w = (0, headB half (laid b).length) := by simpa using hw
      subst this; exact headB_len _ _
  · rw [appC_all _ _ _ _ (by unfold placeN; omega), if_pos rfl, e]
  · rw [e2]; exact stands_new _ _ _ _ (by unfold placeN; omega)

/-! #### a record behind the others -/
/-- the last block's bytes, and the record -/
def lastB (base : List UInt8) (rs : List (List UInt8)) (b : List UInt8) : List UInt8 := (allB base rs).drop (liveN base rs / 256 * 256) ++ laid b
theorem lastB_eq (base : List UInt8) (rs : List (List UInt8)) (b : List UInt8) : lastB base rs b = (allB base (rs ++ [b])).drop (liveN base rs / 256 * 256) := by
  unfold lastB
  rw [allB_snoc, List.drop_append_of_le_length (by rw [allB_len]; omega)]
theorem liveN_snoc (base : List UInt8) (rs : List (List UInt8)) (b : List UInt8) : liveN base (rs ++ [b]) = liveN base rs + (b.length + 8) := by
  unfold liveN; rw [wsum_append]; simp [wsum]; omega
theorem lastB_len (base : List UInt8) (rs : List (List UInt8)) (b : List UInt8) : (lastB base rs b).length = liveN base rs % 256 + (b.length + 8) := by
  unfold lastB
  rw [List.length_append, List.length_drop, allB_len, laid_len]; omega
theorem app_part {n : Nat} {c : Nat → List UInt8} {half end' : Nat} {base : List UInt8} {rs : List (List UInt8)} (h : Says n c half end' base rs) (hl : Len n c) (hn : 1 ≤ n) (b : List UInt8) {k : Nat} (hk : k ≤ pieceK (lastB base rs b)) : Says n (appC c ((piecesN (lastB base rs b) (placeN n half + end' / 256)).take k)) half end' base rs := by
  have hst := h.stands hl hn
  have hh := h.hh
  have he := h.he
  have hll := lastB_len base rs b
  refine h.other hl (hl.appC fun w hw => pieces_len _ _ w (List.mem_of_mem_take hw)) hn ?_ fun x hx => ?_
  · rw [appC_pieces _ _ _ _ hk, if_neg (by unfold placeN; omega)]
  · rw [appC_pieces _ _ _ _ hk]
    split
    · rename_i hx2
      have hd : x / 256 = end' / 256 := by omega
      rw [hst x (by rw [allB_len]; omega), hd, show placeN n half + end' / 256 - (placeN n half + end' / 256) = 0 by omega, pieceN_get _ _ _ (by omega) (by omega), lastB_eq, List.getElem?_drop, allB_snoc, List.getElem?_append_left (by rw [allB_len]; omega)]
      congr 1; omega
    · rfl
theorem app_all {n : Nat} {c : Nat → List UInt8} {half end' : Nat} {base : List UInt8} {rs : List (List UInt8)} (h : Says n c half end' base rs) (hl : Len n c) (hn : 1 ≤ n) (b : List UInt8) (hb : liveN base (rs ++ [b]) ≤ (n - 1) / 2 * 256) : Says n (appC c (piecesN (lastB base rs b) (placeN n half + end' / 256) ++ [(0, headB half (liveN base (rs ++ [b])))])) half (liveN base (rs ++ [b])) base (rs ++ [b]) := by
  have hst := h.stands hl hn
  have hh := h.hh
  have he := h.he
  have hll := lastB_len base rs b
  have hls := liveN_snoc base rs b
  have hp : 1 ≤ placeN n half := by unfold placeN; omega
  refine Says.mk' (hl.appC fun w hw => ?_) hh hn ?_ hb fun x hx => ?_
  · rcases List.mem_append.1 hw with hw | hw
    · exact pieces_len _ _ w hw
    · have : w = (0, headB half (liveN base (rs ++ [b]))) := by simpa using hw
      subst this; exact headB_len _ _
  · rw [appC_all _ _ _ _ (by omega), if_pos rfl]
  · rw [allB_len] at hx
    rw [appC_all _ _ _ _ (by omega), if_neg (by omega)]
    by_cases hx2 : x / 256 < end' / 256
    · rw [if_neg (by omega), hst x (by rw [allB_len]; omega), allB_snoc, List.getElem?_append_left (by rw [allB_len]; omega)]
    · rw [if_pos (by unfold pieceK; omega), pieceN_get _ _ _ (by omega) (by omega), lastB_eq, List.getElem?_drop]
      congr 1; omega
theorem app_tail (base : List UInt8) (rs : List (List UInt8)) (b : List UInt8) : (lastB base rs b).drop ((lastB base rs b).length - liveN base (rs ++ [b]) % 256) = (allB base (rs ++ [b])).drop (liveN base (rs ++ [b]) / 256 * 256) := by
  have hll := lastB_len base rs b
  have hls := liveN_snoc base rs b
  rw [lastB_eq, List.drop_drop, ← lastB_eq, hll]
  congr 1; omega
end Go.Proofs.Ytmfmbadfgnhonaa

