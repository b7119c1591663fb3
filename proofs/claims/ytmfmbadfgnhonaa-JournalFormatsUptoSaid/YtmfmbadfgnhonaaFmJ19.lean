/-
  The walk through the journal's code: what its functions do to memory, part FmJ19. Nothing is asked.
-/
import Derived.Test.YtmfmbadfgnhonaaFmJ18
set_option linter.all false
namespace Go.Proofs.Ytmfmbadfgnhonaa
open Go Go.Ag
set_option linter.unusedVariables false
set_option maxRecDepth 100000

theorem js3 (d : Nat) (h e : Int) (a b c x : Value) (k : Bool) : (jouL d h e a b c k).set 3 x = jouL d h e x b c k := rfl
theorem js4 (d : Nat) (h e : Int) (a b c x : Value) (k : Bool) : (jouL d h e a b c k).set 4 x = jouL d h e a x c k := rfl
theorem jl4 (d : Nat) (h e : Int) (a b c : Value) (k : Bool) : (jouL d h e a b c k)[4]? = some b := rfl
theorem jlen (d : Nat) (h e : Int) (a b c : Value) (k : Bool) : (jouL d h e a b c k).length = 7 := rfl

noncomputable def loop10 (T : FT) (st : LoopState) : K := .loop ⟨st, none, ⟨T, 97⟩, [80], .region 13 (ro 10 13) false, blk10_1⟩

/-- while records are told: S0 is as it was ahead of the journal's struct (block S0.n) -/
structure I10 (S S0 : MS) (d half end' : Nat) (v tv : Value) (base : List UInt8) (rs : List (List UInt8)) (T : FT) (st : LoopState) (k : Nat) (S' : MS) : Prop where
  old : Old S0 S'
  n5 : S0.n + 5 ≤ S'.n
  b1 : S'.m (S0.n + 1) = some (.cells [.pointer (some ⟨S0.n, 0, none⟩)] 0)
  b2 : S'.m (S0.n + 2) = some (.cells [.bool (k == 0)] 0)
  b4 : S'.m (S0.n + 4) = some (loop10 T st)
  ex : ∃ bv rv rl, S'.m S0.n = some (.cells (jouL d half end' bv rv tv false) 0) ∧ (k = 0 ∨ RB S0 bv base) ∧ (∀ y, On bv y → On v y) ∧ SlF svF 1 S' (S0.n + 5) rv rl ∧ RBs S0 rl (rs.take (k - 1)) ∧ ∀ x ∈ rl, ∀ y, On x.v y → On v y

theorem I10.set {S S0 : MS} {d half end' : Nat} {v tv : Value} {base : List UInt8} {rs : List (List UInt8)} {T : FT} {st : LoopState} {k : Nat} {S' : MS} (h : I10 S S0 d half end' v tv base rs T st k S') (st' : LoopState) : I10 S S0 d half end' v tv base rs T st' k (S'.set (S0.n + 4) (loop10 T st')) := by
  have ne : ∀ x, x ≠ S0.n + 4 → (S'.set (S0.n + 4) (loop10 T st')).m x = S'.m x := fun x hx => by rw [set_m, if_neg hx]
  obtain ⟨bv, rv, rl, h1, h2, h3, h4, h5, h6⟩ := h.ex
  refine ⟨⟨h.old.1, fun y hy => by rw [ne y (by omega)]; exact h.old.2 y hy⟩, h.n5, by rw [ne _ (by omega)]; exact h.b1, by rw [ne _ (by omega)]; exact h.b2, by rw [set_m, if_pos rfl], bv, rv, rl, by rw [ne _ (by omega)]; exact h1, h2, h3, h4.keep1 fun y q hy _ => ne y fun e => ?_, h5, h6⟩
  have : Av rv y := SlF.av h4 (by omega)
  exact hy this

theorem step10 {S S0 : MS} {d half end' : Nat} {v tv : Value} {base : List UInt8} {rs : List (List UInt8)} {T : FT} (t9 : T.get 9 = .pointer (some ⟨S0.n + 1, 0, none⟩)) (t10 : T.get 10 = .pointer (some ⟨S0.n + 2, 0, none⟩)) (hsm : rs.length ≤ 100000)
    (hv : ∀ y, On v y → y < S0.n) (k : Nat) (S1 : MS) (r : List UInt8) (x : Value) (hr : (base :: rs)[k]? = some r) (wf : S1.WF) (hi : I10 S S0 d half end' v tv base rs T .ready k S1) (hx : RB S1 x r) (hon : ∀ y, On x y → On v y) :
    RoundM Try.prog O (S0.n + 4) [x] S1 fun v' S' => v' = .bool true ∧ I10 S S0 d half end' v tv base rs T .ready (k + 1) S' ∧ S'.m (S0.n + 3) = S1.m (S0.n + 3) ∧ ∀ y, On v y → S'.m y = S1.m y := by
  refine roundM_body (T := T.set x 80) hi.b4 rfl ?_
  refine m_reg ?_
  rw [reg10_13]
  simp (decide := true) only [FT.get_set, FT.setL, faS_ptr, nilS_ptr, nilS_func, nilS_yield, pickS_bool, ldS_ptr, list_cells, list_ro, partS_none, lenSl_of, lenStr_of, cvInt_of, aminmax_max, aminmax_min, abin_add, abin_sub, abin_mul, abin_eql, abin_neq, abin_lss, abin_leq, abin_gtr, abin_geq, aunary_not, aextract, Option.some.injEq, Prod.mk.injEq, Value.bool.injEq, exists_eq_left', exists_and_left, and_assoc, decide_eq_true_eq, decide_eq_false_iff_not, if_true, if_false, Nat.zero_add, Nat.add_zero, Option.bind_some, true_and, and_true, forall_const, true_implies, Bool.not_eq_true, Bool.false_eq_true, false_implies, ite_self, Nat.mul_one, ]
  refine ⟨_, hi.b4, rfl, ?_⟩
  have hi2 := hi.set .busy
  have hn5 := hi.n5
  have hx0 : RB S0 x r := hx.keepOn fun y hy => (hi.old.2 y (hv y (hon y hy))).symm
  obtain ⟨S2, hS2⟩ : ∃ S2, S2 = S1.set (S0.n + 4) (loop10 T .busy) := ⟨_, rfl⟩
  have wf2 : S2.WF := fun y q hq => by
    rw [hS2, set_m] at hq
    by_cases e : y = S0.n + 4
    · subst e; rw [hS2, set_n]; omega
    · rw [if_neg e] at hq; rw [hS2, set_n]; exact wf y q hq
  have e12 : ∀ y, y ≠ S0.n + 4 → S2.m y = S1.m y := fun y hy => by rw [hS2, set_m, if_neg hy]
  rw [← hS2] at hi2
  show MWp Try.prog O 97 blk10_1 _ (S1.set (S0.n + 4) (loop10 T .busy)) _
  rw [← hS2]
  have hn2 : S2.n = S1.n := by rw [hS2, set_n]
  obtain ⟨bv, rv, rl, h1, h2, h3, h4, h5, h6⟩ := hi2.ex
  unfold blk10_1
  refine m_block (m_seq (m_seq (m_reg ?_)))
  rw [reg10_14]
  simp (decide := true) only [FT.get_set, FT.setL, faS_ptr, nilS_ptr, nilS_func, nilS_yield, pickS_bool, ldS_ptr, list_cells, list_ro, partS_none, lenSl_of, lenStr_of, cvInt_of, aminmax_max, aminmax_min, abin_add, abin_sub, abin_mul, abin_eql, abin_neq, abin_lss, abin_leq, abin_gtr, abin_geq, aunary_not, aextract, Option.some.injEq, Prod.mk.injEq, Value.bool.injEq, exists_eq_left', exists_and_left, and_assoc, decide_eq_true_eq, decide_eq_false_iff_not, if_true, if_false, Nat.zero_add, Nat.add_zero, Option.bind_some, true_and, and_true, forall_const, true_implies, Bool.not_eq_true, Bool.false_eq_true, false_implies, ite_self, Nat.mul_one, t10, list_of hi2.b2, List.getElem?_cons_zero]
  cases k with
  | zero =>
    refine m_cond (t := true) (by simp [evalT, FT.get_set, FT.setL, faS_ptr, nilS_ptr, nilS_func, nilS_yield, pickS_bool, ldS_ptr, list_cells, list_ro, partS_none, lenSl_of, lenStr_of, cvInt_of, aminmax_max, aminmax_min, abin_add, abin_sub, abin_mul, abin_eql, abin_neq, abin_lss, abin_leq, abin_gtr, abin_geq, aunary_not, aextract]) (fun _ => ?_) tf
    refine m_seq (m_reg ?_)
    rw [reg10_15]
    obtain ⟨S3, u1, u2, u3, u4⟩ := st_one (off := 3) (v := x) h1 (by rw [jlen]; decide) hx.one.1 hx.one.2
    rw [js3] at u2
    have hb2 : S3.m (S0.n + 2) = some (.cells [.bool true] 0) := by rw [u4 _ (by omega)]; exact hi2.b2
    obtain ⟨S4, w1, w2, w3, w4⟩ := st_one (off := 0) (v := .bool false) hb2 (by decide) rfl rfl
    simp (decide := true) only [FT.get_set, FT.setL, faS_ptr, nilS_ptr, nilS_func, nilS_yield, pickS_bool, ldS_ptr, list_cells, list_ro, partS_none, lenSl_of, lenStr_of, cvInt_of, aminmax_max, aminmax_min, abin_add, abin_sub, abin_mul, abin_eql, abin_neq, abin_lss, abin_leq, abin_gtr, abin_geq, aunary_not, aextract, Option.some.injEq, Prod.mk.injEq, Value.bool.injEq, exists_eq_left', exists_and_left, and_assoc, decide_eq_true_eq, decide_eq_false_iff_not, if_true, if_false, Nat.zero_add, Nat.add_zero, Option.bind_some, true_and, and_true, forall_const, true_implies, Bool.not_eq_true, Bool.false_eq_true, false_implies, ite_self, Nat.mul_one, t9, t10, list_of hi2.b1, List.getElem?_cons_zero]
    refine ⟨S3, u1, S4, w1, m_exit ?_⟩
    have hb4 : S4.m (S0.n + 4) = some (loop10 T .busy) := by rw [w4 _ (by omega), u4 _ (by omega)]; exact hi2.b4
    simp (decide := true) only [if_false, if_true]
    have e4 : ∀ y, y < S0.n → S4.m y = S2.m y := fun y hy => by rw [w4 y (by omega), u4 y (by omega)]
    have r0 : r = base := by simp at hr; exact hr.symm
    have hi4 : I10 S S0 d half end' v tv base rs T .busy 1 S4 := by
      refine ⟨⟨by rw [w3, u3]; exact hi2.old.1, fun y hy => by rw [e4 y hy]; exact hi2.old.2 y hy⟩, by rw [w3, u3]; exact hi2.n5, by rw [w4 _ (by omega), u4 _ (by omega)]; exact hi2.b1, w2, hb4, x, rv, rl, by rw [w4 _ (by omega)]; exact u2, .inr (r0 ▸ hx0), hon, h4.keep1 fun y q hy _ => ?_, h5, h6⟩
      have hya : S0.n + 5 ≤ y := by
        by_cases hlt : y < S0.n + 5
        · exact absurd (SlF.av h4 hlt) hy
        · omega
      rw [w4 y (by omega), u4 y (by omega)]
    refine ⟨_, hb4, hi4.set .ready, ?_, fun y hy => ?_⟩
    · rw [set_m, if_neg (by omega), w4 _ (by omega), u4 _ (by omega), e12 _ (by omega)]
    · have := hv y hy
      rw [set_m, if_neg (by omega), e4 y this, e12 y (by omega)]
  | succ k =>
    refine m_cond (t := false) (by simp [evalT, FT.get_set, FT.setL, faS_ptr, nilS_ptr, nilS_func, nilS_yield, pickS_bool, ldS_ptr, list_cells, list_ro, partS_none, lenSl_of, lenStr_of, cvInt_of, aminmax_max, aminmax_min, abin_add, abin_sub, abin_mul, abin_eql, abin_neq, abin_lss, abin_leq, abin_gtr, abin_geq, aunary_not, aextract]) ff (fun _ => m_skip ?_)
    simp only
    refine m_draw ?_
    rw [reg10_16]
    obtain ⟨s, rfl⟩ := hx.sv
    have hbs : bsS S2 1 1 [.slice none 0 0] [(0, s.v)] = some (.slice (some ⟨S2.n, 0, none⟩) 1 1, S2.fresh [s.v] 1) := bsS_one S2 1 _ s.v rfl rfl
    have wf3 := wf_fresh' wf2 [s.v] 1
    have f3 := old_fresh S2 [s.v] 1
    have hnew : firstCellsM (S2.fresh [s.v] 1) 1 [s].length (.slice (some ⟨S2.n, 0, none⟩) 1 1) = some ([s].flatMap svF) := by
      exact (first_of (sz := 1) (n := 1) (len := 1) (cap := 1) (off := 0) (list_of (fresh_at S2 [s.v] 1)) (Nat.le_refl _) (by decide) (by simp)).trans rfl
    have h43 : SlF svF 1 (S2.fresh [s.v] 1) (S0.n + 5) rv rl := h4.keep fun y q hq => f3.2 y (wf2 y q hq)
    have hrl : rl.length ≤ 100000 := by rw [h5.1, List.length_take]; omega
    obtain ⟨rv', S4, a1, a2, a3, a4, a5⟩ := h43.app2 (bytes := 24) (z := [.slice none 0 0]) sv_len sv_one (by decide) (x := .slice (some ⟨S2.n, 0, none⟩) 1 1) (new := [s]) wf3 (by simp only [fresh_n]; omega) rfl hnew (by simp; omega) (by simp; omega)
    have e4 : ∀ y, y < S0.n + 5 → S4.m y = S2.m y := fun y hy => by rw [a4 y (by simp only [fresh_n]; omega) (SlF.av h43 hy), f3.2 y (by omega)]
    have hb1 : S4.m (S0.n + 1) = some (.cells [.pointer (some ⟨S0.n, 0, none⟩)] 0) := by rw [e4 _ (by omega)]; exact hi2.b1
    have hj4 : S4.m S0.n = some (.cells (jouL d half end' bv rv tv false) 0) := by rw [e4 _ (by omega)]; exact h1
    have hone := SlF.one a2
    obtain ⟨S5, u1, u2, u3, u4⟩ := st_one (off := 4) (v := rv') hj4 (by rw [jlen]; decide) hone.1 hone.2
    rw [js4] at u2
    simp (decide := true) only [FT.get_set, FT.setL, faS_ptr, nilS_ptr, nilS_func, nilS_yield, pickS_bool, ldS_ptr, list_cells, list_ro, partS_none, lenSl_of, lenStr_of, cvInt_of, aminmax_max, aminmax_min, abin_add, abin_sub, abin_mul, abin_eql, abin_neq, abin_lss, abin_leq, abin_gtr, abin_geq, aunary_not, aextract, Option.some.injEq, Prod.mk.injEq, Value.bool.injEq, exists_eq_left', exists_and_left, and_assoc, decide_eq_true_eq, decide_eq_false_iff_not, if_true, if_false, Nat.zero_add, Nat.add_zero, Option.bind_some, true_and, and_true, forall_const, true_implies, Bool.not_eq_true, Bool.false_eq_true, false_implies, ite_self, Nat.mul_one, t9, list_of hi2.b1, list_of hb1, list_of h1, jl4, List.getElem?_cons_zero, hbs, a1, veq_ptr]
    refine ⟨S5, u1, ?_⟩
    have e5 : ∀ y, y < S0.n + 5 → y ≠ S0.n → S5.m y = S2.m y := fun y hy hne => by rw [u4 y hne, e4 y hy]
    have hb4 : S5.m (S0.n + 4) = some (loop10 T .busy) := by rw [e5 _ (by omega) (by omega)]; exact hi2.b4
    simp only [fresh_n] at a3
    have hri : rs[k]? = some r := by simpa using hr
    have hi5 : I10 S S0 d half end' v tv base rs T .busy (k + 1 + 1) S5 := by
      refine ⟨⟨by rw [u3]; have := hi2.old.1; omega, fun y hy => by rw [e5 y (by omega) (by omega)]; exact hi2.old.2 y hy⟩, by rw [u3]; omega, by rw [e5 _ (by omega) (by omega)]; exact hi2.b1, by rw [e5 _ (by omega) (by omega)]; exact hi2.b2, hb4, bv, rv', rl ++ [s], u2, ?_, h3, a2.keep1 fun y q hy _ => ?_, ?_, fun x hx => ?_⟩
      · rcases h2 with h2 | h2
        · cases h2
        · exact .inr h2
      · exact u4 y fun e => hy (SlF.av a2 (by omega))
      · have htk : rs.take (k + 1 + 1 - 1) = rs.take k ++ [r] := by rw [show k + 1 + 1 - 1 = k + 1 by omega, List.take_add_one, hri]; rfl
        have h51 := h5.1
        rw [show k + 1 - 1 = k by omega] at h5 h51
        refine ⟨by rw [htk, List.length_append, List.length_append, h51]; rfl, fun i x r' hx hr' => ?_⟩
        rw [htk] at hr'
        by_cases hil : i < rl.length
        · rw [List.getElem?_append_left hil] at hx
          rw [List.getElem?_append_left (by rw [← h51]; exact hil)] at hr'
          exact h5.2 i x r' hx hr'
        · rw [List.getElem?_append_right (by omega)] at hx
          rw [List.getElem?_append_right (by rw [← h51]; omega), ← h51] at hr'
          obtain ⟨e1, e2⟩ := List.getElem?_eq_some_iff.1 hx
          have : i - rl.length = 0 := by simp at e1; omega
          rw [this] at hx hr'
          cases hx; cases hr'
          exact hx0
      · rcases List.mem_append.1 hx with hx | hx
        · exact h6 x hx
        · have : x = s := by simpa using hx
          subst this; exact hon
    refine ⟨_, hb4, hi5.set .ready, ?_, fun y hy => ?_⟩
    · rw [set_m, if_neg (by omega), e5 _ (by omega) (by omega), e12 _ (by omega)]
    · have := hv y hy
      rw [set_m, if_neg (by omega), e5 y (by omega) (by omega), e12 y (by omega)]
end Go.Proofs.Ytmfmbadfgnhonaa

