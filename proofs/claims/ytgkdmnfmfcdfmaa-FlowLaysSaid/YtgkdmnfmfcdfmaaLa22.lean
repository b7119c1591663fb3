/-
  The walk through the code of blocks and of what is reached, part L22: what its functions do to memory. Nothing is asked.
-/
import Derived.Test.YtgkdmnfmfcdfmaaLa21
set_option linter.all false
namespace Go.Proofs.Ytgkdmnfmfcdfmaa
open Go Go.Ag
set_option linter.unusedVariables false
set_option maxRecDepth 100000

theorem neq_op (x y : Operand) (a b : Op5) : abin Try.prog .neq 36 x y (.agg (opL a).toArray) (.agg (opL b).toArray) =
    (if (a.c == b.c) = true then (if (a.d == b.d) = true then (if (a.a == b.a) = true then (if (a.b == b.b) = true then (if (a.k == b.k) = true then some true else some false) else some false) else some false) else some false) else some false : Option Bool).map fun r => .bool (!r) := by kernel_rfl
theorem neq_same (x y : Operand) (a : Op5) : abin Try.prog .neq 36 x y (.agg (opL a).toArray) (.agg (opL a).toArray) = some (.bool false) := by rw [neq_op]; simp

/-- flow.Reached -/
theorem reached11 {S : MS} {rr : Int} {gv : Value} {bs : List Blk} (hg : Blks S gv bs) (hp : pos bs bs.length ≤ 1000000) : CallM Try.prog O 11 [fnV rr gv] S fun v S' => ToldG bs S S' v := by
  refine callM_wf fun wf => ?_
  refine callM_body (fnIs is11 body11 res11) (O_none (by decide)) (by simp) ?_
  refine m_seq (m_reg ?_)
  rw [reg11_0]
  simp (decide := true) only [FT.get_set, FT.setL, faS_ptr, nilS_ptr, nilS_func, nilS_yield, pickS_bool, ldS_ptr, list_cells, list_ro, partS_none, lenSl_of, lenStr_of, cvInt_of, aminmax_max, aminmax_min, abin_add, abin_sub, abin_mul, abin_eql, abin_neq, abin_lss, abin_leq, abin_gtr, abin_geq, aunary_not, aextract, Option.some.injEq, Prod.mk.injEq, Value.bool.injEq, exists_eq_left', exists_and_left, and_assoc, decide_eq_true_eq, decide_eq_false_iff_not, if_true, if_false, Nat.zero_add, Nat.add_zero, Option.bind_some, true_and, and_true, forall_const, true_implies, Bool.not_eq_true, Bool.false_eq_true, false_implies, ite_self, Nat.mul_one, fnV_cells rr hg.one, ptrTo]
  have f1 : Old S (S.fresh [.int .i64 rr, gv] 0) := ⟨Nat.le_succ _, fun y hy => fresh_old _ _ _ (Nat.ne_of_lt hy)⟩
  have hgb := fresh_at S [.int .i64 rr, gv] 0
  have hg1 := hg.keep wf f1.2
  have wf1 := wf_fresh' wf [.int .i64 rr, gv] 0
  refine m_seq (m_seq (m_reg ?_))
  rw [reg11_1]
  simp (decide := true) only [FT.get_set, FT.setL, faS_ptr, nilS_ptr, nilS_func, nilS_yield, pickS_bool, ldS_ptr, list_cells, list_ro, partS_none, lenSl_of, lenStr_of, cvInt_of, aminmax_max, aminmax_min, abin_add, abin_sub, abin_mul, abin_eql, abin_neq, abin_lss, abin_leq, abin_gtr, abin_geq, aunary_not, aextract, Option.some.injEq, Prod.mk.injEq, Value.bool.injEq, exists_eq_left', exists_and_left, and_assoc, decide_eq_true_eq, decide_eq_false_iff_not, if_true, if_false, Nat.zero_add, Nat.add_zero, Option.bind_some, true_and, and_true, forall_const, true_implies, Bool.not_eq_true, Bool.false_eq_true, false_implies, ite_self, Nat.mul_one, list_of hgb, partS_two]
  refine callM_wf_post (CallM.mono (fn9 (rr := rr) hg1 hp) ?_)
  rintro v S2 ⟨hold, htold⟩ wf2
  have hgb2 := (hold.2 S.n (Nat.lt_succ_self _)).trans hgb
  have hs2n : S.n + 1 ≤ S2.n := hold.1
  rcases htold with ⟨hno, rfl⟩ | ⟨hok, w, hw, rfl⟩
  · obtain ⟨S4, u1, u2, u3, u4⟩ := st_all (n := 2) (cs := #[.int .i64 0, .slice none 0 0]) (fresh_at S2 [.int .i64 0, .slice none 0 0] 0) rfl rfl rfl
    simp (decide := true) only [FT.get_set, FT.setL, faS_ptr, nilS_ptr, nilS_func, nilS_yield, pickS_bool, ldS_ptr, list_cells, list_ro, partS_none, lenSl_of, lenStr_of, cvInt_of, aminmax_max, aminmax_min, abin_add, abin_sub, abin_mul, abin_eql, abin_neq, abin_lss, abin_leq, abin_gtr, abin_geq, aunary_not, aextract, Option.some.injEq, Prod.mk.injEq, Value.bool.injEq, exists_eq_left', exists_and_left, and_assoc, decide_eq_true_eq, decide_eq_false_iff_not, if_true, if_false, Nat.zero_add, Nat.add_zero, Option.bind_some, true_and, and_true, forall_const, true_implies, Bool.not_eq_true, Bool.false_eq_true, false_implies, ite_self, Nat.mul_one, List.getElem?_cons_zero, List.getElem?_cons_succ, ptrTo]
    refine ⟨S4, u1, ?_⟩
    have f4 : Old S2 S4 := ⟨by rw [u3, fresh_n]; omega, fun y hy => by rw [u4 y (by omega), fresh_old _ _ _ (by omega)]⟩
    refine m_seq (m_reg ?_)
    rw [reg11_2]
    simp (decide := true) only [FT.get_set, FT.setL, faS_ptr, nilS_ptr, nilS_func, nilS_yield, pickS_bool, ldS_ptr, list_cells, list_ro, partS_none, lenSl_of, lenStr_of, cvInt_of, aminmax_max, aminmax_min, abin_add, abin_sub, abin_mul, abin_eql, abin_neq, abin_lss, abin_leq, abin_gtr, abin_geq, aunary_not, aextract, Option.some.injEq, Prod.mk.injEq, Value.bool.injEq, exists_eq_left', exists_and_left, and_assoc, decide_eq_true_eq, decide_eq_false_iff_not, if_true, if_false, Nat.zero_add, Nat.add_zero, Option.bind_some, true_and, and_true, forall_const, true_implies, Bool.not_eq_true, Bool.false_eq_true, false_implies, ite_self, Nat.mul_one, ]
    refine m_cond (t := true) (by simp [evalT, FT.get_set, FT.setL, faS_ptr, nilS_ptr, nilS_func, nilS_yield, pickS_bool, ldS_ptr, list_cells, list_ro, partS_none, lenSl_of, lenStr_of, cvInt_of, aminmax_max, aminmax_min, abin_add, abin_sub, abin_mul, abin_eql, abin_neq, abin_lss, abin_leq, abin_gtr, abin_geq, aunary_not, aextract]) (fun _ => ?_) (fun h => by cases h)
    refine m_seq (m_reg ?_)
    rw [reg11_3]
    refine m_ret ?_
    simp [resM, FT.get_set, FT.setL, faS_ptr, nilS_ptr, nilS_func, nilS_yield, pickS_bool, ldS_ptr, list_cells, list_ro, partS_none, lenSl_of, lenStr_of, cvInt_of, aminmax_max, aminmax_min, abin_add, abin_sub, abin_mul, abin_eql, abin_neq, abin_lss, abin_leq, abin_gtr, abin_geq, aunary_not, aextract, oneOrTuple]
    exact ⟨(f1.trans hold).trans f4, .inl ⟨hno, rfl⟩⟩
  · have hb2000 := hok.2.1
    have h0 : bs.length ≠ 0 := by have := hok.1; omega
    obtain ⟨S4, u1, u2, u3, u4⟩ := st_all (n := 2) (cs := #[.int .i64 rr, w]) (fresh_at S2 [.int .i64 0, .slice none 0 0] 0) rfl rfl (by
      show ([.int .i64 rr, w] : List Value).all oneCell = true
      simp only [List.all_cons, (SlF.one hw).2]; rfl)
    simp (decide := true) only [FT.get_set, FT.setL, faS_ptr, nilS_ptr, nilS_func, nilS_yield, pickS_bool, ldS_ptr, list_cells, list_ro, partS_none, lenSl_of, lenStr_of, cvInt_of, aminmax_max, aminmax_min, abin_add, abin_sub, abin_mul, abin_eql, abin_neq, abin_lss, abin_leq, abin_gtr, abin_geq, aunary_not, aextract, Option.some.injEq, Prod.mk.injEq, Value.bool.injEq, exists_eq_left', exists_and_left, and_assoc, decide_eq_true_eq, decide_eq_false_iff_not, if_true, if_false, Nat.zero_add, Nat.add_zero, Option.bind_some, true_and, and_true, forall_const, true_implies, Bool.not_eq_true, Bool.false_eq_true, false_implies, ite_self, Nat.mul_one, List.getElem?_cons_zero, List.getElem?_cons_succ, ptrTo]
    refine ⟨S4, u1, ?_⟩
    have f4 : Old S2 S4 := ⟨by rw [u3, fresh_n]; omega, fun y hy => by rw [u4 y (by omega), fresh_old _ _ _ (by omega)]⟩
    have hgb4 := (f4.2 S.n (by omega)).trans hgb2
    have hn4 := f4.1
    refine m_seq (m_reg ?_)
    rw [reg11_2]
    simp (decide := true) only [FT.get_set, FT.setL, faS_ptr, nilS_ptr, nilS_func, nilS_yield, pickS_bool, ldS_ptr, list_cells, list_ro, partS_none, lenSl_of, lenStr_of, cvInt_of, aminmax_max, aminmax_min, abin_add, abin_sub, abin_mul, abin_eql, abin_neq, abin_lss, abin_leq, abin_gtr, abin_geq, aunary_not, aextract, Option.some.injEq, Prod.mk.injEq, Value.bool.injEq, exists_eq_left', exists_and_left, and_assoc, decide_eq_true_eq, decide_eq_false_iff_not, if_true, if_false, Nat.zero_add, Nat.add_zero, Option.bind_some, true_and, and_true, forall_const, true_implies, Bool.not_eq_true, Bool.false_eq_true, false_implies, ite_self, Nat.mul_one, ]
    refine m_cond (t := false) (by simp [evalT, FT.get_set, FT.setL, faS_ptr, nilS_ptr, nilS_func, nilS_yield, pickS_bool, ldS_ptr, list_cells, list_ro, partS_none, lenSl_of, lenStr_of, cvInt_of, aminmax_max, aminmax_min, abin_add, abin_sub, abin_mul, abin_eql, abin_neq, abin_lss, abin_leq, abin_gtr, abin_geq, aunary_not, aextract]) (fun h => by cases h) (fun _ => m_skip ?_)
    simp only
    refine m_wf fun wf4 => m_seq (m_reg ?_)
    rw [reg11_4]
    simp (decide := true) only [FT.get_set, FT.setL, faS_ptr, nilS_ptr, nilS_func, nilS_yield, pickS_bool, ldS_ptr, list_cells, list_ro, partS_none, lenSl_of, lenStr_of, cvInt_of, aminmax_max, aminmax_min, abin_add, abin_sub, abin_mul, abin_eql, abin_neq, abin_lss, abin_leq, abin_gtr, abin_geq, aunary_not, aextract, Option.some.injEq, Prod.mk.injEq, Value.bool.injEq, exists_eq_left', exists_and_left, and_assoc, decide_eq_true_eq, decide_eq_false_iff_not, if_true, if_false, Nat.zero_add, Nat.add_zero, Option.bind_some, true_and, and_true, forall_const, true_implies, Bool.not_eq_true, Bool.false_eq_true, false_implies, ite_self, Nat.mul_one, list_of hgb4, List.getElem?_cons_zero, List.getElem?_cons_succ, hg.len, msS_of (n := bs.length) S4 1 1 [.bool false] .i64 .i64 (by omega) (by omega), ptrTo]
    have hz : zeros [.bool false] bs.length = (List.replicate bs.length false).map .bool := by rw [zeros_one, List.map_replicate]
    rw [hz]
    obtain ⟨S3, s1, s2, s3, s4⟩ := st_one (off := 0) (v := .slice (some ⟨S4.n, 0, none⟩) bs.length bs.length) (fresh_at (S4.fresh ((List.replicate bs.length false).map .bool) 1) [.slice none 0 0] 0) (by decide) rfl rfl
    have hxb : S3.m (S4.n + 1) = some (.cells [.slice (some ⟨S4.n, 0, none⟩) bs.length bs.length] 0) := s2
    have hn3 : S3.n = S4.n + 2 := s3
    refine ⟨S3, s1, ?_⟩
    have f3 : Old S4 S3 := ⟨by omega, fun y hy => by rw [s4 y (by simp only [fresh_n]; omega), fresh_old _ _ _ (by simp only [fresh_n]; omega), fresh_old _ _ _ (by omega)]⟩
    have hob : S3.m S4.n = some (.cells ((List.replicate bs.length false).map .bool) 1) := by rw [s4 _ (by simp only [fresh_n]; omega), fresh_old _ _ _ (by simp only [fresh_n]; omega), fresh_at]
    have hfb3 := (f3.2 S.n (by omega)).trans hgb4
    refine m_wf fun wf3 => m_seq (m_seq (m_reg ?_))
    rw [reg11_5]
    simp (decide := true) only [FT.get_set, FT.setL, faS_ptr, nilS_ptr, nilS_func, nilS_yield, pickS_bool, ldS_ptr, list_cells, list_ro, partS_none, lenSl_of, lenStr_of, cvInt_of, aminmax_max, aminmax_min, abin_add, abin_sub, abin_mul, abin_eql, abin_neq, abin_lss, abin_leq, abin_gtr, abin_geq, aunary_not, aextract, Option.some.injEq, Prod.mk.injEq, Value.bool.injEq, exists_eq_left', exists_and_left, and_assoc, decide_eq_true_eq, decide_eq_false_iff_not, if_true, if_false, Nat.zero_add, Nat.add_zero, Option.bind_some, true_and, and_true, forall_const, true_implies, Bool.not_eq_true, Bool.false_eq_true, false_implies, ite_self, Nat.mul_one, list_of hfb3, List.getElem?_cons_zero, List.getElem?_cons_succ, hg.len]
    refine walk25 ?_
    have wf5 := wf_fresh' (wf_fresh' wf3 [.int .i64 bs.length] 0) [.func (.func 26) #[] #[.pointer (some ⟨S.n, 0, none⟩)]] 0
    have f5 : ∀ y, y < S3.n → ((S3.fresh [.int .i64 bs.length] 0).fresh [.func (.func 26) #[] #[.pointer (some ⟨S.n, 0, none⟩)]] 0).m y = S3.m y := fun y hy => by
      rw [fresh_old _ _ _ (by rw [fresh_n]; omega), fresh_old _ _ _ (by omega)]
    have hall : Old S ((S3.fresh [.int .i64 bs.length] 0).fresh [.func (.func 26) #[] #[.pointer (some ⟨S.n, 0, none⟩)]] 0) := (((f1.trans hold).trans f4).trans f3).trans ⟨by simp only [fresh_n]; omega, f5⟩
    refine MWp.mono (range11 (S0 := S) (fb := S.n) (ob := S4.n) (xb := S4.n + 1) (b1 := S3.n) (rr := rr) (ov := gv) hok wf5 ?_ ?_ ?_ ?_ ?_ hg wf ?_ ?_ hall (by omega) ⟨by omega, by omega, by omega, by omega⟩) ?_
    · simp [FT.get_set, FT.setL, faS_ptr, nilS_ptr, nilS_func, nilS_yield, pickS_bool, ldS_ptr, list_cells, list_ro, partS_none, lenSl_of, lenStr_of, cvInt_of, aminmax_max, aminmax_min, abin_add, abin_sub, abin_mul, abin_eql, abin_neq, abin_lss, abin_leq, abin_gtr, abin_geq, aunary_not, aextract]
    · simp [FT.get_set, FT.setL, faS_ptr, nilS_ptr, nilS_func, nilS_yield, pickS_bool, ldS_ptr, list_cells, list_ro, partS_none, lenSl_of, lenStr_of, cvInt_of, aminmax_max, aminmax_min, abin_add, abin_sub, abin_mul, abin_eql, abin_neq, abin_lss, abin_leq, abin_gtr, abin_geq, aunary_not, aextract, fresh_n]
    · rw [fresh_old _ _ _ (by rw [fresh_n]; omega), fresh_at]
    · exact fresh_at (S3.fresh [.int .i64 bs.length] 0) _ 0
    · rw [f5 _ (by omega)]; exact hfb3
    · rw [f5 _ (by omega)]; exact hob
    · rw [f5 _ (by omega)]; exact hxb
    · rintro _ T5 S5 ⟨rfl, rfl, ms, hv, g1, g2, g3⟩
      simp only
      refine m_seq (m_reg ?_)
      rw [reg11_8]
      simp (decide := true) only [FT.get_set, FT.setL, faS_ptr, nilS_ptr, nilS_func, nilS_yield, pickS_bool, ldS_ptr, list_cells, list_ro, partS_none, lenSl_of, lenStr_of, cvInt_of, aminmax_max, aminmax_min, abin_add, abin_sub, abin_mul, abin_eql, abin_neq, abin_lss, abin_leq, abin_gtr, abin_geq, aunary_not, aextract, Option.some.injEq, Prod.mk.injEq, Value.bool.injEq, exists_eq_left', exists_and_left, and_assoc, decide_eq_true_eq, decide_eq_false_iff_not, if_true, if_false, Nat.zero_add, Nat.add_zero, Option.bind_some, true_and, and_true, forall_const, true_implies, Bool.not_eq_true, Bool.false_eq_true, false_implies, ite_self, Nat.mul_one, fresh_n, list_of g2, List.getElem?_cons_zero]
      refine m_ret ?_
      simp [resM, FT.get_set, FT.setL, faS_ptr, nilS_ptr, nilS_func, nilS_yield, pickS_bool, ldS_ptr, list_cells, list_ro, partS_none, lenSl_of, lenStr_of, cvInt_of, aminmax_max, aminmax_min, abin_add, abin_sub, abin_mul, abin_eql, abin_neq, abin_lss, abin_leq, abin_gtr, abin_geq, aunary_not, aextract, oneOrTuple]
      exact ⟨g3, .inr ⟨hok, ms, S4.n, hv, by omega, g1, rfl⟩⟩

/-- what is looked at -/
def cnt (bs : List Blk) : Nat → Nat
  | 0 => 0
  | k + 1 => cnt bs k + (match bs[k]? with | some b => 1 + b.ops.length | none => 0)
theorem cnt_succ {bs : List Blk} {k : Nat} {b : Blk} (h : bs[k]? = some b) : cnt bs (k + 1) = cnt bs k + (1 + b.ops.length) := by
  show cnt bs k + _ = _; rw [h]
theorem cnt_mono (bs : List Blk) {a b : Nat} (h : a ≤ b) : cnt bs a ≤ cnt bs b := by
  induction h with
  | refl => exact Nat.le_refl _
  | step _ ih => exact Nat.le_trans ih (Nat.le_add_right _ _)
theorem pos_cnt (bs : List Blk) : ∀ k, pos bs k ≤ 2 * cnt bs k := by
  intro k
  induction k with
  | zero => exact Nat.le_refl _
  | succ k ih =>
    show pos bs k + _ ≤ 2 * (cnt bs k + _)
    cases h : bs[k]? with
    | none => simp only; omega
    | some b => have := tail_len b k; simp only [bLen]; omega
theorem cnt_one {bs : List Blk} {b : Blk} (h : b ∈ bs) : b.ops.length ≤ cnt bs bs.length := by
  obtain ⟨i, hi⟩ := List.getElem?_of_mem h
  have hlt := (List.getElem?_eq_some_iff.1 hi).1
  have := cnt_mono bs (Nat.succ_le_of_lt hlt)
  rw [Nat.succ_eq_add_one, cnt_succ hi] at this
  omega

def FW8 (S0 : MS) (bs : List Blk) (m : Nat) (T : FT) (S : MS) : Prop :=
  ∃ k : Nat, k + m = bs.length ∧ cnt bs k ≤ 2501 + 1152921504606846976 ∧ S = S0 ∧ T.get 1 = .pointer (some ⟨S0.n - 1, 0, none⟩) ∧ T.get 3 = .int .i64 (cnt bs k) ∧ T.get 4 = .int .i64 k

theorem few8 {S : MS} {rr : Int} {gv : Value} {bs : List Blk} (hg : Blks S gv bs) (hl : ∀ b ∈ bs, b.ops.length ≤ 1152921504606846976) (hlen : bs.length ≤ 1152921504606846976) {Q : Value → MS → Prop} (hq : ∀ (r : Bool) S', (r = true ↔ cnt bs bs.length ≤ 2500) → Old S S' → Q (.bool r) S') : CallM Try.prog O 8 [fnV rr gv] S Q := by
  refine callM_wf fun wf => ?_
  refine callM_body (fnIs is8 body8 res8) (O_none (by decide)) (by simp) ?_
  refine m_seq (m_reg ?_)
  rw [reg8_0]
  simp (decide := true) only [FT.get_set, FT.setL, faS_ptr, nilS_ptr, nilS_func, nilS_yield, pickS_bool, ldS_ptr, list_cells, list_ro, partS_none, lenSl_of, lenStr_of, cvInt_of, aminmax_max, aminmax_min, abin_add, abin_sub, abin_mul, abin_eql, abin_neq, abin_lss, abin_leq, abin_gtr, abin_geq, aunary_not, aextract, Option.some.injEq, Prod.mk.injEq, Value.bool.injEq, exists_eq_left', exists_and_left, and_assoc, decide_eq_true_eq, decide_eq_false_iff_not, if_true, if_false, Nat.zero_add, Nat.add_zero, Option.bind_some, true_and, and_true, forall_const, true_implies, Bool.not_eq_true, Bool.false_eq_true, false_implies, ite_self, Nat.mul_one, fnV_cells rr hg.one, ptrTo]
  have f1 : Old S (S.fresh [.int .i64 rr, gv] 0) := ⟨Nat.le_succ _, fun y hy => fresh_old _ _ _ (Nat.ne_of_lt hy)⟩
  have hgb := fresh_at S [.int .i64 rr, gv] 0
  have hg1 := hg.keep wf f1.2
  have fin : ∀ (T : FT) (c : Nat), T.get 3 = .int .i64 c → (c ≤ 2500 ↔ cnt bs bs.length ≤ 2500) → MWp Try.prog O 28 (.seq (.region 6 (ro 8 6) false) .ret) T (S.fresh [.int .i64 rr, gv] 0) (fun x T' S' => (match x with | .exit _ => False | _ => True) ∧ ∃ vs, resM Try.prog T' S' [.tmp 2] = some vs ∧ Q (oneOrTuple vs) S') := by
    intro T c t3 hc
    refine m_seq (m_reg ?_)
    rw [reg8_6]
    simp (decide := true) only [FT.get_set, FT.setL, faS_ptr, nilS_ptr, nilS_func, nilS_yield, pickS_bool, ldS_ptr, list_cells, list_ro, partS_none, lenSl_of, lenStr_of, cvInt_of, aminmax_max, aminmax_min, abin_add, abin_sub, abin_mul, abin_eql, abin_neq, abin_lss, abin_leq, abin_gtr, abin_geq, aunary_not, aextract, Option.some.injEq, Prod.mk.injEq, Value.bool.injEq, exists_eq_left', exists_and_left, and_assoc, decide_eq_true_eq, decide_eq_false_iff_not, if_true, if_false, Nat.zero_add, Nat.add_zero, Option.bind_some, true_and, and_true, forall_const, true_implies, Bool.not_eq_true, Bool.false_eq_true, false_implies, ite_self, Nat.mul_one, t3]
    refine m_ret ?_
    simp [resM, FT.get_set, FT.setL, faS_ptr, nilS_ptr, nilS_func, nilS_yield, pickS_bool, ldS_ptr, list_cells, list_ro, partS_none, lenSl_of, lenStr_of, cvInt_of, aminmax_max, aminmax_min, abin_add, abin_sub, abin_mul, abin_eql, abin_neq, abin_lss, abin_leq, abin_gtr, abin_geq, aunary_not, aextract, oneOrTuple]
    refine hq _ _ ?_ f1
    rw [← hc]; simp; omega
  refine m_seq (m_reg ?_)
  rw [reg8_1]
  refine m_seq (m_seq (m_reg ?_))
  rw [reg8_2]
  refine m_block (m_loop (fun m T S' => FW8 (S.fresh [.int .i64 rr, gv] 0) bs m T S') bs.length ⟨0, by omega, by show (0 : Nat) ≤ _; omega, rfl, by simp [FT.get_set, FT.setL, faS_ptr, nilS_ptr, nilS_func, nilS_yield, pickS_bool, ldS_ptr, list_cells, list_ro, partS_none, lenSl_of, lenStr_of, cvInt_of, aminmax_max, aminmax_min, abin_add, abin_sub, abin_mul, abin_eql, abin_neq, abin_lss, abin_leq, abin_gtr, abin_geq, aunary_not, aextract, fresh_n], by simp [FT.get_set, FT.setL, faS_ptr, nilS_ptr, nilS_func, nilS_yield, pickS_bool, ldS_ptr, list_cells, list_ro, partS_none, lenSl_of, lenStr_of, cvInt_of, aminmax_max, aminmax_min, abin_add, abin_sub, abin_mul, abin_eql, abin_neq, abin_lss, abin_leq, abin_gtr, abin_geq, aunary_not, aextract]; rfl, by simp [FT.get_set, FT.setL, faS_ptr, nilS_ptr, nilS_func, nilS_yield, pickS_bool, ldS_ptr, list_cells, list_ro, partS_none, lenSl_of, lenStr_of, cvInt_of, aminmax_max, aminmax_min, abin_add, abin_sub, abin_mul, abin_eql, abin_neq, abin_lss, abin_leq, abin_gtr, abin_geq, aunary_not, aextract]⟩ ?_)
  rintro m T S1 ⟨k, hk, hb, rfl, t1, t3, t4⟩
  simp only [fresh_n, Nat.add_sub_cancel] at t1
  refine m_seq (m_seq (m_reg ?_))
  rw [reg8_3]
  simp (decide := true) only [FT.get_set, FT.setL, faS_ptr, nilS_ptr, nilS_func, nilS_yield, pickS_bool, ldS_ptr, list_cells, list_ro, partS_none, lenSl_of, lenStr_of, cvInt_of, aminmax_max, aminmax_min, abin_add, abin_sub, abin_mul, abin_eql, abin_neq, abin_lss, abin_leq, abin_gtr, abin_geq, aunary_not, aextract, Option.some.injEq, Prod.mk.injEq, Value.bool.injEq, exists_eq_left', exists_and_left, and_assoc, decide_eq_true_eq, decide_eq_false_iff_not, if_true, if_false, Nat.zero_add, Nat.add_zero, Option.bind_some, true_and, and_true, forall_const, true_implies, Bool.not_eq_true, Bool.false_eq_true, false_implies, ite_self, Nat.mul_one, t1, t3, t4, list_of hgb, List.getElem?_cons_zero, List.getElem?_cons_succ, hg.len]
  refine ⟨fun hlt => ?_, fun hlt => ?_⟩
  · by_cases hc : cnt bs k ≤ 2500
    · have hlt : k < bs.length := by omega
      refine m_cond (t := true) (by simp [evalT, FT.get_set, FT.setL, faS_ptr, nilS_ptr, nilS_func, nilS_yield, pickS_bool, ldS_ptr, list_cells, list_ro, partS_none, lenSl_of, lenStr_of, cvInt_of, aminmax_max, aminmax_min, abin_add, abin_sub, abin_mul, abin_eql, abin_neq, abin_lss, abin_leq, abin_gtr, abin_geq, aunary_not, aextract]; omega) (fun _ => m_skip ?_) (fun h => by cases h)
      simp only
      obtain ⟨b, hb⟩ : ∃ b, bs[k]? = some b := ⟨_, List.getElem?_eq_getElem hlt⟩
      have hbm := List.mem_of_getElem? hb
      have hbl := hl b hbm
      obtain ⟨a, cap, l, e1, e2, e3⟩ := hg1.cells (fun e => by rw [e] at hb; cases hb)
      have hia : iaSS 5 gv (.int .i64 (k : Int)) = some (.pointer (some ⟨a, k * 5, none⟩)) := by
        rw [e1, iaSS_of (k := .i64) (i := (k : Int)) (by omega) (by omega : (k : Int) < (bs.length : Int)), Int.toNat_natCast, Nat.zero_add]
      have hls : (S.fresh [.int .i64 rr, gv] 0).list a = some l := by unfold MS.list; rw [e2]; rfl
      have hov : l[k * 5]? = some b.ov := by
        have h5 := e3 k b hb
        unfold partS at h5
        simp only at h5
        split at h5
        · have h6 := Option.some.inj h5
          unfold blkV at h6
          injection h6 with h7
          have h8 := congrArg Array.toList h7
          have h9 : ((l.drop (k * 5)).take 5)[0]? = (blkL b)[0]? := by rw [show (l.drop (k * 5)).take 5 = blkL b from by simpa using h8]
          rw [List.getElem?_take, if_pos (by omega), List.getElem?_drop] at h9
          rw [Nat.add_zero] at h9; rw [h9]; rfl
        · cases h5
      refine m_seq (m_block (m_reg ?_))
      rw [reg8_5]
      have hw1 : IntKind.i64.wrap ((cnt bs k : Int) + 1) = ((cnt bs k + 1 : Nat) : Int) := by rw [wrap_i64 (by omega) (by omega)]; rfl
      have hw2 : IntKind.i64.wrap (((cnt bs k + 1 : Nat) : Int) + (b.ops.length : Int)) = ((cnt bs (k + 1) : Nat) : Int) := by rw [wrap_i64 (by omega) (by omega), cnt_succ hb]; omega
      simp (decide := true) only [FT.get_set, FT.setL, faS_ptr, nilS_ptr, nilS_func, nilS_yield, pickS_bool, ldS_ptr, list_cells, list_ro, partS_none, lenSl_of, lenStr_of, cvInt_of, aminmax_max, aminmax_min, abin_add, abin_sub, abin_mul, abin_eql, abin_neq, abin_lss, abin_leq, abin_gtr, abin_geq, aunary_not, aextract, Option.some.injEq, Prod.mk.injEq, Value.bool.injEq, exists_eq_left', exists_and_left, and_assoc, decide_eq_true_eq, decide_eq_false_iff_not, if_true, if_false, Nat.zero_add, Nat.add_zero, Option.bind_some, true_and, and_true, forall_const, true_implies, Bool.not_eq_true, Bool.false_eq_true, false_implies, ite_self, Nat.mul_one, t1, t3, t4, list_of hgb, List.getElem?_cons_zero, List.getElem?_cons_succ, hia, hls, hov, (hg1.ops b hbm).len, hw1, hw2]
      refine m_reg ?_
      rw [reg8_4]
      have hw : IntKind.i64.wrap ((k : Int) + 1) = ((k + 1 : Nat) : Int) := by rw [wrap_i64 (by omega) (by omega)]; rfl
      simp (decide := true) only [FT.get_set, FT.setL, faS_ptr, nilS_ptr, nilS_func, nilS_yield, pickS_bool, ldS_ptr, list_cells, list_ro, partS_none, lenSl_of, lenStr_of, cvInt_of, aminmax_max, aminmax_min, abin_add, abin_sub, abin_mul, abin_eql, abin_neq, abin_lss, abin_leq, abin_gtr, abin_geq, aunary_not, aextract, Option.some.injEq, Prod.mk.injEq, Value.bool.injEq, exists_eq_left', exists_and_left, and_assoc, decide_eq_true_eq, decide_eq_false_iff_not, if_true, if_false, Nat.zero_add, Nat.add_zero, Option.bind_some, true_and, and_true, forall_const, true_implies, Bool.not_eq_true, Bool.false_eq_true, false_implies, ite_self, Nat.mul_one, t4, hw]
      refine ⟨m - 1, by omega, k + 1, by omega, by rw [cnt_succ hb]; omega, rfl, by simp [FT.get_set, FT.setL, faS_ptr, nilS_ptr, nilS_func, nilS_yield, pickS_bool, ldS_ptr, list_cells, list_ro, partS_none, lenSl_of, lenStr_of, cvInt_of, aminmax_max, aminmax_min, abin_add, abin_sub, abin_mul, abin_eql, abin_neq, abin_lss, abin_leq, abin_gtr, abin_geq, aunary_not, aextract, t1, fresh_n], by simp [FT.get_set, FT.setL, faS_ptr, nilS_ptr, nilS_func, nilS_yield, pickS_bool, ldS_ptr, list_cells, list_ro, partS_none, lenSl_of, lenStr_of, cvInt_of, aminmax_max, aminmax_min, abin_add, abin_sub, abin_mul, abin_eql, abin_neq, abin_lss, abin_leq, abin_gtr, abin_geq, aunary_not, aextract], by simp [FT.get_set, FT.setL, faS_ptr, nilS_ptr, nilS_func, nilS_yield, pickS_bool, ldS_ptr, list_cells, list_ro, partS_none, lenSl_of, lenStr_of, cvInt_of, aminmax_max, aminmax_min, abin_add, abin_sub, abin_mul, abin_eql, abin_neq, abin_lss, abin_leq, abin_gtr, abin_geq, aunary_not, aextract]⟩
    · refine m_cond (t := false) (by simp [evalT, FT.get_set, FT.setL, faS_ptr, nilS_ptr, nilS_func, nilS_yield, pickS_bool, ldS_ptr, list_cells, list_ro, partS_none, lenSl_of, lenStr_of, cvInt_of, aminmax_max, aminmax_min, abin_add, abin_sub, abin_mul, abin_eql, abin_neq, abin_lss, abin_leq, abin_gtr, abin_geq, aunary_not, aextract]; omega) (fun h => by cases h) (fun _ => m_exit ?_)
      simp only [if_true]
      refine fin _ (cnt bs k) (by simp [FT.get_set, FT.setL, faS_ptr, nilS_ptr, nilS_func, nilS_yield, pickS_bool, ldS_ptr, list_cells, list_ro, partS_none, lenSl_of, lenStr_of, cvInt_of, aminmax_max, aminmax_min, abin_add, abin_sub, abin_mul, abin_eql, abin_neq, abin_lss, abin_leq, abin_gtr, abin_geq, aunary_not, aextract, t3]) ⟨fun h => absurd h hc, fun h => ?_⟩
      have := cnt_mono bs (show k ≤ bs.length by omega)
      omega
  · have hkn : k = bs.length := by have hlt : ¬ (k : Int) < (bs.length : Int) := hlt; omega
    refine m_cond (t := false) (by simp [evalT, FT.get_set, FT.setL, faS_ptr, nilS_ptr, nilS_func, nilS_yield, pickS_bool, ldS_ptr, list_cells, list_ro, partS_none, lenSl_of, lenStr_of, cvInt_of, aminmax_max, aminmax_min, abin_add, abin_sub, abin_mul, abin_eql, abin_neq, abin_lss, abin_leq, abin_gtr, abin_geq, aunary_not, aextract, hkn]) (fun h => by cases h) (fun _ => m_exit ?_)
    simp only [if_true]
    exact fin _ (cnt bs k) (by simp [FT.get_set, FT.setL, faS_ptr, nilS_ptr, nilS_func, nilS_yield, pickS_bool, ldS_ptr, list_cells, list_ro, partS_none, lenSl_of, lenStr_of, cvInt_of, aminmax_max, aminmax_min, abin_add, abin_sub, abin_mul, abin_eql, abin_neq, abin_lss, abin_leq, abin_gtr, abin_geq, aunary_not, aextract, t3]) (by rw [hkn])
end Go.Proofs.Ytgkdmnfmfcdfmaa

