/-
  The walk through both clocks' code: what its functions do to memory, part PlC. Nothing is asked.
-/
import Derived.Test.YthkmkfgfabjhnaaPlB
set_option linter.all false
namespace Go.Proofs.Ythkmkfgfabjhnaa
open Go Go.Ag
set_option linter.unusedVariables false
set_option maxRecDepth 100000

theorem SlF.lt_of {α : Type} {f : α → List Value} {sz : Nat} {S : MS} {B : Nat} {v : Value} {l : List α} (h : SlF f sz S B v l) (wf : S.WF) {y : Nat} (hy : ¬ Av v y) : y < S.n := by
  refine Classical.byContradiction fun hge => hy (h.avN wf (by omega))

/-- the first ones of a slice -/
theorem SlF.pre {α : Type} {f : α → List Value} {sz : Nat} (hfl : ∀ a, (f a).length = sz) (hsz : 0 < sz) {S : MS} {B : Nat} {v : Value} {l : List α} {j : Nat} (h : SlF f sz S B v l) (hj : j ≤ l.length) : ∃ v', slS sz S v none (some (.int .i64 (j : Int))) none = some v' ∧ SlF f sz S B v' (l.take j) := by
  cases h with
  | non =>
    have : j = 0 := by simpa using hj
    subst this
    exact ⟨.slice none 0 0, rfl, by rw [List.take_zero]; exact .non⟩
  | own hb hB hc hjn =>
    rename_i b cap junk
    have hN : ((l ++ junk).flatMap f).length = (l ++ junk).length * sz := fm_len hfl _
    have e := slS_part (low := none) (high := some (.int .i64 (j : Int))) (i := 0) (j := j) (len := l.length) hb hsz hN hjn (by simp) (Nat.zero_le _) (by simp; omega) hc (.inl ⟨rfl, rfl⟩) (.inr rfl)
    have c0 : (if cap = unk then unk else cap - 0) = cap := by split <;> omega
    rw [c0, Nat.zero_mul, Nat.sub_zero] at e
    refine ⟨_, e, ?_⟩
    have hl : j = (l.take j).length := by rw [List.length_take]; omega
    have hcat : l.take j ++ (l.drop j ++ junk) = l ++ junk := by rw [← List.append_assoc, List.take_append_drop]
    have := SlF.own (f := f) (sz := sz) (S := S) (B := B) (b := b) (cap := cap) (l := l.take j) (junk := l.drop j ++ junk) (by rw [hcat]; exact hb) hB (by rw [hcat]; exact hc) (by rw [hcat]; exact hjn)
    rw [← hl] at this
    exact this

theorem eql_own (x y : Operand) (a : Addr) (n c : Nat) : abin Try.prog .eql 35 x y (.slice (some a) n c) (.slice none 0 0) = some (.bool false) := by
  have e0 : abin Try.prog .eql 35 x y (.slice (some a) n c) (.slice none 0 0) = aeqOp Try.prog .eql 35 x y (.slice (some a) n c) (.slice none 0 0) := by unfold abin; rfl
  rw [e0]
  unfold aeqOp
  rw [show Op.maxDepth = (Op.maxDepth - 1) + 1 from rfl, aeq_slice_nil _ _ _ _ _ _ under35]
  rfl

theorem clone19 {S : MS} {B : Nat} {w : Value} {l : List Tm} (h : SlF tmL 4 S B w l) (hl : l.length ≤ 100000) {Q : Value → MS → Prop} (hq : ∀ v S', Old S S' → SlF tmL 4 S' S.n v l → Q v S') : CallM Try.prog O 19 [w] S Q := by
  refine callM_wf fun wf => ?_
  refine callM_body (fnIs is19 body19 res19) (O_none (by decide)) (by simp) ?_
  refine m_seq (m_reg ?_)
  rw [reg19_0]
  refine m_seq (m_seq (m_reg ?_))
  rw [reg19_1]
  cases h with
  | non =>
    simp (decide := true) only [FT.get_set, FT.setL, faS_ptr, nilS_ptr, nilS_func, nilS_yield, pickS_bool, ldS_ptr, list_cells, list_ro, partS_none, lenSl_of, lenStr_of, cvInt_of, aminmax_max, aminmax_min, abin_add, abin_sub, abin_mul, abin_eql, abin_neq, abin_lss, abin_leq, abin_gtr, abin_geq, aunary_not, aextract, Option.some.injEq, Prod.mk.injEq, Value.bool.injEq, exists_eq_left', exists_and_left, and_assoc, decide_eq_true_eq, decide_eq_false_iff_not, if_true, if_false, Nat.zero_add, Nat.add_zero, Option.bind_some, true_and, and_true, forall_const, true_implies, Bool.not_eq_true, Bool.false_eq_true, false_implies, ite_self, Nat.mul_one, eql_nil]
    refine m_cond (t := true) (by simp [evalT, FT.get_set, FT.setL, faS_ptr, nilS_ptr, nilS_func, nilS_yield, pickS_bool, ldS_ptr, list_cells, list_ro, partS_none, lenSl_of, lenStr_of, cvInt_of, aminmax_max, aminmax_min, abin_add, abin_sub, abin_mul, abin_eql, abin_neq, abin_lss, abin_leq, abin_gtr, abin_geq, aunary_not, aextract]) (fun _ => ?_) (fun h => by cases h)
    refine m_seq (m_reg ?_)
    rw [reg19_2]
    refine m_ret ?_
    simp [resM, FT.get_set, FT.setL, faS_ptr, nilS_ptr, nilS_func, nilS_yield, pickS_bool, ldS_ptr, list_cells, list_ro, partS_none, lenSl_of, lenStr_of, cvInt_of, aminmax_max, aminmax_min, abin_add, abin_sub, abin_mul, abin_eql, abin_neq, abin_lss, abin_leq, abin_gtr, abin_geq, aunary_not, aextract, oneOrTuple]
    exact hq _ _ (Old.refl S) .non
  | own hb hB hc hj =>
    rename_i b cap junk
    simp (decide := true) only [FT.get_set, FT.setL, faS_ptr, nilS_ptr, nilS_func, nilS_yield, pickS_bool, ldS_ptr, list_cells, list_ro, partS_none, lenSl_of, lenStr_of, cvInt_of, aminmax_max, aminmax_min, abin_add, abin_sub, abin_mul, abin_eql, abin_neq, abin_lss, abin_leq, abin_gtr, abin_geq, aunary_not, aextract, Option.some.injEq, Prod.mk.injEq, Value.bool.injEq, exists_eq_left', exists_and_left, and_assoc, decide_eq_true_eq, decide_eq_false_iff_not, if_true, if_false, Nat.zero_add, Nat.add_zero, Option.bind_some, true_and, and_true, forall_const, true_implies, Bool.not_eq_true, Bool.false_eq_true, false_implies, ite_self, Nat.mul_one, eql_own]
    refine m_cond (t := false) (by simp [evalT, FT.get_set, FT.setL, faS_ptr, nilS_ptr, nilS_func, nilS_yield, pickS_bool, ldS_ptr, list_cells, list_ro, partS_none, lenSl_of, lenStr_of, cvInt_of, aminmax_max, aminmax_min, abin_add, abin_sub, abin_mul, abin_eql, abin_neq, abin_lss, abin_leq, abin_gtr, abin_geq, aunary_not, aextract]) (fun h => by cases h) (fun _ => m_skip ?_)
    simp only
    refine m_seq (m_reg ?_)
    rw [reg19_3]
    have e0 : bsS S 0 4 [] [] = some (.slice (some ⟨S.n, 0, none⟩) 0 0, S.fresh [] 4) := rfl
    have wf1 := wf_fresh' wf [] 4
    have hnil : SlF tmL 4 (S.fresh [] 4) S.n (.slice (some ⟨S.n, 0, none⟩) 0 0) [] := .own (l := []) (junk := []) (fresh_at S [] 4) (Nat.le_refl _) (.inr ⟨by decide, rfl⟩) (by simp)
    have hsl : SlF tmL 4 (S.fresh [] 4) B (.slice (some ⟨b, 0, none⟩) l.length cap) l := (SlF.own hb hB hc hj : SlF tmL 4 S B (.slice (some ⟨b, 0, none⟩) l.length cap) l).keep fun y k hy => fresh_old _ _ _ (Nat.ne_of_lt (wf y k hy))
    obtain ⟨v', S1, a1, a2, a3, a4, a5⟩ := hnil.app2 (bytes := 56) (z := [.int .i64 0, .int .i64 0, .string ⟨⟨[]⟩⟩, .slice none 0 0]) tm_len tm_one (by decide) (x := .slice (some ⟨b, 0, none⟩) l.length cap) (new := l) wf1 (by simp only [fresh_n]; omega) hsl.len (hsl.cells tm_len) (by simp; omega) (by simp; omega)
    rw [List.nil_append] at a2
    simp (decide := true) only [FT.get_set, FT.setL, faS_ptr, nilS_ptr, nilS_func, nilS_yield, pickS_bool, ldS_ptr, list_cells, list_ro, partS_none, lenSl_of, lenStr_of, cvInt_of, aminmax_max, aminmax_min, abin_add, abin_sub, abin_mul, abin_eql, abin_neq, abin_lss, abin_leq, abin_gtr, abin_geq, aunary_not, aextract, Option.some.injEq, Prod.mk.injEq, Value.bool.injEq, exists_eq_left', exists_and_left, and_assoc, decide_eq_true_eq, decide_eq_false_iff_not, if_true, if_false, Nat.zero_add, Nat.add_zero, Option.bind_some, true_and, and_true, forall_const, true_implies, Bool.not_eq_true, Bool.false_eq_true, false_implies, ite_self, Nat.mul_one, e0, a1]
    refine m_ret ?_
    simp [resM, FT.get_set, FT.setL, faS_ptr, nilS_ptr, nilS_func, nilS_yield, pickS_bool, ldS_ptr, list_cells, list_ro, partS_none, lenSl_of, lenStr_of, cvInt_of, aminmax_max, aminmax_min, abin_add, abin_sub, abin_mul, abin_eql, abin_neq, abin_lss, abin_leq, abin_gtr, abin_geq, aunary_not, aextract, oneOrTuple]
    refine hq _ _ ⟨by simp only [fresh_n] at a3; omega, fun y hy => ?_⟩ a2
    rw [a4 y (by simp only [fresh_n]; omega) (fun l c e => by cases e; omega), fresh_old _ _ _ (by omega)]

def cl0 (x : Int) : Int := if x < 0 ∨ x > 1099511627776 then 0 else x
def cl1 (x : Int) : Int := if x < 1 ∨ x > 1099511627776 then 1 else x

theorem min12 (n : Nat) : (if (12 : Int) < (n : Int) then (12 : Int) else (n : Int)) = ((min n 12 : Nat) : Int) := by
  split <;> omega

/-- New -/
theorem new7g {S : MS} {B : Nat} {v0 : Value} {fs : List Tm} (now next : Int) (h : SlF tmL 4 S B v0 fs) (hf : fs.length ≤ 100000) {Q : Value → MS → Prop} (hq : ∀ c w S', Old S S' → S.n ≤ c → c < S'.n → IsC S' c S.n (cl0 now) (cl1 next) w (isort (fs.take 12)) → Q (.pointer (some ⟨c, 0, none⟩)) S') : CallM Try.prog O 7 [.int .i64 now, .int .i64 next, v0] S Q := by
  refine callM_body (fnIs is7 body7 res7) (O_none (by decide)) (by simp) ?_
  refine m_seq (m_reg ?_)
  rw [reg7_0]
  refine m_seq (m_reg ?_)
  rw [reg7_1]
  obtain ⟨v1, p1, p2⟩ := SlF.pre tm_len (by decide) h (Nat.min_le_left fs.length 12)
  have ht : fs.take (min fs.length 12) = fs.take 12 := by
    rcases Nat.le_total fs.length 12 with h | h
    · rw [Nat.min_eq_left h, List.take_length, List.take_of_length_le h]
    · rw [Nat.min_eq_right h]
  rw [ht] at p2
  simp (decide := true) only [FT.get_set, FT.setL, faS_ptr, nilS_ptr, nilS_func, nilS_yield, pickS_bool, ldS_ptr, list_cells, list_ro, partS_none, lenSl_of, lenStr_of, cvInt_of, aminmax_max, aminmax_min, abin_add, abin_sub, abin_mul, abin_eql, abin_neq, abin_lss, abin_leq, abin_gtr, abin_geq, aunary_not, aextract, Option.some.injEq, Prod.mk.injEq, Value.bool.injEq, exists_eq_left', exists_and_left, and_assoc, decide_eq_true_eq, decide_eq_false_iff_not, if_true, if_false, Nat.zero_add, Nat.add_zero, Option.bind_some, true_and, and_true, forall_const, true_implies, Bool.not_eq_true, Bool.false_eq_true, false_implies, ite_self, Nat.mul_one, h.lenSl, min12, p1]
  refine callM_wf_post (clone19 p2 (by rw [List.length_take]; omega) fun v2 S1 f1 hv2 wf1 => ?_)
  have hlen : (fs.take 12).length ≤ 12 := by rw [List.length_take]; omega
  have e3 : bdS (fun i => [(0, 1), (1, 1), (2, 1)][i]?) [.int .i64 0, .int .i64 0, .slice none 0 0] [(0, .int .i64 now), (1, .int .i64 next), (2, v2)] = some (.agg #[.int .i64 now, .int .i64 next, v2]) := by
    simp [bdS, fillL, spliceL, (SlF.one hv2).1, cells_int]
  have hcl : (Value.cells (.agg #[.int .i64 now, .int .i64 next, v2])).toList = [.int .i64 now, .int .i64 next, v2] := rfl
  simp (decide := true) only [FT.get_set, FT.setL, faS_ptr, nilS_ptr, nilS_func, nilS_yield, pickS_bool, ldS_ptr, list_cells, list_ro, partS_none, lenSl_of, lenStr_of, cvInt_of, aminmax_max, aminmax_min, abin_add, abin_sub, abin_mul, abin_eql, abin_neq, abin_lss, abin_leq, abin_gtr, abin_geq, aunary_not, aextract, Option.some.injEq, Prod.mk.injEq, Value.bool.injEq, exists_eq_left', exists_and_left, and_assoc, decide_eq_true_eq, decide_eq_false_iff_not, if_true, if_false, Nat.zero_add, Nat.add_zero, Option.bind_some, true_and, and_true, forall_const, true_implies, Bool.not_eq_true, Bool.false_eq_true, false_implies, ite_self, Nat.mul_one, e3, ptrTo, hcl]
  have f2 := old_fresh S1 [.int .i64 now, .int .i64 next, v2] 0
  have hc := fresh_at S1 [.int .i64 now, .int .i64 next, v2] 0
  have hv2' : SlF tmL 4 (S1.fresh [.int .i64 now, .int .i64 next, v2] 0) S.n v2 (fs.take 12) := hv2.keep fun y k hy => f2.2 y (wf1 y k hy)
  have hav : Av v2 S1.n := hv2.avN wf1 (Nat.le_refl _)
  have hn1 := f1.1
  -- the numbers
  have fin : ∀ (T : FT) (S2 : MS), T.get 7 = .pointer (some ⟨S1.n, 0, none⟩) → S2.n = S1.n + 1 → (∀ y, y ≠ S1.n → S2.m y = (S1.fresh [.int .i64 now, .int .i64 next, v2] 0).m y) → S2.m S1.n = some (.cells [.int .i64 (cl0 now), .int .i64 (cl1 next), v2] 0) →
      MWp Try.prog O 42 (.seq (.region 6 (ro 7 6) false) (.seq (.region 7 (ro 7 7) false) .ret)) T S2 (fun x T' S' => (match x with | .exit _ => False | _ => True) ∧ ∃ vs, resM Try.prog T' S' [.tmp 6] = some vs ∧ Q (oneOrTuple vs) S') := by
    intro T S2 t7 n2 g2 hc2
    refine m_seq (m_reg ?_)
    rw [reg7_6]
    have hv3 : SlF tmL 4 S2 S.n v2 (fs.take 12) := hv2'.keep1 fun y k hy _ => g2 y fun e => by subst e; exact hy hav
    simp (decide := true) only [FT.get_set, FT.setL, faS_ptr, nilS_ptr, nilS_func, nilS_yield, pickS_bool, ldS_ptr, list_cells, list_ro, partS_none, lenSl_of, lenStr_of, cvInt_of, aminmax_max, aminmax_min, abin_add, abin_sub, abin_mul, abin_eql, abin_neq, abin_lss, abin_leq, abin_gtr, abin_geq, aunary_not, aextract, Option.some.injEq, Prod.mk.injEq, Value.bool.injEq, exists_eq_left', exists_and_left, and_assoc, decide_eq_true_eq, decide_eq_false_iff_not, if_true, if_false, Nat.zero_add, Nat.add_zero, Option.bind_some, true_and, and_true, forall_const, true_implies, Bool.not_eq_true, Bool.false_eq_true, false_implies, ite_self, Nat.mul_one, t7, list_of hc2, List.getElem?_cons_zero, List.getElem?_cons_succ]
    refine sortSl hv3 (by omega) fun S' g1 g2' g3 => ?_
    refine m_seq (m_reg ?_)
    rw [reg7_7]
    refine m_ret ?_
    simp [resM, FT.get_set, FT.setL, faS_ptr, nilS_ptr, nilS_func, nilS_yield, pickS_bool, ldS_ptr, list_cells, list_ro, partS_none, lenSl_of, lenStr_of, cvInt_of, aminmax_max, aminmax_min, abin_add, abin_sub, abin_mul, abin_eql, abin_neq, abin_lss, abin_leq, abin_gtr, abin_geq, aunary_not, aextract, oneOrTuple, t7]
    refine hq S1.n v2 S' ⟨by omega, fun y hy => ?_⟩ hn1 (by omega) ⟨by rw [g2' S1.n (by omega) hav]; exact hc2, g3, hav⟩
    rw [g2' y (by omega) (hv2.av hy), g2 y (by omega), f2.2 y (by omega), f1.2 y hy]
  have mid : ∀ (T : FT) (S2 : MS), T.get 1 = .int .i64 next → T.get 7 = .pointer (some ⟨S1.n, 0, none⟩) → S2.n = S1.n + 1 → (∀ y, y ≠ S1.n → S2.m y = (S1.fresh [.int .i64 now, .int .i64 next, v2] 0).m y) → S2.m S1.n = some (.cells [.int .i64 (cl0 now), .int .i64 next, v2] 0) →
      MWp Try.prog O 42 (.seq (.seq (.region 4 (ro 7 4) false) (.cond (.tmp 32) (.region 5 (ro 7 5) false) .skip)) (.seq (.region 6 (ro 7 6) false) (.seq (.region 7 (ro 7 7) false) .ret))) T S2 (fun x T' S' => (match x with | .exit _ => False | _ => True) ∧ ∃ vs, resM Try.prog T' S' [.tmp 6] = some vs ∧ Q (oneOrTuple vs) S') := by
    intro T S2 t1 t7 n2 g2 hc2
    have set1 : ∀ (T : FT), T.get 32 = .bool true → T.get 7 = .pointer (some ⟨S1.n, 0, none⟩) → cl1 next = 1 → MWp Try.prog O 42 (.cond (.tmp 32) (.region 5 (ro 7 5) false) .skip) T S2 (fun x T1 S1' => match x with
        | .normal => MWp Try.prog O 42 (.seq (.region 6 (ro 7 6) false) (.seq (.region 7 (ro 7 7) false) .ret)) T1 S1' (fun x T' S' => (match x with | .exit _ => False | _ => True) ∧ ∃ vs, resM Try.prog T' S' [.tmp 6] = some vs ∧ Q (oneOrTuple vs) S')
        | x => (match x with | .exit _ => False | _ => True) ∧ ∃ vs, resM Try.prog T1 S1' [.tmp 6] = some vs ∧ Q (oneOrTuple vs) S1') := by
      intro T h32 t7 hcl1
      refine m_cond (t := true) h32 (fun _ => m_reg ?_) (fun h => by cases h)
      rw [reg7_5]
      obtain ⟨S3, u1, u2, u3, u4⟩ := st_one (off := 1) (v := .int .i64 1) hc2 (by simp) rfl rfl
      simp (decide := true) only [FT.get_set, FT.setL, faS_ptr, nilS_ptr, nilS_func, nilS_yield, pickS_bool, ldS_ptr, list_cells, list_ro, partS_none, lenSl_of, lenStr_of, cvInt_of, aminmax_max, aminmax_min, abin_add, abin_sub, abin_mul, abin_eql, abin_neq, abin_lss, abin_leq, abin_gtr, abin_geq, aunary_not, aextract, Option.some.injEq, Prod.mk.injEq, Value.bool.injEq, exists_eq_left', exists_and_left, and_assoc, decide_eq_true_eq, decide_eq_false_iff_not, if_true, if_false, Nat.zero_add, Nat.add_zero, Option.bind_some, true_and, and_true, forall_const, true_implies, Bool.not_eq_true, Bool.false_eq_true, false_implies, ite_self, Nat.mul_one, t7]
      refine ⟨S3, by simpa using u1, ?_⟩
      refine fin _ S3 (by simp [FT.get_set, FT.setL, faS_ptr, nilS_ptr, nilS_func, nilS_yield, pickS_bool, ldS_ptr, list_cells, list_ro, partS_none, lenSl_of, lenStr_of, cvInt_of, aminmax_max, aminmax_min, abin_add, abin_sub, abin_mul, abin_eql, abin_neq, abin_lss, abin_leq, abin_gtr, abin_geq, aunary_not, aextract, t7]) (by omega) (fun y hy => by rw [u4 y hy, g2 y hy]) (by rw [u2, hcl1]; rfl)
    refine m_seq (m_seq (m_reg ?_))
    rw [reg7_4]
    by_cases h1 : next < 1
    · have d1 : decide (next < 1) = true := decide_eq_true h1
      simp (decide := true) only [FT.get_set, FT.setL, faS_ptr, nilS_ptr, nilS_func, nilS_yield, pickS_bool, ldS_ptr, list_cells, list_ro, partS_none, lenSl_of, lenStr_of, cvInt_of, aminmax_max, aminmax_min, abin_add, abin_sub, abin_mul, abin_eql, abin_neq, abin_lss, abin_leq, abin_gtr, abin_geq, aunary_not, aextract, Option.some.injEq, Prod.mk.injEq, Value.bool.injEq, exists_eq_left', exists_and_left, and_assoc, decide_eq_true_eq, decide_eq_false_iff_not, if_true, if_false, Nat.zero_add, Nat.add_zero, Option.bind_some, true_and, and_true, forall_const, true_implies, Bool.not_eq_true, Bool.false_eq_true, false_implies, ite_self, Nat.mul_one, t1, d1]
      exact set1 _ (by simp [FT.get_set, FT.setL, faS_ptr, nilS_ptr, nilS_func, nilS_yield, pickS_bool, ldS_ptr, list_cells, list_ro, partS_none, lenSl_of, lenStr_of, cvInt_of, aminmax_max, aminmax_min, abin_add, abin_sub, abin_mul, abin_eql, abin_neq, abin_lss, abin_leq, abin_gtr, abin_geq, aunary_not, aextract]) (by simp [FT.get_set, FT.setL, faS_ptr, nilS_ptr, nilS_func, nilS_yield, pickS_bool, ldS_ptr, list_cells, list_ro, partS_none, lenSl_of, lenStr_of, cvInt_of, aminmax_max, aminmax_min, abin_add, abin_sub, abin_mul, abin_eql, abin_neq, abin_lss, abin_leq, abin_gtr, abin_geq, aunary_not, aextract, t7]) (by unfold cl1; rw [if_pos (.inl h1)])
    · have d1 : decide (next < 1) = false := decide_eq_false h1
      by_cases h2 : next > 1099511627776
      · have d2 : decide (next > 1099511627776) = true := decide_eq_true h2
        simp (decide := true) only [FT.get_set, FT.setL, faS_ptr, nilS_ptr, nilS_func, nilS_yield, pickS_bool, ldS_ptr, list_cells, list_ro, partS_none, lenSl_of, lenStr_of, cvInt_of, aminmax_max, aminmax_min, abin_add, abin_sub, abin_mul, abin_eql, abin_neq, abin_lss, abin_leq, abin_gtr, abin_geq, aunary_not, aextract, Option.some.injEq, Prod.mk.injEq, Value.bool.injEq, exists_eq_left', exists_and_left, and_assoc, decide_eq_true_eq, decide_eq_false_iff_not, if_true, if_false, Nat.zero_add, Nat.add_zero, Option.bind_some, true_and, and_true, forall_const, true_implies, Bool.not_eq_true, Bool.false_eq_true, false_implies, ite_self, Nat.mul_one, t1, d1, d2]
        exact set1 _ (by simp [FT.get_set, FT.setL, faS_ptr, nilS_ptr, nilS_func, nilS_yield, pickS_bool, ldS_ptr, list_cells, list_ro, partS_none, lenSl_of, lenStr_of, cvInt_of, aminmax_max, aminmax_min, abin_add, abin_sub, abin_mul, abin_eql, abin_neq, abin_lss, abin_leq, abin_gtr, abin_geq, aunary_not, aextract]) (by simp [FT.get_set, FT.setL, faS_ptr, nilS_ptr, nilS_func, nilS_yield, pickS_bool, ldS_ptr, list_cells, list_ro, partS_none, lenSl_of, lenStr_of, cvInt_of, aminmax_max, aminmax_min, abin_add, abin_sub, abin_mul, abin_eql, abin_neq, abin_lss, abin_leq, abin_gtr, abin_geq, aunary_not, aextract, t7]) (by unfold cl1; rw [if_pos (.inr h2)])
      · have d2 : decide (next > 1099511627776) = false := decide_eq_false h2
        simp (decide := true) only [FT.get_set, FT.setL, faS_ptr, nilS_ptr, nilS_func, nilS_yield, pickS_bool, ldS_ptr, list_cells, list_ro, partS_none, lenSl_of, lenStr_of, cvInt_of, aminmax_max, aminmax_min, abin_add, abin_sub, abin_mul, abin_eql, abin_neq, abin_lss, abin_leq, abin_gtr, abin_geq, aunary_not, aextract, Option.some.injEq, Prod.mk.injEq, Value.bool.injEq, exists_eq_left', exists_and_left, and_assoc, decide_eq_true_eq, decide_eq_false_iff_not, if_true, if_false, Nat.zero_add, Nat.add_zero, Option.bind_some, true_and, and_true, forall_const, true_implies, Bool.not_eq_true, Bool.false_eq_true, false_implies, ite_self, Nat.mul_one, t1, d1, d2]
        refine m_cond (t := false) (by simp [evalT, FT.get_set, FT.setL, faS_ptr, nilS_ptr, nilS_func, nilS_yield, pickS_bool, ldS_ptr, list_cells, list_ro, partS_none, lenSl_of, lenStr_of, cvInt_of, aminmax_max, aminmax_min, abin_add, abin_sub, abin_mul, abin_eql, abin_neq, abin_lss, abin_leq, abin_gtr, abin_geq, aunary_not, aextract]) (fun h => by cases h) (fun _ => m_skip ?_)
        simp only
        refine fin _ S2 (by simp [FT.get_set, FT.setL, faS_ptr, nilS_ptr, nilS_func, nilS_yield, pickS_bool, ldS_ptr, list_cells, list_ro, partS_none, lenSl_of, lenStr_of, cvInt_of, aminmax_max, aminmax_min, abin_add, abin_sub, abin_mul, abin_eql, abin_neq, abin_lss, abin_leq, abin_gtr, abin_geq, aunary_not, aextract, t7]) n2 g2 ?_
        have : cl1 next = next := by unfold cl1; rw [if_neg (by omega)]
        rw [this]; exact hc2
  have set0 : ∀ (T : FT), T.get 23 = .bool true → T.get 1 = .int .i64 next → T.get 7 = .pointer (some ⟨S1.n, 0, none⟩) → cl0 now = 0 → MWp Try.prog O 42 (.cond (.tmp 23) (.region 3 (ro 7 3) false) .skip) T (S1.fresh [.int .i64 now, .int .i64 next, v2] 0) (fun x T1 S1' => match x with
      | .normal => MWp Try.prog O 42 (.seq (.seq (.region 4 (ro 7 4) false) (.cond (.tmp 32) (.region 5 (ro 7 5) false) .skip)) (.seq (.region 6 (ro 7 6) false) (.seq (.region 7 (ro 7 7) false) .ret))) T1 S1' (fun x T' S' => (match x with | .exit _ => False | _ => True) ∧ ∃ vs, resM Try.prog T' S' [.tmp 6] = some vs ∧ Q (oneOrTuple vs) S')
      | x => (match x with | .exit _ => False | _ => True) ∧ ∃ vs, resM Try.prog T1 S1' [.tmp 6] = some vs ∧ Q (oneOrTuple vs) S1') := by
    intro T h23 t1 t7 hcl0
    refine m_cond (t := true) h23 (fun _ => m_reg ?_) (fun h => by cases h)
    rw [reg7_3]
    obtain ⟨S3, u1, u2, u3, u4⟩ := st_one (off := 0) (v := .int .i64 0) hc (by simp) rfl rfl
    simp (decide := true) only [FT.get_set, FT.setL, faS_ptr, nilS_ptr, nilS_func, nilS_yield, pickS_bool, ldS_ptr, list_cells, list_ro, partS_none, lenSl_of, lenStr_of, cvInt_of, aminmax_max, aminmax_min, abin_add, abin_sub, abin_mul, abin_eql, abin_neq, abin_lss, abin_leq, abin_gtr, abin_geq, aunary_not, aextract, Option.some.injEq, Prod.mk.injEq, Value.bool.injEq, exists_eq_left', exists_and_left, and_assoc, decide_eq_true_eq, decide_eq_false_iff_not, if_true, if_false, Nat.zero_add, Nat.add_zero, Option.bind_some, true_and, and_true, forall_const, true_implies, Bool.not_eq_true, Bool.false_eq_true, false_implies, ite_self, Nat.mul_one, t7]
    refine ⟨S3, u1, ?_⟩
    refine mid _ S3 (by simp [FT.get_set, FT.setL, faS_ptr, nilS_ptr, nilS_func, nilS_yield, pickS_bool, ldS_ptr, list_cells, list_ro, partS_none, lenSl_of, lenStr_of, cvInt_of, aminmax_max, aminmax_min, abin_add, abin_sub, abin_mul, abin_eql, abin_neq, abin_lss, abin_leq, abin_gtr, abin_geq, aunary_not, aextract, t1]) (by simp [FT.get_set, FT.setL, faS_ptr, nilS_ptr, nilS_func, nilS_yield, pickS_bool, ldS_ptr, list_cells, list_ro, partS_none, lenSl_of, lenStr_of, cvInt_of, aminmax_max, aminmax_min, abin_add, abin_sub, abin_mul, abin_eql, abin_neq, abin_lss, abin_leq, abin_gtr, abin_geq, aunary_not, aextract, t7]) u3 (fun y hy => u4 y hy) (by rw [u2, hcl0]; rfl)
  refine m_seq (m_seq (m_reg ?_))
  rw [reg7_2]
  by_cases h1 : now < 0
  · have d1 : decide (now < 0) = true := decide_eq_true h1
    simp (decide := true) only [FT.get_set, FT.setL, faS_ptr, nilS_ptr, nilS_func, nilS_yield, pickS_bool, ldS_ptr, list_cells, list_ro, partS_none, lenSl_of, lenStr_of, cvInt_of, aminmax_max, aminmax_min, abin_add, abin_sub, abin_mul, abin_eql, abin_neq, abin_lss, abin_leq, abin_gtr, abin_geq, aunary_not, aextract, Option.some.injEq, Prod.mk.injEq, Value.bool.injEq, exists_eq_left', exists_and_left, and_assoc, decide_eq_true_eq, decide_eq_false_iff_not, if_true, if_false, Nat.zero_add, Nat.add_zero, Option.bind_some, true_and, and_true, forall_const, true_implies, Bool.not_eq_true, Bool.false_eq_true, false_implies, ite_self, Nat.mul_one, d1]
    exact set0 _ (by simp [FT.get_set, FT.setL, faS_ptr, nilS_ptr, nilS_func, nilS_yield, pickS_bool, ldS_ptr, list_cells, list_ro, partS_none, lenSl_of, lenStr_of, cvInt_of, aminmax_max, aminmax_min, abin_add, abin_sub, abin_mul, abin_eql, abin_neq, abin_lss, abin_leq, abin_gtr, abin_geq, aunary_not, aextract]) (by simp [FT.get_set, FT.setL, faS_ptr, nilS_ptr, nilS_func, nilS_yield, pickS_bool, ldS_ptr, list_cells, list_ro, partS_none, lenSl_of, lenStr_of, cvInt_of, aminmax_max, aminmax_min, abin_add, abin_sub, abin_mul, abin_eql, abin_neq, abin_lss, abin_leq, abin_gtr, abin_geq, aunary_not, aextract]) (by simp [FT.get_set, FT.setL, faS_ptr, nilS_ptr, nilS_func, nilS_yield, pickS_bool, ldS_ptr, list_cells, list_ro, partS_none, lenSl_of, lenStr_of, cvInt_of, aminmax_max, aminmax_min, abin_add, abin_sub, abin_mul, abin_eql, abin_neq, abin_lss, abin_leq, abin_gtr, abin_geq, aunary_not, aextract]) (by unfold cl0; rw [if_pos (.inl h1)])
  · have d1 : decide (now < 0) = false := decide_eq_false h1
    by_cases h2 : now > 1099511627776
    · have d2 : decide (now > 1099511627776) = true := decide_eq_true h2
      simp (decide := true) only [FT.get_set, FT.setL, faS_ptr, nilS_ptr, nilS_func, nilS_yield, pickS_bool, ldS_ptr, list_cells, list_ro, partS_none, lenSl_of, lenStr_of, cvInt_of, aminmax_max, aminmax_min, abin_add, abin_sub, abin_mul, abin_eql, abin_neq, abin_lss, abin_leq, abin_gtr, abin_geq, aunary_not, aextract, Option.some.injEq, Prod.mk.injEq, Value.bool.injEq, exists_eq_left', exists_and_left, and_assoc, decide_eq_true_eq, decide_eq_false_iff_not, if_true, if_false, Nat.zero_add, Nat.add_zero, Option.bind_some, true_and, and_true, forall_const, true_implies, Bool.not_eq_true, Bool.false_eq_true, false_implies, ite_self, Nat.mul_one, d1, d2]
      exact set0 _ (by simp [FT.get_set, FT.setL, faS_ptr, nilS_ptr, nilS_func, nilS_yield, pickS_bool, ldS_ptr, list_cells, list_ro, partS_none, lenSl_of, lenStr_of, cvInt_of, aminmax_max, aminmax_min, abin_add, abin_sub, abin_mul, abin_eql, abin_neq, abin_lss, abin_leq, abin_gtr, abin_geq, aunary_not, aextract]) (by simp [FT.get_set, FT.setL, faS_ptr, nilS_ptr, nilS_func, nilS_yield, pickS_bool, ldS_ptr, list_cells, list_ro, partS_none, lenSl_of, lenStr_of, cvInt_of, aminmax_max, aminmax_min, abin_add, abin_sub, abin_mul, abin_eql, abin_neq, abin_lss, abin_leq, abin_gtr, abin_geq, aunary_not, aextract]) (by simp [FT.get_set, FT.setL, faS_ptr, nilS_ptr, nilS_func, nilS_yield, pickS_bool, ldS_ptr, list_cells, list_ro, partS_none, lenSl_of, lenStr_of, cvInt_of, aminmax_max, aminmax_min, abin_add, abin_sub, abin_mul, abin_eql, abin_neq, abin_lss, abin_leq, abin_gtr, abin_geq, aunary_not, aextract]) (by unfold cl0; rw [if_pos (.inr h2)])
    · have d2 : decide (now > 1099511627776) = false := decide_eq_false h2
      simp (decide := true) only [FT.get_set, FT.setL, faS_ptr, nilS_ptr, nilS_func, nilS_yield, pickS_bool, ldS_ptr, list_cells, list_ro, partS_none, lenSl_of, lenStr_of, cvInt_of, aminmax_max, aminmax_min, abin_add, abin_sub, abin_mul, abin_eql, abin_neq, abin_lss, abin_leq, abin_gtr, abin_geq, aunary_not, aextract, Option.some.injEq, Prod.mk.injEq, Value.bool.injEq, exists_eq_left', exists_and_left, and_assoc, decide_eq_true_eq, decide_eq_false_iff_not, if_true, if_false, Nat.zero_add, Nat.add_zero, Option.bind_some, true_and, and_true, forall_const, true_implies, Bool.not_eq_true, Bool.false_eq_true, false_implies, ite_self, Nat.mul_one, d1, d2]
      refine m_cond (t := false) (by simp [evalT, FT.get_set, FT.setL, faS_ptr, nilS_ptr, nilS_func, nilS_yield, pickS_bool, ldS_ptr, list_cells, list_ro, partS_none, lenSl_of, lenStr_of, cvInt_of, aminmax_max, aminmax_min, abin_add, abin_sub, abin_mul, abin_eql, abin_neq, abin_lss, abin_leq, abin_gtr, abin_geq, aunary_not, aextract]) (fun h => by cases h) (fun _ => m_skip ?_)
      simp only
      refine mid _ _ (by simp [FT.get_set, FT.setL, faS_ptr, nilS_ptr, nilS_func, nilS_yield, pickS_bool, ldS_ptr, list_cells, list_ro, partS_none, lenSl_of, lenStr_of, cvInt_of, aminmax_max, aminmax_min, abin_add, abin_sub, abin_mul, abin_eql, abin_neq, abin_lss, abin_leq, abin_gtr, abin_geq, aunary_not, aextract]) (by simp [FT.get_set, FT.setL, faS_ptr, nilS_ptr, nilS_func, nilS_yield, pickS_bool, ldS_ptr, list_cells, list_ro, partS_none, lenSl_of, lenStr_of, cvInt_of, aminmax_max, aminmax_min, abin_add, abin_sub, abin_mul, abin_eql, abin_neq, abin_lss, abin_leq, abin_gtr, abin_geq, aunary_not, aextract]) rfl (fun y hy => rfl) ?_
      have : cl0 now = now := by unfold cl0; rw [if_neg (by omega)]
      rw [this]; exact hc

theorem wait11 {S : MS} {c B : Nat} {now next : Int} {w : Value} {l : List Tm} (h : IsC S c B now next w l) (hl : l.length ≤ 100000) {Q : Value → MS → Prop} (hq : ∀ v S', Old S S' → SlF tmL 4 S' S.n v l → Q v S') : CallM Try.prog O 11 [.pointer (some ⟨c, 0, none⟩)] S Q := by
  refine callM_body (fnIs is11 body11 res11) (O_none (by decide)) (by simp) ?_
  refine m_seq (m_reg ?_)
  rw [reg11_0]
  refine m_seq (m_reg ?_)
  rw [reg11_1]
  simp (decide := true) only [FT.get_set, FT.setL, faS_ptr, nilS_ptr, nilS_func, nilS_yield, pickS_bool, ldS_ptr, list_cells, list_ro, partS_none, lenSl_of, lenStr_of, cvInt_of, aminmax_max, aminmax_min, abin_add, abin_sub, abin_mul, abin_eql, abin_neq, abin_lss, abin_leq, abin_gtr, abin_geq, aunary_not, aextract, Option.some.injEq, Prod.mk.injEq, Value.bool.injEq, exists_eq_left', exists_and_left, and_assoc, decide_eq_true_eq, decide_eq_false_iff_not, if_true, if_false, Nat.zero_add, Nat.add_zero, Option.bind_some, true_and, and_true, forall_const, true_implies, Bool.not_eq_true, Bool.false_eq_true, false_implies, ite_self, Nat.mul_one, list_of h.1, List.getElem?_cons_zero, List.getElem?_cons_succ]
  refine clone19 h.2.1 hl fun v S' f hv => ?_
  refine m_ret ?_
  simp [resM, FT.get_set, FT.setL, faS_ptr, nilS_ptr, nilS_func, nilS_yield, pickS_bool, ldS_ptr, list_cells, list_ro, partS_none, lenSl_of, lenStr_of, cvInt_of, aminmax_max, aminmax_min, abin_add, abin_sub, abin_mul, abin_eql, abin_neq, abin_lss, abin_leq, abin_gtr, abin_geq, aunary_not, aextract, oneOrTuple]
  exact hq v S' f hv
theorem next17 {S : MS} {c B : Nat} {now next : Int} {w : Value} {l : List Tm} (h : IsC S c B now next w l) {Q : Value → MS → Prop} (hq : Q (.int .i64 next) S) : CallM Try.prog O 17 [.pointer (some ⟨c, 0, none⟩)] S Q := by
  refine callM_body (fnIs is17 body17 res17) (O_none (by decide)) (by simp) ?_
  refine m_seq (m_reg ?_)
  rw [reg17_0]
  refine m_seq (m_reg ?_)
  rw [reg17_1]
  simp (decide := true) only [FT.get_set, FT.setL, faS_ptr, nilS_ptr, nilS_func, nilS_yield, pickS_bool, ldS_ptr, list_cells, list_ro, partS_none, lenSl_of, lenStr_of, cvInt_of, aminmax_max, aminmax_min, abin_add, abin_sub, abin_mul, abin_eql, abin_neq, abin_lss, abin_leq, abin_gtr, abin_geq, aunary_not, aextract, Option.some.injEq, Prod.mk.injEq, Value.bool.injEq, exists_eq_left', exists_and_left, and_assoc, decide_eq_true_eq, decide_eq_false_iff_not, if_true, if_false, Nat.zero_add, Nat.add_zero, Option.bind_some, true_and, and_true, forall_const, true_implies, Bool.not_eq_true, Bool.false_eq_true, false_implies, ite_self, Nat.mul_one, list_of h.1, List.getElem?_cons_zero, List.getElem?_cons_succ]
  refine m_ret ?_
  simp [resM, FT.get_set, FT.setL, faS_ptr, nilS_ptr, nilS_func, nilS_yield, pickS_bool, ldS_ptr, list_cells, list_ro, partS_none, lenSl_of, lenStr_of, cvInt_of, aminmax_max, aminmax_min, abin_add, abin_sub, abin_mul, abin_eql, abin_neq, abin_lss, abin_leq, abin_gtr, abin_geq, aunary_not, aextract, oneOrTuple]
  exact hq

/-- Set, refused -/
theorem set8x {S : MS} {c B : Nat} {now next d : Int} {w : Value} {l : List Tm} {nm : ByteArray} {aa : Option Addr} {an ac : Nat} (h : IsC S c B now next w l) (hbad : (d < 1 ∨ d > 1000) ∨ l.length ≥ 12)
    {Q : Value → MS → Prop} (hq : ∀ S', Old S S' → Q (.tuple #[.int .i64 0, .int .i64 (if d < 1 ∨ d > 1000 then 221 else 220)]) S') :
    CallM Try.prog O 8 [.pointer (some ⟨c, 0, none⟩), .agg (plL d nm aa an ac).toArray] S Q := by
  refine callM_wf fun wf => ?_
  refine callM_body (fnIs is8 body8 res8) (O_none (by decide)) (by simp) ?_
  refine m_seq (m_reg ?_)
  rw [reg8_0]
  have hcells : (Value.cells (.agg (plL d nm aa an ac).toArray)).toList = plL d nm aa an ac := rfl
  simp (decide := true) only [FT.get_set, FT.setL, faS_ptr, nilS_ptr, nilS_func, nilS_yield, pickS_bool, ldS_ptr, list_cells, list_ro, partS_none, lenSl_of, lenStr_of, cvInt_of, aminmax_max, aminmax_min, abin_add, abin_sub, abin_mul, abin_eql, abin_neq, abin_lss, abin_leq, abin_gtr, abin_geq, aunary_not, aextract, Option.some.injEq, Prod.mk.injEq, Value.bool.injEq, exists_eq_left', exists_and_left, and_assoc, decide_eq_true_eq, decide_eq_false_iff_not, if_true, if_false, Nat.zero_add, Nat.add_zero, Option.bind_some, true_and, and_true, forall_const, true_implies, Bool.not_eq_true, Bool.false_eq_true, false_implies, ite_self, Nat.mul_one, hcells, ptrTo]
  have f1 := old_fresh S (plL d nm aa an ac) 0
  have h1 := h.keep wf f1.2
  have hpb := fresh_at S (plL d nm aa an ac) 0
  have p0 : (plL d nm aa an ac)[0]? = some (.int .i64 d) := rfl
  have bad : ∀ T, T.get 6 = .bool true → (d < 1 ∨ d > 1000) → ∀ R : AExit → FT → MS → Prop, (∀ T', T'.get 4 = .int .i64 0 → T'.get 5 = .int .i64 221 → R .ret T' (S.fresh (plL d nm aa an ac) 0)) → MWp Try.prog O 62 (.cond (.tmp 6) (.seq (.region 2 (ro 8 2) false) .ret) (.seq (.region 3 (ro 8 3) false) (.cond (.tmp 15) (.seq (.region 4 (ro 8 4) false) .ret) .skip))) T (S.fresh (plL d nm aa an ac) 0) R := by
    intro T h6 _ R hR
    refine m_cond (t := true) h6 (fun _ => ?_) (fun h => by cases h)
    refine m_seq (m_reg ?_)
    rw [reg8_2]
    exact m_ret (hR _ (by simp [FT.get_set, FT.setL, faS_ptr, nilS_ptr, nilS_func, nilS_yield, pickS_bool, ldS_ptr, list_cells, list_ro, partS_none, lenSl_of, lenStr_of, cvInt_of, aminmax_max, aminmax_min, abin_add, abin_sub, abin_mul, abin_eql, abin_neq, abin_lss, abin_leq, abin_gtr, abin_geq, aunary_not, aextract]) (by simp [FT.get_set, FT.setL, faS_ptr, nilS_ptr, nilS_func, nilS_yield, pickS_bool, ldS_ptr, list_cells, list_ro, partS_none, lenSl_of, lenStr_of, cvInt_of, aminmax_max, aminmax_min, abin_add, abin_sub, abin_mul, abin_eql, abin_neq, abin_lss, abin_leq, abin_gtr, abin_geq, aunary_not, aextract]))
  refine m_seq (m_block (m_seq (m_reg ?_)))
  rw [reg8_1]
  by_cases hd1 : d < 1
  · have d1 : decide (d < 1) = true := decide_eq_true hd1
    simp (decide := true) only [FT.get_set, FT.setL, faS_ptr, nilS_ptr, nilS_func, nilS_yield, pickS_bool, ldS_ptr, list_cells, list_ro, partS_none, lenSl_of, lenStr_of, cvInt_of, aminmax_max, aminmax_min, abin_add, abin_sub, abin_mul, abin_eql, abin_neq, abin_lss, abin_leq, abin_gtr, abin_geq, aunary_not, aextract, Option.some.injEq, Prod.mk.injEq, Value.bool.injEq, exists_eq_left', exists_and_left, and_assoc, decide_eq_true_eq, decide_eq_false_iff_not, if_true, if_false, Nat.zero_add, Nat.add_zero, Option.bind_some, true_and, and_true, forall_const, true_implies, Bool.not_eq_true, Bool.false_eq_true, false_implies, ite_self, Nat.mul_one, list_of hpb, p0, d1]
    refine bad _ (by simp [FT.get_set, FT.setL, faS_ptr, nilS_ptr, nilS_func, nilS_yield, pickS_bool, ldS_ptr, list_cells, list_ro, partS_none, lenSl_of, lenStr_of, cvInt_of, aminmax_max, aminmax_min, abin_add, abin_sub, abin_mul, abin_eql, abin_neq, abin_lss, abin_leq, abin_gtr, abin_geq, aunary_not, aextract]) (.inl hd1) _ fun T' g4 g5 => ?_
    simp only
    simp [resM, oneOrTuple, g4, g5]
    have := hq _ f1
    rw [if_pos (.inl hd1)] at this
    exact this
  have d1 : decide (d < 1) = false := decide_eq_false hd1
  by_cases hd2 : d > 1000
  · have d2 : decide (d > 1000) = true := decide_eq_true hd2
    simp (decide := true) only [FT.get_set, FT.setL, faS_ptr, nilS_ptr, nilS_func, nilS_yield, pickS_bool, ldS_ptr, list_cells, list_ro, partS_none, lenSl_of, lenStr_of, cvInt_of, aminmax_max, aminmax_min, abin_add, abin_sub, abin_mul, abin_eql, abin_neq, abin_lss, abin_leq, abin_gtr, abin_geq, aunary_not, aextract, Option.some.injEq, Prod.mk.injEq, Value.bool.injEq, exists_eq_left', exists_and_left, and_assoc, decide_eq_true_eq, decide_eq_false_iff_not, if_true, if_false, Nat.zero_add, Nat.add_zero, Option.bind_some, true_and, and_true, forall_const, true_implies, Bool.not_eq_true, Bool.false_eq_true, false_implies, ite_self, Nat.mul_one, list_of hpb, p0, d1, d2]
    refine bad _ (by simp [FT.get_set, FT.setL, faS_ptr, nilS_ptr, nilS_func, nilS_yield, pickS_bool, ldS_ptr, list_cells, list_ro, partS_none, lenSl_of, lenStr_of, cvInt_of, aminmax_max, aminmax_min, abin_add, abin_sub, abin_mul, abin_eql, abin_neq, abin_lss, abin_leq, abin_gtr, abin_geq, aunary_not, aextract]) (.inr hd2) _ fun T' g4 g5 => ?_
    simp only
    simp [resM, oneOrTuple, g4, g5]
    have := hq _ f1
    rw [if_pos (.inr hd2)] at this
    exact this
  have d2 : decide (d > 1000) = false := decide_eq_false hd2
  simp (decide := true) only [FT.get_set, FT.setL, faS_ptr, nilS_ptr, nilS_func, nilS_yield, pickS_bool, ldS_ptr, list_cells, list_ro, partS_none, lenSl_of, lenStr_of, cvInt_of, aminmax_max, aminmax_min, abin_add, abin_sub, abin_mul, abin_eql, abin_neq, abin_lss, abin_leq, abin_gtr, abin_geq, aunary_not, aextract, Option.some.injEq, Prod.mk.injEq, Value.bool.injEq, exists_eq_left', exists_and_left, and_assoc, decide_eq_true_eq, decide_eq_false_iff_not, if_true, if_false, Nat.zero_add, Nat.add_zero, Option.bind_some, true_and, and_true, forall_const, true_implies, Bool.not_eq_true, Bool.false_eq_true, false_implies, ite_self, Nat.mul_one, list_of hpb, p0, d1, d2]
  refine m_cond (t := false) (by simp [evalT, FT.get_set, FT.setL, faS_ptr, nilS_ptr, nilS_func, nilS_yield, pickS_bool, ldS_ptr, list_cells, list_ro, partS_none, lenSl_of, lenStr_of, cvInt_of, aminmax_max, aminmax_min, abin_add, abin_sub, abin_mul, abin_eql, abin_neq, abin_lss, abin_leq, abin_gtr, abin_geq, aunary_not, aextract]) (fun h => by cases h) (fun _ => ?_)
  refine m_seq (m_reg ?_)
  rw [reg8_3]
  have d3 : decide ((l.length : Int) ≥ 12) = true := decide_eq_true (by omega)
  simp (decide := true) only [FT.get_set, FT.setL, faS_ptr, nilS_ptr, nilS_func, nilS_yield, pickS_bool, ldS_ptr, list_cells, list_ro, partS_none, lenSl_of, lenStr_of, cvInt_of, aminmax_max, aminmax_min, abin_add, abin_sub, abin_mul, abin_eql, abin_neq, abin_lss, abin_leq, abin_gtr, abin_geq, aunary_not, aextract, Option.some.injEq, Prod.mk.injEq, Value.bool.injEq, exists_eq_left', exists_and_left, and_assoc, decide_eq_true_eq, decide_eq_false_iff_not, if_true, if_false, Nat.zero_add, Nat.add_zero, Option.bind_some, true_and, and_true, forall_const, true_implies, Bool.not_eq_true, Bool.false_eq_true, false_implies, ite_self, Nat.mul_one, list_of h1.1, List.getElem?_cons_zero, List.getElem?_cons_succ, h1.2.1.lenSl, d3]
  refine m_cond (t := true) (by simp [evalT, FT.get_set, FT.setL, faS_ptr, nilS_ptr, nilS_func, nilS_yield, pickS_bool, ldS_ptr, list_cells, list_ro, partS_none, lenSl_of, lenStr_of, cvInt_of, aminmax_max, aminmax_min, abin_add, abin_sub, abin_mul, abin_eql, abin_neq, abin_lss, abin_leq, abin_gtr, abin_geq, aunary_not, aextract]) (fun _ => ?_) (fun h => by cases h)
  refine m_seq (m_reg ?_)
  rw [reg8_4]
  refine m_ret ?_
  simp [resM, oneOrTuple, FT.get_set, FT.setL, faS_ptr, nilS_ptr, nilS_func, nilS_yield, pickS_bool, ldS_ptr, list_cells, list_ro, partS_none, lenSl_of, lenStr_of, cvInt_of, aminmax_max, aminmax_min, abin_add, abin_sub, abin_mul, abin_eql, abin_neq, abin_lss, abin_leq, abin_gtr, abin_geq, aunary_not, aextract]
  have := hq _ f1
  rw [if_neg (by omega)] at this
  exact this
end Go.Proofs.Ythkmkfgfabjhnaa

