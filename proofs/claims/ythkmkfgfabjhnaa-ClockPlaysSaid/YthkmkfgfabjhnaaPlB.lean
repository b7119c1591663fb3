/-
  The walk through both clocks' code: what its functions do to memory, part PlB. Nothing is asked.
-/
import Derived.Test.YthkmkfgfabjhnaaPlA
import Derived.Test.YthkmkfgfabjhnaaPl6
set_option linter.all false
namespace Go.Proofs.Ythkmkfgfabjhnaa
open Go Go.Ag
set_option linter.unusedVariables false
set_option maxRecDepth 100000

/-! ### plain: sorted, with ties -/
def wle (l : List Tm) : Prop := l.Pairwise fun a b => ¬ lt b a
theorem nlt_trans {a b c : Tm} (h : ¬ lt a b) (h' : ¬ lt b c) : ¬ lt a c := by unfold lt at *; omega
theorem lt_asymm {a b : Tm} (h : lt a b) : ¬ lt b a := by unfold lt at *; omega
theorem insR_wle : ∀ (p : List Tm) (x : Tm), wle p → wle (insR p x) := by
  have main : ∀ (q : List Tm) (x : Tm), wle q.reverse → wle (insR q.reverse x) := by
    intro q
    induction q with
    | nil => intro x _; exact List.pairwise_singleton _ _
    | cons y q ih =>
      intro x h
      rw [List.reverse_cons] at h ⊢
      have h1 := List.pairwise_append.1 h
      rw [insR_snoc]
      split
      · rename_i hxy
        refine List.pairwise_append.2 ⟨ih x h1.1, List.pairwise_singleton _ _, fun a ha b hb => ?_⟩
        simp at hb; subst hb
        rcases (insR_mem _ _ _).1 ha with rfl | ha
        · exact lt_asymm hxy
        · exact h1.2.2 a ha b (by simp)
      · rename_i hxy
        refine List.pairwise_append.2 ⟨h, List.pairwise_singleton _ _, fun a ha b hb => ?_⟩
        simp at hb; subst hb
        rcases List.mem_append.1 ha with ha | ha
        · exact nlt_trans hxy (h1.2.2 a ha y (by simp))
        · simp at ha; subst ha; exact hxy
  intro p x h
  have := main p.reverse x (by rwa [List.reverse_reverse])
  rwa [List.reverse_reverse] at this
theorem isort_wle : ∀ l : List Tm, wle (isort l) := by
  have main : ∀ q : List Tm, wle (isort q.reverse) := by
    intro q
    induction q with
    | nil => exact List.Pairwise.nil
    | cons y q ih => rw [List.reverse_cons, isort_snoc]; exact insR_wle _ _ ih
  intro l
  have := main l.reverse
  rwa [List.reverse_reverse] at this
theorem insR_last (p : List Tm) (x : Tm) (h : ∀ z ∈ p, ¬ lt x z) : insR p x = p ++ [x] := by
  rcases List.eq_nil_or_concat p with e | ⟨q, z, e⟩
  · subst e; rfl
  · subst e
    rw [List.concat_eq_append, insR_snoc, if_neg (h z (by simp))]
theorem isort_id : ∀ l : List Tm, wle l → isort l = l := by
  have main : ∀ q : List Tm, wle q.reverse → isort q.reverse = q.reverse := by
    intro q
    induction q with
    | nil => intro _; rfl
    | cons y q ih =>
      intro h
      rw [List.reverse_cons] at h ⊢
      have h1 := List.pairwise_append.1 h
      rw [isort_snoc, ih h1.1, insR_last _ _ fun z hz => h1.2.2 z hz y (by simp)]
  intro l h
  have := main l.reverse (by rwa [List.reverse_reverse])
  rwa [List.reverse_reverse] at this
theorem filter_one (f : Tm → Bool) (x : Tm) : [x].filter f = if f x then [x] else [] := by
  rw [List.filter_cons]; rfl
theorem insR_filter (f : Tm → Bool) : ∀ (p : List Tm) (x : Tm), wle p → (insR p x).filter f = if f x then insR (p.filter f) x else p.filter f := by
  have main : ∀ (q : List Tm) (x : Tm), wle q.reverse → (insR q.reverse x).filter f = if f x then insR (q.reverse.filter f) x else q.reverse.filter f := by
    intro q
    induction q with
    | nil => intro x _; simp [insR_nil]; split <;> simp_all [insR_nil]
    | cons y q ih =>
      intro x h
      rw [List.reverse_cons] at h ⊢
      have h1 := List.pairwise_append.1 h
      rw [insR_snoc]
      have hf : (q.reverse ++ [y]).filter f = q.reverse.filter f ++ (if f y then [y] else []) := by rw [List.filter_append, filter_one]
      rw [hf]
      by_cases hxy : lt x y
      · rw [if_pos hxy, List.filter_append, ih x h1.1]
        have hy1 := filter_one f y
        rw [hy1]
        by_cases hfx : f x = true
        · rw [if_pos hfx, if_pos hfx]
          by_cases hfy : f y = true
          · rw [if_pos hfy, insR_snoc, if_pos hxy]
          · rw [if_neg hfy, List.append_nil, List.append_nil]
        · rw [if_neg hfx, if_neg hfx]
      · rw [if_neg hxy]
        have hx1 := filter_one f x
        rw [List.filter_append, hf, hx1]
        by_cases hfx : f x = true
        · rw [if_pos hfx, if_pos hfx]
          refine (insR_last _ _ fun z hz => ?_).symm
          rcases List.mem_append.1 hz with hz | hz
          · exact nlt_trans hxy (h1.2.2 z ((List.mem_filter.1 hz).1) y (by simp))
          · split at hz
            · simp at hz; subst hz; exact hxy
            · cases hz
        · rw [if_neg hfx, if_neg hfx, List.append_nil]
  intro p x h
  have := main p.reverse x (by rwa [List.reverse_reverse])
  rwa [List.reverse_reverse] at this
theorem isort_filter (f : Tm → Bool) : ∀ l : List Tm, isort (l.filter f) = (isort l).filter f := by
  have main : ∀ q : List Tm, isort (q.reverse.filter f) = (isort q.reverse).filter f := by
    intro q
    induction q with
    | nil => rfl
    | cons y q ih =>
      rw [List.reverse_cons, isort_snoc, insR_filter f _ _ (isort_wle _), List.filter_append, ← ih]
      have hy1 := filter_one f y
      rw [hy1]
      split
      · rw [isort_snoc]
      · rw [List.append_nil]
  intro l
  have := main l.reverse
  rwa [List.reverse_reverse] at this
theorem drop_due (now : Int) : ∀ l : List Tm, wle l → l.drop (dueN now l) = l.filter fun x => decide (x.t > now) := by
  intro l
  induction l with
  | nil => intro _; rfl
  | cons y l ih =>
    intro h
    have h1 := List.pairwise_cons.1 h
    unfold dueN
    rw [List.takeWhile_cons, List.filter_cons]
    by_cases hy : y.t ≤ now
    · rw [if_pos (by simpa using hy), if_neg (by simp; omega)]
      exact ih h1.2
    · rw [if_neg (by simpa using hy), if_pos (by simp; omega)]
      simp only [List.length_nil, List.drop_zero]
      congr 1
      refine (List.filter_eq_self.2 fun z hz => ?_).symm
      have := h1.1 z hz
      unfold lt at this
      simp; omega

/-- both clocks set -/
theorem sort_set (R : List Tm) (x : Tm) : isort (isort R ++ [x]) = isort (R ++ [x]) := by rw [isort_snoc, isort_snoc, isort_id _ (isort_wle R)]
/-- both clocks tick -/
theorem sort_tick (R : List Tm) (now : Int) : (isort R).drop (dueN now (isort R)) = isort (R.filter fun x => decide (x.t > now)) := by rw [drop_due _ _ (isort_wle R), isort_filter]

theorem get0 {L : List Tm} {i : Nat} {x : Tm} (hx : L[i]? = some x) : (L.flatMap tmL)[i * 4]? = some (.int .i64 x.t) := fm_get tm_len hx (k := 0) (by decide)
theorem get1 {L : List Tm} {i : Nat} {x : Tm} (hx : L[i]? = some x) : (L.flatMap tmL)[i * 4 + 1]? = some (.int .i64 x.n) := fm_get tm_len hx (k := 1) (by decide)
/-! ### Wait, of the reference -/
structure WC (S0 : MS) (b n cap : Nat) (T : FT) (S : MS) : Prop where
  nn : S.n = S0.n
  old : ∀ y, y < S0.n → y ≠ b → S.m y = S0.m y
  t3 : T.get 3 = .slice (some ⟨b, 0, none⟩) n cap

def WI18 (S0 : MS) (b cap es : Nat) (l junk : List Tm) (i : Nat) (x : Tm) (m : Nat) (T : FT) (S : MS) : Prop :=
  ∃ pre mid : List Tm, isort (l.take i) = pre ++ mid ∧ pre.length = m ∧ (∀ y ∈ mid, lt x y) ∧ S.m b = some (.cells ((pre ++ x :: mid ++ l.drop (i + 1) ++ junk).flatMap tmL) es) ∧ WC S0 b l.length cap T S ∧ T.get 4 = .int .i64 i ∧ T.get 5 = .int .i64 m

def WD18 (S0 : MS) (b cap es : Nat) (l junk : List Tm) (i : Nat) (x : Tm) (T' : FT) (S' : MS) : Prop := WC S0 b l.length cap T' S' ∧ T'.get 4 = .int .i64 i ∧ S'.m b = some (.cells ((insR (isort (l.take i)) x ++ l.drop (i + 1) ++ junk).flatMap tmL) es)

theorem inner18 {S0 S : MS} {b cap es i : Nat} {l junk : List Tm} {x : Tm} {T : FT} (hl : l.length ≤ 100000) (hi : i < l.length) (hb0 : b < S0.n) (hs : WI18 S0 b cap es l junk i x i T S) :
    MWp Try.prog O 81 blk18_2 T S (fun y T' S' => y = .normal ∧ WD18 S0 b cap es l junk i x T' S') := by
  unfold blk18_2
  refine m_block (m_loop (fun m T S' => WI18 S0 b cap es l junk i x m T S') _ hs ?_)
  clear hs
  rintro m T S1 ⟨pre, mid, hpm, hpl, hlt, hb, hc, t4, t5⟩
  have hlen : pre.length + mid.length = i := by
    have := congrArg List.length hpm
    rw [isort_len, List.length_take, List.length_append] at this
    omega
  have done : ∀ (T' : FT), insR pre x = pre ++ [x] → WC S0 b l.length cap T' S1 → T'.get 4 = .int .i64 i → T'.get 61 = .bool false → ∀ (Q : AExit → FT → MS → Prop), (∀ T', WD18 S0 b cap es l junk i x T' S1 → Q (.exit 2) T' S1) → MWp Try.prog O 81 (.cond (.tmp 61) .skip (.exit 2)) T' S1 Q := by
    intro T' hin hc' g4 g61 Q hq
    refine m_cond (t := false) g61 (fun h => by cases h) (fun _ => m_exit (hq _ ⟨hc', g4, ?_⟩))
    rw [hb, hpm, insR_mid mid pre x hlt, hin]
    simp
  refine m_seq (m_seq (m_draw2 ?_))
  rw [reg18_6]
  by_cases h0 : m = 0
  · subst h0
    have hpre : pre = [] := List.length_eq_zero_iff.1 hpl
    have e0 : decide (((0 : Nat) : Int) > 0) = false := by decide
    simp (decide := true) only [FT.get_set, FT.setL, faS_ptr, nilS_ptr, nilS_func, nilS_yield, pickS_bool, ldS_ptr, list_cells, list_ro, partS_none, lenSl_of, lenStr_of, cvInt_of, aminmax_max, aminmax_min, abin_add, abin_sub, abin_mul, abin_eql, abin_neq, abin_lss, abin_leq, abin_gtr, abin_geq, aunary_not, aextract, Option.some.injEq, Prod.mk.injEq, Value.bool.injEq, exists_eq_left', exists_and_left, and_assoc, decide_eq_true_eq, decide_eq_false_iff_not, if_true, if_false, Nat.zero_add, Nat.add_zero, Option.bind_some, true_and, and_true, forall_const, true_implies, Bool.not_eq_true, Bool.false_eq_true, false_implies, ite_self, Nat.mul_one, t5, e0]
    refine done _ (by rw [hpre]; rfl) ⟨hc.nn, hc.old, by simp [FT.get_set, FT.setL, faS_ptr, nilS_ptr, nilS_func, nilS_yield, pickS_bool, ldS_ptr, list_cells, list_ro, partS_none, lenSl_of, lenStr_of, cvInt_of, aminmax_max, aminmax_min, abin_add, abin_sub, abin_mul, abin_eql, abin_neq, abin_lss, abin_leq, abin_gtr, abin_geq, aunary_not, aextract, hc.t3]⟩ (by simp [FT.get_set, FT.setL, faS_ptr, nilS_ptr, nilS_func, nilS_yield, pickS_bool, ldS_ptr, list_cells, list_ro, partS_none, lenSl_of, lenStr_of, cvInt_of, aminmax_max, aminmax_min, abin_add, abin_sub, abin_mul, abin_eql, abin_neq, abin_lss, abin_leq, abin_gtr, abin_geq, aunary_not, aextract, t4]) (by simp [FT.get_set, FT.setL, faS_ptr, nilS_ptr, nilS_func, nilS_yield, pickS_bool, ldS_ptr, list_cells, list_ro, partS_none, lenSl_of, lenStr_of, cvInt_of, aminmax_max, aminmax_min, abin_add, abin_sub, abin_mul, abin_eql, abin_neq, abin_lss, abin_leq, abin_gtr, abin_geq, aunary_not, aextract]) _ fun T' h => ?_
    simp only [if_true]
    first | exact h | exact ⟨trivial, h⟩
  · obtain ⟨pre', y, rfl⟩ : ∃ pre' y, pre = pre' ++ [y] := by
      have hne : pre ≠ [] := fun e => h0 (by rw [← hpl, e]; rfl)
      exact ⟨pre.dropLast, pre.getLast hne, (List.dropLast_concat_getLast hne).symm⟩
    have hm : m = pre'.length + 1 := by rw [← hpl]; simp
    have e0 : decide ((m : Int) > 0) = true := decide_eq_true (by omega)
    have hL : (pre' ++ [y]) ++ x :: mid ++ l.drop (i + 1) ++ junk = (pre' ++ [y]) ++ x :: (mid ++ l.drop (i + 1) ++ junk) := by simp
    have hL2 : (pre' ++ [y]) ++ x :: mid ++ l.drop (i + 1) ++ junk = pre' ++ y :: (x :: mid ++ l.drop (i + 1) ++ junk) := by simp
    have hgx : ((pre' ++ [y]) ++ x :: mid ++ l.drop (i + 1) ++ junk)[m]? = some x := by rw [hL, hm]; have := get_mid (pre := pre' ++ [y]) (x := x) (r := mid ++ l.drop (i + 1) ++ junk); simpa using this
    have hgy : ((pre' ++ [y]) ++ x :: mid ++ l.drop (i + 1) ++ junk)[m - 1]? = some y := by rw [hL2, hm]; exact get_mid
    have hwm : IntKind.i64.wrap ((m : Int) - 1) = ((m - 1 : Nat) : Int) := by rw [wrap_i64 (by omega) (by omega)]; omega
    have hmi : m ≤ i := by omega
    have ia1 : iaSS 4 (.slice (some ⟨b, 0, none⟩) l.length cap) (.int .i64 (m : Int)) = some (.pointer (some ⟨b, m * 4, none⟩)) := by rw [iaSS_of (k := .i64) (i := (m : Int)) (by omega) (by omega : (m : Int) < (l.length : Int)), Int.toNat_natCast, Nat.zero_add]
    have ia2 : iaSS 4 (.slice (some ⟨b, 0, none⟩) l.length cap) (.int .i64 ((m - 1 : Nat) : Int)) = some (.pointer (some ⟨b, (m - 1) * 4, none⟩)) := by rw [iaSS_of (k := .i64) (i := ((m - 1 : Nat) : Int)) (by omega) (by omega : ((m - 1 : Nat) : Int) < (l.length : Int)), Int.toNat_natCast, Nat.zero_add]
    have x0 := get0 hgx
    have x1 := get1 hgx
    have y0 := get0 hgy
    have y1 := get1 hgy
    have stay : ∀ (T' : FT), ¬ lt x y → T'.get 3 = T.get 3 → T'.get 4 = T.get 4 → T'.get 61 = .bool false → ∀ (Q : AExit → FT → MS → Prop), (∀ T', WD18 S0 b cap es l junk i x T' S1 → Q (.exit 2) T' S1) → MWp Try.prog O 81 (.cond (.tmp 61) .skip (.exit 2)) T' S1 Q := fun T' hxy g3 g4 g61 Q hq =>
      done T' (by rw [insR_snoc, if_neg hxy]) ⟨hc.nn, hc.old, g3.trans hc.t3⟩ (g4.trans t4) g61 Q hq
    have move : ∀ (T' : FT), lt x y → T'.get 3 = T.get 3 → T'.get 4 = T.get 4 → T'.get 5 = T.get 5 → MWp Try.prog O 81 (.seq blk18_3 (.region 7 (ro 18 7) false)) T' S1 (fun y T1 S1 => y = .normal ∧ WI18 S0 b cap es l junk i x (m - 1) T1 S1) := by
      intro T' hxy g3 g4 g5
      have ldx := fm_load tm_len hb hgx
      have ldy := fm_load tm_len hb hgy
      unfold blk18_3
      refine m_seq (m_block (m_draw ?_))
      rw [reg18_8]
      have hlen2 : m < ((pre' ++ [y]) ++ x :: mid ++ l.drop (i + 1) ++ junk).length := (List.getElem?_eq_some_iff.1 hgx).1
      obtain ⟨S3, a1, a2, a3, a4⟩ := fm_store (x := y) tm_len tm_one hb hlen2
      obtain ⟨S4, b1, b2, b3, b4⟩ := fm_store (i := m - 1) (x := x) tm_len tm_one a2 (by rw [List.length_set]; omega)
      simp (decide := true) only [FT.get_set, FT.setL, faS_ptr, nilS_ptr, nilS_func, nilS_yield, pickS_bool, ldS_ptr, list_cells, list_ro, partS_none, lenSl_of, lenStr_of, cvInt_of, aminmax_max, aminmax_min, abin_add, abin_sub, abin_mul, abin_eql, abin_neq, abin_lss, abin_leq, abin_gtr, abin_geq, aunary_not, aextract, Option.some.injEq, Prod.mk.injEq, Value.bool.injEq, exists_eq_left', exists_and_left, and_assoc, decide_eq_true_eq, decide_eq_false_iff_not, if_true, if_false, Nat.zero_add, Nat.add_zero, Option.bind_some, true_and, and_true, forall_const, true_implies, Bool.not_eq_true, Bool.false_eq_true, false_implies, ite_self, Nat.mul_one, g3, g5, hc.t3, t5, hwm, ia1, ia2, ldx, ldy, a1, b1]
      refine m_reg ?_
      rw [reg18_7]
      simp (decide := true) only [FT.get_set, FT.setL, faS_ptr, nilS_ptr, nilS_func, nilS_yield, pickS_bool, ldS_ptr, list_cells, list_ro, partS_none, lenSl_of, lenStr_of, cvInt_of, aminmax_max, aminmax_min, abin_add, abin_sub, abin_mul, abin_eql, abin_neq, abin_lss, abin_leq, abin_gtr, abin_geq, aunary_not, aextract, Option.some.injEq, Prod.mk.injEq, Value.bool.injEq, exists_eq_left', exists_and_left, and_assoc, decide_eq_true_eq, decide_eq_false_iff_not, if_true, if_false, Nat.zero_add, Nat.add_zero, Option.bind_some, true_and, and_true, forall_const, true_implies, Bool.not_eq_true, Bool.false_eq_true, false_implies, ite_self, Nat.mul_one, g5, t5, hwm]
      refine ⟨pre', y :: mid, by rw [hpm]; simp, by omega, ?_, ?_, ⟨by rw [b3, a3]; exact hc.nn, fun z hz hzb => by rw [b4 z hzb, a4 z hzb]; exact hc.old z hz hzb, by simp [FT.get_set, FT.setL, faS_ptr, nilS_ptr, nilS_func, nilS_yield, pickS_bool, ldS_ptr, list_cells, list_ro, partS_none, lenSl_of, lenStr_of, cvInt_of, aminmax_max, aminmax_min, abin_add, abin_sub, abin_mul, abin_eql, abin_neq, abin_lss, abin_leq, abin_gtr, abin_geq, aunary_not, aextract, g3, hc.t3]⟩, by simp [FT.get_set, FT.setL, faS_ptr, nilS_ptr, nilS_func, nilS_yield, pickS_bool, ldS_ptr, list_cells, list_ro, partS_none, lenSl_of, lenStr_of, cvInt_of, aminmax_max, aminmax_min, abin_add, abin_sub, abin_mul, abin_eql, abin_neq, abin_lss, abin_leq, abin_gtr, abin_geq, aunary_not, aextract, g4, t4], by simp [FT.get_set, FT.setL, faS_ptr, nilS_ptr, nilS_func, nilS_yield, pickS_bool, ldS_ptr, list_cells, list_ro, partS_none, lenSl_of, lenStr_of, cvInt_of, aminmax_max, aminmax_min, abin_add, abin_sub, abin_mul, abin_eql, abin_neq, abin_lss, abin_leq, abin_gtr, abin_geq, aunary_not, aextract]⟩
      · intro z hz
        rcases List.mem_cons.1 hz with rfl | hz
        · exact hxy
        · exact hlt z hz
      · rw [b2, hm]
        congr 3
        simp
    by_cases hA : x.t < y.t
    · have eA : decide (x.t < y.t) = true := decide_eq_true hA
      simp (decide := true) only [FT.get_set, FT.setL, faS_ptr, nilS_ptr, nilS_func, nilS_yield, pickS_bool, ldS_ptr, list_cells, list_ro, partS_none, lenSl_of, lenStr_of, cvInt_of, aminmax_max, aminmax_min, abin_add, abin_sub, abin_mul, abin_eql, abin_neq, abin_lss, abin_leq, abin_gtr, abin_geq, aunary_not, aextract, Option.some.injEq, Prod.mk.injEq, Value.bool.injEq, exists_eq_left', exists_and_left, and_assoc, decide_eq_true_eq, decide_eq_false_iff_not, if_true, if_false, Nat.zero_add, Nat.add_zero, Option.bind_some, true_and, and_true, forall_const, true_implies, Bool.not_eq_true, Bool.false_eq_true, false_implies, ite_self, Nat.mul_one, hc.t3, t5, e0, ia1, hwm, ia2, list_of hb, x0, y0, x1, y1, eA]
      refine m_cond (t := true) (by simp [evalT, FT.get_set, FT.setL, faS_ptr, nilS_ptr, nilS_func, nilS_yield, pickS_bool, ldS_ptr, list_cells, list_ro, partS_none, lenSl_of, lenStr_of, cvInt_of, aminmax_max, aminmax_min, abin_add, abin_sub, abin_mul, abin_eql, abin_neq, abin_lss, abin_leq, abin_gtr, abin_geq, aunary_not, aextract]) (fun _ => m_skip ?_) (fun h => by cases h)
      simp only
      refine MWp.mono (move _ (.inl hA) (by simp [FT.get_set, FT.setL, faS_ptr, nilS_ptr, nilS_func, nilS_yield, pickS_bool, ldS_ptr, list_cells, list_ro, partS_none, lenSl_of, lenStr_of, cvInt_of, aminmax_max, aminmax_min, abin_add, abin_sub, abin_mul, abin_eql, abin_neq, abin_lss, abin_leq, abin_gtr, abin_geq, aunary_not, aextract, hc.t3]) (by simp [FT.get_set, FT.setL, faS_ptr, nilS_ptr, nilS_func, nilS_yield, pickS_bool, ldS_ptr, list_cells, list_ro, partS_none, lenSl_of, lenStr_of, cvInt_of, aminmax_max, aminmax_min, abin_add, abin_sub, abin_mul, abin_eql, abin_neq, abin_lss, abin_leq, abin_gtr, abin_geq, aunary_not, aextract]) (by simp [FT.get_set, FT.setL, faS_ptr, nilS_ptr, nilS_func, nilS_yield, pickS_bool, ldS_ptr, list_cells, list_ro, partS_none, lenSl_of, lenStr_of, cvInt_of, aminmax_max, aminmax_min, abin_add, abin_sub, abin_mul, abin_eql, abin_neq, abin_lss, abin_leq, abin_gtr, abin_geq, aunary_not, aextract, t5])) ?_
      rintro _ T' S' ⟨rfl, h⟩
      exact ⟨m - 1, by omega, h⟩
    · have eA : decide (x.t < y.t) = false := decide_eq_false hA
      by_cases hB : x.t = y.t
      · have eB : (x.t == y.t) = true := by simp [hB]
        by_cases hC : x.n < y.n
        · have eC : decide (x.n < y.n) = true := decide_eq_true hC
          simp (decide := true) only [FT.get_set, FT.setL, faS_ptr, nilS_ptr, nilS_func, nilS_yield, pickS_bool, ldS_ptr, list_cells, list_ro, partS_none, lenSl_of, lenStr_of, cvInt_of, aminmax_max, aminmax_min, abin_add, abin_sub, abin_mul, abin_eql, abin_neq, abin_lss, abin_leq, abin_gtr, abin_geq, aunary_not, aextract, Option.some.injEq, Prod.mk.injEq, Value.bool.injEq, exists_eq_left', exists_and_left, and_assoc, decide_eq_true_eq, decide_eq_false_iff_not, if_true, if_false, Nat.zero_add, Nat.add_zero, Option.bind_some, true_and, and_true, forall_const, true_implies, Bool.not_eq_true, Bool.false_eq_true, false_implies, ite_self, Nat.mul_one, hc.t3, t5, e0, ia1, hwm, ia2, list_of hb, x0, y0, x1, y1, eA, eB, eC]
          refine m_cond (t := true) (by simp [evalT, FT.get_set, FT.setL, faS_ptr, nilS_ptr, nilS_func, nilS_yield, pickS_bool, ldS_ptr, list_cells, list_ro, partS_none, lenSl_of, lenStr_of, cvInt_of, aminmax_max, aminmax_min, abin_add, abin_sub, abin_mul, abin_eql, abin_neq, abin_lss, abin_leq, abin_gtr, abin_geq, aunary_not, aextract]) (fun _ => m_skip ?_) (fun h => by cases h)
          simp only
          refine MWp.mono (move _ (.inr ⟨hB, hC⟩) (by simp [FT.get_set, FT.setL, faS_ptr, nilS_ptr, nilS_func, nilS_yield, pickS_bool, ldS_ptr, list_cells, list_ro, partS_none, lenSl_of, lenStr_of, cvInt_of, aminmax_max, aminmax_min, abin_add, abin_sub, abin_mul, abin_eql, abin_neq, abin_lss, abin_leq, abin_gtr, abin_geq, aunary_not, aextract, hc.t3]) (by simp [FT.get_set, FT.setL, faS_ptr, nilS_ptr, nilS_func, nilS_yield, pickS_bool, ldS_ptr, list_cells, list_ro, partS_none, lenSl_of, lenStr_of, cvInt_of, aminmax_max, aminmax_min, abin_add, abin_sub, abin_mul, abin_eql, abin_neq, abin_lss, abin_leq, abin_gtr, abin_geq, aunary_not, aextract]) (by simp [FT.get_set, FT.setL, faS_ptr, nilS_ptr, nilS_func, nilS_yield, pickS_bool, ldS_ptr, list_cells, list_ro, partS_none, lenSl_of, lenStr_of, cvInt_of, aminmax_max, aminmax_min, abin_add, abin_sub, abin_mul, abin_eql, abin_neq, abin_lss, abin_leq, abin_gtr, abin_geq, aunary_not, aextract, t5])) ?_
          rintro _ T' S' ⟨rfl, h⟩
          exact ⟨m - 1, by omega, h⟩
        · have eC : decide (x.n < y.n) = false := decide_eq_false hC
          simp (decide := true) only [FT.get_set, FT.setL, faS_ptr, nilS_ptr, nilS_func, nilS_yield, pickS_bool, ldS_ptr, list_cells, list_ro, partS_none, lenSl_of, lenStr_of, cvInt_of, aminmax_max, aminmax_min, abin_add, abin_sub, abin_mul, abin_eql, abin_neq, abin_lss, abin_leq, abin_gtr, abin_geq, aunary_not, aextract, Option.some.injEq, Prod.mk.injEq, Value.bool.injEq, exists_eq_left', exists_and_left, and_assoc, decide_eq_true_eq, decide_eq_false_iff_not, if_true, if_false, Nat.zero_add, Nat.add_zero, Option.bind_some, true_and, and_true, forall_const, true_implies, Bool.not_eq_true, Bool.false_eq_true, false_implies, ite_self, Nat.mul_one, hc.t3, t5, e0, ia1, hwm, ia2, list_of hb, x0, y0, x1, y1, eA, eB, eC]
          refine stay _ (by unfold lt; omega) (by simp [FT.get_set, FT.setL, faS_ptr, nilS_ptr, nilS_func, nilS_yield, pickS_bool, ldS_ptr, list_cells, list_ro, partS_none, lenSl_of, lenStr_of, cvInt_of, aminmax_max, aminmax_min, abin_add, abin_sub, abin_mul, abin_eql, abin_neq, abin_lss, abin_leq, abin_gtr, abin_geq, aunary_not, aextract, hc.t3]) (by simp [FT.get_set, FT.setL, faS_ptr, nilS_ptr, nilS_func, nilS_yield, pickS_bool, ldS_ptr, list_cells, list_ro, partS_none, lenSl_of, lenStr_of, cvInt_of, aminmax_max, aminmax_min, abin_add, abin_sub, abin_mul, abin_eql, abin_neq, abin_lss, abin_leq, abin_gtr, abin_geq, aunary_not, aextract]) (by simp [FT.get_set, FT.setL, faS_ptr, nilS_ptr, nilS_func, nilS_yield, pickS_bool, ldS_ptr, list_cells, list_ro, partS_none, lenSl_of, lenStr_of, cvInt_of, aminmax_max, aminmax_min, abin_add, abin_sub, abin_mul, abin_eql, abin_neq, abin_lss, abin_leq, abin_gtr, abin_geq, aunary_not, aextract]) _ fun T' h => ?_
          simp only [if_true]
          first | exact h | exact ⟨trivial, h⟩
      · have eB : (x.t == y.t) = false := by simp [hB]
        simp (decide := true) only [FT.get_set, FT.setL, faS_ptr, nilS_ptr, nilS_func, nilS_yield, pickS_bool, ldS_ptr, list_cells, list_ro, partS_none, lenSl_of, lenStr_of, cvInt_of, aminmax_max, aminmax_min, abin_add, abin_sub, abin_mul, abin_eql, abin_neq, abin_lss, abin_leq, abin_gtr, abin_geq, aunary_not, aextract, Option.some.injEq, Prod.mk.injEq, Value.bool.injEq, exists_eq_left', exists_and_left, and_assoc, decide_eq_true_eq, decide_eq_false_iff_not, if_true, if_false, Nat.zero_add, Nat.add_zero, Option.bind_some, true_and, and_true, forall_const, true_implies, Bool.not_eq_true, Bool.false_eq_true, false_implies, ite_self, Nat.mul_one, hc.t3, t5, e0, ia1, hwm, ia2, list_of hb, x0, y0, x1, y1, eA, eB]
        refine stay _ (by unfold lt; omega) (by simp [FT.get_set, FT.setL, faS_ptr, nilS_ptr, nilS_func, nilS_yield, pickS_bool, ldS_ptr, list_cells, list_ro, partS_none, lenSl_of, lenStr_of, cvInt_of, aminmax_max, aminmax_min, abin_add, abin_sub, abin_mul, abin_eql, abin_neq, abin_lss, abin_leq, abin_gtr, abin_geq, aunary_not, aextract, hc.t3]) (by simp [FT.get_set, FT.setL, faS_ptr, nilS_ptr, nilS_func, nilS_yield, pickS_bool, ldS_ptr, list_cells, list_ro, partS_none, lenSl_of, lenStr_of, cvInt_of, aminmax_max, aminmax_min, abin_add, abin_sub, abin_mul, abin_eql, abin_neq, abin_lss, abin_leq, abin_gtr, abin_geq, aunary_not, aextract]) (by simp [FT.get_set, FT.setL, faS_ptr, nilS_ptr, nilS_func, nilS_yield, pickS_bool, ldS_ptr, list_cells, list_ro, partS_none, lenSl_of, lenStr_of, cvInt_of, aminmax_max, aminmax_min, abin_add, abin_sub, abin_mul, abin_eql, abin_neq, abin_lss, abin_leq, abin_gtr, abin_geq, aunary_not, aextract]) _ fun T' h => ?_
        simp only [if_true]
        first | exact h | exact ⟨trivial, h⟩

def WO18 (S0 : MS) (b cap es : Nat) (l junk : List Tm) (m : Nat) (T : FT) (S : MS) : Prop :=
  ∃ i : Nat, i + m = l.length + 1 ∧ 1 ≤ i ∧ S.m b = some (.cells ((isort (l.take i) ++ l.drop i ++ junk).flatMap tmL) es) ∧ WC S0 b l.length cap T S ∧ T.get 4 = .int .i64 i

theorem wait18 {S : MS} {r B : Nat} {now next : Int} {w : Value} {R : List Tm} (h : IsC S r B now next w R) (hl : R.length ≤ 100000) {Q : Value → MS → Prop} (hq : ∀ v S', Old S S' → SlF tmL 4 S' S.n v (isort R) → Q v S') : CallM Try.prog O 18 [.pointer (some ⟨r, 0, none⟩)] S Q := by
  refine callM_wf fun wf => ?_
  refine callM_body (fnIs is18 body18 res18) (O_none (by decide)) (by simp) ?_
  refine m_seq (m_reg ?_)
  rw [reg18_0]
  refine m_seq (m_reg ?_)
  rw [reg18_1]
  obtain ⟨v0, S1, a1, a2, a3, a4, a5⟩ := (SlF.non : SlF tmL 4 S S.n (.slice none 0 0) []).app2 (bytes := 56) (z := [.int .i64 0, .int .i64 0, .string ⟨⟨[]⟩⟩, .slice none 0 0]) tm_len tm_one (by decide) (x := w) (new := R) wf (Nat.le_refl _) h.2.1.len (h.2.1.cells tm_len) (by simp; omega) (by simp; omega)
  rw [List.nil_append] at a2
  have f1 : Old S S1 := ⟨a3, fun y hy => a4 y hy fun l c e => by cases e⟩
  simp (decide := true) only [FT.get_set, FT.setL, faS_ptr, nilS_ptr, nilS_func, nilS_yield, pickS_bool, ldS_ptr, list_cells, list_ro, partS_none, lenSl_of, lenStr_of, cvInt_of, aminmax_max, aminmax_min, abin_add, abin_sub, abin_mul, abin_eql, abin_neq, abin_lss, abin_leq, abin_gtr, abin_geq, aunary_not, aextract, Option.some.injEq, Prod.mk.injEq, Value.bool.injEq, exists_eq_left', exists_and_left, and_assoc, decide_eq_true_eq, decide_eq_false_iff_not, if_true, if_false, Nat.zero_add, Nat.add_zero, Option.bind_some, true_and, and_true, forall_const, true_implies, Bool.not_eq_true, Bool.false_eq_true, false_implies, ite_self, Nat.mul_one, list_of h.1, List.getElem?_cons_zero, List.getElem?_cons_succ, a1]
  refine m_wf fun wf1 => m_seq (m_seq (m_reg ?_))
  rw [reg18_2]
  unfold blk18_0
  cases a2 with
  | non =>
    refine m_block (m_loop (fun m T S' => S' = S1 ∧ T.get 3 = .slice none 0 0 ∧ T.get 4 = .int .i64 1) 0 ⟨rfl, by simp [FT.get_set, FT.setL, faS_ptr, nilS_ptr, nilS_func, nilS_yield, pickS_bool, ldS_ptr, list_cells, list_ro, partS_none, lenSl_of, lenStr_of, cvInt_of, aminmax_max, aminmax_min, abin_add, abin_sub, abin_mul, abin_eql, abin_neq, abin_lss, abin_leq, abin_gtr, abin_geq, aunary_not, aextract], by simp [FT.get_set, FT.setL, faS_ptr, nilS_ptr, nilS_func, nilS_yield, pickS_bool, ldS_ptr, list_cells, list_ro, partS_none, lenSl_of, lenStr_of, cvInt_of, aminmax_max, aminmax_min, abin_add, abin_sub, abin_mul, abin_eql, abin_neq, abin_lss, abin_leq, abin_gtr, abin_geq, aunary_not, aextract]⟩ ?_)
    rintro m T S2 ⟨rfl, t3, t4⟩
    refine m_seq (m_seq (m_reg ?_))
    rw [reg18_3]
    have e0 : lenSl (.slice none 0 0) = some (.int .i64 0) := rfl
    simp (decide := true) only [FT.get_set, FT.setL, faS_ptr, nilS_ptr, nilS_func, nilS_yield, pickS_bool, ldS_ptr, list_cells, list_ro, partS_none, lenSl_of, lenStr_of, cvInt_of, aminmax_max, aminmax_min, abin_add, abin_sub, abin_mul, abin_eql, abin_neq, abin_lss, abin_leq, abin_gtr, abin_geq, aunary_not, aextract, Option.some.injEq, Prod.mk.injEq, Value.bool.injEq, exists_eq_left', exists_and_left, and_assoc, decide_eq_true_eq, decide_eq_false_iff_not, if_true, if_false, Nat.zero_add, Nat.add_zero, Option.bind_some, true_and, and_true, forall_const, true_implies, Bool.not_eq_true, Bool.false_eq_true, false_implies, ite_self, Nat.mul_one, t3, t4, e0]
    refine m_cond (t := false) (by simp [evalT, FT.get_set, FT.setL, faS_ptr, nilS_ptr, nilS_func, nilS_yield, pickS_bool, ldS_ptr, list_cells, list_ro, partS_none, lenSl_of, lenStr_of, cvInt_of, aminmax_max, aminmax_min, abin_add, abin_sub, abin_mul, abin_eql, abin_neq, abin_lss, abin_leq, abin_gtr, abin_geq, aunary_not, aextract]) (fun h => by cases h) (fun _ => m_exit ?_)
    simp only [if_true]
    refine m_seq (m_reg ?_)
    rw [reg18_9]
    refine m_ret ?_
    simp [resM, FT.get_set, FT.setL, faS_ptr, nilS_ptr, nilS_func, nilS_yield, pickS_bool, ldS_ptr, list_cells, list_ro, partS_none, lenSl_of, lenStr_of, cvInt_of, aminmax_max, aminmax_min, abin_add, abin_sub, abin_mul, abin_eql, abin_neq, abin_lss, abin_leq, abin_gtr, abin_geq, aunary_not, aextract, oneOrTuple, t3]
    exact hq _ _ f1 .non
  | own hb hB hc hj =>
    rename_i b cap junk
    have hbn := wf1 _ _ hb
    refine m_block (m_loop (fun m T S' => WO18 S1 b cap 4 R junk m T S') R.length ⟨1, by omega, Nat.le_refl _, ?_, ⟨rfl, fun _ _ _ => rfl, by simp [FT.get_set, FT.setL, faS_ptr, nilS_ptr, nilS_func, nilS_yield, pickS_bool, ldS_ptr, list_cells, list_ro, partS_none, lenSl_of, lenStr_of, cvInt_of, aminmax_max, aminmax_min, abin_add, abin_sub, abin_mul, abin_eql, abin_neq, abin_lss, abin_leq, abin_gtr, abin_geq, aunary_not, aextract]⟩, by simp [FT.get_set, FT.setL, faS_ptr, nilS_ptr, nilS_func, nilS_yield, pickS_bool, ldS_ptr, list_cells, list_ro, partS_none, lenSl_of, lenStr_of, cvInt_of, aminmax_max, aminmax_min, abin_add, abin_sub, abin_mul, abin_eql, abin_neq, abin_lss, abin_leq, abin_gtr, abin_geq, aunary_not, aextract]⟩ ?_)
    · rw [hb]
      cases R with
      | nil => rfl
      | cons x R => rfl
    rintro m T S2 ⟨i, him, hi1, hb1, hc1, t4⟩
    refine m_seq (m_seq (m_reg ?_))
    rw [reg18_3]
    simp (decide := true) only [FT.get_set, FT.setL, faS_ptr, nilS_ptr, nilS_func, nilS_yield, pickS_bool, ldS_ptr, list_cells, list_ro, partS_none, lenSl_of, lenStr_of, cvInt_of, aminmax_max, aminmax_min, abin_add, abin_sub, abin_mul, abin_eql, abin_neq, abin_lss, abin_leq, abin_gtr, abin_geq, aunary_not, aextract, Option.some.injEq, Prod.mk.injEq, Value.bool.injEq, exists_eq_left', exists_and_left, and_assoc, decide_eq_true_eq, decide_eq_false_iff_not, if_true, if_false, Nat.zero_add, Nat.add_zero, Option.bind_some, true_and, and_true, forall_const, true_implies, Bool.not_eq_true, Bool.false_eq_true, false_implies, ite_self, Nat.mul_one, hc1.t3, t4, lenSl_of]
    refine m_cond (t := decide ((i : Int) < R.length)) (by simp [evalT, FT.get_set, FT.setL, faS_ptr, nilS_ptr, nilS_func, nilS_yield, pickS_bool, ldS_ptr, list_cells, list_ro, partS_none, lenSl_of, lenStr_of, cvInt_of, aminmax_max, aminmax_min, abin_add, abin_sub, abin_mul, abin_eql, abin_neq, abin_lss, abin_leq, abin_gtr, abin_geq, aunary_not, aextract]) (fun hlt => m_skip ?_) (fun hlt => m_exit ?_)
    · have hlt : i < R.length := by have := of_decide_eq_true hlt; omega
      simp only
      obtain ⟨x, hx⟩ : ∃ x, R[i]? = some x := ⟨_, List.getElem?_eq_getElem hlt⟩
      have hdrop : R.drop i = x :: R.drop (i + 1) := by
        rw [List.drop_eq_getElem_cons hlt]; congr 1
        have := List.getElem?_eq_getElem hlt
        rw [hx] at this; exact (Option.some.inj this).symm
      unfold blk18_1
      refine m_seq (m_block (m_seq (m_reg ?_)))
      rw [reg18_5]
      refine MWp.mono (inner18 (S0 := S1) (b := b) (cap := cap) (es := 4) (junk := junk) (x := x) hl hlt hbn ⟨isort (R.take i), [], by simp, by rw [isort_len, List.length_take]; omega, (fun y hy => by cases hy), ?_, ⟨hc1.nn, hc1.old, by simp [FT.get_set, FT.setL, faS_ptr, nilS_ptr, nilS_func, nilS_yield, pickS_bool, ldS_ptr, list_cells, list_ro, partS_none, lenSl_of, lenStr_of, cvInt_of, aminmax_max, aminmax_min, abin_add, abin_sub, abin_mul, abin_eql, abin_neq, abin_lss, abin_leq, abin_gtr, abin_geq, aunary_not, aextract, hc1.t3]⟩, by simp [FT.get_set, FT.setL, faS_ptr, nilS_ptr, nilS_func, nilS_yield, pickS_bool, ldS_ptr, list_cells, list_ro, partS_none, lenSl_of, lenStr_of, cvInt_of, aminmax_max, aminmax_min, abin_add, abin_sub, abin_mul, abin_eql, abin_neq, abin_lss, abin_leq, abin_gtr, abin_geq, aunary_not, aextract, t4], by simp [FT.get_set, FT.setL, faS_ptr, nilS_ptr, nilS_func, nilS_yield, pickS_bool, ldS_ptr, list_cells, list_ro, partS_none, lenSl_of, lenStr_of, cvInt_of, aminmax_max, aminmax_min, abin_add, abin_sub, abin_mul, abin_eql, abin_neq, abin_lss, abin_leq, abin_gtr, abin_geq, aunary_not, aextract, t4]⟩) ?_
      · rw [hb1, hdrop]; simp
      rintro _ T3 S3 ⟨rfl, hc2, t4', hb2⟩
      simp only
      refine m_reg ?_
      rw [reg18_4]
      have hwi : IntKind.i64.wrap ((i : Int) + 1) = ((i + 1 : Nat) : Int) := by rw [wrap_i64 (by omega) (by omega)]; rfl
      simp (decide := true) only [FT.get_set, FT.setL, faS_ptr, nilS_ptr, nilS_func, nilS_yield, pickS_bool, ldS_ptr, list_cells, list_ro, partS_none, lenSl_of, lenStr_of, cvInt_of, aminmax_max, aminmax_min, abin_add, abin_sub, abin_mul, abin_eql, abin_neq, abin_lss, abin_leq, abin_gtr, abin_geq, aunary_not, aextract, Option.some.injEq, Prod.mk.injEq, Value.bool.injEq, exists_eq_left', exists_and_left, and_assoc, decide_eq_true_eq, decide_eq_false_iff_not, if_true, if_false, Nat.zero_add, Nat.add_zero, Option.bind_some, true_and, and_true, forall_const, true_implies, Bool.not_eq_true, Bool.false_eq_true, false_implies, ite_self, Nat.mul_one, t4', hwi]
      refine ⟨m - 1, by omega, i + 1, by omega, by omega, ?_, ⟨hc2.nn, hc2.old, by simp [FT.get_set, FT.setL, faS_ptr, nilS_ptr, nilS_func, nilS_yield, pickS_bool, ldS_ptr, list_cells, list_ro, partS_none, lenSl_of, lenStr_of, cvInt_of, aminmax_max, aminmax_min, abin_add, abin_sub, abin_mul, abin_eql, abin_neq, abin_lss, abin_leq, abin_gtr, abin_geq, aunary_not, aextract, hc2.t3]⟩, by simp [FT.get_set, FT.setL, faS_ptr, nilS_ptr, nilS_func, nilS_yield, pickS_bool, ldS_ptr, list_cells, list_ro, partS_none, lenSl_of, lenStr_of, cvInt_of, aminmax_max, aminmax_min, abin_add, abin_sub, abin_mul, abin_eql, abin_neq, abin_lss, abin_leq, abin_gtr, abin_geq, aunary_not, aextract]⟩
      rw [hb2, take_succ_of hx, isort_snoc]
    · have hlt : ¬ i < R.length := by have := of_decide_eq_false hlt; omega
      simp only [if_true]
      refine m_seq (m_reg ?_)
      rw [reg18_9]
      refine m_ret ?_
      simp [resM, FT.get_set, FT.setL, faS_ptr, nilS_ptr, nilS_func, nilS_yield, pickS_bool, ldS_ptr, list_cells, list_ro, partS_none, lenSl_of, lenStr_of, cvInt_of, aminmax_max, aminmax_min, abin_add, abin_sub, abin_mul, abin_eql, abin_neq, abin_lss, abin_leq, abin_gtr, abin_geq, aunary_not, aextract, oneOrTuple, hc1.t3]
      refine hq _ _ ⟨by rw [hc1.nn]; exact a3, fun y hy => by rw [hc1.old y (by omega) (by omega)]; exact f1.2 y hy⟩ ?_
      rw [← isort_len R]
      refine .own (junk := junk) ?_ hB (by simpa [isort_len] using hc) (by simpa [isort_len] using hj)
      rw [hb1, List.take_of_length_le (by omega), List.drop_of_length_le (by omega)]; simp
end Go.Proofs.Ythkmkfgfabjhnaa

