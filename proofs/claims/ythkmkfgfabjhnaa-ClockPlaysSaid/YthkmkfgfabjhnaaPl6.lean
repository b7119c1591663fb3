/-
  The walk through both clocks' code: what its functions do to memory, part Pl6. Nothing is asked.
-/
import Derived.Test.YthkmkfgfabjhnaaPl5
set_option linter.all false
namespace Go.Proofs.Ythkmkfgfabjhnaa
open Go Go.Ag
set_option linter.unusedVariables false
set_option maxRecDepth 100000

theorem due23 {S : MS} {c : Nat} {now : Int} {Q : Value → MS → Prop} (hq : Q (.func (.func 31) #[] #[.pointer (some ⟨S.n, 0, none⟩), .pointer (some ⟨S.n + 1, 0, none⟩)]) ((S.fresh [.pointer (some ⟨c, 0, none⟩)] 0).fresh [.int .i64 now] 0)) : CallM Try.prog O 23 [.pointer (some ⟨c, 0, none⟩), .int .i64 now] S Q := by
  refine callM_body (fnIs is23 body23 res23) (O_none (by decide)) (by simp) ?_
  refine m_seq (m_reg ?_)
  rw [reg23_0]
  have h1 : (Value.cells (.pointer (some ⟨c, 0, none⟩))).toList = [.pointer (some ⟨c, 0, none⟩)] := rfl
  have h2 : (Value.cells (.int .i64 now)).toList = [.int .i64 now] := rfl
  simp (decide := true) only [FT.get_set, FT.setL, faS_ptr, nilS_ptr, nilS_func, nilS_yield, pickS_bool, ldS_ptr, list_cells, list_ro, partS_none, lenSl_of, lenStr_of, cvInt_of, aminmax_max, aminmax_min, abin_add, abin_sub, abin_mul, abin_eql, abin_neq, abin_lss, abin_leq, abin_gtr, abin_geq, aunary_not, aextract, Option.some.injEq, Prod.mk.injEq, Value.bool.injEq, exists_eq_left', exists_and_left, and_assoc, decide_eq_true_eq, decide_eq_false_iff_not, if_true, if_false, Nat.zero_add, Nat.add_zero, Option.bind_some, true_and, and_true, forall_const, true_implies, Bool.not_eq_true, Bool.false_eq_true, false_implies, ite_self, Nat.mul_one, h1, h2, ptrTo, fresh_n]
  refine m_seq (m_reg ?_)
  rw [reg23_1]
  refine m_ret ?_
  simp [resM, FT.get_set, FT.setL, faS_ptr, nilS_ptr, nilS_func, nilS_yield, pickS_bool, ldS_ptr, list_cells, list_ro, partS_none, lenSl_of, lenStr_of, cvInt_of, aminmax_max, aminmax_min, abin_add, abin_sub, abin_mul, abin_eql, abin_neq, abin_lss, abin_leq, abin_gtr, abin_geq, aunary_not, aextract, oneOrTuple]
  exact hq

/-- Tick -/
theorem tick9 {S : MS} {c B : Nat} {now next : Int} {w : Value} {l : List Tm} (h : IsC S c B now next w l) (hB : B ≤ S.n) (hn : 0 ≤ now ∧ now ≤ 4611686018427387904) (hls : l.length ≤ 100000)
    {Q : Value → MS → Prop} (hq : ∀ v w' S', S.n ≤ S'.n → (∀ y, y < S.n → y ≠ c → Av w y → S'.m y = S.m y) → (∀ y, y < S.n → Av w y → Av w' y) → IsC S' c B (now + 1) next w' (l.drop (dueN (now + 1) l)) → SlF tmL 4 S' S.n v (l.take (dueN (now + 1) l)) → Q v S') :
    CallM Try.prog O 9 [.pointer (some ⟨c, 0, none⟩)] S Q := by
  refine callM_wf fun wf => ?_
  have hcn := wf _ _ h.1
  have hcB := h.2.2
  refine callM_body (fnIs is9 body9 res9) (O_none (by decide)) (by simp) ?_
  refine m_seq (m_reg ?_)
  rw [reg9_0]
  refine m_seq (m_reg ?_)
  rw [reg9_1]
  have hw1 : IntKind.i64.wrap (now + 1) = now + 1 := wrap_i64 (by omega) (by omega)
  obtain ⟨S1, u1, u2, u3, u4⟩ := st_one (off := 0) (v := .int .i64 (now + 1)) h.1 (by simp) rfl rfl
  simp (decide := true) only [FT.get_set, FT.setL, faS_ptr, nilS_ptr, nilS_func, nilS_yield, pickS_bool, ldS_ptr, list_cells, list_ro, partS_none, lenSl_of, lenStr_of, cvInt_of, aminmax_max, aminmax_min, abin_add, abin_sub, abin_mul, abin_eql, abin_neq, abin_lss, abin_leq, abin_gtr, abin_geq, aunary_not, aextract, Option.some.injEq, Prod.mk.injEq, Value.bool.injEq, exists_eq_left', exists_and_left, and_assoc, decide_eq_true_eq, decide_eq_false_iff_not, if_true, if_false, Nat.zero_add, Nat.add_zero, Option.bind_some, true_and, and_true, forall_const, true_implies, Bool.not_eq_true, Bool.false_eq_true, false_implies, ite_self, Nat.mul_one, list_of h.1, List.getElem?_cons_zero, hw1]
  refine ⟨S1, u1, ?_⟩
  have hc1 : IsC S1 c B (now + 1) next w l := ⟨u2, h.2.1.keep1 fun y k hy _ => u4 y fun e => by subst e; exact hy hcB, hcB⟩
  refine m_wf fun wf1 => m_seq (m_reg ?_)
  rw [reg9_2]
  simp (decide := true) only [FT.get_set, FT.setL, faS_ptr, nilS_ptr, nilS_func, nilS_yield, pickS_bool, ldS_ptr, list_cells, list_ro, partS_none, lenSl_of, lenStr_of, cvInt_of, aminmax_max, aminmax_min, abin_add, abin_sub, abin_mul, abin_eql, abin_neq, abin_lss, abin_leq, abin_gtr, abin_geq, aunary_not, aextract, Option.some.injEq, Prod.mk.injEq, Value.bool.injEq, exists_eq_left', exists_and_left, and_assoc, decide_eq_true_eq, decide_eq_false_iff_not, if_true, if_false, Nat.zero_add, Nat.add_zero, Option.bind_some, true_and, and_true, forall_const, true_implies, Bool.not_eq_true, Bool.false_eq_true, false_implies, ite_self, Nat.mul_one, list_of hc1.1, List.getElem?_cons_zero]
  refine due23 ?_
  have f2 : Old S1 ((S1.fresh [.pointer (some ⟨c, 0, none⟩)] 0).fresh [.int .i64 (now + 1)] 0) := (old_fresh _ _ _).trans (old_fresh _ _ _)
  have wf2 := wf_fresh' (wf_fresh' wf1 [.pointer (some ⟨c, 0, none⟩)] 0) [.int .i64 (now + 1)] 0
  have hb1 : ((S1.fresh [.pointer (some ⟨c, 0, none⟩)] 0).fresh [.int .i64 (now + 1)] 0).m S1.n = some (.cells [.pointer (some ⟨c, 0, none⟩)] 0) := by rw [fresh_old _ _ _ (by simp only [fresh_n]; omega), fresh_at]
  have hb2 : ((S1.fresh [.pointer (some ⟨c, 0, none⟩)] 0).fresh [.int .i64 (now + 1)] 0).m (S1.n + 1) = some (.cells [.int .i64 (now + 1)] 0) := fresh_at (S1.fresh _ 0) _ 0
  have hc2 := hc1.keep wf1 f2.2
  refine callM_wf_post (collect22 hls hb1 hb2 hc2 fun v S3 f3 hv wf3 => ?_)
  have hc3 := hc2.keep wf2 f3.2
  have hn3 := f3.1
  simp only [fresh_n] at hn3
  refine m_seq (m_reg ?_)
  rw [reg9_3]
  have hdl : (l.take (dueN (now + 1) l)).length = dueN (now + 1) l := by rw [List.length_take, Nat.min_eq_left (due_le _ _)]
  simp (decide := true) only [FT.get_set, FT.setL, faS_ptr, nilS_ptr, nilS_func, nilS_yield, pickS_bool, ldS_ptr, list_cells, list_ro, partS_none, lenSl_of, lenStr_of, cvInt_of, aminmax_max, aminmax_min, abin_add, abin_sub, abin_mul, abin_eql, abin_neq, abin_lss, abin_leq, abin_gtr, abin_geq, aunary_not, aextract, Option.some.injEq, Prod.mk.injEq, Value.bool.injEq, exists_eq_left', exists_and_left, and_assoc, decide_eq_true_eq, decide_eq_false_iff_not, if_true, if_false, Nat.zero_add, Nat.add_zero, Option.bind_some, true_and, and_true, forall_const, true_implies, Bool.not_eq_true, Bool.false_eq_true, false_implies, ite_self, Nat.mul_one, list_of hc3.1, List.getElem?_cons_zero, List.getElem?_cons_succ, hv.lenSl, hdl]
  refine delete24 hc3.2.1 (due_le _ _) fun w' S4 g1 g2 g3 => ?_
  have hcw := (g2 c hcB).2
  have hc4 := (g2 c hcB).1.trans hc3.1
  obtain ⟨S5, v1, v2, v3, v4⟩ := st_one (off := 2) (v := w') hc4 (by simp) (SlF.one g3).1 (SlF.one g3).2
  refine ⟨S5, by simpa using v1, ?_⟩
  refine m_seq (m_reg ?_)
  rw [reg9_4]
  refine m_ret ?_
  simp [resM, FT.get_set, FT.setL, faS_ptr, nilS_ptr, nilS_func, nilS_yield, pickS_bool, ldS_ptr, list_cells, list_ro, partS_none, lenSl_of, lenStr_of, cvInt_of, aminmax_max, aminmax_min, abin_add, abin_sub, abin_mul, abin_eql, abin_neq, abin_lss, abin_leq, abin_gtr, abin_geq, aunary_not, aextract, oneOrTuple]
  have hnS : S1.n = S.n := u3
  refine hq v w' S5 (by omega) (fun y hy hne hav => ?_) (fun y hy hav => (g2 y hav).2) ⟨v2, g3.keep1 fun y k hy _ => v4 y fun e => by subst e; exact hy hcw, hcw⟩ ?_
  · rw [v4 y hne, (g2 y hav).1, f3.2 y (by simp only [fresh_n]; omega), f2.2 y (by omega), u4 y hne]
  · have hv' : SlF tmL 4 S3 S.n v (l.take (dueN (now + 1) l)) := hv.weaken (by simp only [fresh_n]; omega)
    refine (hv'.keep1 (S' := S4) fun y k hy hyk => ?_).keep1 fun y k hy hyk => ?_
    · refine (g2 y fun l' c' e => ?_).1
      -- w's block is old
      have hwb : y < S1.n := by
        have := hc1.2.1
        rw [e] at this
        cases this with
        | own hb _ _ _ => exact wf1 _ _ hb
      have hvb := (show SlF tmL 4 S3 ((S1.fresh [.pointer (some ⟨c, 0, none⟩)] 0).fresh [.int .i64 (now + 1)] 0).n v _ from hv)
      exact hy (hvb.av (by simp only [fresh_n]; omega))
    · refine v4 y fun e => ?_
      subst e
      exact hy (hv.av (by simp only [fresh_n]; omega))

/-! ### plain: what waits -/
def lts (l : List Tm) : Prop := l.Pairwise lt
theorem lt_trans {a b c : Tm} (h : lt a b) (h' : lt b c) : lt a c := by unfold lt at *; omega
theorem insR_lts : ∀ (p : List Tm) (x : Tm), lts p → (∀ y ∈ p, lt x y ∨ lt y x) → lts (insR p x) := by
  have main : ∀ (q : List Tm) (x : Tm), lts q.reverse → (∀ y ∈ q, lt x y ∨ lt y x) → lts (insR q.reverse x) := by
    intro q
    induction q with
    | nil => intro x _ _; exact List.pairwise_singleton _ _
    | cons y q ih =>
      intro x h hx
      rw [List.reverse_cons] at h ⊢
      have h1 := List.pairwise_append.1 h
      rw [insR_snoc]
      split
      · rename_i hxy
        refine List.pairwise_append.2 ⟨ih x h1.1 (fun z hz => hx z (by simp [hz])), List.pairwise_singleton _ _, fun a ha b hb => ?_⟩
        simp at hb; subst hb
        rcases (insR_mem _ _ _).1 ha with rfl | ha
        · exact hxy
        · exact h1.2.2 a ha b (by simp)
      · rename_i hxy
        refine List.pairwise_append.2 ⟨h, List.pairwise_singleton _ _, fun a ha b hb => ?_⟩
        simp at hb; subst hb
        have hyx : lt y b := (hx y (by simp)).resolve_left hxy
        rcases List.mem_append.1 ha with ha | ha
        · exact lt_trans (h1.2.2 a ha y (by simp)) hyx
        · simp at ha; subst ha; exact hyx
  intro p x h hx
  have := main p.reverse x (by rwa [List.reverse_reverse]) (fun y hy => hx y (by simpa using hy))
  rwa [List.reverse_reverse] at this
/-- sorted already -/
theorem isort_lts : ∀ l : List Tm, lts l → isort l = l := by
  have main : ∀ q : List Tm, lts q.reverse → isort q.reverse = q.reverse := by
    intro q
    induction q with
    | nil => intro _; rfl
    | cons y q ih =>
      intro h
      rw [List.reverse_cons] at h ⊢
      have h1 := List.pairwise_append.1 h
      rw [isort_snoc, ih h1.1]
      rcases List.eq_nil_or_concat q.reverse with e | ⟨p, z, e⟩
      · rw [e]; rfl
      · rw [e, List.concat_eq_append, insR_snoc]
        have hz := h1.2.2 z (by rw [e]; simp) y (by simp)
        rw [if_neg (fun h => by unfold lt at *; omega)]
  intro l h
  have := main l.reverse (by rwa [List.reverse_reverse])
  rwa [List.reverse_reverse] at this

/-- the timers of the delays, numbered from 10 on, set at 5 -/
def tmOf (d : Nat) (i : Nat) : Tm := ⟨5 + ((d : Int) + 1), 10 + (i : Int), ⟨⟨[101]⟩⟩, none, 0, 0⟩
/-- of the first k delays those that come behind a moment wait -/
structure Waits (ds : List Nat) (k : Nat) (now : Int) (l : List Tm) : Prop where
  sorted : lts l
  sound : ∀ x ∈ l, ∃ i d, i < k ∧ ds[i]? = some d ∧ x = tmOf d i ∧ now < x.t
  all : ∀ (i : Nat) d, i < k → ds[i]? = some d → now < (tmOf d i).t → tmOf d i ∈ l

theorem Waits.set {ds : List Nat} {k d : Nat} {l : List Tm} (h : Waits ds k 5 l) (hd : ds[k]? = some d) : Waits ds (k + 1) 5 (isort (l ++ [tmOf d k])) := by
  rw [isort_snoc, isort_lts l h.sorted]
  refine ⟨insR_lts _ _ h.sorted fun y hy => ?_, fun x hx => ?_, fun i d' hi hd' hn => ?_⟩
  · obtain ⟨i, d', hi, _, rfl, _⟩ := h.sound y hy
    unfold lt tmOf; simp only; omega
  · rcases (insR_mem _ _ _).1 hx with rfl | hx
    · exact ⟨k, d, Nat.lt_succ_self _, hd, rfl, by unfold tmOf; simp only; omega⟩
    · obtain ⟨i, d', hi, h2, h3, h4⟩ := h.sound x hx
      exact ⟨i, d', by omega, h2, h3, h4⟩
  · by_cases e : i = k
    · subst e; rw [hd] at hd'; cases hd'; exact (insR_mem _ _ _).2 (.inl rfl)
    · exact (insR_mem _ _ _).2 (.inr (h.all i d' (by omega) hd' hn))

theorem lts_le {l : List Tm} (h : lts l) (now : Int) : ∀ (i : Nat) x, l[i]? = some x → (i < dueN now l ↔ x.t ≤ now) := by
  induction l with
  | nil => intro i x h; cases h
  | cons y l ih =>
    have h1 := List.pairwise_cons.1 h
    intro i x hx
    unfold dueN
    rw [List.takeWhile_cons]
    by_cases hy : y.t ≤ now
    · rw [if_pos (by simpa using hy)]
      cases i with
      | zero => cases hx; simp [hy]
      | succ i =>
        have := ih h1.2 i x hx
        unfold dueN at this
        rw [← this]; simp
    · rw [if_neg (by simpa using hy)]
      cases i with
      | zero => cases hx; simp; omega
      | succ i =>
        have hm := h1.1 x (List.mem_of_getElem? hx)
        unfold lt at hm
        simp; omega

theorem Waits.tick {ds : List Nat} {k : Nat} {now : Int} {l : List Tm} (h : Waits ds k now l) : Waits ds k (now + 1) (l.drop (dueN (now + 1) l)) := by
  have hle := lts_le h.sorted (now + 1)
  refine ⟨h.sorted.sublist (List.drop_sublist _ _), fun x hx => ?_, fun i d hi hd hn => ?_⟩
  · obtain ⟨j, hj⟩ := List.getElem?_of_mem hx
    rw [List.getElem?_drop] at hj
    obtain ⟨i, d, h1, h2, h3, h4⟩ := h.sound x (List.mem_of_getElem? hj)
    refine ⟨i, d, h1, h2, h3, ?_⟩
    have := (not_congr (hle _ _ hj)).1 (by omega)
    omega
  · obtain ⟨j, hj⟩ := List.getElem?_of_mem (h.all i d hi hd (by omega))
    have := (not_congr (hle _ _ hj)).2 (by omega)
    have : (l.drop (dueN (now + 1) l))[j - dueN (now + 1) l]? = some (tmOf d i) := by rw [List.getElem?_drop, show dueN (now + 1) l + (j - dueN (now + 1) l) = j by omega]; exact hj
    exact List.mem_of_getElem? this

/-- what a tick tells: those of this moment, by their numbers -/
theorem Waits.due {ds : List Nat} {k : Nat} {now : Int} {l : List Tm} (h : Waits ds k now l) (j : Nat) (x : Tm) (hx : (l.take (dueN (now + 1) l))[j]? = some x) : ∃ i d, i < k ∧ ds[i]? = some d ∧ x = tmOf d i ∧ x.t = now + 1 := by
  rw [List.getElem?_take] at hx
  split at hx
  · rename_i hj
    obtain ⟨i, d, h1, h2, h3, h4⟩ := h.sound x (List.mem_of_getElem? hx)
    have := (lts_le h.sorted (now + 1) _ _ hx).1 hj
    exact ⟨i, d, h1, h2, h3, by omega⟩
  · cases hx
end Go.Proofs.Ythkmkfgfabjhnaa

