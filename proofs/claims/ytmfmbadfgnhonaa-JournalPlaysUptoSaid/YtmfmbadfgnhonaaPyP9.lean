/-
  The walk through the journal's code: what its functions do to memory, part PyP9. Nothing is asked.
-/
import Derived.Test.YtmfmbadfgnhonaaPyP8
set_option linter.all false
namespace Go.Proofs.Ytmfmbadfgnhonaa
open Go Go.Ag
set_option linter.unusedVariables false
set_option maxRecDepth 100000

theorem g4_3 {S : MS} {T : FT} {N : Int} {v w : Value} {l : List Stp} {fl : Nat} (ha : ArgS S w l) (hv : lenSl v = some (.int .i64 fl)) (t0 : T.get 0 = .int .i64 N) (t1 : T.get 1 = v) (t2 : T.get 2 = w) {Q : FT → MS → Prop} (bad : ∀ T', T'.get 37 = .bool true → Q T' S) (good : l.length ≤ 50 → ¬ ((fl : Int) > 1000) → ¬ (N < 64) → ¬ (N > 200) → ∀ T', Kp [0, 1, 2] T T' → T'.get 37 = .bool false → Q T' S) : mOps Try.prog O 237 (ro 4 3).toList (ro 4 3).toList [] T S Q := by
  rw [reg4_3, t0, t1, t2]
  refine few15 ha fun t ht => ?_
  cases t with
  | false =>
    refine ⟨.bool true, by rw [aunary_not]; rfl, true, rfl, fun _ => ⟨.bool true, rfl, true, rfl, fun _ => ⟨.bool true, rfl, true, rfl, fun _ => ⟨.bool true, rfl, bad _ ?_⟩, tf⟩, tf⟩, tf⟩
    simp [FT.get_set]
  | true =>
    refine ⟨.bool false, by rw [aunary_not]; rfl, false, rfl, ff, fun _ => ?_⟩
    by_cases h2 : (fl : Int) > 1000
    · have e2 : decide ((fl : Int) > 1000) = true := decide_eq_true h2
      refine ⟨_, hv, .bool true, (abin_gtr _ _ _ _ _ _ _).trans (by rw [e2]), .bool true, rfl, true, rfl, fun _ => ⟨.bool true, rfl, true, rfl, fun _ => ⟨.bool true, rfl, bad _ ?_⟩, tf⟩, tf⟩
      simp [FT.get_set]
    have e2 : decide ((fl : Int) > 1000) = false := decide_eq_false h2
    by_cases h3 : N < 64
    · have e3 : decide (N < 64) = true := decide_eq_true h3
      refine ⟨_, hv, .bool false, (abin_gtr _ _ _ _ _ _ _).trans (by rw [e2]), .bool false, rfl, false, rfl, ff, fun _ => ⟨.bool true, (abin_lss _ _ _ _ _ _ _).trans (by rw [e3]), .bool true, rfl, true, rfl, fun _ => ⟨.bool true, rfl, bad _ ?_⟩, tf⟩⟩
      simp [FT.get_set]
    have e3 : decide (N < 64) = false := decide_eq_false h3
    by_cases h4 : N > 200
    · have e4 : decide (N > 200) = true := decide_eq_true h4
      refine ⟨_, hv, .bool false, (abin_gtr _ _ _ _ _ _ _).trans (by rw [e2]), .bool false, rfl, false, rfl, ff, fun _ => ⟨.bool false, (abin_lss _ _ _ _ _ _ _).trans (by rw [e3]), .bool false, rfl, false, rfl, ff, fun _ => ⟨.bool true, (abin_gtr _ _ _ _ _ _ _).trans (by rw [e4]), .bool true, rfl, bad _ ?_⟩⟩⟩
      simp [FT.get_set]
    have e4 : decide (N > 200) = false := decide_eq_false h4
    refine ⟨_, hv, .bool false, (abin_gtr _ _ _ _ _ _ _).trans (by rw [e2]), .bool false, rfl, false, rfl, ff, fun _ => ⟨.bool false, (abin_lss _ _ _ _ _ _ _).trans (by rw [e3]), .bool false, rfl, false, rfl, ff, fun _ => ⟨.bool false, (abin_gtr _ _ _ _ _ _ _).trans (by rw [e4]), .bool false, rfl, good (ht rfl) h2 h3 h4 _ ?_ ?_⟩⟩⟩
    · simp [Kp, FT.get_set, t0, t1, t2]
    · simp [FT.get_set]

theorem PO.mv {S0 : MS} {av : Value} {N d wb wb' i : Nat} {T T' : FT} {S : MS} (h : PO S0 av N d wb i T S) (hw : wb ≤ wb') (hk : ∀ k ∈ [2, 7, 9, 10, 11, 12], T'.get k = T.get k) : PO S0 av N d wb' i T' S := by
  obtain ⟨D, c0, W, j, rv, half, bv, lv, base, rs, z1, z2, z3, z4, z5, z6, z7, z8, z9, z10, z11, z12, z13⟩ := h
  exact ⟨D, c0, W, j, rv, half, bv, lv, base, rs, z1, z2, z3, z4, z5, by omega, z7, (hk 2 (by decide)).trans z8, (hk 7 (by decide)).trans z9, (hk 9 (by decide)).trans z10, (hk 10 (by decide)).trans z11, (hk 11 (by decide)).trans z12, (hk 12 (by decide)).trans z13⟩
theorem roundP {S0 : MS} {av : Value} {l : List Stp} {N d i : Nat} {T : FT} {S : MS} (wf0 : S0.WF) (ha : ArgS S0 av l) (hl : l.length ≤ 50) (hN2 : N ≤ 200) (hi : i ≤ l.length) (h : PO S0 av N d (400 + 300 * i) i T S) (t13 : T.get 13 = .int .i64 i) :
    MWp Try.prog O 237 (.seq (.seq (.region 17 (ro 4 17) false) (.cond (.tmp 73) .skip (.exit 0))) (.seq blk4_1 (.region 18 (ro 4 18) false))) T S fun y T' S' => (y = .normal ∧ i < l.length ∧ PO S0 av N d (400 + 300 * (i + 1)) (i + 1) T' S' ∧ T'.get 13 = .int .i64 ((i + 1 : Nat) : Int)) ∨ (y = .exit 0 ∧ PO S0 av N d (400 + 300 * i) i T' S') := by
  have h0 := h
  obtain ⟨D, c0, W, j, rv, half, bv, lv, base, rs, hp, hrun, hL, hbf, hm, hws, hrs, t2, t7, t9, t10, t11, t12⟩ := h
  refine m_wf fun wf => m_seq (m_seq (m_reg ?_))
  rw [reg4_17]
  simp (decide := true) only [FT.get_set, FT.setL, faS_ptr, nilS_ptr, nilS_func, nilS_yield, pickS_bool, ldS_ptr, list_cells, list_ro, partS_none, lenSl_of, lenStr_of, cvInt_of, aminmax_max, aminmax_min, abin_add, abin_sub, abin_mul, abin_eql, abin_neq, abin_lss, abin_leq, abin_gtr, abin_geq, aunary_not, aextract, Option.some.injEq, Prod.mk.injEq, Value.bool.injEq, exists_eq_left', exists_and_left, and_assoc, decide_eq_true_eq, decide_eq_false_iff_not, if_true, if_false, Nat.zero_add, Nat.add_zero, Option.bind_some, true_and, and_true, forall_const, true_implies, Bool.not_eq_true, Bool.false_eq_true, false_implies, ite_self, Nat.mul_one, t2, t13, ha.len]
  refine m_cond (t := decide ((i : Int) < l.length)) (by simp [evalT, FT.get_set, FT.setL, faS_ptr, nilS_ptr, nilS_func, nilS_yield, pickS_bool, ldS_ptr, list_cells, list_ro, partS_none, lenSl_of, lenStr_of, cvInt_of, aminmax_max, aminmax_min, abin_add, abin_sub, abin_mul, abin_eql, abin_neq, abin_lss, abin_leq, abin_gtr, abin_geq, aunary_not, aextract]) (fun hlt => m_skip ?_) (fun hlt => m_exit ?_)
  · have hlt : i < l.length := by have := of_decide_eq_true hlt; omega
    obtain ⟨s, hsi⟩ : ∃ s, l[i]? = some s := ⟨_, List.getElem?_eq_getElem hlt⟩
    obtain ⟨hcut, hxb⟩ := ha.ok s (List.mem_of_getElem? hsi)
    obtain ⟨x, a, o, L, q1, q2, q3, q4, q5, q6⟩ := ha.at wf0 (fun y hy => (hbf y hy).2) hsi
    have hx0 : RB S0 x s.bytes := q5.keepOn fun y hy => ((hbf y (q6 y hy)).2).symm
    simp only
    unfold blk4_1
    refine m_seq (m_block (m_seq (m_reg ?_)))
    rw [reg4_19]
    have hpt : partS (some 3) L o = some (.agg (stpL s x).toArray) := by rw [partS_some _ _ _ q3, q4]
    have hone : (stpL s x).all oneCell = true := by
      have := q5.one.2
      simp [stpL, oneCell] at this ⊢
      exact this
    obtain ⟨S1, u1, u2, u3, u4⟩ := st_all (n := 3) (cs := (stpL s x).toArray) (fresh_at S [.int .i64 0, .int .i64 0, .slice none 0 0] 0) rfl rfl (by simpa using hone)
    have hld : ldS (some 3) S (.pointer (some ⟨a, o, none⟩)) = some (.agg (stpL s x).toArray) := by rw [ldS_ptr, q2]; exact hpt
    simp (decide := true) only [FT.get_set, FT.setL, faS_ptr, nilS_ptr, nilS_func, nilS_yield, pickS_bool, ldS_ptr, list_cells, list_ro, partS_none, lenSl_of, lenStr_of, cvInt_of, aminmax_max, aminmax_min, abin_add, abin_sub, abin_mul, abin_eql, abin_neq, abin_lss, abin_leq, abin_gtr, abin_geq, aunary_not, aextract, Option.some.injEq, Prod.mk.injEq, Value.bool.injEq, exists_eq_left', exists_and_left, and_assoc, decide_eq_true_eq, decide_eq_false_iff_not, if_true, if_false, Nat.zero_add, Nat.add_zero, Option.bind_some, true_and, and_true, forall_const, true_implies, Bool.not_eq_true, Bool.false_eq_true, false_implies, ite_self, Nat.mul_one, t2, t13, q1, ptrTo]
    refine ⟨_, hld, S1, u1, ?_⟩
    have hn1 : S1.n = S.n + 1 := u3
    have f1 : Old S S1 := ⟨by omega, fun y hy => by rw [u4 y (by omega), fresh_old _ _ _ (by omega)]⟩
    have hq1 : S1.m S.n = some (.cells (stpL s x) 0) := u2
    refine m_wf fun wf1 => ?_
    have hp1 := hp.old wf f1
    have hL1 := hL.old f1
    have hfq : Fr S1 d D j rv S.n := Fr.new hp.is wf hp.jj (Nat.le_refl _) (by omega)
    have hbf1 : ∀ y, y < S0.n → Fr S1 d D j rv y ∧ S1.m y = S0.m y := fun y hy => ⟨(hbf y hy).1.old f1, (f1.2 y (hbf y hy).1.1.1).trans (hbf y hy).2⟩
    -- from the cut on
    have rest : ∀ (S2 : MS) (D2 : DK) (T2 : FT), S2.n = S1.n → PX (fun _ => False) S2 d D2 c0 W j rv half base rs false → D2.made = D.made → D2.ws = D.ws → D2.halt ≤ 9223372036854775807 → (∀ y, Fr S1 d D j rv y → S2.m y = S1.m y ∧ Fr S2 d D2 j rv y) →
        (∀ k ∈ [2, 7, 9, 10, 11, 12, 13], T2.get k = T.get k) → T2.get 14 = .pointer (some ⟨S.n, 0, none⟩) →
        MWp Try.prog O 237 (.seq (.region 22 (ro 4 22) false) (.seq (.region 23 (ro 4 23) false) (.seq (.region 24 (ro 4 24) false) (.seq (.seq (.region 25 (ro 4 25) false) blk4_2) tail4a)))) T2 S2 fun y T' S' => y = .normal ∧ PO S0 av N d (400 + 300 * i + 300) (i + 1) T' S' ∧ T'.get 13 = .int .i64 i := by
      intro S2 D2 T2 n2 hp2 hm2 hw2 hh2 kf k2 k14
      have hL2 := hL1.keep kf
      obtain ⟨hq2, hfq2⟩ := kf S.n hfq
      have hq2 := hq2.trans hq1
      have hbf2 : ∀ y, y < S0.n → Fr S2 d D2 j rv y ∧ S2.m y = S0.m y := fun y hy => by
        obtain ⟨g1, g2⟩ := kf y (hbf1 y hy).1
        exact ⟨g2, g1.trans (hbf1 y hy).2⟩
      have hx2 : RB S2 x s.bytes := hx0.keepOn fun y hy => (hbf2 y (q6 y hy)).2
      refine m_wf fun wf2 => m_seq (m_reg ?_)
      rw [reg4_22]
      obtain ⟨v15, S3, a1, a2, a3, a4, a5⟩ := (SlF.non (f := bF) (sz := 1) (S := S2) (B := S2.n)).app2 (bytes := 1) (z := [.int .u8 0]) bF_len bF_one (by decide) (x := x) (new := s.bytes) wf2 (Nat.le_refl _) hx2.lenA hx2.flat (by simp; omega) (by simp; omega)
      rw [List.nil_append] at a2
      simp (decide := true) only [FT.get_set, FT.setL, faS_ptr, nilS_ptr, nilS_func, nilS_yield, pickS_bool, ldS_ptr, list_cells, list_ro, partS_none, lenSl_of, lenStr_of, cvInt_of, aminmax_max, aminmax_min, abin_add, abin_sub, abin_mul, abin_eql, abin_neq, abin_lss, abin_leq, abin_gtr, abin_geq, aunary_not, aextract, Option.some.injEq, Prod.mk.injEq, Value.bool.injEq, exists_eq_left', exists_and_left, and_assoc, decide_eq_true_eq, decide_eq_false_iff_not, if_true, if_false, Nat.zero_add, Nat.add_zero, Option.bind_some, true_and, and_true, forall_const, true_implies, Bool.not_eq_true, Bool.false_eq_true, false_implies, ite_self, Nat.mul_one, k14, list_of hq2, sl2, a1]
      have f3 : Old S2 S3 := ⟨a3, fun y hy => a4 y hy fun l c e => by cases e⟩
      refine m_wf fun wf3 => m_seq (m_reg ?_)
      rw [reg4_23]
      refine m_seq (m_reg ?_)
      rw [reg4_24]
      refine m_seq (m_seq (m_reg ?_))
      rw [reg4_25]
      have hq3 : S3.m S.n = some (.cells (stpL s x) 0) := (f3.2 S.n (by omega)).trans hq2
      simp (decide := true) only [FT.get_set, FT.setL, faS_ptr, nilS_ptr, nilS_func, nilS_yield, pickS_bool, ldS_ptr, list_cells, list_ro, partS_none, lenSl_of, lenStr_of, cvInt_of, aminmax_max, aminmax_min, abin_add, abin_sub, abin_mul, abin_eql, abin_neq, abin_lss, abin_leq, abin_gtr, abin_geq, aunary_not, aextract, Option.some.injEq, Prod.mk.injEq, Value.bool.injEq, exists_eq_left', exists_and_left, and_assoc, decide_eq_true_eq, decide_eq_false_iff_not, if_true, if_false, Nat.zero_add, Nat.add_zero, Option.bind_some, true_and, and_true, forall_const, true_implies, Bool.not_eq_true, Bool.false_eq_true, false_implies, ite_self, Nat.mul_one, k14, list_of hq3, sl0]
      have hp3 := hp2.old wf2 f3
      have lo : ∀ y, On v15 y → S2.n ≤ y ∧ y < S3.n := fun y hy => ⟨SlF.on a2 hy, (RB.own a2).on_lt wf3 hy⟩
      have hS0 : S0.n ≤ S.n := by
        by_cases h0 : S0.n ≤ S.n
        · exact h0
        · have := (hbf S.n (by omega)).1.1.1; omega
      have hX : ∀ y, On v15 y → ¬ FrD S2 d D2 y ∨ False := fun y hy => .inl fun e => by have := (lo y hy).1; have := e.1; omega
      have hj2 : JJ (On v15) S2 d D2 j rv half (liveN base rs) base rs false := hp2.jj.other hX
      have hpx : PX (On v15) S3 d D2 c0 W j rv half base rs false := ⟨hp3.is, hp3.hw, hj2.old f3, hp3.says, hp3.n, hp3.live⟩
      have hpr : PR S0 S.n s x v15 S3 d D2 j rv := ⟨fun y hy => ⟨(hbf2 y hy).1.old f3, (f3.2 y (hbf2 y hy).1.1.1).trans (hbf2 y hy).2⟩, hq3, hfq2.old f3, SlF.weaken a2 (Nat.zero_le _), fun y hy => Fr.new hp2.is wf2 hp2.jj (lo y hy).1 (lo y hy).2⟩
      have hlv : ∀ y, On v15 y → Av lv y := fun y hy => by
        obtain ⟨rl, l1, _, _, _⟩ := hL.ex
        exact SlF.avN l1 wf (by have := (lo y hy).1; omega)
      have hm2' : D2.made.length = N := by rw [hm2]; exact hm
      have g : ∀ k ∈ [2, 7, 9, 10, 11, 12, 13], T2.get k = T.get k := k2
      refine (switchP (wb := 400 + 300 * i) hlv hpx hpr (hL2.old f3) hx0 q6 hxb hm2' hN2 (by rw [hw2]; exact hws) (by omega) hh2 (by omega) (by simp [FT.get_set, g 7 (by decide), t7]) (by simp [FT.get_set, g 9 (by decide), t9]) (by simp [FT.get_set, g 10 (by decide), t10]) (by simp [FT.get_set, g 11 (by decide), t11]) (by simp [FT.get_set, g 12 (by decide), t12]) (by simp [FT.get_set, k14]) (by simp [FT.get_set]) (by simp [FT.get_set, g 11 (by decide), t11]) (by simp [FT.get_set, g 12 (by decide), t12]) (by simp [FT.get_set]) (by simp [FT.get_set])).mono ?_
      rintro y T4 S4 ⟨rfl, hmid⟩
      simp only
      refine (tailA (i := i) (av := av) hmid hxb (fun y hy => ⟨by have := (lo y hy).1; omega, by have := (lo y hy).1; omega, hlv y hy⟩) hN2 (by omega) (by simp [FT.get_set, g 2 (by decide), t2]) (by simp [FT.get_set, g 7 (by decide), t7]) (by simp [FT.get_set, g 10 (by decide), t10]) (by simp [FT.get_set, g 11 (by decide), t11]) (by simp [FT.get_set, g 12 (by decide), t12]) (by simp [FT.get_set, k14]) (by simp [FT.get_set])).mono ?_
      rintro y T5 S5 ⟨rfl, e1, e2⟩
      refine ⟨rfl, e1, e2.trans ?_⟩
      simp [FT.get_set, g 13 (by decide), t13]
    -- behind all
    have close : ∀ (T5 : FT) (S5 : MS), PO S0 av N d (400 + 300 * i + 300) (i + 1) T5 S5 → T5.get 13 = .int .i64 i → MWp Try.prog O 237 (.region 18 (ro 4 18) false) T5 S5 fun y T' S' => (y = .normal ∧ i < l.length ∧ PO S0 av N d (400 + 300 * (i + 1)) (i + 1) T' S' ∧ T'.get 13 = .int .i64 ((i + 1 : Nat) : Int)) ∨ (y = .exit 0 ∧ PO S0 av N d (400 + 300 * i) i T' S') := by
      intro T5 S5 hpo h13
      refine m_reg ?_
      rw [reg4_18]
      have hwi : IntKind.i64.wrap ((i : Int) + 1) = ((i + 1 : Nat) : Int) := by rw [wrap_i64 (by omega) (by omega)]; rfl
      simp (decide := true) only [FT.get_set, FT.setL, faS_ptr, nilS_ptr, nilS_func, nilS_yield, pickS_bool, ldS_ptr, list_cells, list_ro, partS_none, lenSl_of, lenStr_of, cvInt_of, aminmax_max, aminmax_min, abin_add, abin_sub, abin_mul, abin_eql, abin_neq, abin_lss, abin_leq, abin_gtr, abin_geq, aunary_not, aextract, Option.some.injEq, Prod.mk.injEq, Value.bool.injEq, exists_eq_left', exists_and_left, and_assoc, decide_eq_true_eq, decide_eq_false_iff_not, if_true, if_false, Nat.zero_add, Nat.add_zero, Option.bind_some, true_and, and_true, forall_const, true_implies, Bool.not_eq_true, Bool.false_eq_true, false_implies, ite_self, Nat.mul_one, h13, hwi]
      refine .inl ⟨hlt, hpo.mv (by omega) ?_⟩
      intro k hk
      simp at hk
      rcases hk with rfl | rfl | rfl | rfl | rfl | rfl <;> simp [FT.get_set]
    refine m_seq (m_seq (m_reg ?_))
    rw [reg4_20]
    simp (decide := true) only [FT.get_set, FT.setL, faS_ptr, nilS_ptr, nilS_func, nilS_yield, pickS_bool, ldS_ptr, list_cells, list_ro, partS_none, lenSl_of, lenStr_of, cvInt_of, aminmax_max, aminmax_min, abin_add, abin_sub, abin_mul, abin_eql, abin_neq, abin_lss, abin_leq, abin_gtr, abin_geq, aunary_not, aextract, Option.some.injEq, Prod.mk.injEq, Value.bool.injEq, exists_eq_left', exists_and_left, and_assoc, decide_eq_true_eq, decide_eq_false_iff_not, if_true, if_false, Nat.zero_add, Nat.add_zero, Option.bind_some, true_and, and_true, forall_const, true_implies, Bool.not_eq_true, Bool.false_eq_true, false_implies, ite_self, Nat.mul_one, list_of hq1, sl1]
    refine m_cond (t := decide (s.cut ≥ 0)) (by simp [evalT, FT.get_set, FT.setL, faS_ptr, nilS_ptr, nilS_func, nilS_yield, pickS_bool, ldS_ptr, list_cells, list_ro, partS_none, lenSl_of, lenStr_of, cvInt_of, aminmax_max, aminmax_min, abin_add, abin_sub, abin_mul, abin_eql, abin_neq, abin_lss, abin_leq, abin_gtr, abin_geq, aunary_not, aextract]) (fun hc => ?_) (fun hc => m_skip ?_)
    · refine m_reg ?_
      rw [reg4_21]
      simp (decide := true) only [FT.get_set, FT.setL, faS_ptr, nilS_ptr, nilS_func, nilS_yield, pickS_bool, ldS_ptr, list_cells, list_ro, partS_none, lenSl_of, lenStr_of, cvInt_of, aminmax_max, aminmax_min, abin_add, abin_sub, abin_mul, abin_eql, abin_neq, abin_lss, abin_leq, abin_gtr, abin_geq, aunary_not, aextract, Option.some.injEq, Prod.mk.injEq, Value.bool.injEq, exists_eq_left', exists_and_left, and_assoc, decide_eq_true_eq, decide_eq_false_iff_not, if_true, if_false, Nat.zero_add, Nat.add_zero, Option.bind_some, true_and, and_true, forall_const, true_implies, Bool.not_eq_true, Bool.false_eq_true, false_implies, ite_self, Nat.mul_one, t7, list_of hq1, sl1]
      refine haltW hp1.is hp1.hw s.cut fun _ S2 hI2 hW2 n2 _ k2 => ?_
      refine (rest S2 (haltD D s.cut) _ n2 (hp1.flags rfl hI2 hW2 k2) rfl rfl hcut (Fr.flags k2) (fun k hk => ?_) (by simp [FT.get_set])).mono ?_
      · simp at hk
        rcases hk with rfl | rfl | rfl | rfl | rfl | rfl | rfl <;> simp [FT.get_set]
      · rintro y T5 S5 ⟨rfl, e1, e2⟩
        exact close T5 S5 e1 e2
    · simp only
      refine (rest S1 D _ rfl hp1 rfl rfl (by rw [hrun.2]; omega) (fun y hy => ⟨rfl, hy⟩) (fun k hk => ?_) (by simp [FT.get_set])).mono ?_
      · simp at hk
        rcases hk with rfl | rfl | rfl | rfl | rfl | rfl | rfl <;> simp [FT.get_set]
      · rintro y T5 S5 ⟨rfl, e1, e2⟩
        exact close T5 S5 e1 e2
  · refine .inr ⟨rfl, D, c0, W, j, rv, half, bv, lv, base, rs, hp, hrun, hL, hbf, hm, hws, hrs, ?_, ?_, ?_, ?_, ?_, ?_⟩
    all_goals simp [FT.get_set, t2, t7, t9, t10, t11, t12]
end Go.Proofs.Ytmfmbadfgnhonaa

