/-
  The walk through the journal's code: what its functions do to memory, part PyP4. Nothing is asked.
-/
import Derived.Test.YtmfmbadfgnhonaaPyP3
set_option linter.all false
namespace Go.Proofs.Ytmfmbadfgnhonaa
open Go Go.Ag
set_option linter.unusedVariables false
set_option maxRecDepth 100000

/-- behind the call: what it told, what there is -/
def MidP (S0 : MS) (N wb d q : Nat) (s : Stp) (x v15 bv lv : Value) (base : List UInt8) (rs : List (List UInt8)) (T T' : FT) (S' : MS) : Prop :=
  ∃ D c0 W j rv half nb nrs dead e want, PX (On v15) S' d D c0 W j rv half nb nrs dead ∧ PR S0 q s x v15 S' d D j rv ∧ LW S0.n S' d D j rv bv lv base rs ∧ D.made.length = N ∧ D.ws.length ≤ wb + 300 ∧
    ((e = want ∧ e ≠ 0 ∧ dead = false ∧ nb = base ∧ nrs = rs) ∨ (e = 0 ∧ want = 0 ∧ dead = false ∧ nrs.length ≤ rs.length + 1 ∧ LW S0.n S' d D j rv (T'.get 16) (T'.get 17) nb nrs ∧ (∀ y, On v15 y → Av (T'.get 17) y)) ∨ (e = 12 ∧ want = 0 ∧ dead = true ∧ nb = base ∧ nrs = rs)) ∧
    Kp [2, 7, 10, 11, 12, 13, 14, 15] T T' ∧ T'.get 8 = .int .i64 e ∧ T'.get 9 = .pointer (some ⟨j, 0, none⟩) ∧ T'.get 18 = .int .i64 want

theorem PG.lw {B0 : Nat} {S S' : MS} {d j j' : Nat} {D D' : DK} {rv rv' bv lv : Value} {base : List UInt8} {rs : List (List UInt8)} (g : PG S d D j rv S' D' j' rv') (h : LW B0 S d D j rv bv lv base rs) : LW B0 S' d D' j' rv' bv lv base rs := h.keep g.fr
theorem PG.pr {S0 S S' : MS} {q d j j' : Nat} {D D' : DK} {s : Stp} {x v15 rv rv' : Value} (g : PG S d D j rv S' D' j' rv') (h : PR S0 q s x v15 S d D j rv) : PR S0 q s x v15 S' d D' j' rv' := h.keep g.fr

section
variable {S0 S : MS} {N wb d q j : Nat} {D : DK} {c0 : Nat → List UInt8} {W : List (Nat × List UInt8)} {rv bv lv x v15 : Value} {half : Nat} {base : List UInt8} {rs : List (List UInt8)} {s : Stp} {T : FT}

theorem swApp (hp : PX (On v15) S d D c0 W j rv half base rs false) (hr : PR S0 q s x v15 S d D j rv) (hL : LW S0.n S d D j rv bv lv base rs) (hx : RB S0 x s.bytes) (hxl : ∀ y, On x y → y < S0.n) (hN : D.made.length = N) (hN2 : N ≤ 200) (hwb : D.ws.length ≤ wb) (hwb2 : wb ≤ 100000) (hh : D.halt ≤ 9223372036854775807) (hrs : rs.length ≤ 100)
    (t9 : T.get 9 = .pointer (some ⟨j, 0, none⟩)) (t10 : T.get 10 = .int .i64 ((32 * N : Nat) : Int)) (t11 : T.get 11 = bv) (t12 : T.get 12 = lv) (t14 : T.get 14 = .pointer (some ⟨q, 0, none⟩)) (t15 : T.get 15 = v15) (t16 : T.get 16 = bv) (t18 : T.get 18 = .int .i64 0) :
    MWp Try.prog O 237 (.seq (.region 35 (ro 4 35) false) (.seq (.region 36 (ro 4 36) true) (.seq (.region 37 (ro 4 37) false) (.cond (.tmp 129) (.region 38 (ro 4 38) false) (.seq (.region 39 (ro 4 39) false) (.cond (.tmp 134) (.region 40 (ro 4 40) false) .skip)))))) T S
      fun y T' S' => y = .normal ∧ MidP S0 N wb d q s x v15 bv lv base rs T T' S' := by
  refine m_wf fun wf => m_seq (m_reg ?_)
  rw [reg4_35]
  simp (decide := true) only [FT.get_set, FT.setL, faS_ptr, nilS_ptr, nilS_func, nilS_yield, pickS_bool, ldS_ptr, list_cells, list_ro, partS_none, lenSl_of, lenStr_of, cvInt_of, aminmax_max, aminmax_min, abin_add, abin_sub, abin_mul, abin_eql, abin_neq, abin_lss, abin_leq, abin_gtr, abin_geq, aunary_not, aextract, Option.some.injEq, Prod.mk.injEq, Value.bool.injEq, exists_eq_left', exists_and_left, and_assoc, decide_eq_true_eq, decide_eq_false_iff_not, if_true, if_false, Nat.zero_add, Nat.add_zero, Option.bind_some, true_and, and_true, forall_const, true_implies, Bool.not_eq_true, Bool.false_eq_true, false_implies, ite_self, Nat.mul_one, t9, t15]
  have hlive : liveN base rs ≤ 32 * N := by rw [← hN]; exact hp.live
  have rest : ∀ (e : Int) (S1 : MS) (D1 : DK) (rv1 : Value) (W1 : List (Nat × List UInt8)) (nrs : List (List UInt8)) (dead : Bool), PG S d D j rv S1 D1 j rv1 → PX (On v15) S1 d D1 c0 W1 j rv1 half base nrs dead → ((e = wantA N base rs s.bytes ∧ e ≠ 0 ∧ dead = false ∧ nrs = rs) ∨ (e = 0 ∧ wantA N base rs s.bytes = 0 ∧ dead = false ∧ nrs = rs ++ [s.bytes]) ∨ (e = 12 ∧ wantA N base rs s.bytes = 0 ∧ dead = true ∧ nrs = rs)) →
      MWp Try.prog O 237 (.seq (.region 36 (ro 4 36) true) (.seq (.region 37 (ro 4 37) false) (.cond (.tmp 129) (.region 38 (ro 4 38) false) (.seq (.region 39 (ro 4 39) false) (.cond (.tmp 134) (.region 40 (ro 4 40) false) .skip))))) ((((T.set (.pointer (some ⟨j, 0, none⟩)) 113).set v15 114).set (.int .i64 e) 115).set (.int .i64 e) 8) S1 fun y T' S' => y = .normal ∧ MidP S0 N wb d q s x v15 bv lv base rs T T' S' := by
    intro e S1 D1 rv1 W1 nrs dead g hp1 hc
    refine m_wf fun wf1 => (appTail (N := N) (base := base) (rs := rs) hp1 (g.pr hr) (g.lw hL) hx hxl hN2 hlive hrs (by simp [FT.get_set, t10]) (by simp [FT.get_set, t11]) (by simp [FT.get_set, t12]) (by simp [FT.get_set, t14]) (by simp [FT.get_set, t18])).mono ?_
    rintro y T2 S2 ⟨rfl, f2, k2, w2, l2, av2⟩
    refine ⟨rfl, D1, c0, W1, j, rv1, half, base, nrs, dead, e, wantA N base rs s.bytes, hp1.old wf1 f2, (g.pr hr).old f2, (g.lw hL).old f2, g.made.trans hN, by have := g.ws; omega, ?_, fun k hk => ?_, ?_, ?_, w2⟩
    · rcases hc with ⟨h1, h2, h3, h4⟩ | ⟨h1, h2, h3, h4⟩ | ⟨h1, h2, h3, h4⟩
      · exact .inl ⟨h1, h2, h3, rfl, h4⟩
      · refine .inr (.inl ⟨h1, h2, h3, by rw [h4]; simp, ?_, fun y hy => av2 y ((g.pr hr).on y hy).1.1⟩)
        have : T2.get 16 = bv := (k2 16 (by decide)).trans (by simp [FT.get_set, t16])
        rw [this, h4]; exact l2
      · exact .inr (.inr ⟨h1, h2, h3, rfl, h4⟩)
    · have h1 : k ∈ [2, 7, 8, 9, 10, 11, 12, 13, 14, 15, 16] := by simp at hk ⊢; omega
      rw [k2 k h1]
      simp at hk
      rcases hk with rfl | rfl | rfl | rfl | rfl | rfl | rfl | rfl <;> simp [FT.get_set]
    · rw [k2 8 (by decide)]; simp [FT.get_set]
    · rw [k2 9 (by decide)]; simp [FT.get_set, t9]
  have hX : ∀ y, On v15 y → y < S.n := fun y hy => (hr.on y hy).1.1
  have pg0 : PG S d D j rv S D j rv := ⟨Nat.le_refl _, fun y hy => ⟨rfl, hy⟩, rfl, by omega, Int.le_refl _⟩
  refine hp.append hr.rb hr.on hX (by omega) hh (fun hl => ?_) (fun hl hf => ?_) (fun hl hf S1 D1 rv1 W1 g hp1 => ?_) fun hl hf S1 D1 W1 g hp1 => ?_
  · exact rest 193 S D rv W rs false pg0 hp (.inl ⟨by unfold wantA; rw [if_pos hl], by decide, rfl, rfl⟩)
  · rw [hN] at hf
    exact rest 192 S D rv W rs false pg0 hp (.inl ⟨by unfold wantA; rw [if_neg (by omega), if_pos hf], by decide, rfl, rfl⟩)
  · rw [hN] at hf
    exact rest 0 S1 D1 rv1 W1 _ false g hp1 (.inr (.inl ⟨rfl, by unfold wantA; rw [if_neg (by omega), if_neg (by omega)], rfl, rfl⟩))
  · rw [hN] at hf
    exact rest 12 S1 D1 rv W1 _ true g hp1 (.inr (.inr ⟨rfl, by unfold wantA; rw [if_neg (by omega), if_neg (by omega)], rfl, rfl⟩))

theorem swSnap (hp : PX (On v15) S d D c0 W j rv half base rs false) (hr : PR S0 q s x v15 S d D j rv) (hL : LW S0.n S d D j rv bv lv base rs) (hx : RB S0 x s.bytes) (hxl : ∀ y, On x y → y < S0.n) (hxb : s.bytes.length ≤ 1048576) (hN : D.made.length = N) (hN2 : N ≤ 200) (hwb : D.ws.length ≤ wb) (hwb2 : wb ≤ 100000) (hh : D.halt ≤ 9223372036854775807)
    (t9 : T.get 9 = .pointer (some ⟨j, 0, none⟩)) (t10 : T.get 10 = .int .i64 ((32 * N : Nat) : Int)) (t14 : T.get 14 = .pointer (some ⟨q, 0, none⟩)) (t15 : T.get 15 = v15) (t18 : T.get 18 = .int .i64 0) :
    MWp Try.prog O 237 (.seq (.region 42 (ro 4 42) false) (.seq (.region 43 (ro 4 43) false) (.seq (.region 44 (ro 4 44) false) (.cond (.tmp 147) (.region 45 (ro 4 45) false) .skip)))) T S
      fun y T' S' => y = .normal ∧ MidP S0 N wb d q s x v15 bv lv base rs T T' S' := by
  refine m_wf fun wf => m_seq (m_reg ?_)
  rw [reg4_42]
  simp (decide := true) only [FT.get_set, FT.setL, faS_ptr, nilS_ptr, nilS_func, nilS_yield, pickS_bool, ldS_ptr, list_cells, list_ro, partS_none, lenSl_of, lenStr_of, cvInt_of, aminmax_max, aminmax_min, abin_add, abin_sub, abin_mul, abin_eql, abin_neq, abin_lss, abin_leq, abin_gtr, abin_geq, aunary_not, aextract, Option.some.injEq, Prod.mk.injEq, Value.bool.injEq, exists_eq_left', exists_and_left, and_assoc, decide_eq_true_eq, decide_eq_false_iff_not, if_true, if_false, Nat.zero_add, Nat.add_zero, Option.bind_some, true_and, and_true, forall_const, true_implies, Bool.not_eq_true, Bool.false_eq_true, false_implies, ite_self, Nat.mul_one, t9, t15]
  have rest : ∀ (e : Int) (S1 : MS) (D1 : DK) (rv1 : Value) (half1 : Nat) (W1 : List (Nat × List UInt8)) (nb : List UInt8) (nrs : List (List UInt8)) (dead : Bool), PG S d D j rv S1 D1 j rv1 → PX (On v15) S1 d D1 c0 W1 j rv1 half1 nb nrs dead → ((e = 192 ∧ 32 * N < s.bytes.length + 8 ∧ dead = false ∧ nb = base ∧ nrs = rs) ∨ (e = 0 ∧ s.bytes.length + 8 ≤ 32 * N ∧ dead = false ∧ nb = s.bytes ∧ nrs = []) ∨ (e = 12 ∧ s.bytes.length + 8 ≤ 32 * N ∧ dead = true ∧ nb = base ∧ nrs = rs)) →
      MWp Try.prog O 237 (.seq (.region 43 (ro 4 43) false) (.seq (.region 44 (ro 4 44) false) (.cond (.tmp 147) (.region 45 (ro 4 45) false) .skip))) ((((T.set (.pointer (some ⟨j, 0, none⟩)) 137).set v15 138).set (.int .i64 e) 139).set (.int .i64 e) 8) S1 fun y T' S' => y = .normal ∧ MidP S0 N wb d q s x v15 bv lv base rs T T' S' := by
    intro e S1 D1 rv1 half1 W1 nb nrs dead g hp1 hc
    have hr1 := g.pr hr
    have hx1 := hr1.x hx hxl
    have hLn : LW S0.n S1 d D1 j rv1 x (.slice none 0 0) s.bytes [] := ⟨hx1, fun y hy => ⟨(hr1.bf y (hxl y hy)).1, hxl y hy⟩, [], .non, ⟨rfl, fun i x r hx => by cases hx⟩, fun y hy => absurd (fun l c e => by cases e) hy, fun x hx => by cases hx⟩
    have hws := g.ws
    refine m_seq (m_reg ?_)
    rw [reg4_43]
    simp (decide := true) only [FT.get_set, FT.setL, faS_ptr, nilS_ptr, nilS_func, nilS_yield, pickS_bool, ldS_ptr, list_cells, list_ro, partS_none, lenSl_of, lenStr_of, cvInt_of, aminmax_max, aminmax_min, abin_add, abin_sub, abin_mul, abin_eql, abin_neq, abin_lss, abin_leq, abin_gtr, abin_geq, aunary_not, aextract, Option.some.injEq, Prod.mk.injEq, Value.bool.injEq, exists_eq_left', exists_and_left, and_assoc, decide_eq_true_eq, decide_eq_false_iff_not, if_true, if_false, Nat.zero_add, Nat.add_zero, Option.bind_some, true_and, and_true, forall_const, true_implies, Bool.not_eq_true, Bool.false_eq_true, false_implies, ite_self, Nat.mul_one, t14, list_of hr1.bq, sl2]
    refine m_seq (m_reg ?_)
    rw [reg4_44]
    have w1 : IntKind.i64.wrap ((s.bytes.length : Int) + 8) = ((s.bytes.length + 8 : Nat) : Int) := by rw [wrap_i64 (by omega) (by omega)]; rfl
    simp (decide := true) only [FT.get_set, FT.setL, faS_ptr, nilS_ptr, nilS_func, nilS_yield, pickS_bool, ldS_ptr, list_cells, list_ro, partS_none, lenSl_of, lenStr_of, cvInt_of, aminmax_max, aminmax_min, abin_add, abin_sub, abin_mul, abin_eql, abin_neq, abin_lss, abin_leq, abin_gtr, abin_geq, aunary_not, aextract, Option.some.injEq, Prod.mk.injEq, Value.bool.injEq, exists_eq_left', exists_and_left, and_assoc, decide_eq_true_eq, decide_eq_false_iff_not, if_true, if_false, Nat.zero_add, Nat.add_zero, Option.bind_some, true_and, and_true, forall_const, true_implies, Bool.not_eq_true, Bool.false_eq_true, false_implies, ite_self, Nat.mul_one, t10, t14, list_of hr1.bq, sl2, hx1.len, w1]
    refine m_cond (t := decide (((s.bytes.length + 8 : Nat) : Int) > ((32 * N : Nat) : Int))) (by simp [evalT, FT.get_set, FT.setL, faS_ptr, nilS_ptr, nilS_func, nilS_yield, pickS_bool, ldS_ptr, list_cells, list_ro, partS_none, lenSl_of, lenStr_of, cvInt_of, aminmax_max, aminmax_min, abin_add, abin_sub, abin_mul, abin_eql, abin_neq, abin_lss, abin_leq, abin_gtr, abin_geq, aunary_not, aextract]) (fun hf => ?_) (fun hf => m_skip ?_)
    · have hf : 32 * N < s.bytes.length + 8 := by have := of_decide_eq_true hf; omega
      refine m_reg ?_
      rw [reg4_45]
      refine ⟨rfl, D1, c0, W1, j, rv1, half1, nb, nrs, dead, e, 192, hp1, hr1, g.lw hL, g.made.trans hN, by omega, ?_, ?_, ?_, ?_, ?_⟩
      · rcases hc with ⟨h1, h2, h3, h4, h5⟩ | ⟨h1, h2, _⟩ | ⟨h1, h2, _⟩
        · exact .inl ⟨h1, by omega, h3, h4, h5⟩
        · omega
        · omega
      · simp [Kp, FT.get_set, t10, t14, t15]
      · simp [FT.get_set]
      · simp [FT.get_set, t9]
      · simp [FT.get_set]
    · have hf : ¬ 32 * N < s.bytes.length + 8 := by have := of_decide_eq_false hf; omega
      refine ⟨rfl, D1, c0, W1, j, rv1, half1, nb, nrs, dead, e, 0, hp1, hr1, g.lw hL, g.made.trans hN, by omega, ?_, ?_, ?_, ?_, ?_⟩
      · rcases hc with ⟨h1, h2, _⟩ | ⟨h1, h2, h3, h4, h5⟩ | ⟨h1, h2, h3, h4, h5⟩
        · omega
        · refine .inr (.inl ⟨h1, rfl, h3, by rw [h5]; simp, ?_, ?_⟩)
          · subst h4 h5
            simp [FT.get_set]; exact hLn
          · simp [FT.get_set]
            exact fun y _ l c e => by cases e
        · exact .inr (.inr ⟨h1, rfl, h3, h4, h5⟩)
      · simp [Kp, FT.get_set, t10, t14, t15]
      · simp [FT.get_set]
      · simp [FT.get_set, t9]
      · simp [FT.get_set, t18]
  have hX : ∀ y, On v15 y → y < S.n := fun y hy => (hr.on y hy).1.1
  have pg0 : PG S d D j rv S D j rv := ⟨Nat.le_refl _, fun y hy => ⟨rfl, hy⟩, rfl, by omega, Int.le_refl _⟩
  refine hp.snap hr.rb hr.on (by omega) hX (by omega) hh (fun hf => ?_) (fun hf S1 D1 rv1 half1 W1 g hp1 => ?_) fun hf S1 D1 W1 g hp1 => ?_
  · rw [hN] at hf
    exact rest 192 S D rv half W base rs false pg0 hp (.inl ⟨rfl, hf, rfl, rfl, rfl⟩)
  · rw [hN] at hf
    exact rest 0 S1 D1 rv1 half1 W1 _ _ false g hp1 (.inr (.inl ⟨rfl, hf, rfl, rfl, rfl⟩))
  · rw [hN] at hf
    exact rest 12 S1 D1 rv half W1 _ _ true g hp1 (.inr (.inr ⟨rfl, hf, rfl, rfl, rfl⟩))

theorem swOpen (hlv : ∀ y, On v15 y → Av lv y) (hp : PX (On v15) S d D c0 W j rv half base rs false) (hr : PR S0 q s x v15 S d D j rv) (hL : LW S0.n S d D j rv bv lv base rs) (hN : D.made.length = N) (hwb : D.ws.length ≤ wb)
    (t7 : T.get 7 = .pointer (some ⟨d, 0, none⟩)) (t16 : T.get 16 = bv) (t17 : T.get 17 = lv) (t18 : T.get 18 = .int .i64 0) :
    MWp Try.prog O 237 (.seq (.region 26 (ro 4 26) false) (.seq (.region 27 (ro 4 27) false) (.seq (.region 28 (ro 4 28) false) (.cond (.tmp 106) (.seq (.region 29 (ro 4 29) false) .ret) .skip)))) T S
      fun y T' S' => y = .normal ∧ MidP S0 N wb d q s x v15 bv lv base rs T T' S' := by
  refine m_wf fun wf => m_seq (m_reg ?_)
  rw [reg4_26]
  simp (decide := true) only [FT.get_set, FT.setL, faS_ptr, nilS_ptr, nilS_func, nilS_yield, pickS_bool, ldS_ptr, list_cells, list_ro, partS_none, lenSl_of, lenStr_of, cvInt_of, aminmax_max, aminmax_min, abin_add, abin_sub, abin_mul, abin_eql, abin_neq, abin_lss, abin_leq, abin_gtr, abin_geq, aunary_not, aextract, Option.some.injEq, Prod.mk.injEq, Value.bool.injEq, exists_eq_left', exists_and_left, and_assoc, decide_eq_true_eq, decide_eq_false_iff_not, if_true, if_false, Nat.zero_add, Nat.add_zero, Option.bind_some, true_and, and_true, forall_const, true_implies, Bool.not_eq_true, Bool.false_eq_true, false_implies, ite_self, Nat.mul_one, t7]
  have hX : ∀ y, On v15 y → y < S.n := fun y hy => (hr.on y hy).1.1
  refine callM_wf_post (restartW hp.is hp.hw fun _ S1 hI1 hW1 n1 _ k1 wf1 => ?_)
  have hp1 := hp.flags (D' := restartD D) rfl hI1 hW1 k1
  have kf : ∀ y, Fr S d D j rv y → S1.m y = S.m y ∧ Fr S1 d (restartD D) j rv y := Fr.flags k1
  have hr1 := hr.keep kf
  have hL1 := hL.keep kf
  refine m_seq (m_reg ?_)
  rw [reg4_27]
  simp (decide := true) only [FT.get_set, FT.setL, faS_ptr, nilS_ptr, nilS_func, nilS_yield, pickS_bool, ldS_ptr, list_cells, list_ro, partS_none, lenSl_of, lenStr_of, cvInt_of, aminmax_max, aminmax_min, abin_add, abin_sub, abin_mul, abin_eql, abin_neq, abin_lss, abin_leq, abin_gtr, abin_geq, aunary_not, aextract, Option.some.injEq, Prod.mk.injEq, Value.bool.injEq, exists_eq_left', exists_and_left, and_assoc, decide_eq_true_eq, decide_eq_false_iff_not, if_true, if_false, Nat.zero_add, Nat.add_zero, Option.bind_some, true_and, and_true, forall_const, true_implies, Bool.not_eq_true, Bool.false_eq_true, false_implies, ite_self, Nat.mul_one, t7]
  refine callM_wf_post (openX hp1 (fun y hy => by rw [n1]; exact hX y hy) rfl fun j2 rv2 S2 f2 g2 hp2 wf2 => ?_)
  simp (decide := true) only [FT.get_set, FT.setL, faS_ptr, nilS_ptr, nilS_func, nilS_yield, pickS_bool, ldS_ptr, list_cells, list_ro, partS_none, lenSl_of, lenStr_of, cvInt_of, aminmax_max, aminmax_min, abin_add, abin_sub, abin_mul, abin_eql, abin_neq, abin_lss, abin_leq, abin_gtr, abin_geq, aunary_not, aextract, Option.some.injEq, Prod.mk.injEq, Value.bool.injEq, exists_eq_left', exists_and_left, and_assoc, decide_eq_true_eq, decide_eq_false_iff_not, if_true, if_false, Nat.zero_add, Nat.add_zero, Option.bind_some, true_and, and_true, forall_const, true_implies, Bool.not_eq_true, Bool.false_eq_true, false_implies, ite_self, Nat.mul_one, List.getElem?_cons_zero, List.getElem?_cons_succ]
  refine m_seq (m_reg ?_)
  rw [reg4_28]
  simp (decide := true) only [FT.get_set, FT.setL, faS_ptr, nilS_ptr, nilS_func, nilS_yield, pickS_bool, ldS_ptr, list_cells, list_ro, partS_none, lenSl_of, lenStr_of, cvInt_of, aminmax_max, aminmax_min, abin_add, abin_sub, abin_mul, abin_eql, abin_neq, abin_lss, abin_leq, abin_gtr, abin_geq, aunary_not, aextract, Option.some.injEq, Prod.mk.injEq, Value.bool.injEq, exists_eq_left', exists_and_left, and_assoc, decide_eq_true_eq, decide_eq_false_iff_not, if_true, if_false, Nat.zero_add, Nat.add_zero, Option.bind_some, true_and, and_true, forall_const, true_implies, Bool.not_eq_true, Bool.false_eq_true, false_implies, ite_self, Nat.mul_one, bne_self_eq_false, abin_ptr_nil_eql _ _ _ _ _ _ under28]
  refine m_cond (t := false) (by simp [evalT, FT.get_set, FT.setL, faS_ptr, nilS_ptr, nilS_func, nilS_yield, pickS_bool, ldS_ptr, list_cells, list_ro, partS_none, lenSl_of, lenStr_of, cvInt_of, aminmax_max, aminmax_min, abin_add, abin_sub, abin_mul, abin_eql, abin_neq, abin_lss, abin_leq, abin_gtr, abin_geq, aunary_not, aextract]) ff (fun _ => m_skip ?_)
  refine ⟨rfl, restartD D, c0, W, j2, rv2, half, base, rs, false, 0, 0, hp2, g2.pr hr1, g2.lw hL1, hN, Nat.le_trans hwb (by omega), .inr (.inl ⟨rfl, rfl, rfl, by omega, ?_, ?_⟩), ?_, ?_, ?_, ?_⟩
  · simp [FT.get_set, t16, t17]
    exact g2.lw hL1
  · simp [FT.get_set, t17]
    exact hlv
  · simp [Kp, FT.get_set, t7]
  · simp [FT.get_set]
  · simp [FT.get_set]
  · simp [FT.get_set, t18]
end
end Go.Proofs.Ytmfmbadfgnhonaa

