/-
  The walk through the journal's code: what its functions do to memory, part RnJ24. Nothing is asked.
-/
import Derived.Test.YtmfmbadfgnhonaaRnJ23
set_option linter.all false
namespace Go.Proofs.Ytmfmbadfgnhonaa
open Go Go.Ag
set_option linter.unusedVariables false
set_option maxRecDepth 100000

/-- the writes of a Snapshot -/
def snapW (n half : Nat) (b : List UInt8) : List (Nat × List UInt8) := piecesN (laid b) (placeN n half) ++ [(0, headB half (laid b).length)]

theorem fin12 {S S1 : MS} {d j : Nat} {D D1 : DK} {c0 : Nat → List UInt8} {W V : List (Nat × List UInt8)} {rv v v6 : Value} {half half' end' : Nat} {base b : List UInt8} {rs : List (List UInt8)} (hg : JGo S d D c0 W j rv S1 D1 rv V) (wf1 : S1.WF) (hj : JJ S1 d D1 j rv half end' base rs false) (hb : RB S1 v b) (hon : ∀ y, On v y → Fr S1 d D1 j rv y) (hv6 : RB S1 v6 (laid b)) (hbl : b.length ≤ 300000)
    {T : FT} (t0 : T.get 0 = .pointer (some ⟨j, 0, none⟩)) (t1 : T.get 1 = v) (t5 : T.get 5 = .int .i64 half') (t6 : T.get 6 = v6) :
    MWp Try.prog O 85 (.seq (.region 12 (ro 12 12) false) (.seq (.region 13 (ro 12 13) false) (.seq (.region 14 (ro 12 14) false) .ret))) T S1 fun x T' S' => x = .ret ∧ T'.get 4 = .int .i64 0 ∧ JGo S d D c0 W j rv S' D1 (.slice none 0 0) V ∧ JJ S' d D1 j (.slice none 0 0) half' (liveN b []) b [] false := by
  obtain ⟨bv, tv, rl, h1, h2, h3, h4, h5, h6⟩ := hj.ex
  have hjlt := wf1 _ _ h1
  have hlb : (laid b).length = b.length + 8 := laid_len b
  have hlv : liveN b [] = b.length + 8 := by unfold liveN; simp [wsum]
  have hall : allB b [] = laid b := by simp [allB]
  refine m_seq (m_reg ?_)
  rw [reg12_12]
  have w1 : ((laid b).length : Int).tdiv 256 = (((laid b).length / 256 : Nat) : Int) := by rw [Int.tdiv_eq_ediv_of_nonneg (by omega)]; rfl
  have w2 : IntKind.i64.wrap (((laid b).length / 256 : Nat) : Int) = (((laid b).length / 256 : Nat) : Int) := wrap_i64 (by omega) (by omega)
  have w3 : IntKind.i64.wrap ((((laid b).length / 256 : Nat) : Int) * 256) = (((laid b).length / 256 * 256 : Nat) : Int) := by rw [wrap_i64 (by omega) (by omega)]; omega
  have q1 : abin Try.prog .quo 3 (.tmp 66) (.const (.int .i64 256)) (.int .i64 ((laid b).length : Int)) (.int .i64 256) = some (.int .i64 (((laid b).length / 256 : Nat) : Int)) := by rw [abin_quo _ _ _ _ _ _ _ (by decide), w1, w2]
  obtain ⟨v8, a1, a2⟩ := hv6.sub (i := (laid b).length / 256 * 256) (j := (laid b).length) (low := some (.int .i64 (((laid b).length / 256 * 256 : Nat) : Int))) (high := none) (by omega) (Nat.le_refl _) (.inr rfl) (.inl ⟨rfl, rfl⟩)
  rw [List.take_of_length_le (by rw [List.length_drop]; omega)] at a2
  simp (decide := true) only [FT.get_set, FT.setL, faS_ptr, nilS_ptr, nilS_func, nilS_yield, pickS_bool, ldS_ptr, list_cells, list_ro, partS_none, lenSl_of, lenStr_of, cvInt_of, aminmax_max, aminmax_min, abin_add, abin_sub, abin_mul, abin_eql, abin_neq, abin_lss, abin_leq, abin_gtr, abin_geq, aunary_not, aextract, Option.some.injEq, Prod.mk.injEq, Value.bool.injEq, exists_eq_left', exists_and_left, and_assoc, decide_eq_true_eq, decide_eq_false_iff_not, if_true, if_false, Nat.zero_add, Nat.add_zero, Option.bind_some, true_and, and_true, forall_const, true_implies, Bool.not_eq_true, Bool.false_eq_true, false_implies, ite_self, Nat.mul_one, t0, t5, t6, hv6.len, q1, w3, a1]
  refine callM_wf_post (clone40 a2 (by rw [List.length_drop]; omega) fun v9 S2 f2 s9 wf2 => ?_)
  have hj2 : S2.m j = some (.cells (jouL d half end' bv rv tv false) 0) := by rw [f2.2 j hjlt]; exact h1
  obtain ⟨S3, u1, u2, u3, u4⟩ := st_one (off := 1) (v := .int .i64 half') hj2 (by rw [jlen]; decide) rfl rfl
  rw [js1] at u2
  refine ⟨S3, u1, ?_⟩
  obtain ⟨S4, x1, x2, x3, x4⟩ := st_one (off := 2) (v := .int .i64 (laid b).length) u2 (by rw [jlen]; decide) rfl rfl
  rw [js2] at x2
  refine ⟨S4, x1, ?_⟩
  obtain ⟨S5, y1, y2, y3, y4⟩ := st_one (off := 5) (v := v9) x2 (by rw [jlen]; decide) (SlF.one s9).1 (SlF.one s9).2
  rw [js5] at y2
  refine ⟨S5, y1, ?_⟩
  refine m_wf fun wf5 => m_seq (m_reg ?_)
  rw [reg12_13]
  have e25 : ∀ x, x ≠ j → S5.m x = S2.m x := fun x hx => by rw [y4 x hx, x4 x hx, u4 x hx]
  have n25 : S5.n = S2.n := by rw [y3, x3, u3]
  have e15 : ∀ x, x < S1.n → x ≠ j → S5.m x = S1.m x := fun x hx hne => by rw [e25 x hne, f2.2 x hx]
  have hb5 : RB S5 v b := hb.keepOn fun y hy => e15 y (hon y hy).1.1 (hon y hy).2.1
  simp (decide := true) only [FT.get_set, FT.setL, faS_ptr, nilS_ptr, nilS_func, nilS_yield, pickS_bool, ldS_ptr, list_cells, list_ro, partS_none, lenSl_of, lenStr_of, cvInt_of, aminmax_max, aminmax_min, abin_add, abin_sub, abin_mul, abin_eql, abin_neq, abin_lss, abin_leq, abin_gtr, abin_geq, aunary_not, aextract, Option.some.injEq, Prod.mk.injEq, Value.bool.injEq, exists_eq_left', exists_and_left, and_assoc, decide_eq_true_eq, decide_eq_false_iff_not, if_true, if_false, Nat.zero_add, Nat.add_zero, Option.bind_some, true_and, and_true, forall_const, true_implies, Bool.not_eq_true, Bool.false_eq_true, false_implies, ite_self, Nat.mul_one, t0, t1]
  have n12 := f2.1
  refine callM_wf_post (clone40 hb5 (by omega) fun v10 S6 f6 s10 wf6 => ?_)
  have n56 := f6.1
  have hj6 : S6.m j = _ := (f6.2 j (by omega)).trans y2
  obtain ⟨S7, z1, z2, z3, z4⟩ := st_one (off := 3) (v := v10) hj6 (by rw [jlen]; decide) (SlF.one s10).1 (SlF.one s10).2
  rw [js3] at z2
  refine ⟨S7, z1, ?_⟩
  obtain ⟨S8, p1, p2, p3, p4⟩ := st_one (off := 4) (v := .slice none 0 0) z2 (by rw [jlen]; decide) rfl rfl
  rw [js4] at p2
  refine ⟨S8, p1, ?_⟩
  refine m_seq (m_reg ?_)
  rw [reg12_14]
  refine m_ret ?_
  simp [FT.get_set, FT.setL, faS_ptr, nilS_ptr, nilS_func, nilS_yield, pickS_bool, ldS_ptr, list_cells, list_ro, partS_none, lenSl_of, lenStr_of, cvInt_of, aminmax_max, aminmax_min, abin_add, abin_sub, abin_mul, abin_eql, abin_neq, abin_lss, abin_leq, abin_gtr, abin_geq, aunary_not, aextract]
  have e68 : ∀ x, x ≠ j → S8.m x = S6.m x := fun x hx => by rw [p4 x hx, z4 x hx]
  have n68 : S8.n = S6.n := by rw [p3, z3]
  have g2 : JGo S d D c0 W j rv S2 D1 rv V := hg.old wf1 f2
  have fj2 : FrD S2 d D1 j := hj.fj.1.old f2
  have g5 : JGo S d D c0 W j rv S5 D1 rv V := g2.touch wf2 fj2 hj2 (jlen _ _ _ _ _ _ _) n25 e25
  have g6 : JGo S d D c0 W j rv S6 D1 rv V := g5.old wf5 f6
  have fj6 : FrD S6 d D1 j := ⟨by omega, fj2.2⟩
  have g8 : JGo S d D c0 W j rv S8 D1 rv V := g6.touch wf6 fj6 hj6 (jlen _ _ _ _ _ _ _) n68 e68
  have hav : ∀ y, Av (.slice none 0 0) y := fun y l c e => by cases e
  have hFnew : ∀ y, S1.n ≤ y → y < S8.n → FrD S8 d D1 y := fun y h1 h2 => FrD.new hg.is wf1 h1 h2
  refine ⟨⟨g8.is, g8.hw, g8.wn, g8.le, fun y hy => ⟨(g8.fr y hy).1, (g8.fr y hy).2.1, (g8.fr y hy).2.2.1, hav y⟩⟩, ⟨v10, v9, [], ?_, ?_, .non, ⟨rfl, fun i x r hx => by cases hx⟩, ?_, fun y hy => ?_⟩, ⟨⟨by omega, fj2.2⟩, hav j⟩, fun y hy => absurd (hav y) hy⟩
  · rw [p2, hlb, hlv]
  · refine (RB.own s10).keepOn fun y hy => ?_
    have := SlF.on s10 hy
    exact e68 y (by omega)
  · rw [hall, hlv, ← hlb]
    refine (RB.own s9).keepOn fun y hy => ?_
    have k1 := SlF.on s9 hy
    have k2 := (RB.own s9).on_lt wf2 hy
    rw [e68 y (by omega), f6.2 y (by omega), e25 y (by omega)]
  · rcases hy with hy | hy | ⟨x, hx, _⟩
    · have k1 := SlF.on s10 hy
      have k2 := (RB.own s10).on_lt wf6 hy
      exact ⟨hFnew y (by omega) (by omega), by omega, hav y⟩
    · have k1 := SlF.on s9 hy
      have k2 := (RB.own s9).on_lt wf2 hy
      exact ⟨hFnew y (by omega) (by omega), by omega, hav y⟩
    · cases hx
end Go.Proofs.Ytmfmbadfgnhonaa

