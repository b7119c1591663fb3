/-
  The walk through the journal's code: what its functions do to memory, part PyJ8. Nothing is asked.
-/
import Derived.Test.YtmfmbadfgnhonaaPyJ7
set_option linter.all false
namespace Go.Proofs.Ytmfmbadfgnhonaa
open Go Go.Ag
set_option linter.unusedVariables false
set_option maxRecDepth 100000

theorem jl0 (d : Nat) (h e : Int) (a b c : Value) (k : Bool) : (jouL d h e a b c k)[0]? = some (.pointer (some ⟨d, 0, none⟩)) := rfl
theorem jl1 (d : Nat) (h e : Int) (a b c : Value) (k : Bool) : (jouL d h e a b c k)[1]? = some (.int .i64 h) := rfl
theorem jl2 (d : Nat) (h e : Int) (a b c : Value) (k : Bool) : (jouL d h e a b c k)[2]? = some (.int .i64 e) := rfl
theorem jl5 (d : Nat) (h e : Int) (a b c : Value) (k : Bool) : (jouL d h e a b c k)[5]? = some c := rfl
theorem js1 (d : Nat) (h e x : Int) (a b c : Value) (k : Bool) : (jouL d h e a b c k).set 1 (.int .i64 x) = jouL d x e a b c k := rfl
theorem js2 (d : Nat) (h e x : Int) (a b c : Value) (k : Bool) : (jouL d h e a b c k).set 2 (.int .i64 x) = jouL d h x a b c k := rfl
theorem js5 (d : Nat) (h e : Int) (a b c x : Value) (k : Bool) : (jouL d h e a b c k).set 5 x = jouL d h e a b x k := rfl

/-- blocks that are neither the disk's nor the journal's -/
def Fr (S : MS) (d : Nat) (D : DK) (j : Nat) (rv : Value) (y : Nat) : Prop := FrD S d D y ∧ y ≠ j ∧ Av rv y
/-- a journal on its disk goes on -/
structure JGo (S : MS) (d : Nat) (D : DK) (c0 : Nat → List UInt8) (W : List (Nat × List UInt8)) (j : Nat) (rv : Value) (S' : MS) (D' : DK) (rv' : Value) (V : List (Nat × List UInt8)) : Prop where
  is : IsD S' d D'
  hw : HW S' D' c0 (W ++ V)
  wn : Wn D D' V.length
  le : S.n ≤ S'.n
  fr : ∀ y, Fr S d D j rv y → S'.m y = S.m y ∧ Fr S' d D' j rv' y
section
variable {S S1 S2 : MS} {d j : Nat} {D D1 D2 : DK} {c0 : Nat → List UInt8} {W V U : List (Nat × List UInt8)} {rv rv1 : Value}
theorem JGo.refl (h : IsD S d D) (hw : HW S D c0 W) : JGo S d D c0 W j rv S D rv [] := ⟨h, by rw [List.append_nil]; exact hw, Wn.refl D, Nat.le_refl _, fun y hy => ⟨rfl, hy⟩⟩
theorem JGo.goes (h : JGo S d D c0 W j rv S1 D1 rv1 V) (g : Goes S1 d D1 c0 (W ++ V) S2 D2 U) : JGo S d D c0 W j rv S2 D2 rv1 (V ++ U) :=
  ⟨g.is, by rw [← List.append_assoc]; exact g.hw, by rw [List.length_append]; exact h.wn.trans g.wn, Nat.le_trans h.le g.le, fun y hy => by
    obtain ⟨h1, h2⟩ := h.fr y hy
    obtain ⟨h3, h4⟩ := g.fr y h2.1
    exact ⟨h3.trans h1, h4, h2.2⟩⟩
theorem JGo.trans {rv2 : Value} (h : JGo S d D c0 W j rv S1 D1 rv1 V) (g : JGo S1 d D1 c0 (W ++ V) j rv1 S2 D2 rv2 U) : JGo S d D c0 W j rv S2 D2 rv2 (V ++ U) :=
  ⟨g.is, by rw [← List.append_assoc]; exact g.hw, by rw [List.length_append]; exact h.wn.trans g.wn, Nat.le_trans h.le g.le, fun y hy => by
    obtain ⟨h1, h2⟩ := h.fr y hy
    obtain ⟨h3, h4⟩ := g.fr y h2
    exact ⟨h3.trans h1, h4⟩⟩
theorem JGo.old (h : JGo S d D c0 W j rv S1 D1 rv1 V) (wf : S1.WF) (f : Old S1 S2) : JGo S d D c0 W j rv S2 D1 rv1 V := by
  have := h.goes (Goes.old h.is h.hw wf f)
  rwa [List.append_nil] at this
/-- the journal's struct is changed -/
theorem JGo.touch (h : JGo S d D c0 W j rv S1 D1 rv1 V) (wf : S1.WF) (hj : FrD S1 d D1 j) {l : List Value} (hl : S1.m j = some (.cells l 0)) (hl7 : l.length = 7) (hn : S2.n = S1.n) (hm : ∀ x, x ≠ j → S2.m x = S1.m x) : JGo S d D c0 W j rv S2 D1 rv1 V := by
  refine ⟨h.is.keep fun x hx => ?_, h.hw.keep fun x hx => ?_, h.wn, by rw [hn]; exact h.le, fun y hy => ?_⟩
  · rcases hx with rfl | rfl | rfl | ⟨hw, rfl⟩
    · exact hm _ (Ne.symm hj.2.1)
    · exact hm _ (Ne.symm hj.2.2.2.2)
    · exact hm _ (Ne.symm hj.2.2.1)
    · exact hm _ (Ne.symm (hj.2.2.2.1 hw))
  · obtain ⟨l', h1, h2⟩ := hx
    refine hm x fun e => ?_
    subst e
    rw [hl] at h1; cases h1; omega
  · obtain ⟨h1, h2⟩ := h.fr y hy
    exact ⟨(hm y h2.2.1).trans h1, ⟨by rw [hn]; exact h2.1.1, h2.1.2⟩, h2.2⟩
/-- the records' slice grows -/
theorem JGo.app {B : Nat} {rv2 : Value} {rl : List Sv} (h : JGo S d D c0 W j rv S1 D1 rv1 V) (wf : S1.WF) (hs : SlF svF 1 S1 B rv1 rl) (hf : ∀ y, ¬ Av rv1 y → FrD S1 d D1 y) (hn : S1.n ≤ S2.n) (hm : ∀ y, y < S1.n → Av rv1 y → S2.m y = S1.m y) (ha : ∀ y, y < S1.n → Av rv1 y → Av rv2 y) : JGo S d D c0 W j rv S2 D1 rv2 V := by
  have hav : ∀ y, ¬ FrD S1 d D1 y → Av rv1 y := fun y hy => Classical.byContradiction fun h => hy (hf y h)
  refine ⟨h.is.keep fun x hx => ?_, h.hw.keep fun x hx => ?_, h.wn, Nat.le_trans h.le hn, fun y hy => ?_⟩
  · rcases hx with rfl | rfl | rfl | ⟨hw, rfl⟩
    · exact hm _ (wf _ _ h.is.hd) (hav _ fun e => e.2.1 rfl)
    · exact hm _ (wf _ _ h.is.hm) (hav _ fun e => e.2.2.2.2 rfl)
    · exact hm _ (wf _ _ h.is.hn) (hav _ fun e => e.2.2.1 rfl)
    · exact hm _ (wf _ _ (h.is.hw hw)) (hav _ fun e => e.2.2.2.1 hw rfl)
  · obtain ⟨l', h1, h2⟩ := hx
    refine hm x (wf _ _ h1) ?_
    cases hs with
    | non => intro l c e; cases e
    | own hb hB hc hj =>
      intro l c e
      cases e
      rw [hb] at h1; cases h1
  · obtain ⟨h1, h2⟩ := h.fr y hy
    exact ⟨(hm y h2.1.1 h2.2.2).trans h1, ⟨Nat.lt_of_lt_of_le h2.1.1 hn, h2.1.2⟩, h2.2.1, ha y h2.1.1 h2.2.2⟩
theorem Fr.old (f : Old S S1) {y : Nat} (h : Fr S d D j rv y) : Fr S1 d D j rv y := ⟨h.1.old f, h.2⟩
theorem JJ.old {X : Nat → Prop} {half end' : Nat} {base : List UInt8} {rs : List (List UInt8)} {dead : Bool} (h : JJ X S d D j rv half end' base rs dead) (f : Old S S1) : JJ X S1 d D j rv half end' base rs dead := h.keep fun y hy => ⟨f.2 y hy.1, hy.old f⟩
/-- a new block is nobody's -/
theorem Fr.new {X : Nat → Prop} {half end' : Nat} {base : List UInt8} {rs : List (List UInt8)} {dead : Bool} (h : IsD S d D) (wf : S.WF) (hj : JJ X S d D j rv half end' base rs dead) {y : Nat} (h1 : S.n ≤ y) (h2 : y < S1.n) : Fr S1 d D j rv y :=
  ⟨FrD.new h wf h1 h2, fun e => by have := hj.fj.1.1; omega, Classical.byContradiction fun e => by have := (hj.frv y e).1; omega⟩
end

/-- dies, of a journal -/
theorem dies41J {X : Nat → Prop} {S : MS} {d j : Nat} {D : DK} {rv : Value} {half end' : Nat} {base : List UInt8} {rs : List (List UInt8)} {dead : Bool} (hj : JJ X S d D j rv half end' base rs dead) (e : Int) (he : e ≠ 0) {Q : Value → MS → Prop}
    (hq : ∀ S', JJ X S' d D j rv half end' base rs true → S'.n = S.n → (∀ x, x ≠ j → S'.m x = S.m x) → Q (.int .i64 e) S') : CallM Try.prog O 41 [.pointer (some ⟨j, 0, none⟩), .int .i64 e] S Q := by
  obtain ⟨bv, tv, rl, h1, h2, h3, h4, h5, h6⟩ := hj.ex
  refine dies41 h1 e he fun S' g1 g2 g3 => hq S' ⟨⟨bv, tv, rl, g1, h2.keepOn fun y hy => g3 y (h6 y (.inl hy)).2.1, h3.keep1 fun y k hy _ => g3 y fun e => ?_, ⟨h4.1, fun i x r hx hr => (h4.2 i x r hx hr).keepOn fun y hy => g3 y (h6 y (.inr (.inr ⟨x, List.mem_of_getElem? hx, hy⟩))).2.1⟩, h5.keepOn fun y hy => g3 y (h6 y (.inr (.inl hy))).2.1, fun y hy => ?_⟩, ?_, fun y hy => ?_⟩ g2 g3
  · subst e; exact hy hj.fj.2
  · obtain ⟨k1, k2⟩ := h6 y hy
    exact ⟨⟨by rw [g2]; exact k1.1, k1.2⟩, k2⟩
  · exact ⟨⟨by rw [g2]; exact hj.fj.1.1, hj.fj.1.2⟩, hj.fj.2⟩
  · have := hj.frv y hy
    exact ⟨by rw [g2]; exact this.1, this.2⟩

theorem fin11 {X : Nat → Prop} {S S1 : MS} {d j : Nat} {D D1 : DK} {c0 : Nat → List UInt8} {W V : List (Nat × List UInt8)} {rv v v7 : Value} {half : Nat} {base b : List UInt8} {rs : List (List UInt8)} (hg : JGo S d D c0 W j rv S1 D1 rv V) (wf1 : S1.WF) (hj : JJ X S1 d D1 j rv half (liveN base rs) base rs false) (hb : RB S1 v b) (hon : ∀ y, On v y → Fr S1 d D1 j rv y) (hv7 : RB S1 v7 (lastB base rs b)) (hbl : b.length ≤ 65536) (hlive : liveN base (rs ++ [b]) ≤ 400000) (hX : ∀ y, X y → y < S1.n)
    {T : FT} (t0 : T.get 0 = .pointer (some ⟨j, 0, none⟩)) (t1 : T.get 1 = v) (t5 : T.get 5 = v7) (t7 : T.get 7 = .int .i64 (liveN base (rs ++ [b]) : Nat)) :
    MWp Try.prog O 111 (.seq (.region 15 (ro 11 15) false) (.seq (.region 16 (ro 11 16) false) (.seq (.region 17 (ro 11 17) true) (.seq (.region 18 (ro 11 18) false) .ret)))) T S1 fun x T' S' => x = .ret ∧ T'.get 4 = .int .i64 0 ∧ ∃ rv', JGo S d D c0 W j rv S' D1 rv' V ∧ JJ X S' d D1 j rv' half (liveN base (rs ++ [b])) base (rs ++ [b]) false := by
  obtain ⟨bv, tv, rl, h1, h2, h3, h4, h5, h6⟩ := hj.ex
  have hjlt := wf1 _ _ h1
  have hll := lastB_len base rs b
  have hls := liveN_snoc base rs b
  refine m_seq (m_reg ?_)
  rw [reg11_15]
  obtain ⟨e2, he2⟩ : ∃ e2, e2 = liveN base (rs ++ [b]) := ⟨_, rfl⟩
  rw [← he2] at t7 hlive hls ⊢
  have w1 : (e2 : Int).tmod 256 = ((e2 % 256 : Nat) : Int) := by rw [Int.tmod_eq_emod_of_nonneg (by omega)]; rfl
  have q1 : abin Try.prog .rem 3 (.tmp 89) (.const (.int .i64 256)) (.int .i64 (e2 : Int)) (.int .i64 256) = some (.int .i64 ((e2 % 256 : Nat) : Int)) := by rw [abin_rem _ _ _ _ _ _ _ (by decide), w1]
  have w2 : IntKind.i64.wrap (((lastB base rs b).length : Int) - ((e2 % 256 : Nat) : Int)) = (((lastB base rs b).length - e2 % 256 : Nat) : Int) := by rw [wrap_i64 (by omega) (by omega)]; omega
  obtain ⟨v8, a1, a2⟩ := hv7.sub (i := (lastB base rs b).length - e2 % 256) (j := (lastB base rs b).length) (low := some (.int .i64 (((lastB base rs b).length - e2 % 256 : Nat) : Int))) (high := none) (by omega) (Nat.le_refl _) (.inr rfl) (.inl ⟨rfl, rfl⟩)
  rw [List.take_of_length_le (by rw [List.length_drop]; omega)] at a2
  have htail := app_tail base rs b
  rw [← he2] at htail
  rw [htail] at a2
  have hal : ((allB base (rs ++ [b])).drop (e2 / 256 * 256)).length ≤ 255 := by rw [List.length_drop, allB_len, ← he2]; omega
  simp (decide := true) only [FT.get_set, FT.setL, faS_ptr, nilS_ptr, nilS_func, nilS_yield, pickS_bool, ldS_ptr, list_cells, list_ro, partS_none, lenSl_of, lenStr_of, cvInt_of, aminmax_max, aminmax_min, abin_add, abin_sub, abin_mul, abin_eql, abin_neq, abin_lss, abin_leq, abin_gtr, abin_geq, aunary_not, aextract, Option.some.injEq, Prod.mk.injEq, Value.bool.injEq, exists_eq_left', exists_and_left, and_assoc, decide_eq_true_eq, decide_eq_false_iff_not, if_true, if_false, Nat.zero_add, Nat.add_zero, Option.bind_some, true_and, and_true, forall_const, true_implies, Bool.not_eq_true, Bool.false_eq_true, false_implies, ite_self, Nat.mul_one, t0, t5, t7, hv7.len, q1, w2, a1]
  refine callM_wf_post (clone40 a2 (by omega) fun v9 S2 f2 s9 wf2 => ?_)
  have hj2 : S2.m j = some (.cells (jouL d half (liveN base rs : Nat) bv rv tv false) 0) := by rw [f2.2 j hjlt]; exact h1
  obtain ⟨S3, u1, u2, u3, u4⟩ := st_one (off := 5) (v := v9) hj2 (by rw [jlen]; decide) (SlF.one s9).1 (SlF.one s9).2
  rw [js5] at u2
  refine ⟨S3, u1, ?_⟩
  refine m_seq (m_reg ?_)
  rw [reg11_16]
  obtain ⟨S4, x1, x2, x3, x4⟩ := st_one (off := 2) (v := .int .i64 e2) u2 (by rw [jlen]; decide) rfl rfl
  rw [js2] at x2
  simp (decide := true) only [FT.get_set, FT.setL, faS_ptr, nilS_ptr, nilS_func, nilS_yield, pickS_bool, ldS_ptr, list_cells, list_ro, partS_none, lenSl_of, lenStr_of, cvInt_of, aminmax_max, aminmax_min, abin_add, abin_sub, abin_mul, abin_eql, abin_neq, abin_lss, abin_leq, abin_gtr, abin_geq, aunary_not, aextract, Option.some.injEq, Prod.mk.injEq, Value.bool.injEq, exists_eq_left', exists_and_left, and_assoc, decide_eq_true_eq, decide_eq_false_iff_not, if_true, if_false, Nat.zero_add, Nat.add_zero, Option.bind_some, true_and, and_true, forall_const, true_implies, Bool.not_eq_true, Bool.false_eq_true, false_implies, ite_self, Nat.mul_one, t0, t7]
  refine ⟨S4, x1, ?_⟩
  refine m_wf fun wf4 => m_seq (m_draw ?_)
  rw [reg11_17]
  have e24 : ∀ x, x ≠ j → S4.m x = S2.m x := fun x hx => by rw [x4 x hx, u4 x hx]
  have e14 : ∀ x, x < S1.n → x ≠ j → S4.m x = S1.m x := fun x hx hne => by rw [e24 x hne, f2.2 x hx]
  have hn4 : S4.n = S2.n := by rw [x3, u3]
  have hb4 : RB S4 v b := hb.keepOn fun y hy => e14 y (hon y hy).1.1 (hon y hy).2.1
  simp (decide := true) only [FT.get_set, FT.setL, faS_ptr, nilS_ptr, nilS_func, nilS_yield, pickS_bool, ldS_ptr, list_cells, list_ro, partS_none, lenSl_of, lenStr_of, cvInt_of, aminmax_max, aminmax_min, abin_add, abin_sub, abin_mul, abin_eql, abin_neq, abin_lss, abin_leq, abin_gtr, abin_geq, aunary_not, aextract, Option.some.injEq, Prod.mk.injEq, Value.bool.injEq, exists_eq_left', exists_and_left, and_assoc, decide_eq_true_eq, decide_eq_false_iff_not, if_true, if_false, Nat.zero_add, Nat.add_zero, Option.bind_some, true_and, and_true, forall_const, true_implies, Bool.not_eq_true, Bool.false_eq_true, false_implies, ite_self, Nat.mul_one, t0, t1]
  refine callM_wf_post (clone40 hb4 (by omega) fun v10 S5 f5 s10 wf5 => ?_)
  have hj5 : S5.m j = some (.cells (jouL d half e2 bv rv v9 false) 0) := by rw [f5.2 j (by have := f2.1; omega)]; exact x2
  obtain ⟨s, rfl⟩ := (RB.own s10).sv
  have h15 : ∀ x, x < S1.n → x ≠ j → S5.m x = S1.m x := fun x hx hne => by rw [f5.2 x (by have := f2.1; omega), e14 x hx hne]
  have hrv5 : SlF svF 1 S5 0 rv rl := h3.keep1 fun y k hy hk => h15 y (wf1 _ _ hk) fun e => by subst e; exact hy hj.fj.2
  have hrveq : veq rv rv = true := by cases h3 <;> exact veq_slice _ _ _
  have hbs : bsS S5 1 1 [.slice none 0 0] [(0, s.v)] = some (.slice (some ⟨S5.n, 0, none⟩) 1 1, S5.fresh [s.v] 1) := bsS_one S5 1 _ s.v rfl rfl
  have wf6 := wf_fresh' wf5 [s.v] 1
  have f6 := old_fresh S5 [s.v] 1
  have hnew : firstCellsM (S5.fresh [s.v] 1) 1 [s].length (.slice (some ⟨S5.n, 0, none⟩) 1 1) = some ([s].flatMap svF) := by
    exact (first_of (sz := 1) (n := 1) (len := 1) (cap := 1) (off := 0) (list_of (fresh_at S5 [s.v] 1)) (Nat.le_refl _) (by decide) (by simp)).trans rfl
  have hrv6 : SlF svF 1 (S5.fresh [s.v] 1) 0 rv rl := hrv5.keep fun y k hk => f6.2 y (wf5 _ _ hk)
  have hrl : rl.length ≤ 100000 := by
    have h8 := wsum_len rs
    have : liveN base rs ≤ 400000 := by omega
    unfold liveN at this
    rw [h4.1]; omega
  obtain ⟨rv', S7, c1, c2, c3, c4, c5⟩ := hrv6.app2 (bytes := 24) (z := [.slice none 0 0]) sv_len sv_one (by decide) (x := .slice (some ⟨S5.n, 0, none⟩) 1 1) (new := [s]) wf6 (Nat.zero_le _) rfl hnew (by simp; omega) (by simp; omega)
  have hj7 : S7.m j = some (.cells (jouL d half e2 bv rv v9 false) 0) := by
    have h25 := f2.1
    have h55 := f5.1
    rw [c4 j (by simp only [fresh_n]; omega) hj.fj.2, f6.2 j (by omega)]; exact hj5
  have hone := SlF.one c2
  obtain ⟨S8, y1, y2, y3, y4⟩ := st_one (off := 4) (v := rv') hj7 (by rw [jlen]; decide) hone.1 hone.2
  rw [js4] at y2
  simp (decide := true) only [FT.get_set, FT.setL, faS_ptr, nilS_ptr, nilS_func, nilS_yield, pickS_bool, ldS_ptr, list_cells, list_ro, partS_none, lenSl_of, lenStr_of, cvInt_of, aminmax_max, aminmax_min, abin_add, abin_sub, abin_mul, abin_eql, abin_neq, abin_lss, abin_leq, abin_gtr, abin_geq, aunary_not, aextract, Option.some.injEq, Prod.mk.injEq, Value.bool.injEq, exists_eq_left', exists_and_left, and_assoc, decide_eq_true_eq, decide_eq_false_iff_not, if_true, if_false, Nat.zero_add, Nat.add_zero, Option.bind_some, true_and, and_true, forall_const, true_implies, Bool.not_eq_true, Bool.false_eq_true, false_implies, ite_self, Nat.mul_one, list_of hj5, list_of x2, jl4, hrveq, hbs, c1]
  refine ⟨S8, y1, ?_⟩
  refine m_seq (m_reg ?_)
  rw [reg11_18]
  refine m_wf fun wf8 => m_ret ?_
  simp [FT.get_set, FT.setL, faS_ptr, nilS_ptr, nilS_func, nilS_yield, pickS_bool, ldS_ptr, list_cells, list_ro, partS_none, lenSl_of, lenStr_of, cvInt_of, aminmax_max, aminmax_min, abin_add, abin_sub, abin_mul, abin_eql, abin_neq, abin_lss, abin_leq, abin_gtr, abin_geq, aunary_not, aextract]
  have hn6 : (S5.fresh [s.v] 1).n = S5.n + 1 := rfl
  rw [hn6] at c3 c4 c5
  have n12 := f2.1
  have n45 := f5.1
  -- how the memory goes
  have g2 : JGo S d D c0 W j rv S2 D1 rv V := hg.old wf1 f2
  have fj2 : FrD S2 d D1 j := hj.fj.1.old f2
  have g4 : JGo S d D c0 W j rv S4 D1 rv V := g2.touch wf2 fj2 hj2 (jlen _ _ _ _ _ _ _) hn4 e24
  have g5 : JGo S d D c0 W j rv S5 D1 rv V := g4.old wf4 f5
  have g6 : JGo S d D c0 W j rv (S5.fresh [s.v] 1) D1 rv V := g5.old wf5 f6
  have hfrv : ∀ y, ¬ Av rv y → FrD (S5.fresh [s.v] 1) d D1 y := fun y hy => by
    have := hj.frv y hy
    exact ⟨by rw [hn6]; have := this.1; omega, this.2⟩
  have g7 : JGo S d D c0 W j rv S7 D1 rv' V := g6.app wf6 hrv6 hfrv c3 (by rw [hn6]; exact c4) (by rw [hn6]; exact c5)
  have fj7 : FrD S7 d D1 j := ⟨by omega, hj.fj.1.2⟩
  have wf7 : S7.WF := fun x k hk => by
    by_cases e : x = j
    · omega
    · rw [← y4 x e] at hk; rw [← y3]; exact wf8 x k hk
  have g8 : JGo S d D c0 W j rv S8 D1 rv' V := g7.touch wf7 fj7 hj7 (jlen _ _ _ _ _ _ _) y3 y4
  refine ⟨rv', g8, ?_⟩
  -- the journal
  have hE : ∀ y, y < S1.n → y ≠ j → Av rv y → S8.m y = S1.m y := fun y hy hne hav => by
    rw [y4 y hne, c4 y (by omega) hav, f6.2 y (by omega), h15 y hy hne]
  have hnew1 : ∀ y, S1.n ≤ y → Av rv y := fun y hy => SlF.avN h3 wf1 hy
  have hE2 : ∀ y, S1.n ≤ y → y < S5.n → S8.m y = S5.m y := fun y hy hlt => by
    rw [y4 y (by omega), c4 y (by omega) (hnew1 y hy), f6.2 y hlt]
  have hE24 : ∀ y, S1.n ≤ y → y < S2.n → S5.m y = S2.m y := fun y hy hlt => by rw [f5.2 y (by omega), e24 y (by omega)]
  have hAv' : ∀ y, y < S5.n → Av rv y → Av rv' y := fun y hy hav => c5 y (by omega) hav
  have hFold : ∀ y, y < S1.n → FrD S1 d D1 y → FrD S8 d D1 y := fun y hy hf => ⟨by omega, hf.2⟩
  have hFnew : ∀ y, S1.n ≤ y → y < S8.n → FrD S8 d D1 y := fun y h1 h2 => FrD.new hg.is wf1 h1 h2
  refine ⟨⟨bv, v9, rl ++ [s], y2, h2.keepOn fun y hy => ?_, c2.keep1 fun y k hy _ => ?_, ⟨?_, fun i x r hx hr => ?_⟩, ?_, fun y hy => ?_⟩, ⟨hFold j hjlt hj.fj.1, hAv' j (by omega) hj.fj.2⟩, fun y hy => ?_⟩
  · obtain ⟨k1, k2, k3, kX⟩ := h6 y (.inl hy)
    exact hE y k1.1 k2 k3
  · refine y4 y fun e => ?_
    subst e
    exact hy (hAv' y (by omega) hj.fj.2)
  · rw [List.length_append, List.length_append, h4.1]; rfl
  · by_cases hil : i < rl.length
    · rw [List.getElem?_append_left hil] at hx
      rw [List.getElem?_append_left (by rw [← h4.1]; exact hil)] at hr
      refine (h4.2 i x r hx hr).keepOn fun y hy => ?_
      obtain ⟨k1, k2, k3, kX⟩ := h6 y (.inr (.inr ⟨x, List.mem_of_getElem? hx, hy⟩))
      exact hE y k1.1 k2 k3
    · rw [List.getElem?_append_right (by omega)] at hx
      rw [List.getElem?_append_right (by rw [← h4.1]; omega), ← h4.1] at hr
      obtain ⟨e1, _⟩ := List.getElem?_eq_some_iff.1 hx
      have : i - rl.length = 0 := by simp at e1; omega
      rw [this] at hx hr
      cases hx; cases hr
      refine (RB.own s10).keepOn fun y hy => ?_
      have := SlF.on s10 hy
      exact hE2 y (by omega) ((RB.own s10).on_lt wf5 hy)
  · refine (RB.own s9).keepOn fun y hy => ?_
    have k1 := SlF.on s9 hy
    have k2 := (RB.own s9).on_lt wf2 hy
    rw [hE2 y k1 (by omega), hE24 y k1 k2]
  · rcases hy with hy | hy | ⟨x, hx, hy⟩
    · obtain ⟨k1, k2, k3, kX⟩ := h6 y (.inl hy)
      exact ⟨hFold y k1.1 k1, k2, hAv' y (by have := k1.1; omega) k3, kX⟩
    · have k1 := SlF.on s9 hy
      have k2 := (RB.own s9).on_lt wf2 hy
      exact ⟨hFnew y k1 (by omega), by omega, hAv' y (by omega) (hnew1 y k1), fun hx => by have := hX y hx; omega⟩
    · rcases List.mem_append.1 hx with hx | hx
      · obtain ⟨k1, k2, k3, kX⟩ := h6 y (.inr (.inr ⟨x, hx, hy⟩))
        exact ⟨hFold y k1.1 k1, k2, hAv' y (by have := k1.1; omega) k3, kX⟩
      · have : x = s := by simpa using hx
        subst this
        have k1 := SlF.on s10 hy
        have k2 := (RB.own s10).on_lt wf5 hy
        exact ⟨hFnew y (by omega) (by omega), by omega, hAv' y k2 (hnew1 y (by omega)), fun hx => by have := hX y hx; omega⟩
  · by_cases hlt : y < S1.n
    · exact hFold y hlt (hj.frv y fun hav => hy (hAv' y (by omega) hav))
    · refine hFnew y (by omega) ?_
      exact Nat.lt_of_not_le fun e => hy (SlF.avN c2 wf7 (by omega))
end Go.Proofs.Ytmfmbadfgnhonaa
namespace Go.Proofs.Ytmfmbadfgnhonaa
open Go Go.Ag
set_option linter.unusedVariables false
set_option maxRecDepth 100000

/-- the writes of an Append -/
def appW (n half : Nat) (base : List UInt8) (rs : List (List UInt8)) (b : List UInt8) : List (Nat × List UInt8) := piecesN (lastB base rs b) (placeN n half + liveN base rs / 256) ++ [(0, headB half (liveN base (rs ++ [b])))]
theorem take_app_le {α : Type} (a b : List α) {k : Nat} (h : k ≤ a.length) : (a ++ b).take k = a.take k := by rw [List.take_append_of_le_length h]

theorem append11_dead {X : Nat → Prop} {S : MS} {d j : Nat} {D : DK} {rv v : Value} {half end' : Nat} {base : List UInt8} {rs : List (List UInt8)} (hj : JJ X S d D j rv half end' base rs true) {Q : Value → MS → Prop} (hq : Q (.int .i64 12) S) : CallM Try.prog O 11 [.pointer (some ⟨j, 0, none⟩), v] S Q := by
  obtain ⟨bv, tv, rl, h1, h2, h3, h4, h5, h6⟩ := hj.ex
  refine callM_body (fnIs is11 body11 res11) (O_none (by decide)) (by simp) ?_
  refine m_seq (m_reg ?_)
  rw [reg11_0]
  refine m_seq (m_block (m_seq (m_reg ?_)))
  rw [reg11_1]
  simp (decide := true) only [FT.get_set, FT.setL, faS_ptr, nilS_ptr, nilS_func, nilS_yield, pickS_bool, ldS_ptr, list_cells, list_ro, partS_none, lenSl_of, lenStr_of, cvInt_of, aminmax_max, aminmax_min, abin_add, abin_sub, abin_mul, abin_eql, abin_neq, abin_lss, abin_leq, abin_gtr, abin_geq, aunary_not, aextract, Option.some.injEq, Prod.mk.injEq, Value.bool.injEq, exists_eq_left', exists_and_left, and_assoc, decide_eq_true_eq, decide_eq_false_iff_not, if_true, if_false, Nat.zero_add, Nat.add_zero, Option.bind_some, true_and, and_true, forall_const, true_implies, Bool.not_eq_true, Bool.false_eq_true, false_implies, ite_self, Nat.mul_one, list_of h1, jl6]
  refine m_cond (t := true) (by simp [evalT, FT.get_set, FT.setL, faS_ptr, nilS_ptr, nilS_func, nilS_yield, pickS_bool, ldS_ptr, list_cells, list_ro, partS_none, lenSl_of, lenStr_of, cvInt_of, aminmax_max, aminmax_min, abin_add, abin_sub, abin_mul, abin_eql, abin_neq, abin_lss, abin_leq, abin_gtr, abin_geq, aunary_not, aextract]) (fun _ => ?_) tf
  refine m_seq (m_reg ?_)
  rw [reg11_2]
  refine m_ret ?_
  simp [resM, FT.get_set, FT.setL, faS_ptr, nilS_ptr, nilS_func, nilS_yield, pickS_bool, ldS_ptr, list_cells, list_ro, partS_none, lenSl_of, lenStr_of, cvInt_of, aminmax_max, aminmax_min, abin_add, abin_sub, abin_mul, abin_eql, abin_neq, abin_lss, abin_leq, abin_gtr, abin_geq, aunary_not, aextract, oneOrTuple]
  exact hq
theorem append11_long {X : Nat → Prop} {S : MS} {d j : Nat} {D : DK} {rv v : Value} {half end' : Nat} {base b : List UInt8} {rs : List (List UInt8)} (hj : JJ X S d D j rv half end' base rs false) (hv : lenSl v = some (.int .i64 b.length)) (hl : 65536 < b.length) {Q : Value → MS → Prop} (hq : Q (.int .i64 193) S) : CallM Try.prog O 11 [.pointer (some ⟨j, 0, none⟩), v] S Q := by
  obtain ⟨bv, tv, rl, h1, h2, h3, h4, h5, h6⟩ := hj.ex
  refine callM_body (fnIs is11 body11 res11) (O_none (by decide)) (by simp) ?_
  refine m_seq (m_reg ?_)
  rw [reg11_0]
  refine m_seq (m_block (m_seq (m_reg ?_)))
  rw [reg11_1]
  simp (decide := true) only [FT.get_set, FT.setL, faS_ptr, nilS_ptr, nilS_func, nilS_yield, pickS_bool, ldS_ptr, list_cells, list_ro, partS_none, lenSl_of, lenStr_of, cvInt_of, aminmax_max, aminmax_min, abin_add, abin_sub, abin_mul, abin_eql, abin_neq, abin_lss, abin_leq, abin_gtr, abin_geq, aunary_not, aextract, Option.some.injEq, Prod.mk.injEq, Value.bool.injEq, exists_eq_left', exists_and_left, and_assoc, decide_eq_true_eq, decide_eq_false_iff_not, if_true, if_false, Nat.zero_add, Nat.add_zero, Option.bind_some, true_and, and_true, forall_const, true_implies, Bool.not_eq_true, Bool.false_eq_true, false_implies, ite_self, Nat.mul_one, list_of h1, jl6]
  refine m_cond (t := false) (by simp [evalT, FT.get_set, FT.setL, faS_ptr, nilS_ptr, nilS_func, nilS_yield, pickS_bool, ldS_ptr, list_cells, list_ro, partS_none, lenSl_of, lenStr_of, cvInt_of, aminmax_max, aminmax_min, abin_add, abin_sub, abin_mul, abin_eql, abin_neq, abin_lss, abin_leq, abin_gtr, abin_geq, aunary_not, aextract]) ff (fun _ => ?_)
  refine m_seq (m_reg ?_)
  rw [reg11_3]
  have hd : decide ((b.length : Int) > 65536) = true := decide_eq_true (by omega)
  simp (decide := true) only [FT.get_set, FT.setL, faS_ptr, nilS_ptr, nilS_func, nilS_yield, pickS_bool, ldS_ptr, list_cells, list_ro, partS_none, lenSl_of, lenStr_of, cvInt_of, aminmax_max, aminmax_min, abin_add, abin_sub, abin_mul, abin_eql, abin_neq, abin_lss, abin_leq, abin_gtr, abin_geq, aunary_not, aextract, Option.some.injEq, Prod.mk.injEq, Value.bool.injEq, exists_eq_left', exists_and_left, and_assoc, decide_eq_true_eq, decide_eq_false_iff_not, if_true, if_false, Nat.zero_add, Nat.add_zero, Option.bind_some, true_and, and_true, forall_const, true_implies, Bool.not_eq_true, Bool.false_eq_true, false_implies, ite_self, Nat.mul_one, hv, hd]
  refine m_cond (t := true) (by simp [evalT, FT.get_set, FT.setL, faS_ptr, nilS_ptr, nilS_func, nilS_yield, pickS_bool, ldS_ptr, list_cells, list_ro, partS_none, lenSl_of, lenStr_of, cvInt_of, aminmax_max, aminmax_min, abin_add, abin_sub, abin_mul, abin_eql, abin_neq, abin_lss, abin_leq, abin_gtr, abin_geq, aunary_not, aextract, hd]) (fun _ => ?_) tf
  refine m_seq (m_reg ?_)
  rw [reg11_4]
  refine m_ret ?_
  simp [resM, FT.get_set, FT.setL, faS_ptr, nilS_ptr, nilS_func, nilS_yield, pickS_bool, ldS_ptr, list_cells, list_ro, partS_none, lenSl_of, lenStr_of, cvInt_of, aminmax_max, aminmax_min, abin_add, abin_sub, abin_mul, abin_eql, abin_neq, abin_lss, abin_leq, abin_gtr, abin_geq, aunary_not, aextract, oneOrTuple]
  exact hq

theorem append11 {X : Nat → Prop} {S : MS} {d j : Nat} {D : DK} {c0 : Nat → List UInt8} {W : List (Nat × List UInt8)} {rv v : Value} {half : Nat} {base b : List UInt8} {rs : List (List UInt8)} (h : IsD S d D) (hw : HW S D c0 W) (hj : JJ X S d D j rv half (liveN base rs) base rs false) (hn : 64 ≤ D.made.length ∧ D.made.length ≤ 2000) (hh : half ≤ 1) (hlive : liveN base rs ≤ 32 * D.made.length) (hb : RB S v b) (hon : ∀ y, On v y → Fr S d D j rv y) (hbl : b.length ≤ 65536) (hws : D.ws.length ≤ 900000) (hhalt : D.halt ≤ 9223372036854775807) (hX : ∀ y, X y → y < S.n) {Q : Value → MS → Prop}
    (q0 : 32 * D.made.length < liveN base (rs ++ [b]) → Q (.int .i64 192) S)
    (q1 : liveN base (rs ++ [b]) ≤ 32 * D.made.length → ∀ S' D' rv', JGo S d D c0 W j rv S' D' rv' (appW D.made.length half base rs b) → JJ X S' d D' j rv' half (liveN base (rs ++ [b])) base (rs ++ [b]) false → Q (.int .i64 0) S')
    (q2 : liveN base (rs ++ [b]) ≤ 32 * D.made.length → ∀ k S' D', k < (appW D.made.length half base rs b).length → D'.cut = true → JGo S d D c0 W j rv S' D' rv ((appW D.made.length half base rs b).take k) → JJ X S' d D' j rv half (liveN base rs) base rs true → Q (.int .i64 12) S') :
    CallM Try.prog O 11 [.pointer (some ⟨j, 0, none⟩), v] S Q := by
  refine callM_wf fun wf => ?_
  obtain ⟨bv, tv, rl, h1, h2, h3, h4, h5, h6⟩ := hj.ex
  refine callM_body (fnIs is11 body11 res11) (O_none (by decide)) (by simp) ?_
  refine m_seq (m_reg ?_)
  rw [reg11_0]
  refine m_seq (m_block (m_seq (m_reg ?_)))
  rw [reg11_1]
  simp (decide := true) only [FT.get_set, FT.setL, faS_ptr, nilS_ptr, nilS_func, nilS_yield, pickS_bool, ldS_ptr, list_cells, list_ro, partS_none, lenSl_of, lenStr_of, cvInt_of, aminmax_max, aminmax_min, abin_add, abin_sub, abin_mul, abin_eql, abin_neq, abin_lss, abin_leq, abin_gtr, abin_geq, aunary_not, aextract, Option.some.injEq, Prod.mk.injEq, Value.bool.injEq, exists_eq_left', exists_and_left, and_assoc, decide_eq_true_eq, decide_eq_false_iff_not, if_true, if_false, Nat.zero_add, Nat.add_zero, Option.bind_some, true_and, and_true, forall_const, true_implies, Bool.not_eq_true, Bool.false_eq_true, false_implies, ite_self, Nat.mul_one, list_of h1, jl6]
  refine m_cond (t := false) (by simp [evalT, FT.get_set, FT.setL, faS_ptr, nilS_ptr, nilS_func, nilS_yield, pickS_bool, ldS_ptr, list_cells, list_ro, partS_none, lenSl_of, lenStr_of, cvInt_of, aminmax_max, aminmax_min, abin_add, abin_sub, abin_mul, abin_eql, abin_neq, abin_lss, abin_leq, abin_gtr, abin_geq, aunary_not, aextract]) ff (fun _ => ?_)
  refine m_seq (m_reg ?_)
  rw [reg11_3]
  have hd : ¬ ((b.length : Int) > 65536) := by omega
  simp (decide := true) only [FT.get_set, FT.setL, faS_ptr, nilS_ptr, nilS_func, nilS_yield, pickS_bool, ldS_ptr, list_cells, list_ro, partS_none, lenSl_of, lenStr_of, cvInt_of, aminmax_max, aminmax_min, abin_add, abin_sub, abin_mul, abin_eql, abin_neq, abin_lss, abin_leq, abin_gtr, abin_geq, aunary_not, aextract, Option.some.injEq, Prod.mk.injEq, Value.bool.injEq, exists_eq_left', exists_and_left, and_assoc, decide_eq_true_eq, decide_eq_false_iff_not, if_true, if_false, Nat.zero_add, Nat.add_zero, Option.bind_some, true_and, and_true, forall_const, true_implies, Bool.not_eq_true, Bool.false_eq_true, false_implies, ite_self, Nat.mul_one, hb.len, hd]
  refine m_cond (t := false) (by simp [evalT, FT.get_set, FT.setL, faS_ptr, nilS_ptr, nilS_func, nilS_yield, pickS_bool, ldS_ptr, list_cells, list_ro, partS_none, lenSl_of, lenStr_of, cvInt_of, aminmax_max, aminmax_min, abin_add, abin_sub, abin_mul, abin_eql, abin_neq, abin_lss, abin_leq, abin_gtr, abin_geq, aunary_not, aextract, hd]) ff (fun _ => ?_)
  refine m_seq (m_reg ?_)
  rw [reg11_5]
  have hls := liveN_snoc base rs b
  have hll := lastB_len base rs b
  simp (decide := true) only [FT.get_set, FT.setL, faS_ptr, nilS_ptr, nilS_func, nilS_yield, pickS_bool, ldS_ptr, list_cells, list_ro, partS_none, lenSl_of, lenStr_of, cvInt_of, aminmax_max, aminmax_min, abin_add, abin_sub, abin_mul, abin_eql, abin_neq, abin_lss, abin_leq, abin_gtr, abin_geq, aunary_not, aextract, Option.some.injEq, Prod.mk.injEq, Value.bool.injEq, exists_eq_left', exists_and_left, and_assoc, decide_eq_true_eq, decide_eq_false_iff_not, if_true, if_false, Nat.zero_add, Nat.add_zero, Option.bind_some, true_and, and_true, forall_const, true_implies, Bool.not_eq_true, Bool.false_eq_true, false_implies, ite_self, Nat.mul_one, ]
  refine weight21 hb (by omega) (capacity14 h1 h (by omega) (live27 hj.isJ (by omega) ?_))
  have w1 : IntKind.i64.wrap (((32 * D.made.length : Nat) : Int) - ((liveN base rs : Nat) : Int)) = ((32 * D.made.length - liveN base rs : Nat) : Int) := by rw [wrap_i64 (by omega) (by omega)]; omega
  simp (decide := true) only [FT.get_set, FT.setL, faS_ptr, nilS_ptr, nilS_func, nilS_yield, pickS_bool, ldS_ptr, list_cells, list_ro, partS_none, lenSl_of, lenStr_of, cvInt_of, aminmax_max, aminmax_min, abin_add, abin_sub, abin_mul, abin_eql, abin_neq, abin_lss, abin_leq, abin_gtr, abin_geq, aunary_not, aextract, Option.some.injEq, Prod.mk.injEq, Value.bool.injEq, exists_eq_left', exists_and_left, and_assoc, decide_eq_true_eq, decide_eq_false_iff_not, if_true, if_false, Nat.zero_add, Nat.add_zero, Option.bind_some, true_and, and_true, forall_const, true_implies, Bool.not_eq_true, Bool.false_eq_true, false_implies, ite_self, Nat.mul_one, w1]
  refine m_cond (t := decide (((b.length + 8 : Nat) : Int) > ((32 * D.made.length - liveN base rs : Nat) : Int))) (by simp [evalT, FT.get_set, FT.setL, faS_ptr, nilS_ptr, nilS_func, nilS_yield, pickS_bool, ldS_ptr, list_cells, list_ro, partS_none, lenSl_of, lenStr_of, cvInt_of, aminmax_max, aminmax_min, abin_add, abin_sub, abin_mul, abin_eql, abin_neq, abin_lss, abin_leq, abin_gtr, abin_geq, aunary_not, aextract]) (fun hf => ?_) (fun hf => m_skip ?_)
  · have hf := of_decide_eq_true hf
    refine m_seq (m_reg ?_)
    rw [reg11_6]
    refine m_ret ?_
    simp [resM, FT.get_set, FT.setL, faS_ptr, nilS_ptr, nilS_func, nilS_yield, pickS_bool, ldS_ptr, list_cells, list_ro, partS_none, lenSl_of, lenStr_of, cvInt_of, aminmax_max, aminmax_min, abin_add, abin_sub, abin_mul, abin_eql, abin_neq, abin_lss, abin_leq, abin_gtr, abin_geq, aunary_not, aextract, oneOrTuple]
    exact q0 (by omega)
  have hf : liveN base (rs ++ [b]) ≤ 32 * D.made.length := by have := of_decide_eq_false hf; omega
  have q1 := q1 hf
  have q2 := q2 hf
  simp only
  -- the bytes
  refine m_seq (m_reg ?_)
  rw [reg11_7]
  have htl : ((allB base rs).drop (liveN base rs / 256 * 256)).length ≤ 255 := by rw [List.length_drop, allB_len]; omega
  simp (decide := true) only [FT.get_set, FT.setL, faS_ptr, nilS_ptr, nilS_func, nilS_yield, pickS_bool, ldS_ptr, list_cells, list_ro, partS_none, lenSl_of, lenStr_of, cvInt_of, aminmax_max, aminmax_min, abin_add, abin_sub, abin_mul, abin_eql, abin_neq, abin_lss, abin_leq, abin_gtr, abin_geq, aunary_not, aextract, Option.some.injEq, Prod.mk.injEq, Value.bool.injEq, exists_eq_left', exists_and_left, and_assoc, decide_eq_true_eq, decide_eq_false_iff_not, if_true, if_false, Nat.zero_add, Nat.add_zero, Option.bind_some, true_and, and_true, forall_const, true_implies, Bool.not_eq_true, Bool.false_eq_true, false_implies, ite_self, Nat.mul_one, list_of h1, jl5]
  refine callM_wf_post (clone40 h5 (by omega) fun v4 S4 f4 s4 wf4 => ?_)
  have hb4 := hb.keep wf f4.2
  refine callM_wf_post (laid31 hb4 (by omega) fun v6 S6 f6 s6 wf6 => ?_)
  have s46 : SlF bF 1 S6 S.n v4 ((allB base rs).drop (liveN base rs / 256 * 256)) := s4.keep fun y k hk => f6.2 y (wf4 _ _ hk)
  have hlb : (laid b).length = b.length + 8 := laid_len b
  obtain ⟨v7, S7, a1, a2, a3, a4, a5⟩ := s46.app2 (bytes := 1) (z := [.int .u8 0]) bF_len bF_one (by decide) (x := v6) (new := laid b) wf6 (by have := f4.1; have := f6.1; omega) (RB.own s6).lenA (RB.own s6).flat (by omega) (by omega)
  have f7 : Old S S7 := ⟨by have := f4.1; have := f6.1; omega, fun y hy => by
    have := f4.1; have := f6.1
    rw [a4 y (by omega) (SlF.av s46 hy), f6.2 y (by omega), f4.2 y hy]⟩
  simp (decide := true) only [FT.get_set, FT.setL, faS_ptr, nilS_ptr, nilS_func, nilS_yield, pickS_bool, ldS_ptr, list_cells, list_ro, partS_none, lenSl_of, lenStr_of, cvInt_of, aminmax_max, aminmax_min, abin_add, abin_sub, abin_mul, abin_eql, abin_neq, abin_lss, abin_leq, abin_gtr, abin_geq, aunary_not, aextract, Option.some.injEq, Prod.mk.injEq, Value.bool.injEq, exists_eq_left', exists_and_left, and_assoc, decide_eq_true_eq, decide_eq_false_iff_not, if_true, if_false, Nat.zero_add, Nat.add_zero, Option.bind_some, true_and, and_true, forall_const, true_implies, Bool.not_eq_true, Bool.false_eq_true, false_implies, ite_self, Nat.mul_one, a1]
  have hlast : SlF bF 1 S7 S.n v7 (lastB base rs b) := a2
  refine m_wf fun wf7 => m_seq (m_seq (m_draw ?_))
  rw [reg11_8]
  have hj7 : S7.m j = some (.cells (jouL d half (liveN base rs : Nat) bv rv tv false) 0) := by rw [f7.2 j (wf _ _ h1)]; exact h1
  have hI7 := h.old' wf f7
  have hw7 := hw.old wf f7
  have z1 : ((liveN base rs : Nat) : Int).tdiv 256 = ((liveN base rs / 256 : Nat) : Int) := by rw [Int.tdiv_eq_ediv_of_nonneg (by omega)]; rfl
  have z2 : IntKind.i64.wrap ((liveN base rs / 256 : Nat) : Int) = ((liveN base rs / 256 : Nat) : Int) := wrap_i64 (by omega) (by omega)
  have q3 : abin Try.prog .quo 3 (.tmp 51) (.const (.int .i64 256)) (.int .i64 ((liveN base rs : Nat) : Int)) (.int .i64 256) = some (.int .i64 ((liveN base rs / 256 : Nat) : Int)) := by rw [abin_quo _ _ _ _ _ _ _ (by decide), z1, z2]
  have hmul : half * ((D.made.length - 1) / 2) ≤ 1 * ((D.made.length - 1) / 2) := Nat.mul_le_mul_right _ hh
  have hpl : placeN D.made.length half ≤ 1 + (D.made.length - 1) / 2 := by unfold placeN; omega
  have z3 : IntKind.i64.wrap (((placeN D.made.length half : Nat) : Int) + ((liveN base rs / 256 : Nat) : Int)) = ((placeN D.made.length half + liveN base rs / 256 : Nat) : Int) := by rw [wrap_i64 (by omega) (by omega)]; rfl
  have hpk : pieceK (lastB base rs b) = (lastB base rs b).length / 256 + (if (lastB base rs b).length % 256 = 0 then 0 else 1) := by unfold pieceK; split <;> omega
  have hpk2 : pieceK (lastB base rs b) ≤ 260 := by unfold pieceK; omega
  have hroom : placeN D.made.length half + liveN base rs / 256 + pieceK (lastB base rs b) ≤ D.made.length := by unfold pieceK; omega
  simp (decide := true) only [FT.get_set, FT.setL, faS_ptr, nilS_ptr, nilS_func, nilS_yield, pickS_bool, ldS_ptr, list_cells, list_ro, partS_none, lenSl_of, lenStr_of, cvInt_of, aminmax_max, aminmax_min, abin_add, abin_sub, abin_mul, abin_eql, abin_neq, abin_lss, abin_leq, abin_gtr, abin_geq, aunary_not, aextract, Option.some.injEq, Prod.mk.injEq, Value.bool.injEq, exists_eq_left', exists_and_left, and_assoc, decide_eq_true_eq, decide_eq_false_iff_not, if_true, if_false, Nat.zero_add, Nat.add_zero, Option.bind_some, true_and, and_true, forall_const, true_implies, Bool.not_eq_true, Bool.false_eq_true, false_implies, ite_self, Nat.mul_one, list_of hj7, jl0, jl1, jl2]
  refine place33 hI7 hh ⟨by omega, by omega⟩ ?_
  simp (decide := true) only [FT.get_set, FT.setL, faS_ptr, nilS_ptr, nilS_func, nilS_yield, pickS_bool, ldS_ptr, list_cells, list_ro, partS_none, lenSl_of, lenStr_of, cvInt_of, aminmax_max, aminmax_min, abin_add, abin_sub, abin_mul, abin_eql, abin_neq, abin_lss, abin_leq, abin_gtr, abin_geq, aunary_not, aextract, Option.some.injEq, Prod.mk.injEq, Value.bool.injEq, exists_eq_left', exists_and_left, and_assoc, decide_eq_true_eq, decide_eq_false_iff_not, if_true, if_false, Nat.zero_add, Nat.add_zero, Option.bind_some, true_and, and_true, forall_const, true_implies, Bool.not_eq_true, Bool.false_eq_true, false_implies, ite_self, Nat.mul_one, list_of hj7, jl0, jl1, jl2, veq_ptr, veq_int, q3, z3]
  refine writes32 hI7 hw7 (RB.own hlast) (fun y hy => ?_) (by omega) hroom (by omega) hhalt fun r k D8 S8 hk8 g8 hr8 => ?_
  · have k1 := SlF.on hlast hy
    have k2 := (RB.own hlast).on_lt wf7 hy
    exact FrD.new h wf k1 k2
  have G7 : JGo S d D c0 W j rv S7 D rv [] := (JGo.refl h hw).old wf f7
  have G8 : JGo S d D c0 W j rv S8 D8 rv _ := G7.goes (by rw [List.append_nil]; exact g8)
  rw [List.nil_append] at G8
  have J8 : JJ X S8 d D8 j rv half (liveN base rs) base rs false := (hj.old f7).keep g8.fr
  have hAl : (appW D.made.length half base rs b).length = pieceK (lastB base rs b) + 1 := by unfold appW; rw [List.length_append, piecesN_len]; rfl
  refine m_wf fun wf8 => m_seq (m_reg ?_)
  rw [reg11_9]
  rcases hr8 with ⟨rfl, rfl⟩ | ⟨hkl, hcut, rfl⟩
  case inr =>
    have hne : ((12 : Int) != 0) = true := by decide
    simp (decide := true) only [FT.get_set, FT.setL, faS_ptr, nilS_ptr, nilS_func, nilS_yield, pickS_bool, ldS_ptr, list_cells, list_ro, partS_none, lenSl_of, lenStr_of, cvInt_of, aminmax_max, aminmax_min, abin_add, abin_sub, abin_mul, abin_eql, abin_neq, abin_lss, abin_leq, abin_gtr, abin_geq, aunary_not, aextract, Option.some.injEq, Prod.mk.injEq, Value.bool.injEq, exists_eq_left', exists_and_left, and_assoc, decide_eq_true_eq, decide_eq_false_iff_not, if_true, if_false, Nat.zero_add, Nat.add_zero, Option.bind_some, true_and, and_true, forall_const, true_implies, Bool.not_eq_true, Bool.false_eq_true, false_implies, ite_self, Nat.mul_one, hne]
    refine m_cond (t := true) (by simp [evalT, FT.get_set, FT.setL, faS_ptr, nilS_ptr, nilS_func, nilS_yield, pickS_bool, ldS_ptr, list_cells, list_ro, partS_none, lenSl_of, lenStr_of, cvInt_of, aminmax_max, aminmax_min, abin_add, abin_sub, abin_mul, abin_eql, abin_neq, abin_lss, abin_leq, abin_gtr, abin_geq, aunary_not, aextract]) (fun _ => ?_) tf
    refine m_seq (m_reg ?_)
    rw [reg11_10]
    simp (decide := true) only [FT.get_set, FT.setL, faS_ptr, nilS_ptr, nilS_func, nilS_yield, pickS_bool, ldS_ptr, list_cells, list_ro, partS_none, lenSl_of, lenStr_of, cvInt_of, aminmax_max, aminmax_min, abin_add, abin_sub, abin_mul, abin_eql, abin_neq, abin_lss, abin_leq, abin_gtr, abin_geq, aunary_not, aextract, Option.some.injEq, Prod.mk.injEq, Value.bool.injEq, exists_eq_left', exists_and_left, and_assoc, decide_eq_true_eq, decide_eq_false_iff_not, if_true, if_false, Nat.zero_add, Nat.add_zero, Option.bind_some, true_and, and_true, forall_const, true_implies, Bool.not_eq_true, Bool.false_eq_true, false_implies, ite_self, Nat.mul_one, ]
    refine dies41J J8 12 (by decide) fun S9 J9 n9 e9 => ?_
    refine m_ret ?_
    simp [resM, FT.get_set, FT.setL, faS_ptr, nilS_ptr, nilS_func, nilS_yield, pickS_bool, ldS_ptr, list_cells, list_ro, partS_none, lenSl_of, lenStr_of, cvInt_of, aminmax_max, aminmax_min, abin_add, abin_sub, abin_mul, abin_eql, abin_neq, abin_lss, abin_leq, abin_gtr, abin_geq, aunary_not, aextract, oneOrTuple]
    obtain ⟨bv', tv', rl', k1, _⟩ := J8.ex
    refine q2 k S9 D8 (by omega) hcut ?_ J9
    rw [show (appW D.made.length half base rs b).take k = (piecesN (lastB base rs b) (placeN D.made.length half + liveN base rs / 256)).take k from take_app_le _ _ (by rw [piecesN_len]; omega)]
    exact G8.touch wf8 J8.fj.1 k1 (jlen _ _ _ _ _ _ _) n9 e9
  have htk : (piecesN (lastB base rs b) (placeN D.made.length half + liveN base rs / 256)).take (pieceK (lastB base rs b)) = piecesN (lastB base rs b) (placeN D.made.length half + liveN base rs / 256) := by
    rw [← piecesN_len (lastB base rs b) (placeN D.made.length half + liveN base rs / 256), List.take_length]
  rw [htk] at G8
  simp (decide := true) only [FT.get_set, FT.setL, faS_ptr, nilS_ptr, nilS_func, nilS_yield, pickS_bool, ldS_ptr, list_cells, list_ro, partS_none, lenSl_of, lenStr_of, cvInt_of, aminmax_max, aminmax_min, abin_add, abin_sub, abin_mul, abin_eql, abin_neq, abin_lss, abin_leq, abin_gtr, abin_geq, aunary_not, aextract, Option.some.injEq, Prod.mk.injEq, Value.bool.injEq, exists_eq_left', exists_and_left, and_assoc, decide_eq_true_eq, decide_eq_false_iff_not, if_true, if_false, Nat.zero_add, Nat.add_zero, Option.bind_some, true_and, and_true, forall_const, true_implies, Bool.not_eq_true, Bool.false_eq_true, false_implies, ite_self, Nat.mul_one, bne_self_eq_false]
  refine m_cond (t := false) (by simp [evalT, FT.get_set, FT.setL, faS_ptr, nilS_ptr, nilS_func, nilS_yield, pickS_bool, ldS_ptr, list_cells, list_ro, partS_none, lenSl_of, lenStr_of, cvInt_of, aminmax_max, aminmax_min, abin_add, abin_sub, abin_mul, abin_eql, abin_neq, abin_lss, abin_leq, abin_gtr, abin_geq, aunary_not, aextract]) ff (fun _ => m_skip ?_)
  simp only
  have hv8 : v7.cells = #[v7] := (SlF.one hlast).1
  have hE78 : ∀ y, FrD S7 d D y → S8.m y = S7.m y := fun y hy => (g8.fr y hy).1
  have hb8 : RB S8 v b := (hb.keep wf f7.2).keepOn fun y hy => hE78 y ((hon y hy).1.old f7)
  have hon8 : ∀ y, On v y → Fr S8 d D8 j rv y := fun y hy => ((G8.fr y (hon y hy)).2)
  have hlast8 : RB S8 v7 (lastB base rs b) := (RB.own hlast).keepOn fun y hy => hE78 y (FrD.new h wf (SlF.on hlast hy) ((RB.own hlast).on_lt wf7 hy))
  -- the new end
  obtain ⟨bv', tv', rl', k1, k2, k3, k4, k5, k6⟩ := J8.ex
  refine m_seq (m_draw ?_)
  rw [reg11_11]
  simp (decide := true) only [FT.get_set, FT.setL, faS_ptr, nilS_ptr, nilS_func, nilS_yield, pickS_bool, ldS_ptr, list_cells, list_ro, partS_none, lenSl_of, lenStr_of, cvInt_of, aminmax_max, aminmax_min, abin_add, abin_sub, abin_mul, abin_eql, abin_neq, abin_lss, abin_leq, abin_gtr, abin_geq, aunary_not, aextract, Option.some.injEq, Prod.mk.injEq, Value.bool.injEq, exists_eq_left', exists_and_left, and_assoc, decide_eq_true_eq, decide_eq_false_iff_not, if_true, if_false, Nat.zero_add, Nat.add_zero, Option.bind_some, true_and, and_true, forall_const, true_implies, Bool.not_eq_true, Bool.false_eq_true, false_implies, ite_self, Nat.mul_one, ]
  refine callM_wf_post (laid31 hb8 (by omega) fun v9 S9 f9 s9 wf9 => ?_)
  have hj9 : S9.m j = some (.cells (jouL d half (liveN base rs : Nat) bv' rv tv' false) 0) := by rw [f9.2 j (wf8 _ _ k1)]; exact k1
  have hl9 := s9.lenSl
  rw [hlb] at hl9
  have z4 : IntKind.i64.wrap (((liveN base rs : Nat) : Int) + ((b.length + 8 : Nat) : Int)) = ((liveN base (rs ++ [b]) : Nat) : Int) := by rw [wrap_i64 (by omega) (by omega)]; omega
  simp (decide := true) only [FT.get_set, FT.setL, faS_ptr, nilS_ptr, nilS_func, nilS_yield, pickS_bool, ldS_ptr, list_cells, list_ro, partS_none, lenSl_of, lenStr_of, cvInt_of, aminmax_max, aminmax_min, abin_add, abin_sub, abin_mul, abin_eql, abin_neq, abin_lss, abin_leq, abin_gtr, abin_geq, aunary_not, aextract, Option.some.injEq, Prod.mk.injEq, Value.bool.injEq, exists_eq_left', exists_and_left, and_assoc, decide_eq_true_eq, decide_eq_false_iff_not, if_true, if_false, Nat.zero_add, Nat.add_zero, Option.bind_some, true_and, and_true, forall_const, true_implies, Bool.not_eq_true, Bool.false_eq_true, false_implies, ite_self, Nat.mul_one, list_of hj9, list_of k1, jl2, veq_int, hl9, z4]
  have G9 := G8.old wf8 f9
  have J9 := J8.old f9
  have hlast9 := hlast8.keep wf8 f9.2
  have hb9 := hb8.keep wf8 f9.2
  have hon9 : ∀ y, On v y → Fr S9 d D8 j rv y := fun y hy => (hon8 y hy).old f9
  have hmd : D8.made = D.made := G9.wn.made
  -- the first block
  refine m_seq (m_seq (m_draw ?_))
  rw [reg11_12]
  simp (decide := true) only [FT.get_set, FT.setL, faS_ptr, nilS_ptr, nilS_func, nilS_yield, pickS_bool, ldS_ptr, list_cells, list_ro, partS_none, lenSl_of, lenStr_of, cvInt_of, aminmax_max, aminmax_min, abin_add, abin_sub, abin_mul, abin_eql, abin_neq, abin_lss, abin_leq, abin_gtr, abin_geq, aunary_not, aextract, Option.some.injEq, Prod.mk.injEq, Value.bool.injEq, exists_eq_left', exists_and_left, and_assoc, decide_eq_true_eq, decide_eq_false_iff_not, if_true, if_false, Nat.zero_add, Nat.add_zero, Option.bind_some, true_and, and_true, forall_const, true_implies, Bool.not_eq_true, Bool.false_eq_true, false_implies, ite_self, Nat.mul_one, list_of hj9, jl1]
  refine callM_wf_post (head34 half (liveN base (rs ++ [b])) (by omega) (by omega) fun v10 S10 f10 s10 wf10 => ?_)
  have hj10 : S10.m j = some (.cells (jouL d half (liveN base rs : Nat) bv' rv tv' false) 0) := by rw [f10.2 j (wf9 _ _ hj9)]; exact hj9
  have G10 := G9.old wf9 f10
  have J10 := J9.old f10
  have hws8 := G10.wn.ws
  rw [piecesN_len] at hws8
  simp (decide := true) only [FT.get_set, FT.setL, faS_ptr, nilS_ptr, nilS_func, nilS_yield, pickS_bool, ldS_ptr, list_cells, list_ro, partS_none, lenSl_of, lenStr_of, cvInt_of, aminmax_max, aminmax_min, abin_add, abin_sub, abin_mul, abin_eql, abin_neq, abin_lss, abin_leq, abin_gtr, abin_geq, aunary_not, aextract, Option.some.injEq, Prod.mk.injEq, Value.bool.injEq, exists_eq_left', exists_and_left, and_assoc, decide_eq_true_eq, decide_eq_false_iff_not, if_true, if_false, Nat.zero_add, Nat.add_zero, Option.bind_some, true_and, and_true, forall_const, true_implies, Bool.not_eq_true, Bool.false_eq_true, false_implies, ite_self, Nat.mul_one, list_of hj10, list_of hj9, jl0, veq_ptr]
  refine writeW G10.is G10.hw (i := 0) (by rw [hmd]; omega) s10 (headB_len _ _) (by omega) (Int.le_trans G10.wn.halt hhalt) (fun hcut => ?_) (fun hcut D11 S11 g11 => ?_)
  · refine m_seq (m_reg ?_)
    rw [reg11_13]
    have hne : ((12 : Int) != 0) = true := by decide
    simp (decide := true) only [FT.get_set, FT.setL, faS_ptr, nilS_ptr, nilS_func, nilS_yield, pickS_bool, ldS_ptr, list_cells, list_ro, partS_none, lenSl_of, lenStr_of, cvInt_of, aminmax_max, aminmax_min, abin_add, abin_sub, abin_mul, abin_eql, abin_neq, abin_lss, abin_leq, abin_gtr, abin_geq, aunary_not, aextract, Option.some.injEq, Prod.mk.injEq, Value.bool.injEq, exists_eq_left', exists_and_left, and_assoc, decide_eq_true_eq, decide_eq_false_iff_not, if_true, if_false, Nat.zero_add, Nat.add_zero, Option.bind_some, true_and, and_true, forall_const, true_implies, Bool.not_eq_true, Bool.false_eq_true, false_implies, ite_self, Nat.mul_one, hne]
    refine m_cond (t := true) (by simp [evalT, FT.get_set, FT.setL, faS_ptr, nilS_ptr, nilS_func, nilS_yield, pickS_bool, ldS_ptr, list_cells, list_ro, partS_none, lenSl_of, lenStr_of, cvInt_of, aminmax_max, aminmax_min, abin_add, abin_sub, abin_mul, abin_eql, abin_neq, abin_lss, abin_leq, abin_gtr, abin_geq, aunary_not, aextract]) (fun _ => ?_) tf
    refine m_seq (m_reg ?_)
    rw [reg11_14]
    simp (decide := true) only [FT.get_set, FT.setL, faS_ptr, nilS_ptr, nilS_func, nilS_yield, pickS_bool, ldS_ptr, list_cells, list_ro, partS_none, lenSl_of, lenStr_of, cvInt_of, aminmax_max, aminmax_min, abin_add, abin_sub, abin_mul, abin_eql, abin_neq, abin_lss, abin_leq, abin_gtr, abin_geq, aunary_not, aextract, Option.some.injEq, Prod.mk.injEq, Value.bool.injEq, exists_eq_left', exists_and_left, and_assoc, decide_eq_true_eq, decide_eq_false_iff_not, if_true, if_false, Nat.zero_add, Nat.add_zero, Option.bind_some, true_and, and_true, forall_const, true_implies, Bool.not_eq_true, Bool.false_eq_true, false_implies, ite_self, Nat.mul_one, ]
    refine dies41J J10 12 (by decide) fun S11 J11 n11 e11 => ?_
    refine m_ret ?_
    simp [resM, FT.get_set, FT.setL, faS_ptr, nilS_ptr, nilS_func, nilS_yield, pickS_bool, ldS_ptr, list_cells, list_ro, partS_none, lenSl_of, lenStr_of, cvInt_of, aminmax_max, aminmax_min, abin_add, abin_sub, abin_mul, abin_eql, abin_neq, abin_lss, abin_leq, abin_gtr, abin_geq, aunary_not, aextract, oneOrTuple]
    refine q2 (pieceK (lastB base rs b)) S11 D8 (by omega) hcut ?_ J11
    rw [show (appW D.made.length half base rs b).take (pieceK (lastB base rs b)) = (piecesN (lastB base rs b) (placeN D.made.length half + liveN base rs / 256)).take (pieceK (lastB base rs b)) from take_app_le _ _ (by rw [piecesN_len]; omega), htk]
    exact G10.touch wf10 J10.fj.1 hj10 (jlen _ _ _ _ _ _ _) n11 e11
  · refine m_wf fun wf11 => m_seq (m_reg ?_)
    rw [reg11_13]
    simp (decide := true) only [FT.get_set, FT.setL, faS_ptr, nilS_ptr, nilS_func, nilS_yield, pickS_bool, ldS_ptr, list_cells, list_ro, partS_none, lenSl_of, lenStr_of, cvInt_of, aminmax_max, aminmax_min, abin_add, abin_sub, abin_mul, abin_eql, abin_neq, abin_lss, abin_leq, abin_gtr, abin_geq, aunary_not, aextract, Option.some.injEq, Prod.mk.injEq, Value.bool.injEq, exists_eq_left', exists_and_left, and_assoc, decide_eq_true_eq, decide_eq_false_iff_not, if_true, if_false, Nat.zero_add, Nat.add_zero, Option.bind_some, true_and, and_true, forall_const, true_implies, Bool.not_eq_true, Bool.false_eq_true, false_implies, ite_self, Nat.mul_one, bne_self_eq_false]
    refine m_cond (t := false) (by simp [evalT, FT.get_set, FT.setL, faS_ptr, nilS_ptr, nilS_func, nilS_yield, pickS_bool, ldS_ptr, list_cells, list_ro, partS_none, lenSl_of, lenStr_of, cvInt_of, aminmax_max, aminmax_min, abin_add, abin_sub, abin_mul, abin_eql, abin_neq, abin_lss, abin_leq, abin_gtr, abin_geq, aunary_not, aextract]) ff (fun _ => m_skip ?_)
    simp only
    have G11 := G10.goes g11
    have J11 := J10.keep g11.fr
    have hv11 : RB S11 v b := (hb9.keep wf9 f10.2).keepOn fun y hy => (g11.fr y ((hon9 y hy).1.old f10)).1
    have hon11 : ∀ y, On v y → Fr S11 d D11 j rv y := fun y hy => ⟨(g11.fr y ((hon9 y hy).1.old f10)).2, (hon9 y hy).2⟩
    have hl11 : RB S11 v7 (lastB base rs b) := (hlast9.keep wf9 f10.2).keepOn fun y hy => by
      have k1 := SlF.on hlast hy
      have k2 := (RB.own hlast).on_lt wf7 hy
      have k3 : FrD S8 d D8 y := (g8.fr y (FrD.new h wf k1 k2)).2
      exact (g11.fr y ((k3.old f9).old f10)).1
    refine (fin11 (b := b) (v := v) (v7 := v7) G11 wf11 J11 hv11 hon11 hl11 hbl (by omega) (fun y hy => Nat.lt_of_lt_of_le (hX y hy) G11.le) (by simp [FT.get_set, FT.setL, faS_ptr, nilS_ptr, nilS_func, nilS_yield, pickS_bool, ldS_ptr, list_cells, list_ro, partS_none, lenSl_of, lenStr_of, cvInt_of, aminmax_max, aminmax_min, abin_add, abin_sub, abin_mul, abin_eql, abin_neq, abin_lss, abin_leq, abin_gtr, abin_geq, aunary_not, aextract]) (by simp [FT.get_set, FT.setL, faS_ptr, nilS_ptr, nilS_func, nilS_yield, pickS_bool, ldS_ptr, list_cells, list_ro, partS_none, lenSl_of, lenStr_of, cvInt_of, aminmax_max, aminmax_min, abin_add, abin_sub, abin_mul, abin_eql, abin_neq, abin_lss, abin_leq, abin_gtr, abin_geq, aunary_not, aextract]) (by simp [FT.get_set, FT.setL, faS_ptr, nilS_ptr, nilS_func, nilS_yield, pickS_bool, ldS_ptr, list_cells, list_ro, partS_none, lenSl_of, lenStr_of, cvInt_of, aminmax_max, aminmax_min, abin_add, abin_sub, abin_mul, abin_eql, abin_neq, abin_lss, abin_leq, abin_gtr, abin_geq, aunary_not, aextract]) (by simp [FT.get_set, FT.setL, faS_ptr, nilS_ptr, nilS_func, nilS_yield, pickS_bool, ldS_ptr, list_cells, list_ro, partS_none, lenSl_of, lenStr_of, cvInt_of, aminmax_max, aminmax_min, abin_add, abin_sub, abin_mul, abin_eql, abin_neq, abin_lss, abin_leq, abin_gtr, abin_geq, aunary_not, aextract])).mono ?_
    rintro x T' S12 ⟨rfl, t4, rv', G12, J12⟩
    simp [resM, t4, oneOrTuple]
    exact q1 S12 D11 rv' G12 J12
end Go.Proofs.Ytmfmbadfgnhonaa
namespace Go.Proofs.Ytmfmbadfgnhonaa
open Go Go.Ag
set_option linter.unusedVariables false
set_option maxRecDepth 100000

/-- the writes of a Snapshot -/
def snapW (n half : Nat) (b : List UInt8) : List (Nat × List UInt8) := piecesN (laid b) (placeN n half) ++ [(0, headB half (laid b).length)]

theorem snap12_dead {X : Nat → Prop} {S : MS} {d j : Nat} {D : DK} {rv v : Value} {half end' : Nat} {base : List UInt8} {rs : List (List UInt8)} (hj : JJ X S d D j rv half end' base rs true) {Q : Value → MS → Prop} (hq : Q (.int .i64 12) S) : CallM Try.prog O 12 [.pointer (some ⟨j, 0, none⟩), v] S Q := by
  obtain ⟨bv, tv, rl, h1, h2, h3, h4, h5, h6⟩ := hj.ex
  refine callM_body (fnIs is12 body12 res12) (O_none (by decide)) (by simp) ?_
  refine m_seq (m_reg ?_)
  rw [reg12_0]
  refine m_seq (m_block (m_seq (m_reg ?_)))
  rw [reg12_1]
  simp (decide := true) only [FT.get_set, FT.setL, faS_ptr, nilS_ptr, nilS_func, nilS_yield, pickS_bool, ldS_ptr, list_cells, list_ro, partS_none, lenSl_of, lenStr_of, cvInt_of, aminmax_max, aminmax_min, abin_add, abin_sub, abin_mul, abin_eql, abin_neq, abin_lss, abin_leq, abin_gtr, abin_geq, aunary_not, aextract, Option.some.injEq, Prod.mk.injEq, Value.bool.injEq, exists_eq_left', exists_and_left, and_assoc, decide_eq_true_eq, decide_eq_false_iff_not, if_true, if_false, Nat.zero_add, Nat.add_zero, Option.bind_some, true_and, and_true, forall_const, true_implies, Bool.not_eq_true, Bool.false_eq_true, false_implies, ite_self, Nat.mul_one, list_of h1, jl6]
  refine m_cond (t := true) (by simp [evalT, FT.get_set, FT.setL, faS_ptr, nilS_ptr, nilS_func, nilS_yield, pickS_bool, ldS_ptr, list_cells, list_ro, partS_none, lenSl_of, lenStr_of, cvInt_of, aminmax_max, aminmax_min, abin_add, abin_sub, abin_mul, abin_eql, abin_neq, abin_lss, abin_leq, abin_gtr, abin_geq, aunary_not, aextract]) (fun _ => ?_) tf
  refine m_seq (m_reg ?_)
  rw [reg12_2]
  refine m_ret ?_
  simp [resM, FT.get_set, FT.setL, faS_ptr, nilS_ptr, nilS_func, nilS_yield, pickS_bool, ldS_ptr, list_cells, list_ro, partS_none, lenSl_of, lenStr_of, cvInt_of, aminmax_max, aminmax_min, abin_add, abin_sub, abin_mul, abin_eql, abin_neq, abin_lss, abin_leq, abin_gtr, abin_geq, aunary_not, aextract, oneOrTuple]
  exact hq

theorem fin12 {X : Nat → Prop} {S S1 : MS} {d j : Nat} {D D1 : DK} {c0 : Nat → List UInt8} {W V : List (Nat × List UInt8)} {rv v v6 : Value} {half half' end' : Nat} {base b : List UInt8} {rs : List (List UInt8)} (hg : JGo S d D c0 W j rv S1 D1 rv V) (wf1 : S1.WF) (hj : JJ X S1 d D1 j rv half end' base rs false) (hb : RB S1 v b) (hon : ∀ y, On v y → Fr S1 d D1 j rv y) (hv6 : RB S1 v6 (laid b)) (hbl : b.length ≤ 300000) (hX : ∀ y, X y → y < S1.n)
    {T : FT} (t0 : T.get 0 = .pointer (some ⟨j, 0, none⟩)) (t1 : T.get 1 = v) (t5 : T.get 5 = .int .i64 half') (t6 : T.get 6 = v6) :
    MWp Try.prog O 85 (.seq (.region 12 (ro 12 12) false) (.seq (.region 13 (ro 12 13) false) (.seq (.region 14 (ro 12 14) false) .ret))) T S1 fun x T' S' => x = .ret ∧ T'.get 4 = .int .i64 0 ∧ JGo S d D c0 W j rv S' D1 (.slice none 0 0) V ∧ JJ X S' d D1 j (.slice none 0 0) half' (liveN b []) b [] false := by
  obtain ⟨bv, tv, rl, h1, h2, h3, h4, h5, h6⟩ := hj.ex
  have hjlt := wf1 _ _ h1
  have hlb : (laid b).length = b.length + 8 := laid_len b
  have hlv : liveN b [] = b.length + 8 := by unfold liveN; simp [wsum]
  have hall : allB b [] = laid b := by simp [allB]
  refine m_seq (m_reg ?_)
  rw [reg12_12]
  have w1 : ((laid b).length : Int).tdiv 256 = (((laid b).length / 256 : Nat) : Int) := by rw [Int.tdiv_eq_ediv_of_nonneg (by omega)]; rfl
  have w2 : IntKind.i64.wrap (((laid b).length / 256 : Nat) : Int) = (((laid b).length / 256 : Nat) : Int) := wrap_i64 (by omega) (by omega)
  have w3 : IntKind.i64.wrap ((((laid b).length / 256 : Nat) : Int) * 256) = (((laid b).length / 256 * 256 : Nat) : Int) := by rw [wrap_i64 (by omega) (by omega)]; omega
  have q1 : abin Try.prog .quo 3 (.tmp 66) (.const (.int .i64 256)) (.int .i64 ((laid b).length : Int)) (.int .i64 256) = some (.int .i64 (((laid b).length / 256 : Nat) : Int)) := by rw [abin_quo _ _ _ _ _ _ _ (by decide), w1, w2]
  obtain ⟨v8, a1, a2⟩ := hv6.sub (i := (laid b).length / 256 * 256) (j := (laid b).length) (low := some (.int .i64 (((laid b).length / 256 * 256 : Nat) : Int))) (high := none) (by omega) (Nat.le_refl _) (.inr rfl) (.inl ⟨rfl, rfl⟩)
  rw [List.take_of_length_le (by rw [List.length_drop]; omega)] at a2
  simp (decide := true) only [FT.get_set, FT.setL, faS_ptr, nilS_ptr, nilS_func, nilS_yield, pickS_bool, ldS_ptr, list_cells, list_ro, partS_none, lenSl_of, lenStr_of, cvInt_of, aminmax_max, aminmax_min, abin_add, abin_sub, abin_mul, abin_eql, abin_neq, abin_lss, abin_leq, abin_gtr, abin_geq, aunary_not, aextract, Option.some.injEq, Prod.mk.injEq, Value.bool.injEq, exists_eq_left', exists_and_left, and_assoc, decide_eq_true_eq, decide_eq_false_iff_not, if_true, if_false, Nat.zero_add, Nat.add_zero, Option.bind_some, true_and, and_true, forall_const, true_implies, Bool.not_eq_true, Bool.false_eq_true, false_implies, ite_self, Nat.mul_one, t0, t5, t6, hv6.len, q1, w3, a1]
  refine callM_wf_post (clone40 a2 (by rw [List.length_drop]; omega) fun v9 S2 f2 s9 wf2 => ?_)
  have hj2 : S2.m j = some (.cells (jouL d half end' bv rv tv false) 0) := by rw [f2.2 j hjlt]; exact h1
  obtain ⟨S3, u1, u2, u3, u4⟩ := st_one (off := 1) (v := .int .i64 half') hj2 (by rw [jlen]; decide) rfl rfl
  rw [js1] at u2
  refine ⟨S3, u1, ?_⟩
  obtain ⟨S4, x1, x2, x3, x4⟩ := st_one (off := 2) (v := .int .i64 (laid b).length) u2 (by rw [jlen]; decide) rfl rfl
  rw [js2] at x2
  refine ⟨S4, x1, ?_⟩
  obtain ⟨S5, y1, y2, y3, y4⟩ := st_one (off := 5) (v := v9) x2 (by rw [jlen]; decide) (SlF.one s9).1 (SlF.one s9).2
  rw [js5] at y2
  refine ⟨S5, y1, ?_⟩
  refine m_wf fun wf5 => m_seq (m_reg ?_)
  rw [reg12_13]
  have e25 : ∀ x, x ≠ j → S5.m x = S2.m x := fun x hx => by rw [y4 x hx, x4 x hx, u4 x hx]
  have n25 : S5.n = S2.n := by rw [y3, x3, u3]
  have e15 : ∀ x, x < S1.n → x ≠ j → S5.m x = S1.m x := fun x hx hne => by rw [e25 x hne, f2.2 x hx]
  have hb5 : RB S5 v b := hb.keepOn fun y hy => e15 y (hon y hy).1.1 (hon y hy).2.1
  simp (decide := true) only [FT.get_set, FT.setL, faS_ptr, nilS_ptr, nilS_func, nilS_yield, pickS_bool, ldS_ptr, list_cells, list_ro, partS_none, lenSl_of, lenStr_of, cvInt_of, aminmax_max, aminmax_min, abin_add, abin_sub, abin_mul, abin_eql, abin_neq, abin_lss, abin_leq, abin_gtr, abin_geq, aunary_not, aextract, Option.some.injEq, Prod.mk.injEq, Value.bool.injEq, exists_eq_left', exists_and_left, and_assoc, decide_eq_true_eq, decide_eq_false_iff_not, if_true, if_false, Nat.zero_add, Nat.add_zero, Option.bind_some, true_and, and_true, forall_const, true_implies, Bool.not_eq_true, Bool.false_eq_true, false_implies, ite_self, Nat.mul_one, t0, t1]
  have n12 := f2.1
  refine callM_wf_post (clone40 hb5 (by omega) fun v10 S6 f6 s10 wf6 => ?_)
  have n56 := f6.1
  have hj6 : S6.m j = _ := (f6.2 j (by omega)).trans y2
  obtain ⟨S7, z1, z2, z3, z4⟩ := st_one (off := 3) (v := v10) hj6 (by rw [jlen]; decide) (SlF.one s10).1 (SlF.one s10).2
  rw [js3] at z2
  refine ⟨S7, z1, ?_⟩
  obtain ⟨S8, p1, p2, p3, p4⟩ := st_one (off := 4) (v := .slice none 0 0) z2 (by rw [jlen]; decide) rfl rfl
  rw [js4] at p2
  refine ⟨S8, p1, ?_⟩
  refine m_seq (m_reg ?_)
  rw [reg12_14]
  refine m_ret ?_
  simp [FT.get_set, FT.setL, faS_ptr, nilS_ptr, nilS_func, nilS_yield, pickS_bool, ldS_ptr, list_cells, list_ro, partS_none, lenSl_of, lenStr_of, cvInt_of, aminmax_max, aminmax_min, abin_add, abin_sub, abin_mul, abin_eql, abin_neq, abin_lss, abin_leq, abin_gtr, abin_geq, aunary_not, aextract]
  have e68 : ∀ x, x ≠ j → S8.m x = S6.m x := fun x hx => by rw [p4 x hx, z4 x hx]
  have n68 : S8.n = S6.n := by rw [p3, z3]
  have g2 : JGo S d D c0 W j rv S2 D1 rv V := hg.old wf1 f2
  have fj2 : FrD S2 d D1 j := hj.fj.1.old f2
  have g5 : JGo S d D c0 W j rv S5 D1 rv V := g2.touch wf2 fj2 hj2 (jlen _ _ _ _ _ _ _) n25 e25
  have g6 : JGo S d D c0 W j rv S6 D1 rv V := g5.old wf5 f6
  have fj6 : FrD S6 d D1 j := ⟨by omega, fj2.2⟩
  have g8 : JGo S d D c0 W j rv S8 D1 rv V := g6.touch wf6 fj6 hj6 (jlen _ _ _ _ _ _ _) n68 e68
  have hav : ∀ y, Av (.slice none 0 0) y := fun y l c e => by cases e
  have hFnew : ∀ y, S1.n ≤ y → y < S8.n → FrD S8 d D1 y := fun y h1 h2 => FrD.new hg.is wf1 h1 h2
  refine ⟨⟨g8.is, g8.hw, g8.wn, g8.le, fun y hy => ⟨(g8.fr y hy).1, (g8.fr y hy).2.1, (g8.fr y hy).2.2.1, hav y⟩⟩, ⟨v10, v9, [], ?_, ?_, .non, ⟨rfl, fun i x r hx => by cases hx⟩, ?_, fun y hy => ?_⟩, ⟨⟨by omega, fj2.2⟩, hav j⟩, fun y hy => absurd (hav y) hy⟩
  · rw [p2, hlb, hlv]
  · refine (RB.own s10).keepOn fun y hy => ?_
    have := SlF.on s10 hy
    exact e68 y (by omega)
  · rw [hall, hlv, ← hlb]
    refine (RB.own s9).keepOn fun y hy => ?_
    have k1 := SlF.on s9 hy
    have k2 := (RB.own s9).on_lt wf2 hy
    rw [e68 y (by omega), f6.2 y (by omega), e25 y (by omega)]
  · rcases hy with hy | hy | ⟨x, hx, _⟩
    · have k1 := SlF.on s10 hy
      have k2 := (RB.own s10).on_lt wf6 hy
      exact ⟨hFnew y (by omega) (by omega), by omega, hav y, fun hx => by have := hX y hx; omega⟩
    · have k1 := SlF.on s9 hy
      have k2 := (RB.own s9).on_lt wf2 hy
      exact ⟨hFnew y (by omega) (by omega), by omega, hav y, fun hx => by have := hX y hx; omega⟩
    · cases hx
end Go.Proofs.Ytmfmbadfgnhonaa

