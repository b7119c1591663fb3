/-
  The walk through the journal's code: what its functions do to memory, part PyP6. Nothing is asked.
-/
import Derived.Test.YtmfmbadfgnhonaaPyP5
set_option linter.all false
namespace Go.Proofs.Ytmfmbadfgnhonaa
open Go Go.Ag
set_option linter.unusedVariables false
set_option maxRecDepth 100000

/-- Spoil, of bytes of one's own -/
theorem spoilP {S : MS} {v : Value} {bs : List UInt8} (h : SlF bF 1 S 0 v bs) (hl : bs.length ≤ 1048576) {Q : Value → MS → Prop} (hq : ∀ w S', S'.n = S.n → (∀ x, ¬ On v x → S'.m x = S.m x) → (∀ x, On v x → ¬ Arr S x ∧ ∀ k, S'.m x = some k → x < S.n) → Q w S') : CallM Try.prog O 19 [v] S Q := by
  refine callM_wf fun wf => callM_wf_post ?_
  cases h with
  | non =>
    refine callM_body (fnIs is19 body19 res19) (O_none (by decide)) (by simp) ?_
    refine m_seq (m_reg ?_)
    rw [reg19_0]
    simp only
    refine m_block (m_loop (fun k T S' => k = 0 ∧ S' = S ∧ T.get 0 = .slice none 0 0 ∧ T.get 2 = .int .i64 0) 0 ⟨rfl, rfl, by simp [FT.get_set, FT.setL, faS_ptr, nilS_ptr, nilS_func, nilS_yield, pickS_bool, ldS_ptr, list_cells, list_ro, partS_none, lenSl_of, lenStr_of, cvInt_of, aminmax_max, aminmax_min, abin_add, abin_sub, abin_mul, abin_eql, abin_neq, abin_lss, abin_leq, abin_gtr, abin_geq, aunary_not, aextract], by simp [FT.get_set, FT.setL, faS_ptr, nilS_ptr, nilS_func, nilS_yield, pickS_bool, ldS_ptr, list_cells, list_ro, partS_none, lenSl_of, lenStr_of, cvInt_of, aminmax_max, aminmax_min, abin_add, abin_sub, abin_mul, abin_eql, abin_neq, abin_lss, abin_leq, abin_gtr, abin_geq, aunary_not, aextract]⟩ ?_)
    rintro k T S1 ⟨rfl, rfl, t0, t2⟩
    refine m_seq (m_seq (m_reg ?_))
    rw [reg19_1]
    have e0 : decide ((0 : Int) < ((0 : Nat) : Int)) = false := by decide
    simp (decide := true) only [FT.get_set, FT.setL, faS_ptr, nilS_ptr, nilS_func, nilS_yield, pickS_bool, ldS_ptr, list_cells, list_ro, partS_none, lenSl_of, lenStr_of, cvInt_of, aminmax_max, aminmax_min, abin_add, abin_sub, abin_mul, abin_eql, abin_neq, abin_lss, abin_leq, abin_gtr, abin_geq, aunary_not, aextract, Option.some.injEq, Prod.mk.injEq, Value.bool.injEq, exists_eq_left', exists_and_left, and_assoc, decide_eq_true_eq, decide_eq_false_iff_not, if_true, if_false, Nat.zero_add, Nat.add_zero, Option.bind_some, true_and, and_true, forall_const, true_implies, Bool.not_eq_true, Bool.false_eq_true, false_implies, ite_self, Nat.mul_one, t0, t2, e0]
    refine m_cond (t := false) (by simp [evalT, FT.get_set, FT.setL, faS_ptr, nilS_ptr, nilS_func, nilS_yield, pickS_bool, ldS_ptr, list_cells, list_ro, partS_none, lenSl_of, lenStr_of, cvInt_of, aminmax_max, aminmax_min, abin_add, abin_sub, abin_mul, abin_eql, abin_neq, abin_lss, abin_leq, abin_gtr, abin_geq, aunary_not, aextract]) ff (fun h => ?_)
    refine m_exit ?_
    simp [resM]
    exact fun wf' => hq _ _ rfl (fun x _ => rfl) fun x ⟨o, l, c, e⟩ => by cases e
  | own hb hB hc hj =>
    rename_i b cap junk
    have hcl : ((bs ++ junk).flatMap bF).length = bs.length + junk.length := by rw [fm_len bF_len, List.length_append]; omega
    refine (spoil19 (n := bs.length) hb (by omega) (by omega)).mono fun w S' ⟨h1, h2⟩ wf' => hq w S' h1 (fun x hx => h2 x fun e => hx (by subst e; exact ⟨_, _, _, rfl⟩)) fun x ⟨o, l, c, e⟩ => ?_
    cases e
    refine ⟨fun ⟨l, h3, _⟩ => ?_, fun k hk => wf _ _ hb⟩
    rw [hb] at h3; cases h3

/-- bytes of one's own are spoilt: the journal has its own -/
theorem PX.spoil {X : Nat → Prop} {S S' : MS} {d j : Nat} {D : DK} {c0 : Nat → List UInt8} {W : List (Nat × List UInt8)} {rv : Value} {half : Nat} {base : List UInt8} {rs : List (List UInt8)} {dead : Bool} (h : PX X S d D c0 W j rv half base rs dead) (hX : ∀ y, X y → Fr S d D j rv y ∧ ¬ Arr S y) (hn : S'.n = S.n) (hm : ∀ y, ¬ X y → S'.m y = S.m y) : PX (fun _ => False) S' d D c0 W j rv half base rs dead := by
  obtain ⟨bv, tv, rl, h1, h2, h3, h4, h5, h6⟩ := h.jj.ex
  have nd : ∀ y, ¬ FrD S d D y → ¬ X y := fun y hy hx => hy (hX y hx).1.1
  have fd : ∀ y, FrD S d D y → FrD S' d D y := fun y hy => ⟨by rw [hn]; exact hy.1, hy.2⟩
  refine ⟨h.is.keep fun x hx => hm x (nd x fun e => ?_), h.hw.keep fun x hx => hm x fun e => (hX x e).2 hx, ⟨⟨bv, tv, rl, ?_, ?_, ?_, ⟨h4.1, fun i x r hx hr => ?_⟩, ?_, fun y hy => ?_⟩, ⟨fd _ h.jj.fj.1, h.jj.fj.2⟩, fun y hy => fd y (h.jj.frv y hy)⟩, h.says, h.n, h.live⟩
  · rcases hx with rfl | rfl | rfl | ⟨hw, rfl⟩
    · exact e.2.1 rfl
    · exact e.2.2.2.2 rfl
    · exact e.2.2.1 rfl
    · exact e.2.2.2.1 hw rfl
  · rw [hm j fun e => (hX j e).1.2.1 rfl]; exact h1
  · exact h2.keepOn fun y hy => hm y (h6 y (.inl hy)).2.2.2
  · exact h3.keep1 fun y k hy _ => hm y fun e => hy (hX y e).1.2.2
  · exact (h4.2 i x r hx hr).keepOn fun y hy => hm y (h6 y (.inr (.inr ⟨x, List.mem_of_getElem? hx, hy⟩))).2.2.2
  · exact h5.keepOn fun y hy => hm y (h6 y (.inr (.inl hy))).2.2.2
  · obtain ⟨g1, g2, g3, g4⟩ := h6 y hy
    exact ⟨fd y g1, g2, g3, fun e => e⟩
theorem LW.spoil {B0 : Nat} {X : Nat → Prop} {S S' : MS} {d j : Nat} {D : DK} {rv bv lv : Value} {base : List UInt8} {rs : List (List UInt8)} (h : LW B0 S d D j rv bv lv base rs) (hX : ∀ y, X y → B0 ≤ y ∧ Av lv y) (hn : S'.n = S.n) (hm : ∀ y, ¬ X y → S'.m y = S.m y) : LW B0 S' d D j rv bv lv base rs := by
  obtain ⟨rl, h1, h2, h3, h4⟩ := h.ex
  have fd : ∀ y, Fr S d D j rv y → Fr S' d D j rv y := fun y hy => ⟨⟨by rw [hn]; exact hy.1.1, hy.1.2⟩, hy.2⟩
  refine ⟨h.b.keepOn fun y hy => hm y fun e => ?_, fun y hy => ⟨fd y (h.bo y hy).1, (h.bo y hy).2⟩, rl, h1.keep1 fun y k hy _ => hm y fun e => hy (hX y e).2, ⟨h2.1, fun i x r hx hr => (h2.2 i x r hx hr).keepOn fun y hy => hm y fun e => ?_⟩, fun y hy => fd y (h3 y hy), fun x hx y hy => ⟨fd y (h4 x hx y hy).1, (h4 x hx y hy).2⟩⟩
  · have := (h.bo y hy).2; have := (hX y e).1; omega
  · have := (h4 x (List.mem_of_getElem? hx) y hy).2; have := (hX y e).1; omega

/-- ahead of each step -/
def PO (S0 : MS) (av : Value) (N d wb i : Nat) (T : FT) (S : MS) : Prop := ∃ D c0 W j rv half bv lv base rs, PX (fun _ => False) S d D c0 W j rv half base rs false ∧ Runs D ∧ LW S0.n S d D j rv bv lv base rs ∧ (∀ y, y < S0.n → Fr S d D j rv y ∧ S.m y = S0.m y) ∧ D.made.length = N ∧ D.ws.length ≤ wb ∧ rs.length ≤ i ∧
  T.get 2 = av ∧ T.get 7 = .pointer (some ⟨d, 0, none⟩) ∧ T.get 9 = .pointer (some ⟨j, 0, none⟩) ∧ T.get 10 = .int .i64 ((32 * N : Nat) : Int) ∧ T.get 11 = bv ∧ T.get 12 = lv

noncomputable abbrev tail4c : Code := .seq (.region 61 (ro 4 61) false) (.seq (.region 62 (ro 4 62) false) (.cond (.tmp 219) (.seq (.region 63 (ro 4 63) false) .ret) .skip))
noncomputable abbrev tail4b : Code := .seq (.seq (.region 52 (ro 4 52) false) (.cond (.tmp 177) (.seq (.region 53 (ro 4 53) false) .ret) .skip)) (.seq (.seq (.region 54 (ro 4 54) false) (.cond (.tmp 183) (.seq (.region 55 (ro 4 55) false) (.seq (.region 56 (ro 4 56) false) (.seq (.seq (.region 57 (ro 4 57) false) (.cond (.tmp 202) (.seq (.region 58 (ro 4 58) false) .ret) .skip)) (.seq (.region 59 (ro 4 59) false) (.cond (.tmp 210) (.region 60 (ro 4 60) false) .skip))))) .skip)) tail4c)
noncomputable abbrev tail4a : Code := .seq (.region 46 (ro 4 46) false) (.seq (.region 47 (ro 4 47) false) (.seq (.seq (.region 48 (ro 4 48) false) (.cond (.tmp 162) (.seq (.region 49 (ro 4 49) false) .ret) .skip)) (.seq (.seq (.region 50 (ro 4 50) false) (.cond (.tmp 164) (.region 51 (ro 4 51) false) .skip)) tail4b)))

section
variable {S0 S : MS} {N wb d q j i : Nat} {D : DK} {c0 : Nat → List UInt8} {W : List (Nat × List UInt8)} {rv bv lv x v15 av : Value} {half : Nat} {base : List UInt8} {rs : List (List UInt8)} {s : Stp} {dead : Bool} {T : FT}

/-- the last look: alive, and alike -/
theorem tailC (hp : PX (fun _ => False) S d D c0 W j rv half base rs false) (hL : LW S0.n S d D j rv bv lv base rs) (hbf : ∀ y, y < S0.n → Fr S d D j rv y ∧ S.m y = S0.m y) (hN : D.made.length = N) (hws : D.ws.length ≤ wb) (hrs : rs.length ≤ i) (hN2 : N ≤ 200)
    (t2 : T.get 2 = av) (t7 : T.get 7 = .pointer (some ⟨d, 0, none⟩)) (t9 : T.get 9 = .pointer (some ⟨j, 0, none⟩)) (t10 : T.get 10 = .int .i64 ((32 * N : Nat) : Int)) (t11 : T.get 11 = bv) (t12 : T.get 12 = lv) :
    MWp Try.prog O 237 tail4c T S fun y T' S' => y = .normal ∧ PO S0 av N d wb i T' S' ∧ T'.get 13 = T.get 13 := by
  refine m_wf fun wf => m_seq (m_reg ?_)
  rw [reg4_61]
  simp (decide := true) only [FT.get_set, FT.setL, faS_ptr, nilS_ptr, nilS_func, nilS_yield, pickS_bool, ldS_ptr, list_cells, list_ro, partS_none, lenSl_of, lenStr_of, cvInt_of, aminmax_max, aminmax_min, abin_add, abin_sub, abin_mul, abin_eql, abin_neq, abin_lss, abin_leq, abin_gtr, abin_geq, aunary_not, aextract, Option.some.injEq, Prod.mk.injEq, Value.bool.injEq, exists_eq_left', exists_and_left, and_assoc, decide_eq_true_eq, decide_eq_false_iff_not, if_true, if_false, Nat.zero_add, Nat.add_zero, Option.bind_some, true_and, and_true, forall_const, true_implies, Bool.not_eq_true, Bool.false_eq_true, false_implies, ite_self, Nat.mul_one, t7]
  refine callM_wf_post (restartW hp.is hp.hw fun _ S1 hI1 hW1 n1 _ k1 wf1 => ?_)
  have hp1 := hp.flags (D' := restartD D) rfl hI1 hW1 k1
  have kf : ∀ y, Fr S d D j rv y → S1.m y = S.m y ∧ Fr S1 d (restartD D) j rv y := Fr.flags k1
  have hL1 := hL.keep kf
  obtain ⟨rl, l1, l2, _, _⟩ := hL1.ex
  refine m_seq (m_reg ?_)
  rw [reg4_62]
  simp (decide := true) only [FT.get_set, FT.setL, faS_ptr, nilS_ptr, nilS_func, nilS_yield, pickS_bool, ldS_ptr, list_cells, list_ro, partS_none, lenSl_of, lenStr_of, cvInt_of, aminmax_max, aminmax_min, abin_add, abin_sub, abin_mul, abin_eql, abin_neq, abin_lss, abin_leq, abin_gtr, abin_geq, aunary_not, aextract, Option.some.injEq, Prod.mk.injEq, Value.bool.injEq, exists_eq_left', exists_and_left, and_assoc, decide_eq_true_eq, decide_eq_false_iff_not, if_true, if_false, Nat.zero_add, Nat.add_zero, Option.bind_some, true_and, and_true, forall_const, true_implies, Bool.not_eq_true, Bool.false_eq_true, false_implies, ite_self, Nat.mul_one, t9, t11, t12]
  refine alike20 hp1.jj.isJ (by have := hp1.live; have := hp1.n; omega) hL1.b l1 l2 fun S2 f2 => ?_
  have ed : decide (base = base ∧ rs = rs) = true := by simp
  simp (decide := true) only [FT.get_set, FT.setL, faS_ptr, nilS_ptr, nilS_func, nilS_yield, pickS_bool, ldS_ptr, list_cells, list_ro, partS_none, lenSl_of, lenStr_of, cvInt_of, aminmax_max, aminmax_min, abin_add, abin_sub, abin_mul, abin_eql, abin_neq, abin_lss, abin_leq, abin_gtr, abin_geq, aunary_not, aextract, Option.some.injEq, Prod.mk.injEq, Value.bool.injEq, exists_eq_left', exists_and_left, and_assoc, decide_eq_true_eq, decide_eq_false_iff_not, if_true, if_false, Nat.zero_add, Nat.add_zero, Option.bind_some, true_and, and_true, forall_const, true_implies, Bool.not_eq_true, Bool.false_eq_true, false_implies, ite_self, Nat.mul_one, ed]
  refine m_cond (t := false) (by simp [evalT, FT.get_set, FT.setL, faS_ptr, nilS_ptr, nilS_func, nilS_yield, pickS_bool, ldS_ptr, list_cells, list_ro, partS_none, lenSl_of, lenStr_of, cvInt_of, aminmax_max, aminmax_min, abin_add, abin_sub, abin_mul, abin_eql, abin_neq, abin_lss, abin_leq, abin_gtr, abin_geq, aunary_not, aextract, ed]) ff (fun _ => m_skip ?_)
  refine ⟨rfl, ⟨restartD D, c0, W, j, rv, half, bv, lv, base, rs, hp1.old wf1 f2, ⟨rfl, rfl⟩, hL1.old f2, fun y hy => ?_, hN, hws, hrs, ?_, ?_, ?_, ?_, ?_, ?_⟩, ?_⟩
  · obtain ⟨g1, g2⟩ := kf y (hbf y hy).1
    exact ⟨g2.old f2, (f2.2 y g2.1.1).trans (g1.trans (hbf y hy).2)⟩
  all_goals simp [FT.get_set, t2, t7, t9, t10, t11, t12]
end
end Go.Proofs.Ytmfmbadfgnhonaa

