/-
  The walk through the journal's code: what its functions do to memory, part MoJ14. Nothing is asked.
-/
import Derived.Test.YtmfmbadfgnhonaaMoJ13
set_option linter.all false
namespace Go.Proofs.Ytmfmbadfgnhonaa
open Go Go.Ag
set_option linter.unusedVariables false
set_option maxRecDepth 100000

theorem ba_list (l : List UInt8) : (⟨l.toArray⟩ : ByteArray).toList = l := by simp [ByteArray.toList_eq]

/-- Bytes: do two slices hold the same? -/
theorem bytes24' {S : MS} {v w : Value} {a b : List UInt8} (h : RB S v a) (h' : RB S w b) {Q : Value → MS → Prop} (hq : Q (.bool (a == b)) S) : CallM Try.prog O 24 [v, w] S Q := by
  refine callM_body (fnIs is24 body24 res24) (O_none (by decide)) (by simp) ?_
  refine m_seq (m_reg ?_)
  rw [reg24_0]
  refine m_seq (m_reg ?_)
  rw [reg24_1]
  simp (decide := true) only [FT.get_set, FT.setL, faS_ptr, nilS_ptr, nilS_func, nilS_yield, pickS_bool, ldS_ptr, list_cells, list_ro, partS_none, lenSl_of, lenStr_of, cvInt_of, aminmax_max, aminmax_min, abin_add, abin_sub, abin_mul, abin_eql, abin_neq, abin_lss, abin_leq, abin_gtr, abin_geq, aunary_not, aextract, Option.some.injEq, Prod.mk.injEq, Value.bool.injEq, exists_eq_left', exists_and_left, and_assoc, decide_eq_true_eq, decide_eq_false_iff_not, if_true, if_false, Nat.zero_add, Nat.add_zero, Option.bind_some, true_and, and_true, forall_const, true_implies, Bool.not_eq_true, Bool.false_eq_true, false_implies, ite_self, Nat.mul_one, h.str, h'.str, abin_str_eql, ba_list]
  refine m_ret ?_
  simp [resM, FT.get_set, FT.setL, faS_ptr, nilS_ptr, nilS_func, nilS_yield, pickS_bool, ldS_ptr, list_cells, list_ro, partS_none, lenSl_of, lenStr_of, cvInt_of, aminmax_max, aminmax_min, abin_add, abin_sub, abin_mul, abin_eql, abin_neq, abin_lss, abin_leq, abin_gtr, abin_geq, aunary_not, aextract, oneOrTuple]
  exact hq

def RI13 (S : MS) (rs : List (List UInt8)) (rv : Value) (m : Nat) (T : FT) (S' : MS) : Prop := ∃ (i : Nat) (v : Value) (rl : List Sv), i + m = rs.length ∧ Old S S' ∧ SlF svF 1 S' S.n v rl ∧ RBs S' rl (rs.take i) ∧ (∀ x ∈ rl, ∀ y, On x.v y → Av v y) ∧ T.get 3 = v ∧ T.get 9 = rv ∧ T.get 10 = .int .i64 rs.length ∧ T.get 11 = .int .i64 i

/-- Records: copies of all -/
theorem records13 {S : MS} {j d B half end' : Nat} {base tail : List UInt8} {rs : List (List UInt8)} {dead : Bool} (h : IsJ S j d B half end' base rs tail dead) (hl : wsum rs ≤ 400000) {Q : Value → MS → Prop} (hq : ∀ v rl S', Old S S' → SlF svF 1 S' S.n v rl → RBs S' rl rs → Q v S') : CallM Try.prog O 13 [.pointer (some ⟨j, 0, none⟩)] S Q := by
  obtain ⟨bv, rv, tv, rl0, hj, hb, hr, hrs, ht, hav⟩ := h.ex
  refine callM_wf fun wf => ?_
  refine callM_body (fnIs is13 body13 res13) (O_none (by decide)) (by simp) ?_
  refine m_seq (m_reg ?_)
  rw [reg13_0]
  refine m_seq (m_reg ?_)
  rw [reg13_1]
  refine m_seq (m_seq (m_reg ?_))
  rw [reg13_2]
  have hlen := hr.lenSl
  rw [hrs.1] at hlen
  have hwl := wsum_len rs
  simp (decide := true) only [FT.get_set, FT.setL, faS_ptr, nilS_ptr, nilS_func, nilS_yield, pickS_bool, ldS_ptr, list_cells, list_ro, partS_none, lenSl_of, lenStr_of, cvInt_of, aminmax_max, aminmax_min, abin_add, abin_sub, abin_mul, abin_eql, abin_neq, abin_lss, abin_leq, abin_gtr, abin_geq, aunary_not, aextract, Option.some.injEq, Prod.mk.injEq, Value.bool.injEq, exists_eq_left', exists_and_left, and_assoc, decide_eq_true_eq, decide_eq_false_iff_not, if_true, if_false, Nat.zero_add, Nat.add_zero, Option.bind_some, true_and, and_true, forall_const, true_implies, Bool.not_eq_true, Bool.false_eq_true, false_implies, ite_self, Nat.mul_one, list_of hj, jl4, hlen]
  unfold blk13_0
  refine m_block (m_loop (fun m T S' => RI13 S rs rv m T S') rs.length ⟨0, .slice none 0 0, [], by omega, Old.refl S, .non, ⟨rfl, fun i x r hx => by cases hx⟩, (fun x hx => by cases hx), by simp [FT.get_set, FT.setL, faS_ptr, nilS_ptr, nilS_func, nilS_yield, pickS_bool, ldS_ptr, list_cells, list_ro, partS_none, lenSl_of, lenStr_of, cvInt_of, aminmax_max, aminmax_min, abin_add, abin_sub, abin_mul, abin_eql, abin_neq, abin_lss, abin_leq, abin_gtr, abin_geq, aunary_not, aextract], by simp [FT.get_set, FT.setL, faS_ptr, nilS_ptr, nilS_func, nilS_yield, pickS_bool, ldS_ptr, list_cells, list_ro, partS_none, lenSl_of, lenStr_of, cvInt_of, aminmax_max, aminmax_min, abin_add, abin_sub, abin_mul, abin_eql, abin_neq, abin_lss, abin_leq, abin_gtr, abin_geq, aunary_not, aextract], by simp [FT.get_set, FT.setL, faS_ptr, nilS_ptr, nilS_func, nilS_yield, pickS_bool, ldS_ptr, list_cells, list_ro, partS_none, lenSl_of, lenStr_of, cvInt_of, aminmax_max, aminmax_min, abin_add, abin_sub, abin_mul, abin_eql, abin_neq, abin_lss, abin_leq, abin_gtr, abin_geq, aunary_not, aextract], by simp [FT.get_set, FT.setL, faS_ptr, nilS_ptr, nilS_func, nilS_yield, pickS_bool, ldS_ptr, list_cells, list_ro, partS_none, lenSl_of, lenStr_of, cvInt_of, aminmax_max, aminmax_min, abin_add, abin_sub, abin_mul, abin_eql, abin_neq, abin_lss, abin_leq, abin_gtr, abin_geq, aunary_not, aextract]⟩ ?_)
  rintro m T S1 ⟨i, v, rl, hi, f1, hv, hrl, havs, t3, t9, t10, t11⟩
  refine m_wf fun wf1 => m_seq (m_reg ?_)
  rw [reg13_3]
  simp (decide := true) only [FT.get_set, FT.setL, faS_ptr, nilS_ptr, nilS_func, nilS_yield, pickS_bool, ldS_ptr, list_cells, list_ro, partS_none, lenSl_of, lenStr_of, cvInt_of, aminmax_max, aminmax_min, abin_add, abin_sub, abin_mul, abin_eql, abin_neq, abin_lss, abin_leq, abin_gtr, abin_geq, aunary_not, aextract, Option.some.injEq, Prod.mk.injEq, Value.bool.injEq, exists_eq_left', exists_and_left, and_assoc, decide_eq_true_eq, decide_eq_false_iff_not, if_true, if_false, Nat.zero_add, Nat.add_zero, Option.bind_some, true_and, and_true, forall_const, true_implies, Bool.not_eq_true, Bool.false_eq_true, false_implies, ite_self, Nat.mul_one, t10, t11]
  refine m_seq (m_cond (t := decide ((i : Int) < rs.length)) (by simp [evalT, FT.get_set, FT.setL, faS_ptr, nilS_ptr, nilS_func, nilS_yield, pickS_bool, ldS_ptr, list_cells, list_ro, partS_none, lenSl_of, lenStr_of, cvInt_of, aminmax_max, aminmax_min, abin_add, abin_sub, abin_mul, abin_eql, abin_neq, abin_lss, abin_leq, abin_gtr, abin_geq, aunary_not, aextract]) (fun hlt => m_skip ?_) (fun hlt => m_exit ?_))
  · have hlt : i < rs.length := by have := of_decide_eq_true hlt; omega
    simp only
    obtain ⟨r, hri⟩ : ∃ r, rs[i]? = some r := ⟨_, List.getElem?_eq_getElem hlt⟩
    obtain ⟨x, hxi⟩ : ∃ x, rl0[i]? = some x := ⟨_, List.getElem?_eq_getElem (by rw [hrs.1]; exact hlt)⟩
    have hrb := (hrs.2 i x r hxi hri).keep wf f1.2
    have hr1 : SlF svF 1 S1 B rv rl0 := hr.keep fun y k hk => f1.2 y (wf _ _ hk)
    obtain ⟨p, q1, q2⟩ := SlF.at1 hr1 hxi
    have htk : rs.take (i + 1) = rs.take i ++ [r] := by rw [List.take_add_one, hri]; rfl
    have hrlen : r.length ≤ 400000 := by
      have h1 := wsum_take_le rs (i + 1)
      rw [htk, wsum_append] at h1
      simp only [wsum] at h1
      omega
    unfold blk13_1
    refine m_seq (m_block (m_seq (m_reg ?_)))
    rw [reg13_4]
    simp (decide := true) only [FT.get_set, FT.setL, faS_ptr, nilS_ptr, nilS_func, nilS_yield, pickS_bool, ldS_ptr, list_cells, list_ro, partS_none, lenSl_of, lenStr_of, cvInt_of, aminmax_max, aminmax_min, abin_add, abin_sub, abin_mul, abin_eql, abin_neq, abin_lss, abin_leq, abin_gtr, abin_geq, aunary_not, aextract, Option.some.injEq, Prod.mk.injEq, Value.bool.injEq, exists_eq_left', exists_and_left, and_assoc, decide_eq_true_eq, decide_eq_false_iff_not, if_true, if_false, Nat.zero_add, Nat.add_zero, Option.bind_some, true_and, and_true, forall_const, true_implies, Bool.not_eq_true, Bool.false_eq_true, false_implies, ite_self, Nat.mul_one, t9, t11, q1, q2]
    refine m_reg ?_
    rw [reg13_5]
    simp (decide := true) only [FT.get_set, FT.setL, faS_ptr, nilS_ptr, nilS_func, nilS_yield, pickS_bool, ldS_ptr, list_cells, list_ro, partS_none, lenSl_of, lenStr_of, cvInt_of, aminmax_max, aminmax_min, abin_add, abin_sub, abin_mul, abin_eql, abin_neq, abin_lss, abin_leq, abin_gtr, abin_geq, aunary_not, aextract, Option.some.injEq, Prod.mk.injEq, Value.bool.injEq, exists_eq_left', exists_and_left, and_assoc, decide_eq_true_eq, decide_eq_false_iff_not, if_true, if_false, Nat.zero_add, Nat.add_zero, Option.bind_some, true_and, and_true, forall_const, true_implies, Bool.not_eq_true, Bool.false_eq_true, false_implies, ite_self, Nat.mul_one, t3]
    refine callM_wf_post (clone40 hrb hrlen fun v5 S5 f5 s5 wf5 => ?_)
    obtain ⟨s, rfl⟩ := (RB.own s5).sv
    have hbs : bsS S5 1 1 [.slice none 0 0] [(0, s.v)] = some (.slice (some ⟨S5.n, 0, none⟩) 1 1, S5.fresh [s.v] 1) := bsS_one S5 1 _ s.v rfl rfl
    have wf6 := wf_fresh' wf5 [s.v] 1
    have f6 := old_fresh S5 [s.v] 1
    have hnew : firstCellsM (S5.fresh [s.v] 1) 1 [s].length (.slice (some ⟨S5.n, 0, none⟩) 1 1) = some ([s].flatMap svF) :=
      (first_of (sz := 1) (n := 1) (len := 1) (cap := 1) (off := 0) (list_of (fresh_at S5 [s.v] 1)) (Nat.le_refl _) (by decide) (by simp)).trans rfl
    have hv6 : SlF svF 1 (S5.fresh [s.v] 1) S.n v rl := hv.keep fun y k hk => by
      have hy := wf1 _ _ hk
      rw [f6.2 y (by have := f5.1; omega), f5.2 y hy]
    have hrll : rl.length = i := by rw [hrl.1, List.length_take]; omega
    have n1 := f1.1
    have n5 := f5.1
    obtain ⟨v', S7, a1, a2, a3, a4, a5⟩ := hv6.app2 (bytes := 24) (z := [.slice none 0 0]) sv_len sv_one (by decide) (x := .slice (some ⟨S5.n, 0, none⟩) 1 1) (new := [s]) wf6 (by simp only [fresh_n]; omega) rfl hnew (by simp; omega) (by simp; omega)
    have hn6 : (S5.fresh [s.v] 1).n = S5.n + 1 := rfl
    rw [hn6] at a3 a4 a5
    simp (decide := true) only [FT.get_set, FT.setL, faS_ptr, nilS_ptr, nilS_func, nilS_yield, pickS_bool, ldS_ptr, list_cells, list_ro, partS_none, lenSl_of, lenStr_of, cvInt_of, aminmax_max, aminmax_min, abin_add, abin_sub, abin_mul, abin_eql, abin_neq, abin_lss, abin_leq, abin_gtr, abin_geq, aunary_not, aextract, Option.some.injEq, Prod.mk.injEq, Value.bool.injEq, exists_eq_left', exists_and_left, and_assoc, decide_eq_true_eq, decide_eq_false_iff_not, if_true, if_false, Nat.zero_add, Nat.add_zero, Option.bind_some, true_and, and_true, forall_const, true_implies, Bool.not_eq_true, Bool.false_eq_true, false_implies, ite_self, Nat.mul_one, hbs, a1]
    refine m_reg ?_
    rw [reg13_6]
    have hwi : IntKind.i64.wrap ((i : Int) + 1) = ((i + 1 : Nat) : Int) := by rw [wrap_i64 (by omega) (by omega)]; rfl
    simp (decide := true) only [FT.get_set, FT.setL, faS_ptr, nilS_ptr, nilS_func, nilS_yield, pickS_bool, ldS_ptr, list_cells, list_ro, partS_none, lenSl_of, lenStr_of, cvInt_of, aminmax_max, aminmax_min, abin_add, abin_sub, abin_mul, abin_eql, abin_neq, abin_lss, abin_leq, abin_gtr, abin_geq, aunary_not, aextract, Option.some.injEq, Prod.mk.injEq, Value.bool.injEq, exists_eq_left', exists_and_left, and_assoc, decide_eq_true_eq, decide_eq_false_iff_not, if_true, if_false, Nat.zero_add, Nat.add_zero, Option.bind_some, true_and, and_true, forall_const, true_implies, Bool.not_eq_true, Bool.false_eq_true, false_implies, ite_self, Nat.mul_one, t11, hwi]
    have avn : ∀ y, S1.n ≤ y → Av v y := fun y hy => SlF.avN hv wf1 hy
    have hkeep1 : ∀ y, y < S1.n → Av v y → S7.m y = S1.m y := fun y hy hav => by rw [a4 y (by omega) hav, f6.2 y (by omega), f5.2 y hy]
    have ons : ∀ y, On s.v y → S1.n ≤ y ∧ y < S5.n := fun y hy => ⟨SlF.on s5 hy, (RB.own s5).on_lt wf5 hy⟩
    refine ⟨m - 1, by omega, i + 1, v', rl ++ [s], by omega, ⟨by omega, fun y hy => by rw [hkeep1 y (by omega) (SlF.av hv hy), f1.2 y hy]⟩, a2, ⟨?_, fun k x' r' hx' hr' => ?_⟩, fun x' hx' y hy => ?_, by simp [FT.get_set, FT.setL, faS_ptr, nilS_ptr, nilS_func, nilS_yield, pickS_bool, ldS_ptr, list_cells, list_ro, partS_none, lenSl_of, lenStr_of, cvInt_of, aminmax_max, aminmax_min, abin_add, abin_sub, abin_mul, abin_eql, abin_neq, abin_lss, abin_leq, abin_gtr, abin_geq, aunary_not, aextract], by simp [FT.get_set, FT.setL, faS_ptr, nilS_ptr, nilS_func, nilS_yield, pickS_bool, ldS_ptr, list_cells, list_ro, partS_none, lenSl_of, lenStr_of, cvInt_of, aminmax_max, aminmax_min, abin_add, abin_sub, abin_mul, abin_eql, abin_neq, abin_lss, abin_leq, abin_gtr, abin_geq, aunary_not, aextract, t9], by simp [FT.get_set, FT.setL, faS_ptr, nilS_ptr, nilS_func, nilS_yield, pickS_bool, ldS_ptr, list_cells, list_ro, partS_none, lenSl_of, lenStr_of, cvInt_of, aminmax_max, aminmax_min, abin_add, abin_sub, abin_mul, abin_eql, abin_neq, abin_lss, abin_leq, abin_gtr, abin_geq, aunary_not, aextract, t10], by simp [FT.get_set, FT.setL, faS_ptr, nilS_ptr, nilS_func, nilS_yield, pickS_bool, ldS_ptr, list_cells, list_ro, partS_none, lenSl_of, lenStr_of, cvInt_of, aminmax_max, aminmax_min, abin_add, abin_sub, abin_mul, abin_eql, abin_neq, abin_lss, abin_leq, abin_gtr, abin_geq, aunary_not, aextract]⟩
    · rw [htk, List.length_append, List.length_append, hrl.1]; rfl
    · rw [htk] at hr'
      by_cases hk : k < rl.length
      · rw [List.getElem?_append_left hk] at hx'
        rw [List.getElem?_append_left (by rw [← hrl.1]; exact hk)] at hr'
        have hrb' := hrl.2 k x' r' hx' hr'
        exact hrb'.keepOn fun y hy => hkeep1 y (hrb'.on_lt wf1 hy) (havs x' (List.mem_of_getElem? hx') y hy)
      · rw [List.getElem?_append_right (by omega)] at hx'
        rw [List.getElem?_append_right (by rw [← hrl.1]; omega), ← hrl.1] at hr'
        obtain ⟨e1, _⟩ := List.getElem?_eq_some_iff.1 hx'
        have : k - rl.length = 0 := by simp at e1; omega
        rw [this] at hx' hr'
        cases hx'; cases hr'
        refine (RB.own s5).keepOn fun y hy => ?_
        obtain ⟨k1, k2⟩ := ons y hy
        rw [a4 y (by omega) (avn y k1), f6.2 y k2]
    · rcases List.mem_append.1 hx' with hx' | hx'
      · have h1 := havs x' hx' y hy
        obtain ⟨k, hk, hk2⟩ := List.getElem_of_mem hx'
        have hxk : rl[k]? = some x' := by rw [List.getElem?_eq_getElem hk, hk2]
        obtain ⟨r', hr'⟩ : ∃ r', (rs.take i)[k]? = some r' := ⟨_, List.getElem?_eq_getElem (by rw [← hrl.1]; exact hk)⟩
        have := (hrl.2 k x' r' hxk hr').on_lt wf1 hy
        exact a5 y (by omega) h1
      · have : x' = s := by simpa using hx'
        subst this
        obtain ⟨k1, k2⟩ := ons y hy
        exact a5 y (by omega) (avn y k1)
  · have : i = rs.length := by have := of_decide_eq_false hlt; omega
    subst this
    rw [List.take_length] at hrl
    simp only [if_true]
    refine m_seq (m_reg ?_)
    rw [reg13_7]
    refine m_ret ?_
    simp [resM, FT.get_set, FT.setL, faS_ptr, nilS_ptr, nilS_func, nilS_yield, pickS_bool, ldS_ptr, list_cells, list_ro, partS_none, lenSl_of, lenStr_of, cvInt_of, aminmax_max, aminmax_min, abin_add, abin_sub, abin_mul, abin_eql, abin_neq, abin_lss, abin_leq, abin_gtr, abin_geq, aunary_not, aextract, oneOrTuple, t3]
    exact hq v rl S1 f1 hv hrl
end Go.Proofs.Ytmfmbadfgnhonaa
namespace Go.Proofs.Ytmfmbadfgnhonaa
open Go Go.Ag
set_option linter.unusedVariables false
set_option maxRecDepth 100000

theorem take_eq_step {α : Type} (a b : List α) (i : Nat) (h : a.take i = b.take i) {x y : α} (ha : a[i]? = some x) (hb : b[i]? = some y) (e : x = y) : a.take (i + 1) = b.take (i + 1) := by
  rw [List.take_add_one, List.take_add_one, h, ha, hb, e]

def LI26 (S : MS) (v w : Value) (a b : List (List UInt8)) (m : Nat) (T : FT) (S' : MS) : Prop := ∃ i, i + m = a.length ∧ S' = S ∧ a.take i = b.take i ∧ T.get 0 = v ∧ T.get 1 = w ∧ T.get 5 = .int .i64 i

/-- Lists: are two slices of slices the same? -/
theorem lists26 {S : MS} {B B' : Nat} {v w : Value} {rl rl' : List Sv} {a b : List (List UInt8)} (hv : SlF svF 1 S B v rl) (ha : RBs S rl a) (hw : SlF svF 1 S B' w rl') (hb : RBs S rl' b) (hl : a.length ≤ 1000000) {Q : Value → MS → Prop} (hq : Q (.bool (a == b)) S) : CallM Try.prog O 26 [v, w] S Q := by
  refine callM_body (fnIs is26 body26 res26) (O_none (by decide)) (by simp) ?_
  refine m_seq (m_reg ?_)
  rw [reg26_0]
  refine m_seq (m_seq (m_reg ?_))
  rw [reg26_1]
  have h1 := hv.lenSl
  have h2 := hw.lenSl
  rw [ha.1] at h1
  rw [hb.1] at h2
  simp (decide := true) only [FT.get_set, FT.setL, faS_ptr, nilS_ptr, nilS_func, nilS_yield, pickS_bool, ldS_ptr, list_cells, list_ro, partS_none, lenSl_of, lenStr_of, cvInt_of, aminmax_max, aminmax_min, abin_add, abin_sub, abin_mul, abin_eql, abin_neq, abin_lss, abin_leq, abin_gtr, abin_geq, aunary_not, aextract, Option.some.injEq, Prod.mk.injEq, Value.bool.injEq, exists_eq_left', exists_and_left, and_assoc, decide_eq_true_eq, decide_eq_false_iff_not, if_true, if_false, Nat.zero_add, Nat.add_zero, Option.bind_some, true_and, and_true, forall_const, true_implies, Bool.not_eq_true, Bool.false_eq_true, false_implies, ite_self, Nat.mul_one, h1, h2]
  refine m_cond (t := (a.length : Int) != b.length) (by simp [evalT, FT.get_set, FT.setL, faS_ptr, nilS_ptr, nilS_func, nilS_yield, pickS_bool, ldS_ptr, list_cells, list_ro, partS_none, lenSl_of, lenStr_of, cvInt_of, aminmax_max, aminmax_min, abin_add, abin_sub, abin_mul, abin_eql, abin_neq, abin_lss, abin_leq, abin_gtr, abin_geq, aunary_not, aextract]) (fun hne => ?_) (fun heq => m_skip ?_)
  · refine m_seq (m_reg ?_)
    rw [reg26_2]
    refine m_ret ?_
    simp [resM, FT.get_set, FT.setL, faS_ptr, nilS_ptr, nilS_func, nilS_yield, pickS_bool, ldS_ptr, list_cells, list_ro, partS_none, lenSl_of, lenStr_of, cvInt_of, aminmax_max, aminmax_min, abin_add, abin_sub, abin_mul, abin_eql, abin_neq, abin_lss, abin_leq, abin_gtr, abin_geq, aunary_not, aextract, oneOrTuple]
    have : (a == b) = false := by
      rw [beq_eq_false_iff_ne]
      intro e; subst e; simp at hne
    rw [this] at hq; exact hq
  · have hlen : a.length = b.length := by simp at heq; omega
    simp only
    refine m_seq (m_seq (m_reg ?_))
    rw [reg26_3]
    unfold blk26_0
    refine m_block (m_loop (fun m T S' => LI26 S v w a b m T S') a.length ⟨0, by omega, rfl, rfl, by simp [FT.get_set, FT.setL, faS_ptr, nilS_ptr, nilS_func, nilS_yield, pickS_bool, ldS_ptr, list_cells, list_ro, partS_none, lenSl_of, lenStr_of, cvInt_of, aminmax_max, aminmax_min, abin_add, abin_sub, abin_mul, abin_eql, abin_neq, abin_lss, abin_leq, abin_gtr, abin_geq, aunary_not, aextract], by simp [FT.get_set, FT.setL, faS_ptr, nilS_ptr, nilS_func, nilS_yield, pickS_bool, ldS_ptr, list_cells, list_ro, partS_none, lenSl_of, lenStr_of, cvInt_of, aminmax_max, aminmax_min, abin_add, abin_sub, abin_mul, abin_eql, abin_neq, abin_lss, abin_leq, abin_gtr, abin_geq, aunary_not, aextract], by simp [FT.get_set, FT.setL, faS_ptr, nilS_ptr, nilS_func, nilS_yield, pickS_bool, ldS_ptr, list_cells, list_ro, partS_none, lenSl_of, lenStr_of, cvInt_of, aminmax_max, aminmax_min, abin_add, abin_sub, abin_mul, abin_eql, abin_neq, abin_lss, abin_leq, abin_gtr, abin_geq, aunary_not, aextract]⟩ ?_)
    rintro m T S1 ⟨i, hi, rfl, hpre, t0, t1, t5⟩
    refine m_seq (m_seq (m_reg ?_))
    rw [reg26_4]
    simp (decide := true) only [FT.get_set, FT.setL, faS_ptr, nilS_ptr, nilS_func, nilS_yield, pickS_bool, ldS_ptr, list_cells, list_ro, partS_none, lenSl_of, lenStr_of, cvInt_of, aminmax_max, aminmax_min, abin_add, abin_sub, abin_mul, abin_eql, abin_neq, abin_lss, abin_leq, abin_gtr, abin_geq, aunary_not, aextract, Option.some.injEq, Prod.mk.injEq, Value.bool.injEq, exists_eq_left', exists_and_left, and_assoc, decide_eq_true_eq, decide_eq_false_iff_not, if_true, if_false, Nat.zero_add, Nat.add_zero, Option.bind_some, true_and, and_true, forall_const, true_implies, Bool.not_eq_true, Bool.false_eq_true, false_implies, ite_self, Nat.mul_one, t0, t5, h1]
    refine m_cond (t := decide ((i : Int) < a.length)) (by simp [evalT, FT.get_set, FT.setL, faS_ptr, nilS_ptr, nilS_func, nilS_yield, pickS_bool, ldS_ptr, list_cells, list_ro, partS_none, lenSl_of, lenStr_of, cvInt_of, aminmax_max, aminmax_min, abin_add, abin_sub, abin_mul, abin_eql, abin_neq, abin_lss, abin_leq, abin_gtr, abin_geq, aunary_not, aextract]) (fun hlt => m_skip ?_) (fun hlt => m_exit ?_)
    · have hlt : i < a.length := by have := of_decide_eq_true hlt; omega
      simp only
      obtain ⟨r, hri⟩ : ∃ r, a[i]? = some r := ⟨_, List.getElem?_eq_getElem hlt⟩
      obtain ⟨r', hri'⟩ : ∃ r, b[i]? = some r := ⟨_, List.getElem?_eq_getElem (by omega)⟩
      obtain ⟨x, hxi⟩ : ∃ x, rl[i]? = some x := ⟨_, List.getElem?_eq_getElem (by rw [ha.1]; exact hlt)⟩
      obtain ⟨x', hxi'⟩ : ∃ x, rl'[i]? = some x := ⟨_, List.getElem?_eq_getElem (by rw [hb.1]; omega)⟩
      obtain ⟨p, q1, q2⟩ := SlF.at1 hv hxi
      obtain ⟨p', q1', q2'⟩ := SlF.at1 hw hxi'
      have hs := (ha.2 i x r hxi hri).str
      have hs' := (hb.2 i x' r' hxi' hri').str
      unfold blk26_1
      refine m_seq (m_block (m_seq (m_draw ?_)))
      rw [reg26_6]
      simp (decide := true) only [FT.get_set, FT.setL, faS_ptr, nilS_ptr, nilS_func, nilS_yield, pickS_bool, ldS_ptr, list_cells, list_ro, partS_none, lenSl_of, lenStr_of, cvInt_of, aminmax_max, aminmax_min, abin_add, abin_sub, abin_mul, abin_eql, abin_neq, abin_lss, abin_leq, abin_gtr, abin_geq, aunary_not, aextract, Option.some.injEq, Prod.mk.injEq, Value.bool.injEq, exists_eq_left', exists_and_left, and_assoc, decide_eq_true_eq, decide_eq_false_iff_not, if_true, if_false, Nat.zero_add, Nat.add_zero, Option.bind_some, true_and, and_true, forall_const, true_implies, Bool.not_eq_true, Bool.false_eq_true, false_implies, ite_self, Nat.mul_one, t0, t1, t5, q1, q2, q1', q2', hs, hs', abin_str_neq, ba_list]
      refine m_cond (t := !(r == r')) (by simp [evalT, FT.get_set, FT.setL, faS_ptr, nilS_ptr, nilS_func, nilS_yield, pickS_bool, ldS_ptr, list_cells, list_ro, partS_none, lenSl_of, lenStr_of, cvInt_of, aminmax_max, aminmax_min, abin_add, abin_sub, abin_mul, abin_eql, abin_neq, abin_lss, abin_leq, abin_gtr, abin_geq, aunary_not, aextract]) (fun hne => ?_) (fun heq2 => m_skip ?_)
      · refine m_seq (m_reg ?_)
        rw [reg26_7]
        refine m_ret ?_
        simp [resM, FT.get_set, FT.setL, faS_ptr, nilS_ptr, nilS_func, nilS_yield, pickS_bool, ldS_ptr, list_cells, list_ro, partS_none, lenSl_of, lenStr_of, cvInt_of, aminmax_max, aminmax_min, abin_add, abin_sub, abin_mul, abin_eql, abin_neq, abin_lss, abin_leq, abin_gtr, abin_geq, aunary_not, aextract, oneOrTuple]
        have : (a == b) = false := by
          rw [beq_eq_false_iff_ne]
          intro e; subst e
          rw [hri] at hri'; cases hri'; simp at hne
        rw [this] at hq; exact hq
      · simp only
        have e : r = r' := by simpa using heq2
        refine m_reg ?_
        rw [reg26_5]
        have hwi : IntKind.i64.wrap ((i : Int) + 1) = ((i + 1 : Nat) : Int) := by rw [wrap_i64 (by omega) (by omega)]; rfl
        simp (decide := true) only [FT.get_set, FT.setL, faS_ptr, nilS_ptr, nilS_func, nilS_yield, pickS_bool, ldS_ptr, list_cells, list_ro, partS_none, lenSl_of, lenStr_of, cvInt_of, aminmax_max, aminmax_min, abin_add, abin_sub, abin_mul, abin_eql, abin_neq, abin_lss, abin_leq, abin_gtr, abin_geq, aunary_not, aextract, Option.some.injEq, Prod.mk.injEq, Value.bool.injEq, exists_eq_left', exists_and_left, and_assoc, decide_eq_true_eq, decide_eq_false_iff_not, if_true, if_false, Nat.zero_add, Nat.add_zero, Option.bind_some, true_and, and_true, forall_const, true_implies, Bool.not_eq_true, Bool.false_eq_true, false_implies, ite_self, Nat.mul_one, t5, hwi]
        exact ⟨m - 1, by omega, i + 1, by omega, rfl, take_eq_step a b i hpre hri hri' e, by simp [FT.get_set, FT.setL, faS_ptr, nilS_ptr, nilS_func, nilS_yield, pickS_bool, ldS_ptr, list_cells, list_ro, partS_none, lenSl_of, lenStr_of, cvInt_of, aminmax_max, aminmax_min, abin_add, abin_sub, abin_mul, abin_eql, abin_neq, abin_lss, abin_leq, abin_gtr, abin_geq, aunary_not, aextract, t0], by simp [FT.get_set, FT.setL, faS_ptr, nilS_ptr, nilS_func, nilS_yield, pickS_bool, ldS_ptr, list_cells, list_ro, partS_none, lenSl_of, lenStr_of, cvInt_of, aminmax_max, aminmax_min, abin_add, abin_sub, abin_mul, abin_eql, abin_neq, abin_lss, abin_leq, abin_gtr, abin_geq, aunary_not, aextract, t1], by simp [FT.get_set, FT.setL, faS_ptr, nilS_ptr, nilS_func, nilS_yield, pickS_bool, ldS_ptr, list_cells, list_ro, partS_none, lenSl_of, lenStr_of, cvInt_of, aminmax_max, aminmax_min, abin_add, abin_sub, abin_mul, abin_eql, abin_neq, abin_lss, abin_leq, abin_gtr, abin_geq, aunary_not, aextract]⟩
    · have : i = a.length := by have := of_decide_eq_false hlt; omega
      subst this
      have e : a = b := by
        rw [List.take_length] at hpre
        rw [hpre, hlen, List.take_length]
      simp only [if_true]
      refine m_seq (m_reg ?_)
      rw [reg26_8]
      refine m_ret ?_
      simp [resM, FT.get_set, FT.setL, faS_ptr, nilS_ptr, nilS_func, nilS_yield, pickS_bool, ldS_ptr, list_cells, list_ro, partS_none, lenSl_of, lenStr_of, cvInt_of, aminmax_max, aminmax_min, abin_add, abin_sub, abin_mul, abin_eql, abin_neq, abin_lss, abin_leq, abin_gtr, abin_geq, aunary_not, aextract, oneOrTuple]
      rw [e, beq_self_eq_true] at hq; exact hq

end Go.Proofs.Ytmfmbadfgnhonaa

