/-
  The walk through the journal's code: what its functions do to memory, part PyP3. Nothing is asked.
-/
import Derived.Test.YtmfmbadfgnhonaaPyP2
set_option linter.all false
namespace Go.Proofs.Ytmfmbadfgnhonaa
open Go Go.Ag
set_option linter.unusedVariables false
set_option maxRecDepth 100000

def Kp (ks : List Nat) (T T' : FT) : Prop := ∀ k ∈ ks, T'.get k = T.get k

/-- what stays beside: the arguments, the step in its block, the bytes that were lent -/
structure PR (S0 : MS) (q : Nat) (s : Stp) (x v15 : Value) (S : MS) (d : Nat) (D : DK) (j : Nat) (rv : Value) : Prop where
  bf : ∀ y, y < S0.n → Fr S d D j rv y ∧ S.m y = S0.m y
  bq : S.m q = some (.cells (stpL s x) 0)
  fq : Fr S d D j rv q
  sl : SlF bF 1 S 0 v15 s.bytes
  on : ∀ y, On v15 y → Fr S d D j rv y
theorem on_of {v : Value} {y : Nat} (h : ¬ Av v y) : On v y := by
  have : ∃ l c, v = .slice (some ⟨y, 0, none⟩) l c := Classical.byContradiction fun hn => h fun l c e => hn ⟨l, c, e⟩
  obtain ⟨l, c, e⟩ := this
  exact ⟨0, l, c, e⟩
theorem PR.rb {S0 S : MS} {q d j : Nat} {D : DK} {s : Stp} {x v15 rv : Value} (h : PR S0 q s x v15 S d D j rv) : RB S v15 s.bytes := RB.own h.sl
theorem PR.keep {S0 S S' : MS} {q d j j' : Nat} {D D' : DK} {s : Stp} {x v15 rv rv' : Value} (h : PR S0 q s x v15 S d D j rv) (hk : ∀ y, Fr S d D j rv y → S'.m y = S.m y ∧ Fr S' d D' j' rv' y) : PR S0 q s x v15 S' d D' j' rv' :=
  ⟨fun y hy => ⟨(hk y (h.bf y hy).1).2, (hk y (h.bf y hy).1).1.trans (h.bf y hy).2⟩, (hk q h.fq).1.trans h.bq, (hk q h.fq).2, h.sl.keep1 fun y k hy _ => (hk y (h.on y (on_of hy))).1, fun y hy => (hk y (h.on y hy)).2⟩
theorem PR.old {S0 S S' : MS} {q d j : Nat} {D : DK} {s : Stp} {x v15 rv : Value} (h : PR S0 q s x v15 S d D j rv) (f : Old S S') : PR S0 q s x v15 S' d D j rv := h.keep fun y hy => ⟨f.2 y hy.1.1, hy.old f⟩
theorem PR.x {S0 S : MS} {q d j : Nat} {D : DK} {s : Stp} {x v15 rv : Value} (h : PR S0 q s x v15 S d D j rv) (hx : RB S0 x s.bytes) (hxl : ∀ y, On x y → y < S0.n) : RB S x s.bytes := hx.keepOn fun y hy => (h.bf y (hxl y hy)).2

theorem sl0 (s : Stp) (x : Value) : (stpL s x)[0]? = some (.int .i64 s.what) := rfl
theorem sl1 (s : Stp) (x : Value) : (stpL s x)[1]? = some (.int .i64 s.cut) := rfl
theorem sl2 (s : Stp) (x : Value) : (stpL s x)[2]? = some x := rfl

/-- what an Append is to tell -/
def wantA (N : Nat) (base : List UInt8) (rs : List (List UInt8)) (b : List UInt8) : Int := if 65536 < b.length then 193 else if 32 * N < liveN base (rs ++ [b]) then 192 else 0

theorem appTail {X : Nat → Prop} {S0 S : MS} {N d q j : Nat} {D : DK} {c0 : Nat → List UInt8} {W : List (Nat × List UInt8)} {rv bv lv x v15 : Value} {half : Nat} {base jb : List UInt8} {rs jrs : List (List UInt8)} {dead : Bool} {s : Stp} {T : FT} (hp : PX X S d D c0 W j rv half jb jrs dead) (hr : PR S0 q s x v15 S d D j rv) (hL : LW S0.n S d D j rv bv lv base rs) (hx : RB S0 x s.bytes) (hxl : ∀ y, On x y → y < S0.n) (hN : N ≤ 200) (hlive : liveN base rs ≤ 32 * N) (hrs : rs.length ≤ 100)
    (t10 : T.get 10 = .int .i64 ((32 * N : Nat) : Int)) (t11 : T.get 11 = bv) (t12 : T.get 12 = lv) (t14 : T.get 14 = .pointer (some ⟨q, 0, none⟩)) (t18 : T.get 18 = .int .i64 0) :
    MWp Try.prog O 237 (.seq (.region 36 (ro 4 36) true) (.seq (.region 37 (ro 4 37) false) (.cond (.tmp 129) (.region 38 (ro 4 38) false) (.seq (.region 39 (ro 4 39) false) (.cond (.tmp 134) (.region 40 (ro 4 40) false) .skip))))) T S
      fun y T' S' => y = .normal ∧ Old S S' ∧ Kp [2, 7, 8, 9, 10, 11, 12, 13, 14, 15, 16] T T' ∧ T'.get 18 = .int .i64 (wantA N base rs s.bytes) ∧ LW S0.n S' d D j rv bv (T'.get 17) base (rs ++ [s.bytes]) ∧ (∀ y, y < S.n → Av (T'.get 17) y) := by
  refine m_wf fun wf => m_seq (m_draw ?_)
  rw [reg4_36]
  obtain ⟨rl, c1, c2, c3, c4⟩ := hL.ex
  have hll := c1.lenSl
  have hrll : rl.length = rs.length := c2.1
  obtain ⟨v6, u1, u2⟩ := SlF.cut c1 (by omega)
  have hxS := hr.x hx hxl
  obtain ⟨sv, rfl⟩ := hxS.sv
  have hbs : bsS S 1 1 [.slice none 0 0] [(0, sv.v)] = some (.slice (some ⟨S.n, 0, none⟩) 1 1, S.fresh [sv.v] 1) := bsS_one S 1 _ sv.v rfl rfl
  have wf2 := wf_fresh' wf [sv.v] 1
  have f2 := old_fresh S [sv.v] 1
  have hnew : firstCellsM (S.fresh [sv.v] 1) 1 1 (.slice (some ⟨S.n, 0, none⟩) 1 1) = some [sv.v] :=
    (first_of (sz := 1) (n := 1) (len := 1) (cap := 1) (off := 0) (list_of (fresh_at S [sv.v] 1)) (Nat.le_refl _) (by decide) (by simp)).trans rfl
  have u3 : (v6 = .slice none 0 0 ∧ rl = []) ∨ ∃ b junk, v6 = .slice (some ⟨b, 0, none⟩) rl.length rl.length ∧ (S.fresh [sv.v] 1).m b = some (.cells ((rl ++ junk).flatMap svF) 1) := by
    rcases u2 with h | ⟨b, junk, h1, h2⟩
    · exact .inl h
    · exact .inr ⟨b, junk, h1, by rw [f2.2 b (wf _ _ h2)]; exact h2⟩
  obtain ⟨v2, S3, a1, a2, f3⟩ := SlF.grow (s := sv) (x := .slice (some ⟨S.n, 0, none⟩) 1 1) wf2 u3 (by omega) rfl hnew
  simp (decide := true) only [FT.get_set, FT.setL, faS_ptr, nilS_ptr, nilS_func, nilS_yield, pickS_bool, ldS_ptr, list_cells, list_ro, partS_none, lenSl_of, lenStr_of, cvInt_of, aminmax_max, aminmax_min, abin_add, abin_sub, abin_mul, abin_eql, abin_neq, abin_lss, abin_leq, abin_gtr, abin_geq, aunary_not, aextract, Option.some.injEq, Prod.mk.injEq, Value.bool.injEq, exists_eq_left', exists_and_left, and_assoc, decide_eq_true_eq, decide_eq_false_iff_not, if_true, if_false, Nat.zero_add, Nat.add_zero, Option.bind_some, true_and, and_true, forall_const, true_implies, Bool.not_eq_true, Bool.false_eq_true, false_implies, ite_self, Nat.mul_one, t12, t14, hll, u1, list_of hr.bq, sl2, hbs, a1]
  have f13 := f2.trans f3
  have hL3 := hL.old f13
  have hr3 := hr.old f13
  have hav2 : ∀ y, y < S.n → Av v2 y := fun y hy => SlF.av a2 (by simp only [fresh_n]; omega)
  refine m_wf fun wf3 => ?_
  have hfr : ∀ y, On sv.v y → Fr S d D j rv y := fun y hy => (hr.bf y (hxl y hy)).1
  have hL3' : LW S0.n S3 d D j rv bv v2 base (rs ++ [s.bytes]) := by
    refine ⟨hL3.b, hL3.bo, rl ++ [sv], SlF.weaken a2 (Nat.zero_le _), ⟨by rw [List.length_append, List.length_append, c2.1]; rfl, fun k y r hy hr' => ?_⟩, fun y hy => ?_, fun z hz y hy => ?_⟩
    · by_cases hk : k < rl.length
      · rw [List.getElem?_append_left hk] at hy
        rw [List.getElem?_append_left (by rw [← c2.1]; exact hk)] at hr'
        exact (c2.2 k y r hy hr').keep wf f13.2
      · rw [List.getElem?_append_right (by omega)] at hy
        rw [List.getElem?_append_right (by rw [← c2.1]; omega), ← c2.1] at hr'
        obtain ⟨e1, _⟩ := List.getElem?_eq_some_iff.1 hy
        have : k - rl.length = 0 := by simp at e1; omega
        rw [this] at hy hr'
        cases hy; cases hr'
        exact hxS.keep wf f13.2
    · have h1 : S.n ≤ y := by
        by_cases hlt : y < S.n + 1
        · exact absurd (SlF.av a2 hlt) hy
        · omega
      exact Fr.new hp.is wf hp.jj h1 (Nat.lt_of_not_le fun e => hy (SlF.avN a2 wf3 e))
    · rcases List.mem_append.1 hz with hz | hz
      · exact ⟨(c4 z hz y hy).1.old f13, (c4 z hz y hy).2⟩
      · have : z = sv := by simpa using hz
        subst this
        exact ⟨(hfr y hy).old f13, hxl y hy⟩
  refine m_seq (m_reg ?_)
  rw [reg4_37]
  simp (decide := true) only [FT.get_set, FT.setL, faS_ptr, nilS_ptr, nilS_func, nilS_yield, pickS_bool, ldS_ptr, list_cells, list_ro, partS_none, lenSl_of, lenStr_of, cvInt_of, aminmax_max, aminmax_min, abin_add, abin_sub, abin_mul, abin_eql, abin_neq, abin_lss, abin_leq, abin_gtr, abin_geq, aunary_not, aextract, Option.some.injEq, Prod.mk.injEq, Value.bool.injEq, exists_eq_left', exists_and_left, and_assoc, decide_eq_true_eq, decide_eq_false_iff_not, if_true, if_false, Nat.zero_add, Nat.add_zero, Option.bind_some, true_and, and_true, forall_const, true_implies, Bool.not_eq_true, Bool.false_eq_true, false_implies, ite_self, Nat.mul_one, t14, list_of hr3.bq, sl2, hxS.len]
  refine m_cond (t := decide ((s.bytes.length : Int) > 65536)) (by simp [evalT, FT.get_set, FT.setL, faS_ptr, nilS_ptr, nilS_func, nilS_yield, pickS_bool, ldS_ptr, list_cells, list_ro, partS_none, lenSl_of, lenStr_of, cvInt_of, aminmax_max, aminmax_min, abin_add, abin_sub, abin_mul, abin_eql, abin_neq, abin_lss, abin_leq, abin_gtr, abin_geq, aunary_not, aextract]) (fun hbig => ?_) (fun hsm => ?_)
  · have hbig : 65536 < s.bytes.length := by have := of_decide_eq_true hbig; omega
    refine m_reg ?_
    rw [reg4_38]
    refine ⟨rfl, f13, ?_, ?_, ?_, ?_⟩
    · simp [Kp, FT.get_set]
    · simp [FT.get_set, wantA, hbig]
    · simp [FT.get_set]; exact hL3'
    · simp [FT.get_set]; exact hav2
  · have hsm : ¬ 65536 < s.bytes.length := by have := of_decide_eq_false hsm; omega
    refine m_seq (m_reg ?_)
    rw [reg4_39]
    obtain ⟨rl', d1, d2, _, _⟩ := hL3'.ex
    have hlv := liveN_snoc base rs s.bytes
    simp (decide := true) only [FT.get_set, FT.setL, faS_ptr, nilS_ptr, nilS_func, nilS_yield, pickS_bool, ldS_ptr, list_cells, list_ro, partS_none, lenSl_of, lenStr_of, cvInt_of, aminmax_max, aminmax_min, abin_add, abin_sub, abin_mul, abin_eql, abin_neq, abin_lss, abin_leq, abin_gtr, abin_geq, aunary_not, aextract, Option.some.injEq, Prod.mk.injEq, Value.bool.injEq, exists_eq_left', exists_and_left, and_assoc, decide_eq_true_eq, decide_eq_false_iff_not, if_true, if_false, Nat.zero_add, Nat.add_zero, Option.bind_some, true_and, and_true, forall_const, true_implies, Bool.not_eq_true, Bool.false_eq_true, false_implies, ite_self, Nat.mul_one, t10, t11]
    refine weight17 hL3'.b d1 d2 (by omega) ?_
    simp (decide := true) only [FT.get_set, FT.setL, faS_ptr, nilS_ptr, nilS_func, nilS_yield, pickS_bool, ldS_ptr, list_cells, list_ro, partS_none, lenSl_of, lenStr_of, cvInt_of, aminmax_max, aminmax_min, abin_add, abin_sub, abin_mul, abin_eql, abin_neq, abin_lss, abin_leq, abin_gtr, abin_geq, aunary_not, aextract, Option.some.injEq, Prod.mk.injEq, Value.bool.injEq, exists_eq_left', exists_and_left, and_assoc, decide_eq_true_eq, decide_eq_false_iff_not, if_true, if_false, Nat.zero_add, Nat.add_zero, Option.bind_some, true_and, and_true, forall_const, true_implies, Bool.not_eq_true, Bool.false_eq_true, false_implies, ite_self, Nat.mul_one, ]
    refine m_cond (t := decide (((liveN base (rs ++ [s.bytes]) : Nat) : Int) > ((32 * N : Nat) : Int))) (by simp [evalT, FT.get_set, FT.setL, faS_ptr, nilS_ptr, nilS_func, nilS_yield, pickS_bool, ldS_ptr, list_cells, list_ro, partS_none, lenSl_of, lenStr_of, cvInt_of, aminmax_max, aminmax_min, abin_add, abin_sub, abin_mul, abin_eql, abin_neq, abin_lss, abin_leq, abin_gtr, abin_geq, aunary_not, aextract]) (fun hf => ?_) (fun hf => m_skip ?_)
    · have hf : 32 * N < liveN base (rs ++ [s.bytes]) := by have := of_decide_eq_true hf; omega
      refine m_reg ?_
      rw [reg4_40]
      refine ⟨rfl, f13, ?_, ?_, ?_, ?_⟩
      · simp [Kp, FT.get_set, t10, t11]
      · simp [FT.get_set, wantA, hsm, hf]
      · simp [FT.get_set]; exact hL3'
      · simp [FT.get_set]; exact hav2
    · have hf : ¬ 32 * N < liveN base (rs ++ [s.bytes]) := by have := of_decide_eq_false hf; omega
      refine ⟨rfl, f13, ?_, ?_, ?_, ?_⟩
      · simp [Kp, FT.get_set, t10, t11]
      · simp [FT.get_set, t18, wantA, hsm, hf]
      · simp [FT.get_set]; exact hL3'
      · simp [FT.get_set]; exact hav2
end Go.Proofs.Ytmfmbadfgnhonaa

