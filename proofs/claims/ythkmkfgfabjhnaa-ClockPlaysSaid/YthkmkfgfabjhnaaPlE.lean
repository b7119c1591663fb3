/-
  The walk through both clocks' code: what its functions do to memory, part PlE. Nothing is asked.
-/
import Derived.Test.YthkmkfgfabjhnaaPlD
set_option linter.all false
namespace Go.Proofs.Ythkmkfgfabjhnaa
open Go Go.Ag
set_option linter.unusedVariables false
set_option maxRecDepth 100000

def Deep (S0 : MS) (l : List Tm) : Prop := ∀ x ∈ l, Vl S0 x.aa x.an x.ac

def SS15 (S1 : MS) (v v' : Value) (n : Nat) (m : Nat) (T : FT) (S : MS) : Prop := ∃ i : Nat, i + m = n ∧ Old S1 S ∧ T.get 0 = v ∧ T.get 1 = v' ∧ T.get 5 = .int .i64 i

/-- the same timers are the same -/
theorem same15 {S0 S : MS} (wf0 : S0.WF) {B B' : Nat} {v v' : Value} {l : List Tm} (h : SlF tmL 4 S B v l) (h' : SlF tmL 4 S B' v' l) (hd : Deep S0 l) (hold : Old S0 S) (hl : l.length ≤ 100000) {Q : Value → MS → Prop} (hq : ∀ S', Old S S' → Q (.bool true) S') : CallM Try.prog O 15 [v, v'] S Q := by
  refine callM_wf fun wf => ?_
  refine callM_body (fnIs is15 body15 res15) (O_none (by decide)) (by simp) ?_
  refine m_seq (m_reg ?_)
  rw [reg15_0]
  refine m_seq (m_seq (m_reg ?_))
  rw [reg15_1]
  simp (decide := true) only [FT.get_set, FT.setL, faS_ptr, nilS_ptr, nilS_func, nilS_yield, pickS_bool, ldS_ptr, list_cells, list_ro, partS_none, lenSl_of, lenStr_of, cvInt_of, aminmax_max, aminmax_min, abin_add, abin_sub, abin_mul, abin_eql, abin_neq, abin_lss, abin_leq, abin_gtr, abin_geq, aunary_not, aextract, Option.some.injEq, Prod.mk.injEq, Value.bool.injEq, exists_eq_left', exists_and_left, and_assoc, decide_eq_true_eq, decide_eq_false_iff_not, if_true, if_false, Nat.zero_add, Nat.add_zero, Option.bind_some, true_and, and_true, forall_const, true_implies, Bool.not_eq_true, Bool.false_eq_true, false_implies, ite_self, Nat.mul_one, h.lenSl, h'.lenSl, bne_self_eq_false]
  refine m_cond (t := false) (by simp [evalT, FT.get_set, FT.setL, faS_ptr, nilS_ptr, nilS_func, nilS_yield, pickS_bool, ldS_ptr, list_cells, list_ro, partS_none, lenSl_of, lenStr_of, cvInt_of, aminmax_max, aminmax_min, abin_add, abin_sub, abin_mul, abin_eql, abin_neq, abin_lss, abin_leq, abin_gtr, abin_geq, aunary_not, aextract]) (fun h => by cases h) (fun _ => m_skip ?_)
  simp only
  refine m_seq (m_seq (m_reg ?_))
  rw [reg15_3]
  unfold blk15_0
  refine m_block (m_loop (fun m T S' => SS15 S v v' l.length m T S') l.length ⟨0, by omega, Old.refl _, by simp [FT.get_set, FT.setL, faS_ptr, nilS_ptr, nilS_func, nilS_yield, pickS_bool, ldS_ptr, list_cells, list_ro, partS_none, lenSl_of, lenStr_of, cvInt_of, aminmax_max, aminmax_min, abin_add, abin_sub, abin_mul, abin_eql, abin_neq, abin_lss, abin_leq, abin_gtr, abin_geq, aunary_not, aextract], by simp [FT.get_set, FT.setL, faS_ptr, nilS_ptr, nilS_func, nilS_yield, pickS_bool, ldS_ptr, list_cells, list_ro, partS_none, lenSl_of, lenStr_of, cvInt_of, aminmax_max, aminmax_min, abin_add, abin_sub, abin_mul, abin_eql, abin_neq, abin_lss, abin_leq, abin_gtr, abin_geq, aunary_not, aextract], by simp [FT.get_set, FT.setL, faS_ptr, nilS_ptr, nilS_func, nilS_yield, pickS_bool, ldS_ptr, list_cells, list_ro, partS_none, lenSl_of, lenStr_of, cvInt_of, aminmax_max, aminmax_min, abin_add, abin_sub, abin_mul, abin_eql, abin_neq, abin_lss, abin_leq, abin_gtr, abin_geq, aunary_not, aextract]⟩ ?_)
  rintro m T S1 ⟨i, hi, f1, t0, t1, t5⟩
  refine m_seq (m_seq (m_reg ?_))
  rw [reg15_4]
  simp (decide := true) only [FT.get_set, FT.setL, faS_ptr, nilS_ptr, nilS_func, nilS_yield, pickS_bool, ldS_ptr, list_cells, list_ro, partS_none, lenSl_of, lenStr_of, cvInt_of, aminmax_max, aminmax_min, abin_add, abin_sub, abin_mul, abin_eql, abin_neq, abin_lss, abin_leq, abin_gtr, abin_geq, aunary_not, aextract, Option.some.injEq, Prod.mk.injEq, Value.bool.injEq, exists_eq_left', exists_and_left, and_assoc, decide_eq_true_eq, decide_eq_false_iff_not, if_true, if_false, Nat.zero_add, Nat.add_zero, Option.bind_some, true_and, and_true, forall_const, true_implies, Bool.not_eq_true, Bool.false_eq_true, false_implies, ite_self, Nat.mul_one, t0, t5, h.lenSl]
  refine m_cond (t := decide ((i : Int) < l.length)) (by simp [evalT, FT.get_set, FT.setL, faS_ptr, nilS_ptr, nilS_func, nilS_yield, pickS_bool, ldS_ptr, list_cells, list_ro, partS_none, lenSl_of, lenStr_of, cvInt_of, aminmax_max, aminmax_min, abin_add, abin_sub, abin_mul, abin_eql, abin_neq, abin_lss, abin_leq, abin_gtr, abin_geq, aunary_not, aextract]) (fun hlt => m_skip ?_) (fun hlt => m_exit ?_)
  · have hlt : i < l.length := by have := of_decide_eq_true hlt; omega
    simp only
    obtain ⟨x, hx⟩ : ∃ x, l[i]? = some x := ⟨_, List.getElem?_eq_getElem hlt⟩
    have k1 := h.keep (S' := S1) fun y k hy => f1.2 y (wf y k hy)
    have k1' := h'.keep (S' := S1) fun y k hy => f1.2 y (wf y k hy)
    obtain ⟨b, L, q1, q2, q3⟩ := SlF.fld tm_len k1 hx
    obtain ⟨b', L', p1, p2, p3⟩ := SlF.fld tm_len k1' hx
    have q30 : L[i * 4]? = some (.int .i64 x.t) := q3 0 (by decide)
    have q31 : L[i * 4 + 1]? = some (.int .i64 x.n) := q3 1 (by decide)
    have q32 : L[i * 4 + 2]? = some (.string x.nm) := q3 2 (by decide)
    have q33 : L[i * 4 + 3]? = some (.slice x.aa x.an x.ac) := q3 3 (by decide)
    have q33' : L[i * 4 + 2 + 1]? = some (.slice x.aa x.an x.ac) := q33
    have p30 : L'[i * 4]? = some (.int .i64 x.t) := p3 0 (by decide)
    have p31 : L'[i * 4 + 1]? = some (.int .i64 x.n) := p3 1 (by decide)
    have p32 : L'[i * 4 + 2]? = some (.string x.nm) := p3 2 (by decide)
    have p33 : L'[i * 4 + 3]? = some (.slice x.aa x.an x.ac) := p3 3 (by decide)
    have p33' : L'[i * 4 + 2 + 1]? = some (.slice x.aa x.an x.ac) := p33
    unfold blk15_1
    refine m_seq (m_block (m_seq (m_draw ?_)))
    rw [reg15_6]
    simp (decide := true) only [FT.get_set, FT.setL, faS_ptr, nilS_ptr, nilS_func, nilS_yield, pickS_bool, ldS_ptr, list_cells, list_ro, partS_none, lenSl_of, lenStr_of, cvInt_of, aminmax_max, aminmax_min, abin_add, abin_sub, abin_mul, abin_eql, abin_neq, abin_lss, abin_leq, abin_gtr, abin_geq, aunary_not, aextract, Option.some.injEq, Prod.mk.injEq, Value.bool.injEq, exists_eq_left', exists_and_left, and_assoc, decide_eq_true_eq, decide_eq_false_iff_not, if_true, if_false, Nat.zero_add, Nat.add_zero, Option.bind_some, true_and, and_true, forall_const, true_implies, Bool.not_eq_true, Bool.false_eq_true, false_implies, ite_self, Nat.mul_one, t0, t1, t5, q1, q2, p1, p2, q30, q31, q32, q33, q33', p30, p31, p32, p33, p33', bne_self_eq_false, str_neq]
    refine all26 wf0 (hd x (List.mem_of_getElem? hx)) (hold.trans f1) fun S2 f2 => ?_
    simp (decide := true) only [FT.get_set, FT.setL, faS_ptr, nilS_ptr, nilS_func, nilS_yield, pickS_bool, ldS_ptr, list_cells, list_ro, partS_none, lenSl_of, lenStr_of, cvInt_of, aminmax_max, aminmax_min, abin_add, abin_sub, abin_mul, abin_eql, abin_neq, abin_lss, abin_leq, abin_gtr, abin_geq, aunary_not, aextract, Option.some.injEq, Prod.mk.injEq, Value.bool.injEq, exists_eq_left', exists_and_left, and_assoc, decide_eq_true_eq, decide_eq_false_iff_not, if_true, if_false, Nat.zero_add, Nat.add_zero, Option.bind_some, true_and, and_true, forall_const, true_implies, Bool.not_eq_true, Bool.false_eq_true, false_implies, ite_self, Nat.mul_one, Bool.not_true]
    refine m_cond (t := false) (by simp [evalT, FT.get_set, FT.setL, faS_ptr, nilS_ptr, nilS_func, nilS_yield, pickS_bool, ldS_ptr, list_cells, list_ro, partS_none, lenSl_of, lenStr_of, cvInt_of, aminmax_max, aminmax_min, abin_add, abin_sub, abin_mul, abin_eql, abin_neq, abin_lss, abin_leq, abin_gtr, abin_geq, aunary_not, aextract]) (fun h => by cases h) (fun _ => m_skip ?_)
    simp only
    refine m_reg ?_
    rw [reg15_5]
    have hw : IntKind.i64.wrap ((i : Int) + 1) = ((i + 1 : Nat) : Int) := by rw [wrap_i64 (by omega) (by omega)]; rfl
    simp (decide := true) only [FT.get_set, FT.setL, faS_ptr, nilS_ptr, nilS_func, nilS_yield, pickS_bool, ldS_ptr, list_cells, list_ro, partS_none, lenSl_of, lenStr_of, cvInt_of, aminmax_max, aminmax_min, abin_add, abin_sub, abin_mul, abin_eql, abin_neq, abin_lss, abin_leq, abin_gtr, abin_geq, aunary_not, aextract, Option.some.injEq, Prod.mk.injEq, Value.bool.injEq, exists_eq_left', exists_and_left, and_assoc, decide_eq_true_eq, decide_eq_false_iff_not, if_true, if_false, Nat.zero_add, Nat.add_zero, Option.bind_some, true_and, and_true, forall_const, true_implies, Bool.not_eq_true, Bool.false_eq_true, false_implies, ite_self, Nat.mul_one, t5, hw]
    exact ⟨m - 1, by omega, i + 1, by omega, f1.trans f2, by simp [FT.get_set, FT.setL, faS_ptr, nilS_ptr, nilS_func, nilS_yield, pickS_bool, ldS_ptr, list_cells, list_ro, partS_none, lenSl_of, lenStr_of, cvInt_of, aminmax_max, aminmax_min, abin_add, abin_sub, abin_mul, abin_eql, abin_neq, abin_lss, abin_leq, abin_gtr, abin_geq, aunary_not, aextract, t0], by simp [FT.get_set, FT.setL, faS_ptr, nilS_ptr, nilS_func, nilS_yield, pickS_bool, ldS_ptr, list_cells, list_ro, partS_none, lenSl_of, lenStr_of, cvInt_of, aminmax_max, aminmax_min, abin_add, abin_sub, abin_mul, abin_eql, abin_neq, abin_lss, abin_leq, abin_gtr, abin_geq, aunary_not, aextract, t1], by simp [FT.get_set, FT.setL, faS_ptr, nilS_ptr, nilS_func, nilS_yield, pickS_bool, ldS_ptr, list_cells, list_ro, partS_none, lenSl_of, lenStr_of, cvInt_of, aminmax_max, aminmax_min, abin_add, abin_sub, abin_mul, abin_eql, abin_neq, abin_lss, abin_leq, abin_gtr, abin_geq, aunary_not, aextract]⟩
  · simp only [if_true]
    refine m_seq (m_reg ?_)
    rw [reg15_8]
    refine m_ret ?_
    simp [resM, FT.get_set, FT.setL, faS_ptr, nilS_ptr, nilS_func, nilS_yield, pickS_bool, ldS_ptr, list_cells, list_ro, partS_none, lenSl_of, lenStr_of, cvInt_of, aminmax_max, aminmax_min, abin_add, abin_sub, abin_mul, abin_eql, abin_neq, abin_lss, abin_leq, abin_gtr, abin_geq, aunary_not, aextract, oneOrTuple]
    exact hq _ f1

/-! ### what the law is given -/
/-- timers that are only read -/
structure Tms (S : MS) (fv : Value) (fs : List Tm) : Prop where
  len : lenSl fv = some (.int .i64 fs.length)
  lenA : lenOfA fv = some fs.length
  lim : fs.length ≤ 1152921504606846976
  form : (fv = .slice none 0 0 ∧ fs = []) ∨ (fv = .slice (some ⟨0, 0, some 0⟩) 0 0 ∧ fs = []) ∨ ∃ ab cap L, fv = .slice (some ⟨ab, 0, none⟩) fs.length cap ∧ S.list ab = some L ∧ fs.length ≤ cap ∧ cap < unk ∧ fs.length * 4 ≤ L.length ∧ L.take (fs.length * 4) = fs.flatMap tmL
  deep : Deep S fs
theorem Tms.keep {S S' : MS} {fv : Value} {fs : List Tm} (h : Tms S fv fs) (wf : S.WF) (hk : ∀ x, x < S.n → S'.m x = S.m x) : Tms S' fv fs :=
  ⟨h.len, h.lenA, h.lim, by
    rcases h.form with h1 | h1 | ⟨ab, cap, L, h1, h2, h3⟩
    · exact .inl h1
    · exact .inr (.inl h1)
    · exact .inr (.inr ⟨ab, cap, L, h1, list_keep wf hk h2, h3⟩), fun x hx => (h.deep x hx).keep wf hk⟩
theorem Tms.pre {S : MS} {fv : Value} {fs : List Tm} {j : Nat} (h : Tms S fv fs) (hj : j ≤ fs.length) : ∃ v', slS 4 S fv none (some (.int .i64 (j : Int))) none = some v' ∧ lenOfA v' = some j ∧ firstCellsM S 4 j v' = some ((fs.take j).flatMap tmL) := by
  rcases h.form with ⟨rfl, rfl⟩ | ⟨rfl, rfl⟩ | ⟨ab, cap, L, rfl, h2, h3, h4, h5, h6⟩
  · have : j = 0 := by simpa using hj
    subst this
    exact ⟨.slice none 0 0, rfl, rfl, rfl⟩
  · have : j = 0 := by simpa using hj
    subst this
    exact ⟨.slice (some ⟨0, 0, some 0⟩) 0 0, rfl, rfl, rfl⟩
  · refine ⟨.slice (some ⟨ab, 0, none⟩) j cap, ?_, rfl, ?_⟩
    · rw [slS_own, if_neg (by rw [Nat.beq_eq]; omega), if_pos (by rw [Nat.blt_eq]; exact h4)]
      have : abounds fs.length cap none (some (.int .i64 (j : Int))) none = some (0, j, cap) := by
        unfold abounds
        simp only [intIn_of (show j ≤ cap by omega), Option.bind_some]
      rw [this]
      simp
    · by_cases h0 : j = 0
      · subst h0
        rw [first_zero (fun h => by cases h) (fun x h => by cases h; rfl)]; simp
      · rw [first_of h2 (Nat.le_refl _) h0 (by omega), List.drop_zero]
        congr 1
        have e1 : L.take (j * 4) = (L.take (fs.length * 4)).take (j * 4) := by rw [List.take_take]; congr 1; omega
        have e2 : fs.flatMap tmL = (fs.take j ++ fs.drop j).flatMap tmL := by rw [List.take_append_drop]
        have e3 := fm_take tm_len (fs.take j) (fs.drop j)
        rw [List.length_take, Nat.min_eq_left hj] at e3
        rw [e1, h6, e2, e3]
theorem partS_pair {L : List Value} {k : Nat} {a b : Value} (ha : L[k]? = some a) (hb : L[k + 1]? = some b) : partS (some 2) L k = some (.agg #[a, b]) := by
  have hl := (List.getElem?_eq_some_iff.1 hb).1
  rw [partS_some _ _ _ (by omega)]
  have e1 : L.drop k = a :: L.drop (k + 1) := by
    rw [List.drop_eq_getElem_cons (by omega)]; congr 1
    have := (List.getElem?_eq_some_iff.1 ha).2; exact this
  have e2 : L.drop (k + 1) = b :: L.drop (k + 2) := by
    rw [List.drop_eq_getElem_cons hl]; congr 1
    have := (List.getElem?_eq_some_iff.1 hb).2; exact this
  rw [e1, e2]; rfl
theorem Tms.at {S : MS} {fv : Value} {fs : List Tm} {i : Nat} {x : Tm} (h : Tms S fv fs) (hx : fs[i]? = some x) : ∃ b L, iaSS 4 fv (.int .i64 (i : Int)) = some (.pointer (some ⟨b, i * 4, none⟩)) ∧ S.list b = some L ∧ partS (some 2) L (i * 4 + 2) = some (.agg #[.string x.nm, .slice x.aa x.an x.ac]) := by
  have hlt := (List.getElem?_eq_some_iff.1 hx).1
  rcases h.form with ⟨_, rfl⟩ | ⟨_, rfl⟩ | ⟨ab, cap, L, rfl, h2, h3, h4, h5, h6⟩
  · cases hx
  · cases hx
  · refine ⟨ab, L, ?_, h2, ?_⟩
    · rw [iaSS_of (k := .i64) (i := (i : Int)) (by omega) (by omega : (i : Int) < (fs.length : Int)), Int.toNat_natCast, Nat.zero_add]
    · have g : ∀ k, k < 4 → L[i * 4 + k]? = (tmL x)[k]? := fun k hk => by
        rw [← fm_get tm_len hx hk, ← h6, List.getElem?_take, if_pos (by omega)]
      exact partS_pair (g 2 (by decide)) (g 3 (by decide))

structure Pln where
  d : Int
  nm : ByteArray
  aa : Option Addr
  an : Nat
  ac : Nat
def pnL (p : Pln) : List Value := plL p.d p.nm p.aa p.an p.ac
theorem pn_len (p : Pln) : (pnL p).length = 3 := rfl
/-- plans that are only read -/
structure Pls (S : MS) (pv : Value) (ps : List Pln) : Prop where
  len : lenSl pv = some (.int .i64 ps.length)
  lim : ps.length ≤ 1152921504606846976
  cells : ps ≠ [] → ∃ ab cap L, pv = .slice (some ⟨ab, 0, none⟩) ps.length cap ∧ S.list ab = some L ∧ ps.length * 3 ≤ L.length ∧ L.take (ps.length * 3) = ps.flatMap pnL
  deep : ∀ p ∈ ps, Vl S p.aa p.an p.ac
theorem Pls.keep {S S' : MS} {pv : Value} {ps : List Pln} (h : Pls S pv ps) (wf : S.WF) (hk : ∀ x, x < S.n → S'.m x = S.m x) : Pls S' pv ps :=
  ⟨h.len, h.lim, fun hne => by obtain ⟨ab, cap, L, h1, h2, h3⟩ := h.cells hne; exact ⟨ab, cap, L, h1, list_keep wf hk h2, h3⟩, fun x hx => (h.deep x hx).keep wf hk⟩
theorem Pls.at {S : MS} {pv : Value} {ps : List Pln} {i : Nat} {p : Pln} (h : Pls S pv ps) (hp : ps[i]? = some p) : ∃ b L, iaSS 3 pv (.int .i64 (i : Int)) = some (.pointer (some ⟨b, i * 3, none⟩)) ∧ S.list b = some L ∧ partS (some 2) L (i * 3 + 1) = some (.agg #[.string p.nm, .slice p.aa p.an p.ac]) ∧ partS (some 3) L (i * 3) = some (.agg (plL p.d p.nm p.aa p.an p.ac).toArray) := by
  have hlt := (List.getElem?_eq_some_iff.1 hp).1
  obtain ⟨ab, cap, L, rfl, h2, h3, h4⟩ := h.cells (fun e => by rw [e] at hp; cases hp)
  have g : ∀ k, k < 3 → L[i * 3 + k]? = (pnL p)[k]? := fun k hk => by
    rw [← fm_get pn_len hp hk, ← h4, List.getElem?_take, if_pos (by omega)]
  refine ⟨ab, L, ?_, h2, partS_pair (g 1 (by decide)) (g 2 (by decide)), ?_⟩
  · rw [iaSS_of (k := .i64) (i := (i : Int)) (by omega) (by omega : (i : Int) < (ps.length : Int)), Int.toNat_natCast, Nat.zero_add]
  · rw [partS_some _ _ _ (by omega)]
    have e : (L.drop (i * 3)).take 3 = pnL p := by
      refine List.ext_getElem? fun k => ?_
      rw [List.getElem?_take]
      by_cases hk : k < 3
      · rw [if_pos hk, List.getElem?_drop]; exact g k hk
      · rw [if_neg hk, List.getElem?_eq_none (by rw [pn_len]; omega)]
    rw [e]; rfl

/-- append to nothing -/
theorem app_non {α : Type} {f : α → List Value} {sz : Nat} (hfl : ∀ a, (f a).length = sz) (hone : ∀ a, (f a).all oneCell = true) (hsz : 0 < sz) {bytes : Nat} {z : List Value} {S : MS} {x : Value} {new : List α} (wf : S.WF) (hl : lenOfA x = some new.length) (hf : firstCellsM S sz new.length x = some (new.flatMap f)) (hsm : (2 * new.length + 1000) * bytes ≤ 281474976710656) (hsm2 : new.length ≤ 1000000) :
    ∃ v' S', apS false sz bytes z S [.slice none 0 0, x] = some (v', S') ∧ SlF f sz S' S.n v' new ∧ Old S S' ∧ S'.WF := by
  have ho : ∀ l : List α, (l.flatMap f).all oneCell = true := by
    intro l
    rw [List.all_eq_true]
    intro v hv
    obtain ⟨a, _, ha⟩ := List.mem_flatMap.1 hv
    exact List.all_eq_true.1 (hone a) v ha
  by_cases h0 : new.length = 0
  · have : new = [] := List.length_eq_zero_iff.1 h0
    subst this
    refine ⟨.slice none 0 0, S, ?_, .non, Old.refl _, wf⟩
    unfold apS appendedM
    simp only [Bool.false_eq_true, if_false, hl, Option.bind_some, hf, Option.map_some]
    simp
  · have hnl : (new.flatMap f).length = new.length * sz := fm_len hfl new
    refine ⟨_, _, apS_nil hl hf hnl (ho _) h0 (by simpa using hsm) (by omega), ?_, old_fresh S _ _, wf_fresh' wf _ _⟩
    exact .own (junk := []) (by rw [List.append_nil]; exact fresh_at _ _ _) (Nat.le_refl _) (.inl rfl) (by simpa using hsm2)

/-- New, of the reference -/
theorem new13 {S : MS} {fv : Value} {fs : List Tm} (now next : Int) (h : Tms S fv fs) {Q : Value → MS → Prop} (hq : ∀ r w S', Old S S' → S.n ≤ r → r < S'.n → IsC S' r S.n (cl0 now) (cl1 next) w (fs.take 12) → Q (.pointer (some ⟨r, 0, none⟩)) S') : CallM Try.prog O 13 [.int .i64 now, .int .i64 next, fv] S Q := by
  refine callM_wf fun wf => ?_
  refine callM_body (fnIs is13 body13 res13) (O_none (by decide)) (by simp) ?_
  refine m_seq (m_reg ?_)
  rw [reg13_0]
  have last : ∀ T, T.get 0 = .int .i64 (cl0 now) → T.get 1 = .int .i64 (cl1 next) → T.get 2 = fv → MWp Try.prog O 29 (.seq (.region 5 (ro 13 5) false) .ret) T S (fun x T' S' => (match x with | .exit _ => False | _ => True) ∧ ∃ vs, resM Try.prog T' S' [.tmp 6] = some vs ∧ Q (oneOrTuple vs) S') := by
    intro T t0 t1 t2
    refine m_seq (m_reg ?_)
    rw [reg13_5]
    obtain ⟨v1, p1, p2, p3⟩ := h.pre (Nat.min_le_left fs.length 12)
    have hmin : (fs.take (min fs.length 12)).length = min fs.length 12 := by rw [List.length_take]; omega
    have ht : fs.take (min fs.length 12) = fs.take 12 := by
      rcases Nat.le_total fs.length 12 with h | h
      · rw [Nat.min_eq_left h, List.take_length, List.take_of_length_le h]
      · rw [Nat.min_eq_right h]
    obtain ⟨v2, S1, a1, a2, f1, wf1⟩ := app_non (bytes := 56) (z := [.int .i64 0, .int .i64 0, .string ⟨⟨[]⟩⟩, .slice none 0 0]) tm_len tm_one (by decide) (x := v1) (new := fs.take (min fs.length 12)) wf (by rw [hmin]; exact p2) (by rw [hmin]; exact p3) (by rw [hmin]; omega) (by rw [hmin]; omega)
    rw [ht] at a2
    have e3 : bdS (fun i => [(0, 1), (1, 1), (2, 1)][i]?) [.int .i64 0, .int .i64 0, .slice none 0 0] [(0, .int .i64 (cl0 now)), (1, .int .i64 (cl1 next)), (2, v2)] = some (.agg #[.int .i64 (cl0 now), .int .i64 (cl1 next), v2]) := by
      simp [bdS, fillL, spliceL, (SlF.one a2).1, cells_int]
    have hcl : (Value.cells (.agg #[.int .i64 (cl0 now), .int .i64 (cl1 next), v2])).toList = [.int .i64 (cl0 now), .int .i64 (cl1 next), v2] := rfl
    have hB1 : S.n ≤ S1.n := f1.1
    have hav : Av v2 S1.n := a2.avN wf1 (Nat.le_refl _)
    have fo := old_fresh S1 [.int .i64 (cl0 now), .int .i64 (cl1 next), v2] 0
    have hcc := fresh_at S1 [.int .i64 (cl0 now), .int .i64 (cl1 next), v2] 0
    simp (decide := true) only [FT.get_set, FT.setL, faS_ptr, nilS_ptr, nilS_func, nilS_yield, pickS_bool, ldS_ptr, list_cells, list_ro, partS_none, lenSl_of, lenStr_of, cvInt_of, aminmax_max, aminmax_min, abin_add, abin_sub, abin_mul, abin_eql, abin_neq, abin_lss, abin_leq, abin_gtr, abin_geq, aunary_not, aextract, Option.some.injEq, Prod.mk.injEq, Value.bool.injEq, exists_eq_left', exists_and_left, and_assoc, decide_eq_true_eq, decide_eq_false_iff_not, if_true, if_false, Nat.zero_add, Nat.add_zero, Option.bind_some, true_and, and_true, forall_const, true_implies, Bool.not_eq_true, Bool.false_eq_true, false_implies, ite_self, Nat.mul_one, t0, t1, t2, h.len, min12, p1, a1, e3, ptrTo, hcl]
    refine m_ret ?_
    simp [resM, FT.get_set, FT.setL, faS_ptr, nilS_ptr, nilS_func, nilS_yield, pickS_bool, ldS_ptr, list_cells, list_ro, partS_none, lenSl_of, lenStr_of, cvInt_of, aminmax_max, aminmax_min, abin_add, abin_sub, abin_mul, abin_eql, abin_neq, abin_lss, abin_leq, abin_gtr, abin_geq, aunary_not, aextract, oneOrTuple]
    exact hq S1.n v2 _ (f1.trans fo) hB1 (by simp only [fresh_n]; omega) ⟨hcc, a2.keep fun y k hy => fo.2 y (wf1 y k hy), hav⟩
  have sec : ∀ T, T.get 0 = .int .i64 (cl0 now) → T.get 1 = .int .i64 next → T.get 2 = fv → MWp Try.prog O 29 (.seq (.seq (.region 3 (ro 13 3) false) (.cond (.tmp 18) (.region 4 (ro 13 4) false) .skip)) (.seq (.region 5 (ro 13 5) false) .ret)) T S (fun x T' S' => (match x with | .exit _ => False | _ => True) ∧ ∃ vs, resM Try.prog T' S' [.tmp 6] = some vs ∧ Q (oneOrTuple vs) S') := by
    intro T t0 t1 t2
    refine m_seq (m_seq (m_reg ?_))
    rw [reg13_3]
    have hit : ∀ T, T.get 18 = .bool true → T.get 0 = .int .i64 (cl0 now) → T.get 2 = fv → cl1 next = 1 → MWp Try.prog O 29 (.cond (.tmp 18) (.region 4 (ro 13 4) false) .skip) T S (fun x T1 S1' => match x with
      | .normal => MWp Try.prog O 29 (.seq (.region 5 (ro 13 5) false) .ret) T1 S1' (fun x T' S' => (match x with | .exit _ => False | _ => True) ∧ ∃ vs, resM Try.prog T' S' [.tmp 6] = some vs ∧ Q (oneOrTuple vs) S')
      | x => (match x with | .exit _ => False | _ => True) ∧ ∃ vs, resM Try.prog T1 S1' [.tmp 6] = some vs ∧ Q (oneOrTuple vs) S1') := by
      intro T h18 t0 t2 e
      refine m_cond (t := true) h18 (fun _ => m_reg ?_) (fun h => by cases h)
      rw [reg13_4]
      exact last _ (by simp [FT.get_set, FT.setL, faS_ptr, nilS_ptr, nilS_func, nilS_yield, pickS_bool, ldS_ptr, list_cells, list_ro, partS_none, lenSl_of, lenStr_of, cvInt_of, aminmax_max, aminmax_min, abin_add, abin_sub, abin_mul, abin_eql, abin_neq, abin_lss, abin_leq, abin_gtr, abin_geq, aunary_not, aextract, t0]) (by simp [FT.get_set, FT.setL, faS_ptr, nilS_ptr, nilS_func, nilS_yield, pickS_bool, ldS_ptr, list_cells, list_ro, partS_none, lenSl_of, lenStr_of, cvInt_of, aminmax_max, aminmax_min, abin_add, abin_sub, abin_mul, abin_eql, abin_neq, abin_lss, abin_leq, abin_gtr, abin_geq, aunary_not, aextract, e]) (by simp [FT.get_set, FT.setL, faS_ptr, nilS_ptr, nilS_func, nilS_yield, pickS_bool, ldS_ptr, list_cells, list_ro, partS_none, lenSl_of, lenStr_of, cvInt_of, aminmax_max, aminmax_min, abin_add, abin_sub, abin_mul, abin_eql, abin_neq, abin_lss, abin_leq, abin_gtr, abin_geq, aunary_not, aextract, t2])
    by_cases h1 : next < 1
    · have d1 : decide (next < 1) = true := decide_eq_true h1
      simp (decide := true) only [FT.get_set, FT.setL, faS_ptr, nilS_ptr, nilS_func, nilS_yield, pickS_bool, ldS_ptr, list_cells, list_ro, partS_none, lenSl_of, lenStr_of, cvInt_of, aminmax_max, aminmax_min, abin_add, abin_sub, abin_mul, abin_eql, abin_neq, abin_lss, abin_leq, abin_gtr, abin_geq, aunary_not, aextract, Option.some.injEq, Prod.mk.injEq, Value.bool.injEq, exists_eq_left', exists_and_left, and_assoc, decide_eq_true_eq, decide_eq_false_iff_not, if_true, if_false, Nat.zero_add, Nat.add_zero, Option.bind_some, true_and, and_true, forall_const, true_implies, Bool.not_eq_true, Bool.false_eq_true, false_implies, ite_self, Nat.mul_one, t1, d1]
      exact hit _ (by simp [FT.get_set, FT.setL, faS_ptr, nilS_ptr, nilS_func, nilS_yield, pickS_bool, ldS_ptr, list_cells, list_ro, partS_none, lenSl_of, lenStr_of, cvInt_of, aminmax_max, aminmax_min, abin_add, abin_sub, abin_mul, abin_eql, abin_neq, abin_lss, abin_leq, abin_gtr, abin_geq, aunary_not, aextract]) (by simp [FT.get_set, FT.setL, faS_ptr, nilS_ptr, nilS_func, nilS_yield, pickS_bool, ldS_ptr, list_cells, list_ro, partS_none, lenSl_of, lenStr_of, cvInt_of, aminmax_max, aminmax_min, abin_add, abin_sub, abin_mul, abin_eql, abin_neq, abin_lss, abin_leq, abin_gtr, abin_geq, aunary_not, aextract, t0]) (by simp [FT.get_set, FT.setL, faS_ptr, nilS_ptr, nilS_func, nilS_yield, pickS_bool, ldS_ptr, list_cells, list_ro, partS_none, lenSl_of, lenStr_of, cvInt_of, aminmax_max, aminmax_min, abin_add, abin_sub, abin_mul, abin_eql, abin_neq, abin_lss, abin_leq, abin_gtr, abin_geq, aunary_not, aextract, t2]) (by unfold cl1; rw [if_pos (.inl h1)])
    · have d1 : decide (next < 1) = false := decide_eq_false h1
      by_cases h2 : next > 1099511627776
      · have d2 : decide (next > 1099511627776) = true := decide_eq_true h2
        simp (decide := true) only [FT.get_set, FT.setL, faS_ptr, nilS_ptr, nilS_func, nilS_yield, pickS_bool, ldS_ptr, list_cells, list_ro, partS_none, lenSl_of, lenStr_of, cvInt_of, aminmax_max, aminmax_min, abin_add, abin_sub, abin_mul, abin_eql, abin_neq, abin_lss, abin_leq, abin_gtr, abin_geq, aunary_not, aextract, Option.some.injEq, Prod.mk.injEq, Value.bool.injEq, exists_eq_left', exists_and_left, and_assoc, decide_eq_true_eq, decide_eq_false_iff_not, if_true, if_false, Nat.zero_add, Nat.add_zero, Option.bind_some, true_and, and_true, forall_const, true_implies, Bool.not_eq_true, Bool.false_eq_true, false_implies, ite_self, Nat.mul_one, t1, d1, d2]
        exact hit _ (by simp [FT.get_set, FT.setL, faS_ptr, nilS_ptr, nilS_func, nilS_yield, pickS_bool, ldS_ptr, list_cells, list_ro, partS_none, lenSl_of, lenStr_of, cvInt_of, aminmax_max, aminmax_min, abin_add, abin_sub, abin_mul, abin_eql, abin_neq, abin_lss, abin_leq, abin_gtr, abin_geq, aunary_not, aextract]) (by simp [FT.get_set, FT.setL, faS_ptr, nilS_ptr, nilS_func, nilS_yield, pickS_bool, ldS_ptr, list_cells, list_ro, partS_none, lenSl_of, lenStr_of, cvInt_of, aminmax_max, aminmax_min, abin_add, abin_sub, abin_mul, abin_eql, abin_neq, abin_lss, abin_leq, abin_gtr, abin_geq, aunary_not, aextract, t0]) (by simp [FT.get_set, FT.setL, faS_ptr, nilS_ptr, nilS_func, nilS_yield, pickS_bool, ldS_ptr, list_cells, list_ro, partS_none, lenSl_of, lenStr_of, cvInt_of, aminmax_max, aminmax_min, abin_add, abin_sub, abin_mul, abin_eql, abin_neq, abin_lss, abin_leq, abin_gtr, abin_geq, aunary_not, aextract, t2]) (by unfold cl1; rw [if_pos (.inr h2)])
      · have d2 : decide (next > 1099511627776) = false := decide_eq_false h2
        simp (decide := true) only [FT.get_set, FT.setL, faS_ptr, nilS_ptr, nilS_func, nilS_yield, pickS_bool, ldS_ptr, list_cells, list_ro, partS_none, lenSl_of, lenStr_of, cvInt_of, aminmax_max, aminmax_min, abin_add, abin_sub, abin_mul, abin_eql, abin_neq, abin_lss, abin_leq, abin_gtr, abin_geq, aunary_not, aextract, Option.some.injEq, Prod.mk.injEq, Value.bool.injEq, exists_eq_left', exists_and_left, and_assoc, decide_eq_true_eq, decide_eq_false_iff_not, if_true, if_false, Nat.zero_add, Nat.add_zero, Option.bind_some, true_and, and_true, forall_const, true_implies, Bool.not_eq_true, Bool.false_eq_true, false_implies, ite_self, Nat.mul_one, t1, d1, d2]
        refine m_cond (t := false) (by simp [evalT, FT.get_set, FT.setL, faS_ptr, nilS_ptr, nilS_func, nilS_yield, pickS_bool, ldS_ptr, list_cells, list_ro, partS_none, lenSl_of, lenStr_of, cvInt_of, aminmax_max, aminmax_min, abin_add, abin_sub, abin_mul, abin_eql, abin_neq, abin_lss, abin_leq, abin_gtr, abin_geq, aunary_not, aextract]) (fun h => by cases h) (fun _ => m_skip ?_)
        simp only
        have : cl1 next = next := by unfold cl1; rw [if_neg (by omega)]
        exact last _ (by simp [FT.get_set, FT.setL, faS_ptr, nilS_ptr, nilS_func, nilS_yield, pickS_bool, ldS_ptr, list_cells, list_ro, partS_none, lenSl_of, lenStr_of, cvInt_of, aminmax_max, aminmax_min, abin_add, abin_sub, abin_mul, abin_eql, abin_neq, abin_lss, abin_leq, abin_gtr, abin_geq, aunary_not, aextract, t0]) (by simp [FT.get_set, FT.setL, faS_ptr, nilS_ptr, nilS_func, nilS_yield, pickS_bool, ldS_ptr, list_cells, list_ro, partS_none, lenSl_of, lenStr_of, cvInt_of, aminmax_max, aminmax_min, abin_add, abin_sub, abin_mul, abin_eql, abin_neq, abin_lss, abin_leq, abin_gtr, abin_geq, aunary_not, aextract, t1, this]) (by simp [FT.get_set, FT.setL, faS_ptr, nilS_ptr, nilS_func, nilS_yield, pickS_bool, ldS_ptr, list_cells, list_ro, partS_none, lenSl_of, lenStr_of, cvInt_of, aminmax_max, aminmax_min, abin_add, abin_sub, abin_mul, abin_eql, abin_neq, abin_lss, abin_leq, abin_gtr, abin_geq, aunary_not, aextract, t2])
  refine m_seq (m_seq (m_reg ?_))
  rw [reg13_1]
  have hit : ∀ T, T.get 12 = .bool true → T.get 1 = .int .i64 next → T.get 2 = fv → cl0 now = 0 → MWp Try.prog O 29 (.cond (.tmp 12) (.region 2 (ro 13 2) false) .skip) T S (fun x T1 S1' => match x with
      | .normal => MWp Try.prog O 29 (.seq (.seq (.region 3 (ro 13 3) false) (.cond (.tmp 18) (.region 4 (ro 13 4) false) .skip)) (.seq (.region 5 (ro 13 5) false) .ret)) T1 S1' (fun x T' S' => (match x with | .exit _ => False | _ => True) ∧ ∃ vs, resM Try.prog T' S' [.tmp 6] = some vs ∧ Q (oneOrTuple vs) S')
      | x => (match x with | .exit _ => False | _ => True) ∧ ∃ vs, resM Try.prog T1 S1' [.tmp 6] = some vs ∧ Q (oneOrTuple vs) S1') := by
    intro T h12 t1 t2 e
    refine m_cond (t := true) h12 (fun _ => m_reg ?_) (fun h => by cases h)
    rw [reg13_2]
    exact sec _ (by simp [FT.get_set, FT.setL, faS_ptr, nilS_ptr, nilS_func, nilS_yield, pickS_bool, ldS_ptr, list_cells, list_ro, partS_none, lenSl_of, lenStr_of, cvInt_of, aminmax_max, aminmax_min, abin_add, abin_sub, abin_mul, abin_eql, abin_neq, abin_lss, abin_leq, abin_gtr, abin_geq, aunary_not, aextract, e]) (by simp [FT.get_set, FT.setL, faS_ptr, nilS_ptr, nilS_func, nilS_yield, pickS_bool, ldS_ptr, list_cells, list_ro, partS_none, lenSl_of, lenStr_of, cvInt_of, aminmax_max, aminmax_min, abin_add, abin_sub, abin_mul, abin_eql, abin_neq, abin_lss, abin_leq, abin_gtr, abin_geq, aunary_not, aextract, t1]) (by simp [FT.get_set, FT.setL, faS_ptr, nilS_ptr, nilS_func, nilS_yield, pickS_bool, ldS_ptr, list_cells, list_ro, partS_none, lenSl_of, lenStr_of, cvInt_of, aminmax_max, aminmax_min, abin_add, abin_sub, abin_mul, abin_eql, abin_neq, abin_lss, abin_leq, abin_gtr, abin_geq, aunary_not, aextract, t2])
  by_cases h1 : now < 0
  · have d1 : decide (now < 0) = true := decide_eq_true h1
    simp (decide := true) only [FT.get_set, FT.setL, faS_ptr, nilS_ptr, nilS_func, nilS_yield, pickS_bool, ldS_ptr, list_cells, list_ro, partS_none, lenSl_of, lenStr_of, cvInt_of, aminmax_max, aminmax_min, abin_add, abin_sub, abin_mul, abin_eql, abin_neq, abin_lss, abin_leq, abin_gtr, abin_geq, aunary_not, aextract, Option.some.injEq, Prod.mk.injEq, Value.bool.injEq, exists_eq_left', exists_and_left, and_assoc, decide_eq_true_eq, decide_eq_false_iff_not, if_true, if_false, Nat.zero_add, Nat.add_zero, Option.bind_some, true_and, and_true, forall_const, true_implies, Bool.not_eq_true, Bool.false_eq_true, false_implies, ite_self, Nat.mul_one, d1]
    exact hit _ (by simp [FT.get_set, FT.setL, faS_ptr, nilS_ptr, nilS_func, nilS_yield, pickS_bool, ldS_ptr, list_cells, list_ro, partS_none, lenSl_of, lenStr_of, cvInt_of, aminmax_max, aminmax_min, abin_add, abin_sub, abin_mul, abin_eql, abin_neq, abin_lss, abin_leq, abin_gtr, abin_geq, aunary_not, aextract]) (by simp [FT.get_set, FT.setL, faS_ptr, nilS_ptr, nilS_func, nilS_yield, pickS_bool, ldS_ptr, list_cells, list_ro, partS_none, lenSl_of, lenStr_of, cvInt_of, aminmax_max, aminmax_min, abin_add, abin_sub, abin_mul, abin_eql, abin_neq, abin_lss, abin_leq, abin_gtr, abin_geq, aunary_not, aextract]) (by simp [FT.get_set, FT.setL, faS_ptr, nilS_ptr, nilS_func, nilS_yield, pickS_bool, ldS_ptr, list_cells, list_ro, partS_none, lenSl_of, lenStr_of, cvInt_of, aminmax_max, aminmax_min, abin_add, abin_sub, abin_mul, abin_eql, abin_neq, abin_lss, abin_leq, abin_gtr, abin_geq, aunary_not, aextract]) (by unfold cl0; rw [if_pos (.inl h1)])
  · have d1 : decide (now < 0) = false := decide_eq_false h1
    by_cases h2 : now > 1099511627776
    · have d2 : decide (now > 1099511627776) = true := decide_eq_true h2
      simp (decide := true) only [FT.get_set, FT.setL, faS_ptr, nilS_ptr, nilS_func, nilS_yield, pickS_bool, ldS_ptr, list_cells, list_ro, partS_none, lenSl_of, lenStr_of, cvInt_of, aminmax_max, aminmax_min, abin_add, abin_sub, abin_mul, abin_eql, abin_neq, abin_lss, abin_leq, abin_gtr, abin_geq, aunary_not, aextract, Option.some.injEq, Prod.mk.injEq, Value.bool.injEq, exists_eq_left', exists_and_left, and_assoc, decide_eq_true_eq, decide_eq_false_iff_not, if_true, if_false, Nat.zero_add, Nat.add_zero, Option.bind_some, true_and, and_true, forall_const, true_implies, Bool.not_eq_true, Bool.false_eq_true, false_implies, ite_self, Nat.mul_one, d1, d2]
      exact hit _ (by simp [FT.get_set, FT.setL, faS_ptr, nilS_ptr, nilS_func, nilS_yield, pickS_bool, ldS_ptr, list_cells, list_ro, partS_none, lenSl_of, lenStr_of, cvInt_of, aminmax_max, aminmax_min, abin_add, abin_sub, abin_mul, abin_eql, abin_neq, abin_lss, abin_leq, abin_gtr, abin_geq, aunary_not, aextract]) (by simp [FT.get_set, FT.setL, faS_ptr, nilS_ptr, nilS_func, nilS_yield, pickS_bool, ldS_ptr, list_cells, list_ro, partS_none, lenSl_of, lenStr_of, cvInt_of, aminmax_max, aminmax_min, abin_add, abin_sub, abin_mul, abin_eql, abin_neq, abin_lss, abin_leq, abin_gtr, abin_geq, aunary_not, aextract]) (by simp [FT.get_set, FT.setL, faS_ptr, nilS_ptr, nilS_func, nilS_yield, pickS_bool, ldS_ptr, list_cells, list_ro, partS_none, lenSl_of, lenStr_of, cvInt_of, aminmax_max, aminmax_min, abin_add, abin_sub, abin_mul, abin_eql, abin_neq, abin_lss, abin_leq, abin_gtr, abin_geq, aunary_not, aextract]) (by unfold cl0; rw [if_pos (.inr h2)])
    · have d2 : decide (now > 1099511627776) = false := decide_eq_false h2
      simp (decide := true) only [FT.get_set, FT.setL, faS_ptr, nilS_ptr, nilS_func, nilS_yield, pickS_bool, ldS_ptr, list_cells, list_ro, partS_none, lenSl_of, lenStr_of, cvInt_of, aminmax_max, aminmax_min, abin_add, abin_sub, abin_mul, abin_eql, abin_neq, abin_lss, abin_leq, abin_gtr, abin_geq, aunary_not, aextract, Option.some.injEq, Prod.mk.injEq, Value.bool.injEq, exists_eq_left', exists_and_left, and_assoc, decide_eq_true_eq, decide_eq_false_iff_not, if_true, if_false, Nat.zero_add, Nat.add_zero, Option.bind_some, true_and, and_true, forall_const, true_implies, Bool.not_eq_true, Bool.false_eq_true, false_implies, ite_self, Nat.mul_one, d1, d2]
      refine m_cond (t := false) (by simp [evalT, FT.get_set, FT.setL, faS_ptr, nilS_ptr, nilS_func, nilS_yield, pickS_bool, ldS_ptr, list_cells, list_ro, partS_none, lenSl_of, lenStr_of, cvInt_of, aminmax_max, aminmax_min, abin_add, abin_sub, abin_mul, abin_eql, abin_neq, abin_lss, abin_leq, abin_gtr, abin_geq, aunary_not, aextract]) (fun h => by cases h) (fun _ => m_skip ?_)
      simp only
      have : cl0 now = now := by unfold cl0; rw [if_neg (by omega)]
      exact sec _ (by simp [FT.get_set, FT.setL, faS_ptr, nilS_ptr, nilS_func, nilS_yield, pickS_bool, ldS_ptr, list_cells, list_ro, partS_none, lenSl_of, lenStr_of, cvInt_of, aminmax_max, aminmax_min, abin_add, abin_sub, abin_mul, abin_eql, abin_neq, abin_lss, abin_leq, abin_gtr, abin_geq, aunary_not, aextract, this]) (by simp [FT.get_set, FT.setL, faS_ptr, nilS_ptr, nilS_func, nilS_yield, pickS_bool, ldS_ptr, list_cells, list_ro, partS_none, lenSl_of, lenStr_of, cvInt_of, aminmax_max, aminmax_min, abin_add, abin_sub, abin_mul, abin_eql, abin_neq, abin_lss, abin_leq, abin_gtr, abin_geq, aunary_not, aextract]) (by simp [FT.get_set, FT.setL, faS_ptr, nilS_ptr, nilS_func, nilS_yield, pickS_bool, ldS_ptr, list_cells, list_ro, partS_none, lenSl_of, lenStr_of, cvInt_of, aminmax_max, aminmax_min, abin_add, abin_sub, abin_mul, abin_eql, abin_neq, abin_lss, abin_leq, abin_gtr, abin_geq, aunary_not, aextract])
end Go.Proofs.Ythkmkfgfabjhnaa

