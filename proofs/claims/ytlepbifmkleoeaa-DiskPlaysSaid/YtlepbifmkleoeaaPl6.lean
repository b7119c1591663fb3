/-
  The walk through the disk's code, part 6: what its functions do to memory. Nothing is asked.
-/
import Derived.Test.YtlepbifmkleoeaaPl5
set_option linter.all false
namespace Go.Proofs.Ytlepbifmkleoeaa
open Go Go.Ag
set_option linter.unusedVariables false
set_option maxRecDepth 100000

/-- Spoil: a slice's bytes are overwritten, nothing else is changed -/
theorem spoil8 {S : MS} {b n cap : Nat} {l : List Value} {es : Nat} (hb : S.m b = some (.cells l es)) (hn : n ≤ l.length) (hn2 : n ≤ 100000) :
    CallM Try.prog O 8 [.slice (some ⟨b, 0, none⟩) n cap] S fun v S' => S'.n = S.n ∧ ∀ x, x ≠ b → S'.m x = S.m x := by
  refine callM_body (fnIs is8 body8 res8) (O_none (by decide)) (by simp) ?_
  refine m_seq (m_reg ?_)
  rw [reg8_0]
  simp only
  refine m_block (m_loop (fun k T S' => ∃ (i : Nat) (l' : List Value), i + k = n ∧ T.get 0 = .slice (some ⟨b, 0, none⟩) n cap ∧ T.get 2 = .int .i64 i ∧ l'.length = l.length ∧ S'.m b = some (.cells l' es) ∧ S'.n = S.n ∧ ∀ x, x ≠ b → S'.m x = S.m x) n ?_ ?_)
  · exact ⟨0, l, by omega, by simp [FT.get_set, FT.setL, faS_ptr, nilS_ptr, nilS_func, nilS_yield, pickS_bool, ldS_ptr, list_cells, list_ro, partS_none, lenSl_of, lenStr_of, cvInt_of, aminmax_max, aminmax_min, abin_add, abin_sub, abin_mul, abin_eql, abin_neq, abin_lss, abin_leq, abin_gtr, abin_geq, aunary_not, aextract], by simp [FT.get_set, FT.setL, faS_ptr, nilS_ptr, nilS_func, nilS_yield, pickS_bool, ldS_ptr, list_cells, list_ro, partS_none, lenSl_of, lenStr_of, cvInt_of, aminmax_max, aminmax_min, abin_add, abin_sub, abin_mul, abin_eql, abin_neq, abin_lss, abin_leq, abin_gtr, abin_geq, aunary_not, aextract], rfl, hb, rfl, fun _ _ => rfl⟩
  · rintro k T S1 ⟨i, l', hik, t0, t2, hl, h1, h2, h3⟩
    refine m_seq (m_seq (m_reg ?_))
    rw [reg8_1]
    simp (decide := true) only [FT.get_set, FT.setL, faS_ptr, nilS_ptr, nilS_func, nilS_yield, pickS_bool, ldS_ptr, list_cells, list_ro, partS_none, lenSl_of, lenStr_of, cvInt_of, aminmax_max, aminmax_min, abin_add, abin_sub, abin_mul, abin_eql, abin_neq, abin_lss, abin_leq, abin_gtr, abin_geq, aunary_not, aextract, Option.some.injEq, Prod.mk.injEq, Value.bool.injEq, exists_eq_left', exists_and_left, and_assoc, decide_eq_true_eq, decide_eq_false_iff_not, if_true, if_false, Nat.zero_add, Nat.add_zero, Option.bind_some, true_and, and_true, forall_const, true_implies, Bool.not_eq_true, Bool.false_eq_true, false_implies, ite_self, Nat.mul_one, t0, t2]
    refine m_cond (t := decide ((i : Int) < n)) (by simp [evalT, FT.get_set, FT.setL, faS_ptr, nilS_ptr, nilS_func, nilS_yield, pickS_bool, ldS_ptr, list_cells, list_ro, partS_none, lenSl_of, lenStr_of, cvInt_of, aminmax_max, aminmax_min, abin_add, abin_sub, abin_mul, abin_eql, abin_neq, abin_lss, abin_leq, abin_gtr, abin_geq, aunary_not, aextract]) (fun h => ?_) (fun h => ?_)
    · have hi : i < n := by have := of_decide_eq_true h; omega
      refine m_skip ?_
      simp only
      refine m_seq (m_block (m_reg ?_))
      rw [reg8_3]
      simp (decide := true) only [FT.get_set, FT.setL, faS_ptr, nilS_ptr, nilS_func, nilS_yield, pickS_bool, ldS_ptr, list_cells, list_ro, partS_none, lenSl_of, lenStr_of, cvInt_of, aminmax_max, aminmax_min, abin_add, abin_sub, abin_mul, abin_eql, abin_neq, abin_lss, abin_leq, abin_gtr, abin_geq, aunary_not, aextract, Option.some.injEq, Prod.mk.injEq, Value.bool.injEq, exists_eq_left', exists_and_left, and_assoc, decide_eq_true_eq, decide_eq_false_iff_not, if_true, if_false, Nat.zero_add, Nat.add_zero, Option.bind_some, true_and, and_true, forall_const, true_implies, Bool.not_eq_true, Bool.false_eq_true, false_implies, ite_self, Nat.mul_one, t0, t2, iaSS_of (k := .i64) (i := (i : Int)) (by omega) (by omega : (i : Int) < (n : Int))]
      obtain ⟨S2, g1, g2, g3, g4⟩ := st_one (off := i) (v := .int .u8 238) h1 (by omega) rfl rfl
      simp only [Int.toNat_natCast]
      refine ⟨S2, g1, ?_⟩
      refine m_reg ?_
      rw [reg8_2]
      simp (decide := true) only [FT.get_set, FT.setL, faS_ptr, nilS_ptr, nilS_func, nilS_yield, pickS_bool, ldS_ptr, list_cells, list_ro, partS_none, lenSl_of, lenStr_of, cvInt_of, aminmax_max, aminmax_min, abin_add, abin_sub, abin_mul, abin_eql, abin_neq, abin_lss, abin_leq, abin_gtr, abin_geq, aunary_not, aextract, Option.some.injEq, Prod.mk.injEq, Value.bool.injEq, exists_eq_left', exists_and_left, and_assoc, decide_eq_true_eq, decide_eq_false_iff_not, if_true, if_false, Nat.zero_add, Nat.add_zero, Option.bind_some, true_and, and_true, forall_const, true_implies, Bool.not_eq_true, Bool.false_eq_true, false_implies, ite_self, Nat.mul_one, t0, t2]
      refine ⟨k - 1, by omega, i + 1, by omega, by rw [wrap_i64 (by omega) (by omega)]; rfl, _, by rw [List.length_set]; exact hl, g2, by rw [g3, h2], fun x hx => by rw [g4 x hx, h3 x hx]⟩
    · refine m_exit ?_
      simp [resM]
      exact ⟨h2, h3⟩

/-- Bytes: of two slices that hold the same -/
theorem bytes12 {S : MS} {b b' n cap cap' : Nat} {l l' : List Value} {bs : List UInt8} (hb : S.list b = some l) (hb' : S.list b' = some l') (hn : n ≤ l.length) (hn' : n ≤ l'.length) (he : l.take n = l'.take n) (hbs : toBytes (l.take n) = some bs) {Q : Value → MS → Prop} (hq : Q (.bool true) S) :
    CallM Try.prog O 12 [.slice (some ⟨b, 0, none⟩) n cap, .slice (some ⟨b', 0, none⟩) n cap'] S Q := by
  refine callM_body (fnIs is12 body12 res12) (O_none (by decide)) (by simp) ?_
  refine m_seq (m_reg ?_)
  rw [reg12_0]
  refine m_seq (m_reg ?_)
  rw [reg12_1]
  have r1 : strS S (.slice (some ⟨b, 0, none⟩) n cap) = some (.string ⟨bs.toArray⟩) := by
    have e : strS S (.slice (some ⟨b, 0, none⟩) n cap) = (S.readAt b 0 n).bind fun cs => (toBytes cs).map fun l => .string ⟨l.toArray⟩ := rfl
    rw [e]; unfold MS.readAt; rw [hb]; simp only [Option.bind_some]
    rw [if_pos (by simp; omega)]
    simp only [List.drop_zero, Option.bind_some, hbs, Option.map_some]
  have r2 : strS S (.slice (some ⟨b', 0, none⟩) n cap') = some (.string ⟨bs.toArray⟩) := by
    have e : strS S (.slice (some ⟨b', 0, none⟩) n cap') = (S.readAt b' 0 n).bind fun cs => (toBytes cs).map fun l => .string ⟨l.toArray⟩ := rfl
    rw [e]; unfold MS.readAt; rw [hb']; simp only [Option.bind_some]
    rw [if_pos (by simp; omega)]
    simp only [List.drop_zero, Option.bind_some, ← he, hbs, Option.map_some]
  simp [FT.get_set, FT.setL, faS_ptr, nilS_ptr, nilS_func, nilS_yield, pickS_bool, ldS_ptr, list_cells, list_ro, partS_none, lenSl_of, lenStr_of, cvInt_of, aminmax_max, aminmax_min, abin_add, abin_sub, abin_mul, abin_eql, abin_neq, abin_lss, abin_leq, abin_gtr, abin_geq, aunary_not, aextract, r1, r2, abin_str_eql]
  refine m_ret ?_
  simp [resM, FT.get_set, FT.setL, faS_ptr, nilS_ptr, nilS_func, nilS_yield, pickS_bool, ldS_ptr, list_cells, list_ro, partS_none, lenSl_of, lenStr_of, cvInt_of, aminmax_max, aminmax_min, abin_add, abin_sub, abin_mul, abin_eql, abin_neq, abin_lss, abin_leq, abin_gtr, abin_geq, aunary_not, aextract, oneOrTuple]
  exact hq

/-- New -/
def newDK (a n : Nat) : DK := ⟨a, a + 1, 0, List.replicate n none, List.replicate n none, [], -1, false⟩
theorem new5_bad {S : MS} (n : Int) (hn : n < 1 ∨ 16384 < n) {Q : Value → MS → Prop} (hq : Q (.tuple #[.pointer none, .int .i64 10]) S) : CallM Try.prog O 5 [.int .i64 n] S Q := by
  refine callM_body (fnIs is5 body5 res5) (O_none (by decide)) (by simp) ?_
  refine m_seq (m_reg ?_)
  rw [reg5_0]
  refine m_seq (m_seq (m_reg ?_))
  rw [reg5_1]
  simp (decide := true) only [FT.get_set, FT.setL, faS_ptr, nilS_ptr, nilS_func, nilS_yield, pickS_bool, ldS_ptr, list_cells, list_ro, partS_none, lenSl_of, lenStr_of, cvInt_of, aminmax_max, aminmax_min, abin_add, abin_sub, abin_mul, abin_eql, abin_neq, abin_lss, abin_leq, abin_gtr, abin_geq, aunary_not, aextract, Option.some.injEq, Prod.mk.injEq, Value.bool.injEq, exists_eq_left', exists_and_left, and_assoc, decide_eq_true_eq, decide_eq_false_iff_not, if_true, if_false, Nat.zero_add, Nat.add_zero, Option.bind_some, true_and, and_true, forall_const, true_implies, Bool.not_eq_true, Bool.false_eq_true, false_implies, ite_self, Nat.mul_one, ]
  have main : ∀ T, MWp Try.prog O 16 (.seq (.region 2 (ro 5 2) false) .ret) T S fun x T' S' => x = .ret ∧ T'.get 2 = .pointer none ∧ T'.get 3 = .int .i64 10 ∧ S' = S := by
    intro T
    refine m_seq (m_reg ?_)
    rw [reg5_2]
    refine m_ret ?_
    simp [FT.get_set, FT.setL, faS_ptr, nilS_ptr, nilS_func, nilS_yield, pickS_bool, ldS_ptr, list_cells, list_ro, partS_none, lenSl_of, lenStr_of, cvInt_of, aminmax_max, aminmax_min, abin_add, abin_sub, abin_mul, abin_eql, abin_neq, abin_lss, abin_leq, abin_gtr, abin_geq, aunary_not, aextract]
  refine ⟨fun h => ?_, fun h => ?_⟩
  · refine m_cond (t := true) (by simp [evalT, FT.get_set, FT.setL, faS_ptr, nilS_ptr, nilS_func, nilS_yield, pickS_bool, ldS_ptr, list_cells, list_ro, partS_none, lenSl_of, lenStr_of, cvInt_of, aminmax_max, aminmax_min, abin_add, abin_sub, abin_mul, abin_eql, abin_neq, abin_lss, abin_leq, abin_gtr, abin_geq, aunary_not, aextract, h]) (fun _ => ?_) (fun h => by cases h)
    refine (main _).mono ?_
    rintro x T' S' ⟨rfl, h4, h5, rfl⟩
    simp [resM, h4, h5, oneOrTuple]
    exact hq
  · refine m_cond (t := decide (n > 16384)) (by simp [evalT, FT.get_set, FT.setL, faS_ptr, nilS_ptr, nilS_func, nilS_yield, pickS_bool, ldS_ptr, list_cells, list_ro, partS_none, lenSl_of, lenStr_of, cvInt_of, aminmax_max, aminmax_min, abin_add, abin_sub, abin_mul, abin_eql, abin_neq, abin_lss, abin_leq, abin_gtr, abin_geq, aunary_not, aextract, h]) (fun _ => ?_) (fun h2 => ?_)
    · refine (main _).mono ?_
      rintro x T' S' ⟨rfl, h4, h5, rfl⟩
      simp [resM, h4, h5, oneOrTuple]
      exact hq
    · have := of_decide_eq_false h2
      have h : ¬ n < 1 := h
      omega
theorem bd_d (a b : Value) (ha : a.cells = #[a]) (hb : b.cells = #[b]) : bdS (fun i => [(0, 1), (1, 1), (2, 1), (3, 1), (4, 1)][i]?) [.slice none 0 0, .slice none 0 0, .slice none 0 0, .int .i64 0, .bool false] [(0, a), (1, b), (3, (.int .i64 (-1)))] = some (.agg #[a, b, .slice none 0 0, .int .i64 (-1), .bool false]) := by
  simp [bdS, fillL, spliceL, ha, hb, cells_int]
theorem new5 {S : MS} (n : Nat) (h1 : 1 ≤ n) (h2 : n ≤ 16384) {Q : Value → MS → Prop} (hq : ∀ S', IsD S' (S.n + 2) (newDK S.n n) → S'.n = S.n + 3 → (∀ x, x < S.n → S'.m x = S.m x) → Q (.tuple #[.pointer (some ⟨S.n + 2, 0, none⟩), .int .i64 0]) S') :
    CallM Try.prog O 5 [.int .i64 n] S Q := by
  refine callM_body (fnIs is5 body5 res5) (O_none (by decide)) (by simp) ?_
  refine m_seq (m_reg ?_)
  rw [reg5_0]
  refine m_seq (m_seq (m_reg ?_))
  rw [reg5_1]
  simp (decide := true) only [FT.get_set, FT.setL, faS_ptr, nilS_ptr, nilS_func, nilS_yield, pickS_bool, ldS_ptr, list_cells, list_ro, partS_none, lenSl_of, lenStr_of, cvInt_of, aminmax_max, aminmax_min, abin_add, abin_sub, abin_mul, abin_eql, abin_neq, abin_lss, abin_leq, abin_gtr, abin_geq, aunary_not, aextract, Option.some.injEq, Prod.mk.injEq, Value.bool.injEq, exists_eq_left', exists_and_left, and_assoc, decide_eq_true_eq, decide_eq_false_iff_not, if_true, if_false, Nat.zero_add, Nat.add_zero, Option.bind_some, true_and, and_true, forall_const, true_implies, Bool.not_eq_true, Bool.false_eq_true, false_implies, ite_self, Nat.mul_one, ]
  refine ⟨fun h => absurd (h : (n : Int) < 1) (by omega), fun h => ?_⟩
  refine m_cond (t := false) ?_ (fun h => by cases h) (fun _ => ?_)
  · have : ¬ (n : Int) < 1 := by omega
    have h3 : ¬ (n : Int) > 16384 := by omega
    simp [evalT, FT.get_set, FT.setL, faS_ptr, nilS_ptr, nilS_func, nilS_yield, pickS_bool, ldS_ptr, list_cells, list_ro, partS_none, lenSl_of, lenStr_of, cvInt_of, aminmax_max, aminmax_min, abin_add, abin_sub, abin_mul, abin_eql, abin_neq, abin_lss, abin_leq, abin_gtr, abin_geq, aunary_not, aextract, this]; omega
  refine m_skip ?_
  simp only
  refine m_seq (m_draw ?_)
  rw [reg5_3]
  simp (decide := true) only [FT.get_set, FT.setL, faS_ptr, nilS_ptr, nilS_func, nilS_yield, pickS_bool, ldS_ptr, list_cells, list_ro, partS_none, lenSl_of, lenStr_of, cvInt_of, aminmax_max, aminmax_min, abin_add, abin_sub, abin_mul, abin_eql, abin_neq, abin_lss, abin_leq, abin_gtr, abin_geq, aunary_not, aextract, Option.some.injEq, Prod.mk.injEq, Value.bool.injEq, exists_eq_left', exists_and_left, and_assoc, decide_eq_true_eq, decide_eq_false_iff_not, if_true, if_false, Nat.zero_add, Nat.add_zero, Option.bind_some, true_and, and_true, forall_const, true_implies, Bool.not_eq_true, Bool.false_eq_true, false_implies, ite_self, Nat.mul_one, msS_of (n := n) S 1 8 [.pointer none] .i64 .i64 (by omega) (by omega), msS_of (n := n) (S.fresh (zeros [.pointer none] n) 1) 1 8 [.pointer none] .i64 .i64 (by omega) (by omega), fresh_n, bd_d (.slice (some ⟨S.n, 0, none⟩) n n) (.slice (some ⟨S.n + 1, 0, none⟩) n n) rfl rfl]
  refine m_ret ?_
  simp [resM, FT.get_set, FT.setL, faS_ptr, nilS_ptr, nilS_func, nilS_yield, pickS_bool, ldS_ptr, list_cells, list_ro, partS_none, lenSl_of, lenStr_of, cvInt_of, aminmax_max, aminmax_min, abin_add, abin_sub, abin_mul, abin_eql, abin_neq, abin_lss, abin_leq, abin_gtr, abin_geq, aunary_not, aextract, oneOrTuple, ptrTo, fresh_n]
  have hz : zeros [.pointer none] n = (List.replicate n none).map pv := by rw [zeros_one, List.map_replicate]; rfl
  refine hq _ ⟨by simp [newDK], ?_, ?_, ?_, fun hw => absurd rfl hw, by simp [newDK], by simp [newDK]; omega⟩ (by simp [fresh_n]) (fun x hx => ?_)
  · have e : S.n + 2 = ((S.fresh (zeros [.pointer none] n) 1).fresh (zeros [.pointer none] n) 1).n := rfl
    rw [e, fresh_at]
    simp [newDK, diskL, cells_agg, wsa, wsc]
  · rw [fresh_old _ _ _ (by simp only [fresh_n, newDK]; omega), fresh_old _ _ _ (by simp only [fresh_n, newDK]; omega)]
    show (S.fresh (zeros [.pointer none] n) 1).m S.n = _
    rw [fresh_at, hz]; rfl
  · rw [fresh_old _ _ _ (by simp [fresh_n, newDK])]
    show ((S.fresh (zeros [.pointer none] n) 1).fresh (zeros [.pointer none] n) 1).m ((S.fresh (zeros [.pointer none] n) 1).n) = _
    rw [fresh_at, hz]; rfl
  · rw [fresh_old _ _ _ (by simp [fresh_n]; omega), fresh_old _ _ _ (by simp [fresh_n]; omega), fresh_old _ _ _ (by omega)]
end Go.Proofs.Ytlepbifmkleoeaa
