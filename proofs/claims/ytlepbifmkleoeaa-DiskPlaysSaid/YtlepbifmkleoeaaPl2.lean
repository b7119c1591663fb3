/-
  The walk through the disk's code, part 2: what its functions do to memory. Nothing is asked.
-/
import Derived.Test.YtlepbifmkleoeaaPl1
set_option linter.all false
namespace Go.Proofs.Ytlepbifmkleoeaa
open Go Go.Ag
set_option linter.unusedVariables false
set_option maxRecDepth 100000

/-- the bytes of a block of the law's -/
def blk (fill : Int) (n : Nat) : List Value := (List.range n).map fun (i : Nat) => .int .u8 ((fill + (i : Int) % 7) % 256)
theorem blk_len (fill : Int) (n : Nat) : (blk fill n).length = n := by simp [blk]
theorem blk_get (fill : Int) (n j : Nat) (h : j < n) : (blk fill n)[j]? = some (.int .u8 ((fill + (j : Int) % 7) % 256)) := by simp [blk, h]

theorem block6 {S : MS} {fill : Int} {short : Bool} {n : Nat} (hn : n = if short then 255 else 256) :
    CallM Try.prog O 6 [.int .u8 fill, .bool short] S fun v S' => v = .slice (some ⟨S.n, 0, none⟩) n n ∧ S' = S.fresh (blk fill n) 1 := by
  refine callM_body (fnIs is6 body6 res6) (O_none (by decide)) (by simp) ?_
  refine m_seq (m_reg ?_)
  rw [reg6_0]
  refine m_seq (m_reg ?_)
  rw [reg6_1]
  refine m_seq (m_seq (m_reg ?_))
  rw [reg6_2]
  -- how long
  have hlen : MWp Try.prog O 27 (.cond (.tmp 8) (.region 3 (ro 6 3) false) .skip) ((((FT.empty.setL 0 [.int .u8 fill, .bool short]).set (.slice none 0 0) 4).set (.int .i64 256) 5).set ((((FT.empty.setL 0 [.int .u8 fill, .bool short]).set (.slice none 0 0) 4).set (.int .i64 256) 5).get 1) 8) S
      fun x T1 S1 => x = .normal ∧ S1 = S ∧ T1.get 0 = .int .u8 fill ∧ T1.get 5 = .int .i64 n := by
    refine m_cond (t := short) (by simp [evalT, FT.get_set, FT.setL, faS_ptr, nilS_ptr, nilS_func, nilS_yield, pickS_bool, ldS_ptr, list_cells, list_ro, partS_none, lenSl_of, lenStr_of, cvInt_of, aminmax_max, aminmax_min, abin_add, abin_sub, abin_mul, abin_eql, abin_neq, abin_lss, abin_leq, abin_gtr, abin_geq, aunary_not, aextract]) (fun h => ?_) (fun h => ?_)
    · subst h
      refine m_reg ?_
      rw [reg6_3]
      simp [FT.get_set, FT.setL, faS_ptr, nilS_ptr, nilS_func, nilS_yield, pickS_bool, ldS_ptr, list_cells, list_ro, partS_none, lenSl_of, lenStr_of, cvInt_of, aminmax_max, aminmax_min, abin_add, abin_sub, abin_mul, abin_eql, abin_neq, abin_lss, abin_leq, abin_gtr, abin_geq, aunary_not, aextract, hn]
      decide
    · subst h
      refine m_skip ?_
      simp [FT.get_set, FT.setL, faS_ptr, nilS_ptr, nilS_func, nilS_yield, pickS_bool, ldS_ptr, list_cells, list_ro, partS_none, lenSl_of, lenStr_of, cvInt_of, aminmax_max, aminmax_min, abin_add, abin_sub, abin_mul, abin_eql, abin_neq, abin_lss, abin_leq, abin_gtr, abin_geq, aunary_not, aextract, hn]
  refine hlen.mono fun x T1 S1 => ?_
  rintro ⟨rfl, rfl, h0, h5⟩
  have hn1 : n ≤ 256 := by rw [hn]; split <;> omega
  refine m_seq (m_reg ?_)
  rw [reg6_4]
  rw [h5, msS_of S1 1 1 [.int .u8 0] .i64 .i64 (by omega) (by omega)]
  simp only [Option.some.injEq, Prod.mk.injEq]
  refine ⟨_, _, ⟨rfl, rfl⟩, ?_⟩
  refine m_seq (m_seq (m_reg ?_))
  rw [reg6_5]
  simp only
  -- the loop
  have hloop : ∀ T S, T.get 0 = .int .u8 fill → T.get 5 = .int .i64 n → T.get 6 = .slice (some ⟨S1.n, 0, none⟩) n n → T.get 7 = .int .i64 0 → S = S1.fresh (zeros [.int .u8 0] n) 1 →
      MWp Try.prog O 27 (.block 0 (.loop (.seq (.seq (.region 6 (ro 6 6) false) (.cond (.tmp 15) .skip (.exit 0))) (.seq (.block 1 (.region 8 (ro 6 8) false)) (.region 7 (ro 6 7) false))))) T S
        fun x T2 S2 => x = .normal ∧ T2.get 6 = .slice (some ⟨S1.n, 0, none⟩) n n ∧ S2 = S1.fresh (blk fill n) 1 := by
    intro T S a0 a5 a6 a7 aS
    refine m_block (m_loop (fun k T S => ∃ (i : Nat) (l : List Value), i + k = n ∧ T.get 0 = .int .u8 fill ∧ T.get 5 = .int .i64 n ∧ T.get 6 = .slice (some ⟨S1.n, 0, none⟩) n n ∧ T.get 7 = .int .i64 i ∧ l.length = n ∧
      (∀ j, j < i → l[j]? = some (.int .u8 ((fill + (j : Int) % 7) % 256))) ∧ S = S1.fresh l 1) n ?_ ?_)
    · exact ⟨0, _, by omega, a0, a5, a6, a7, by rw [zeros_len]; simp, fun j hj => by omega, aS⟩
    · rintro k T S ⟨i, l, hik, b0, b5, b6, b7, hl, hc, rfl⟩
      refine m_seq (m_seq (m_reg ?_))
      rw [reg6_6]
      simp [FT.get_set, FT.setL, faS_ptr, nilS_ptr, nilS_func, nilS_yield, pickS_bool, ldS_ptr, list_cells, list_ro, partS_none, lenSl_of, lenStr_of, cvInt_of, aminmax_max, aminmax_min, abin_add, abin_sub, abin_mul, abin_eql, abin_neq, abin_lss, abin_leq, abin_gtr, abin_geq, aunary_not, aextract, b5, b7]
      refine m_cond (t := decide ((i : Int) < n)) (by simp [evalT, FT.get_set, FT.setL, faS_ptr, nilS_ptr, nilS_func, nilS_yield, pickS_bool, ldS_ptr, list_cells, list_ro, partS_none, lenSl_of, lenStr_of, cvInt_of, aminmax_max, aminmax_min, abin_add, abin_sub, abin_mul, abin_eql, abin_neq, abin_lss, abin_leq, abin_gtr, abin_geq, aunary_not, aextract]) (fun h => ?_) (fun h => ?_)
      · have hi : i < n := by have := of_decide_eq_true h; omega
        refine m_skip ?_
        simp only
        refine m_seq (m_block (m_reg ?_))
        rw [reg6_8]
        have hm7 : (i : Int).tmod 7 = (i : Int) % 7 := Int.tmod_eq_emod_of_nonneg (by omega)
        simp [FT.get_set, FT.setL, faS_ptr, nilS_ptr, nilS_func, nilS_yield, pickS_bool, ldS_ptr, list_cells, list_ro, partS_none, lenSl_of, lenStr_of, cvInt_of, aminmax_max, aminmax_min, abin_add, abin_sub, abin_mul, abin_eql, abin_neq, abin_lss, abin_leq, abin_gtr, abin_geq, aunary_not, aextract, b0, b5, b6, b7, abin_rem, hm7, wrap_u8, iaSS_of (k := .i64) (i := (i : Int)) (by omega) (by omega : (i : Int) < (n : Int))]
        rw [stS_one (l := l) (es := 1) (by rw [fresh_m, if_pos rfl]) (by omega) rfl rfl, set_fresh]
        refine ⟨_, rfl, ?_⟩
        refine m_reg ?_
        rw [reg6_7]
        simp [FT.get_set, FT.setL, faS_ptr, nilS_ptr, nilS_func, nilS_yield, pickS_bool, ldS_ptr, list_cells, list_ro, partS_none, lenSl_of, lenStr_of, cvInt_of, aminmax_max, aminmax_min, abin_add, abin_sub, abin_mul, abin_eql, abin_neq, abin_lss, abin_leq, abin_gtr, abin_geq, aunary_not, aextract, b0, b5, b6, b7]
        refine ⟨k - 1, by omega, i + 1, by omega, ?_, _, by rw [List.length_set]; exact hl, fun j hj => ?_, rfl⟩
        · rw [wrap_i64 (by omega) (by omega)]; rfl
        · rw [List.getElem?_set]
          by_cases e : i = j
          · subst e
            rw [if_pos rfl, if_pos (by omega)]
          · rw [if_neg e]; exact hc j (by omega)
      · have hi : i = n := by have := of_decide_eq_false h; omega
        refine m_exit ?_
        simp [FT.get_set, FT.setL, faS_ptr, nilS_ptr, nilS_func, nilS_yield, pickS_bool, ldS_ptr, list_cells, list_ro, partS_none, lenSl_of, lenStr_of, cvInt_of, aminmax_max, aminmax_min, abin_add, abin_sub, abin_mul, abin_eql, abin_neq, abin_lss, abin_leq, abin_gtr, abin_geq, aunary_not, aextract, b6]
        congr 1
        refine List.ext_getElem? fun j => ?_
        by_cases hj : j < n
        · rw [hc j (by omega), blk_get _ _ _ hj]
        · rw [List.getElem?_eq_none (by omega), List.getElem?_eq_none (by rw [blk_len]; omega)]
  refine (hloop _ _ (by simp [FT.get_set, FT.setL, faS_ptr, nilS_ptr, nilS_func, nilS_yield, pickS_bool, ldS_ptr, list_cells, list_ro, partS_none, lenSl_of, lenStr_of, cvInt_of, aminmax_max, aminmax_min, abin_add, abin_sub, abin_mul, abin_eql, abin_neq, abin_lss, abin_leq, abin_gtr, abin_geq, aunary_not, aextract, h0]) (by simp [FT.get_set, FT.setL, faS_ptr, nilS_ptr, nilS_func, nilS_yield, pickS_bool, ldS_ptr, list_cells, list_ro, partS_none, lenSl_of, lenStr_of, cvInt_of, aminmax_max, aminmax_min, abin_add, abin_sub, abin_mul, abin_eql, abin_neq, abin_lss, abin_leq, abin_gtr, abin_geq, aunary_not, aextract, h5]) (by simp [FT.get_set, FT.setL, faS_ptr, nilS_ptr, nilS_func, nilS_yield, pickS_bool, ldS_ptr, list_cells, list_ro, partS_none, lenSl_of, lenStr_of, cvInt_of, aminmax_max, aminmax_min, abin_add, abin_sub, abin_mul, abin_eql, abin_neq, abin_lss, abin_leq, abin_gtr, abin_geq, aunary_not, aextract]) (by simp [FT.get_set, FT.setL, faS_ptr, nilS_ptr, nilS_func, nilS_yield, pickS_bool, ldS_ptr, list_cells, list_ro, partS_none, lenSl_of, lenStr_of, cvInt_of, aminmax_max, aminmax_min, abin_add, abin_sub, abin_mul, abin_eql, abin_neq, abin_lss, abin_leq, abin_gtr, abin_geq, aunary_not, aextract]) rfl).mono ?_
  rintro x T2 S2 ⟨rfl, c6, rfl⟩
  refine m_seq (m_reg ?_)
  rw [reg6_9]
  refine m_ret ?_
  simp [FT.get_set, FT.setL, faS_ptr, nilS_ptr, nilS_func, nilS_yield, pickS_bool, ldS_ptr, list_cells, list_ro, partS_none, lenSl_of, lenStr_of, cvInt_of, aminmax_max, aminmax_min, abin_add, abin_sub, abin_mul, abin_eql, abin_neq, abin_lss, abin_leq, abin_gtr, abin_geq, aunary_not, aextract, c6, resM, oneOrTuple]
end Go.Proofs.Ytlepbifmkleoeaa
