/-
  The walk through the journal's code: what its functions do to memory, part PyD2. Nothing is asked.
-/
import Derived.Test.YtmfmbadfgnhonaaPyD1
set_option linter.all false
namespace Go.Proofs.Ytmfmbadfgnhonaa
open Go Go.Ag
set_option linter.unusedVariables false
set_option maxRecDepth 100000

theorem bd_w (a b : Value) (ha : a.cells = #[a]) (hb : b.cells = #[b]) : bdS (fun i => [(0, 1), (1, 1)][i]?) [.int .i64 0, .pointer none] [(0, a), (1, b)] = some (.agg #[a, b]) := by
  simp [bdS, fillL, spliceL, ha, hb]

theorem partS_two (a b : Value) : partS (some 2) [a, b] 0 = some (.agg #[a, b]) := rfl
theorem bsS_two (S : MS) (z1 z2 a b : Value) : bsS S 1 2 [z1, z2] [(0, .agg #[a, b])] = some (.slice (some ⟨S.n, 0, none⟩) 1 1, S.fresh [a, b] 2) := bsS_one S 2 [z1, z2] (.agg #[a, b]) rfl rfl

/-- what a write makes of a disk -/
def writeDK (D : DK) (i a wb : Nat) : DK := { D with wb := wb, now := D.now.set i (some a), ws := D.ws ++ [(i, a)], halt := if D.halt > 0 then D.halt - 1 else D.halt, cut := if D.halt > 0 then D.halt - 1 == 0 else D.cut }

theorem writeD {S : MS} {d : Nat} {D : DK} (h : IsD S d D) (i : Int) {ba blen bcap : Nat} {bl : List Value} (hb : S.list ba = some bl) (hbl : blen ≤ bl.length) (hone : bl.all oneCell = true) (hws : D.ws.length < 1000000) (hhalt : D.halt ≤ 9223372036854775807) {Q : Value → MS → Prop}
    (q1 : D.cut = true → Q (.int .i64 12) S)
    (q2 : D.cut = false → ¬ (0 ≤ i ∧ i < D.made.length) → Q (.int .i64 11) S)
    (q3 : D.cut = false → 0 ≤ i → i < D.made.length → blen ≠ 256 → Q (.int .i64 10) S)
    (q4 : D.cut = false → 0 ≤ i → i < D.made.length → blen = 256 → ∀ wb S', IsD S' d (writeDK D i.toNat S.n wb) → S.n ≤ wb → S.n ≤ S'.n → S'.m S.n = some (.cells (bl.take 256) 0) → (∀ x, x < S.n → x ≠ d → x ≠ D.nb → (D.ws ≠ [] → x ≠ D.wb) → S'.m x = S.m x) → Q (.int .i64 0) S') :
    CallM Try.prog O 30 [.pointer (some ⟨d, 0, none⟩), .int .i64 i, .slice (some ⟨ba, 0, none⟩) blen bcap] S Q := by
  refine callM_wf fun wf => ?_
  refine callM_body (fnIs is30 body30 res30) (O_none (by decide)) (by simp) ?_
  refine m_seq (m_reg ?_)
  rw [reg30_0]
  refine m_seq (m_block (m_seq (m_reg ?_)))
  rw [reg30_1]
  simp [FT.get_set, FT.setL, faS_ptr, nilS_ptr, nilS_func, nilS_yield, pickS_bool, ldS_ptr, list_cells, list_ro, partS_none, lenSl_of, lenStr_of, cvInt_of, aminmax_max, aminmax_min, abin_add, abin_sub, abin_mul, abin_eql, abin_neq, abin_lss, abin_leq, abin_gtr, abin_geq, aunary_not, aextract, list_of h.hd, dl0, dl1, dl2, dl3, dl4, dlen, ds2, ds3, ds4]
  refine m_cond (t := D.cut) (by simp [evalT, FT.get_set, FT.setL, faS_ptr, nilS_ptr, nilS_func, nilS_yield, pickS_bool, ldS_ptr, list_cells, list_ro, partS_none, lenSl_of, lenStr_of, cvInt_of, aminmax_max, aminmax_min, abin_add, abin_sub, abin_mul, abin_eql, abin_neq, abin_lss, abin_leq, abin_gtr, abin_geq, aunary_not, aextract]) (fun hcut => ?_) (fun hcut => ?_)
  · refine m_seq (m_reg ?_)
    rw [reg30_2]
    refine m_ret ?_
    simp [resM, FT.get_set, FT.setL, faS_ptr, nilS_ptr, nilS_func, nilS_yield, pickS_bool, ldS_ptr, list_cells, list_ro, partS_none, lenSl_of, lenStr_of, cvInt_of, aminmax_max, aminmax_min, abin_add, abin_sub, abin_mul, abin_eql, abin_neq, abin_lss, abin_leq, abin_gtr, abin_geq, aunary_not, aextract, oneOrTuple]
    exact q1 hcut
  · refine m_seq (m_reg ?_)
    rw [reg30_3]
    simp (decide := true) only [FT.get_set, FT.setL, faS_ptr, nilS_ptr, nilS_func, nilS_yield, pickS_bool, ldS_ptr, list_cells, list_ro, partS_none, lenSl_of, lenStr_of, cvInt_of, aminmax_max, aminmax_min, abin_add, abin_sub, abin_mul, abin_eql, abin_neq, abin_lss, abin_leq, abin_gtr, abin_geq, aunary_not, aextract, Option.some.injEq, Prod.mk.injEq, Value.bool.injEq, exists_eq_left', exists_and_left, and_assoc, decide_eq_true_eq, decide_eq_false_iff_not, if_true, if_false, Nat.zero_add, Nat.add_zero, Option.bind_some, true_and, and_true, forall_const, true_implies, Bool.not_eq_true, Bool.false_eq_true, false_implies, ite_self, Nat.mul_one, list_of h.hd, dl0, dl1, dl2, dl3, dl4, dlen, ds2, ds3, ds4]
    have bad : ∀ T, MWp Try.prog O 76 (.seq (.region 4 (ro 30 4) false) .ret) T S fun x T' S' => x = .ret ∧ T'.get 6 = .int .i64 11 ∧ S' = S := by
      intro T
      refine m_seq (m_reg ?_)
      rw [reg30_4]
      refine m_ret ?_
      simp [FT.get_set, FT.setL, faS_ptr, nilS_ptr, nilS_func, nilS_yield, pickS_bool, ldS_ptr, list_cells, list_ro, partS_none, lenSl_of, lenStr_of, cvInt_of, aminmax_max, aminmax_min, abin_add, abin_sub, abin_mul, abin_eql, abin_neq, abin_lss, abin_leq, abin_gtr, abin_geq, aunary_not, aextract]
    refine ⟨fun hneg => ?_, fun hpos => ?_⟩
    · refine m_cond (t := true) (by simp [evalT, FT.get_set, FT.setL, faS_ptr, nilS_ptr, nilS_func, nilS_yield, pickS_bool, ldS_ptr, list_cells, list_ro, partS_none, lenSl_of, lenStr_of, cvInt_of, aminmax_max, aminmax_min, abin_add, abin_sub, abin_mul, abin_eql, abin_neq, abin_lss, abin_leq, abin_gtr, abin_geq, aunary_not, aextract, hneg]) (fun _ => ?_) (fun h => by cases h)
      have hneg : i < 0 := hneg
      refine (bad _).mono ?_
      rintro x T' S' ⟨rfl, h4, rfl⟩
      simp [resM, h4, oneOrTuple]
      exact q2 hcut (by omega)
    · have hpos : 0 ≤ i := Int.not_lt.1 hpos
      refine m_cond (t := decide ((D.made.length : Int) ≤ i)) (by simp [evalT, FT.get_set, FT.setL, faS_ptr, nilS_ptr, nilS_func, nilS_yield, pickS_bool, ldS_ptr, list_cells, list_ro, partS_none, lenSl_of, lenStr_of, cvInt_of, aminmax_max, aminmax_min, abin_add, abin_sub, abin_mul, abin_eql, abin_neq, abin_lss, abin_leq, abin_gtr, abin_geq, aunary_not, aextract, Int.not_lt.2 hpos]) (fun hge => ?_) (fun hlt => ?_)
      · have hge := of_decide_eq_true hge
        refine (bad _).mono ?_
        rintro x T' S' ⟨rfl, h4, rfl⟩
        simp [resM, h4, oneOrTuple]
        exact q2 hcut (by omega)
      · have hlt := of_decide_eq_false hlt
        have hlt : i < D.made.length := by omega
        refine m_seq (m_reg ?_)
        rw [reg30_5]
        simp (decide := true) only [FT.get_set, FT.setL, faS_ptr, nilS_ptr, nilS_func, nilS_yield, pickS_bool, ldS_ptr, list_cells, list_ro, partS_none, lenSl_of, lenStr_of, cvInt_of, aminmax_max, aminmax_min, abin_add, abin_sub, abin_mul, abin_eql, abin_neq, abin_lss, abin_leq, abin_gtr, abin_geq, aunary_not, aextract, Option.some.injEq, Prod.mk.injEq, Value.bool.injEq, exists_eq_left', exists_and_left, and_assoc, decide_eq_true_eq, decide_eq_false_iff_not, if_true, if_false, Nat.zero_add, Nat.add_zero, Option.bind_some, true_and, and_true, forall_const, true_implies, Bool.not_eq_true, Bool.false_eq_true, false_implies, ite_self, Nat.mul_one, ]
        refine m_cond (t := (blen : Int) != 256) (by simp [evalT, FT.get_set, FT.setL, faS_ptr, nilS_ptr, nilS_func, nilS_yield, pickS_bool, ldS_ptr, list_cells, list_ro, partS_none, lenSl_of, lenStr_of, cvInt_of, aminmax_max, aminmax_min, abin_add, abin_sub, abin_mul, abin_eql, abin_neq, abin_lss, abin_leq, abin_gtr, abin_geq, aunary_not, aextract]) (fun hne => ?_) (fun heq => ?_)
        · refine m_seq (m_reg ?_)
          rw [reg30_6]
          refine m_ret ?_
          simp [resM, FT.get_set, FT.setL, faS_ptr, nilS_ptr, nilS_func, nilS_yield, pickS_bool, ldS_ptr, list_cells, list_ro, partS_none, lenSl_of, lenStr_of, cvInt_of, aminmax_max, aminmax_min, abin_add, abin_sub, abin_mul, abin_eql, abin_neq, abin_lss, abin_leq, abin_gtr, abin_geq, aunary_not, aextract, oneOrTuple]
          exact q3 hcut hpos hlt (by simp at hne; omega)
        · have hb256 : blen = 256 := by simp at heq; omega
          subst hb256
          refine m_skip ?_
          simp only
          have hdlt := wf _ _ h.hd
          have hnlt := wf _ _ h.hn
          have hmlt := wf _ _ h.hm
          have hin : i.toNat < D.now.length := by rw [h.len]; omega
          -- the record of the write
          refine m_seq (m_reg ?_)
          rw [reg30_7]
          simp (decide := true) only [FT.get_set, FT.setL, faS_ptr, nilS_ptr, nilS_func, nilS_yield, pickS_bool, ldS_ptr, list_cells, list_ro, partS_none, lenSl_of, lenStr_of, cvInt_of, aminmax_max, aminmax_min, abin_add, abin_sub, abin_mul, abin_eql, abin_neq, abin_lss, abin_leq, abin_gtr, abin_geq, aunary_not, aextract, Option.some.injEq, Prod.mk.injEq, Value.bool.injEq, exists_eq_left', exists_and_left, and_assoc, decide_eq_true_eq, decide_eq_false_iff_not, if_true, if_false, Nat.zero_add, Nat.add_zero, Option.bind_some, true_and, and_true, forall_const, true_implies, Bool.not_eq_true, Bool.false_eq_true, false_implies, ite_self, Nat.mul_one, ptrTo, fresh_n, bd_w (.int .i64 i) (.pointer (some ⟨S.n, 0, none⟩)) rfl rfl]
          obtain ⟨S1, s1, s2, s3, s4⟩ := st_all (n := 2) (cs := #[.int .i64 i, .pointer (some ⟨S.n, 0, none⟩)]) (fresh_at (S.fresh (List.replicate 256 (.int .u8 0)) 0) [.int .i64 0, .pointer none] 0) rfl rfl rfl
          rw [fresh_n] at s1 s2 s4
          refine ⟨S1, s1, ?_⟩
          simp only [fresh_n] at s3
          have f1 : ∀ x, x < S.n → S1.m x = S.m x := fun x hx => by
            rw [s4 x (by omega), fresh_old _ _ _ (by rw [fresh_n]; omega), fresh_old _ _ _ (by omega)]
          have a1 : S1.m S.n = some (.cells (List.replicate 256 (.int .u8 0)) 0) := by
            rw [s4 _ (by omega), fresh_old _ _ _ (by rw [fresh_n]; omega), fresh_at]
          have b1 : S1.list ba = some bl := by
            unfold MS.list at hb ⊢
            obtain ⟨k, hk, _⟩ := Option.bind_eq_some_iff.1 hb
            rw [f1 _ (wf _ _ hk)]; exact hb
          -- the bytes
          refine m_seq (m_reg ?_)
          rw [reg30_8]
          simp (decide := true) only [FT.get_set, FT.setL, faS_ptr, nilS_ptr, nilS_func, nilS_yield, pickS_bool, ldS_ptr, list_cells, list_ro, partS_none, lenSl_of, lenStr_of, cvInt_of, aminmax_max, aminmax_min, abin_add, abin_sub, abin_mul, abin_eql, abin_neq, abin_lss, abin_leq, abin_gtr, abin_geq, aunary_not, aextract, Option.some.injEq, Prod.mk.injEq, Value.bool.injEq, exists_eq_left', exists_and_left, and_assoc, decide_eq_true_eq, decide_eq_false_iff_not, if_true, if_false, Nat.zero_add, Nat.add_zero, Option.bind_some, true_and, and_true, forall_const, true_implies, Bool.not_eq_true, Bool.false_eq_true, false_implies, ite_self, Nat.mul_one, list_of s2, slA_all 256 1 S.n 0 (by decide), List.getElem?_cons_succ, List.getElem?_cons_zero, Nat.reduceAdd]
          obtain ⟨S2, t1, t2, t3, t4⟩ := cp_all (dcap := 256) (x := .slice (some ⟨ba, 0, none⟩) 256 bcap) a1 rfl (by decide) (first_of b1 (Nat.le_refl _) (by decide) (by omega)) (by simp; omega) (by simp) (by simp only [List.drop_zero, Nat.mul_one]; exact List.all_eq_true.2 fun v hv => List.all_eq_true.1 hone v (List.mem_of_mem_take hv))
          simp only [List.drop_zero, Nat.mul_one] at t2
          refine ⟨_, S2, t1, ?_⟩
          have f2 : ∀ x, x < S.n → S2.m x = S.m x := fun x hx => by rw [t4 x (by omega), f1 x hx]
          have r2 : S2.m (S.n + 1) = some (.cells [.int .i64 i, .pointer (some ⟨S.n, 0, none⟩)] 0) := by rw [t4 _ (by omega)]; exact s2
          -- now
          refine m_seq (m_draw ?_)
          rw [reg30_9]
          have hd2 := (f2 d hdlt).trans h.hd
          have hn2 := (f2 D.nb hnlt).trans h.hn
          simp (decide := true) only [FT.get_set, FT.setL, faS_ptr, nilS_ptr, nilS_func, nilS_yield, pickS_bool, ldS_ptr, list_cells, list_ro, partS_none, lenSl_of, lenStr_of, cvInt_of, aminmax_max, aminmax_min, abin_add, abin_sub, abin_mul, abin_eql, abin_neq, abin_lss, abin_leq, abin_gtr, abin_geq, aunary_not, aextract, Option.some.injEq, Prod.mk.injEq, Value.bool.injEq, exists_eq_left', exists_and_left, and_assoc, decide_eq_true_eq, decide_eq_false_iff_not, if_true, if_false, Nat.zero_add, Nat.add_zero, Option.bind_some, true_and, and_true, forall_const, true_implies, Bool.not_eq_true, Bool.false_eq_true, false_implies, ite_self, Nat.mul_one, list_of hd2, dl0, dl1, dl2, dl3, dl4, dlen, ds2, ds3, ds4, list_of r2, iaSS_of (k := .i64) hpos hlt, List.getElem?_cons_succ, List.getElem?_cons_zero, Nat.reduceAdd]
          obtain ⟨S3, u1, u2, u3, u4⟩ := st_one (off := i.toNat) (v := .pointer (some ⟨S.n, 0, none⟩)) hn2 (by simp; exact hin) rfl rfl
          refine ⟨S3, u1, ?_⟩
          have hd3 := (u4 d h.dn).trans hd2
          have r3 : S3.m (S.n + 1) = _ := (u4 _ (by omega)).trans r2
          have f3 : ∀ x, x < S.n → x ≠ D.nb → S3.m x = S.m x := fun x hx hne => by rw [u4 x hne, f2 x hx]
          have hu3 : S3.n = S.n + 2 := by rw [u3, t3, s3]
          -- the writes
          refine m_seq (m_draw ?_)
          rw [reg30_10]
          simp (decide := true) only [FT.get_set, FT.setL, faS_ptr, nilS_ptr, nilS_func, nilS_yield, pickS_bool, ldS_ptr, list_cells, list_ro, partS_none, lenSl_of, lenStr_of, cvInt_of, aminmax_max, aminmax_min, abin_add, abin_sub, abin_mul, abin_eql, abin_neq, abin_lss, abin_leq, abin_gtr, abin_geq, aunary_not, aextract, Option.some.injEq, Prod.mk.injEq, Value.bool.injEq, exists_eq_left', exists_and_left, and_assoc, decide_eq_true_eq, decide_eq_false_iff_not, if_true, if_false, Nat.zero_add, Nat.add_zero, Option.bind_some, true_and, and_true, forall_const, true_implies, Bool.not_eq_true, Bool.false_eq_true, false_implies, ite_self, Nat.mul_one, list_of hd3, dl0, dl1, dl2, dl3, dl4, dlen, ds2, ds3, ds4, list_of r3, partS_two, bsS_two]
          have hs4 : (S3.fresh [.int .i64 i, .pointer (some ⟨S.n, 0, none⟩)] 2).list S3.n = some [.int .i64 i, .pointer (some ⟨S.n, 0, none⟩)] := by rw [list_of (fresh_at _ _ _)]; rfl
          have hf4 : firstCellsM (S3.fresh [.int .i64 i, .pointer (some ⟨S.n, 0, none⟩)] 2) 2 1 (.slice (some ⟨S3.n, 0, none⟩) 1 1) = some [.int .i64 i, .pointer (some ⟨S.n, 0, none⟩)] := by
            rw [first_of hs4 (by decide) (by decide) (by simp)]; rfl
          have hap : ∃ wb S5, apS false 2 16 [.int .i64 0, .pointer none] (S3.fresh [.int .i64 i, .pointer (some ⟨S.n, 0, none⟩)] 2) [.slice (wsa D.wb D.ws.length) D.ws.length (wsc D.ws.length), .slice (some ⟨S3.n, 0, none⟩) 1 1] = some (.slice (some ⟨wb, 0, none⟩) (D.ws.length + 1) unk, S5) ∧
              S.n ≤ wb ∧ wb ≠ S.n ∧ S5.n = S.n + 4 ∧ S5.m wb = some (.cells ((D.ws ++ [(i.toNat, S.n)]).flatMap wv) 2) ∧ ∀ x, x < S.n + 2 → (D.ws ≠ [] → x ≠ D.wb) → S5.m x = S3.m x := by
            have hwv : wv (i.toNat, S.n) = [.int .i64 i, .pointer (some ⟨S.n, 0, none⟩)] := by unfold wv; simp only; rw [Int.toNat_of_nonneg hpos]
            by_cases hw0 : D.ws = []
            · rw [hw0]
              have := apS_nil (S := S3.fresh [.int .i64 i, .pointer (some ⟨S.n, 0, none⟩)] 2) (sz := 2) (bytes := 16) (z := [.int .i64 0, .pointer none]) (x := .slice (some ⟨S3.n, 0, none⟩) 1 1) (n := 1) rfl hf4 rfl rfl (by decide) (by decide) (by decide)
              refine ⟨S3.n + 1, _, this, by omega, by omega, by simp [fresh_n]; omega, ?_, fun x hx _ => ?_⟩
              · rw [show S3.n + 1 = (S3.fresh [.int .i64 i, .pointer (some ⟨S.n, 0, none⟩)] 2).n from rfl, fresh_at]
                simp [hwv]
              · rw [fresh_old _ _ _ (by rw [fresh_n]; omega), fresh_old _ _ _ (by omega)]
            · have hl0 : D.ws.length ≠ 0 := fun e => hw0 (List.eq_nil_of_length_eq_zero e)
              have hwb := h.hw hw0
              have hwlt := wf _ _ hwb
              have hwb3 : S3.m D.wb = some (.cells (D.ws.flatMap wv) 2) := by rw [f3 _ hwlt (Ne.symm (h.nw hw0))]; exact hwb
              have hwb4 : (S3.fresh [.int .i64 i, .pointer (some ⟨S.n, 0, none⟩)] 2).m D.wb = some (.cells (D.ws.flatMap wv) 2) := by rw [fresh_old _ _ _ (by omega)]; exact hwb3
              have hfl : (D.ws.flatMap wv).length = D.ws.length * 2 := by
                have : ∀ l : List (Nat × Nat), (l.flatMap wv).length = l.length * 2 := by
                  intro l
                  induction l with
                  | nil => rfl
                  | cons x l ih => simp only [List.flatMap_cons, List.length_append, ih, List.length_cons, wv]; simp; omega
                exact this _
              have := apS_grow (z := [.int .i64 0, .pointer none]) (bytes := 16) hwb4 hfl (x := .slice (some ⟨S3.n, 0, none⟩) 1 1) (n := 1) rfl hf4 rfl rfl (by decide) (by decide) (by omega) (by omega)
              have e1 : wsa D.wb D.ws.length = some ⟨D.wb, 0, none⟩ := by unfold wsa; rw [if_neg hl0]
              have e2 : wsc D.ws.length = unk := by unfold wsc; rw [if_neg hl0]
              rw [e1, e2]
              refine ⟨S3.n + 1, _, this, by omega, by omega, by simp [fresh_n, del_n]; omega, ?_, fun x hx hx2 => ?_⟩
              · rw [show S3.n + 1 = ((S3.fresh [.int .i64 i, .pointer (some ⟨S.n, 0, none⟩)] 2).del D.wb).n from rfl, fresh_at]
                simp [hwv]
              · rw [fresh_old _ _ _ (by rw [del_n, fresh_n]; omega), del_old _ (hx2 hw0), fresh_old _ _ _ (by omega)]
          obtain ⟨wb, S5, v1, v2, v2', v3, v4, v5⟩ := hap
          refine ⟨_, S5, v1, ?_⟩
          have hd5 : S5.m d = _ := (v5 d (by omega) (fun hw => h.dw hw)).trans hd3
          obtain ⟨S6, w1, w2, w3, w4⟩ := st_one (off := 2) (v := .slice (some ⟨wb, 0, none⟩) (D.ws.length + 1) unk) hd5 (by rw [dlen]; decide) rfl rfl
          rw [ds2] at w2
          refine ⟨S6, w1, ?_⟩
          have hwbd : wb ≠ d := by omega
          have f6 : ∀ x, x < S.n → x ≠ d → x ≠ D.nb → (D.ws ≠ [] → x ≠ D.wb) → S6.m x = S.m x := fun x hx hxd hxn hxw => by rw [w4 x hxd, v5 x (by omega) hxw, f3 x hx hxn]
          have hn6 : S6.m D.nb = some (.cells ((D.now.set i.toNat (some S.n)).map pv) 1) := by
            rw [w4 _ (Ne.symm h.dn), v5 _ (by omega) (fun hw => h.nw hw), u2, List.map_set]; rfl
          have ha6 : S6.m S.n = some (.cells (bl.take 256) 0) := by
            rw [w4 _ (by omega), v5 _ (by omega) (fun hw => by have := wf _ _ (h.hw hw); omega), u4 _ (by omega), t2]
          have hm6 : S6.m D.mb = some (.cells (D.made.map pv) 1) := by rw [f6 _ hmlt (Ne.symm h.dm) h.mn (fun hw => h.mw hw)]; exact h.hm
          have hw6 : S6.m wb = some (.cells ((D.ws ++ [(i.toNat, S.n)]).flatMap wv) 2) := by rw [w4 _ hwbd]; exact v4
          -- the cut
          have fin : ∀ S' halt cut, S'.m d = some (.cells (diskL (.slice (some ⟨D.mb, 0, none⟩) D.made.length D.made.length) (.slice (some ⟨D.nb, 0, none⟩) D.made.length D.made.length) (.slice (some ⟨wb, 0, none⟩) (D.ws.length + 1) unk) halt cut) 0) → S'.n = S6.n → (∀ x, x ≠ d → S'.m x = S6.m x) →
              halt = (if D.halt > 0 then D.halt - 1 else D.halt) → cut = (if D.halt > 0 then D.halt - 1 == 0 else D.cut) → Q (.int .i64 0) S' := by
            intro S' halt cut g1 g2 g3 g4 g5
            refine q4 hcut hpos hlt rfl wb S' ⟨by simp [writeDK, h.len], ?_, ?_, ?_, fun _ => ?_, h.mn, h.small⟩ v2 (by omega) (by rw [g3 _ (by omega)]; exact ha6) (fun x hx hxd hxn hxw => by rw [g3 x hxd]; exact f6 x hx hxd hxn hxw)
            · rw [g1]
              have e1 : wsa wb (D.ws ++ [(i.toNat, S.n)]).length = some ⟨wb, 0, none⟩ := by unfold wsa; rw [if_neg (by simp)]
              have e2 : wsc (D.ws ++ [(i.toNat, S.n)]).length = unk := by unfold wsc; rw [if_neg (by simp)]
              rw [g4, g5]
              simp only [writeDK]
              rw [e1, e2]
              simp only [List.length_append, List.length_cons, List.length_nil]
            · show S'.m D.mb = _; rw [g3 _ (Ne.symm h.dm)]; exact hm6
            · show S'.m D.nb = _; rw [g3 _ (Ne.symm h.dn)]; exact hn6
            · show S'.m wb = _; rw [g3 _ hwbd]; exact hw6
          refine m_seq (m_seq (m_reg ?_))
          rw [reg30_11]
          simp (decide := true) only [FT.get_set, FT.setL, faS_ptr, nilS_ptr, nilS_func, nilS_yield, pickS_bool, ldS_ptr, list_cells, list_ro, partS_none, lenSl_of, lenStr_of, cvInt_of, aminmax_max, aminmax_min, abin_add, abin_sub, abin_mul, abin_eql, abin_neq, abin_lss, abin_leq, abin_gtr, abin_geq, aunary_not, aextract, Option.some.injEq, Prod.mk.injEq, Value.bool.injEq, exists_eq_left', exists_and_left, and_assoc, decide_eq_true_eq, decide_eq_false_iff_not, if_true, if_false, Nat.zero_add, Nat.add_zero, Option.bind_some, true_and, and_true, forall_const, true_implies, Bool.not_eq_true, Bool.false_eq_true, false_implies, ite_self, Nat.mul_one, list_of w2, dl0, dl1, dl2, dl3, dl4, dlen, ds2, ds3, ds4]
          have last : ∀ T S', T.get 6 = .int .i64 0 ∨ True → Q (.int .i64 0) S' → MWp Try.prog O 76 (.seq (.region 14 (ro 30 14) false) .ret) T S' fun x T' S' => (match x with | .exit _ => False | _ => True) ∧ ∃ vs, resM Try.prog T' S' [.tmp 6] = some vs ∧ Q (oneOrTuple vs) S' := by
            intro T S' _ hq
            refine m_seq (m_reg ?_)
            rw [reg30_14]
            refine m_ret ?_
            simp [resM, FT.get_set, FT.setL, faS_ptr, nilS_ptr, nilS_func, nilS_yield, pickS_bool, ldS_ptr, list_cells, list_ro, partS_none, lenSl_of, lenStr_of, cvInt_of, aminmax_max, aminmax_min, abin_add, abin_sub, abin_mul, abin_eql, abin_neq, abin_lss, abin_leq, abin_gtr, abin_geq, aunary_not, aextract, oneOrTuple]
            exact hq
          refine m_cond (t := decide (D.halt > 0)) (by simp [evalT, FT.get_set, FT.setL, faS_ptr, nilS_ptr, nilS_func, nilS_yield, pickS_bool, ldS_ptr, list_cells, list_ro, partS_none, lenSl_of, lenStr_of, cvInt_of, aminmax_max, aminmax_min, abin_add, abin_sub, abin_mul, abin_eql, abin_neq, abin_lss, abin_leq, abin_gtr, abin_geq, aunary_not, aextract]) (fun hh => ?_) (fun hh => ?_)
          · have hh := of_decide_eq_true hh
            refine m_seq (m_reg ?_)
            rw [reg30_12]
            simp (decide := true) only [FT.get_set, FT.setL, faS_ptr, nilS_ptr, nilS_func, nilS_yield, pickS_bool, ldS_ptr, list_cells, list_ro, partS_none, lenSl_of, lenStr_of, cvInt_of, aminmax_max, aminmax_min, abin_add, abin_sub, abin_mul, abin_eql, abin_neq, abin_lss, abin_leq, abin_gtr, abin_geq, aunary_not, aextract, Option.some.injEq, Prod.mk.injEq, Value.bool.injEq, exists_eq_left', exists_and_left, and_assoc, decide_eq_true_eq, decide_eq_false_iff_not, if_true, if_false, Nat.zero_add, Nat.add_zero, Option.bind_some, true_and, and_true, forall_const, true_implies, Bool.not_eq_true, Bool.false_eq_true, false_implies, ite_self, Nat.mul_one, list_of w2, dl0, dl1, dl2, dl3, dl4, dlen, ds2, ds3, ds4]
            rw [wrap_i64 (by omega) (by omega)]
            obtain ⟨S7, x1, x2, x3, x4⟩ := st_one (off := 3) (v := .int .i64 (D.halt - 1)) w2 (by rw [dlen]; decide) rfl rfl
            rw [ds3] at x2
            refine ⟨S7, x1, ?_⟩
            refine m_reg ?_
            rw [reg30_13]
            simp (decide := true) only [FT.get_set, FT.setL, faS_ptr, nilS_ptr, nilS_func, nilS_yield, pickS_bool, ldS_ptr, list_cells, list_ro, partS_none, lenSl_of, lenStr_of, cvInt_of, aminmax_max, aminmax_min, abin_add, abin_sub, abin_mul, abin_eql, abin_neq, abin_lss, abin_leq, abin_gtr, abin_geq, aunary_not, aextract, Option.some.injEq, Prod.mk.injEq, Value.bool.injEq, exists_eq_left', exists_and_left, and_assoc, decide_eq_true_eq, decide_eq_false_iff_not, if_true, if_false, Nat.zero_add, Nat.add_zero, Option.bind_some, true_and, and_true, forall_const, true_implies, Bool.not_eq_true, Bool.false_eq_true, false_implies, ite_self, Nat.mul_one, list_of x2, dl0, dl1, dl2, dl3, dl4, dlen, ds2, ds3, ds4]
            obtain ⟨S8, y1, y2, y3, y4⟩ := st_one (off := 4) (v := .bool (D.halt - 1 == 0)) x2 (by rw [dlen]; decide) rfl rfl
            rw [ds4] at y2
            refine ⟨S8, y1, ?_⟩
            exact last _ _ (.inr trivial) (fin S8 _ _ y2 (by rw [y3, x3]) (fun x hx => by rw [y4 x hx, x4 x hx]) (by rw [if_pos hh]) (by rw [if_pos hh]))
          · have hh := of_decide_eq_false hh
            refine m_skip ?_
            exact last _ _ (.inr trivial) (fin S6 _ _ w2 rfl (fun _ _ => rfl) (by rw [if_neg hh]) (by rw [if_neg hh]))
end Go.Proofs.Ytmfmbadfgnhonaa
namespace Go.Proofs.Ytmfmbadfgnhonaa
open Go Go.Ag
set_option linter.unusedVariables false
set_option maxRecDepth 100000

/-- Spoil: a slice's bytes are overwritten, nothing else is changed -/
theorem spoil19 {S : MS} {b n cap : Nat} {l : List Value} {es : Nat} (hb : S.m b = some (.cells l es)) (hn : n ≤ l.length) (hn2 : n ≤ 4000000) :
    CallM Try.prog O 19 [.slice (some ⟨b, 0, none⟩) n cap] S fun v S' => S'.n = S.n ∧ ∀ x, x ≠ b → S'.m x = S.m x := by
  refine callM_body (fnIs is19 body19 res19) (O_none (by decide)) (by simp) ?_
  refine m_seq (m_reg ?_)
  rw [reg19_0]
  simp only
  refine m_block (m_loop (fun k T S' => ∃ (i : Nat) (l' : List Value), i + k = n ∧ T.get 0 = .slice (some ⟨b, 0, none⟩) n cap ∧ T.get 2 = .int .i64 i ∧ l'.length = l.length ∧ S'.m b = some (.cells l' es) ∧ S'.n = S.n ∧ ∀ x, x ≠ b → S'.m x = S.m x) n ?_ ?_)
  · exact ⟨0, l, by omega, by simp [FT.get_set, FT.setL, faS_ptr, nilS_ptr, nilS_func, nilS_yield, pickS_bool, ldS_ptr, list_cells, list_ro, partS_none, lenSl_of, lenStr_of, cvInt_of, aminmax_max, aminmax_min, abin_add, abin_sub, abin_mul, abin_eql, abin_neq, abin_lss, abin_leq, abin_gtr, abin_geq, aunary_not, aextract], by simp [FT.get_set, FT.setL, faS_ptr, nilS_ptr, nilS_func, nilS_yield, pickS_bool, ldS_ptr, list_cells, list_ro, partS_none, lenSl_of, lenStr_of, cvInt_of, aminmax_max, aminmax_min, abin_add, abin_sub, abin_mul, abin_eql, abin_neq, abin_lss, abin_leq, abin_gtr, abin_geq, aunary_not, aextract], rfl, hb, rfl, fun _ _ => rfl⟩
  · rintro k T S1 ⟨i, l', hik, t0, t2, hl, h1, h2, h3⟩
    refine m_seq (m_seq (m_reg ?_))
    rw [reg19_1]
    simp (decide := true) only [FT.get_set, FT.setL, faS_ptr, nilS_ptr, nilS_func, nilS_yield, pickS_bool, ldS_ptr, list_cells, list_ro, partS_none, lenSl_of, lenStr_of, cvInt_of, aminmax_max, aminmax_min, abin_add, abin_sub, abin_mul, abin_eql, abin_neq, abin_lss, abin_leq, abin_gtr, abin_geq, aunary_not, aextract, Option.some.injEq, Prod.mk.injEq, Value.bool.injEq, exists_eq_left', exists_and_left, and_assoc, decide_eq_true_eq, decide_eq_false_iff_not, if_true, if_false, Nat.zero_add, Nat.add_zero, Option.bind_some, true_and, and_true, forall_const, true_implies, Bool.not_eq_true, Bool.false_eq_true, false_implies, ite_self, Nat.mul_one, t0, t2]
    refine m_cond (t := decide ((i : Int) < n)) (by simp [evalT, FT.get_set, FT.setL, faS_ptr, nilS_ptr, nilS_func, nilS_yield, pickS_bool, ldS_ptr, list_cells, list_ro, partS_none, lenSl_of, lenStr_of, cvInt_of, aminmax_max, aminmax_min, abin_add, abin_sub, abin_mul, abin_eql, abin_neq, abin_lss, abin_leq, abin_gtr, abin_geq, aunary_not, aextract]) (fun h => ?_) (fun h => ?_)
    · have hi : i < n := by have := of_decide_eq_true h; omega
      refine m_skip ?_
      simp only
      refine m_seq (m_block (m_reg ?_))
      rw [reg19_3]
      simp (decide := true) only [FT.get_set, FT.setL, faS_ptr, nilS_ptr, nilS_func, nilS_yield, pickS_bool, ldS_ptr, list_cells, list_ro, partS_none, lenSl_of, lenStr_of, cvInt_of, aminmax_max, aminmax_min, abin_add, abin_sub, abin_mul, abin_eql, abin_neq, abin_lss, abin_leq, abin_gtr, abin_geq, aunary_not, aextract, Option.some.injEq, Prod.mk.injEq, Value.bool.injEq, exists_eq_left', exists_and_left, and_assoc, decide_eq_true_eq, decide_eq_false_iff_not, if_true, if_false, Nat.zero_add, Nat.add_zero, Option.bind_some, true_and, and_true, forall_const, true_implies, Bool.not_eq_true, Bool.false_eq_true, false_implies, ite_self, Nat.mul_one, t0, t2, iaSS_of (k := .i64) (i := (i : Int)) (by omega) (by omega : (i : Int) < (n : Int))]
      obtain ⟨S2, g1, g2, g3, g4⟩ := st_one (off := i) (v := .int .u8 238) h1 (by omega) rfl rfl
      simp only [Int.toNat_natCast]
      refine ⟨S2, g1, ?_⟩
      refine m_reg ?_
      rw [reg19_2]
      simp (decide := true) only [FT.get_set, FT.setL, faS_ptr, nilS_ptr, nilS_func, nilS_yield, pickS_bool, ldS_ptr, list_cells, list_ro, partS_none, lenSl_of, lenStr_of, cvInt_of, aminmax_max, aminmax_min, abin_add, abin_sub, abin_mul, abin_eql, abin_neq, abin_lss, abin_leq, abin_gtr, abin_geq, aunary_not, aextract, Option.some.injEq, Prod.mk.injEq, Value.bool.injEq, exists_eq_left', exists_and_left, and_assoc, decide_eq_true_eq, decide_eq_false_iff_not, if_true, if_false, Nat.zero_add, Nat.add_zero, Option.bind_some, true_and, and_true, forall_const, true_implies, Bool.not_eq_true, Bool.false_eq_true, false_implies, ite_self, Nat.mul_one, t0, t2]
      refine ⟨k - 1, by omega, i + 1, by omega, by rw [wrap_i64 (by omega) (by omega)]; rfl, _, by rw [List.length_set]; exact hl, g2, by rw [g3, h2], fun x hx => by rw [g4 x hx, h3 x hx]⟩
    · refine m_exit ?_
      simp [resM]
      exact ⟨h2, h3⟩

/-- New -/
def newDK (a n : Nat) : DK := ⟨a, a + 1, 0, List.replicate n none, List.replicate n none, [], -1, false⟩
theorem bd_d (a b : Value) (ha : a.cells = #[a]) (hb : b.cells = #[b]) : bdS (fun i => [(0, 1), (1, 1), (2, 1), (3, 1), (4, 1)][i]?) [.slice none 0 0, .slice none 0 0, .slice none 0 0, .int .i64 0, .bool false] [(0, a), (1, b), (3, (.int .i64 (-1)))] = some (.agg #[a, b, .slice none 0 0, .int .i64 (-1), .bool false]) := by
  simp [bdS, fillL, spliceL, ha, hb, cells_int]
theorem new8 {S : MS} (n : Nat) (h1 : 1 ≤ n) (h2 : n ≤ 16384) {Q : Value → MS → Prop} (hq : ∀ S', IsD S' (S.n + 2) (newDK S.n n) → S'.n = S.n + 3 → (∀ x, x < S.n → S'.m x = S.m x) → Q (.tuple #[.pointer (some ⟨S.n + 2, 0, none⟩), .int .i64 0]) S') :
    CallM Try.prog O 8 [.int .i64 n] S Q := by
  refine callM_body (fnIs is8 body8 res8) (O_none (by decide)) (by simp) ?_
  refine m_seq (m_reg ?_)
  rw [reg8_0]
  refine m_seq (m_seq (m_reg ?_))
  rw [reg8_1]
  simp (decide := true) only [FT.get_set, FT.setL, faS_ptr, nilS_ptr, nilS_func, nilS_yield, pickS_bool, ldS_ptr, list_cells, list_ro, partS_none, lenSl_of, lenStr_of, cvInt_of, aminmax_max, aminmax_min, abin_add, abin_sub, abin_mul, abin_eql, abin_neq, abin_lss, abin_leq, abin_gtr, abin_geq, aunary_not, aextract, Option.some.injEq, Prod.mk.injEq, Value.bool.injEq, exists_eq_left', exists_and_left, and_assoc, decide_eq_true_eq, decide_eq_false_iff_not, if_true, if_false, Nat.zero_add, Nat.add_zero, Option.bind_some, true_and, and_true, forall_const, true_implies, Bool.not_eq_true, Bool.false_eq_true, false_implies, ite_self, Nat.mul_one, ]
  refine ⟨fun h => absurd (h : (n : Int) < 1) (by omega), fun h => ?_⟩
  refine m_cond (t := false) ?_ (fun h => by cases h) (fun _ => ?_)
  · have : ¬ (n : Int) < 1 := by omega
    have h3 : ¬ (n : Int) > 16384 := by omega
    simp [evalT, FT.get_set, FT.setL, faS_ptr, nilS_ptr, nilS_func, nilS_yield, pickS_bool, ldS_ptr, list_cells, list_ro, partS_none, lenSl_of, lenStr_of, cvInt_of, aminmax_max, aminmax_min, abin_add, abin_sub, abin_mul, abin_eql, abin_neq, abin_lss, abin_leq, abin_gtr, abin_geq, aunary_not, aextract, this]; omega
  refine m_skip ?_
  simp only
  refine m_seq (m_draw ?_)
  rw [reg8_3]
  simp (decide := true) only [FT.get_set, FT.setL, faS_ptr, nilS_ptr, nilS_func, nilS_yield, pickS_bool, ldS_ptr, list_cells, list_ro, partS_none, lenSl_of, lenStr_of, cvInt_of, aminmax_max, aminmax_min, abin_add, abin_sub, abin_mul, abin_eql, abin_neq, abin_lss, abin_leq, abin_gtr, abin_geq, aunary_not, aextract, Option.some.injEq, Prod.mk.injEq, Value.bool.injEq, exists_eq_left', exists_and_left, and_assoc, decide_eq_true_eq, decide_eq_false_iff_not, if_true, if_false, Nat.zero_add, Nat.add_zero, Option.bind_some, true_and, and_true, forall_const, true_implies, Bool.not_eq_true, Bool.false_eq_true, false_implies, ite_self, Nat.mul_one, msS_of (n := n) S 1 8 [.pointer none] .i64 .i64 (by omega) (by omega), msS_of (n := n) (S.fresh (zeros [.pointer none] n) 1) 1 8 [.pointer none] .i64 .i64 (by omega) (by omega), fresh_n, bd_d (.slice (some ⟨S.n, 0, none⟩) n n) (.slice (some ⟨S.n + 1, 0, none⟩) n n) rfl rfl]
  refine m_ret ?_
  simp [resM, FT.get_set, FT.setL, faS_ptr, nilS_ptr, nilS_func, nilS_yield, pickS_bool, ldS_ptr, list_cells, list_ro, partS_none, lenSl_of, lenStr_of, cvInt_of, aminmax_max, aminmax_min, abin_add, abin_sub, abin_mul, abin_eql, abin_neq, abin_lss, abin_leq, abin_gtr, abin_geq, aunary_not, aextract, oneOrTuple, ptrTo, fresh_n]
  have hz : zeros [.pointer none] n = (List.replicate n none).map pv := by rw [zeros_one, List.map_replicate]; rfl
  refine hq _ ⟨by simp [newDK], ?_, ?_, ?_, fun hw => absurd rfl hw, by simp [newDK], by simp [newDK]; omega⟩ (by simp [fresh_n]) (fun x hx => ?_)
  · have e : S.n + 2 = ((S.fresh (zeros [.pointer none] n) 1).fresh (zeros [.pointer none] n) 1).n := rfl
    rw [e, fresh_at]
    simp [newDK, diskL, cells_agg, wsa, wsc]
  · rw [fresh_old _ _ _ (by simp only [fresh_n, newDK]; omega), fresh_old _ _ _ (by simp only [fresh_n, newDK]; omega)]
    show (S.fresh (zeros [.pointer none] n) 1).m S.n = _
    rw [fresh_at, hz]; rfl
  · rw [fresh_old _ _ _ (by simp [fresh_n, newDK])]
    show ((S.fresh (zeros [.pointer none] n) 1).fresh (zeros [.pointer none] n) 1).m ((S.fresh (zeros [.pointer none] n) 1).n) = _
    rw [fresh_at, hz]; rfl
  · rw [fresh_old _ _ _ (by simp [fresh_n]; omega), fresh_old _ _ _ (by simp [fresh_n]; omega), fresh_old _ _ _ (by omega)]
end Go.Proofs.Ytmfmbadfgnhonaa

