/-
  The walk through the disk's code, part 15: what its functions do to memory. Nothing is asked.
-/
import Derived.Test.YtlepbifmkleoeaaPl14
set_option linter.all false
namespace Go.Proofs.Ytlepbifmkleoeaa
open Go Go.Ag
set_option linter.unusedVariables false
set_option maxRecDepth 100000

theorem IsD.old {S S' : MS} {d : Nat} {D : DK} (h : IsD S d D) (wf : S.WF) (f : ∀ x, x < S.n → S'.m x = S.m x) : IsD S' d D := h.keep fun y hy => by
  rcases hy with rfl | rfl | rfl | ⟨hw, rfl⟩
  · exact f _ (wf _ _ h.hd)
  · exact f _ (wf _ _ h.hm)
  · exact f _ (wf _ _ h.hn)
  · exact f _ (wf _ _ (h.hw hw))
theorem LInv.old {S S' : MS} {d : Nat} {D : DK} {n nowb momb : Nat} {rows : List Nat} {Mo : List (List (List Value))} (h : LInv S d D n nowb momb rows Mo) (wf : S.WF) (f : ∀ x, x < S.n → S'.m x = S.m x) : LInv S' d D n nowb momb rows Mo :=
  h.frame (h.dk.old wf f) rfl rfl rfl (Keeps.of_old wf f _)

structure EM (T : FT) (n d momb m nowb : Nat) (j : Int) : Prop where
  g0 : T.get 0 = .int .i64 n
  g5 : T.get 5 = .pointer (some ⟨d, 0, none⟩)
  g7 : T.get 7 = .slice (some ⟨momb, 0, none⟩) m unk
  g8 : T.get 8 = .slice (some ⟨nowb, 0, none⟩) n n
  g19 : T.get 19 = .int .i64 j

section
variable {S : MS} {d : Nat} {D : DK} {n nowb momb : Nat} {rows : List Nat} {Mo : List (List (List Value))} {T : FT}

/-- the law's last look, behind a restart -/
def FI (d n nowb momb : Nat) (D : DK) (rows : List Nat) (Mo : List (List (List Value))) (m : Nat) (T : FT) (S' : MS) : Prop :=
  ∃ k : Nat, k + m = n ∧ LInv S' d D n nowb momb rows Mo ∧ T.get 0 = .int .i64 n ∧ T.get 5 = .pointer (some ⟨d, 0, none⟩) ∧ T.get 8 = .slice (some ⟨nowb, 0, none⟩) n n ∧ T.get 25 = .int .i64 k

theorem last_loop (h : LInv S d D n nowb momb rows Mo) (hcut : D.cut = false) (t0 : T.get 0 = .int .i64 n) (t5 : T.get 5 = .pointer (some ⟨d, 0, none⟩)) (t8 : T.get 8 = .slice (some ⟨nowb, 0, none⟩) n n) (t25 : T.get 25 = .int .i64 0) :
    MWp Try.prog O 308 blk3_11 T S (fun x _ _ => x = .normal) := by
  unfold blk3_11
  refine m_block (m_loop (fun m T S' => FI d n nowb momb D rows Mo m T S') n ⟨0, by omega, h, t0, t5, t8, t25⟩ ?_)
  clear h t0 t5 t8 t25
  rintro m T S1 ⟨k, hk, h, t0, t5, t8, t25⟩
  have hdn := h.dn
  have h20 := h.h20
  refine m_seq (m_seq (m_reg ?_))
  rw [reg3_83]
  simp (decide := true) only [FT.get_set, FT.setL, faS_ptr, nilS_ptr, nilS_func, nilS_yield, pickS_bool, ldS_ptr, list_cells, list_ro, partS_none, lenSl_of, lenStr_of, cvInt_of, aminmax_max, aminmax_min, abin_add, abin_sub, abin_mul, abin_eql, abin_neq, abin_lss, abin_leq, abin_gtr, abin_geq, aunary_not, aextract, Option.some.injEq, Prod.mk.injEq, Value.bool.injEq, exists_eq_left', exists_and_left, and_assoc, decide_eq_true_eq, decide_eq_false_iff_not, if_true, if_false, Nat.zero_add, Nat.add_zero, Option.bind_some, true_and, and_true, forall_const, true_implies, Bool.not_eq_true, Bool.false_eq_true, false_implies, ite_self, Nat.mul_one, t0, t25]
  refine m_cond (t := decide ((k : Int) < n)) (by simp [evalT, FT.get_set, FT.setL, faS_ptr, nilS_ptr, nilS_func, nilS_yield, pickS_bool, ldS_ptr, list_cells, list_ro, partS_none, lenSl_of, lenStr_of, cvInt_of, aminmax_max, aminmax_min, abin_add, abin_sub, abin_mul, abin_eql, abin_neq, abin_lss, abin_leq, abin_gtr, abin_geq, aunary_not, aextract]) (fun hlt => ?_) (fun hlt => ?_)
  · have hlt : k < n := by have := of_decide_eq_true hlt; omega
    refine m_skip ?_
    simp only
    refine m_wf fun wf => ?_
    obtain ⟨c, hc⟩ : ∃ c, Mo[D.ws.length]? = some c := ⟨_, List.getElem?_eq_getElem (by rw [h.ml]; omega)⟩
    have hcl := h.len _ c hc
    obtain ⟨cc, hcc⟩ : ∃ cc, c[k]? = some cc := ⟨_, List.getElem?_eq_getElem (by omega)⟩
    obtain ⟨al, a1, a2, a3⟩ := h.nw c hc
    obtain ⟨a, haa⟩ : ∃ a, al[k]? = some a := ⟨_, List.getElem?_eq_getElem (by omega)⟩
    obtain ⟨ha, hbyt⟩ := a3 _ a cc haa hcc
    unfold blk3_12
    refine m_seq (m_block (m_seq (m_reg ?_)))
    rw [reg3_85]
    simp (decide := true) only [FT.get_set, FT.setL, faS_ptr, nilS_ptr, nilS_func, nilS_yield, pickS_bool, ldS_ptr, list_cells, list_ro, partS_none, lenSl_of, lenStr_of, cvInt_of, aminmax_max, aminmax_min, abin_add, abin_sub, abin_mul, abin_eql, abin_neq, abin_lss, abin_leq, abin_gtr, abin_geq, aunary_not, aextract, Option.some.injEq, Prod.mk.injEq, Value.bool.injEq, exists_eq_left', exists_and_left, and_assoc, decide_eq_true_eq, decide_eq_false_iff_not, if_true, if_false, Nat.zero_add, Nat.add_zero, Option.bind_some, true_and, and_true, forall_const, true_implies, Bool.not_eq_true, Bool.false_eq_true, false_implies, ite_self, Nat.mul_one, t0, t5, t8, t25]
    refine readD h.dk (k : Int) (c := cc) (fun o _ ho => ?_) (fun hc => ?_) (fun _ hb => ?_) (fun _ _ _ => ?_)
    · rw [Int.toNat_natCast] at ho
      refine (h.arr _ c hc k cc o hcc ?_).cont
      rw [List.take_of_length_le (Nat.le_refl _), ← h.now]; exact ho
    · rw [hcut] at hc; cases hc
    · exact absurd ⟨by omega, by omega⟩ hb
    simp (decide := true) only [FT.get_set, FT.setL, faS_ptr, nilS_ptr, nilS_func, nilS_yield, pickS_bool, ldS_ptr, list_cells, list_ro, partS_none, lenSl_of, lenStr_of, cvInt_of, aminmax_max, aminmax_min, abin_add, abin_sub, abin_mul, abin_eql, abin_neq, abin_lss, abin_leq, abin_gtr, abin_geq, aunary_not, aextract, Option.some.injEq, Prod.mk.injEq, Value.bool.injEq, exists_eq_left', exists_and_left, and_assoc, decide_eq_true_eq, decide_eq_false_iff_not, if_true, if_false, Nat.zero_add, Nat.add_zero, Option.bind_some, true_and, and_true, forall_const, true_implies, Bool.not_eq_true, Bool.false_eq_true, false_implies, ite_self, Nat.mul_one, List.getElem?_cons_zero, List.getElem?_cons_succ]
    refine m_seq (m_reg ?_)
    rw [reg3_86]
    have f1 : ∀ x, x < S1.n → (S1.fresh cc 1).m x = S1.m x := fun x hx => fresh_old _ _ _ (Nat.ne_of_lt hx)
    have hnw1 := (f1 nowb (wf _ _ a2)).trans a2
    have ha1 := (f1 a (wf _ _ ha)).trans ha
    have hge : (al.map bsl)[k]? = some (.slice (some ⟨a, 0, none⟩) 256 256) := by rw [List.getElem?_map, haa]; rfl
    simp (decide := true) only [FT.get_set, FT.setL, faS_ptr, nilS_ptr, nilS_func, nilS_yield, pickS_bool, ldS_ptr, list_cells, list_ro, partS_none, lenSl_of, lenStr_of, cvInt_of, aminmax_max, aminmax_min, abin_add, abin_sub, abin_mul, abin_eql, abin_neq, abin_lss, abin_leq, abin_gtr, abin_geq, aunary_not, aextract, Option.some.injEq, Prod.mk.injEq, Value.bool.injEq, exists_eq_left', exists_and_left, and_assoc, decide_eq_true_eq, decide_eq_false_iff_not, if_true, if_false, Nat.zero_add, Nat.add_zero, Option.bind_some, true_and, and_true, forall_const, true_implies, Bool.not_eq_true, Bool.false_eq_true, false_implies, ite_self, Nat.mul_one, t0, t5, t8, t25, iaSS_of (k := .i64) (i := (k : Int)) (by omega) (by omega : (k : Int) < (n : Int)), Int.toNat_natCast, list_of hnw1, hge, bne_self_eq_false]
    obtain ⟨bs, hbs⟩ := hbyt.bytes
    have htk : cc.take 256 = cc := List.take_of_length_le (by rw [hbyt.len]; omega)
    refine bytes12 (bs := bs) (list_of (fresh_at S1 cc 1)) (list_of ha1) (by rw [hbyt.len]; omega) (by rw [hbyt.len]; omega) rfl (by rw [htk]; exact hbs) ?_
    simp (decide := true) only [FT.get_set, FT.setL, faS_ptr, nilS_ptr, nilS_func, nilS_yield, pickS_bool, ldS_ptr, list_cells, list_ro, partS_none, lenSl_of, lenStr_of, cvInt_of, aminmax_max, aminmax_min, abin_add, abin_sub, abin_mul, abin_eql, abin_neq, abin_lss, abin_leq, abin_gtr, abin_geq, aunary_not, aextract, Option.some.injEq, Prod.mk.injEq, Value.bool.injEq, exists_eq_left', exists_and_left, and_assoc, decide_eq_true_eq, decide_eq_false_iff_not, if_true, if_false, Nat.zero_add, Nat.add_zero, Option.bind_some, true_and, and_true, forall_const, true_implies, Bool.not_eq_true, Bool.false_eq_true, false_implies, ite_self, Nat.mul_one, Bool.not_true]
    refine m_cond (t := false) (by simp [evalT, FT.get_set, FT.setL, faS_ptr, nilS_ptr, nilS_func, nilS_yield, pickS_bool, ldS_ptr, list_cells, list_ro, partS_none, lenSl_of, lenStr_of, cvInt_of, aminmax_max, aminmax_min, abin_add, abin_sub, abin_mul, abin_eql, abin_neq, abin_lss, abin_leq, abin_gtr, abin_geq, aunary_not, aextract]) (fun h => by cases h) (fun _ => ?_)
    refine m_skip ?_
    simp only
    refine m_reg ?_
    rw [reg3_84]
    simp (decide := true) only [FT.get_set, FT.setL, faS_ptr, nilS_ptr, nilS_func, nilS_yield, pickS_bool, ldS_ptr, list_cells, list_ro, partS_none, lenSl_of, lenStr_of, cvInt_of, aminmax_max, aminmax_min, abin_add, abin_sub, abin_mul, abin_eql, abin_neq, abin_lss, abin_leq, abin_gtr, abin_geq, aunary_not, aextract, Option.some.injEq, Prod.mk.injEq, Value.bool.injEq, exists_eq_left', exists_and_left, and_assoc, decide_eq_true_eq, decide_eq_false_iff_not, if_true, if_false, Nat.zero_add, Nat.add_zero, Option.bind_some, true_and, and_true, forall_const, true_implies, Bool.not_eq_true, Bool.false_eq_true, false_implies, ite_self, Nat.mul_one, t25]
    have hw : IntKind.i64.wrap ((k : Int) + 1) = ((k + 1 : Nat) : Int) := by rw [wrap_i64 (by omega) (by omega)]; rfl
    rw [hw]
    exact ⟨m - 1, by omega, k + 1, by omega, h.old wf f1, by simp [FT.get_set, FT.setL, faS_ptr, nilS_ptr, nilS_func, nilS_yield, pickS_bool, ldS_ptr, list_cells, list_ro, partS_none, lenSl_of, lenStr_of, cvInt_of, aminmax_max, aminmax_min, abin_add, abin_sub, abin_mul, abin_eql, abin_neq, abin_lss, abin_leq, abin_gtr, abin_geq, aunary_not, aextract, t0], by simp [FT.get_set, FT.setL, faS_ptr, nilS_ptr, nilS_func, nilS_yield, pickS_bool, ldS_ptr, list_cells, list_ro, partS_none, lenSl_of, lenStr_of, cvInt_of, aminmax_max, aminmax_min, abin_add, abin_sub, abin_mul, abin_eql, abin_neq, abin_lss, abin_leq, abin_gtr, abin_geq, aunary_not, aextract, t5], by simp [FT.get_set, FT.setL, faS_ptr, nilS_ptr, nilS_func, nilS_yield, pickS_bool, ldS_ptr, list_cells, list_ro, partS_none, lenSl_of, lenStr_of, cvInt_of, aminmax_max, aminmax_min, abin_add, abin_sub, abin_mul, abin_eql, abin_neq, abin_lss, abin_leq, abin_gtr, abin_geq, aunary_not, aextract, t8], by simp [FT.get_set, FT.setL, faS_ptr, nilS_ptr, nilS_func, nilS_yield, pickS_bool, ldS_ptr, list_cells, list_ro, partS_none, lenSl_of, lenStr_of, cvInt_of, aminmax_max, aminmax_min, abin_add, abin_sub, abin_mul, abin_eql, abin_neq, abin_lss, abin_leq, abin_gtr, abin_geq, aunary_not, aextract]⟩
  · refine m_exit ?_
    simp only [if_true]

/-- of a moment: what At gives holds what the law wrote down -/
def NI (d n nowb momb c a b i : Nat) (D : DK) (rows : List Nat) (Mo : List (List (List Value))) (S : MS) (m : Nat) (T : FT) (S' : MS) : Prop :=
  ∃ k : Nat, k + m = n ∧ LInv S' d D n nowb momb rows Mo ∧ IsD S' c (atDK D i a b) ∧ S.n ≤ S'.n ∧ (∀ x, x < S.n → S'.m x = S.m x) ∧ EM T n d momb Mo.length nowb i ∧ T.get 20 = .pointer (some ⟨c, 0, none⟩) ∧ T.get 22 = .int .i64 k

theorem inner_loop {c a b i : Nat} (h : LInv S d D n nowb momb rows Mo) (hc : IsD S c (atDK D i a b)) (hi : i ≤ D.ws.length) (hws : D.ws.length ≤ 50) (e : EM T n d momb Mo.length nowb i) (t20 : T.get 20 = .pointer (some ⟨c, 0, none⟩)) (t22 : T.get 22 = .int .i64 0) :
    MWp Try.prog O 308 blk3_9 T S (fun x T' S' => x = .normal ∧ NI d n nowb momb c a b i D rows Mo S 0 T' S') := by
  unfold blk3_9
  refine m_block (m_loop (fun m T S' => NI d n nowb momb c a b i D rows Mo S m T S') n ⟨0, by omega, h, hc, Nat.le_refl _, fun _ _ => rfl, e, t20, t22⟩ ?_)
  clear h hc e t20 t22
  rintro m T S1 ⟨k, hk, h, hc, hn1, hf1, e, t20, t22⟩
  have hdn := h.dn
  have h20 := h.h20
  have hml := h.ml
  have hrl := h.rl
  refine m_seq (m_seq (m_reg ?_))
  rw [reg3_74]
  simp (decide := true) only [FT.get_set, FT.setL, faS_ptr, nilS_ptr, nilS_func, nilS_yield, pickS_bool, ldS_ptr, list_cells, list_ro, partS_none, lenSl_of, lenStr_of, cvInt_of, aminmax_max, aminmax_min, abin_add, abin_sub, abin_mul, abin_eql, abin_neq, abin_lss, abin_leq, abin_gtr, abin_geq, aunary_not, aextract, Option.some.injEq, Prod.mk.injEq, Value.bool.injEq, exists_eq_left', exists_and_left, and_assoc, decide_eq_true_eq, decide_eq_false_iff_not, if_true, if_false, Nat.zero_add, Nat.add_zero, Option.bind_some, true_and, and_true, forall_const, true_implies, Bool.not_eq_true, Bool.false_eq_true, false_implies, ite_self, Nat.mul_one, e.g0, e.g5, e.g7, e.g8, e.g19, t22]
  refine m_cond (t := decide ((k : Int) < n)) (by simp [evalT, FT.get_set, FT.setL, faS_ptr, nilS_ptr, nilS_func, nilS_yield, pickS_bool, ldS_ptr, list_cells, list_ro, partS_none, lenSl_of, lenStr_of, cvInt_of, aminmax_max, aminmax_min, abin_add, abin_sub, abin_mul, abin_eql, abin_neq, abin_lss, abin_leq, abin_gtr, abin_geq, aunary_not, aextract]) (fun hlt => ?_) (fun hlt => ?_)
  · have hlt : k < n := by have := of_decide_eq_true hlt; omega
    refine m_skip ?_
    simp only
    refine m_wf fun wf => ?_
    obtain ⟨mc, hmc⟩ : ∃ mc, Mo[i]? = some mc := ⟨_, List.getElem?_eq_getElem (by rw [h.ml]; omega)⟩
    obtain ⟨row, hrow⟩ : ∃ row, rows[i]? = some row := ⟨_, List.getElem?_eq_getElem (by omega)⟩
    have hcl := h.len _ mc hmc
    obtain ⟨cc, hcc⟩ : ∃ cc, mc[k]? = some cc := ⟨_, List.getElem?_eq_getElem (by omega)⟩
    obtain ⟨al, a1, a2, a3⟩ := h.row i row mc hrow hmc
    obtain ⟨ad, haa⟩ : ∃ a, al[k]? = some a := ⟨_, List.getElem?_eq_getElem (by omega)⟩
    obtain ⟨ha, hbyt⟩ := a3 _ ad cc haa hcc
    unfold blk3_10
    refine m_seq (m_block (m_seq (m_reg ?_)))
    rw [reg3_76]
    simp (decide := true) only [FT.get_set, FT.setL, faS_ptr, nilS_ptr, nilS_func, nilS_yield, pickS_bool, ldS_ptr, list_cells, list_ro, partS_none, lenSl_of, lenStr_of, cvInt_of, aminmax_max, aminmax_min, abin_add, abin_sub, abin_mul, abin_eql, abin_neq, abin_lss, abin_leq, abin_gtr, abin_geq, aunary_not, aextract, Option.some.injEq, Prod.mk.injEq, Value.bool.injEq, exists_eq_left', exists_and_left, and_assoc, decide_eq_true_eq, decide_eq_false_iff_not, if_true, if_false, Nat.zero_add, Nat.add_zero, Option.bind_some, true_and, and_true, forall_const, true_implies, Bool.not_eq_true, Bool.false_eq_true, false_implies, ite_self, Nat.mul_one, e.g0, e.g5, e.g7, e.g8, e.g19, t20, t22]
    refine readD hc (k : Int) (c := cc) (fun o _ ho => ?_) (fun hc => ?_) (fun _ hb => ?_) (fun _ _ _ => ?_)
    · rw [Int.toNat_natCast] at ho
      exact (h.arr _ mc hmc k cc o hcc ho).cont
    · cases hc
    · refine absurd ⟨by omega, ?_⟩ hb
      show (k : Int) < ((applyW D.made (D.ws.take i)).length : Int)
      rw [applyW_len]; omega
    simp (decide := true) only [FT.get_set, FT.setL, faS_ptr, nilS_ptr, nilS_func, nilS_yield, pickS_bool, ldS_ptr, list_cells, list_ro, partS_none, lenSl_of, lenStr_of, cvInt_of, aminmax_max, aminmax_min, abin_add, abin_sub, abin_mul, abin_eql, abin_neq, abin_lss, abin_leq, abin_gtr, abin_geq, aunary_not, aextract, Option.some.injEq, Prod.mk.injEq, Value.bool.injEq, exists_eq_left', exists_and_left, and_assoc, decide_eq_true_eq, decide_eq_false_iff_not, if_true, if_false, Nat.zero_add, Nat.add_zero, Option.bind_some, true_and, and_true, forall_const, true_implies, Bool.not_eq_true, Bool.false_eq_true, false_implies, ite_self, Nat.mul_one, List.getElem?_cons_zero, List.getElem?_cons_succ]
    refine m_seq (m_reg ?_)
    rw [reg3_77]
    have f1 : ∀ x, x < S1.n → (S1.fresh cc 1).m x = S1.m x := fun x hx => fresh_old _ _ _ (Nat.ne_of_lt hx)
    have hmm1 := (f1 momb (wf _ _ h.mom)).trans h.mom
    have hrw1 := (f1 row (wf _ _ a2)).trans a2
    have ha1 := (f1 ad (wf _ _ ha)).trans ha
    have hge0 : (rows.map (rsl n))[i]? = some (.slice (some ⟨row, 0, none⟩) n unk) := by rw [List.getElem?_map, hrow]; rfl
    have hge : (al.map bsl)[k]? = some (.slice (some ⟨ad, 0, none⟩) 256 256) := by rw [List.getElem?_map, haa]; rfl
    simp (decide := true) only [FT.get_set, FT.setL, faS_ptr, nilS_ptr, nilS_func, nilS_yield, pickS_bool, ldS_ptr, list_cells, list_ro, partS_none, lenSl_of, lenStr_of, cvInt_of, aminmax_max, aminmax_min, abin_add, abin_sub, abin_mul, abin_eql, abin_neq, abin_lss, abin_leq, abin_gtr, abin_geq, aunary_not, aextract, Option.some.injEq, Prod.mk.injEq, Value.bool.injEq, exists_eq_left', exists_and_left, and_assoc, decide_eq_true_eq, decide_eq_false_iff_not, if_true, if_false, Nat.zero_add, Nat.add_zero, Option.bind_some, true_and, and_true, forall_const, true_implies, Bool.not_eq_true, Bool.false_eq_true, false_implies, ite_self, Nat.mul_one, e.g0, e.g5, e.g7, e.g8, e.g19, t20, t22, iaSS_of (k := .i64) (i := (i : Int)) (by omega) (by omega : (i : Int) < (Mo.length : Int)), iaSS_of (k := .i64) (i := (k : Int)) (by omega) (by omega : (k : Int) < (n : Int)), Int.toNat_natCast, list_of hmm1, hge0, list_of hrw1, hge, bne_self_eq_false]
    obtain ⟨bs, hbs⟩ := hbyt.bytes
    have htk : cc.take 256 = cc := List.take_of_length_le (by rw [hbyt.len]; omega)
    refine bytes12 (bs := bs) (list_of (fresh_at S1 cc 1)) (list_of ha1) (by rw [hbyt.len]; omega) (by rw [hbyt.len]; omega) rfl (by rw [htk]; exact hbs) ?_
    simp (decide := true) only [FT.get_set, FT.setL, faS_ptr, nilS_ptr, nilS_func, nilS_yield, pickS_bool, ldS_ptr, list_cells, list_ro, partS_none, lenSl_of, lenStr_of, cvInt_of, aminmax_max, aminmax_min, abin_add, abin_sub, abin_mul, abin_eql, abin_neq, abin_lss, abin_leq, abin_gtr, abin_geq, aunary_not, aextract, Option.some.injEq, Prod.mk.injEq, Value.bool.injEq, exists_eq_left', exists_and_left, and_assoc, decide_eq_true_eq, decide_eq_false_iff_not, if_true, if_false, Nat.zero_add, Nat.add_zero, Option.bind_some, true_and, and_true, forall_const, true_implies, Bool.not_eq_true, Bool.false_eq_true, false_implies, ite_self, Nat.mul_one, Bool.not_true]
    refine m_cond (t := false) (by simp [evalT, FT.get_set, FT.setL, faS_ptr, nilS_ptr, nilS_func, nilS_yield, pickS_bool, ldS_ptr, list_cells, list_ro, partS_none, lenSl_of, lenStr_of, cvInt_of, aminmax_max, aminmax_min, abin_add, abin_sub, abin_mul, abin_eql, abin_neq, abin_lss, abin_leq, abin_gtr, abin_geq, aunary_not, aextract]) (fun h => by cases h) (fun _ => ?_)
    refine m_skip ?_
    simp only
    refine m_reg ?_
    rw [reg3_75]
    simp (decide := true) only [FT.get_set, FT.setL, faS_ptr, nilS_ptr, nilS_func, nilS_yield, pickS_bool, ldS_ptr, list_cells, list_ro, partS_none, lenSl_of, lenStr_of, cvInt_of, aminmax_max, aminmax_min, abin_add, abin_sub, abin_mul, abin_eql, abin_neq, abin_lss, abin_leq, abin_gtr, abin_geq, aunary_not, aextract, Option.some.injEq, Prod.mk.injEq, Value.bool.injEq, exists_eq_left', exists_and_left, and_assoc, decide_eq_true_eq, decide_eq_false_iff_not, if_true, if_false, Nat.zero_add, Nat.add_zero, Option.bind_some, true_and, and_true, forall_const, true_implies, Bool.not_eq_true, Bool.false_eq_true, false_implies, ite_self, Nat.mul_one, t22]
    have hw : IntKind.i64.wrap ((k : Int) + 1) = ((k + 1 : Nat) : Int) := by rw [wrap_i64 (by omega) (by omega)]; rfl
    rw [hw]
    exact ⟨m - 1, by omega, k + 1, by omega, h.old wf f1, hc.old wf f1, Nat.le_trans hn1 (Nat.le_succ _), fun x hx => by rw [f1 x (by omega), hf1 x hx], ⟨by simp [FT.get_set, FT.setL, faS_ptr, nilS_ptr, nilS_func, nilS_yield, pickS_bool, ldS_ptr, list_cells, list_ro, partS_none, lenSl_of, lenStr_of, cvInt_of, aminmax_max, aminmax_min, abin_add, abin_sub, abin_mul, abin_eql, abin_neq, abin_lss, abin_leq, abin_gtr, abin_geq, aunary_not, aextract, e.g0, e.g5, e.g7, e.g8, e.g19], by simp [FT.get_set, FT.setL, faS_ptr, nilS_ptr, nilS_func, nilS_yield, pickS_bool, ldS_ptr, list_cells, list_ro, partS_none, lenSl_of, lenStr_of, cvInt_of, aminmax_max, aminmax_min, abin_add, abin_sub, abin_mul, abin_eql, abin_neq, abin_lss, abin_leq, abin_gtr, abin_geq, aunary_not, aextract, e.g0, e.g5, e.g7, e.g8, e.g19], by simp [FT.get_set, FT.setL, faS_ptr, nilS_ptr, nilS_func, nilS_yield, pickS_bool, ldS_ptr, list_cells, list_ro, partS_none, lenSl_of, lenStr_of, cvInt_of, aminmax_max, aminmax_min, abin_add, abin_sub, abin_mul, abin_eql, abin_neq, abin_lss, abin_leq, abin_gtr, abin_geq, aunary_not, aextract, e.g0, e.g5, e.g7, e.g8, e.g19], by simp [FT.get_set, FT.setL, faS_ptr, nilS_ptr, nilS_func, nilS_yield, pickS_bool, ldS_ptr, list_cells, list_ro, partS_none, lenSl_of, lenStr_of, cvInt_of, aminmax_max, aminmax_min, abin_add, abin_sub, abin_mul, abin_eql, abin_neq, abin_lss, abin_leq, abin_gtr, abin_geq, aunary_not, aextract, e.g0, e.g5, e.g7, e.g8, e.g19], by simp [FT.get_set, FT.setL, faS_ptr, nilS_ptr, nilS_func, nilS_yield, pickS_bool, ldS_ptr, list_cells, list_ro, partS_none, lenSl_of, lenStr_of, cvInt_of, aminmax_max, aminmax_min, abin_add, abin_sub, abin_mul, abin_eql, abin_neq, abin_lss, abin_leq, abin_gtr, abin_geq, aunary_not, aextract, e.g0, e.g5, e.g7, e.g8, e.g19]⟩, by simp [FT.get_set, FT.setL, faS_ptr, nilS_ptr, nilS_func, nilS_yield, pickS_bool, ldS_ptr, list_cells, list_ro, partS_none, lenSl_of, lenStr_of, cvInt_of, aminmax_max, aminmax_min, abin_add, abin_sub, abin_mul, abin_eql, abin_neq, abin_lss, abin_leq, abin_gtr, abin_geq, aunary_not, aextract, t20], by simp [FT.get_set, FT.setL, faS_ptr, nilS_ptr, nilS_func, nilS_yield, pickS_bool, ldS_ptr, list_cells, list_ro, partS_none, lenSl_of, lenStr_of, cvInt_of, aminmax_max, aminmax_min, abin_add, abin_sub, abin_mul, abin_eql, abin_neq, abin_lss, abin_leq, abin_gtr, abin_geq, aunary_not, aextract]⟩
  · have hlt : ¬ k < n := by have := of_decide_eq_false hlt; omega
    refine m_exit ?_
    simp only [if_true]
    exact ⟨k, by omega, h, hc, hn1, hf1, ⟨by simp [FT.get_set, FT.setL, faS_ptr, nilS_ptr, nilS_func, nilS_yield, pickS_bool, ldS_ptr, list_cells, list_ro, partS_none, lenSl_of, lenStr_of, cvInt_of, aminmax_max, aminmax_min, abin_add, abin_sub, abin_mul, abin_eql, abin_neq, abin_lss, abin_leq, abin_gtr, abin_geq, aunary_not, aextract, e.g0, e.g5, e.g7, e.g8, e.g19], by simp [FT.get_set, FT.setL, faS_ptr, nilS_ptr, nilS_func, nilS_yield, pickS_bool, ldS_ptr, list_cells, list_ro, partS_none, lenSl_of, lenStr_of, cvInt_of, aminmax_max, aminmax_min, abin_add, abin_sub, abin_mul, abin_eql, abin_neq, abin_lss, abin_leq, abin_gtr, abin_geq, aunary_not, aextract, e.g0, e.g5, e.g7, e.g8, e.g19], by simp [FT.get_set, FT.setL, faS_ptr, nilS_ptr, nilS_func, nilS_yield, pickS_bool, ldS_ptr, list_cells, list_ro, partS_none, lenSl_of, lenStr_of, cvInt_of, aminmax_max, aminmax_min, abin_add, abin_sub, abin_mul, abin_eql, abin_neq, abin_lss, abin_leq, abin_gtr, abin_geq, aunary_not, aextract, e.g0, e.g5, e.g7, e.g8, e.g19], by simp [FT.get_set, FT.setL, faS_ptr, nilS_ptr, nilS_func, nilS_yield, pickS_bool, ldS_ptr, list_cells, list_ro, partS_none, lenSl_of, lenStr_of, cvInt_of, aminmax_max, aminmax_min, abin_add, abin_sub, abin_mul, abin_eql, abin_neq, abin_lss, abin_leq, abin_gtr, abin_geq, aunary_not, aextract, e.g0, e.g5, e.g7, e.g8, e.g19], by simp [FT.get_set, FT.setL, faS_ptr, nilS_ptr, nilS_func, nilS_yield, pickS_bool, ldS_ptr, list_cells, list_ro, partS_none, lenSl_of, lenStr_of, cvInt_of, aminmax_max, aminmax_min, abin_add, abin_sub, abin_mul, abin_eql, abin_neq, abin_lss, abin_leq, abin_gtr, abin_geq, aunary_not, aextract, e.g0, e.g5, e.g7, e.g8, e.g19]⟩, by simp [FT.get_set, FT.setL, faS_ptr, nilS_ptr, nilS_func, nilS_yield, pickS_bool, ldS_ptr, list_cells, list_ro, partS_none, lenSl_of, lenStr_of, cvInt_of, aminmax_max, aminmax_min, abin_add, abin_sub, abin_mul, abin_eql, abin_neq, abin_lss, abin_leq, abin_gtr, abin_geq, aunary_not, aextract, t20], by simp [FT.get_set, FT.setL, faS_ptr, nilS_ptr, nilS_func, nilS_yield, pickS_bool, ldS_ptr, list_cells, list_ro, partS_none, lenSl_of, lenStr_of, cvInt_of, aminmax_max, aminmax_min, abin_add, abin_sub, abin_mul, abin_eql, abin_neq, abin_lss, abin_leq, abin_gtr, abin_geq, aunary_not, aextract, t22]⟩
end
end Go.Proofs.Ytlepbifmkleoeaa
