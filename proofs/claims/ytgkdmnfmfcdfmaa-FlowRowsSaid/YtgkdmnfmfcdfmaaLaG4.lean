/-
  The walk through the code of blocks and of what is reached, part G4: what its functions do to memory. Nothing is asked.
-/
import Derived.Test.YtgkdmnfmfcdfmaaLaG3
set_option linter.all false
namespace Go.Proofs.Ytgkdmnfmfcdfmaa
open Go Go.Ag
set_option linter.unusedVariables false
set_option maxRecDepth 100000

def WG (n : Nat) (nx : Nat → List Int) (J : List Bool → MS → Prop) (l box1 box2 mb B2 : Nat) (m : Nat) (T : FT) (S : MS) : Prop :=
  ∃ ms w, VisG n nx ms w ∧ 3 * un ms + w.length ≤ m ∧ m ≤ 3 * n + 1 ∧ J ms S ∧ S.m mb = some (.cells (ms.map .bool) 1) ∧ mb < B2 ∧ B2 ≤ S.n ∧ Sl S B2 (T.get 5) w ∧ T.get 0 = .func (.yield l) #[] #[] ∧ T.get 1 = .pointer (some ⟨box1, 0, none⟩) ∧ T.get 2 = .pointer (some ⟨box2, 0, none⟩) ∧ T.get 4 = .slice (some ⟨mb, 0, none⟩) n n


/-- walk's function: tells what is reached, each once -/
theorem walk39G {S : MS} {box1 box2 fb l B n fid : Nat} {nx : Nat → List Int} (hg : GoodG n nx) (hn : n ≤ 100000) (h2 : ∀ i, (nx i).length ≤ 2) (h0 : n ≠ 0) (J : List Bool → MS → Prop)
    (hJ : ∀ ms S, J ms S → S.m box1 = some (.cells [.int .i64 n] 0) ∧ S.m box2 = some (.cells [.func (.func fid) #[] #[.pointer (some ⟨fb, 0, none⟩)]] 0) ∧ B ≤ S.n)
    (after : ∀ ms S (i : Nat) (Q : Value → MS → Prop), J ms S → S.WF → i < n → (∀ v S', Sl S' S.n v (nx i) → S.n ≤ S'.n → (∀ y, y < S.n → S'.m y = S.m y) → Q v S') → CallM Try.prog O fid [.int .i64 i, .pointer (some ⟨fb, 0, none⟩)] S Q)
    (hkeep : ∀ ms S S', J ms S → S.WF → (∀ x, x < B → S'.m x = S.m x) → S.n ≤ S'.n → J ms S')
    (step : ∀ ms S (i : Nat), J ms S → S.WF → ms.length = n → ms[i]? = some false → RoundM Try.prog O l [.int .i64 i] S fun v S' => v = .bool true ∧ J (ms.set i true) S' ∧ S.n ≤ S'.n ∧ ∀ x, B ≤ x → x < S.n → S'.m x = S.m x)
    (hs : J (List.replicate n false) S) :
    CallM Try.prog O 39 [.func (.yield l) #[] #[], .pointer (some ⟨box1, 0, none⟩), .pointer (some ⟨box2, 0, none⟩)] S fun _ S' => ∃ ms, VisG n nx ms [] ∧ J ms S' := by
  refine callM_wf fun wf => ?_
  refine callM_body (fnIs is39 body39 res39) (O_none (by decide)) (by simp) ?_
  obtain ⟨hb1, hb2, hBn⟩ := hJ _ _ hs
  refine m_scope (m_seq (m_reg ?_))
  rw [reg39_0]
  simp (decide := true) only [FT.get_set, FT.setL, faS_ptr, nilS_ptr, nilS_func, nilS_yield, pickS_bool, ldS_ptr, list_cells, list_ro, partS_none, lenSl_of, lenStr_of, cvInt_of, aminmax_max, aminmax_min, abin_add, abin_sub, abin_mul, abin_eql, abin_neq, abin_lss, abin_leq, abin_gtr, abin_geq, aunary_not, aextract, Option.some.injEq, Prod.mk.injEq, Value.bool.injEq, exists_eq_left', exists_and_left, and_assoc, decide_eq_true_eq, decide_eq_false_iff_not, if_true, if_false, Nat.zero_add, Nat.add_zero, Option.bind_some, true_and, and_true, forall_const, true_implies, Bool.not_eq_true, Bool.false_eq_true, false_implies, ite_self, Nat.mul_one, list_of hb1, List.getElem?_cons_zero, msS_of (n := n) S 1 1 [.bool false] .i64 .i64 (by omega) (by omega)]
  have hz : zeros [.bool false] n = (List.replicate n false).map .bool := by rw [zeros_one, List.map_replicate]
  rw [hz]
  have wf1 := wf_fresh' wf ((List.replicate n false).map .bool) 1
  refine m_seq (m_reg ?_)
  rw [reg39_1]
  simp (decide := true) only [FT.get_set, FT.setL, faS_ptr, nilS_ptr, nilS_func, nilS_yield, pickS_bool, ldS_ptr, list_cells, list_ro, partS_none, lenSl_of, lenStr_of, cvInt_of, aminmax_max, aminmax_min, abin_add, abin_sub, abin_mul, abin_eql, abin_neq, abin_lss, abin_leq, abin_gtr, abin_geq, aunary_not, aextract, Option.some.injEq, Prod.mk.injEq, Value.bool.injEq, exists_eq_left', exists_and_left, and_assoc, decide_eq_true_eq, decide_eq_false_iff_not, if_true, if_false, Nat.zero_add, Nat.add_zero, Option.bind_some, true_and, and_true, forall_const, true_implies, Bool.not_eq_true, Bool.false_eq_true, false_implies, ite_self, Nat.mul_one, bsS_one (S.fresh ((List.replicate n false).map .bool) 1) 1 [.int .i64 0] (.int .i64 0) rfl rfl, cells_int]
  refine m_seq (m_label ?_)
  simp only
  have f2 : ∀ x, x < S.n → ((S.fresh ((List.replicate n false).map .bool) 1).fresh [.int .i64 0] 1).m x = S.m x := fun x hx => by
    rw [fresh_old _ _ _ (by simp only [fresh_n]; omega), fresh_old _ _ _ (by omega)]
  unfold blk39_0
  refine m_block (m_loop (fun m T S' => WG n nx J l box1 box2 S.n (S.n + 1) m T S') (3 * n + 1) ?_ ?_)
  · refine ⟨List.replicate n false, [0], VisG.start h0, by rw [un_false]; simp, Nat.le_refl _, hkeep _ _ _ hs wf (fun x hx => f2 x (by omega)) (by simp only [fresh_n]; omega), ?_, Nat.lt_succ_self _, by simp only [fresh_n]; omega, ?_, by simp [FT.get_set, FT.setL, faS_ptr, nilS_ptr, nilS_func, nilS_yield, pickS_bool, ldS_ptr, list_cells, list_ro, partS_none, lenSl_of, lenStr_of, cvInt_of, aminmax_max, aminmax_min, abin_add, abin_sub, abin_mul, abin_eql, abin_neq, abin_lss, abin_leq, abin_gtr, abin_geq, aunary_not, aextract], by simp [FT.get_set, FT.setL, faS_ptr, nilS_ptr, nilS_func, nilS_yield, pickS_bool, ldS_ptr, list_cells, list_ro, partS_none, lenSl_of, lenStr_of, cvInt_of, aminmax_max, aminmax_min, abin_add, abin_sub, abin_mul, abin_eql, abin_neq, abin_lss, abin_leq, abin_gtr, abin_geq, aunary_not, aextract], by simp [FT.get_set, FT.setL, faS_ptr, nilS_ptr, nilS_func, nilS_yield, pickS_bool, ldS_ptr, list_cells, list_ro, partS_none, lenSl_of, lenStr_of, cvInt_of, aminmax_max, aminmax_min, abin_add, abin_sub, abin_mul, abin_eql, abin_neq, abin_lss, abin_leq, abin_gtr, abin_geq, aunary_not, aextract], by simp [FT.get_set, FT.setL, faS_ptr, nilS_ptr, nilS_func, nilS_yield, pickS_bool, ldS_ptr, list_cells, list_ro, partS_none, lenSl_of, lenStr_of, cvInt_of, aminmax_max, aminmax_min, abin_add, abin_sub, abin_mul, abin_eql, abin_neq, abin_lss, abin_leq, abin_gtr, abin_geq, aunary_not, aextract]⟩
    · rw [fresh_old _ _ _ (by simp only [fresh_n]; omega), fresh_at]
    · refine Eq.mpr (congrArg (fun v => Sl _ (S.n + 1) v [0]) (?_ : _ = Value.slice (some ⟨S.n + 1, 0, none⟩) 1 1)) ?_
      · simp [FT.get_set, FT.setL, faS_ptr, nilS_ptr, nilS_func, nilS_yield, pickS_bool, ldS_ptr, list_cells, list_ro, partS_none, lenSl_of, lenStr_of, cvInt_of, aminmax_max, aminmax_min, abin_add, abin_sub, abin_mul, abin_eql, abin_neq, abin_lss, abin_leq, abin_gtr, abin_geq, aunary_not, aextract, fresh_n]
      exact Sl.own (l := [0]) (junk := []) (fresh_at (S.fresh ((List.replicate n false).map .bool) 1) [.int .i64 0] 1) (Nat.le_refl _) (.inr ⟨by decide, rfl⟩) (by decide)
  clear hs hb1 hb2
  rintro m T S1 ⟨ms, w, hv, hm1, hm2, hj, hmb, hmB, hB2, hw, t0, t1, t2, t4⟩
  obtain ⟨hb1, hb2, _⟩ := hJ _ _ hj
  refine m_seq (m_seq (m_reg ?_))
  rw [reg39_2]
  simp (decide := true) only [FT.get_set, FT.setL, faS_ptr, nilS_ptr, nilS_func, nilS_yield, pickS_bool, ldS_ptr, list_cells, list_ro, partS_none, lenSl_of, lenStr_of, cvInt_of, aminmax_max, aminmax_min, abin_add, abin_sub, abin_mul, abin_eql, abin_neq, abin_lss, abin_leq, abin_gtr, abin_geq, aunary_not, aextract, Option.some.injEq, Prod.mk.injEq, Value.bool.injEq, exists_eq_left', exists_and_left, and_assoc, decide_eq_true_eq, decide_eq_false_iff_not, if_true, if_false, Nat.zero_add, Nat.add_zero, Option.bind_some, true_and, and_true, forall_const, true_implies, Bool.not_eq_true, Bool.false_eq_true, false_implies, ite_self, Nat.mul_one, hw.lenSl]
  refine m_cond (t := decide ((w.length : Int) > 0)) (by simp [evalT, FT.get_set, FT.setL, faS_ptr, nilS_ptr, nilS_func, nilS_yield, pickS_bool, ldS_ptr, list_cells, list_ro, partS_none, lenSl_of, lenStr_of, cvInt_of, aminmax_max, aminmax_min, abin_add, abin_sub, abin_mul, abin_eql, abin_neq, abin_lss, abin_leq, abin_gtr, abin_geq, aunary_not, aextract]) (fun hgt => ?_) (fun hgt => ?_)
  · have hgt : (w.length : Int) > 0 := of_decide_eq_true hgt
    refine m_skip ?_
    simp only
    obtain ⟨w', x, rfl⟩ := last_of (w := w) (fun e => by rw [e] at hgt; simp at hgt)
    obtain ⟨x0, x1, x2⟩ := hv.wait x (by simp)
    obtain ⟨k, rfl⟩ := Int.eq_ofNat_of_zero_le x0
    have hk : k < n := by omega
    have hlen : (w' ++ [(k : Int)]).length = w'.length + 1 := by simp
    rw [hlen] at hm1
    have hwr : IntKind.i64.wrap (((w' ++ [(k : Int)]).length : Int) - 1) = (w'.length : Int) := by rw [hlen, wrap_i64 (by omega) (by omega)]; omega
    refine m_wf fun wfS => ?_
    unfold blk39_1
    refine m_block (m_seq (m_reg ?_))
    rw [reg39_3]
    obtain ⟨b, hat1, hat2⟩ := hw.at (i := w'.length) (x := (k : Int)) (by simp)
    simp (decide := true) only [FT.get_set, FT.setL, faS_ptr, nilS_ptr, nilS_func, nilS_yield, pickS_bool, ldS_ptr, list_cells, list_ro, partS_none, lenSl_of, lenStr_of, cvInt_of, aminmax_max, aminmax_min, abin_add, abin_sub, abin_mul, abin_eql, abin_neq, abin_lss, abin_leq, abin_gtr, abin_geq, aunary_not, aextract, Option.some.injEq, Prod.mk.injEq, Value.bool.injEq, exists_eq_left', exists_and_left, and_assoc, decide_eq_true_eq, decide_eq_false_iff_not, if_true, if_false, Nat.zero_add, Nat.add_zero, Option.bind_some, true_and, and_true, forall_const, true_implies, Bool.not_eq_true, Bool.false_eq_true, false_implies, ite_self, Nat.mul_one, hw.lenSl, hwr, hat1, hat2]
    obtain ⟨v', hp1, hp2⟩ := hw.pop (by omega)
    refine m_seq (m_reg ?_)
    rw [reg39_4]
    simp (decide := true) only [FT.get_set, FT.setL, faS_ptr, nilS_ptr, nilS_func, nilS_yield, pickS_bool, ldS_ptr, list_cells, list_ro, partS_none, lenSl_of, lenStr_of, cvInt_of, aminmax_max, aminmax_min, abin_add, abin_sub, abin_mul, abin_eql, abin_neq, abin_lss, abin_leq, abin_gtr, abin_geq, aunary_not, aextract, Option.some.injEq, Prod.mk.injEq, Value.bool.injEq, exists_eq_left', exists_and_left, and_assoc, decide_eq_true_eq, decide_eq_false_iff_not, if_true, if_false, Nat.zero_add, Nat.add_zero, Option.bind_some, true_and, and_true, forall_const, true_implies, Bool.not_eq_true, Bool.false_eq_true, false_implies, ite_self, Nat.mul_one, hw.lenSl, hwr, hp1]
    refine m_seq (m_seq (m_reg ?_))
    rw [reg39_5]
    obtain ⟨q, hq⟩ : ∃ q, ms[k]? = some q := ⟨_, List.getElem?_eq_getElem (by rw [hv.len]; exact hk)⟩
    have hqm : (ms.map Value.bool)[k]? = some (.bool q) := by rw [List.getElem?_map, hq]; rfl
    simp (decide := true) only [FT.get_set, FT.setL, faS_ptr, nilS_ptr, nilS_func, nilS_yield, pickS_bool, ldS_ptr, list_cells, list_ro, partS_none, lenSl_of, lenStr_of, cvInt_of, aminmax_max, aminmax_min, abin_add, abin_sub, abin_mul, abin_eql, abin_neq, abin_lss, abin_leq, abin_gtr, abin_geq, aunary_not, aextract, Option.some.injEq, Prod.mk.injEq, Value.bool.injEq, exists_eq_left', exists_and_left, and_assoc, decide_eq_true_eq, decide_eq_false_iff_not, if_true, if_false, Nat.zero_add, Nat.add_zero, Option.bind_some, true_and, and_true, forall_const, true_implies, Bool.not_eq_true, Bool.false_eq_true, false_implies, ite_self, Nat.mul_one, t4, iaSS_of (k := .i64) (i := (k : Int)) (by omega) (by omega : (k : Int) < (n : Int)), Int.toNat_natCast, list_of hmb, hqm]
    refine m_cond (t := q) (by simp [evalT, FT.get_set, FT.setL, faS_ptr, nilS_ptr, nilS_func, nilS_yield, pickS_bool, ldS_ptr, list_cells, list_ro, partS_none, lenSl_of, lenStr_of, cvInt_of, aminmax_max, aminmax_min, abin_add, abin_sub, abin_mul, abin_eql, abin_neq, abin_lss, abin_leq, abin_gtr, abin_geq, aunary_not, aextract]) (fun hqt => ?_) (fun hqf => ?_)
    · refine m_exit ?_
      simp only [if_true]
      subst hqt
      exact ⟨m - 1, by omega, ms, w', hv.skip (x := (k : Int)) (by rw [Int.toNat_natCast]; exact hq) (fun y hy => by simpa [or_comm] using hy) (fun y hy => by simp [hy]), by omega, by omega, hj, hmb, hmB, hB2, by simp [FT.get_set, FT.setL, faS_ptr, nilS_ptr, nilS_func, nilS_yield, pickS_bool, ldS_ptr, list_cells, list_ro, partS_none, lenSl_of, lenStr_of, cvInt_of, aminmax_max, aminmax_min, abin_add, abin_sub, abin_mul, abin_eql, abin_neq, abin_lss, abin_leq, abin_gtr, abin_geq, aunary_not, aextract]; exact hp2, by simp [FT.get_set, FT.setL, faS_ptr, nilS_ptr, nilS_func, nilS_yield, pickS_bool, ldS_ptr, list_cells, list_ro, partS_none, lenSl_of, lenStr_of, cvInt_of, aminmax_max, aminmax_min, abin_add, abin_sub, abin_mul, abin_eql, abin_neq, abin_lss, abin_leq, abin_gtr, abin_geq, aunary_not, aextract, t0], by simp [FT.get_set, FT.setL, faS_ptr, nilS_ptr, nilS_func, nilS_yield, pickS_bool, ldS_ptr, list_cells, list_ro, partS_none, lenSl_of, lenStr_of, cvInt_of, aminmax_max, aminmax_min, abin_add, abin_sub, abin_mul, abin_eql, abin_neq, abin_lss, abin_leq, abin_gtr, abin_geq, aunary_not, aextract, t1], by simp [FT.get_set, FT.setL, faS_ptr, nilS_ptr, nilS_func, nilS_yield, pickS_bool, ldS_ptr, list_cells, list_ro, partS_none, lenSl_of, lenStr_of, cvInt_of, aminmax_max, aminmax_min, abin_add, abin_sub, abin_mul, abin_eql, abin_neq, abin_lss, abin_leq, abin_gtr, abin_geq, aunary_not, aextract, t2], by simp [FT.get_set, FT.setL, faS_ptr, nilS_ptr, nilS_func, nilS_yield, pickS_bool, ldS_ptr, list_cells, list_ro, partS_none, lenSl_of, lenStr_of, cvInt_of, aminmax_max, aminmax_min, abin_add, abin_sub, abin_mul, abin_eql, abin_neq, abin_lss, abin_leq, abin_gtr, abin_geq, aunary_not, aextract, t4]⟩
    · subst hqf
      refine m_skip ?_
      simp only
      refine m_seq (m_reg ?_)
      rw [reg39_6]
      obtain ⟨S2, s1, s2, s3, s4⟩ := st_one (off := k) (v := .bool true) hmb (by rw [List.length_map, hv.len]; exact hk) rfl rfl
      simp (decide := true) only [FT.get_set, FT.setL, faS_ptr, nilS_ptr, nilS_func, nilS_yield, pickS_bool, ldS_ptr, list_cells, list_ro, partS_none, lenSl_of, lenStr_of, cvInt_of, aminmax_max, aminmax_min, abin_add, abin_sub, abin_mul, abin_eql, abin_neq, abin_lss, abin_leq, abin_gtr, abin_geq, aunary_not, aextract, Option.some.injEq, Prod.mk.injEq, Value.bool.injEq, exists_eq_left', exists_and_left, and_assoc, decide_eq_true_eq, decide_eq_false_iff_not, if_true, if_false, Nat.zero_add, Nat.add_zero, Option.bind_some, true_and, and_true, forall_const, true_implies, Bool.not_eq_true, Bool.false_eq_true, false_implies, ite_self, Nat.mul_one, t4, iaSS_of (k := .i64) (i := (k : Int)) (by omega) (by omega : (k : Int) < (n : Int)), Int.toNat_natCast]
      refine ⟨S2, s1, ?_⟩
      have hset : (ms.map Value.bool).set k (.bool true) = (ms.set k true).map .bool := by rw [List.map_set]
      rw [hset] at s2
      have f2' : ∀ y, y ≠ S.n → S2.m y = S1.m y := s4
      have hj2 : J ms S2 := hkeep _ _ _ hj wfS (fun y hy => f2' y (by omega)) (by omega)
      have hw2 : Sl S2 (S.n + 1) v' w' := by
        cases hp2 with
        | non => exact .non
        | own h1 h2 h3 h4 => exact .own (by rw [f2' _ (by omega)]; exact h1) h2 h3 h4
      refine m_wf fun wf2 => ?_
      refine m_seq (m_seq (m_reg ?_))
      rw [reg39_7]
      simp (decide := true) only [FT.get_set, FT.setL, faS_ptr, nilS_ptr, nilS_func, nilS_yield, pickS_bool, ldS_ptr, list_cells, list_ro, partS_none, lenSl_of, lenStr_of, cvInt_of, aminmax_max, aminmax_min, abin_add, abin_sub, abin_mul, abin_eql, abin_neq, abin_lss, abin_leq, abin_gtr, abin_geq, aunary_not, aextract, Option.some.injEq, Prod.mk.injEq, Value.bool.injEq, exists_eq_left', exists_and_left, and_assoc, decide_eq_true_eq, decide_eq_false_iff_not, if_true, if_false, Nat.zero_add, Nat.add_zero, Option.bind_some, true_and, and_true, forall_const, true_implies, Bool.not_eq_true, Bool.false_eq_true, false_implies, ite_self, Nat.mul_one, t0]
      refine CallV.mono (f := .func (.yield l) #[] #[]) (args := [.int .i64 k]) (step ms S2 k hj2 wf2 hv.len hq) ?_
      rintro _ S3 ⟨rfl, hj3, hn3, hf3⟩
      simp (decide := true) only [FT.get_set, FT.setL, faS_ptr, nilS_ptr, nilS_func, nilS_yield, pickS_bool, ldS_ptr, list_cells, list_ro, partS_none, lenSl_of, lenStr_of, cvInt_of, aminmax_max, aminmax_min, abin_add, abin_sub, abin_mul, abin_eql, abin_neq, abin_lss, abin_leq, abin_gtr, abin_geq, aunary_not, aextract, Option.some.injEq, Prod.mk.injEq, Value.bool.injEq, exists_eq_left', exists_and_left, and_assoc, decide_eq_true_eq, decide_eq_false_iff_not, if_true, if_false, Nat.zero_add, Nat.add_zero, Option.bind_some, true_and, and_true, forall_const, true_implies, Bool.not_eq_true, Bool.false_eq_true, false_implies, ite_self, Nat.mul_one, Bool.not_true]
      refine m_cond (t := false) (by simp [evalT, FT.get_set, FT.setL, faS_ptr, nilS_ptr, nilS_func, nilS_yield, pickS_bool, ldS_ptr, list_cells, list_ro, partS_none, lenSl_of, lenStr_of, cvInt_of, aminmax_max, aminmax_min, abin_add, abin_sub, abin_mul, abin_eql, abin_neq, abin_lss, abin_leq, abin_gtr, abin_geq, aunary_not, aextract]) (fun h => by cases h) (fun _ => ?_)
      refine m_skip ?_
      simp only
      have hmb3 : S3.m S.n = some (.cells ((ms.set k true).map .bool) 1) := (hf3 _ hBn (by omega)).trans s2
      obtain ⟨_, hb2', _⟩ := hJ _ _ hj3
      have hw3 : Sl S3 (S.n + 1) v' w' := by
        cases hw2 with
        | non => exact .non
        | own h1 h2 h3 h4 => exact .own (by rw [hf3 _ (by omega) (wf2 _ _ h1)]; exact h1) h2 h3 h4
      refine m_wf fun wf3 => ?_
      refine m_reg ?_
      rw [reg39_8]
      simp (decide := true) only [FT.get_set, FT.setL, faS_ptr, nilS_ptr, nilS_func, nilS_yield, pickS_bool, ldS_ptr, list_cells, list_ro, partS_none, lenSl_of, lenStr_of, cvInt_of, aminmax_max, aminmax_min, abin_add, abin_sub, abin_mul, abin_eql, abin_neq, abin_lss, abin_leq, abin_gtr, abin_geq, aunary_not, aextract, Option.some.injEq, Prod.mk.injEq, Value.bool.injEq, exists_eq_left', exists_and_left, and_assoc, decide_eq_true_eq, decide_eq_false_iff_not, if_true, if_false, Nat.zero_add, Nat.add_zero, Option.bind_some, true_and, and_true, forall_const, true_implies, Bool.not_eq_true, Bool.false_eq_true, false_implies, ite_self, Nat.mul_one, t2, list_of hb2', List.getElem?_cons_zero]
      show CallM Try.prog O fid [.int .i64 k, .pointer (some ⟨fb, 0, none⟩)] S3 _
      refine callM_wf_post (after _ _ k _ hj3 wf3 hk fun v S4 g1 g2 g3 wf4 => ?_)
      have hw4 : Sl S4 (S.n + 1) v' w' := hw3.keep fun y k' hy => g3 y (wf3 y k' hy)
      have hsl := h2 k
      have hun := un_set ms k hq
      obtain ⟨v5, S5, a1, a2, a3, a4⟩ := hw4.app wf4 (by omega) g1.len g1.cells (by omega)
      simp (decide := true) only [FT.get_set, FT.setL, faS_ptr, nilS_ptr, nilS_func, nilS_yield, pickS_bool, ldS_ptr, list_cells, list_ro, partS_none, lenSl_of, lenStr_of, cvInt_of, aminmax_max, aminmax_min, abin_add, abin_sub, abin_mul, abin_eql, abin_neq, abin_lss, abin_leq, abin_gtr, abin_geq, aunary_not, aextract, Option.some.injEq, Prod.mk.injEq, Value.bool.injEq, exists_eq_left', exists_and_left, and_assoc, decide_eq_true_eq, decide_eq_false_iff_not, if_true, if_false, Nat.zero_add, Nat.add_zero, Option.bind_some, true_and, and_true, forall_const, true_implies, Bool.not_eq_true, Bool.false_eq_true, false_implies, ite_self, Nat.mul_one, a1]
      have hj4 : J (ms.set k true) S4 := hkeep _ _ _ hj3 wf3 (fun y hy => g3 y (by omega)) g2
      have hj5 : J (ms.set k true) S5 := hkeep _ _ _ hj4 wf4 (fun y hy => a4 y (by omega)) a3
      refine ⟨m - 1, by omega, ms.set k true, w' ++ nx k, hv.mark (x := (k : Int)) hg (by simp) ?_ ?_ ?_, by simp; omega, by omega, hj5, ?_, hmB, by omega, by simp [FT.get_set, FT.setL, faS_ptr, nilS_ptr, nilS_func, nilS_yield, pickS_bool, ldS_ptr, list_cells, list_ro, partS_none, lenSl_of, lenStr_of, cvInt_of, aminmax_max, aminmax_min, abin_add, abin_sub, abin_mul, abin_eql, abin_neq, abin_lss, abin_leq, abin_gtr, abin_geq, aunary_not, aextract]; exact a2, by simp [FT.get_set, FT.setL, faS_ptr, nilS_ptr, nilS_func, nilS_yield, pickS_bool, ldS_ptr, list_cells, list_ro, partS_none, lenSl_of, lenStr_of, cvInt_of, aminmax_max, aminmax_min, abin_add, abin_sub, abin_mul, abin_eql, abin_neq, abin_lss, abin_leq, abin_gtr, abin_geq, aunary_not, aextract, t0], by simp [FT.get_set, FT.setL, faS_ptr, nilS_ptr, nilS_func, nilS_yield, pickS_bool, ldS_ptr, list_cells, list_ro, partS_none, lenSl_of, lenStr_of, cvInt_of, aminmax_max, aminmax_min, abin_add, abin_sub, abin_mul, abin_eql, abin_neq, abin_lss, abin_leq, abin_gtr, abin_geq, aunary_not, aextract, t1], by simp [FT.get_set, FT.setL, faS_ptr, nilS_ptr, nilS_func, nilS_yield, pickS_bool, ldS_ptr, list_cells, list_ro, partS_none, lenSl_of, lenStr_of, cvInt_of, aminmax_max, aminmax_min, abin_add, abin_sub, abin_mul, abin_eql, abin_neq, abin_lss, abin_leq, abin_gtr, abin_geq, aunary_not, aextract, t2], by simp [FT.get_set, FT.setL, faS_ptr, nilS_ptr, nilS_func, nilS_yield, pickS_bool, ldS_ptr, list_cells, list_ro, partS_none, lenSl_of, lenStr_of, cvInt_of, aminmax_max, aminmax_min, abin_add, abin_sub, abin_mul, abin_eql, abin_neq, abin_lss, abin_leq, abin_gtr, abin_geq, aunary_not, aextract, t4]⟩
      · intro y hy; rcases List.mem_append.1 hy with hy | hy
        · exact .inr (List.mem_append.2 (.inl hy))
        · simp at hy; exact .inl hy
      · intro y hy; rcases List.mem_append.1 hy with hy | hy
        · exact .inl (List.mem_append.2 (.inl hy))
        · rw [Int.toNat_natCast]; exact .inr hy
      · intro y hy; rw [Int.toNat_natCast] at hy; exact List.mem_append.2 (.inr hy)
      · rw [a4 _ (by omega), g3 _ (by omega)]; exact hmb3
  · refine m_exit ?_
    simp only [if_true]
    have : w = [] := List.length_eq_zero_iff.1 (by have := of_decide_eq_false hgt; omega)
    subst this
    simp [resM, oneOrTuple]
    exact ⟨ms, hv, hj⟩
end Go.Proofs.Ytgkdmnfmfcdfmaa

