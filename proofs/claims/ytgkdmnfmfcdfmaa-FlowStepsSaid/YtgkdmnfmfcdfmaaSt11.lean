/-
  The walk through the code that goes through instructions, part 11: what its functions do to memory. Nothing is asked.
-/
import Derived.Test.YtgkdmnfmfcdfmaaSt10
set_option linter.all false
namespace Go.Proofs.Ytgkdmnfmfcdfmaa
open Go Go.Ag
set_option linter.unusedVariables false
set_option maxRecDepth 100000

theorem law4 {S : MS} {rr : Int} {ov : Value} {os : List Op5} (ho : Ops S ov os) : CallM Try.prog O 4 [fnV rr ov] S fun v _ => v = .bool true := by
  refine callM_wf fun wf => ?_
  refine callM_body (fnIs is4 body4 res4) (O_none (by decide)) (by simp) ?_
  have fin : ∀ (T' : FT) (S' : MS), T'.get 2 = .bool true → ((match AExit.ret with | .exit _ => False | _ => True) ∧ ∃ vs, resM Try.prog T' S' [.tmp 2] = some vs ∧ oneOrTuple vs = .bool true) := by
    intro T' S' h4
    simp [resM, h4, oneOrTuple]
  refine m_seq (m_reg ?_)
  rw [reg4_0]
  simp (decide := true) only [FT.get_set, FT.setL, faS_ptr, nilS_ptr, nilS_func, nilS_yield, pickS_bool, ldS_ptr, list_cells, list_ro, partS_none, lenSl_of, lenStr_of, cvInt_of, aminmax_max, aminmax_min, abin_add, abin_sub, abin_mul, abin_eql, abin_neq, abin_lss, abin_leq, abin_gtr, abin_geq, aunary_not, aextract, Option.some.injEq, Prod.mk.injEq, Value.bool.injEq, exists_eq_left', exists_and_left, and_assoc, decide_eq_true_eq, decide_eq_false_iff_not, if_true, if_false, Nat.zero_add, Nat.add_zero, Option.bind_some, true_and, and_true, forall_const, true_implies, Bool.not_eq_true, Bool.false_eq_true, false_implies, ite_self, Nat.mul_one, fnV_cells rr ho.one, ptrTo]
  have f1 : Old S (S.fresh [.int .i64 rr, ov] 0) := ⟨Nat.le_succ _, fun y hy => fresh_old _ _ _ (Nat.ne_of_lt hy)⟩
  have hfb := fresh_at S [.int .i64 rr, ov] 0
  have ho1 := ho.keep wf f1.2
  have wf1 := wf_fresh' wf [.int .i64 rr, ov] 0
  refine m_seq (m_seq (m_reg ?_))
  rw [reg4_1]
  refine callM_known (v := .bool true) rfl ?_
  simp (decide := true) only [FT.get_set, FT.setL, faS_ptr, nilS_ptr, nilS_func, nilS_yield, pickS_bool, ldS_ptr, list_cells, list_ro, partS_none, lenSl_of, lenStr_of, cvInt_of, aminmax_max, aminmax_min, abin_add, abin_sub, abin_mul, abin_eql, abin_neq, abin_lss, abin_leq, abin_gtr, abin_geq, aunary_not, aextract, Option.some.injEq, Prod.mk.injEq, Value.bool.injEq, exists_eq_left', exists_and_left, and_assoc, decide_eq_true_eq, decide_eq_false_iff_not, if_true, if_false, Nat.zero_add, Nat.add_zero, Option.bind_some, true_and, and_true, forall_const, true_implies, Bool.not_eq_true, Bool.false_eq_true, false_implies, ite_self, Nat.mul_one, Bool.not_true]
  refine m_cond (t := false) (by simp [evalT, FT.get_set, FT.setL, faS_ptr, nilS_ptr, nilS_func, nilS_yield, pickS_bool, ldS_ptr, list_cells, list_ro, partS_none, lenSl_of, lenStr_of, cvInt_of, aminmax_max, aminmax_min, abin_add, abin_sub, abin_mul, abin_eql, abin_neq, abin_lss, abin_leq, abin_gtr, abin_geq, aunary_not, aextract]) (fun h => by cases h) (fun _ => ?_)
  refine m_skip ?_
  simp only
  refine m_seq (m_seq (m_reg ?_))
  rw [reg4_3]
  simp (decide := true) only [FT.get_set, FT.setL, faS_ptr, nilS_ptr, nilS_func, nilS_yield, pickS_bool, ldS_ptr, list_cells, list_ro, partS_none, lenSl_of, lenStr_of, cvInt_of, aminmax_max, aminmax_min, abin_add, abin_sub, abin_mul, abin_eql, abin_neq, abin_lss, abin_leq, abin_gtr, abin_geq, aunary_not, aextract, Option.some.injEq, Prod.mk.injEq, Value.bool.injEq, exists_eq_left', exists_and_left, and_assoc, decide_eq_true_eq, decide_eq_false_iff_not, if_true, if_false, Nat.zero_add, Nat.add_zero, Option.bind_some, true_and, and_true, forall_const, true_implies, Bool.not_eq_true, Bool.false_eq_true, false_implies, ite_self, Nat.mul_one, list_of hfb, List.getElem?_cons_zero, List.getElem?_cons_succ, ho.len]
  refine m_cond (t := decide ((os.length : Int) > 2500)) (by simp [evalT, FT.get_set, FT.setL, faS_ptr, nilS_ptr, nilS_func, nilS_yield, pickS_bool, ldS_ptr, list_cells, list_ro, partS_none, lenSl_of, lenStr_of, cvInt_of, aminmax_max, aminmax_min, abin_add, abin_sub, abin_mul, abin_eql, abin_neq, abin_lss, abin_leq, abin_gtr, abin_geq, aunary_not, aextract]) (fun hgt => ?_) (fun hle => ?_)
  · refine m_seq (m_reg ?_)
    rw [reg4_4]
    exact m_ret (fin _ _ (by simp [FT.get_set, FT.setL, faS_ptr, nilS_ptr, nilS_func, nilS_yield, pickS_bool, ldS_ptr, list_cells, list_ro, partS_none, lenSl_of, lenStr_of, cvInt_of, aminmax_max, aminmax_min, abin_add, abin_sub, abin_mul, abin_eql, abin_neq, abin_lss, abin_leq, abin_gtr, abin_geq, aunary_not, aextract]))
  have hn : os.length ≤ 2500 := by have := of_decide_eq_false hle; omega
  refine m_skip ?_
  simp only
  refine m_seq (m_reg ?_)
  rw [reg4_5]
  simp (decide := true) only [FT.get_set, FT.setL, faS_ptr, nilS_ptr, nilS_func, nilS_yield, pickS_bool, ldS_ptr, list_cells, list_ro, partS_none, lenSl_of, lenStr_of, cvInt_of, aminmax_max, aminmax_min, abin_add, abin_sub, abin_mul, abin_eql, abin_neq, abin_lss, abin_leq, abin_gtr, abin_geq, aunary_not, aextract, Option.some.injEq, Prod.mk.injEq, Value.bool.injEq, exists_eq_left', exists_and_left, and_assoc, decide_eq_true_eq, decide_eq_false_iff_not, if_true, if_false, Nat.zero_add, Nat.add_zero, Option.bind_some, true_and, and_true, forall_const, true_implies, Bool.not_eq_true, Bool.false_eq_true, false_implies, ite_self, Nat.mul_one, list_of hfb, partS_two]
  refine callM_wf_post (CallM.mono (steps14 (rr := rr) ho1 hn) ?_)
  rintro v S2 ⟨hold2, htold⟩ wf2
  have hfb2 := (hold2.2 S.n (Nat.lt_succ_self _)).trans hfb
  have ho2 := ho1.keep wf1 hold2.2
  rcases htold with ⟨hb, rfl⟩ | ⟨h0, hg, ms, b, hv, hbn, hbc, rfl⟩
  · simp (decide := true) only [FT.get_set, FT.setL, faS_ptr, nilS_ptr, nilS_func, nilS_yield, pickS_bool, ldS_ptr, list_cells, list_ro, partS_none, lenSl_of, lenStr_of, cvInt_of, aminmax_max, aminmax_min, abin_add, abin_sub, abin_mul, abin_eql, abin_neq, abin_lss, abin_leq, abin_gtr, abin_geq, aunary_not, aextract, Option.some.injEq, Prod.mk.injEq, Value.bool.injEq, exists_eq_left', exists_and_left, and_assoc, decide_eq_true_eq, decide_eq_false_iff_not, if_true, if_false, Nat.zero_add, Nat.add_zero, Option.bind_some, true_and, and_true, forall_const, true_implies, Bool.not_eq_true, Bool.false_eq_true, false_implies, ite_self, Nat.mul_one, List.getElem?_cons_zero, List.getElem?_cons_succ]
    refine m_seq (m_reg ?_)
    rw [reg4_6]
    simp (decide := true) only [FT.get_set, FT.setL, faS_ptr, nilS_ptr, nilS_func, nilS_yield, pickS_bool, ldS_ptr, list_cells, list_ro, partS_none, lenSl_of, lenStr_of, cvInt_of, aminmax_max, aminmax_min, abin_add, abin_sub, abin_mul, abin_eql, abin_neq, abin_lss, abin_leq, abin_gtr, abin_geq, aunary_not, aextract, Option.some.injEq, Prod.mk.injEq, Value.bool.injEq, exists_eq_left', exists_and_left, and_assoc, decide_eq_true_eq, decide_eq_false_iff_not, if_true, if_false, Nat.zero_add, Nat.add_zero, Option.bind_some, true_and, and_true, forall_const, true_implies, Bool.not_eq_true, Bool.false_eq_true, false_implies, ite_self, Nat.mul_one, list_of hfb2, partS_two]
    refine CallM.mono (steps15 (rr := rr) ho2 hn) ?_
    rintro v S3 ⟨hold3, htold⟩
    rcases htold with ⟨hb', rfl⟩ | ⟨h0, hg, _⟩
    · simp (decide := true) only [FT.get_set, FT.setL, faS_ptr, nilS_ptr, nilS_func, nilS_yield, pickS_bool, ldS_ptr, list_cells, list_ro, partS_none, lenSl_of, lenStr_of, cvInt_of, aminmax_max, aminmax_min, abin_add, abin_sub, abin_mul, abin_eql, abin_neq, abin_lss, abin_leq, abin_gtr, abin_geq, aunary_not, aextract, Option.some.injEq, Prod.mk.injEq, Value.bool.injEq, exists_eq_left', exists_and_left, and_assoc, decide_eq_true_eq, decide_eq_false_iff_not, if_true, if_false, Nat.zero_add, Nat.add_zero, Option.bind_some, true_and, and_true, forall_const, true_implies, Bool.not_eq_true, Bool.false_eq_true, false_implies, ite_self, Nat.mul_one, List.getElem?_cons_zero, List.getElem?_cons_succ]
      refine m_seq (m_reg ?_)
      rw [reg4_7]
      simp (decide := true) only [FT.get_set, FT.setL, faS_ptr, nilS_ptr, nilS_func, nilS_yield, pickS_bool, ldS_ptr, list_cells, list_ro, partS_none, lenSl_of, lenStr_of, cvInt_of, aminmax_max, aminmax_min, abin_add, abin_sub, abin_mul, abin_eql, abin_neq, abin_lss, abin_leq, abin_gtr, abin_geq, aunary_not, aextract, Option.some.injEq, Prod.mk.injEq, Value.bool.injEq, exists_eq_left', exists_and_left, and_assoc, decide_eq_true_eq, decide_eq_false_iff_not, if_true, if_false, Nat.zero_add, Nat.add_zero, Option.bind_some, true_and, and_true, forall_const, true_implies, Bool.not_eq_true, Bool.false_eq_true, false_implies, ite_self, Nat.mul_one, beq_self_eq_true]
      refine flags13 (n := 0) (by omega) rfl rfl (fun i hi => absurd hi (by omega)) ?_
      try simp (decide := true) only [FT.get_set, FT.setL, faS_ptr, nilS_ptr, nilS_func, nilS_yield, pickS_bool, ldS_ptr, list_cells, list_ro, partS_none, lenSl_of, lenStr_of, cvInt_of, aminmax_max, aminmax_min, abin_add, abin_sub, abin_mul, abin_eql, abin_neq, abin_lss, abin_leq, abin_gtr, abin_geq, aunary_not, aextract, Option.some.injEq, Prod.mk.injEq, Value.bool.injEq, exists_eq_left', exists_and_left, and_assoc, decide_eq_true_eq, decide_eq_false_iff_not, if_true, if_false, Nat.zero_add, Nat.add_zero, Option.bind_some, true_and, and_true, forall_const, true_implies, Bool.not_eq_true, Bool.false_eq_true, false_implies, ite_self, Nat.mul_one, ]
      exact m_ret (fin _ _ (by simp [FT.get_set, FT.setL, faS_ptr, nilS_ptr, nilS_func, nilS_yield, pickS_bool, ldS_ptr, list_cells, list_ro, partS_none, lenSl_of, lenStr_of, cvInt_of, aminmax_max, aminmax_min, abin_add, abin_sub, abin_mul, abin_eql, abin_neq, abin_lss, abin_leq, abin_gtr, abin_geq, aunary_not, aextract]))
    · exact (hb.elim h0 (fun h => h hg)).elim
  · simp (decide := true) only [FT.get_set, FT.setL, faS_ptr, nilS_ptr, nilS_func, nilS_yield, pickS_bool, ldS_ptr, list_cells, list_ro, partS_none, lenSl_of, lenStr_of, cvInt_of, aminmax_max, aminmax_min, abin_add, abin_sub, abin_mul, abin_eql, abin_neq, abin_lss, abin_leq, abin_gtr, abin_geq, aunary_not, aextract, Option.some.injEq, Prod.mk.injEq, Value.bool.injEq, exists_eq_left', exists_and_left, and_assoc, decide_eq_true_eq, decide_eq_false_iff_not, if_true, if_false, Nat.zero_add, Nat.add_zero, Option.bind_some, true_and, and_true, forall_const, true_implies, Bool.not_eq_true, Bool.false_eq_true, false_implies, ite_self, Nat.mul_one, List.getElem?_cons_zero, List.getElem?_cons_succ]
    refine m_seq (m_reg ?_)
    rw [reg4_6]
    simp (decide := true) only [FT.get_set, FT.setL, faS_ptr, nilS_ptr, nilS_func, nilS_yield, pickS_bool, ldS_ptr, list_cells, list_ro, partS_none, lenSl_of, lenStr_of, cvInt_of, aminmax_max, aminmax_min, abin_add, abin_sub, abin_mul, abin_eql, abin_neq, abin_lss, abin_leq, abin_gtr, abin_geq, aunary_not, aextract, Option.some.injEq, Prod.mk.injEq, Value.bool.injEq, exists_eq_left', exists_and_left, and_assoc, decide_eq_true_eq, decide_eq_false_iff_not, if_true, if_false, Nat.zero_add, Nat.add_zero, Option.bind_some, true_and, and_true, forall_const, true_implies, Bool.not_eq_true, Bool.false_eq_true, false_implies, ite_self, Nat.mul_one, list_of hfb2, partS_two]
    refine CallM.mono (steps15 (rr := rr) ho2 hn) ?_
    rintro v S3 ⟨hold3, htold⟩
    rcases htold with ⟨hb', rfl⟩ | ⟨_, _, ms', b', hv', hbn', hbc', rfl⟩
    · exact (hb'.elim h0 (fun h => h hg)).elim
    · have hms : ms' = ms := hv'.same hv hg
      subst hms
      have hb3 : S3.m b = some (.cells (ms'.map .bool) 1) := (hold3.2 b (wf2 _ _ hbc)).trans hbc
      simp (decide := true) only [FT.get_set, FT.setL, faS_ptr, nilS_ptr, nilS_func, nilS_yield, pickS_bool, ldS_ptr, list_cells, list_ro, partS_none, lenSl_of, lenStr_of, cvInt_of, aminmax_max, aminmax_min, abin_add, abin_sub, abin_mul, abin_eql, abin_neq, abin_lss, abin_leq, abin_gtr, abin_geq, aunary_not, aextract, Option.some.injEq, Prod.mk.injEq, Value.bool.injEq, exists_eq_left', exists_and_left, and_assoc, decide_eq_true_eq, decide_eq_false_iff_not, if_true, if_false, Nat.zero_add, Nat.add_zero, Option.bind_some, true_and, and_true, forall_const, true_implies, Bool.not_eq_true, Bool.false_eq_true, false_implies, ite_self, Nat.mul_one, List.getElem?_cons_zero, List.getElem?_cons_succ]
      refine m_seq (m_reg ?_)
      rw [reg4_7]
      simp (decide := true) only [FT.get_set, FT.setL, faS_ptr, nilS_ptr, nilS_func, nilS_yield, pickS_bool, ldS_ptr, list_cells, list_ro, partS_none, lenSl_of, lenStr_of, cvInt_of, aminmax_max, aminmax_min, abin_add, abin_sub, abin_mul, abin_eql, abin_neq, abin_lss, abin_leq, abin_gtr, abin_geq, aunary_not, aextract, Option.some.injEq, Prod.mk.injEq, Value.bool.injEq, exists_eq_left', exists_and_left, and_assoc, decide_eq_true_eq, decide_eq_false_iff_not, if_true, if_false, Nat.zero_add, Nat.add_zero, Option.bind_some, true_and, and_true, forall_const, true_implies, Bool.not_eq_true, Bool.false_eq_true, false_implies, ite_self, Nat.mul_one, beq_self_eq_true]
      refine flags13 (n := os.length) (by omega) (lenSl_of _ _ _) (lenSl_of _ _ _) (fun i hi => ?_) ?_
      · obtain ⟨q, hq⟩ : ∃ q, ms'[i]? = some q := ⟨_, List.getElem?_eq_getElem (by rw [hv.len]; exact hi)⟩
        have hqm : (ms'.map Value.bool)[i]? = some (.bool q) := by rw [List.getElem?_map, hq]; rfl
        have hia : ∀ x : Nat, iaSS 1 (.slice (some ⟨x, 0, none⟩) os.length os.length) (.int .i64 (i : Int)) = some (.pointer (some ⟨x, i, none⟩)) := fun x => by
          rw [iaSS_of (k := .i64) (i := (i : Int)) (by omega) (by omega : (i : Int) < (os.length : Int)), Int.toNat_natCast, Nat.mul_one, Nat.zero_add]
        refine ⟨q, _, _, hia b, ?_, hia b', ?_⟩
        · rw [ldS_ptr, list_of hb3]; simp only [K.list, Option.bind_some, partS_none]; exact hqm
        · rw [ldS_ptr, list_of hbc']; simp only [K.list, Option.bind_some, partS_none]; exact hqm
      · try simp (decide := true) only [FT.get_set, FT.setL, faS_ptr, nilS_ptr, nilS_func, nilS_yield, pickS_bool, ldS_ptr, list_cells, list_ro, partS_none, lenSl_of, lenStr_of, cvInt_of, aminmax_max, aminmax_min, abin_add, abin_sub, abin_mul, abin_eql, abin_neq, abin_lss, abin_leq, abin_gtr, abin_geq, aunary_not, aextract, Option.some.injEq, Prod.mk.injEq, Value.bool.injEq, exists_eq_left', exists_and_left, and_assoc, decide_eq_true_eq, decide_eq_false_iff_not, if_true, if_false, Nat.zero_add, Nat.add_zero, Option.bind_some, true_and, and_true, forall_const, true_implies, Bool.not_eq_true, Bool.false_eq_true, false_implies, ite_self, Nat.mul_one, ]
        exact m_ret (fin _ _ (by simp [FT.get_set, FT.setL, faS_ptr, nilS_ptr, nilS_func, nilS_yield, pickS_bool, ldS_ptr, list_cells, list_ro, partS_none, lenSl_of, lenStr_of, cvInt_of, aminmax_max, aminmax_min, abin_add, abin_sub, abin_mul, abin_eql, abin_neq, abin_lss, abin_leq, abin_gtr, abin_geq, aunary_not, aextract]))

theorem under3 : Try.prog.underlying 3 = some (.int .i64) := by kernel_rfl
theorem under27 : Try.prog.underlying 27 = some (.slice 36) := by kernel_rfl
theorem cells36 : Try.prog.cellsOf 36 = 5 := by kernel_rfl
theorem cells29 : Try.prog.cellsOf 29 = 2 := by kernel_rfl
theorem cells27 : Try.prog.cellsOf 27 = 1 := by kernel_rfl
theorem cells3 : Try.prog.cellsOf 3 = 1 := by kernel_rfl
theorem under36 : ∃ fs, Try.prog.underlying 36 = some (.struct fs) ∧ fs.toList.map (fun f => (f.type, f.offset)) = [(3, 0), (3, 1), (3, 2), (3, 3), (3, 4)] := by
  have h : (match Try.prog.underlying 36 with | some (.struct fs) => fs.toList.map (fun f => (f.type, f.offset)) | _ => []) = [(3, 0), (3, 1), (3, 2), (3, 3), (3, 4)] := by kernel_rfl
  split at h
  · rename_i fs e; exact ⟨fs, e, h⟩
  · cases h
theorem under29 : ∃ fs, Try.prog.underlying 29 = some (.struct fs) ∧ fs.toList.map (fun f => (f.type, f.offset)) = [(3, 0), (27, 1)] := by
  have h : (match Try.prog.underlying 29 with | some (.struct fs) => fs.toList.map (fun f => (f.type, f.offset)) | _ => []) = [(3, 0), (27, 1)] := by kernel_rfl
  split at h
  · rename_i fs e; exact ⟨fs, e, h⟩
  · cases h

section
variable {H : Type} {S : MS}
theorem rd_int {t : TypeId} {k : IntKind} (hu : Try.prog.underlying t = some (.int k)) {cs : List Value} {d : DataW H} (h : RdS Try.prog S t cs d) : ∃ n, cs = [.int k n] := by
  cases h with
  | int hu' hw => rw [hu] at hu'; cases hu'; exact ⟨_, rfl⟩
  | bool hu' => rw [hu] at hu'; cases hu'
  | string hu' _ => rw [hu] at hu'; cases hu'
  | sliceNil hu' => rw [hu] at hu'; cases hu'
  | sliceZ hu' => rw [hu] at hu'; cases hu'
  | slice vs hu' => rw [hu] at hu'; cases hu'
  | struct hu' => rw [hu] at hu'; cases hu'

theorem rd_fields {t : TypeId} {sig : List (TypeId × Nat)} (hu : ∃ fs, Try.prog.underlying t = some (.struct fs) ∧ fs.toList.map (fun f => (f.type, f.offset)) = sig) {x : List Value} {d : DataW H} (h : RdS Try.prog S t x d) : x.length = Try.prog.cellsOf t ∧ ∀ (i : Nat) t' o, sig[i]? = some (t', o) → ∃ d' : DataW H, RdS Try.prog S t' ((x.drop o).take (Try.prog.cellsOf t')) d' := by
  obtain ⟨fs0, hu, hfs⟩ := hu
  cases h with
  | bool hu' => rw [hu] at hu'; cases hu'
  | int hu' => rw [hu] at hu'; cases hu'
  | string hu' _ => rw [hu] at hu'; cases hu'
  | sliceNil hu' => rw [hu] at hu'; cases hu'
  | sliceZ hu' => rw [hu] at hu'; cases hu'
  | slice vs hu' => rw [hu] at hu'; cases hu'
  | struct hu' hl hd hr =>
    rename_i fs ds
    rw [hu] at hu'; cases hu'
    refine ⟨hl, fun i t' o hi => ?_⟩
    rw [← hfs, List.getElem?_map] at hi
    cases hf : fs0.toList[i]? with
    | none => rw [hf] at hi; cases hi
    | some f =>
      rw [hf] at hi
      cases hi
      have hlt : i < ds.length := by rw [hd]; exact (List.getElem?_eq_some_iff.1 hf).1
      exact ⟨_, hr i f _ hf (List.getElem?_eq_getElem hlt)⟩

theorem rd_op {x : List Value} {d : DataW H} (h : RdS Try.prog S 36 x d) : ∃ o : Op5, x = opL o := by
  obtain ⟨hl, fld⟩ := rd_fields under36 h
  rw [cells36] at hl
  match x, hl with
  | [a, b, c, e, g], _ =>
    obtain ⟨_, h0⟩ := fld 0 3 0 rfl
    obtain ⟨_, h1⟩ := fld 1 3 1 rfl
    obtain ⟨_, h2⟩ := fld 2 3 2 rfl
    obtain ⟨_, h3⟩ := fld 3 3 3 rfl
    obtain ⟨_, h4⟩ := fld 4 3 4 rfl
    rw [cells3] at h0 h1 h2 h3 h4
    obtain ⟨n0, e0⟩ := rd_int under3 h0
    obtain ⟨n1, e1⟩ := rd_int under3 h1
    obtain ⟨n2, e2⟩ := rd_int under3 h2
    obtain ⟨n3, e3⟩ := rd_int under3 h3
    obtain ⟨n4, e4⟩ := rd_int under3 h4
    simp at e0 e1 e2 e3 e4
    subst e0 e1 e2 e3 e4
    exact ⟨⟨n0, n1, n2, n3, n4⟩, rfl⟩

theorem list_of_each {α : Type} {p : Nat → α → Prop} : ∀ n, (∀ k, k < n → ∃ x, p k x) → ∃ xs : List α, xs.length = n ∧ ∀ (k : Nat) x, xs[k]? = some x → p k x := by
  intro n
  induction n with
  | zero => intro _; exact ⟨[], rfl, fun k x h => by cases h⟩
  | succ n ih =>
    intro h
    obtain ⟨xs, h1, h2⟩ := ih fun k hk => h k (by omega)
    obtain ⟨x, hx⟩ := h n (by omega)
    refine ⟨xs ++ [x], by simp [h1], fun k y hy => ?_⟩
    rw [List.getElem?_append] at hy
    split at hy
    · exact h2 k y hy
    · rename_i hk
      have : k = n := by have := (List.getElem?_eq_some_iff.1 hy).1; simp at this; omega
      subst this
      simp [h1] at hy
      subst hy; exact hx

theorem flat_at {n : Nat} : ∀ (vs : List (List Value)) (k : Nat) (x : List Value), (∀ y ∈ vs, y.length = n) → vs[k]? = some x → ((vs.flatten.drop (k * n)).take n = x ∧ k * n + n ≤ vs.flatten.length) := by
  intro vs
  induction vs with
  | nil => intro k x _ h; cases h
  | cons v vs ih =>
    intro k x hn h
    have hv := hn v (by simp)
    cases k with
    | zero => cases h; simp [hv]
    | succ k =>
      obtain ⟨g1, g2⟩ := ih k x (fun y hy => hn y (by simp [hy])) h
      have e : (k + 1) * n = v.length + k * n := by rw [hv, Nat.succ_mul]; omega
      refine ⟨?_, ?_⟩
      · rw [List.flatten_cons, e, ← List.drop_drop, List.drop_left']
        · exact g1
        · rfl
      · rw [List.flatten_cons, List.length_append, e]; omega

theorem rd_ops {cs : List Value} {d : DataW H} (h : RdS Try.prog S 27 cs d) : ∃ ov os, cs = [ov] ∧ Ops S ov os := by
  cases h with
  | bool hu' => rw [under27] at hu'; cases hu'
  | int hu' => rw [under27] at hu'; cases hu'
  | string hu' _ => rw [under27] at hu'; cases hu'
  | struct hu' => rw [under27] at hu'; cases hu'
  | sliceNil hu' => exact ⟨_, [], rfl, rfl, rfl, rfl, fun h => absurd rfl h⟩
  | sliceZ hu' => exact ⟨_, [], rfl, rfl, rfl, rfl, fun h => absurd rfl h⟩
  | slice vs hu hcap hlen hmax he hs hvs hb hsz hr =>
    rename_i e b len cap elems spare
    rw [under27] at hu; cases hu
    rw [cells36] at hsz
    have hst : ∀ k, k < len → ∃ o : Op5, vs[k]? = some (opL o) := by
      intro k hk
      have hkv : k < vs.length := by omega
      have hkd : k < (elems ++ spare).length := by rw [List.length_append]; omega
      obtain ⟨s, h1⟩ := rd_op (hr k _ _ (List.getElem?_eq_getElem hkv) (List.getElem?_eq_getElem hkd))
      exact ⟨s, by rw [List.getElem?_eq_getElem hkv, h1]⟩
    obtain ⟨xs, hxl, hx⟩ := list_of_each (p := fun k (s : Op5) => vs[k]? = some (opL s)) len hst
    refine ⟨_, xs, rfl, rfl, rfl, by rw [lenSl_of, hxl], fun _ => ⟨b, cap, vs.flatten, by rw [hxl], hb, fun k x hk => ?_⟩⟩
    obtain ⟨g1, g2⟩ := flat_at vs k _ hsz (hx k x hk)
    rw [partS_some _ _ _ g2, g1]

theorem rd_fn {cs : List Value} {d : DataW H} (h : RdS Try.prog S 29 cs d) : ∃ rr ov os, cs = [.int .i64 rr, ov] ∧ Ops S ov os := by
  obtain ⟨hl, fld⟩ := rd_fields under29 h
  rw [cells29] at hl
  match cs, hl with
  | [a, b], _ =>
    obtain ⟨_, h0⟩ := fld 0 3 0 rfl
    obtain ⟨_, h1⟩ := fld 1 27 1 rfl
    rw [cells3] at h0
    rw [cells27] at h1
    obtain ⟨n0, e0⟩ := rd_int under3 h0
    obtain ⟨ov, os, e1, ho⟩ := rd_ops h1
    simp at e0 e1
    subst e0 e1
    exact ⟨_, _, os, rfl, ho⟩

/-- whatever reads so: the law tells true -/
theorem run4 (ds : List (DataW H)) (vs : List Value) (h : RdSAll Try.prog S [29] vs ds) : CallM Try.prog O 4 vs S fun v _ => v = .bool true := by
  have one : ∃ a d1, vs = [a] ∧ ds = [d1] := by
    cases vs with
    | nil => exact h.elim
    | cons a vs =>
      cases ds with
      | nil => exact h.elim
      | cons d1 ds =>
        have h := h.2
        cases vs with
        | nil => cases ds with
          | nil => exact ⟨a, d1, rfl, rfl⟩
          | cons d ds => exact h.elim
        | cons b vs => exact h.elim
  obtain ⟨a, d1, rfl, rfl⟩ := one
  obtain ⟨⟨cs, r1, k1⟩, _⟩ := h
  obtain ⟨rr, ov, os, rfl, ho⟩ := rd_fn r1
  rcases k1 with ⟨_, rfl⟩ | ⟨hno, _⟩
  · exact law4 ho
  · obtain ⟨fs, hf, _⟩ := under29
    exact absurd hf (hno fs)
end
end Go.Proofs.Ytgkdmnfmfcdfmaa
