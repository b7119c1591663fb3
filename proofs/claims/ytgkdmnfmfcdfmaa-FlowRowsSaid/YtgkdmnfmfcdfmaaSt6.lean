/-
  The walk through the code of blocks and of what is reached, part F6: what its functions do to memory. Nothing is asked.
-/
import Derived.Test.YtgkdmnfmfcdfmaaSt5
set_option linter.all false
namespace Go.Proofs.Ytgkdmnfmfcdfmaa
open Go Go.Ag
set_option linter.unusedVariables false
set_option maxRecDepth 100000

theorem walk25 {S : MS} {n : Int} {f : Fn} {a b : Array Value} {Q : Value → MS → Prop} (hq : Q (.func (.func 39) #[] #[.pointer (some ⟨S.n, 0, none⟩), .pointer (some ⟨S.n + 1, 0, none⟩)]) ((S.fresh [.int .i64 n] 0).fresh [.func f a b] 0)) :
    CallM Try.prog O 25 [.int .i64 n, .func f a b] S Q := by
  refine callM_body (fnIs is25 body25 res25) (O_none (by decide)) (by simp) ?_
  refine m_seq (m_reg ?_)
  rw [reg25_0]
  refine m_seq (m_reg ?_)
  rw [reg25_1]
  refine m_ret ?_
  simp [resM, FT.get_set, FT.setL, faS_ptr, nilS_ptr, nilS_func, nilS_yield, pickS_bool, ldS_ptr, list_cells, list_ro, partS_none, lenSl_of, lenStr_of, cvInt_of, aminmax_max, aminmax_min, abin_add, abin_sub, abin_mul, abin_eql, abin_neq, abin_lss, abin_leq, abin_gtr, abin_geq, aunary_not, aextract, oneOrTuple, cells_int, cells_func, ptrTo, fresh_n]
  exact hq

/-- the caller's state while walk tells -/
def JS (os : List Op5) (S0 : MS) (fb ob xb b1 lb : Nat) (rr : Int) (ov : Value) (T : FT) (ms : List Bool) (S' : MS) : Prop :=
  S'.m lb = some (.loop ⟨.ready, none, ⟨T, 51⟩, [46], (.region 11 (ro 14 11) false), blk14_3⟩) ∧ S'.m b1 = some (.cells [.int .i64 os.length] 0) ∧ S'.m (b1 + 1) = some (.cells [.func (.func 29) #[] #[.pointer (some ⟨fb, 0, none⟩)]] 0) ∧ S'.m fb = some (.cells [.int .i64 rr, ov] 0) ∧
  S'.m ob = some (.cells (ms.map .bool) 1) ∧ S'.m xb = some (.cells [.slice (some ⟨ob, 0, none⟩) os.length os.length] 0) ∧ lb + 1 ≤ S'.n ∧ ∀ x, x < S0.n → S'.m x = S0.m x

theorem range14 {S0 S : MS} {fb ob xb b1 : Nat} {rr : Int} {ov : Value} {os : List Op5} {T : FT} (hg : Good os) (hn : os.length ≤ 2500) (h0 : os.length ≠ 0) (wf : S.WF)
    (t45 : T.get 45 = .func (.func 39) #[] #[.pointer (some ⟨b1, 0, none⟩), .pointer (some ⟨b1 + 1, 0, none⟩)]) (t6 : T.get 6 = .pointer (some ⟨xb, 0, none⟩))
    (hb1 : S.m b1 = some (.cells [.int .i64 os.length] 0)) (hb2 : S.m (b1 + 1) = some (.cells [.func (.func 29) #[] #[.pointer (some ⟨fb, 0, none⟩)]] 0)) (hfb : S.m fb = some (.cells [.int .i64 rr, ov] 0)) (ho : Ops S0 ov os) (wf0 : S0.WF)
    (hob : S.m ob = some (.cells ((List.replicate os.length false).map .bool) 1)) (hxb : S.m xb = some (.cells [.slice (some ⟨ob, 0, none⟩) os.length os.length] 0)) (hold : Old S0 S) (hord : S0.n ≤ ob) (hd : ob ≠ b1 ∧ ob ≠ b1 + 1 ∧ ob ≠ fb ∧ ob ≠ xb) :
    MWp Try.prog O 51 blk14_2 T S (fun x T' S' => x = .normal ∧ T' = T ∧ ∃ ms, Vis os ms [] ∧ S'.m ob = some (.cells (ms.map .bool) 1) ∧ S'.m xb = some (.cells [.slice (some ⟨ob, 0, none⟩) os.length os.length] 0) ∧ Old S0 S') := by
  unfold blk14_2
  refine m_block (m_rangeFunc rfl ?_)
  have e45 : evalT T (.tmp 45) = .func (.func 39) #[] #[.pointer (some ⟨b1, 0, none⟩), .pointer (some ⟨b1 + 1, 0, none⟩)] := t45
  rw [e45]
  show CallM Try.prog O 39 [.func (.yield S.n) #[] #[], .pointer (some ⟨b1, 0, none⟩), .pointer (some ⟨b1 + 1, 0, none⟩)] _ _
  have hlt := fun {x k} (h : S.m x = some k) => wf x k h
  have l1 := hlt hb1
  have l2 := hlt hb2
  have l3 := hlt hfb
  have l4 := hlt hob
  have l5 := hlt hxb
  have hpu : ∀ x k, x ≠ S.n → (S.push k).m x = S.m x := fun x k hx => by rw [push_m, if_neg hx]
  refine CallM.mono (walk39 (B := S.n + 1) (fb := fb) (rr := rr) (ov := ov) hg hn h0 (JS os S0 fb ob xb b1 S.n rr ov T) ?_ ?_ ?_ ?_) ?_
  · rintro ms S' ⟨j0, j1, j2, j3, j5, j6, j7, j8⟩
    exact ⟨j1, j2, j3, ho.keep wf0 j8, j7⟩
  · rintro ms S1 S2 ⟨j0, j1, j2, j3, j5, j6, j7, j8⟩ wf1 hk hn2
    refine ⟨by rw [hk _ (by omega)]; exact j0, by rw [hk _ (by omega)]; exact j1, by rw [hk _ (by omega)]; exact j2, by rw [hk _ (by omega)]; exact j3, by rw [hk _ (by omega)]; exact j5, by rw [hk _ (by omega)]; exact j6, by omega, fun x hx => by rw [hk x (by have := hold.1; omega)]; exact j8 x hx⟩
  · rintro ms S1 i ⟨j0, j1, j2, j3, j5, j6, j7, j8⟩ wf1 hlen hi
    have hil : i < os.length := by rw [← hlen]; exact (List.getElem?_eq_some_iff.1 hi).1
    refine roundM_body (T := T.set (.int .i64 i) 46) j0 rfl ?_
    refine m_reg ?_
    rw [reg14_11]
    refine ⟨rfl, _, j0, rfl, ?_⟩
    have g5 : ∀ L, (S1.set S.n (.loop L)).m ob = some (.cells (ms.map .bool) 1) := fun L => by rw [set_m, if_neg (by omega)]; exact j5
    have g6 : ∀ L, (S1.set S.n (.loop L)).m xb = some (.cells [.slice (some ⟨ob, 0, none⟩) os.length os.length] 0) := fun L => by rw [set_m, if_neg (by omega)]; exact j6
    unfold blk14_3
    refine m_block (m_reg ?_)
    rw [reg14_12]
    simp (decide := true) only [FT.get_set, FT.setL, faS_ptr, nilS_ptr, nilS_func, nilS_yield, pickS_bool, ldS_ptr, list_cells, list_ro, partS_none, lenSl_of, lenStr_of, cvInt_of, aminmax_max, aminmax_min, abin_add, abin_sub, abin_mul, abin_eql, abin_neq, abin_lss, abin_leq, abin_gtr, abin_geq, aunary_not, aextract, Option.some.injEq, Prod.mk.injEq, Value.bool.injEq, exists_eq_left', exists_and_left, and_assoc, decide_eq_true_eq, decide_eq_false_iff_not, if_true, if_false, Nat.zero_add, Nat.add_zero, Option.bind_some, true_and, and_true, forall_const, true_implies, Bool.not_eq_true, Bool.false_eq_true, false_implies, ite_self, Nat.mul_one, t6, list_of (g6 _), List.getElem?_cons_zero, iaSS_of (k := .i64) (i := (i : Int)) (by omega) (by omega : (i : Int) < (os.length : Int)), Int.toNat_natCast]
    obtain ⟨S5, u1, u2, u3, u4⟩ := st_one (off := i) (v := .bool true) (g5 ⟨.busy, none, ⟨T, 51⟩, [46], (.region 11 (ro 14 11) false), blk14_3⟩) (by rw [List.length_map, hlen]; exact hil) rfl rfl
    refine ⟨S5, u1, ?_⟩
    refine ⟨_, (u4 _ (by omega)).trans (by rw [set_m, if_pos rfl]), ⟨?_, ?_, ?_, ?_, ?_, ?_, ?_, fun x hx => ?_⟩, ?_, fun x hx1 hx2 => ?_⟩
    · rw [set_m, if_pos rfl]; rfl
    · rw [set_m, if_neg (by omega), u4 _ (by omega), set_m, if_neg (by omega)]; exact j1
    · rw [set_m, if_neg (by omega), u4 _ (by omega), set_m, if_neg (by omega)]; exact j2
    · rw [set_m, if_neg (by omega), u4 _ (by omega), set_m, if_neg (by omega)]; exact j3
    · rw [set_m, if_neg (by omega), u2, List.map_set]
    · rw [set_m, if_neg (by omega), u4 _ (by omega), set_m, if_neg (by omega)]; exact j6
    · simp only [set_n]; rw [u3, set_n]; exact j7
    · have := hold.1
      rw [set_m, if_neg (by omega), u4 _ (by omega), set_m, if_neg (by omega)]; exact j8 x hx
    · simp only [set_n]; rw [u3, set_n]; omega
    · rw [set_m, if_neg (by omega), u4 _ (by omega), set_m, if_neg (by omega)]
  · have := hold.1
    refine ⟨by rw [push_m, if_pos rfl], by rw [hpu _ _ (by omega)]; exact hb1, by rw [hpu _ _ (by omega)]; exact hb2, by rw [hpu _ _ (by omega)]; exact hfb, by rw [hpu _ _ (by omega)]; exact hob, by rw [hpu _ _ (by omega)]; exact hxb, by rw [push_n]; omega, fun x hx => by rw [hpu _ _ (by omega)]; exact hold.2 x hx⟩
  · rintro _ S' ⟨ms, hv, j0, j1, j2, j3, j5, j6, j7, j8⟩
    refine ⟨_, j0, by simp, rfl, rfl, ms, hv, ?_, ?_, ?_⟩
    · rw [set_m, if_neg (by omega)]; exact j5
    · rw [set_m, if_neg (by omega)]; exact j6
    · have := hold.1
      exact ⟨by simp only [set_n]; omega, fun x hx => by rw [set_m, if_neg (by omega)]; exact j8 x hx⟩

/-- what Steps tells -/
def Told (os : List Op5) (S S' : MS) (v : Value) (bad : Int) : Prop :=
  Old S S' ∧ (((os.length = 0 ∨ ¬ Good os) ∧ v = .tuple #[.slice none 0 0, .int .i64 bad]) ∨ (os.length ≠ 0 ∧ Good os ∧ ∃ ms b, Vis os ms [] ∧ S.n ≤ b ∧ S'.m b = some (.cells (ms.map .bool) 1) ∧ v = .tuple #[.slice (some ⟨b, 0, none⟩) os.length os.length, .int .i64 0]))

theorem steps14 {S : MS} {rr : Int} {ov : Value} {os : List Op5} (ho : Ops S ov os) (hn : os.length ≤ 2500) : CallM Try.prog O 14 [fnV rr ov] S fun v S' => Told os S S' v 100 := by
  refine callM_wf fun wf => ?_
  refine callM_body (fnIs is14 body14 res14) (O_none (by decide)) (by simp) ?_
  have out : ∀ (T' : FT) (S' : MS), Old S S' → (os.length = 0 ∨ ¬ Good os) → T'.get 2 = .slice none 0 0 → T'.get 3 = .int .i64 100 → ((match AExit.ret with | .exit _ => False | _ => True) ∧ ∃ vs, resM Try.prog T' S' [.tmp 2, .tmp 3] = some vs ∧ Told os S S' (oneOrTuple vs) 100) := by
    intro T' S' ho hb h2 h3
    simp [resM, h2, h3, oneOrTuple]
    exact ⟨ho, .inl ⟨hb, rfl⟩⟩
  refine m_seq (m_reg ?_)
  rw [reg14_0]
  simp (decide := true) only [FT.get_set, FT.setL, faS_ptr, nilS_ptr, nilS_func, nilS_yield, pickS_bool, ldS_ptr, list_cells, list_ro, partS_none, lenSl_of, lenStr_of, cvInt_of, aminmax_max, aminmax_min, abin_add, abin_sub, abin_mul, abin_eql, abin_neq, abin_lss, abin_leq, abin_gtr, abin_geq, aunary_not, aextract, Option.some.injEq, Prod.mk.injEq, Value.bool.injEq, exists_eq_left', exists_and_left, and_assoc, decide_eq_true_eq, decide_eq_false_iff_not, if_true, if_false, Nat.zero_add, Nat.add_zero, Option.bind_some, true_and, and_true, forall_const, true_implies, Bool.not_eq_true, Bool.false_eq_true, false_implies, ite_self, Nat.mul_one, fnV_cells rr ho.one, ptrTo]
  have f1 : Old S (S.fresh [.int .i64 rr, ov] 0) := ⟨Nat.le_succ _, fun y hy => fresh_old _ _ _ (Nat.ne_of_lt hy)⟩
  have hfb := fresh_at S [.int .i64 rr, ov] 0
  have ho1 := ho.keep wf f1.2
  have wf1 := wf_fresh' wf [.int .i64 rr, ov] 0
  refine m_seq (m_seq (m_reg ?_))
  rw [reg14_1]
  simp (decide := true) only [FT.get_set, FT.setL, faS_ptr, nilS_ptr, nilS_func, nilS_yield, pickS_bool, ldS_ptr, list_cells, list_ro, partS_none, lenSl_of, lenStr_of, cvInt_of, aminmax_max, aminmax_min, abin_add, abin_sub, abin_mul, abin_eql, abin_neq, abin_lss, abin_leq, abin_gtr, abin_geq, aunary_not, aextract, Option.some.injEq, Prod.mk.injEq, Value.bool.injEq, exists_eq_left', exists_and_left, and_assoc, decide_eq_true_eq, decide_eq_false_iff_not, if_true, if_false, Nat.zero_add, Nat.add_zero, Option.bind_some, true_and, and_true, forall_const, true_implies, Bool.not_eq_true, Bool.false_eq_true, false_implies, ite_self, Nat.mul_one, list_of hfb, List.getElem?_cons_zero, List.getElem?_cons_succ, ho.len]
  refine m_cond (t := (os.length : Int) == 0) (by simp [evalT, FT.get_set, FT.setL, faS_ptr, nilS_ptr, nilS_func, nilS_yield, pickS_bool, ldS_ptr, list_cells, list_ro, partS_none, lenSl_of, lenStr_of, cvInt_of, aminmax_max, aminmax_min, abin_add, abin_sub, abin_mul, abin_eql, abin_neq, abin_lss, abin_leq, abin_gtr, abin_geq, aunary_not, aextract]) (fun h0 => ?_) (fun h0 => ?_)
  · refine m_seq (m_reg ?_)
    rw [reg14_2]
    exact m_ret (out _ _ f1 (.inl (by simpa using h0)) (by simp [FT.get_set, FT.setL, faS_ptr, nilS_ptr, nilS_func, nilS_yield, pickS_bool, ldS_ptr, list_cells, list_ro, partS_none, lenSl_of, lenStr_of, cvInt_of, aminmax_max, aminmax_min, abin_add, abin_sub, abin_mul, abin_eql, abin_neq, abin_lss, abin_leq, abin_gtr, abin_geq, aunary_not, aextract]) (by simp [FT.get_set, FT.setL, faS_ptr, nilS_ptr, nilS_func, nilS_yield, pickS_bool, ldS_ptr, list_cells, list_ro, partS_none, lenSl_of, lenStr_of, cvInt_of, aminmax_max, aminmax_min, abin_add, abin_sub, abin_mul, abin_eql, abin_neq, abin_lss, abin_leq, abin_gtr, abin_geq, aunary_not, aextract]))
  have h0 : os.length ≠ 0 := by simpa using h0
  refine m_skip ?_
  simp only
  refine m_seq (m_seq (m_reg ?_))
  rw [reg14_3]
  simp (decide := true) only [FT.get_set, FT.setL, faS_ptr, nilS_ptr, nilS_func, nilS_yield, pickS_bool, ldS_ptr, list_cells, list_ro, partS_none, lenSl_of, lenStr_of, cvInt_of, aminmax_max, aminmax_min, abin_add, abin_sub, abin_mul, abin_eql, abin_neq, abin_lss, abin_leq, abin_gtr, abin_geq, aunary_not, aextract, Option.some.injEq, Prod.mk.injEq, Value.bool.injEq, exists_eq_left', exists_and_left, and_assoc, decide_eq_true_eq, decide_eq_false_iff_not, if_true, if_false, Nat.zero_add, Nat.add_zero, Option.bind_some, true_and, and_true, forall_const, true_implies, Bool.not_eq_true, Bool.false_eq_true, false_implies, ite_self, Nat.mul_one, list_of hfb, List.getElem?_cons_zero, List.getElem?_cons_succ, ho.len]
  refine (check14 (ov := ov) hfb ho1 hn wf1 (by simp [FT.get_set, FT.setL, faS_ptr, nilS_ptr, nilS_func, nilS_yield, pickS_bool, ldS_ptr, list_cells, list_ro, partS_none, lenSl_of, lenStr_of, cvInt_of, aminmax_max, aminmax_min, abin_add, abin_sub, abin_mul, abin_eql, abin_neq, abin_lss, abin_leq, abin_gtr, abin_geq, aunary_not, aextract]) (by simp [FT.get_set, FT.setL, faS_ptr, nilS_ptr, nilS_func, nilS_yield, pickS_bool, ldS_ptr, list_cells, list_ro, partS_none, lenSl_of, lenStr_of, cvInt_of, aminmax_max, aminmax_min, abin_add, abin_sub, abin_mul, abin_eql, abin_neq, abin_lss, abin_leq, abin_gtr, abin_geq, aunary_not, aextract]) (by simp [FT.get_set, FT.setL, faS_ptr, nilS_ptr, nilS_func, nilS_yield, pickS_bool, ldS_ptr, list_cells, list_ro, partS_none, lenSl_of, lenStr_of, cvInt_of, aminmax_max, aminmax_min, abin_add, abin_sub, abin_mul, abin_eql, abin_neq, abin_lss, abin_leq, abin_gtr, abin_geq, aunary_not, aextract]) (by simp [FT.get_set, FT.setL, faS_ptr, nilS_ptr, nilS_func, nilS_yield, pickS_bool, ldS_ptr, list_cells, list_ro, partS_none, lenSl_of, lenStr_of, cvInt_of, aminmax_max, aminmax_min, abin_add, abin_sub, abin_mul, abin_eql, abin_neq, abin_lss, abin_leq, abin_gtr, abin_geq, aunary_not, aextract])).mono ?_
  rintro x T2 S2 (⟨rfl, hg, t1, hold⟩ | ⟨rfl, hb, h2, h3, hold⟩)
  · simp only
    have hfb2 := (hold.2 S.n (Nat.lt_succ_self _)).trans hfb
    refine m_wf fun wf2 => ?_
    refine m_seq (m_reg ?_)
    rw [reg14_9]
    simp (decide := true) only [FT.get_set, FT.setL, faS_ptr, nilS_ptr, nilS_func, nilS_yield, pickS_bool, ldS_ptr, list_cells, list_ro, partS_none, lenSl_of, lenStr_of, cvInt_of, aminmax_max, aminmax_min, abin_add, abin_sub, abin_mul, abin_eql, abin_neq, abin_lss, abin_leq, abin_gtr, abin_geq, aunary_not, aextract, Option.some.injEq, Prod.mk.injEq, Value.bool.injEq, exists_eq_left', exists_and_left, and_assoc, decide_eq_true_eq, decide_eq_false_iff_not, if_true, if_false, Nat.zero_add, Nat.add_zero, Option.bind_some, true_and, and_true, forall_const, true_implies, Bool.not_eq_true, Bool.false_eq_true, false_implies, ite_self, Nat.mul_one, t1, list_of hfb2, List.getElem?_cons_zero, List.getElem?_cons_succ, ho.len, msS_of (n := os.length) S2 1 1 [.bool false] .i64 .i64 (by omega) (by omega), ptrTo]
    have hz : zeros [.bool false] os.length = (List.replicate os.length false).map .bool := by rw [zeros_one, List.map_replicate]
    rw [hz]
    obtain ⟨S3, s1, s2, s3, s4⟩ := st_one (off := 0) (v := .slice (some ⟨S2.n, 0, none⟩) os.length os.length) (fresh_at (S2.fresh ((List.replicate os.length false).map .bool) 1) [.slice none 0 0] 0) (by decide) rfl rfl
    have hxb : S3.m (S2.n + 1) = some (.cells [.slice (some ⟨S2.n, 0, none⟩) os.length os.length] 0) := s2
    have hn3 : S3.n = S2.n + 2 := s3
    refine ⟨S3, s1, ?_⟩
    have f3 : Old S2 S3 := ⟨by omega, fun y hy => by rw [s4 y (by simp only [fresh_n]; omega), fresh_old _ _ _ (by simp only [fresh_n]; omega), fresh_old _ _ _ (by omega)]⟩
    have hob : S3.m S2.n = some (.cells ((List.replicate os.length false).map .bool) 1) := by rw [s4 _ (by simp only [fresh_n]; omega), fresh_old _ _ _ (by simp only [fresh_n]; omega), fresh_at]
    have hs2n : S.n + 1 ≤ S2.n := hold.1
    have hfb3 := (f3.2 S.n (by omega)).trans hfb2
    refine m_seq (m_seq (m_reg ?_))
    rw [reg14_10]
    simp (decide := true) only [FT.get_set, FT.setL, faS_ptr, nilS_ptr, nilS_func, nilS_yield, pickS_bool, ldS_ptr, list_cells, list_ro, partS_none, lenSl_of, lenStr_of, cvInt_of, aminmax_max, aminmax_min, abin_add, abin_sub, abin_mul, abin_eql, abin_neq, abin_lss, abin_leq, abin_gtr, abin_geq, aunary_not, aextract, Option.some.injEq, Prod.mk.injEq, Value.bool.injEq, exists_eq_left', exists_and_left, and_assoc, decide_eq_true_eq, decide_eq_false_iff_not, if_true, if_false, Nat.zero_add, Nat.add_zero, Option.bind_some, true_and, and_true, forall_const, true_implies, Bool.not_eq_true, Bool.false_eq_true, false_implies, ite_self, Nat.mul_one, t1, list_of hfb3, List.getElem?_cons_zero, List.getElem?_cons_succ, ho.len]
    refine walk25 ?_
    have wf3 : S3.WF := fun x k hk => by
      by_cases e1 : x = S2.n + 1
      · omega
      · by_cases e2 : x = S2.n
        · omega
        · rw [s4 x (by simp only [fresh_n]; omega), fresh_old _ _ _ (by simp only [fresh_n]; omega), fresh_old _ _ _ e2] at hk
          have := wf2 x k hk
          omega
    have wf4 := wf_fresh' (wf_fresh' wf3 [.int .i64 os.length] 0) [.func (.func 29) #[] #[.pointer (some ⟨S.n, 0, none⟩)]] 0
    have f4 : ∀ y, y < S3.n → ((S3.fresh [.int .i64 os.length] 0).fresh [.func (.func 29) #[] #[.pointer (some ⟨S.n, 0, none⟩)]] 0).m y = S3.m y := fun y hy => by
      rw [fresh_old _ _ _ (by rw [fresh_n]; omega), fresh_old _ _ _ (by omega)]
    have hall : Old S ((S3.fresh [.int .i64 os.length] 0).fresh [.func (.func 29) #[] #[.pointer (some ⟨S.n, 0, none⟩)]] 0) := ((f1.trans hold).trans f3).trans ⟨by simp only [fresh_n]; omega, f4⟩
    refine MWp.mono (range14 (S0 := S) (fb := S.n) (ob := S2.n) (xb := S2.n + 1) (b1 := S3.n) (rr := rr) (ov := ov) hg hn h0 wf4 ?_ ?_ ?_ ?_ ?_ ho wf ?_ ?_ hall (by omega) ⟨by omega, by omega, by omega, by omega⟩) ?_
    · simp [FT.get_set, FT.setL, faS_ptr, nilS_ptr, nilS_func, nilS_yield, pickS_bool, ldS_ptr, list_cells, list_ro, partS_none, lenSl_of, lenStr_of, cvInt_of, aminmax_max, aminmax_min, abin_add, abin_sub, abin_mul, abin_eql, abin_neq, abin_lss, abin_leq, abin_gtr, abin_geq, aunary_not, aextract]
    · simp [FT.get_set, FT.setL, faS_ptr, nilS_ptr, nilS_func, nilS_yield, pickS_bool, ldS_ptr, list_cells, list_ro, partS_none, lenSl_of, lenStr_of, cvInt_of, aminmax_max, aminmax_min, abin_add, abin_sub, abin_mul, abin_eql, abin_neq, abin_lss, abin_leq, abin_gtr, abin_geq, aunary_not, aextract, fresh_n]
    · rw [fresh_old _ _ _ (by rw [fresh_n]; omega), fresh_at]
    · exact fresh_at (S3.fresh [.int .i64 os.length] 0) _ 0
    · rw [f4 _ (by omega)]; exact hfb3
    · rw [f4 _ (by omega)]; exact hob
    · rw [f4 _ (by omega)]; exact hxb
    · rintro _ T5 S5 ⟨rfl, rfl, ms, hv, g1, g2, g3⟩
      simp only
      refine m_seq (m_reg ?_)
      rw [reg14_13]
      simp (decide := true) only [FT.get_set, FT.setL, faS_ptr, nilS_ptr, nilS_func, nilS_yield, pickS_bool, ldS_ptr, list_cells, list_ro, partS_none, lenSl_of, lenStr_of, cvInt_of, aminmax_max, aminmax_min, abin_add, abin_sub, abin_mul, abin_eql, abin_neq, abin_lss, abin_leq, abin_gtr, abin_geq, aunary_not, aextract, Option.some.injEq, Prod.mk.injEq, Value.bool.injEq, exists_eq_left', exists_and_left, and_assoc, decide_eq_true_eq, decide_eq_false_iff_not, if_true, if_false, Nat.zero_add, Nat.add_zero, Option.bind_some, true_and, and_true, forall_const, true_implies, Bool.not_eq_true, Bool.false_eq_true, false_implies, ite_self, Nat.mul_one, t1, fresh_n, list_of g2, List.getElem?_cons_zero]
      refine m_ret ?_
      simp [resM, FT.get_set, FT.setL, faS_ptr, nilS_ptr, nilS_func, nilS_yield, pickS_bool, ldS_ptr, list_cells, list_ro, partS_none, lenSl_of, lenStr_of, cvInt_of, aminmax_max, aminmax_min, abin_add, abin_sub, abin_mul, abin_eql, abin_neq, abin_lss, abin_leq, abin_gtr, abin_geq, aunary_not, aextract, oneOrTuple]
      exact ⟨g3, .inr ⟨h0, hg, ms, S2.n, hv, by omega, g1, rfl⟩⟩
  · simp only
    exact out _ _ (f1.trans hold) (.inr hb) h2 h3
end Go.Proofs.Ytgkdmnfmfcdfmaa

