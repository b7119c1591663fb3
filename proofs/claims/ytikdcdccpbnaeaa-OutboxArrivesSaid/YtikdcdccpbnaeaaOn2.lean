/-
  The walk through the outbox's code: what its functions do to memory, part On2. Nothing is asked.
-/
import Derived.Test.YtikdcdccpbnaeaaOn1
set_option linter.all false
namespace Go.Proofs.Ytikdcdccpbnaeaa
open Go Go.Ag
set_option linter.unusedVariables false
set_option maxRecDepth 100000

theorem ge_key (G : List Em) (h : ∀ p ∈ G, 1 ≤ p.1 ∧ p.1 ≤ 1000) : (ge G).all isKeyI = true := by
  rw [List.all_eq_true]
  intro x hx
  obtain ⟨p, hp, rfl⟩ := List.mem_map.1 hx
  have := h p hp
  show (Lit.int .i64 p.1).wf = true
  unfold Lit.wf
  rw [Bool.and_eq_true, decide_eq_true_eq, decide_eq_true_eq]
  have e1 : IntKind.i64.min = -9223372036854775808 := by decide
  have e2 : IntKind.i64.max = 9223372036854775807 := by decide
  rw [e1, e2]
  omega
theorem keysI_ge (G : List Em) : keysI (ge G) = (G.map (·.1)).mergeSort (fun x y => decide (x ≤ y)) := by
  unfold keysI ge
  rw [List.map_map]
  rfl
/-- what a receiver tells that it got -/
structure Sorted (G out : List Em) : Prop where
  len : out.length = G.length
  keys : out.map (·.1) = keysI (ge G)
  mem : ∀ p ∈ out, p ∈ G

theorem bd_em (a : Int) (t : ByteArray) : bdS (fun i => [(0, 1), (1, 1)][i]?) [.int .i64 0, .string ⟨⟨[]⟩⟩] [(0, .int .i64 a), (1, .string t)] = some (.agg (emL (a, t)).toArray) := rfl
theorem bs_em (S : MS) (a : Em) : bsS S 1 2 [.int .i64 0, .string ⟨⟨[]⟩⟩] [(0, .agg (emL a).toArray)] = some (.slice (some ⟨S.n, 0, none⟩) 1 1, S.fresh (emL a) 2) := bsS_one S 2 _ (.agg (emL a).toArray) rfl rfl
theorem firstEm (S : MS) (a : Em) : firstCellsM (S.fresh (emL a) 2) 2 ([a] : List Em).length (.slice (some ⟨S.n, 0, none⟩) 1 1) = some (([a] : List Em).flatMap emL) := by
  have h1 := fresh_at S (emL a) 2
  show firstCellsM _ 2 1 _ = _
  rw [first_of (n := 1) (sz := 2) (list_of h1) (by decide) (by decide) (by simp [em_len])]; rfl

def GI13 (S0 : MS) (r mb : Nat) (G : List Em) (kb : Nat) (kv : Value) (m : Nat) (T : FT) (S : MS) : Prop :=
  ∃ (i : Nat) (out : List Em) (v : Value), i + m = G.length ∧ out.map (·.1) = (keysI (ge G)).take i ∧ (∀ p ∈ out, p ∈ G) ∧ IsR S r mb G ∧ (G ≠ [] → kv = .slice (some ⟨kb, 0, none⟩) G.length unk ∧ S.m kb = some (.cells ((keysI (ge G)).map encZ) 1)) ∧
    SlF emL 2 S (kb + 1) v out ∧ kb + 1 ≤ S.n ∧ S0.n ≤ kb ∧ (∀ y, y < S0.n → S.m y = S0.m y) ∧ T.get 0 = .pointer (some ⟨r, 0, none⟩) ∧ T.get 3 = v ∧ T.get 11 = kv ∧ T.get 12 = .int .i64 G.length ∧ T.get 13 = .int .i64 i

/-- Got -/
theorem got13 {S : MS} {r mb : Nat} {G : List Em} (h : IsR S r mb G) (hl : G.length ≤ 200) {Q : Value → MS → Prop}
    (hq : ∀ v out S', Old S S' → SlF emL 2 S' S.n v out → Sorted G out → Q v S') : CallM Try.prog O 13 [.pointer (some ⟨r, 0, none⟩)] S Q := by
  refine callM_wf fun wf => ?_
  refine callM_body (fnIs is13 body13 res13) (O_none (by decide)) (by simp) ?_
  refine m_seq (m_reg ?_)
  rw [reg13_0]
  refine m_seq (m_reg ?_)
  rw [reg13_1]
  refine m_seq (m_seq (m_reg ?_))
  rw [reg13_2]
  simp (decide := true) only [FT.get_set, FT.setL, faS_ptr, nilS_ptr, nilS_func, nilS_yield, pickS_bool, ldS_ptr, list_cells, list_ro, partS_none, lenSl_of, lenStr_of, cvInt_of, aminmax_max, aminmax_min, abin_add, abin_sub, abin_mul, abin_eql, abin_neq, abin_lss, abin_leq, abin_gtr, abin_geq, aunary_not, aextract, Option.some.injEq, Prod.mk.injEq, Value.bool.injEq, exists_eq_left', exists_and_left, and_assoc, decide_eq_true_eq, decide_eq_false_iff_not, if_true, if_false, Nat.zero_add, Nat.add_zero, Option.bind_some, true_and, and_true, forall_const, true_implies, Bool.not_eq_true, Bool.false_eq_true, false_implies, ite_self, Nat.mul_one, list_of h.rc, List.getElem?_cons_zero]
  refine keys17 ?_
  have f1 := old_fresh S [.map (some mb)] 0
  have hbx := fresh_at S [.map (some mb)] 0
  have wf1 := wf_fresh' wf [.map (some mb)] 0
  have h1 := h.old wf f1
  have hn1 : (S.fresh [.map (some mb)] 0).n = S.n + 1 := rfl
  generalize S.fresh [.map (some mb)] 0 = S1 at *
  have hlen : (ge G).length = G.length := by unfold ge; simp
  have start : ∀ (kv : Value) (S2 : MS) (kb : Nat), lenSl kv = some (.int .i64 G.length) → Old S1 S2 → S1.n ≤ kb → kb + 1 ≤ S2.n → IsR S2 r mb G → (G ≠ [] → kv = .slice (some ⟨kb, 0, none⟩) G.length unk ∧ S2.m kb = some (.cells ((keysI (ge G)).map encZ) 1)) → ∀ (Q' : Value → MS → Prop) (T : FT), True := fun _ _ _ _ _ _ _ _ _ _ _ => trivial
  have body : ∀ (kv : Value) (S2 : MS) (kb : Nat) (T : FT), Old S1 S2 → S1.n ≤ kb + 1 → S.n ≤ kb → kb + 1 ≤ S2.n → (G ≠ [] → kv = .slice (some ⟨kb, 0, none⟩) G.length unk ∧ S2.m kb = some (.cells ((keysI (ge G)).map encZ) 1)) →
      T.get 0 = .pointer (some ⟨r, 0, none⟩) → T.get 3 = .slice none 0 0 → T.get 11 = kv → T.get 12 = .int .i64 G.length → T.get 13 = .int .i64 0 →
      MWp Try.prog O 30 blk13_0 T S2 (fun x T' S' => x = .normal ∧ ∃ v out, T'.get 3 = v ∧ Old S S' ∧ SlF emL 2 S' S.n v out ∧ Sorted G out) := by
    intro kv S2 kb T f2 hkb hkb0 hkb2 hkv t0 t3 t11 t12 t13
    have h2 := h1.old wf1 f2
    unfold blk13_0
    refine m_block (m_loop (fun m T S' => GI13 S r mb G kb kv m T S') G.length ⟨0, [], .slice none 0 0, by omega, by simp, (fun p hp => by cases hp), h2, hkv, .non, hkb2, hkb0, (fun y hy => by rw [f2.2 y (by rw [hn1]; omega), f1.2 y hy]), t0, t3, t11, t12, t13⟩ ?_)
    clear t0 t3 t11 t12 t13 h2 hkb2 hkv f2
    rintro m T S3 ⟨i, out, v, him, hout, hmem, h3, hkv, hv, hkb2, _, hold, t0, t3, t11, t12, t13⟩
    refine m_wf fun wf3 => m_seq (m_reg ?_)
    rw [reg13_3]
    simp (decide := true) only [FT.get_set, FT.setL, faS_ptr, nilS_ptr, nilS_func, nilS_yield, pickS_bool, ldS_ptr, list_cells, list_ro, partS_none, lenSl_of, lenStr_of, cvInt_of, aminmax_max, aminmax_min, abin_add, abin_sub, abin_mul, abin_eql, abin_neq, abin_lss, abin_leq, abin_gtr, abin_geq, aunary_not, aextract, Option.some.injEq, Prod.mk.injEq, Value.bool.injEq, exists_eq_left', exists_and_left, and_assoc, decide_eq_true_eq, decide_eq_false_iff_not, if_true, if_false, Nat.zero_add, Nat.add_zero, Option.bind_some, true_and, and_true, forall_const, true_implies, Bool.not_eq_true, Bool.false_eq_true, false_implies, ite_self, Nat.mul_one, t12, t13]
    refine m_seq (m_cond (t := decide ((i : Int) < G.length)) (by simp [evalT, FT.get_set, FT.setL, faS_ptr, nilS_ptr, nilS_func, nilS_yield, pickS_bool, ldS_ptr, list_cells, list_ro, partS_none, lenSl_of, lenStr_of, cvInt_of, aminmax_max, aminmax_min, abin_add, abin_sub, abin_mul, abin_eql, abin_neq, abin_lss, abin_leq, abin_gtr, abin_geq, aunary_not, aextract]) (fun hlt => m_skip ?_) (fun hlt => m_exit ?_))
    · have hlt : i < G.length := by have := of_decide_eq_true hlt; omega
      simp only
      obtain ⟨hk1, hk2⟩ := hkv (fun e => by rw [e] at hlt; cases hlt)
      have hkl : (keysI (ge G)).length = G.length := by unfold keysI; simp [hlen]
      obtain ⟨k, hk⟩ : ∃ k, (keysI (ge G))[i]? = some k := ⟨_, List.getElem?_eq_getElem (by omega)⟩
      have hkc : ((keysI (ge G)).map encZ)[i]? = some (.int .i64 k) := by rw [List.getElem?_map, hk]; rfl
      obtain ⟨t, ht⟩ : ∃ t, (k, t) ∈ G := by
        have h5 : k ∈ keysI (ge G) := List.mem_of_getElem? hk
        rw [keysI_ge] at h5
        obtain ⟨p, hp1, hp2⟩ := List.mem_map.1 ((List.mergeSort_perm _ _).mem_iff.1 h5)
        exact ⟨p.2, by rw [← hp2]; exact hp1⟩
      unfold blk13_1
      refine m_seq (m_block (m_seq (m_reg ?_)))
      rw [reg13_4]
      have hia : iaSS 1 (.slice (some ⟨kb, 0, none⟩) G.length unk) (.int .i64 (i : Int)) = some (.pointer (some ⟨kb, i, none⟩)) := by rw [iaSS_of (k := .i64) (i := (i : Int)) (by omega) (by omega : (i : Int) < (G.length : Int)), Int.toNat_natCast, Nat.zero_add, Nat.mul_one]
      simp (decide := true) only [FT.get_set, FT.setL, faS_ptr, nilS_ptr, nilS_func, nilS_yield, pickS_bool, ldS_ptr, list_cells, list_ro, partS_none, lenSl_of, lenStr_of, cvInt_of, aminmax_max, aminmax_min, abin_add, abin_sub, abin_mul, abin_eql, abin_neq, abin_lss, abin_leq, abin_gtr, abin_geq, aunary_not, aextract, Option.some.injEq, Prod.mk.injEq, Value.bool.injEq, exists_eq_left', exists_and_left, and_assoc, decide_eq_true_eq, decide_eq_false_iff_not, if_true, if_false, Nat.zero_add, Nat.add_zero, Option.bind_some, true_and, and_true, forall_const, true_implies, Bool.not_eq_true, Bool.false_eq_true, false_implies, ite_self, Nat.mul_one, t11, hk1, t13, hia, list_of hk2, hkc]
      refine m_reg ?_
      rw [reg13_5]
      have wf4 := wf_fresh' wf3 (emL (k, t)) 2
      have f4 := old_fresh S3 (emL (k, t)) 2
      have hv4 := hv.keep (S' := S3.fresh (emL (k, t)) 2) (fun x y hx => f4.2 x (wf3 x y hx))
      obtain ⟨v', S5, a1, a2, a3, a4, a5⟩ := hv4.app2 (bytes := 24) (z := [.int .i64 0, .string ⟨⟨[]⟩⟩]) em_len em_one (by decide) (x := .slice (some ⟨S3.n, 0, none⟩) 1 1) (new := [(k, t)]) wf4 (by simp only [fresh_n]; omega) rfl (firstEm _ _) (by
        have : out.length ≤ G.length := by
          have := congrArg List.length hout
          simp [hkl] at this; omega
        simp; omega) (by
        have : out.length ≤ G.length := by
          have := congrArg List.length hout
          simp [hkl] at this; omega
        simp; omega)
      simp (decide := true) only [FT.get_set, FT.setL, faS_ptr, nilS_ptr, nilS_func, nilS_yield, pickS_bool, ldS_ptr, list_cells, list_ro, partS_none, lenSl_of, lenStr_of, cvInt_of, aminmax_max, aminmax_min, abin_add, abin_sub, abin_mul, abin_eql, abin_neq, abin_lss, abin_leq, abin_gtr, abin_geq, aunary_not, aextract, Option.some.injEq, Prod.mk.injEq, Value.bool.injEq, exists_eq_left', exists_and_left, and_assoc, decide_eq_true_eq, decide_eq_false_iff_not, if_true, if_false, Nat.zero_add, Nat.add_zero, Option.bind_some, true_and, and_true, forall_const, true_implies, Bool.not_eq_true, Bool.false_eq_true, false_implies, ite_self, Nat.mul_one, t0, list_of h3.rc, List.getElem?_cons_zero, lk_yes h3 ht, bd_em, bs_em, t3, a1]
      have hav : ∀ y, y < kb + 1 → S5.m y = S3.m y := fun y hy => by rw [a4 y (by simp only [fresh_n]; omega) (hv4.av hy), f4.2 y (by omega)]
      refine m_reg ?_
      rw [reg13_6]
      have hwi : IntKind.i64.wrap ((i : Int) + 1) = ((i + 1 : Nat) : Int) := by rw [wrap_i64 (by omega) (by omega)]; rfl
      simp (decide := true) only [FT.get_set, FT.setL, faS_ptr, nilS_ptr, nilS_func, nilS_yield, pickS_bool, ldS_ptr, list_cells, list_ro, partS_none, lenSl_of, lenStr_of, cvInt_of, aminmax_max, aminmax_min, abin_add, abin_sub, abin_mul, abin_eql, abin_neq, abin_lss, abin_leq, abin_gtr, abin_geq, aunary_not, aextract, Option.some.injEq, Prod.mk.injEq, Value.bool.injEq, exists_eq_left', exists_and_left, and_assoc, decide_eq_true_eq, decide_eq_false_iff_not, if_true, if_false, Nat.zero_add, Nat.add_zero, Option.bind_some, true_and, and_true, forall_const, true_implies, Bool.not_eq_true, Bool.false_eq_true, false_implies, ite_self, Nat.mul_one, t13, hwi]
      have hrlt := wf _ _ h.rc
      have hmlt := wf _ _ h.mp
      refine ⟨m - 1, by omega, i + 1, out ++ [(k, t)], v', by omega, ?_, fun p hp => ?_, h3.keep (hav _ (by omega)) (hav _ (by omega)), fun _ => ⟨rfl, (hav kb (by omega)).trans hk2⟩, a2, by have := a3; simp only [fresh_n] at this; omega, hkb0, fun y hy => by rw [hav y (by omega), hold y hy], by simp [FT.get_set, FT.setL, faS_ptr, nilS_ptr, nilS_func, nilS_yield, pickS_bool, ldS_ptr, list_cells, list_ro, partS_none, lenSl_of, lenStr_of, cvInt_of, aminmax_max, aminmax_min, abin_add, abin_sub, abin_mul, abin_eql, abin_neq, abin_lss, abin_leq, abin_gtr, abin_geq, aunary_not, aextract, t0], by simp [FT.get_set, FT.setL, faS_ptr, nilS_ptr, nilS_func, nilS_yield, pickS_bool, ldS_ptr, list_cells, list_ro, partS_none, lenSl_of, lenStr_of, cvInt_of, aminmax_max, aminmax_min, abin_add, abin_sub, abin_mul, abin_eql, abin_neq, abin_lss, abin_leq, abin_gtr, abin_geq, aunary_not, aextract], by simp [FT.get_set, FT.setL, faS_ptr, nilS_ptr, nilS_func, nilS_yield, pickS_bool, ldS_ptr, list_cells, list_ro, partS_none, lenSl_of, lenStr_of, cvInt_of, aminmax_max, aminmax_min, abin_add, abin_sub, abin_mul, abin_eql, abin_neq, abin_lss, abin_leq, abin_gtr, abin_geq, aunary_not, aextract, t11, hk1], by simp [FT.get_set, FT.setL, faS_ptr, nilS_ptr, nilS_func, nilS_yield, pickS_bool, ldS_ptr, list_cells, list_ro, partS_none, lenSl_of, lenStr_of, cvInt_of, aminmax_max, aminmax_min, abin_add, abin_sub, abin_mul, abin_eql, abin_neq, abin_lss, abin_leq, abin_gtr, abin_geq, aunary_not, aextract, t12], by simp [FT.get_set, FT.setL, faS_ptr, nilS_ptr, nilS_func, nilS_yield, pickS_bool, ldS_ptr, list_cells, list_ro, partS_none, lenSl_of, lenStr_of, cvInt_of, aminmax_max, aminmax_min, abin_add, abin_sub, abin_mul, abin_eql, abin_neq, abin_lss, abin_leq, abin_gtr, abin_geq, aunary_not, aextract]⟩
      · rw [List.map_append, hout, List.take_add_one, hk]; rfl
      · rcases List.mem_append.1 hp with hp | hp
        · exact hmem p hp
        · simp at hp; subst hp; exact ht
    · have hlt : ¬ i < G.length := by have := of_decide_eq_false hlt; omega
      have hi : i = G.length := by omega
      have hkl : (keysI (ge G)).length = G.length := by unfold keysI; simp [hlen]
      rw [hi, List.take_of_length_le (by omega)] at hout
      have ho : out.length = G.length := by
        have := congrArg List.length hout
        simp [hkl] at this; exact this
      have fin : ∃ v out, ((T.set (.bool (decide ((i : Int) < G.length))) 14)).get 3 = v ∧ Old S S3 ∧ SlF emL 2 S3 S.n v out ∧ Sorted G out := ⟨v, out, by simp [FT.get_set, FT.setL, faS_ptr, nilS_ptr, nilS_func, nilS_yield, pickS_bool, ldS_ptr, list_cells, list_ro, partS_none, lenSl_of, lenStr_of, cvInt_of, aminmax_max, aminmax_min, abin_add, abin_sub, abin_mul, abin_eql, abin_neq, abin_lss, abin_leq, abin_gtr, abin_geq, aunary_not, aextract, t3], ⟨by omega, hold⟩, hv.weaken (by omega), ⟨ho, hout, hmem⟩⟩
      simp only [if_true]
      have g3 : ((T.set (.bool (decide ((i : Int) < G.length))) 14)).get 3 = v := by simp [FT.get_set, FT.setL, faS_ptr, nilS_ptr, nilS_func, nilS_yield, pickS_bool, ldS_ptr, list_cells, list_ro, partS_none, lenSl_of, lenStr_of, cvInt_of, aminmax_max, aminmax_min, abin_add, abin_sub, abin_mul, abin_eql, abin_neq, abin_lss, abin_leq, abin_gtr, abin_geq, aunary_not, aextract, t3]
      rw [g3]
      exact ⟨⟨by omega, hold⟩, out, hv.weaken (by omega), ⟨ho, hout, hmem⟩⟩
  have tail : ∀ (T : FT) (S2 : MS), (∃ v out, T.get 3 = v ∧ Old S S2 ∧ SlF emL 2 S2 S.n v out ∧ Sorted G out) → MWp Try.prog O 30 (.seq (.region 7 (ro 13 7) false) .ret) T S2 fun x T' S' => (match x with | .exit _ => False | _ => True) ∧ ∃ vs, resM Try.prog T' S' [.tmp 2] = some vs ∧ Q (oneOrTuple vs) S' := by
    rintro T S2 ⟨v, out, t3, ho, hv, hs⟩
    refine m_seq (m_reg ?_)
    rw [reg13_7]
    simp (decide := true) only [FT.get_set, FT.setL, faS_ptr, nilS_ptr, nilS_func, nilS_yield, pickS_bool, ldS_ptr, list_cells, list_ro, partS_none, lenSl_of, lenStr_of, cvInt_of, aminmax_max, aminmax_min, abin_add, abin_sub, abin_mul, abin_eql, abin_neq, abin_lss, abin_leq, abin_gtr, abin_geq, aunary_not, aextract, Option.some.injEq, Prod.mk.injEq, Value.bool.injEq, exists_eq_left', exists_and_left, and_assoc, decide_eq_true_eq, decide_eq_false_iff_not, if_true, if_false, Nat.zero_add, Nat.add_zero, Option.bind_some, true_and, and_true, forall_const, true_implies, Bool.not_eq_true, Bool.false_eq_true, false_implies, ite_self, Nat.mul_one, t3]
    refine m_ret ?_
    simp [resM, FT.get_set, FT.setL, faS_ptr, nilS_ptr, nilS_func, nilS_yield, pickS_bool, ldS_ptr, list_cells, list_ro, partS_none, lenSl_of, lenStr_of, cvInt_of, aminmax_max, aminmax_min, abin_add, abin_sub, abin_mul, abin_eql, abin_neq, abin_lss, abin_leq, abin_gtr, abin_geq, aunary_not, aextract, oneOrTuple]
    exact hq v out S2 ho hv hs
  refine callM_sorted O_sort hbx h1.mp (ge_key G h.pos) (by omega) (fun he => ?_) (fun he => ?_)
  · have hG : G = [] := by cases G with
      | nil => rfl
      | cons p G => cases he
    simp (decide := true) only [FT.get_set, FT.setL, faS_ptr, nilS_ptr, nilS_func, nilS_yield, pickS_bool, ldS_ptr, list_cells, list_ro, partS_none, lenSl_of, lenStr_of, cvInt_of, aminmax_max, aminmax_min, abin_add, abin_sub, abin_mul, abin_eql, abin_neq, abin_lss, abin_leq, abin_gtr, abin_geq, aunary_not, aextract, Option.some.injEq, Prod.mk.injEq, Value.bool.injEq, exists_eq_left', exists_and_left, and_assoc, decide_eq_true_eq, decide_eq_false_iff_not, if_true, if_false, Nat.zero_add, Nat.add_zero, Option.bind_some, true_and, and_true, forall_const, true_implies, Bool.not_eq_true, Bool.false_eq_true, false_implies, ite_self, Nat.mul_one, lenSl_of]
    refine MWp.mono (body (.slice none 0 0) S1 S.n _ (Old.refl _) (by omega) (Nat.le_refl _) (by omega) (fun h => absurd hG h) (by simp [FT.get_set, FT.setL, faS_ptr, nilS_ptr, nilS_func, nilS_yield, pickS_bool, ldS_ptr, list_cells, list_ro, partS_none, lenSl_of, lenStr_of, cvInt_of, aminmax_max, aminmax_min, abin_add, abin_sub, abin_mul, abin_eql, abin_neq, abin_lss, abin_leq, abin_gtr, abin_geq, aunary_not, aextract]) (by simp [FT.get_set, FT.setL, faS_ptr, nilS_ptr, nilS_func, nilS_yield, pickS_bool, ldS_ptr, list_cells, list_ro, partS_none, lenSl_of, lenStr_of, cvInt_of, aminmax_max, aminmax_min, abin_add, abin_sub, abin_mul, abin_eql, abin_neq, abin_lss, abin_leq, abin_gtr, abin_geq, aunary_not, aextract]) (by simp [FT.get_set, FT.setL, faS_ptr, nilS_ptr, nilS_func, nilS_yield, pickS_bool, ldS_ptr, list_cells, list_ro, partS_none, lenSl_of, lenStr_of, cvInt_of, aminmax_max, aminmax_min, abin_add, abin_sub, abin_mul, abin_eql, abin_neq, abin_lss, abin_leq, abin_gtr, abin_geq, aunary_not, aextract]) (by rw [hG]; simp [FT.get_set, FT.setL, faS_ptr, nilS_ptr, nilS_func, nilS_yield, pickS_bool, ldS_ptr, list_cells, list_ro, partS_none, lenSl_of, lenStr_of, cvInt_of, aminmax_max, aminmax_min, abin_add, abin_sub, abin_mul, abin_eql, abin_neq, abin_lss, abin_leq, abin_gtr, abin_geq, aunary_not, aextract]) (by simp [FT.get_set, FT.setL, faS_ptr, nilS_ptr, nilS_func, nilS_yield, pickS_bool, ldS_ptr, list_cells, list_ro, partS_none, lenSl_of, lenStr_of, cvInt_of, aminmax_max, aminmax_min, abin_add, abin_sub, abin_mul, abin_eql, abin_neq, abin_lss, abin_leq, abin_gtr, abin_geq, aunary_not, aextract])) ?_
    rintro _ T2 S2 ⟨rfl, hx⟩
    exact tail T2 S2 hx
  · have f2 := old_fresh S1 ((keysI (ge G)).map encZ) 1
    have hkb := fresh_at S1 ((keysI (ge G)).map encZ) 1
    rw [hlen]
    simp (decide := true) only [FT.get_set, FT.setL, faS_ptr, nilS_ptr, nilS_func, nilS_yield, pickS_bool, ldS_ptr, list_cells, list_ro, partS_none, lenSl_of, lenStr_of, cvInt_of, aminmax_max, aminmax_min, abin_add, abin_sub, abin_mul, abin_eql, abin_neq, abin_lss, abin_leq, abin_gtr, abin_geq, aunary_not, aextract, Option.some.injEq, Prod.mk.injEq, Value.bool.injEq, exists_eq_left', exists_and_left, and_assoc, decide_eq_true_eq, decide_eq_false_iff_not, if_true, if_false, Nat.zero_add, Nat.add_zero, Option.bind_some, true_and, and_true, forall_const, true_implies, Bool.not_eq_true, Bool.false_eq_true, false_implies, ite_self, Nat.mul_one, lenSl_of]
    refine MWp.mono (body (.slice (some ⟨S1.n, 0, none⟩) G.length unk) _ S1.n _ f2 (by omega) (by omega) (by simp only [fresh_n]; omega) (fun _ => ⟨rfl, hkb⟩) (by simp [FT.get_set, FT.setL, faS_ptr, nilS_ptr, nilS_func, nilS_yield, pickS_bool, ldS_ptr, list_cells, list_ro, partS_none, lenSl_of, lenStr_of, cvInt_of, aminmax_max, aminmax_min, abin_add, abin_sub, abin_mul, abin_eql, abin_neq, abin_lss, abin_leq, abin_gtr, abin_geq, aunary_not, aextract]) (by simp [FT.get_set, FT.setL, faS_ptr, nilS_ptr, nilS_func, nilS_yield, pickS_bool, ldS_ptr, list_cells, list_ro, partS_none, lenSl_of, lenStr_of, cvInt_of, aminmax_max, aminmax_min, abin_add, abin_sub, abin_mul, abin_eql, abin_neq, abin_lss, abin_leq, abin_gtr, abin_geq, aunary_not, aextract]) (by simp [FT.get_set, FT.setL, faS_ptr, nilS_ptr, nilS_func, nilS_yield, pickS_bool, ldS_ptr, list_cells, list_ro, partS_none, lenSl_of, lenStr_of, cvInt_of, aminmax_max, aminmax_min, abin_add, abin_sub, abin_mul, abin_eql, abin_neq, abin_lss, abin_leq, abin_gtr, abin_geq, aunary_not, aextract]) (by simp [FT.get_set, FT.setL, faS_ptr, nilS_ptr, nilS_func, nilS_yield, pickS_bool, ldS_ptr, list_cells, list_ro, partS_none, lenSl_of, lenStr_of, cvInt_of, aminmax_max, aminmax_min, abin_add, abin_sub, abin_mul, abin_eql, abin_neq, abin_lss, abin_leq, abin_gtr, abin_geq, aunary_not, aextract]) (by simp [FT.get_set, FT.setL, faS_ptr, nilS_ptr, nilS_func, nilS_yield, pickS_bool, ldS_ptr, list_cells, list_ro, partS_none, lenSl_of, lenStr_of, cvInt_of, aminmax_max, aminmax_min, abin_add, abin_sub, abin_mul, abin_eql, abin_neq, abin_lss, abin_leq, abin_gtr, abin_geq, aunary_not, aextract])) ?_
    rintro _ T2 S2 ⟨rfl, hx⟩
    exact tail T2 S2 hx
end Go.Proofs.Ytikdcdccpbnaeaa

