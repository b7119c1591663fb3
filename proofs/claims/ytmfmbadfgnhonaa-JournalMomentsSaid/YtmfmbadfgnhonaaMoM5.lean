/-
  The walk through the journal's code: what its functions do to memory, part MoM5. Nothing is asked.
-/
import Derived.Test.YtmfmbadfgnhonaaMoM4
set_option linter.all false
namespace Go.Proofs.Ytmfmbadfgnhonaa
open Go Go.Ag
set_option linter.unusedVariables false
set_option maxRecDepth 100000

theorem law6 {S : MS} {av : Value} {l : List (List UInt8)} (every : Int) (ha : Arg2 S av l) : CallM Try.prog O 6 [av, .int .u8 every] S fun x _ => x = .bool true := by
  refine callM_wf fun wf => ?_
  refine callM_body (fnIs is6 body6 res6) (O_none (by decide)) (by simp) ?_
  refine m_seq (m_reg ?_)
  rw [reg6_0]
  refine m_seq (m_seq (m_reg ?_))
  rw [reg6_1]
  refine callM_known (v := .bool true) (by unfold O; rw [if_pos ⟨rfl, rfl⟩]) ?_
  simp (decide := true) only [FT.get_set, FT.setL, faS_ptr, nilS_ptr, nilS_func, nilS_yield, pickS_bool, ldS_ptr, list_cells, list_ro, partS_none, lenSl_of, lenStr_of, cvInt_of, aminmax_max, aminmax_min, abin_add, abin_sub, abin_mul, abin_eql, abin_neq, abin_lss, abin_leq, abin_gtr, abin_geq, aunary_not, aextract, Option.some.injEq, Prod.mk.injEq, Value.bool.injEq, exists_eq_left', exists_and_left, and_assoc, decide_eq_true_eq, decide_eq_false_iff_not, if_true, if_false, Nat.zero_add, Nat.add_zero, Option.bind_some, true_and, and_true, forall_const, true_implies, Bool.not_eq_true, Bool.false_eq_true, false_implies, ite_self, Nat.mul_one, ]
  refine m_cond (t := false) (by simp [evalT, FT.get_set, FT.setL, faS_ptr, nilS_ptr, nilS_func, nilS_yield, pickS_bool, ldS_ptr, list_cells, list_ro, partS_none, lenSl_of, lenStr_of, cvInt_of, aminmax_max, aminmax_min, abin_add, abin_sub, abin_mul, abin_eql, abin_neq, abin_lss, abin_leq, abin_gtr, abin_geq, aunary_not, aextract]) ff (fun _ => m_skip ?_)
  simp only
  refine m_seq (m_seq (m_reg ?_))
  rw [reg6_3]
  simp (decide := true) only [FT.get_set, FT.setL, faS_ptr, nilS_ptr, nilS_func, nilS_yield, pickS_bool, ldS_ptr, list_cells, list_ro, partS_none, lenSl_of, lenStr_of, cvInt_of, aminmax_max, aminmax_min, abin_add, abin_sub, abin_mul, abin_eql, abin_neq, abin_lss, abin_leq, abin_gtr, abin_geq, aunary_not, aextract, Option.some.injEq, Prod.mk.injEq, Value.bool.injEq, exists_eq_left', exists_and_left, and_assoc, decide_eq_true_eq, decide_eq_false_iff_not, if_true, if_false, Nat.zero_add, Nat.add_zero, Option.bind_some, true_and, and_true, forall_const, true_implies, Bool.not_eq_true, Bool.false_eq_true, false_implies, ite_self, Nat.mul_one, ha.len]
  refine m_cond (t := decide ((l.length : Int) > 12)) (by simp [evalT, FT.get_set, FT.setL, faS_ptr, nilS_ptr, nilS_func, nilS_yield, pickS_bool, ldS_ptr, list_cells, list_ro, partS_none, lenSl_of, lenStr_of, cvInt_of, aminmax_max, aminmax_min, abin_add, abin_sub, abin_mul, abin_eql, abin_neq, abin_lss, abin_leq, abin_gtr, abin_geq, aunary_not, aextract]) (fun _ => ?_) (fun hl => m_skip ?_)
  · refine m_seq (m_reg ?_)
    rw [reg6_4]
    refine m_ret ?_
    simp [resM, FT.get_set, FT.setL, faS_ptr, nilS_ptr, nilS_func, nilS_yield, pickS_bool, ldS_ptr, list_cells, list_ro, partS_none, lenSl_of, lenStr_of, cvInt_of, aminmax_max, aminmax_min, abin_add, abin_sub, abin_mul, abin_eql, abin_neq, abin_lss, abin_leq, abin_gtr, abin_geq, aunary_not, aextract, oneOrTuple]
  have hl : l.length ≤ 12 := by have := of_decide_eq_false hl; omega
  simp only
  -- a new disk
  refine m_seq (m_reg ?_)
  rw [reg6_5]
  simp (decide := true) only [FT.get_set, FT.setL, faS_ptr, nilS_ptr, nilS_func, nilS_yield, pickS_bool, ldS_ptr, list_cells, list_ro, partS_none, lenSl_of, lenStr_of, cvInt_of, aminmax_max, aminmax_min, abin_add, abin_sub, abin_mul, abin_eql, abin_neq, abin_lss, abin_leq, abin_gtr, abin_geq, aunary_not, aextract, Option.some.injEq, Prod.mk.injEq, Value.bool.injEq, exists_eq_left', exists_and_left, and_assoc, decide_eq_true_eq, decide_eq_false_iff_not, if_true, if_false, Nat.zero_add, Nat.add_zero, Option.bind_some, true_and, and_true, forall_const, true_implies, Bool.not_eq_true, Bool.false_eq_true, false_implies, ite_self, Nat.mul_one, ]
  refine callM_wf_post (new8 80 (by omega) (by omega) fun S1 hI n1 f1 wf1 => ?_)
  simp (decide := true) only [FT.get_set, FT.setL, faS_ptr, nilS_ptr, nilS_func, nilS_yield, pickS_bool, ldS_ptr, list_cells, list_ro, partS_none, lenSl_of, lenStr_of, cvInt_of, aminmax_max, aminmax_min, abin_add, abin_sub, abin_mul, abin_eql, abin_neq, abin_lss, abin_leq, abin_gtr, abin_geq, aunary_not, aextract, Option.some.injEq, Prod.mk.injEq, Value.bool.injEq, exists_eq_left', exists_and_left, and_assoc, decide_eq_true_eq, decide_eq_false_iff_not, if_true, if_false, Nat.zero_add, Nat.add_zero, Option.bind_some, true_and, and_true, forall_const, true_implies, Bool.not_eq_true, Bool.false_eq_true, false_implies, ite_self, Nat.mul_one, List.getElem?_cons_zero, List.getElem?_cons_succ]
  have hmd : (newDK S.n 80).made.length = 80 := by simp [newDK]
  have hws0 : (newDK S.n 80).ws.length = 0 := rfl
  have B1 : BF S S1 (S.n + 2) (newDK S.n 80) := fun y hy => ⟨⟨by omega, by omega, by show y ≠ S.n + 1; omega, fun h => absurd rfl h, by show y ≠ S.n; omega⟩, f1 y hy⟩
  refine m_seq (m_seq (m_reg ?_))
  rw [reg6_6]
  have z1 : ∀ S : MS, bsS S 1 1 [.int .u8 0] [(0, .int .u8 48)] = some (.slice (some ⟨S.n, 0, none⟩) 1 1, S.fresh (bL [48]) 1) := fun S => bsS_one S 1 _ (.int .u8 48) rfl rfl
  have z2 : ∀ S : MS, sameS (S.fresh (bL [48]) 1) (.slice (some ⟨S.n, 0, none⟩) 1 1) = some (.slice (some ⟨S.n, 0, none⟩) 1 1) := fun S => same_own (fresh_at S _ 1)
  have z3 : ∀ S : MS, RB (S.fresh (bL [48]) 1) (.slice (some ⟨S.n, 0, none⟩) 1 1) [48] := fun S => .inr (.inr ⟨S.n, 0, 1, bL [48], rfl, list_of (fresh_at S _ 1), by decide, rfl, by decide, .inl (by decide)⟩)
  simp (decide := true) only [FT.get_set, FT.setL, faS_ptr, nilS_ptr, nilS_func, nilS_yield, pickS_bool, ldS_ptr, list_cells, list_ro, partS_none, lenSl_of, lenStr_of, cvInt_of, aminmax_max, aminmax_min, abin_add, abin_sub, abin_mul, abin_eql, abin_neq, abin_lss, abin_leq, abin_gtr, abin_geq, aunary_not, aextract, Option.some.injEq, Prod.mk.injEq, Value.bool.injEq, exists_eq_left', exists_and_left, and_assoc, decide_eq_true_eq, decide_eq_false_iff_not, if_true, if_false, Nat.zero_add, Nat.add_zero, Option.bind_some, true_and, and_true, forall_const, true_implies, Bool.not_eq_true, Bool.false_eq_true, false_implies, ite_self, Nat.mul_one, bne_self_eq_false, z1, z2]
  have f2 := old_fresh S1 (bL [48]) 1
  have wf2 := wf_fresh' wf1 (bL [48]) 1
  refine callM_wf_post (formatP (b := [48]) (hI.old' wf1 f2) ((newW 80 S.n _ hI).old wf1 f2) ⟨rfl, rfl⟩ (by rw [hmd]; omega) (z3 S1) ?_ (by rw [hmd]; decide) (by rw [hws0]; omega) fun S3 D3 G3 says3 run3 ws3 md3 wf3 => ?_)
  · rintro y ⟨o, k, c, e⟩
    cases e
    exact FrD.new hI wf1 (Nat.le_refl _) (by rw [fresh_n]; omega)
  rw [hmd] at md3
  have B3 := (B1.old f2).goes G3
  simp (decide := true) only [FT.get_set, FT.setL, faS_ptr, nilS_ptr, nilS_func, nilS_yield, pickS_bool, ldS_ptr, list_cells, list_ro, partS_none, lenSl_of, lenStr_of, cvInt_of, aminmax_max, aminmax_min, abin_add, abin_sub, abin_mul, abin_eql, abin_neq, abin_lss, abin_leq, abin_gtr, abin_geq, aunary_not, aextract, Option.some.injEq, Prod.mk.injEq, Value.bool.injEq, exists_eq_left', exists_and_left, and_assoc, decide_eq_true_eq, decide_eq_false_iff_not, if_true, if_false, Nat.zero_add, Nat.add_zero, Option.bind_some, true_and, and_true, forall_const, true_implies, Bool.not_eq_true, Bool.false_eq_true, false_implies, ite_self, Nat.mul_one, bne_self_eq_false]
  refine m_cond (t := false) (by simp [evalT, FT.get_set, FT.setL, faS_ptr, nilS_ptr, nilS_func, nilS_yield, pickS_bool, ldS_ptr, list_cells, list_ro, partS_none, lenSl_of, lenStr_of, cvInt_of, aminmax_max, aminmax_min, abin_add, abin_sub, abin_mul, abin_eql, abin_neq, abin_lss, abin_leq, abin_gtr, abin_geq, aunary_not, aextract]) ff (fun _ => m_skip ?_)
  simp only
  refine m_seq (m_reg ?_)
  rw [reg6_8]
  simp (decide := true) only [FT.get_set, FT.setL, faS_ptr, nilS_ptr, nilS_func, nilS_yield, pickS_bool, ldS_ptr, list_cells, list_ro, partS_none, lenSl_of, lenStr_of, cvInt_of, aminmax_max, aminmax_min, abin_add, abin_sub, abin_mul, abin_eql, abin_neq, abin_lss, abin_leq, abin_gtr, abin_geq, aunary_not, aextract, Option.some.injEq, Prod.mk.injEq, Value.bool.injEq, exists_eq_left', exists_and_left, and_assoc, decide_eq_true_eq, decide_eq_false_iff_not, if_true, if_false, Nat.zero_add, Nat.add_zero, Option.bind_some, true_and, and_true, forall_const, true_implies, Bool.not_eq_true, Bool.false_eq_true, false_implies, ite_self, Nat.mul_one, ]
  have hl0 : liveN ([48] : List UInt8) [] = 9 := rfl
  refine callM_wf_post (openP G3.is G3.hw run3.1 (by rw [md3]; omega) says3 (by rw [hl0, md3]; omega) fun j rv S4 f4 hj4 hrv4 hp4 wf4 => ?_)
  have B4 := B3.old f4
  simp (decide := true) only [FT.get_set, FT.setL, faS_ptr, nilS_ptr, nilS_func, nilS_yield, pickS_bool, ldS_ptr, list_cells, list_ro, partS_none, lenSl_of, lenStr_of, cvInt_of, aminmax_max, aminmax_min, abin_add, abin_sub, abin_mul, abin_eql, abin_neq, abin_lss, abin_leq, abin_gtr, abin_geq, aunary_not, aextract, Option.some.injEq, Prod.mk.injEq, Value.bool.injEq, exists_eq_left', exists_and_left, and_assoc, decide_eq_true_eq, decide_eq_false_iff_not, if_true, if_false, Nat.zero_add, Nat.add_zero, Option.bind_some, true_and, and_true, forall_const, true_implies, Bool.not_eq_true, Bool.false_eq_true, false_implies, ite_self, Nat.mul_one, List.getElem?_cons_zero, List.getElem?_cons_succ]
  refine m_seq (m_seq (m_reg ?_))
  rw [reg6_9]
  simp (decide := true) only [FT.get_set, FT.setL, faS_ptr, nilS_ptr, nilS_func, nilS_yield, pickS_bool, ldS_ptr, list_cells, list_ro, partS_none, lenSl_of, lenStr_of, cvInt_of, aminmax_max, aminmax_min, abin_add, abin_sub, abin_mul, abin_eql, abin_neq, abin_lss, abin_leq, abin_gtr, abin_geq, aunary_not, aextract, Option.some.injEq, Prod.mk.injEq, Value.bool.injEq, exists_eq_left', exists_and_left, and_assoc, decide_eq_true_eq, decide_eq_false_iff_not, if_true, if_false, Nat.zero_add, Nat.add_zero, Option.bind_some, true_and, and_true, forall_const, true_implies, Bool.not_eq_true, Bool.false_eq_true, false_implies, ite_self, Nat.mul_one, bne_self_eq_false, abin_ptr_nil_eql _ _ _ _ _ _ under28]
  refine m_cond (t := false) (by simp [evalT, FT.get_set, FT.setL, faS_ptr, nilS_ptr, nilS_func, nilS_yield, pickS_bool, ldS_ptr, list_cells, list_ro, partS_none, lenSl_of, lenStr_of, cvInt_of, aminmax_max, aminmax_min, abin_add, abin_sub, abin_mul, abin_eql, abin_neq, abin_lss, abin_leq, abin_gtr, abin_geq, aunary_not, aextract]) ff (fun _ => m_skip ?_)
  simp only
  refine m_seq (m_reg ?_)
  rw [reg6_11]
  simp (decide := true) only [FT.get_set, FT.setL, faS_ptr, nilS_ptr, nilS_func, nilS_yield, pickS_bool, ldS_ptr, list_cells, list_ro, partS_none, lenSl_of, lenStr_of, cvInt_of, aminmax_max, aminmax_min, abin_add, abin_sub, abin_mul, abin_eql, abin_neq, abin_lss, abin_leq, abin_gtr, abin_geq, aunary_not, aextract, Option.some.injEq, Prod.mk.injEq, Value.bool.injEq, exists_eq_left', exists_and_left, and_assoc, decide_eq_true_eq, decide_eq_false_iff_not, if_true, if_false, Nat.zero_add, Nat.add_zero, Option.bind_some, true_and, and_true, forall_const, true_implies, Bool.not_eq_true, Bool.false_eq_true, false_implies, ite_self, Nat.mul_one, z1, z2]
  have f5 := old_fresh S4 (bL [48]) 1
  have hBF : ∀ y, y < S.n → Fr (S4.fresh (bL [48]) 1) (S.n + 2) D3 j rv y ∧ (S4.fresh (bL [48]) 1).m y = S.m y := fun y hy => by
    have h3 := (B3 y hy).1.1
    refine ⟨⟨(B4.old f5 y hy).1, by omega, Classical.byContradiction fun e => ?_⟩, (B4.old f5 y hy).2⟩
    have := hrv4 y e
    omega
  refine m_seq (m_reg ?_)
  rw [reg6_12]
  refine m_seq (m_seq (m_reg ?_))
  rw [reg6_13]
  have hLW : LW (S4.fresh (bL [48]) 1) (S.n + 2) D3 j rv (.slice (some ⟨S4.n, 0, none⟩) 1 1) (.slice none 0 0) [48] [] := by
    refine ⟨z3 S4, ?_, [], .non, ⟨rfl, fun i x r hx => by cases hx⟩, fun y hy => absurd (fun l c e => by cases e) hy, fun x hx => by cases hx⟩
    rintro y ⟨o, k, c, e⟩
    cases e
    exact Fr.new hp4.is wf4 hp4.jj (Nat.le_refl _) (by rw [fresh_n]; omega)
  unfold blk6_0
  rw [hmd] at hp4
  refine m_block (m_loop (fun m T S' => MO S av l every (S.n + 2) m T S') l.length ⟨D3, _, _, j, rv, 0, _, _, [48], [], 0, by omega, hp4.old wf4 f5, run3, md3, by rw [hws0] at ws3; omega, hLW, hBF, by rw [hl0]; omega, by simp, by simp [FT.get_set, FT.setL], by simp [FT.get_set, FT.setL], by simp [FT.get_set], by simp [FT.get_set], by simp [FT.get_set], by simp [FT.get_set], by simp [FT.get_set]⟩ ?_)
  intro m T S6 hmo
  refine (round6 wf ha hl hmo).mono ?_
  rintro x T7 S7 (⟨rfl, m', hm', hmo'⟩ | rfl | ⟨rfl, h4⟩)
  · exact ⟨m', hm', hmo'⟩
  · simp only [if_true]
    refine m_seq (m_reg ?_)
    rw [reg6_40]
    refine m_ret ?_
    simp [resM, FT.get_set, FT.setL, faS_ptr, nilS_ptr, nilS_func, nilS_yield, pickS_bool, ldS_ptr, list_cells, list_ro, partS_none, lenSl_of, lenStr_of, cvInt_of, aminmax_max, aminmax_min, abin_add, abin_sub, abin_mul, abin_eql, abin_neq, abin_lss, abin_leq, abin_gtr, abin_geq, aunary_not, aextract, oneOrTuple]
  · simp [resM, h4, oneOrTuple]

section
variable {H : Type} {S : MS}
theorem rd_list {cs : List Value} {d : DataW H} (h : RdS Try.prog S 33 cs d) (wf : S.WF) : ∃ v l, cs = [v] ∧ Arg2 S v l := by
  cases h with
  | bool hu' => rw [under33] at hu'; cases hu'
  | int hu' => rw [under33] at hu'; cases hu'
  | string hu' _ => rw [under33] at hu'; cases hu'
  | struct hu' => rw [under33] at hu'; cases hu'
  | sliceNil hu' => exact ⟨_, [], rfl, rfl, fun k b hb => by cases hb⟩
  | sliceZ hu' => exact ⟨_, [], rfl, rfl, fun k b hb => by cases hb⟩
  | slice vs hu hcap hlen hmax he hs hvs hb hsz hr =>
    rename_i e b len cap elems spare
    rw [under33] at hu; cases hu
    rw [cells32] at hsz
    have hst : ∀ k, k < len → ∃ bs : List UInt8, ∃ x, vs[k]? = some [x] ∧ RB S x bs := by
      intro k hk
      have hkv : k < vs.length := by omega
      have hkd : k < (elems ++ spare).length := by rw [List.length_append]; omega
      obtain ⟨v, bs, h1, h2, _⟩ := rd_bytes (hr k _ _ (List.getElem?_eq_getElem hkv) (List.getElem?_eq_getElem hkd))
      exact ⟨bs, v, by rw [List.getElem?_eq_getElem hkv, h1], h2⟩
    obtain ⟨l, hll, hx⟩ := list_of_each (p := fun k (bs : List UInt8) => ∃ x, vs[k]? = some [x] ∧ RB S x bs) len hst
    obtain ⟨f1, f2⟩ := flat1 vs hsz
    refine ⟨_, l, rfl, by rw [lenSl_of, hll], fun k bs hk => ?_⟩
    obtain ⟨x, hx1, hx2⟩ := hx k bs hk
    have hkl : k < l.length := (List.getElem?_eq_some_iff.1 hk).1
    refine ⟨x, k, b, ?_, ?_, wf _ _ hb, hx2⟩
    · rw [iaSS_of (k := .i64) (i := (k : Int)) (by omega) (by omega : (k : Int) < (len : Int)), Int.toNat_natCast, Nat.zero_add, Nat.mul_one]
    · rw [ldS_ptr, list_of hb]
      show vs.flatten[k]? = _
      rw [f2, hx1]; rfl
theorem two {P : Program} {t1 t2 : TypeId} {vs : List Value} {ds : List (DataW H)} (h : RdSAll P S [t1, t2] vs ds) : ∃ a b d1 d2, vs = [a, b] ∧ ds = [d1, d2] := by
  rcases vs with _ | ⟨a, _ | ⟨b, _ | ⟨c, vs⟩⟩⟩ <;> rcases ds with _ | ⟨d1, _ | ⟨d2, _ | ⟨d3, ds⟩⟩⟩ <;> first | exact h.elim | exact h.2.elim | exact h.2.2.elim | exact ⟨_, _, _, _, rfl, rfl⟩
theorem run6 (ds : List (DataW H)) (vs : List Value) (h : RdSAll Try.prog S [33, 5] vs ds) : CallM Try.prog O 6 vs S fun v _ => v = .bool true := by
  refine callM_wf fun wf => ?_
  obtain ⟨a, b, d1, d2, rfl, rfl⟩ := two h
  obtain ⟨⟨cs1, r1, k1⟩, ⟨cs2, r2, k2⟩, _⟩ := h
  have e1 := rd_sv (d := d1) k1 (fun fs e => by rw [under33] at e; cases e)
  have e2 := rd_sv (d := d1) k2 (fun fs e => by rw [under5] at e; cases e)
  subst e1 e2
  obtain ⟨v, l, e1, ha⟩ := rd_list r1 wf
  obtain ⟨n, e2, _⟩ := rd_int under5 r2
  cases e1; cases e2
  exact law6 n ha
end
end Go.Proofs.Ytmfmbadfgnhonaa

