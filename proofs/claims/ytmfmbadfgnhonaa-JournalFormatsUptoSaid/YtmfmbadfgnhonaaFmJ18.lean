/-
  The walk through the journal's code: what its functions do to memory, part FmJ18. Nothing is asked.
-/
import Derived.Test.YtmfmbadfgnhonaaFmJ17
set_option linter.all false
namespace Go.Proofs.Ytmfmbadfgnhonaa
open Go Go.Ag
set_option linter.unusedVariables false
set_option maxRecDepth 100000

theorem veq_ptr (a : Option Addr) : veq (.pointer a) (.pointer a) = true := by simp [veq, veq1]
theorem RB.veq {S : MS} {v : Value} {bs : List UInt8} (h : RB S v bs) : veq v v = true := by
  rcases h with ⟨rfl, _⟩ | ⟨rfl, _⟩ | ⟨b, off, cap, L, rfl, _⟩ <;> exact veq_slice _ _ _
theorem RB.sv {S : MS} {v : Value} {bs : List UInt8} (h : RB S v bs) : ∃ s : Sv, v = s.v := by
  rcases h with ⟨rfl, _⟩ | ⟨rfl, _⟩ | ⟨b, off, cap, L, rfl, _⟩ <;> exact ⟨⟨_, _, _⟩, rfl⟩

theorem headB_8 (h e : Nat) : (((headB h e).drop 8).take (256 - 8)).take 8 = num8 h := by
  unfold headB
  rw [List.take_take, List.append_assoc, List.append_assoc, List.drop_left' (num8_len _), List.take_left' (by rw [num8_len]; rfl)]
theorem headB_16 (h e : Nat) : (((headB h e).drop 16).take (256 - 16)).take 8 = num8 e := by
  unfold headB
  rw [List.take_take, List.append_assoc, List.drop_left' (by simp [num8_len]), List.take_left' (by rw [num8_len]; rfl)]

/-- a disk's blocks say: this base, these records -/
structure Says (n : Nat) (c : Nat → List UInt8) (half end' : Nat) (base : List UInt8) (rs : List (List UInt8)) : Prop where
  hh : half ≤ 1
  c0 : c 0 = headB half end'
  he : end' = liveN base rs
  le : end' ≤ (n - 1) / 2 * 256
  all : (catB c (placeN n half) ((end' + 255) / 256)).take end' = allB base rs

/-- an open journal: on this disk, with this base, these records -/
structure JJ (S : MS) (d : Nat) (D : DK) (j : Nat) (rv : Value) (half end' : Nat) (base : List UInt8) (rs : List (List UInt8)) (dead : Bool) : Prop where
  ex : ∃ bv tv rl, S.m j = some (.cells (jouL d half end' bv rv tv dead) 0) ∧ RB S bv base ∧ SlF svF 1 S 0 rv rl ∧ RBs S rl rs ∧ RB S tv ((allB base rs).drop (end' / 256 * 256)) ∧ ∀ y, On bv y ∨ On tv y ∨ (∃ x ∈ rl, On x.v y) → FrD S d D y ∧ y ≠ j ∧ Av rv y
  fj : FrD S d D j ∧ Av rv j
  frv : ∀ y, ¬ Av rv y → FrD S d D y
theorem JJ.isJ {S : MS} {d : Nat} {D : DK} {j : Nat} {rv : Value} {half end' : Nat} {base : List UInt8} {rs : List (List UInt8)} {dead : Bool} (h : JJ S d D j rv half end' base rs dead) : IsJ S j d 0 half end' base rs ((allB base rs).drop (end' / 256 * 256)) dead := by
  obtain ⟨bv, tv, rl, h1, h2, h3, h4, h5, h6⟩ := h.ex
  exact ⟨bv, rv, tv, rl, h1, h2, h3, h4, h5, h.fj.2⟩
/-- where the disk's other blocks stay, a journal stays -/
theorem JJ.keep {S S' : MS} {d : Nat} {D D' : DK} {j : Nat} {rv : Value} {half end' : Nat} {base : List UInt8} {rs : List (List UInt8)} {dead : Bool} (h : JJ S d D j rv half end' base rs dead) (hk : ∀ y, FrD S d D y → S'.m y = S.m y ∧ FrD S' d D' y) : JJ S' d D' j rv half end' base rs dead := by
  obtain ⟨bv, tv, rl, h1, h2, h3, h4, h5, h6⟩ := h.ex
  refine ⟨⟨bv, tv, rl, by rw [(hk j h.fj.1).1]; exact h1, h2.keepOn fun y hy => (hk y (h6 y (.inl hy)).1).1, h3.keep1 fun y k hy _ => (hk y (h.frv y hy)).1, ⟨h4.1, fun i x r hx hr => (h4.2 i x r hx hr).keepOn fun y hy => (hk y (h6 y (.inr (.inr ⟨x, List.mem_of_getElem? hx, hy⟩))).1).1⟩, h5.keepOn fun y hy => (hk y (h6 y (.inr (.inl hy))).1).1, fun y hy => ⟨(hk y (h6 y hy).1).2, (h6 y hy).2⟩⟩, ⟨(hk j h.fj.1).2, h.fj.2⟩, fun y hy => (hk y (h.frv y hy)).2⟩

theorem bd_j (d : Nat) (h e : Int) (t : Value) (ht : t.cells = #[t]) : bdS (fun i => [(0, 1), (1, 1), (2, 1), (3, 1), (4, 1), (5, 1), (6, 1)][i]?) [.pointer none, .int .i64 0, .int .i64 0, .slice none 0 0, .slice none 0 0, .slice none 0 0, .bool false] [(0, .pointer (some ⟨d, 0, none⟩)), (1, .int .i64 h), (2, .int .i64 e), (5, t)] = some (.agg (jouL d h e (.slice none 0 0) (.slice none 0 0) t false).toArray) := by
  simp [bdS, fillL, spliceL, ht, cells_int, cells_ptr, jouL]

/-- a first block as a fresh slice -/
theorem RB.block {S : MS} {b : Nat} {bs : List UInt8} {es : Nat} (h : S.m b = some (.cells (bL bs) es)) (hl : bs.length = 256) : RB S (.slice (some ⟨b, 0, none⟩) 256 256) bs :=
  .inr (.inr ⟨b, 0, 256, bL bs, by rw [hl], list_of h, by rw [bL_len]; omega, by rw [List.drop_zero, ← bL_len, List.take_length], by omega, .inl (by decide)⟩)

/-! ### the checks on the first block -/
theorem ff {p : Prop} (h : false = true) : p := by cases h
theorem tf {p : Prop} (h : true = false) : p := by cases h
theorem g10_bad {S : MS} {d : Nat} {D : DK} (h : IsD S d D) {T : FT} (t0 : T.get 0 = .pointer (some ⟨d, 0, none⟩)) (t6 : T.get 6 = .int .i64 0) (t7 : T.get 7 = .int .i64 0) {Q : FT → MS → Prop} (hq : ∀ T', T'.get 57 = .bool true → Q T' S) : mOps Try.prog O 97 (ro 10 5).toList (ro 10 5).toList [] T S Q := by
  rw [reg10_5, t0, t6, t7]
  refine blocksD h ⟨_, abin_lss _ _ _ _ _ _ _, _, rfl, fun hb => ?_, fun hb => ?_⟩
  · rw [hb]
    refine ⟨.bool true, rfl, true, rfl, fun _ => ⟨.bool true, rfl, true, rfl, fun _ => ⟨.bool true, rfl, true, rfl, fun _ => ⟨.bool true, rfl, true, rfl, fun _ => ⟨.bool true, rfl, hq _ ?_⟩, tf⟩, tf⟩, tf⟩, tf⟩
    simp [FT.get_set]
  · rw [hb]
    refine ⟨.bool false, abin_lss _ _ _ _ _ _ _, .bool false, rfl, false, rfl, ff, fun _ => ⟨.bool false, abin_gtr _ _ _ _ _ _ _, .bool false, rfl, false, rfl, ff, fun _ => ⟨.bool true, abin_lss _ _ _ _ _ _ _, .bool true, rfl, true, rfl, fun _ => ⟨.bool true, rfl, true, rfl, fun _ => ⟨.bool true, rfl, hq _ ?_⟩, tf⟩, tf⟩⟩⟩
    simp [FT.get_set]
theorem g10_ok {S : MS} {d : Nat} {D : DK} (wf : S.WF) (h : IsD S d D) (hn : 64 ≤ D.made.length ∧ D.made.length ≤ 2000) {T : FT} {v : Value} {half end' : Nat} (t0 : T.get 0 = .pointer (some ⟨d, 0, none⟩)) (t4 : T.get 4 = v) (t6 : T.get 6 = .int .i64 half) (t7 : T.get 7 = .int .i64 end') (hv : RB S v (headB half end')) (hh : half ≤ 1) (h8 : 8 ≤ end') (he : end' ≤ (D.made.length - 1) / 2 * 256) {Q : FT → MS → Prop} (hq : ∀ T' S', Old S S' → T'.get 0 = T.get 0 → T'.get 4 = T.get 4 → T'.get 6 = T.get 6 → T'.get 7 = T.get 7 → T'.get 57 = .bool false → Q T' S') : mOps Try.prog O 97 (ro 10 5).toList (ro 10 5).toList [] T S Q := by
  rw [reg10_5, t0, t4, t6, t7]
  have e1 : decide ((D.made.length : Int) < 64) = false := decide_eq_false (by omega)
  have e2 : decide ((half : Int) < 0) = false := decide_eq_false (by omega)
  have e3 : decide ((half : Int) > 1) = false := decide_eq_false (by omega)
  have e4 : decide ((end' : Int) < 8) = false := decide_eq_false (by omega)
  have e5 : decide ((end' : Int) > (((D.made.length - 1) / 2 * 256 : Nat) : Int)) = false := decide_eq_false (by omega)
  have w1 : IntKind.i64.wrap ((D.made.length : Int) - 1) = ((D.made.length - 1 : Nat) : Int) := by rw [wrap_i64 (by omega) (by omega)]; omega
  have w2 : ((D.made.length - 1 : Nat) : Int).tdiv 2 = (((D.made.length - 1) / 2 : Nat) : Int) := by rw [Int.tdiv_eq_ediv_of_nonneg (by omega)]; rfl
  have w3 : IntKind.i64.wrap (((D.made.length - 1) / 2 : Nat) : Int) = (((D.made.length - 1) / 2 : Nat) : Int) := wrap_i64 (by omega) (by omega)
  have w4 : IntKind.i64.wrap ((((D.made.length - 1) / 2 : Nat) : Int) * 256) = (((D.made.length - 1) / 2 * 256 : Nat) : Int) := by rw [wrap_i64 (by omega) (by omega)]; omega
  refine blocksD h ⟨.bool false, (abin_lss _ _ _ _ _ _ _).trans (by rw [e1]), false, rfl, ff, fun _ => ⟨.bool false, (abin_lss _ _ _ _ _ _ _).trans (by rw [e2]), .bool false, rfl, false, rfl, ff, fun _ => ⟨.bool false, (abin_gtr _ _ _ _ _ _ _).trans (by rw [e3]), .bool false, rfl, false, rfl, ff, fun _ => ⟨.bool false, (abin_lss _ _ _ _ _ _ _).trans (by rw [e4]), .bool false, rfl, false, rfl, ff, fun _ => blocksD h ⟨.int .i64 ((D.made.length - 1 : Nat) : Int), (abin_sub _ _ _ _ _ _ _).trans (by rw [w1]), .int .i64 (((D.made.length - 1) / 2 : Nat) : Int), (abin_quo _ _ _ _ _ _ _ (by decide)).trans (by rw [w2, w3]), .int .i64 (((D.made.length - 1) / 2 * 256 : Nat) : Int), (abin_mul _ _ _ _ _ _ _).trans (by rw [w4]), .bool false, (abin_gtr _ _ _ _ _ _ _).trans (by rw [e5]), .bool false, rfl, false, rfl, ff, fun _ => ?_⟩⟩⟩⟩⟩
  refine head34 half end' (by omega) (by omega) fun hv2 S2 f2 b2 => ?_
  refine equal37 (hv.keep wf f2.2) (RB.own b2) ⟨.bool false, rfl, .bool false, rfl, hq _ _ f2 ?_ ?_ ?_ ?_ ?_⟩
  · simp [FT.get_set, t0]
  · simp [FT.get_set, t4]
  · simp [FT.get_set, t6]
  · simp [FT.get_set, t7]
  · simp [FT.get_set]

/-- where the first block is noughts: no journal -/
theorem open10_none {S : MS} {d : Nat} {D : DK} {c : Nat → List UInt8} (h : IsD S d D) (hc : Holds S D c) (hcut : D.cut = false) (h1 : 1 ≤ D.made.length) (h0 : c 0 = List.replicate 256 0) {Q : Value → MS → Prop}
    (hq : ∀ S', Old S S' → Q (.tuple #[.pointer none, .int .i64 191]) S') : CallM Try.prog O 10 [.pointer (some ⟨d, 0, none⟩)] S Q := by
  refine callM_wf fun wf => ?_
  refine callM_body (fnIs is10 body10 res10) (O_none (by decide)) (by simp) ?_
  refine m_seq (m_reg ?_)
  rw [reg10_0]
  refine m_scope (m_seq (m_reg ?_))
  rw [reg10_1]
  simp (decide := true) only [FT.get_set, FT.setL, faS_ptr, nilS_ptr, nilS_func, nilS_yield, pickS_bool, ldS_ptr, list_cells, list_ro, partS_none, lenSl_of, lenStr_of, cvInt_of, aminmax_max, aminmax_min, abin_add, abin_sub, abin_mul, abin_eql, abin_neq, abin_lss, abin_leq, abin_gtr, abin_geq, aunary_not, aextract, Option.some.injEq, Prod.mk.injEq, Value.bool.injEq, exists_eq_left', exists_and_left, and_assoc, decide_eq_true_eq, decide_eq_false_iff_not, if_true, if_false, Nat.zero_add, Nat.add_zero, Option.bind_some, true_and, and_true, forall_const, true_implies, Bool.not_eq_true, Bool.false_eq_true, false_implies, ite_self, Nat.mul_one, ]
  refine readP h hc (i := 0) (by omega) (fun hx => by rw [hcut] at hx; cases hx) fun _ => ?_
  obtain ⟨S1, hS1⟩ : ∃ S1, S1 = S.fresh (bL (c 0)) 1 := ⟨_, rfl⟩
  have f1 : Old S S1 := by rw [hS1]; exact old_fresh _ _ _
  have rb : RB S1 (.slice (some ⟨S.n, 0, none⟩) 256 256) (c 0) := RB.block (es := 1) (by rw [hS1]; exact fresh_at _ _ _) (by rw [h0]; simp)
  have hI : IsD S1 d D := h.old' wf f1
  rw [← hS1]
  simp (decide := true) only [FT.get_set, FT.setL, faS_ptr, nilS_ptr, nilS_func, nilS_yield, pickS_bool, ldS_ptr, list_cells, list_ro, partS_none, lenSl_of, lenStr_of, cvInt_of, aminmax_max, aminmax_min, abin_add, abin_sub, abin_mul, abin_eql, abin_neq, abin_lss, abin_leq, abin_gtr, abin_geq, aunary_not, aextract, Option.some.injEq, Prod.mk.injEq, Value.bool.injEq, exists_eq_left', exists_and_left, and_assoc, decide_eq_true_eq, decide_eq_false_iff_not, if_true, if_false, Nat.zero_add, Nat.add_zero, Option.bind_some, true_and, and_true, forall_const, true_implies, Bool.not_eq_true, Bool.false_eq_true, false_implies, ite_self, Nat.mul_one, List.getElem?_cons_zero, List.getElem?_cons_succ]
  refine m_seq (m_seq (m_reg ?_))
  rw [reg10_2]
  simp (decide := true) only [FT.get_set, FT.setL, faS_ptr, nilS_ptr, nilS_func, nilS_yield, pickS_bool, ldS_ptr, list_cells, list_ro, partS_none, lenSl_of, lenStr_of, cvInt_of, aminmax_max, aminmax_min, abin_add, abin_sub, abin_mul, abin_eql, abin_neq, abin_lss, abin_leq, abin_gtr, abin_geq, aunary_not, aextract, Option.some.injEq, Prod.mk.injEq, Value.bool.injEq, exists_eq_left', exists_and_left, and_assoc, decide_eq_true_eq, decide_eq_false_iff_not, if_true, if_false, Nat.zero_add, Nat.add_zero, Option.bind_some, true_and, and_true, forall_const, true_implies, Bool.not_eq_true, Bool.false_eq_true, false_implies, ite_self, Nat.mul_one, bne_self_eq_false]
  refine m_cond (t := false) (by simp [evalT, FT.get_set, FT.setL, faS_ptr, nilS_ptr, nilS_func, nilS_yield, pickS_bool, ldS_ptr, list_cells, list_ro, partS_none, lenSl_of, lenStr_of, cvInt_of, aminmax_max, aminmax_min, abin_add, abin_sub, abin_mul, abin_eql, abin_neq, abin_lss, abin_leq, abin_gtr, abin_geq, aunary_not, aextract]) (fun h => by cases h) (fun _ => m_skip ?_)
  simp only
  refine m_seq (m_draw ?_)
  rw [reg10_4]
  have hz : num8 0 = List.replicate 8 0 := by decide
  obtain ⟨v8, a1, a2⟩ := rb.sub (i := 8) (j := 256) (low := some (.int .i64 ((8 : Nat) : Int))) (high := none) (by omega) (by rw [h0]; simp) (.inr rfl) (.inl ⟨rfl, by rw [h0]; simp⟩)
  obtain ⟨v16, b1, b2⟩ := rb.sub (i := 16) (j := 256) (low := some (.int .i64 ((16 : Nat) : Int))) (high := none) (by omega) (by rw [h0]; simp) (.inr rfl) (.inl ⟨rfl, by rw [h0]; simp⟩)
  have a1' : slS 1 S1 (.slice (some ⟨S.n, 0, none⟩) 256 256) (some (.int .i64 8)) none none = some v8 := a1
  have b1' : slS 1 S1 (.slice (some ⟨S.n, 0, none⟩) 256 256) (some (.int .i64 16)) none none = some v16 := b1
  simp (decide := true) only [FT.get_set, FT.setL, faS_ptr, nilS_ptr, nilS_func, nilS_yield, pickS_bool, ldS_ptr, list_cells, list_ro, partS_none, lenSl_of, lenStr_of, cvInt_of, aminmax_max, aminmax_min, abin_add, abin_sub, abin_mul, abin_eql, abin_neq, abin_lss, abin_leq, abin_gtr, abin_geq, aunary_not, aextract, Option.some.injEq, Prod.mk.injEq, Value.bool.injEq, exists_eq_left', exists_and_left, and_assoc, decide_eq_true_eq, decide_eq_false_iff_not, if_true, if_false, Nat.zero_add, Nat.add_zero, Option.bind_some, true_and, and_true, forall_const, true_implies, Bool.not_eq_true, Bool.false_eq_true, false_implies, ite_self, Nat.mul_one, a1']
  refine read36 0 (by omega) a2 (by rw [h0, hz, List.take_take, List.drop_replicate, List.take_replicate]; rfl) ?_
  simp (decide := true) only [FT.get_set, FT.setL, faS_ptr, nilS_ptr, nilS_func, nilS_yield, pickS_bool, ldS_ptr, list_cells, list_ro, partS_none, lenSl_of, lenStr_of, cvInt_of, aminmax_max, aminmax_min, abin_add, abin_sub, abin_mul, abin_eql, abin_neq, abin_lss, abin_leq, abin_gtr, abin_geq, aunary_not, aextract, Option.some.injEq, Prod.mk.injEq, Value.bool.injEq, exists_eq_left', exists_and_left, and_assoc, decide_eq_true_eq, decide_eq_false_iff_not, if_true, if_false, Nat.zero_add, Nat.add_zero, Option.bind_some, true_and, and_true, forall_const, true_implies, Bool.not_eq_true, Bool.false_eq_true, false_implies, ite_self, Nat.mul_one, b1', b2.veq]
  refine read36 0 (by omega) b2 (by rw [h0, hz, List.take_take, List.drop_replicate, List.take_replicate]; rfl) ?_
  have fin : ∀ T, T.get 57 = .bool true → MWp Try.prog O 97 (.cond (.tmp 57) (.seq (.region 6 (ro 10 6) false) .ret) .skip) T S1 fun x T' S' => x = .ret ∧ T'.get 2 = .pointer none ∧ T'.get 3 = .int .i64 191 ∧ S' = S1 := by
    intro T hT
    refine m_cond (t := true) hT (fun _ => ?_) (fun h => by cases h)
    refine m_seq (m_reg ?_)
    rw [reg10_6]
    refine m_ret ?_
    simp [FT.get_set, FT.setL, faS_ptr, nilS_ptr, nilS_func, nilS_yield, pickS_bool, ldS_ptr, list_cells, list_ro, partS_none, lenSl_of, lenStr_of, cvInt_of, aminmax_max, aminmax_min, abin_add, abin_sub, abin_mul, abin_eql, abin_neq, abin_lss, abin_leq, abin_gtr, abin_geq, aunary_not, aextract]
  refine m_seq (m_seq (m_reg (g10_bad hI (by simp [FT.get_set, FT.setL, faS_ptr, nilS_ptr, nilS_func, nilS_yield, pickS_bool, ldS_ptr, list_cells, list_ro, partS_none, lenSl_of, lenStr_of, cvInt_of, aminmax_max, aminmax_min, abin_add, abin_sub, abin_mul, abin_eql, abin_neq, abin_lss, abin_leq, abin_gtr, abin_geq, aunary_not, aextract]) (by simp [FT.get_set, FT.setL, faS_ptr, nilS_ptr, nilS_func, nilS_yield, pickS_bool, ldS_ptr, list_cells, list_ro, partS_none, lenSl_of, lenStr_of, cvInt_of, aminmax_max, aminmax_min, abin_add, abin_sub, abin_mul, abin_eql, abin_neq, abin_lss, abin_leq, abin_gtr, abin_geq, aunary_not, aextract]) (by simp [FT.get_set, FT.setL, faS_ptr, nilS_ptr, nilS_func, nilS_yield, pickS_bool, ldS_ptr, list_cells, list_ro, partS_none, lenSl_of, lenStr_of, cvInt_of, aminmax_max, aminmax_min, abin_add, abin_sub, abin_mul, abin_eql, abin_neq, abin_lss, abin_leq, abin_gtr, abin_geq, aunary_not, aextract]) fun T' h57 => ?_)))
  refine (fin T' h57).mono ?_
  rintro x T2 S2 ⟨rfl, g2, g3, rfl⟩
  simp [resM, g2, g3, oneOrTuple]
  exact hq _ f1
end Go.Proofs.Ytmfmbadfgnhonaa

