/-
  The walk through the journal's code: what its functions do to memory, part MoJ9. Nothing is asked.
-/
import Derived.Test.YtmfmbadfgnhonaaMoJ8
set_option linter.all false
namespace Go.Proofs.Ytmfmbadfgnhonaa
open Go Go.Ag
set_option linter.unusedVariables false
set_option maxRecDepth 100000

theorem flat_drop (rs : List (List UInt8)) {k : Nat} {r : List UInt8} (h : rs[k]? = some r) : (rs.drop k).flatMap laid = laid r ++ (rs.drop (k + 1)).flatMap laid := by
  obtain ⟨h1, h2⟩ := List.getElem?_eq_some_iff.1 h
  rw [List.drop_eq_getElem_cons h1, h2, List.flatMap_cons]
theorem wsum_drop_le (rs : List (List UInt8)) (i : Nat) : wsum (rs.drop i) ≤ wsum rs := by
  conv => rhs; rw [← List.take_append_drop i rs, wsum_append]
  omega

/-- a record after another is told to a loop -/
theorem parts45 {box l : Nat} {v : Value} {rs : List (List UInt8)} (hsmall : wsum rs ≤ 400000) (J : Nat → MS → Prop) {S : MS} (h0 : J 0 S) (hb : S.m box = some (.cells [v] 0)) (hr : RB S v (rs.flatMap laid))
    (hst : ∀ k S S', J k S → (∀ x, x ≠ box → S'.m x = S.m x) → S'.n = S.n → J k S') (hnb : ¬ On v box)
    (step : ∀ k S r x, rs[k]? = some r → S.WF → J k S → RB S x r → (∀ y, On x y → On v y) → RoundM Try.prog O l [x] S fun v' S' => v' = .bool true ∧ J (k + 1) S' ∧ S'.m box = S.m box ∧ ∀ y, On v y → S'.m y = S.m y) :
    CallM Try.prog O 45 [.func (.yield l) #[] #[], .pointer (some ⟨box, 0, none⟩)] S fun _ S' => J rs.length S' := by
  refine callM_body (fnIs is45 body45 res45) (O_none (by decide)) (by simp) ?_
  unfold blk45_0
  refine m_block (m_loop (fun m T S' => ∃ (k : Nat) (w : Value), k + m = rs.length ∧ T.get 0 = .func (.yield l) #[] #[] ∧ T.get 1 = .pointer (some ⟨box, 0, none⟩) ∧ J k S' ∧ S'.m box = some (.cells [w] 0) ∧ RB S' w ((rs.drop k).flatMap laid) ∧ ∀ y, On w y → On v y) rs.length ?_ ?_)
  · exact ⟨0, v, by omega, by simp [FT.get_set, FT.setL, faS_ptr, nilS_ptr, nilS_func, nilS_yield, pickS_bool, ldS_ptr, list_cells, list_ro, partS_none, lenSl_of, lenStr_of, cvInt_of, aminmax_max, aminmax_min, abin_add, abin_sub, abin_mul, abin_eql, abin_neq, abin_lss, abin_leq, abin_gtr, abin_geq, aunary_not, aextract], by simp [FT.get_set, FT.setL, faS_ptr, nilS_ptr, nilS_func, nilS_yield, pickS_bool, ldS_ptr, list_cells, list_ro, partS_none, lenSl_of, lenStr_of, cvInt_of, aminmax_max, aminmax_min, abin_add, abin_sub, abin_mul, abin_eql, abin_neq, abin_lss, abin_leq, abin_gtr, abin_geq, aunary_not, aextract], h0, hb, hr, fun y h => h⟩
  · rintro m T S1 ⟨k, w, hk, t0, t1, hj, hbw, hrw, hon⟩
    refine m_wf fun wf1 => m_seq (m_seq (m_reg ?_))
    rw [reg45_0]
    have hl : ((rs.drop k).flatMap laid).length = wsum (rs.drop k) := flat_laid_len _
    have hle := wsum_drop_le rs k
    simp (decide := true) only [FT.get_set, FT.setL, faS_ptr, nilS_ptr, nilS_func, nilS_yield, pickS_bool, ldS_ptr, list_cells, list_ro, partS_none, lenSl_of, lenStr_of, cvInt_of, aminmax_max, aminmax_min, abin_add, abin_sub, abin_mul, abin_eql, abin_neq, abin_lss, abin_leq, abin_gtr, abin_geq, aunary_not, aextract, Option.some.injEq, Prod.mk.injEq, Value.bool.injEq, exists_eq_left', exists_and_left, and_assoc, decide_eq_true_eq, decide_eq_false_iff_not, if_true, if_false, Nat.zero_add, Nat.add_zero, Option.bind_some, true_and, and_true, forall_const, true_implies, Bool.not_eq_true, Bool.false_eq_true, false_implies, ite_self, Nat.mul_one, t1, list_of hbw, List.getElem?_cons_zero, hrw.len]
    refine m_cond (t := decide ((((rs.drop k).flatMap laid).length : Int) ≥ 8)) (by simp [evalT, FT.get_set, FT.setL, faS_ptr, nilS_ptr, nilS_func, nilS_yield, pickS_bool, ldS_ptr, list_cells, list_ro, partS_none, lenSl_of, lenStr_of, cvInt_of, aminmax_max, aminmax_min, abin_add, abin_sub, abin_mul, abin_eql, abin_neq, abin_lss, abin_leq, abin_gtr, abin_geq, aunary_not, aextract]) (fun h => m_skip ?_) (fun h => m_exit ?_)
    · have h8 : ((rs.drop k).flatMap laid).length ≥ 8 := by have := of_decide_eq_true h; omega
      have hlt : k < rs.length := by
        by_cases hlt : k < rs.length
        · exact hlt
        · rw [List.drop_of_length_le (by omega)] at h8; simp at h8
      obtain ⟨r, hri⟩ : ∃ r, rs[k]? = some r := ⟨_, List.getElem?_eq_getElem hlt⟩
      obtain ⟨rest, hrest⟩ : ∃ rest, rest = (rs.drop (k + 1)).flatMap laid := ⟨_, rfl⟩
      have hfd := flat_drop rs hri
      rw [← hrest] at hfd
      rw [hfd] at hrw hl
      have hll : (laid r ++ rest).length = 8 + r.length + rest.length := by rw [List.length_append, laid_len]; omega
      simp only
      unfold blk45_1
      refine m_block (m_seq (m_reg ?_))
      rw [reg45_1]
      obtain ⟨v8, a1, a2⟩ := hrw.sub (i := 0) (j := 8) (low := none) (high := some (.int .i64 ((8 : Nat) : Int))) (by omega) (by omega) (.inl ⟨rfl, rfl⟩) (.inr rfl)
      have a1' : slS 1 S1 w none (some (.int .i64 8)) none = some v8 := a1
      simp (decide := true) only [FT.get_set, FT.setL, faS_ptr, nilS_ptr, nilS_func, nilS_yield, pickS_bool, ldS_ptr, list_cells, list_ro, partS_none, lenSl_of, lenStr_of, cvInt_of, aminmax_max, aminmax_min, abin_add, abin_sub, abin_mul, abin_eql, abin_neq, abin_lss, abin_leq, abin_gtr, abin_geq, aunary_not, aextract, Option.some.injEq, Prod.mk.injEq, Value.bool.injEq, exists_eq_left', exists_and_left, and_assoc, decide_eq_true_eq, decide_eq_false_iff_not, if_true, if_false, Nat.zero_add, Nat.add_zero, Option.bind_some, true_and, and_true, forall_const, true_implies, Bool.not_eq_true, Bool.false_eq_true, false_implies, ite_self, Nat.mul_one, t1, list_of hbw, List.getElem?_cons_zero, a1']
      refine read36 r.length (by omega) a2 (by rw [List.drop_zero, Nat.sub_zero, List.take_take]; exact laid_head r rest) ?_
      refine m_seq (m_seq (m_reg ?_))
      rw [reg45_2]
      have hn0 : ¬ ((r.length : Int) < 0) := by omega
      have hw8 : IntKind.i64.wrap (((laid r ++ rest).length : Int) - 8) = (((laid r ++ rest).length - 8 : Nat) : Int) := by rw [wrap_i64 (by omega) (by omega)]; omega
      have hng : ¬ ((r.length : Int) > (((laid r ++ rest).length - 8 : Nat) : Int)) := by omega
      have hwa : IntKind.i64.wrap (8 + (r.length : Int)) = ((8 + r.length : Nat) : Int) := by rw [wrap_i64 (by omega) (by omega)]; rfl
      obtain ⟨x, b1, b2⟩ := hrw.sub3 (i := 8) (j := 8 + r.length) (low := some (.int .i64 ((8 : Nat) : Int))) (by omega) (by omega) (.inr rfl)
      have b1' : slS 1 S1 w (some (.int .i64 8)) (some (.int .i64 ((8 + r.length : Nat) : Int))) (some (.int .i64 ((8 + r.length : Nat) : Int))) = some x := b1
      rw [show 8 + r.length - 8 = r.length by omega, laid_body] at b2
      simp (decide := true) only [FT.get_set, FT.setL, faS_ptr, nilS_ptr, nilS_func, nilS_yield, pickS_bool, ldS_ptr, list_cells, list_ro, partS_none, lenSl_of, lenStr_of, cvInt_of, aminmax_max, aminmax_min, abin_add, abin_sub, abin_mul, abin_eql, abin_neq, abin_lss, abin_leq, abin_gtr, abin_geq, aunary_not, aextract, Option.some.injEq, Prod.mk.injEq, Value.bool.injEq, exists_eq_left', exists_and_left, and_assoc, decide_eq_true_eq, decide_eq_false_iff_not, if_true, if_false, Nat.zero_add, Nat.add_zero, Option.bind_some, true_and, and_true, forall_const, true_implies, Bool.not_eq_true, Bool.false_eq_true, false_implies, ite_self, Nat.mul_one, t0, t1, list_of hbw, List.getElem?_cons_zero, hn0, hw8, hng, hrw.len, hwa, b1', decide_false]
      refine (CallV.mono (f := .func (.yield l) #[] #[]) (args := [x]) (step k S1 r x hri wf1 hj b2 fun y hy => hon y (slS_on b1 hy)) ?_)
      rintro _ S2 ⟨rfl, hj2, hbx, hkeep⟩
      simp (decide := true) only [FT.get_set, FT.setL, faS_ptr, nilS_ptr, nilS_func, nilS_yield, pickS_bool, ldS_ptr, list_cells, list_ro, partS_none, lenSl_of, lenStr_of, cvInt_of, aminmax_max, aminmax_min, abin_add, abin_sub, abin_mul, abin_eql, abin_neq, abin_lss, abin_leq, abin_gtr, abin_geq, aunary_not, aextract, Option.some.injEq, Prod.mk.injEq, Value.bool.injEq, exists_eq_left', exists_and_left, and_assoc, decide_eq_true_eq, decide_eq_false_iff_not, if_true, if_false, Nat.zero_add, Nat.add_zero, Option.bind_some, true_and, and_true, forall_const, true_implies, Bool.not_eq_true, Bool.false_eq_true, false_implies, ite_self, Nat.mul_one, ]
      refine m_cond (t := false) (by simp [evalT, FT.get_set, FT.setL, faS_ptr, nilS_ptr, nilS_func, nilS_yield, pickS_bool, ldS_ptr, list_cells, list_ro, partS_none, lenSl_of, lenStr_of, cvInt_of, aminmax_max, aminmax_min, abin_add, abin_sub, abin_mul, abin_eql, abin_neq, abin_lss, abin_leq, abin_gtr, abin_geq, aunary_not, aextract]) (fun h => by cases h) (fun _ => m_skip ?_)
      simp only
      refine m_reg ?_
      rw [reg45_3]
      have hbw2 : S2.m box = some (.cells [w] 0) := hbx.trans hbw
      have hrw2 := hrw.keepOn fun y hy => hkeep y (hon y hy)
      obtain ⟨w2, c1, c2⟩ := hrw2.sub (i := 8 + r.length) (j := (laid r ++ rest).length) (low := some (.int .i64 ((8 + r.length : Nat) : Int))) (high := none) (by omega) (Nat.le_refl _) (.inr rfl) (.inl ⟨rfl, rfl⟩)
      rw [laid_rest, List.take_of_length_le (by omega)] at c2
      obtain ⟨S3, u1, u2, u3, u4⟩ := st_one (off := 0) (v := w2) hbw2 (by simp) c2.one.1 c2.one.2
      simp (decide := true) only [FT.get_set, FT.setL, faS_ptr, nilS_ptr, nilS_func, nilS_yield, pickS_bool, ldS_ptr, list_cells, list_ro, partS_none, lenSl_of, lenStr_of, cvInt_of, aminmax_max, aminmax_min, abin_add, abin_sub, abin_mul, abin_eql, abin_neq, abin_lss, abin_leq, abin_gtr, abin_geq, aunary_not, aextract, Option.some.injEq, Prod.mk.injEq, Value.bool.injEq, exists_eq_left', exists_and_left, and_assoc, decide_eq_true_eq, decide_eq_false_iff_not, if_true, if_false, Nat.zero_add, Nat.add_zero, Option.bind_some, true_and, and_true, forall_const, true_implies, Bool.not_eq_true, Bool.false_eq_true, false_implies, ite_self, Nat.mul_one, t0, t1, list_of hbw2, List.getElem?_cons_zero, hwa, c1]
      refine ⟨S3, u1, m - 1, by omega, k + 1, by omega, hst _ _ _ hj2 u4 u3, w2, u2, ?_, fun y hy => hon y (slS_on c1 hy)⟩
      rw [← hrest]
      refine c2.keepOn fun y hy => u4 y fun e => ?_
      subst e
      exact hnb (hon _ (slS_on c1 hy))
    · have hk2 : k = rs.length := by
        have h8 := of_decide_eq_false h
        by_cases hlt : k < rs.length
        · obtain ⟨r, hri⟩ : ∃ r, rs[k]? = some r := ⟨_, List.getElem?_eq_getElem hlt⟩
          rw [flat_drop rs hri, List.length_append, laid_len] at h8
          omega
        · omega
      subst hk2
      simp [resM]
      exact hj
end Go.Proofs.Ytmfmbadfgnhonaa
namespace Go.Proofs.Ytmfmbadfgnhonaa
open Go Go.Ag
set_option linter.unusedVariables false
set_option maxRecDepth 100000

theorem veq_ptr (a : Option Addr) : veq (.pointer a) (.pointer a) = true := by simp [veq, veq1]
theorem RB.veq {S : MS} {v : Value} {bs : List UInt8} (h : RB S v bs) : veq v v = true := by
  rcases h with ⟨rfl, _⟩ | ⟨rfl, _⟩ | ⟨b, off, cap, L, rfl, _⟩ <;> exact veq_slice _ _ _
theorem RB.sv {S : MS} {v : Value} {bs : List UInt8} (h : RB S v bs) : ∃ s : Sv, v = s.v := by
  rcases h with ⟨rfl, _⟩ | ⟨rfl, _⟩ | ⟨b, off, cap, L, rfl, _⟩ <;> exact ⟨⟨_, _, _⟩, rfl⟩

theorem headB_8 (h e : Nat) : (((headB h e).drop 8).take (256 - 8)).take 8 = num8 h := by
  unfold headB
  rw [List.take_take, List.append_assoc, List.append_assoc, List.drop_left' (num8_len _), List.take_left' (by rw [num8_len]; rfl)]
theorem headB_16 (h e : Nat) : (((headB h e).drop 16).take (256 - 16)).take 8 = num8 e := by
  unfold headB
  rw [List.take_take, List.append_assoc, List.drop_left' (by simp [num8_len]), List.take_left' (by rw [num8_len]; rfl)]

/-- a disk's blocks say: this base, these records -/
structure Says (n : Nat) (c : Nat → List UInt8) (half end' : Nat) (base : List UInt8) (rs : List (List UInt8)) : Prop where
  hh : half ≤ 1
  c0 : c 0 = headB half end'
  he : end' = liveN base rs
  le : end' ≤ (n - 1) / 2 * 256
  all : (catB c (placeN n half) ((end' + 255) / 256)).take end' = allB base rs

/-- an open journal: on this disk, with this base, these records -/
structure JJ (S : MS) (d : Nat) (D : DK) (j : Nat) (rv : Value) (half end' : Nat) (base : List UInt8) (rs : List (List UInt8)) (dead : Bool) : Prop where
  ex : ∃ bv tv rl, S.m j = some (.cells (jouL d half end' bv rv tv dead) 0) ∧ RB S bv base ∧ SlF svF 1 S 0 rv rl ∧ RBs S rl rs ∧ RB S tv ((allB base rs).drop (end' / 256 * 256)) ∧ ∀ y, On bv y ∨ On tv y ∨ (∃ x ∈ rl, On x.v y) → FrD S d D y ∧ y ≠ j ∧ Av rv y
  fj : FrD S d D j ∧ Av rv j
  frv : ∀ y, ¬ Av rv y → FrD S d D y
theorem JJ.isJ {S : MS} {d : Nat} {D : DK} {j : Nat} {rv : Value} {half end' : Nat} {base : List UInt8} {rs : List (List UInt8)} {dead : Bool} (h : JJ S d D j rv half end' base rs dead) : IsJ S j d 0 half end' base rs ((allB base rs).drop (end' / 256 * 256)) dead := by
  obtain ⟨bv, tv, rl, h1, h2, h3, h4, h5, h6⟩ := h.ex
  exact ⟨bv, rv, tv, rl, h1, h2, h3, h4, h5, h.fj.2⟩
/-- where the disk's other blocks stay, a journal stays -/
theorem JJ.keep {S S' : MS} {d : Nat} {D D' : DK} {j : Nat} {rv : Value} {half end' : Nat} {base : List UInt8} {rs : List (List UInt8)} {dead : Bool} (h : JJ S d D j rv half end' base rs dead) (hk : ∀ y, FrD S d D y → S'.m y = S.m y ∧ FrD S' d D' y) : JJ S' d D' j rv half end' base rs dead := by
  obtain ⟨bv, tv, rl, h1, h2, h3, h4, h5, h6⟩ := h.ex
  refine ⟨⟨bv, tv, rl, by rw [(hk j h.fj.1).1]; exact h1, h2.keepOn fun y hy => (hk y (h6 y (.inl hy)).1).1, h3.keep1 fun y k hy _ => (hk y (h.frv y hy)).1, ⟨h4.1, fun i x r hx hr => (h4.2 i x r hx hr).keepOn fun y hy => (hk y (h6 y (.inr (.inr ⟨x, List.mem_of_getElem? hx, hy⟩))).1).1⟩, h5.keepOn fun y hy => (hk y (h6 y (.inr (.inl hy))).1).1, fun y hy => ⟨(hk y (h6 y hy).1).2, (h6 y hy).2⟩⟩, ⟨(hk j h.fj.1).2, h.fj.2⟩, fun y hy => (hk y (h.frv y hy)).2⟩

theorem bd_j (d : Nat) (h e : Int) (t : Value) (ht : t.cells = #[t]) : bdS (fun i => [(0, 1), (1, 1), (2, 1), (3, 1), (4, 1), (5, 1), (6, 1)][i]?) [.pointer none, .int .i64 0, .int .i64 0, .slice none 0 0, .slice none 0 0, .slice none 0 0, .bool false] [(0, .pointer (some ⟨d, 0, none⟩)), (1, .int .i64 h), (2, .int .i64 e), (5, t)] = some (.agg (jouL d h e (.slice none 0 0) (.slice none 0 0) t false).toArray) := by
  simp [bdS, fillL, spliceL, ht, cells_int, cells_ptr, jouL]

/-- a first block as a fresh slice -/
theorem RB.block {S : MS} {b : Nat} {bs : List UInt8} {es : Nat} (h : S.m b = some (.cells (bL bs) es)) (hl : bs.length = 256) : RB S (.slice (some ⟨b, 0, none⟩) 256 256) bs :=
  .inr (.inr ⟨b, 0, 256, bL bs, by rw [hl], list_of h, by rw [bL_len]; omega, by rw [List.drop_zero, ← bL_len, List.take_length], by omega, .inl (by decide)⟩)

/-! ### the checks on the first block -/
theorem ff {p : Prop} (h : false = true) : p := by cases h
theorem tf {p : Prop} (h : true = false) : p := by cases h
theorem g10_ok {S : MS} {d : Nat} {D : DK} (wf : S.WF) (h : IsD S d D) (hn : 64 ≤ D.made.length ∧ D.made.length ≤ 2000) {T : FT} {v : Value} {half end' : Nat} (t0 : T.get 0 = .pointer (some ⟨d, 0, none⟩)) (t4 : T.get 4 = v) (t6 : T.get 6 = .int .i64 half) (t7 : T.get 7 = .int .i64 end') (hv : RB S v (headB half end')) (hh : half ≤ 1) (h8 : 8 ≤ end') (he : end' ≤ (D.made.length - 1) / 2 * 256) {Q : FT → MS → Prop} (hq : ∀ T' S', Old S S' → T'.get 0 = T.get 0 → T'.get 4 = T.get 4 → T'.get 6 = T.get 6 → T'.get 7 = T.get 7 → T'.get 57 = .bool false → Q T' S') : mOps Try.prog O 97 (ro 10 5).toList (ro 10 5).toList [] T S Q := by
  rw [reg10_5, t0, t4, t6, t7]
  have e1 : decide ((D.made.length : Int) < 64) = false := decide_eq_false (by omega)
  have e2 : decide ((half : Int) < 0) = false := decide_eq_false (by omega)
  have e3 : decide ((half : Int) > 1) = false := decide_eq_false (by omega)
  have e4 : decide ((end' : Int) < 8) = false := decide_eq_false (by omega)
  have e5 : decide ((end' : Int) > (((D.made.length - 1) / 2 * 256 : Nat) : Int)) = false := decide_eq_false (by omega)
  have w1 : IntKind.i64.wrap ((D.made.length : Int) - 1) = ((D.made.length - 1 : Nat) : Int) := by rw [wrap_i64 (by omega) (by omega)]; omega
  have w2 : ((D.made.length - 1 : Nat) : Int).tdiv 2 = (((D.made.length - 1) / 2 : Nat) : Int) := by rw [Int.tdiv_eq_ediv_of_nonneg (by omega)]; rfl
  have w3 : IntKind.i64.wrap (((D.made.length - 1) / 2 : Nat) : Int) = (((D.made.length - 1) / 2 : Nat) : Int) := wrap_i64 (by omega) (by omega)
  have w4 : IntKind.i64.wrap ((((D.made.length - 1) / 2 : Nat) : Int) * 256) = (((D.made.length - 1) / 2 * 256 : Nat) : Int) := by rw [wrap_i64 (by omega) (by omega)]; omega
  refine blocksD h ⟨.bool false, (abin_lss _ _ _ _ _ _ _).trans (by rw [e1]), false, rfl, ff, fun _ => ⟨.bool false, (abin_lss _ _ _ _ _ _ _).trans (by rw [e2]), .bool false, rfl, false, rfl, ff, fun _ => ⟨.bool false, (abin_gtr _ _ _ _ _ _ _).trans (by rw [e3]), .bool false, rfl, false, rfl, ff, fun _ => ⟨.bool false, (abin_lss _ _ _ _ _ _ _).trans (by rw [e4]), .bool false, rfl, false, rfl, ff, fun _ => blocksD h ⟨.int .i64 ((D.made.length - 1 : Nat) : Int), (abin_sub _ _ _ _ _ _ _).trans (by rw [w1]), .int .i64 (((D.made.length - 1) / 2 : Nat) : Int), (abin_quo _ _ _ _ _ _ _ (by decide)).trans (by rw [w2, w3]), .int .i64 (((D.made.length - 1) / 2 * 256 : Nat) : Int), (abin_mul _ _ _ _ _ _ _).trans (by rw [w4]), .bool false, (abin_gtr _ _ _ _ _ _ _).trans (by rw [e5]), .bool false, rfl, false, rfl, ff, fun _ => ?_⟩⟩⟩⟩⟩
  refine head34 half end' (by omega) (by omega) fun hv2 S2 f2 b2 => ?_
  refine equal37 (hv.keep wf f2.2) (RB.own b2) ⟨.bool false, rfl, .bool false, rfl, hq _ _ f2 ?_ ?_ ?_ ?_ ?_⟩
  · simp [FT.get_set, t0]
  · simp [FT.get_set, t4]
  · simp [FT.get_set, t6]
  · simp [FT.get_set, t7]
  · simp [FT.get_set]

end Go.Proofs.Ytmfmbadfgnhonaa

