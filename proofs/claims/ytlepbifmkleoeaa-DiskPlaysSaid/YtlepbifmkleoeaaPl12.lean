/-
  The walk through the disk's code, part 12: what its functions do to memory. Nothing is asked.
-/
import Derived.Test.YtlepbifmkleoeaaPl11
set_option linter.all false
namespace Go.Proofs.Ytlepbifmkleoeaa
open Go Go.Ag
set_option linter.unusedVariables false
set_option maxRecDepth 100000

noncomputable def cTail : Code := .seq (.seq (.region 46 (ro 3 46) false) (.cond (.tmp 155) (.seq (.region 47 (ro 3 47) false) .ret) .skip)) (.seq (.region 48 (ro 3 48) false) (.seq (.region 49 (ro 3 49) false) (.cond (.tmp 159) (.seq (.region 50 (ro 3 50) true) (.seq (.region 51 (ro 3 51) false) (.seq (.seq (.region 52 (ro 3 52) false) (.cond (.tmp 173) (.region 53 (ro 3 53) false) .skip)) (.region 54 (ro 3 54) false)))) .skip)))

section
variable {S : MS} {d : Nat} {D : DK} {n nowb momb : Nat} {rows : List Nat} {Mo : List (List (List Value))} {T : FT} {lv : Value} {left : Int} {cut : Bool} {ii : Nat} {sb : Nat} {what i nn fill : Int} {short : Bool}

/-- a write that is refused -/
theorem tail_err {bn : Nat} (hbn : bn ≤ 256) (wf : S.WF) (h : LInv S d D n nowb momb rows Mo) (e : EI T n lv d momb Mo.length nowb left cut ii) (r : Rel D left cut) (hsb : S.m sb = some (.cells (stepL what i nn fill short) 0)) (h13 : T.get 13 = .pointer (some ⟨sb, 0, none⟩)) {want : Int} (hw : want ≠ 0) (h15 : T.get 15 = .slice (some ⟨S.n, 0, none⟩) bn bn) (h16 : T.get 16 = .int .i64 want)
    (hcall : ∀ Q : Value → MS → Prop, Q (.int .i64 want) (S.fresh (blk fill bn) 1) → CallM Try.prog O 7 [.pointer (some ⟨d, 0, none⟩), .int .i64 i, .slice (some ⟨S.n, 0, none⟩) bn bn] (S.fresh (blk fill bn) 1) Q) :
    MWp Try.prog O 308 cTail T (S.fresh (blk fill bn) 1) (StepPost S d n nowb lv D ii) := by
  have f1 : ∀ x, x < S.n → (S.fresh (blk fill bn) 1).m x = S.m x := fun x hx => fresh_old _ _ _ (Nat.ne_of_lt hx)
  have hsb1 := (f1 sb (wf _ _ hsb)).trans hsb
  unfold cTail
  refine m_seq (m_seq (m_reg ?_))
  rw [reg3_46]
  simp (decide := true) only [FT.get_set, FT.setL, faS_ptr, nilS_ptr, nilS_func, nilS_yield, pickS_bool, ldS_ptr, list_cells, list_ro, partS_none, lenSl_of, lenStr_of, cvInt_of, aminmax_max, aminmax_min, abin_add, abin_sub, abin_mul, abin_eql, abin_neq, abin_lss, abin_leq, abin_gtr, abin_geq, aunary_not, aextract, Option.some.injEq, Prod.mk.injEq, Value.bool.injEq, exists_eq_left', exists_and_left, and_assoc, decide_eq_true_eq, decide_eq_false_iff_not, if_true, if_false, Nat.zero_add, Nat.add_zero, Option.bind_some, true_and, and_true, forall_const, true_implies, Bool.not_eq_true, Bool.false_eq_true, false_implies, ite_self, Nat.mul_one, e.g0, e.g1, e.g5, e.g7, e.g8, e.g10, e.g11, e.g12, h13, h15, h16, list_of hsb1, sl0, sl1, sl2, sl3, sl4]
  refine hcall _ ?_
  simp (decide := true) only [FT.get_set, FT.setL, faS_ptr, nilS_ptr, nilS_func, nilS_yield, pickS_bool, ldS_ptr, list_cells, list_ro, partS_none, lenSl_of, lenStr_of, cvInt_of, aminmax_max, aminmax_min, abin_add, abin_sub, abin_mul, abin_eql, abin_neq, abin_lss, abin_leq, abin_gtr, abin_geq, aunary_not, aextract, Option.some.injEq, Prod.mk.injEq, Value.bool.injEq, exists_eq_left', exists_and_left, and_assoc, decide_eq_true_eq, decide_eq_false_iff_not, if_true, if_false, Nat.zero_add, Nat.add_zero, Option.bind_some, true_and, and_true, forall_const, true_implies, Bool.not_eq_true, Bool.false_eq_true, false_implies, ite_self, Nat.mul_one, e.g0, e.g1, e.g5, e.g7, e.g8, e.g10, e.g11, e.g12, h16, bne_self_eq_false]
  refine m_cond (t := false) (by simp [evalT, FT.get_set, FT.setL, faS_ptr, nilS_ptr, nilS_func, nilS_yield, pickS_bool, ldS_ptr, list_cells, list_ro, partS_none, lenSl_of, lenStr_of, cvInt_of, aminmax_max, aminmax_min, abin_add, abin_sub, abin_mul, abin_eql, abin_neq, abin_lss, abin_leq, abin_gtr, abin_geq, aunary_not, aextract]) (fun h => by cases h) (fun _ => ?_)
  refine m_skip ?_
  simp only
  refine m_seq (m_reg ?_)
  rw [reg3_48]
  simp (decide := true) only [FT.get_set, FT.setL, faS_ptr, nilS_ptr, nilS_func, nilS_yield, pickS_bool, ldS_ptr, list_cells, list_ro, partS_none, lenSl_of, lenStr_of, cvInt_of, aminmax_max, aminmax_min, abin_add, abin_sub, abin_mul, abin_eql, abin_neq, abin_lss, abin_leq, abin_gtr, abin_geq, aunary_not, aextract, Option.some.injEq, Prod.mk.injEq, Value.bool.injEq, exists_eq_left', exists_and_left, and_assoc, decide_eq_true_eq, decide_eq_false_iff_not, if_true, if_false, Nat.zero_add, Nat.add_zero, Option.bind_some, true_and, and_true, forall_const, true_implies, Bool.not_eq_true, Bool.false_eq_true, false_implies, ite_self, Nat.mul_one, e.g0, e.g1, e.g5, e.g7, e.g8, e.g10, e.g11, e.g12, h15, h16]
  refine (spoil8 (fresh_at S (blk fill bn) 1) (by rw [blk_len]; omega) (by omega)).mono fun v S2 hv => ?_
  obtain ⟨hn2, hf2⟩ := hv
  have f2 : ∀ x, x < S.n → S2.m x = S.m x := fun x hx => by rw [hf2 x (Nat.ne_of_lt hx), f1 x hx]
  refine m_seq (m_reg ?_)
  rw [reg3_49]
  simp (decide := true) only [FT.get_set, FT.setL, faS_ptr, nilS_ptr, nilS_func, nilS_yield, pickS_bool, ldS_ptr, list_cells, list_ro, partS_none, lenSl_of, lenStr_of, cvInt_of, aminmax_max, aminmax_min, abin_add, abin_sub, abin_mul, abin_eql, abin_neq, abin_lss, abin_leq, abin_gtr, abin_geq, aunary_not, aextract, Option.some.injEq, Prod.mk.injEq, Value.bool.injEq, exists_eq_left', exists_and_left, and_assoc, decide_eq_true_eq, decide_eq_false_iff_not, if_true, if_false, Nat.zero_add, Nat.add_zero, Option.bind_some, true_and, and_true, forall_const, true_implies, Bool.not_eq_true, Bool.false_eq_true, false_implies, ite_self, Nat.mul_one, e.g0, e.g1, e.g5, e.g7, e.g8, e.g10, e.g11, e.g12, h15, h16]
  refine m_cond (t := false) (by simp [evalT, FT.get_set, FT.setL, faS_ptr, nilS_ptr, nilS_func, nilS_yield, pickS_bool, ldS_ptr, list_cells, list_ro, partS_none, lenSl_of, lenStr_of, cvInt_of, aminmax_max, aminmax_min, abin_add, abin_sub, abin_mul, abin_eql, abin_neq, abin_lss, abin_leq, abin_gtr, abin_geq, aunary_not, aextract, hw]) (fun h => by cases h) (fun _ => ?_)
  refine m_skip ?_
  have hk : Keeps S S2 KP := Keeps.of_old wf f2 _
  refine ⟨rfl, D, momb, rows, Mo, left, cut, h.frame (h.dk.keep fun x hx => ?_) rfl rfl rfl hk, ⟨by simp [FT.get_set, FT.setL, faS_ptr, nilS_ptr, nilS_func, nilS_yield, pickS_bool, ldS_ptr, list_cells, list_ro, partS_none, lenSl_of, lenStr_of, cvInt_of, aminmax_max, aminmax_min, abin_add, abin_sub, abin_mul, abin_eql, abin_neq, abin_lss, abin_leq, abin_gtr, abin_geq, aunary_not, aextract, e.g0, e.g1, e.g5, e.g7, e.g8, e.g10, e.g11, e.g12], by simp [FT.get_set, FT.setL, faS_ptr, nilS_ptr, nilS_func, nilS_yield, pickS_bool, ldS_ptr, list_cells, list_ro, partS_none, lenSl_of, lenStr_of, cvInt_of, aminmax_max, aminmax_min, abin_add, abin_sub, abin_mul, abin_eql, abin_neq, abin_lss, abin_leq, abin_gtr, abin_geq, aunary_not, aextract, e.g0, e.g1, e.g5, e.g7, e.g8, e.g10, e.g11, e.g12], by simp [FT.get_set, FT.setL, faS_ptr, nilS_ptr, nilS_func, nilS_yield, pickS_bool, ldS_ptr, list_cells, list_ro, partS_none, lenSl_of, lenStr_of, cvInt_of, aminmax_max, aminmax_min, abin_add, abin_sub, abin_mul, abin_eql, abin_neq, abin_lss, abin_leq, abin_gtr, abin_geq, aunary_not, aextract, e.g0, e.g1, e.g5, e.g7, e.g8, e.g10, e.g11, e.g12], by simp [FT.get_set, FT.setL, faS_ptr, nilS_ptr, nilS_func, nilS_yield, pickS_bool, ldS_ptr, list_cells, list_ro, partS_none, lenSl_of, lenStr_of, cvInt_of, aminmax_max, aminmax_min, abin_add, abin_sub, abin_mul, abin_eql, abin_neq, abin_lss, abin_leq, abin_gtr, abin_geq, aunary_not, aextract, e.g0, e.g1, e.g5, e.g7, e.g8, e.g10, e.g11, e.g12], by simp [FT.get_set, FT.setL, faS_ptr, nilS_ptr, nilS_func, nilS_yield, pickS_bool, ldS_ptr, list_cells, list_ro, partS_none, lenSl_of, lenStr_of, cvInt_of, aminmax_max, aminmax_min, abin_add, abin_sub, abin_mul, abin_eql, abin_neq, abin_lss, abin_leq, abin_gtr, abin_geq, aunary_not, aextract, e.g0, e.g1, e.g5, e.g7, e.g8, e.g10, e.g11, e.g12], by simp [FT.get_set, FT.setL, faS_ptr, nilS_ptr, nilS_func, nilS_yield, pickS_bool, ldS_ptr, list_cells, list_ro, partS_none, lenSl_of, lenStr_of, cvInt_of, aminmax_max, aminmax_min, abin_add, abin_sub, abin_mul, abin_eql, abin_neq, abin_lss, abin_leq, abin_gtr, abin_geq, aunary_not, aextract, e.g0, e.g1, e.g5, e.g7, e.g8, e.g10, e.g11, e.g12], by simp [FT.get_set, FT.setL, faS_ptr, nilS_ptr, nilS_func, nilS_yield, pickS_bool, ldS_ptr, list_cells, list_ro, partS_none, lenSl_of, lenStr_of, cvInt_of, aminmax_max, aminmax_min, abin_add, abin_sub, abin_mul, abin_eql, abin_neq, abin_lss, abin_leq, abin_gtr, abin_geq, aunary_not, aextract, e.g0, e.g1, e.g5, e.g7, e.g8, e.g10, e.g11, e.g12], by simp [FT.get_set, FT.setL, faS_ptr, nilS_ptr, nilS_func, nilS_yield, pickS_bool, ldS_ptr, list_cells, list_ro, partS_none, lenSl_of, lenStr_of, cvInt_of, aminmax_max, aminmax_min, abin_add, abin_sub, abin_mul, abin_eql, abin_neq, abin_lss, abin_leq, abin_gtr, abin_geq, aunary_not, aextract, e.g0, e.g1, e.g5, e.g7, e.g8, e.g10, e.g11, e.g12]⟩, r, Nat.le_succ _, fun x k hx h0 => hk x k hx (.inl (by omega))⟩
  rcases hx with rfl | rfl | rfl | ⟨hw, rfl⟩
  · exact f2 _ (wf _ _ h.dk.hd)
  · exact f2 _ (wf _ _ h.dk.hm)
  · exact f2 _ (wf _ _ h.dk.hn)
  · exact f2 _ (wf _ _ (h.dk.hw hw))

/-- a write that is done -/
theorem tail_ok (wf : S.WF) (h : LInv S d D n nowb momb rows Mo) (e : EI T n lv d momb Mo.length nowb left cut ii) (r : Rel D left cut) (hsb : S.m sb = some (.cells (stepL what i nn fill short) 0)) (h13 : T.get 13 = .pointer (some ⟨sb, 0, none⟩)) (h15 : T.get 15 = .slice (some ⟨S.n, 0, none⟩) 256 256) (h16 : T.get 16 = .int .i64 0)
    (hcut : D.cut = false) (h0 : 0 ≤ i) (hlt : i < n) (hws : D.ws.length < 100000) :
    MWp Try.prog O 308 cTail T (S.fresh (blk fill 256) 1) (StepPost S d n nowb lv D ii) := by
  obtain ⟨i, rfl⟩ := Int.eq_ofNat_of_zero_le h0
  have hb := byt_blk fill
  have f1 : ∀ x, x < S.n → (S.fresh (blk fill 256) 1).m x = S.m x := fun x hx => fresh_old _ _ _ (Nat.ne_of_lt hx)
  have hsb1 := (f1 sb (wf _ _ hsb)).trans hsb
  have hk1 : Keeps S (S.fresh (blk fill 256) 1) KP := Keeps.of_old wf f1 _
  have hd1 : IsD (S.fresh (blk fill 256) 1) d D := h.dk.keep fun x hx => by
    rcases hx with rfl | rfl | rfl | ⟨hw, rfl⟩
    · exact f1 _ (wf _ _ h.dk.hd)
    · exact f1 _ (wf _ _ h.dk.hm)
    · exact f1 _ (wf _ _ h.dk.hn)
    · exact f1 _ (wf _ _ (h.dk.hw hw))
  have hl1 := h.frame hd1 rfl rfl rfl hk1
  have hdn := h.dn
  unfold cTail
  refine m_wf fun wf1 => ?_
  refine m_seq (m_seq (m_reg ?_))
  rw [reg3_46]
  simp (decide := true) only [FT.get_set, FT.setL, faS_ptr, nilS_ptr, nilS_func, nilS_yield, pickS_bool, ldS_ptr, list_cells, list_ro, partS_none, lenSl_of, lenStr_of, cvInt_of, aminmax_max, aminmax_min, abin_add, abin_sub, abin_mul, abin_eql, abin_neq, abin_lss, abin_leq, abin_gtr, abin_geq, aunary_not, aextract, Option.some.injEq, Prod.mk.injEq, Value.bool.injEq, exists_eq_left', exists_and_left, and_assoc, decide_eq_true_eq, decide_eq_false_iff_not, if_true, if_false, Nat.zero_add, Nat.add_zero, Option.bind_some, true_and, and_true, forall_const, true_implies, Bool.not_eq_true, Bool.false_eq_true, false_implies, ite_self, Nat.mul_one, e.g0, e.g1, e.g5, e.g7, e.g8, e.g10, e.g11, e.g12, h13, h15, h16, list_of hsb1, sl0, sl1, sl2, sl3, sl4]
  refine writeD hd1 (i : Int) (list_of (fresh_at S (blk fill 256) 1)) (by rw [blk_len]; omega) hb.one (by omega) r.hb (fun hc => ?_) (fun _ hb => ?_) (fun _ _ _ hb => absurd rfl hb) ?_
  · rw [hcut] at hc; cases hc
  · exact absurd ⟨h0, by omega⟩ hb
  intro _ _ _ _ wb S2 hd2 hn2 ha2 hf2
  rw [Int.toNat_natCast] at hd2
  have hk2 := keeps_write hd1 wf1 (by rw [hdn]; exact h.h1) hf2
  have htk : (blk fill 256).take 256 = blk fill 256 := List.take_of_length_le (by rw [blk_len]; omega)
  rw [htk] at ha2
  have hbk2 : S2.m S.n = some (.cells (blk fill 256) 1) := by rw [hk2 S.n _ (fresh_at S _ _) (.inl (by rw [hb.kd1]; decide))]; exact fresh_at S _ _
  have hsb2 : S2.m sb = some (.cells (stepL what i nn fill short) 0) := by rw [hk2 sb _ hsb1 (.inl (by rw [kd_step]; decide))]; exact hsb1
  simp (decide := true) only [FT.get_set, FT.setL, faS_ptr, nilS_ptr, nilS_func, nilS_yield, pickS_bool, ldS_ptr, list_cells, list_ro, partS_none, lenSl_of, lenStr_of, cvInt_of, aminmax_max, aminmax_min, abin_add, abin_sub, abin_mul, abin_eql, abin_neq, abin_lss, abin_leq, abin_gtr, abin_geq, aunary_not, aextract, Option.some.injEq, Prod.mk.injEq, Value.bool.injEq, exists_eq_left', exists_and_left, and_assoc, decide_eq_true_eq, decide_eq_false_iff_not, if_true, if_false, Nat.zero_add, Nat.add_zero, Option.bind_some, true_and, and_true, forall_const, true_implies, Bool.not_eq_true, Bool.false_eq_true, false_implies, ite_self, Nat.mul_one, e.g0, e.g1, e.g5, e.g7, e.g8, e.g10, e.g11, e.g12, h16, bne_self_eq_false]
  refine m_cond (t := false) (by simp [evalT, FT.get_set, FT.setL, faS_ptr, nilS_ptr, nilS_func, nilS_yield, pickS_bool, ldS_ptr, list_cells, list_ro, partS_none, lenSl_of, lenStr_of, cvInt_of, aminmax_max, aminmax_min, abin_add, abin_sub, abin_mul, abin_eql, abin_neq, abin_lss, abin_leq, abin_gtr, abin_geq, aunary_not, aextract]) (fun h => by cases h) (fun _ => ?_)
  refine m_skip ?_
  simp only
  refine m_seq (m_reg ?_)
  rw [reg3_48]
  simp (decide := true) only [FT.get_set, FT.setL, faS_ptr, nilS_ptr, nilS_func, nilS_yield, pickS_bool, ldS_ptr, list_cells, list_ro, partS_none, lenSl_of, lenStr_of, cvInt_of, aminmax_max, aminmax_min, abin_add, abin_sub, abin_mul, abin_eql, abin_neq, abin_lss, abin_leq, abin_gtr, abin_geq, aunary_not, aextract, Option.some.injEq, Prod.mk.injEq, Value.bool.injEq, exists_eq_left', exists_and_left, and_assoc, decide_eq_true_eq, decide_eq_false_iff_not, if_true, if_false, Nat.zero_add, Nat.add_zero, Option.bind_some, true_and, and_true, forall_const, true_implies, Bool.not_eq_true, Bool.false_eq_true, false_implies, ite_self, Nat.mul_one, e.g0, e.g1, e.g5, e.g7, e.g8, e.g10, e.g11, e.g12, h15, h16]
  refine (spoil8 hbk2 (by rw [blk_len]; omega) (by omega)).mono fun v S3 hv => ?_
  obtain ⟨hn3, hf3⟩ := hv
  refine m_wf fun wf3 => ?_
  refine m_seq (m_reg ?_)
  rw [reg3_49]
  simp (decide := true) only [FT.get_set, FT.setL, faS_ptr, nilS_ptr, nilS_func, nilS_yield, pickS_bool, ldS_ptr, list_cells, list_ro, partS_none, lenSl_of, lenStr_of, cvInt_of, aminmax_max, aminmax_min, abin_add, abin_sub, abin_mul, abin_eql, abin_neq, abin_lss, abin_leq, abin_gtr, abin_geq, aunary_not, aextract, Option.some.injEq, Prod.mk.injEq, Value.bool.injEq, exists_eq_left', exists_and_left, and_assoc, decide_eq_true_eq, decide_eq_false_iff_not, if_true, if_false, Nat.zero_add, Nat.add_zero, Option.bind_some, true_and, and_true, forall_const, true_implies, Bool.not_eq_true, Bool.false_eq_true, false_implies, ite_self, Nat.mul_one, e.g0, e.g1, e.g5, e.g7, e.g8, e.g10, e.g11, e.g12, h15, h16]
  refine m_cond (t := true) (by simp [evalT, FT.get_set, FT.setL, faS_ptr, nilS_ptr, nilS_func, nilS_yield, pickS_bool, ldS_ptr, list_cells, list_ro, partS_none, lenSl_of, lenStr_of, cvInt_of, aminmax_max, aminmax_min, abin_add, abin_sub, abin_mul, abin_eql, abin_neq, abin_lss, abin_leq, abin_gtr, abin_geq, aunary_not, aextract]) (fun _ => ?_) (fun h => by cases h)
  -- from the old memory to this one
  have hnb : ∀ x k, S.m x = some k → x ≠ S.n := fun x k hx => Nat.ne_of_lt (wf x k hx)
  have hk3 : Keeps S S3 KP := fun x k hx hp => by
    rw [hf3 x (hnb x k hx), hk2 x k (by rw [f1 x (wf x k hx)]; exact hx) hp, f1 x (wf x k hx)]
  have hd3 : IsD S3 d (writeDK D i (S.n + 1) wb) := hd2.keep fun x hx => hf3 x (by
    rcases hx with rfl | rfl | rfl | ⟨hw, rfl⟩
    · exact ne_m hd2.hd hbk2 (fun q => by have := congrArg kd q; rw [kd_disk, hb.kd1] at this; cases this)
    · exact ne_m hd2.hm hbk2 (fun q => by have := congrArg kd q; rw [kd_ptr (by show 1 ≤ D.made.length; have := h.h1; omega), hb.kd1] at this; cases this)
    · exact ne_m hd2.hn hbk2 (fun q => by have := congrArg kd q; rw [kd_ptr (by rw [hd2.len]; show 1 ≤ D.made.length; have := h.h1; omega), hb.kd1] at this; cases this)
    · exact ne_m (hd2.hw hw) hbk2 (fun q => by have := congrArg kd q; rw [kd_ws, hb.kd1] at this; cases this))
  have ha3 : S3.m (S.n + 1) = some (.cells (blk fill 256) 0) := by rw [hf3 _ (by omega)]; exact ha2
  have hsb3 : S3.m sb = some (.cells (stepL what i nn fill short) 0) := by rw [hf3 sb (hnb _ _ hsb)]; exact hsb2
  refine m_assoc ?_
  refine m_seq ?_
  refine (law_adv (T := _) (lv := lv) (left := left) (cut := cut) (ii := ii) h hk3 wf3 (by rw [hn3]; simp only [fresh_n] at hn2; omega) (i := i) (by omega) hd3 ha3 hws hsb3 ⟨by simp [FT.get_set, FT.setL, faS_ptr, nilS_ptr, nilS_func, nilS_yield, pickS_bool, ldS_ptr, list_cells, list_ro, partS_none, lenSl_of, lenStr_of, cvInt_of, aminmax_max, aminmax_min, abin_add, abin_sub, abin_mul, abin_eql, abin_neq, abin_lss, abin_leq, abin_gtr, abin_geq, aunary_not, aextract, e.g0, e.g1, e.g5, e.g7, e.g8, e.g10, e.g11, e.g12], by simp [FT.get_set, FT.setL, faS_ptr, nilS_ptr, nilS_func, nilS_yield, pickS_bool, ldS_ptr, list_cells, list_ro, partS_none, lenSl_of, lenStr_of, cvInt_of, aminmax_max, aminmax_min, abin_add, abin_sub, abin_mul, abin_eql, abin_neq, abin_lss, abin_leq, abin_gtr, abin_geq, aunary_not, aextract, e.g0, e.g1, e.g5, e.g7, e.g8, e.g10, e.g11, e.g12], by simp [FT.get_set, FT.setL, faS_ptr, nilS_ptr, nilS_func, nilS_yield, pickS_bool, ldS_ptr, list_cells, list_ro, partS_none, lenSl_of, lenStr_of, cvInt_of, aminmax_max, aminmax_min, abin_add, abin_sub, abin_mul, abin_eql, abin_neq, abin_lss, abin_leq, abin_gtr, abin_geq, aunary_not, aextract, e.g0, e.g1, e.g5, e.g7, e.g8, e.g10, e.g11, e.g12], by simp [FT.get_set, FT.setL, faS_ptr, nilS_ptr, nilS_func, nilS_yield, pickS_bool, ldS_ptr, list_cells, list_ro, partS_none, lenSl_of, lenStr_of, cvInt_of, aminmax_max, aminmax_min, abin_add, abin_sub, abin_mul, abin_eql, abin_neq, abin_lss, abin_leq, abin_gtr, abin_geq, aunary_not, aextract, e.g0, e.g1, e.g5, e.g7, e.g8, e.g10, e.g11, e.g12], by simp [FT.get_set, FT.setL, faS_ptr, nilS_ptr, nilS_func, nilS_yield, pickS_bool, ldS_ptr, list_cells, list_ro, partS_none, lenSl_of, lenStr_of, cvInt_of, aminmax_max, aminmax_min, abin_add, abin_sub, abin_mul, abin_eql, abin_neq, abin_lss, abin_leq, abin_gtr, abin_geq, aunary_not, aextract, e.g0, e.g1, e.g5, e.g7, e.g8, e.g10, e.g11, e.g12], by simp [FT.get_set, FT.setL, faS_ptr, nilS_ptr, nilS_func, nilS_yield, pickS_bool, ldS_ptr, list_cells, list_ro, partS_none, lenSl_of, lenStr_of, cvInt_of, aminmax_max, aminmax_min, abin_add, abin_sub, abin_mul, abin_eql, abin_neq, abin_lss, abin_leq, abin_gtr, abin_geq, aunary_not, aextract, e.g0, e.g1, e.g5, e.g7, e.g8, e.g10, e.g11, e.g12], by simp [FT.get_set, FT.setL, faS_ptr, nilS_ptr, nilS_func, nilS_yield, pickS_bool, ldS_ptr, list_cells, list_ro, partS_none, lenSl_of, lenStr_of, cvInt_of, aminmax_max, aminmax_min, abin_add, abin_sub, abin_mul, abin_eql, abin_neq, abin_lss, abin_leq, abin_gtr, abin_geq, aunary_not, aextract, e.g0, e.g1, e.g5, e.g7, e.g8, e.g10, e.g11, e.g12], by simp [FT.get_set, FT.setL, faS_ptr, nilS_ptr, nilS_func, nilS_yield, pickS_bool, ldS_ptr, list_cells, list_ro, partS_none, lenSl_of, lenStr_of, cvInt_of, aminmax_max, aminmax_min, abin_add, abin_sub, abin_mul, abin_eql, abin_neq, abin_lss, abin_leq, abin_gtr, abin_geq, aunary_not, aextract, e.g0, e.g1, e.g5, e.g7, e.g8, e.g10, e.g11, e.g12]⟩ (by simp [FT.get_set, FT.setL, faS_ptr, nilS_ptr, nilS_func, nilS_yield, pickS_bool, ldS_ptr, list_cells, list_ro, partS_none, lenSl_of, lenStr_of, cvInt_of, aminmax_max, aminmax_min, abin_add, abin_sub, abin_mul, abin_eql, abin_neq, abin_lss, abin_leq, abin_gtr, abin_geq, aunary_not, aextract, h13])).mono ?_
  rintro x T4 S4 ⟨rfl, momb', r', c, hc, hl4, e4, hf4⟩
  simp only
  have hh := r.l
  have hz := r.z hcut
  refine m_seq (m_seq (m_reg ?_))
  rw [reg3_52]
  simp (decide := true) only [FT.get_set, FT.setL, faS_ptr, nilS_ptr, nilS_func, nilS_yield, pickS_bool, ldS_ptr, list_cells, list_ro, partS_none, lenSl_of, lenStr_of, cvInt_of, aminmax_max, aminmax_min, abin_add, abin_sub, abin_mul, abin_eql, abin_neq, abin_lss, abin_leq, abin_gtr, abin_geq, aunary_not, aextract, Option.some.injEq, Prod.mk.injEq, Value.bool.injEq, exists_eq_left', exists_and_left, and_assoc, decide_eq_true_eq, decide_eq_false_iff_not, if_true, if_false, Nat.zero_add, Nat.add_zero, Option.bind_some, true_and, and_true, forall_const, true_implies, Bool.not_eq_true, Bool.false_eq_true, false_implies, ite_self, Nat.mul_one, e4.g10]
  have fin : ∀ T5 left', EI T5 n lv d momb' (Mo.length + 1) nowb left' (left' == 0) ii → left' = (if D.halt > 0 then D.halt - 1 else -1) → StepPost S d n nowb lv D ii .normal T5 S4 := by
    intro T5 left' e5 hl
    refine ⟨rfl, writeDK D i (S.n + 1) wb, momb', _, _, left', _, hl4, by rw [List.length_append]; exact e5, ⟨?_, ?_, ?_, ?_⟩, by simp [writeDK], fun x k hx h0 => ?_⟩
    · simp only [writeDK]
      rw [hl]
      by_cases hp : D.halt > 0
      · rw [if_pos hp, if_pos hp]
      · rw [if_neg hp, if_neg hp, hcut]; rfl
    · simp only [writeDK]
      rw [hl]
      by_cases hp : D.halt > 0
      · rw [if_pos hp]; split <;> omega
      · rw [if_neg hp]; split <;> omega
    · simp only [writeDK]
      by_cases hp : D.halt > 0
      · rw [if_pos hp, if_pos hp]; intro q; simpa using q
      · rw [if_neg hp, if_neg hp]; intro _; exact hz
    · simp only [writeDK]; have := r.hb; split <;> omega
    · have hx3 := hk3 x k hx (.inl (by omega))
      rw [hf4 x k (by rw [hx3]; exact hx) h0, hx3]
  refine m_cond (t := decide (left > 0)) (by simp [evalT, FT.get_set, FT.setL, faS_ptr, nilS_ptr, nilS_func, nilS_yield, pickS_bool, ldS_ptr, list_cells, list_ro, partS_none, lenSl_of, lenStr_of, cvInt_of, aminmax_max, aminmax_min, abin_add, abin_sub, abin_mul, abin_eql, abin_neq, abin_lss, abin_leq, abin_gtr, abin_geq, aunary_not, aextract]) (fun hp => ?_) (fun hp => ?_)
  · have hp := of_decide_eq_true hp
    refine m_reg ?_
    rw [reg3_53]
    have hb := r.hb
    have hle : left = D.halt := by rw [hh] at hp ⊢; split <;> (split at hp <;> omega)
    simp (decide := true) only [FT.get_set, FT.setL, faS_ptr, nilS_ptr, nilS_func, nilS_yield, pickS_bool, ldS_ptr, list_cells, list_ro, partS_none, lenSl_of, lenStr_of, cvInt_of, aminmax_max, aminmax_min, abin_add, abin_sub, abin_mul, abin_eql, abin_neq, abin_lss, abin_leq, abin_gtr, abin_geq, aunary_not, aextract, Option.some.injEq, Prod.mk.injEq, Value.bool.injEq, exists_eq_left', exists_and_left, and_assoc, decide_eq_true_eq, decide_eq_false_iff_not, if_true, if_false, Nat.zero_add, Nat.add_zero, Option.bind_some, true_and, and_true, forall_const, true_implies, Bool.not_eq_true, Bool.false_eq_true, false_implies, ite_self, Nat.mul_one, e4.g10, wrap_i64' (n := left - 1) (by omega)]
    refine m_reg ?_
    rw [reg3_54]
    simp (decide := true) only [FT.get_set, FT.setL, faS_ptr, nilS_ptr, nilS_func, nilS_yield, pickS_bool, ldS_ptr, list_cells, list_ro, partS_none, lenSl_of, lenStr_of, cvInt_of, aminmax_max, aminmax_min, abin_add, abin_sub, abin_mul, abin_eql, abin_neq, abin_lss, abin_leq, abin_gtr, abin_geq, aunary_not, aextract, Option.some.injEq, Prod.mk.injEq, Value.bool.injEq, exists_eq_left', exists_and_left, and_assoc, decide_eq_true_eq, decide_eq_false_iff_not, if_true, if_false, Nat.zero_add, Nat.add_zero, Option.bind_some, true_and, and_true, forall_const, true_implies, Bool.not_eq_true, Bool.false_eq_true, false_implies, ite_self, Nat.mul_one, e4.g10]
    refine fin _ (left - 1) ⟨by simp [FT.get_set, FT.setL, faS_ptr, nilS_ptr, nilS_func, nilS_yield, pickS_bool, ldS_ptr, list_cells, list_ro, partS_none, lenSl_of, lenStr_of, cvInt_of, aminmax_max, aminmax_min, abin_add, abin_sub, abin_mul, abin_eql, abin_neq, abin_lss, abin_leq, abin_gtr, abin_geq, aunary_not, aextract, e4.g0], by simp [FT.get_set, FT.setL, faS_ptr, nilS_ptr, nilS_func, nilS_yield, pickS_bool, ldS_ptr, list_cells, list_ro, partS_none, lenSl_of, lenStr_of, cvInt_of, aminmax_max, aminmax_min, abin_add, abin_sub, abin_mul, abin_eql, abin_neq, abin_lss, abin_leq, abin_gtr, abin_geq, aunary_not, aextract, e4.g1], by simp [FT.get_set, FT.setL, faS_ptr, nilS_ptr, nilS_func, nilS_yield, pickS_bool, ldS_ptr, list_cells, list_ro, partS_none, lenSl_of, lenStr_of, cvInt_of, aminmax_max, aminmax_min, abin_add, abin_sub, abin_mul, abin_eql, abin_neq, abin_lss, abin_leq, abin_gtr, abin_geq, aunary_not, aextract, e4.g5], by simp [FT.get_set, FT.setL, faS_ptr, nilS_ptr, nilS_func, nilS_yield, pickS_bool, ldS_ptr, list_cells, list_ro, partS_none, lenSl_of, lenStr_of, cvInt_of, aminmax_max, aminmax_min, abin_add, abin_sub, abin_mul, abin_eql, abin_neq, abin_lss, abin_leq, abin_gtr, abin_geq, aunary_not, aextract, e4.g7], by simp [FT.get_set, FT.setL, faS_ptr, nilS_ptr, nilS_func, nilS_yield, pickS_bool, ldS_ptr, list_cells, list_ro, partS_none, lenSl_of, lenStr_of, cvInt_of, aminmax_max, aminmax_min, abin_add, abin_sub, abin_mul, abin_eql, abin_neq, abin_lss, abin_leq, abin_gtr, abin_geq, aunary_not, aextract, e4.g8], by simp [FT.get_set, FT.setL, faS_ptr, nilS_ptr, nilS_func, nilS_yield, pickS_bool, ldS_ptr, list_cells, list_ro, partS_none, lenSl_of, lenStr_of, cvInt_of, aminmax_max, aminmax_min, abin_add, abin_sub, abin_mul, abin_eql, abin_neq, abin_lss, abin_leq, abin_gtr, abin_geq, aunary_not, aextract], by simp [FT.get_set, FT.setL, faS_ptr, nilS_ptr, nilS_func, nilS_yield, pickS_bool, ldS_ptr, list_cells, list_ro, partS_none, lenSl_of, lenStr_of, cvInt_of, aminmax_max, aminmax_min, abin_add, abin_sub, abin_mul, abin_eql, abin_neq, abin_lss, abin_leq, abin_gtr, abin_geq, aunary_not, aextract], by simp [FT.get_set, FT.setL, faS_ptr, nilS_ptr, nilS_func, nilS_yield, pickS_bool, ldS_ptr, list_cells, list_ro, partS_none, lenSl_of, lenStr_of, cvInt_of, aminmax_max, aminmax_min, abin_add, abin_sub, abin_mul, abin_eql, abin_neq, abin_lss, abin_leq, abin_gtr, abin_geq, aunary_not, aextract, e4.g12]⟩ ?_
    rw [if_pos (by omega)]; omega
  · have hp := of_decide_eq_false hp
    refine m_skip ?_
    simp only
    refine m_reg ?_
    rw [reg3_54]
    simp (decide := true) only [FT.get_set, FT.setL, faS_ptr, nilS_ptr, nilS_func, nilS_yield, pickS_bool, ldS_ptr, list_cells, list_ro, partS_none, lenSl_of, lenStr_of, cvInt_of, aminmax_max, aminmax_min, abin_add, abin_sub, abin_mul, abin_eql, abin_neq, abin_lss, abin_leq, abin_gtr, abin_geq, aunary_not, aextract, Option.some.injEq, Prod.mk.injEq, Value.bool.injEq, exists_eq_left', exists_and_left, and_assoc, decide_eq_true_eq, decide_eq_false_iff_not, if_true, if_false, Nat.zero_add, Nat.add_zero, Option.bind_some, true_and, and_true, forall_const, true_implies, Bool.not_eq_true, Bool.false_eq_true, false_implies, ite_self, Nat.mul_one, e4.g10]
    refine fin _ left ⟨by simp [FT.get_set, FT.setL, faS_ptr, nilS_ptr, nilS_func, nilS_yield, pickS_bool, ldS_ptr, list_cells, list_ro, partS_none, lenSl_of, lenStr_of, cvInt_of, aminmax_max, aminmax_min, abin_add, abin_sub, abin_mul, abin_eql, abin_neq, abin_lss, abin_leq, abin_gtr, abin_geq, aunary_not, aextract, e4.g0], by simp [FT.get_set, FT.setL, faS_ptr, nilS_ptr, nilS_func, nilS_yield, pickS_bool, ldS_ptr, list_cells, list_ro, partS_none, lenSl_of, lenStr_of, cvInt_of, aminmax_max, aminmax_min, abin_add, abin_sub, abin_mul, abin_eql, abin_neq, abin_lss, abin_leq, abin_gtr, abin_geq, aunary_not, aextract, e4.g1], by simp [FT.get_set, FT.setL, faS_ptr, nilS_ptr, nilS_func, nilS_yield, pickS_bool, ldS_ptr, list_cells, list_ro, partS_none, lenSl_of, lenStr_of, cvInt_of, aminmax_max, aminmax_min, abin_add, abin_sub, abin_mul, abin_eql, abin_neq, abin_lss, abin_leq, abin_gtr, abin_geq, aunary_not, aextract, e4.g5], by simp [FT.get_set, FT.setL, faS_ptr, nilS_ptr, nilS_func, nilS_yield, pickS_bool, ldS_ptr, list_cells, list_ro, partS_none, lenSl_of, lenStr_of, cvInt_of, aminmax_max, aminmax_min, abin_add, abin_sub, abin_mul, abin_eql, abin_neq, abin_lss, abin_leq, abin_gtr, abin_geq, aunary_not, aextract, e4.g7], by simp [FT.get_set, FT.setL, faS_ptr, nilS_ptr, nilS_func, nilS_yield, pickS_bool, ldS_ptr, list_cells, list_ro, partS_none, lenSl_of, lenStr_of, cvInt_of, aminmax_max, aminmax_min, abin_add, abin_sub, abin_mul, abin_eql, abin_neq, abin_lss, abin_leq, abin_gtr, abin_geq, aunary_not, aextract, e4.g8], by simp [FT.get_set, FT.setL, faS_ptr, nilS_ptr, nilS_func, nilS_yield, pickS_bool, ldS_ptr, list_cells, list_ro, partS_none, lenSl_of, lenStr_of, cvInt_of, aminmax_max, aminmax_min, abin_add, abin_sub, abin_mul, abin_eql, abin_neq, abin_lss, abin_leq, abin_gtr, abin_geq, aunary_not, aextract, e4.g10], by simp [FT.get_set, FT.setL, faS_ptr, nilS_ptr, nilS_func, nilS_yield, pickS_bool, ldS_ptr, list_cells, list_ro, partS_none, lenSl_of, lenStr_of, cvInt_of, aminmax_max, aminmax_min, abin_add, abin_sub, abin_mul, abin_eql, abin_neq, abin_lss, abin_leq, abin_gtr, abin_geq, aunary_not, aextract], by simp [FT.get_set, FT.setL, faS_ptr, nilS_ptr, nilS_func, nilS_yield, pickS_bool, ldS_ptr, list_cells, list_ro, partS_none, lenSl_of, lenStr_of, cvInt_of, aminmax_max, aminmax_min, abin_add, abin_sub, abin_mul, abin_eql, abin_neq, abin_lss, abin_leq, abin_gtr, abin_geq, aunary_not, aextract, e4.g12]⟩ ?_
    rw [hh] at hp ⊢
    split <;> (split at hp <;> (try omega))
    all_goals (rw [if_neg (by omega)]; try omega)
end
end Go.Proofs.Ytlepbifmkleoeaa
