/-
  The walk through the disk's code, part 10: what its functions do to memory. Nothing is asked.
-/
import Derived.Test.YtlepbifmkleoeaaPl9
set_option linter.all false
namespace Go.Proofs.Ytlepbifmkleoeaa
open Go Go.Ag
set_option linter.unusedVariables false
set_option maxRecDepth 100000

structure EI (T : FT) (n : Nat) (lv : Value) (d momb m nowb : Nat) (left : Int) (cut : Bool) (i : Nat) : Prop where
  g0 : T.get 0 = .int .i64 n
  g1 : T.get 1 = lv
  g5 : T.get 5 = .pointer (some ⟨d, 0, none⟩)
  g7 : T.get 7 = .slice (some ⟨momb, 0, none⟩) m unk
  g8 : T.get 8 = .slice (some ⟨nowb, 0, none⟩) n n
  g10 : T.get 10 = .int .i64 left
  g11 : T.get 11 = .bool cut
  g12 : T.get 12 = .int .i64 i

/-- a step of the law's -/
def stepL (what i n fill : Int) (short : Bool) : List Value := [.int .i64 what, .int .i64 i, .int .i64 n, .int .u8 fill, .bool short]
theorem sl0 (w i n f : Int) (s : Bool) : (stepL w i n f s)[0]? = some (.int .i64 w) := rfl
theorem sl1 (w i n f : Int) (s : Bool) : (stepL w i n f s)[1]? = some (.int .i64 i) := rfl
theorem sl2 (w i n f : Int) (s : Bool) : (stepL w i n f s)[2]? = some (.int .i64 n) := rfl
theorem sl3 (w i n f : Int) (s : Bool) : (stepL w i n f s)[3]? = some (.int .u8 f) := rfl
theorem sl4 (w i n f : Int) (s : Bool) : (stepL w i n f s)[4]? = some (.bool s) := rfl
theorem kd_step (w i n f : Int) (s : Bool) : kd (.cells (stepL w i n f s) 0) = 0 := rfl

theorem veq_int (k : IntKind) (n : Int) : veq (.int k n) (.int k n) = true := by simp [veq, veq1]

def AdvPost (S1 : MS) (d : Nat) (D' : DK) (n nowb : Nat) (rows : List Nat) (Mo : List (List (List Value))) (j i : Nat) (cc : List Value) (lv : Value) (left : Int) (cut : Bool) (ii : Nat) (x : AExit) (T' : FT) (S' : MS) : Prop :=
  x = .normal ∧ ∃ momb' r c, Mo[j]? = some c ∧ LInv S' d D' n nowb momb' (rows ++ [r]) (Mo ++ [c.set i cc]) ∧ EI T' n lv d momb' (Mo.length + 1) nowb left cut ii ∧ (∀ x k, S1.m x = some k → kd k = 0 → S'.m x = S1.m x)

/-- the law's own books behind a write -/
theorem law_adv {S S1 : MS} {d : Nat} {D : DK} {n nowb momb : Nat} {rows : List Nat} {Mo : List (List (List Value))} (h : LInv S d D n nowb momb rows Mo) (hk : Keeps S S1 KP) (wf1 : S1.WF) (hsz : S.n ≤ S1.n) {i a wb : Nat} (hi : i < n) (hd1 : IsD S1 d (writeDK D i a wb))
    {fill : Int} (ha : S1.m a = some (.cells (blk fill 256) 0)) (hws : D.ws.length < 100000) {sb : Nat} {what nn : Int} {short : Bool} (hsb : S1.m sb = some (.cells (stepL what i nn fill short) 0)) {T : FT} {lv : Value} {left : Int} {cut : Bool} {ii : Nat} (e : EI T n lv d momb Mo.length nowb left cut ii) (h13 : T.get 13 = .pointer (some ⟨sb, 0, none⟩)) :
    MWp Try.prog O 308 (.seq (.region 50 (ro 3 50) true) (.region 51 (ro 3 51) false)) T S1 (AdvPost S1 d (writeDK D i a wb) n nowb rows Mo D.ws.length i (blk fill 256) lv left cut ii) := by
  obtain ⟨c, hc⟩ : ∃ c, Mo[D.ws.length]? = some c := ⟨_, List.getElem?_eq_getElem (by rw [h.ml]; omega)⟩
  have hcl := h.len _ c hc
  have hL1 : Keeps S S1 (· = 2) := fun x k a b => hk x k a (.inl (by simp only at b; omega))
  have hb := byt_blk fill
  -- now's row
  obtain ⟨al, al1, al2, al3⟩ := h.nw c hc
  have hnw1 : S1.m nowb = some (.cells (al.map bsl) 1) := by rw [hk nowb _ al2 (.inr (kd_row (by rw [al1, hcl]; exact h.h1)))]; exact al2
  have hmo1 : S1.m momb = some (.cells (rows.map (rsl n)) 1) := by rw [hk momb _ h.mom (.inr (kd_mom (by rw [h.rl, h.ml]; omega)))]; exact h.mom
  have hnlt := wf1 _ _ hnw1
  have hmlt := wf1 _ _ hmo1
  have hslt := wf1 _ _ hsb
  refine m_seq (m_draw ?_)
  rw [reg3_50]
  simp (decide := true) only [FT.get_set, FT.setL, faS_ptr, nilS_ptr, nilS_func, nilS_yield, pickS_bool, ldS_ptr, list_cells, list_ro, partS_none, lenSl_of, lenStr_of, cvInt_of, aminmax_max, aminmax_min, abin_add, abin_sub, abin_mul, abin_eql, abin_neq, abin_lss, abin_leq, abin_gtr, abin_geq, aunary_not, aextract, Option.some.injEq, Prod.mk.injEq, Value.bool.injEq, exists_eq_left', exists_and_left, and_assoc, decide_eq_true_eq, decide_eq_false_iff_not, if_true, if_false, Nat.zero_add, Nat.add_zero, Option.bind_some, true_and, and_true, forall_const, true_implies, Bool.not_eq_true, Bool.false_eq_true, false_implies, ite_self, Nat.mul_one, h13, list_of hsb, sl0, sl1, sl2, sl3, sl4, e.g8]
  refine (block6 (short := false) (n := 256) rfl).mono fun v S2 hv => ?_
  obtain ⟨rfl, rfl⟩ := hv
  have hsb2 := (fresh_old S1 (blk fill 256) 1 (Nat.ne_of_lt hslt)).trans hsb
  simp (decide := true) only [FT.get_set, FT.setL, faS_ptr, nilS_ptr, nilS_func, nilS_yield, pickS_bool, ldS_ptr, list_cells, list_ro, partS_none, lenSl_of, lenStr_of, cvInt_of, aminmax_max, aminmax_min, abin_add, abin_sub, abin_mul, abin_eql, abin_neq, abin_lss, abin_leq, abin_gtr, abin_geq, aunary_not, aextract, Option.some.injEq, Prod.mk.injEq, Value.bool.injEq, exists_eq_left', exists_and_left, and_assoc, decide_eq_true_eq, decide_eq_false_iff_not, if_true, if_false, Nat.zero_add, Nat.add_zero, Option.bind_some, true_and, and_true, forall_const, true_implies, Bool.not_eq_true, Bool.false_eq_true, false_implies, ite_self, Nat.mul_one, list_of hsb2, sl0, sl1, sl2, sl3, sl4, veq_int, iaSS_of (k := .i64) (i := (i : Int)) (by omega) (by omega : (i : Int) < (n : Int)), Int.toNat_natCast]
  have hnw2 := (fresh_old S1 (blk fill 256) 1 (Nat.ne_of_lt hnlt)).trans hnw1
  obtain ⟨S3, s1, s2, s3, s4⟩ := st_one (off := i) (v := bsl S1.n) hnw2 (by rw [List.length_map, al1, hcl]; exact hi) rfl rfl
  have hset : (al.map bsl).set i (bsl S1.n) = (al.set i S1.n).map bsl := by rw [List.map_set]
  rw [hset] at s2
  refine ⟨S3, s1, ?_⟩
  have hn3 : S3.n = S1.n + 1 := by rw [s3, fresh_n]
  -- the moments
  refine m_reg ?_
  rw [reg3_51]
  have hall : ∀ l : List Nat, (l.map bsl).all oneCell = true := fun l => by rw [List.all_eq_true]; intro v hv; obtain ⟨x, _, rfl⟩ := List.mem_map.1 hv; rfl
  have hal' : (al.set i S1.n).length = n := by rw [List.length_set, al1, hcl]
  have hf3 : firstCellsM S3 1 n (.slice (some ⟨nowb, 0, none⟩) n n) = some ((al.set i S1.n).map bsl) := by
    rw [first_of (list_of s2) (Nat.le_refl _) (by have := h.h1; omega) (by rw [List.length_map, hal']; omega)]
    simp only [List.drop_zero, Nat.mul_one]
    rw [List.take_of_length_le (by rw [List.length_map, hal']; omega)]
  have hap := apS_nil (bytes := 24) (z := [.slice none 0 0]) (x := .slice (some ⟨nowb, 0, none⟩) n n) (n := n) rfl hf3 (by rw [List.length_map, hal']; omega) (hall _) (by have := h.h1; omega) (by have := h.h20; omega) (by have := h.h20; omega)
  simp (decide := true) only [FT.get_set, FT.setL, faS_ptr, nilS_ptr, nilS_func, nilS_yield, pickS_bool, ldS_ptr, list_cells, list_ro, partS_none, lenSl_of, lenStr_of, cvInt_of, aminmax_max, aminmax_min, abin_add, abin_sub, abin_mul, abin_eql, abin_neq, abin_lss, abin_leq, abin_gtr, abin_geq, aunary_not, aextract, Option.some.injEq, Prod.mk.injEq, Value.bool.injEq, exists_eq_left', exists_and_left, and_assoc, decide_eq_true_eq, decide_eq_false_iff_not, if_true, if_false, Nat.zero_add, Nat.add_zero, Option.bind_some, true_and, and_true, forall_const, true_implies, Bool.not_eq_true, Bool.false_eq_true, false_implies, ite_self, Nat.mul_one, e.g7, e.g8, hap, bsS_one _ 1 [.slice none 0 0] (.slice (some ⟨S3.n, 0, none⟩) n unk) rfl rfl]
  have hnm := h.nm
  have hmo3 : S3.m momb = some (.cells (rows.map (rsl n)) 1) := by rw [s4 _ (Ne.symm hnm), fresh_old _ _ _ (Nat.ne_of_lt hmlt)]; exact hmo1
  have hmo5 : ((S3.fresh ((al.set i S1.n).map bsl) 1).fresh (Value.cells (.slice (some ⟨S3.n, 0, none⟩) n unk)).toList 1).m momb = some (.cells (rows.map (rsl n)) 1) := by
    rw [fresh_old _ _ _ (by rw [fresh_n]; omega), fresh_old _ _ _ (by omega)]; exact hmo3
  have hf5 : firstCellsM ((S3.fresh ((al.set i S1.n).map bsl) 1).fresh (Value.cells (.slice (some ⟨S3.n, 0, none⟩) n unk)).toList 1) 1 1 (.slice (some ⟨(S3.fresh ((al.set i S1.n).map bsl) 1).n, 0, none⟩) 1 1) = some [rsl n S3.n] := by
    rw [first_of (list_of (fresh_at _ _ _)) (by decide) (by decide) (by simp [cells_slice])]; rfl
  have hgr := apS_grow (bytes := 24) (z := [.slice none 0 0]) hmo5 (len := Mo.length) (by rw [List.length_map, h.rl]; omega) (x := .slice (some ⟨(S3.fresh ((al.set i S1.n).map bsl) 1).n, 0, none⟩) 1 1) (n := 1) rfl hf5 rfl rfl (by decide) (by decide) (by rw [h.ml]; omega) (by rw [h.ml]; omega)
  rw [hgr]
  simp only [Option.some.injEq, Prod.mk.injEq]
  refine ⟨_, _, ⟨rfl, rfl⟩, ?_⟩
  -- all together
  have hnn : (((S3.fresh ((al.set i S1.n).map bsl) 1).fresh (Value.cells (.slice (some ⟨S3.n, 0, none⟩) n unk)).toList 1).del momb).n = S3.n + 2 := rfl
  have old : ∀ x, x < S1.n → x ≠ nowb → x ≠ momb → ((((S3.fresh ((al.set i S1.n).map bsl) 1).fresh (Value.cells (.slice (some ⟨S3.n, 0, none⟩) n unk)).toList 1).del momb).fresh (rows.map (rsl n) ++ [rsl n S3.n]) 1).m x = S1.m x := by
    intro x hx h1 h2
    rw [fresh_old _ _ _ (by rw [hnn]; omega), del_old _ h2, fresh_old _ _ _ (by rw [fresh_n]; omega), fresh_old _ _ _ (by omega), s4 x h1, fresh_old _ _ _ (Nat.ne_of_lt hx)]
  have newb : ((((S3.fresh ((al.set i S1.n).map bsl) 1).fresh (Value.cells (.slice (some ⟨S3.n, 0, none⟩) n unk)).toList 1).del momb).fresh (rows.map (rsl n) ++ [rsl n S3.n]) 1).m S1.n = some (.cells (blk fill 256) 1) := by
    rw [fresh_old _ _ _ (by rw [hnn]; omega), del_old _ (by omega), fresh_old _ _ _ (by rw [fresh_n]; omega), fresh_old _ _ _ (by omega), s4 _ (by omega), fresh_at]
  have nown : ((((S3.fresh ((al.set i S1.n).map bsl) 1).fresh (Value.cells (.slice (some ⟨S3.n, 0, none⟩) n unk)).toList 1).del momb).fresh (rows.map (rsl n) ++ [rsl n S3.n]) 1).m nowb = some (.cells ((al.set i S1.n).map bsl) 1) := by
    rw [fresh_old _ _ _ (by rw [hnn]; omega), del_old _ hnm, fresh_old _ _ _ (by rw [fresh_n]; omega), fresh_old _ _ _ (by omega)]; exact s2
  have rown : ((((S3.fresh ((al.set i S1.n).map bsl) 1).fresh (Value.cells (.slice (some ⟨S3.n, 0, none⟩) n unk)).toList 1).del momb).fresh (rows.map (rsl n) ++ [rsl n S3.n]) 1).m S3.n = some (.cells ((al.set i S1.n).map bsl) 1) := by
    rw [fresh_old _ _ _ (by rw [hnn]; omega), del_old _ (by omega), fresh_old _ _ _ (by rw [fresh_n]; omega), fresh_at]
  have momn := fresh_at (((S3.fresh ((al.set i S1.n).map bsl) 1).fresh (Value.cells (.slice (some ⟨S3.n, 0, none⟩) n unk)).toList 1).del momb) (rows.map (rsl n) ++ [rsl n S3.n]) 1
  rw [hnn] at momn
  have mom' : ((S3.fresh ((al.set i S1.n).map bsl) 1).fresh (Value.cells (.slice (some ⟨S3.n, 0, none⟩) n unk)).toList 1).n = S3.n + 2 := rfl
  generalize hS6 : (((S3.fresh ((al.set i S1.n).map bsl) 1).fresh (Value.cells (.slice (some ⟨S3.n, 0, none⟩) n unk)).toList 1).del momb).fresh (rows.map (rsl n) ++ [rsl n S3.n]) 1 = S6 at old newb nown rown momn ⊢
  -- bytes and arrays stay
  have kp : ∀ x k, S1.m x = some k → (kd k = 0 ∨ kd k = 1 ∨ kd k = 2) → S6.m x = S1.m x := by
    intro x k hx hp
    refine old x (wf1 _ _ hx) (ne_kd hx hnw1 ?_) (ne_kd hx hmo1 ?_)
    · rw [kd_row (by rw [al1, hcl]; exact h.h1)]; omega
    · rw [kd_mom (by rw [h.rl, h.ml]; omega)]; omega
  have k1 : Keeps S1 S6 (· = 1) := fun x k a b => kp x k a (.inr (.inl b))
  have k2 : Keeps S1 S6 (· = 2) := fun x k a b => kp x k a (.inr (.inr b))
  have nowrow : RowIs S6 nowb (c.set i (blk fill 256)) ∧ RowIs S6 S3.n (c.set i (blk fill 256)) := by
    have cells : ∀ (k : Nat) x cc, (al.set i S1.n)[k]? = some x → (c.set i (blk fill 256))[k]? = some cc → S6.m x = some (.cells cc 1) ∧ Byt cc := by
      intro k x cc hx hcc
      rw [List.getElem?_set] at hx hcc
      by_cases ek : i = k
      · subst ek
        rw [if_pos rfl, if_pos (by omega)] at hx hcc
        cases hx; cases hcc
        exact ⟨newb, hb⟩
      · rw [if_neg ek] at hx hcc
        obtain ⟨g1, g2⟩ := al3 k x cc hx hcc
        refine ⟨?_, g2⟩
        have g3 : S1.m x = some (.cells cc 1) := by rw [hL1 x _ g1 g2.kd1]; exact g1
        rw [k2 x _ g3 g2.kd1]; exact g3
    exact ⟨⟨_, by simp [al1], nown, cells⟩, ⟨_, by simp [al1], rown, cells⟩⟩
  refine ⟨rfl, S3.n + 2, S3.n, c, hc, ⟨?_, h.dn, h.h1, h.h20, ?_, ?_, ?_, ?_, ?_, ?_, ?_, ?_, ?_, ?_, ?_⟩, ⟨by simp [FT.get_set, FT.setL, faS_ptr, nilS_ptr, nilS_func, nilS_yield, pickS_bool, ldS_ptr, list_cells, list_ro, partS_none, lenSl_of, lenStr_of, cvInt_of, aminmax_max, aminmax_min, abin_add, abin_sub, abin_mul, abin_eql, abin_neq, abin_lss, abin_leq, abin_gtr, abin_geq, aunary_not, aextract, e.g0], by simp [FT.get_set, FT.setL, faS_ptr, nilS_ptr, nilS_func, nilS_yield, pickS_bool, ldS_ptr, list_cells, list_ro, partS_none, lenSl_of, lenStr_of, cvInt_of, aminmax_max, aminmax_min, abin_add, abin_sub, abin_mul, abin_eql, abin_neq, abin_lss, abin_leq, abin_gtr, abin_geq, aunary_not, aextract, e.g1], by simp [FT.get_set, FT.setL, faS_ptr, nilS_ptr, nilS_func, nilS_yield, pickS_bool, ldS_ptr, list_cells, list_ro, partS_none, lenSl_of, lenStr_of, cvInt_of, aminmax_max, aminmax_min, abin_add, abin_sub, abin_mul, abin_eql, abin_neq, abin_lss, abin_leq, abin_gtr, abin_geq, aunary_not, aextract, e.g5], by simp [FT.get_set, FT.setL, faS_ptr, nilS_ptr, nilS_func, nilS_yield, pickS_bool, ldS_ptr, list_cells, list_ro, partS_none, lenSl_of, lenStr_of, cvInt_of, aminmax_max, aminmax_min, abin_add, abin_sub, abin_mul, abin_eql, abin_neq, abin_lss, abin_leq, abin_gtr, abin_geq, aunary_not, aextract]; rfl, by simp [FT.get_set, FT.setL, faS_ptr, nilS_ptr, nilS_func, nilS_yield, pickS_bool, ldS_ptr, list_cells, list_ro, partS_none, lenSl_of, lenStr_of, cvInt_of, aminmax_max, aminmax_min, abin_add, abin_sub, abin_mul, abin_eql, abin_neq, abin_lss, abin_leq, abin_gtr, abin_geq, aunary_not, aextract, e.g8], by simp [FT.get_set, FT.setL, faS_ptr, nilS_ptr, nilS_func, nilS_yield, pickS_bool, ldS_ptr, list_cells, list_ro, partS_none, lenSl_of, lenStr_of, cvInt_of, aminmax_max, aminmax_min, abin_add, abin_sub, abin_mul, abin_eql, abin_neq, abin_lss, abin_leq, abin_gtr, abin_geq, aunary_not, aextract, e.g10], by simp [FT.get_set, FT.setL, faS_ptr, nilS_ptr, nilS_func, nilS_yield, pickS_bool, ldS_ptr, list_cells, list_ro, partS_none, lenSl_of, lenStr_of, cvInt_of, aminmax_max, aminmax_min, abin_add, abin_sub, abin_mul, abin_eql, abin_neq, abin_lss, abin_leq, abin_gtr, abin_geq, aunary_not, aextract, e.g11], by simp [FT.get_set, FT.setL, faS_ptr, nilS_ptr, nilS_func, nilS_yield, pickS_bool, ldS_ptr, list_cells, list_ro, partS_none, lenSl_of, lenStr_of, cvInt_of, aminmax_max, aminmax_min, abin_add, abin_sub, abin_mul, abin_eql, abin_neq, abin_lss, abin_leq, abin_gtr, abin_geq, aunary_not, aextract, e.g12]⟩, fun x k a b => kp x k a (.inl b)⟩
  · refine hd1.keep fun x hx => ?_
    have hnk : kd (.cells (al.map bsl) 1) = 6 := kd_row (by rw [al1, hcl]; exact h.h1)
    have hmk : kd (.cells (rows.map (rsl n)) 1) = 6 := kd_mom (by rw [h.rl, h.ml]; omega)
    have h1 := h.h1
    have hdn := h.dn
    rcases hx with rfl | rfl | rfl | ⟨hw, rfl⟩
    · exact old _ (wf1 _ _ hd1.hd) (ne_kd hd1.hd hnw1 (by rw [kd_disk, hnk]; decide)) (ne_kd hd1.hd hmo1 (by rw [kd_disk, hmk]; decide))
    · exact old _ (wf1 _ _ hd1.hm) (ne_kd hd1.hm hnw1 (by rw [kd_ptr (by show 1 ≤ D.made.length; omega), hnk]; decide)) (ne_kd hd1.hm hmo1 (by rw [kd_ptr (by show 1 ≤ D.made.length; omega), hmk]; decide))
    · have hl : 1 ≤ (writeDK D i a wb).now.length := by rw [hd1.len]; show 1 ≤ D.made.length; omega
      exact old _ (wf1 _ _ hd1.hn) (ne_kd hd1.hn hnw1 (by rw [kd_ptr hl, hnk]; decide)) (ne_kd hd1.hn hmo1 (by rw [kd_ptr hl, hmk]; decide))
    · exact old _ (wf1 _ _ (hd1.hw hw)) (ne_kd (hd1.hw hw) hnw1 (by rw [kd_ws, hnk]; decide)) (ne_kd (hd1.hw hw) hmo1 (by rw [kd_ws, hmk]; decide))
  · show D.now.set i (some a) = applyW D.made (D.ws ++ [(i, a)])
    rw [h.now]
    simp [applyW]
  · intro w hw
    rcases List.mem_append.1 hw with hw | hw
    · exact h.idx w hw
    · simp at hw; subst hw; exact hi
  · simp [writeDK, h.ml]
  · simp [h.rl]
  · intro j c' hc'
    rw [List.getElem?_append] at hc'
    split at hc'
    · exact h.len j c' hc'
    · rename_i hj
      have : j = Mo.length := by have := (List.getElem?_eq_some_iff.1 hc').1; simp at this; omega
      subst this
      simp at hc'; subst hc'; simp [hcl]
  · intro j c' hc' k cc o hcc ho
    have hka : ∀ o cc, CB S o cc → CB S6 o cc := fun o cc hcb => (hcb.keep (fun x k a b => hk x k a (.inl (by simp only at b; omega)))).keep k1
    rw [List.getElem?_append] at hc'
    split at hc'
    · rename_i hj
      have ht : (D.ws ++ [(i, a)]).take j = D.ws.take j := by rw [List.take_append_of_le_length (by rw [h.ml] at hj; omega)]
      have ho' : (applyW D.made ((D.ws ++ [(i, a)]).take j))[k]? = some o := ho
      rw [ht] at ho'
      exact hka _ _ (h.arr j c' hc' k cc o hcc ho')
    · rename_i hj
      have : j = Mo.length := by have := (List.getElem?_eq_some_iff.1 hc').1; simp at this; omega
      subst this
      simp at hc'; subst hc'
      have ho' : (applyW D.made ((D.ws ++ [(i, a)]).take Mo.length))[k]? = some o := ho
      rw [List.take_of_length_le (by simp [h.ml]), show applyW D.made (D.ws ++ [(i, a)]) = (applyW D.made D.ws).set i (some a) by simp [applyW]] at ho'
      rw [List.getElem?_set] at hcc ho'
      by_cases ek : i = k
      · subst ek
        rw [if_pos rfl, if_pos (by omega)] at hcc
        rw [if_pos rfl, if_pos (by rw [applyW_len, h.dn]; exact hi)] at ho'
        cases hcc; cases ho'
        exact ⟨hb, by simp only; rw [k1 a _ ha hb.kd0]; exact ha⟩
      · rw [if_neg ek] at hcc ho'
        refine hka _ _ (h.arr D.ws.length c hc k cc o hcc ?_)
        rw [List.take_of_length_le (Nat.le_refl _)]; exact ho'
  · rw [List.map_append]; exact momn
  · intro j r c' hr hc'
    rw [List.getElem?_append] at hr hc'
    rw [h.rl] at hr
    split at hc'
    · rename_i hj
      rw [if_pos hj] at hr
      have hrow := h.row j r c' hr hc'
      have hcl' := h.len j c' hc'
      obtain ⟨bl, b1, b2, _⟩ := id hrow
      have hb2' : S1.m r = some (.cells (bl.map bsl) 1) := by rw [hk r _ b2 (.inr (kd_row (by rw [b1, hcl']; exact h.h1)))]; exact b2
      have hr1 : RowIs S1 r c' := hrow.keep (by rw [hb2', b2]) hL1
      obtain ⟨n1, n2⟩ := h.rn r (List.mem_of_getElem? hr)
      exact hr1.keep (old r (wf1 _ _ hb2') n1 n2) k2
    · rename_i hj
      rw [if_neg hj] at hr
      have : j = Mo.length := by have := (List.getElem?_eq_some_iff.1 hc').1; simp at this; omega
      subst this
      simp at hr hc'; subst hr; subst hc'
      exact nowrow.2
  · intro c' hc'
    have e1 : (Mo ++ [c.set i (blk fill 256)])[(writeDK D i a wb).ws.length]? = some (c.set i (blk fill 256)) := by
      simp [writeDK, ← h.ml]
    rw [e1] at hc'; cases hc'
    exact nowrow.1
  · omega
  · intro r hr
    rcases List.mem_append.1 hr with hr | hr
    · obtain ⟨n1, n2⟩ := h.rn r hr
      obtain ⟨j, hj⟩ := List.getElem?_of_mem hr
      have hjl : j < Mo.length := by rw [← h.rl]; exact (List.getElem?_eq_some_iff.1 hj).1
      obtain ⟨c', hc'⟩ : ∃ c, Mo[j]? = some c := ⟨_, List.getElem?_eq_getElem hjl⟩
      obtain ⟨bl, b1, b2, _⟩ := h.row j r c' hj hc'
      have hb2' : S1.m r = some (.cells (bl.map bsl) 1) := by rw [hk r _ b2 (.inr (kd_row (by rw [b1, h.len j c' hc']; exact h.h1)))]; exact b2
      have := wf1 _ _ hb2'
      exact ⟨n1, by omega⟩
    · simp at hr; subst hr; exact ⟨by omega, by omega⟩
end Go.Proofs.Ytlepbifmkleoeaa
