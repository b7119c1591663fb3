/-
  The walk through the disk's code, part 17: what its functions do to memory. Nothing is asked.
-/
import Derived.Test.YtlepbifmkleoeaaPl16
set_option linter.all false
namespace Go.Proofs.Ytlepbifmkleoeaa
open Go Go.Ag
set_option linter.unusedVariables false
set_option maxRecDepth 100000

structure ER (T : FT) (n : Nat) (lv : Value) (d nowb : Nat) (k : Nat) : Prop where
  g0 : T.get 0 = .int .i64 n
  g1 : T.get 1 = lv
  g5 : T.get 5 = .pointer (some ⟨d, 0, none⟩)
  g7 : T.get 7 = .slice none 0 0
  g8 : T.get 8 = .slice (some ⟨nowb, 0, none⟩) n n
  g9 : T.get 9 = .int .i64 k

def zb : List Value := List.replicate 256 (.int .u8 0)
def RL (S0 : MS) (n nowb : Nat) (al : List Nat) (S' : MS) : Prop :=
  S'.m nowb = some (.cells (al.map bsl ++ List.replicate (n - al.length) (.slice none 0 0)) 1) ∧ (∀ a ∈ al, S0.n ≤ a ∧ S'.m a = some (.cells zb 1)) ∧ S0.n ≤ S'.n ∧ (∀ x, x < S0.n → x ≠ nowb → S'.m x = S0.m x)
def RI (S0 : MS) (n : Nat) (lv : Value) (d nowb : Nat) (m : Nat) (T : FT) (S' : MS) : Prop :=
  ∃ al, al.length + m = n ∧ RL S0 n nowb al S' ∧ ER T n lv d nowb al.length

theorem rows_loop {S : MS} {n d nowb : Nat} {lv : Value} {T : FT} (h20 : n ≤ 20) (hlt : nowb < S.n) (hb : S.m nowb = some (.cells (List.replicate n (.slice none 0 0)) 1)) (e : ER T n lv d nowb 0) :
    MWp Try.prog O 308 blk3_0 T S (fun x T' S' => x = .normal ∧ RI S n lv d nowb 0 T' S') := by
  unfold blk3_0
  refine m_block (m_loop (fun m T S' => RI S n lv d nowb m T S') n ⟨[], by simp, ⟨by simpa using hb, (fun a ha => by cases ha), Nat.le_refl _, fun _ _ _ => rfl⟩, e⟩ ?_)
  clear hb e
  rintro m T S1 ⟨al, hk, ⟨hb, hal, hn1, hf1⟩, e⟩
  refine m_seq (m_seq (m_reg ?_))
  rw [reg3_13]
  simp (decide := true) only [FT.get_set, FT.setL, faS_ptr, nilS_ptr, nilS_func, nilS_yield, pickS_bool, ldS_ptr, list_cells, list_ro, partS_none, lenSl_of, lenStr_of, cvInt_of, aminmax_max, aminmax_min, abin_add, abin_sub, abin_mul, abin_eql, abin_neq, abin_lss, abin_leq, abin_gtr, abin_geq, aunary_not, aextract, Option.some.injEq, Prod.mk.injEq, Value.bool.injEq, exists_eq_left', exists_and_left, and_assoc, decide_eq_true_eq, decide_eq_false_iff_not, if_true, if_false, Nat.zero_add, Nat.add_zero, Option.bind_some, true_and, and_true, forall_const, true_implies, Bool.not_eq_true, Bool.false_eq_true, false_implies, ite_self, Nat.mul_one, e.g0, e.g1, e.g5, e.g7, e.g8, e.g9]
  refine m_cond (t := decide ((al.length : Int) < n)) (by simp [evalT, FT.get_set, FT.setL, faS_ptr, nilS_ptr, nilS_func, nilS_yield, pickS_bool, ldS_ptr, list_cells, list_ro, partS_none, lenSl_of, lenStr_of, cvInt_of, aminmax_max, aminmax_min, abin_add, abin_sub, abin_mul, abin_eql, abin_neq, abin_lss, abin_leq, abin_gtr, abin_geq, aunary_not, aextract]) (fun hl => ?_) (fun hl => ?_)
  · have hl : al.length < n := by have := of_decide_eq_true hl; omega
    refine m_skip ?_
    simp only
    refine m_wf fun wf => ?_
    unfold blk3_1
    refine m_seq (m_block (m_reg ?_))
    rw [reg3_15]
    simp (decide := true) only [FT.get_set, FT.setL, faS_ptr, nilS_ptr, nilS_func, nilS_yield, pickS_bool, ldS_ptr, list_cells, list_ro, partS_none, lenSl_of, lenStr_of, cvInt_of, aminmax_max, aminmax_min, abin_add, abin_sub, abin_mul, abin_eql, abin_neq, abin_lss, abin_leq, abin_gtr, abin_geq, aunary_not, aextract, Option.some.injEq, Prod.mk.injEq, Value.bool.injEq, exists_eq_left', exists_and_left, and_assoc, decide_eq_true_eq, decide_eq_false_iff_not, if_true, if_false, Nat.zero_add, Nat.add_zero, Option.bind_some, true_and, and_true, forall_const, true_implies, Bool.not_eq_true, Bool.false_eq_true, false_implies, ite_self, Nat.mul_one, e.g0, e.g1, e.g5, e.g7, e.g8, e.g9, msS256, iaSS_of (k := .i64) (i := (al.length : Int)) (by omega) (by omega : (al.length : Int) < (n : Int)), Int.toNat_natCast]
    have hb2 := (fresh_old S1 (zeros [.int .u8 0] 256) 1 (x := nowb) (by omega)).trans hb
    obtain ⟨S2, s1, s2, s3, s4⟩ := st_one (off := al.length) (v := bsl S1.n) hb2 (by simp; omega) rfl rfl
    refine ⟨S2, s1, ?_⟩
    refine m_reg ?_
    rw [reg3_14]
    simp (decide := true) only [FT.get_set, FT.setL, faS_ptr, nilS_ptr, nilS_func, nilS_yield, pickS_bool, ldS_ptr, list_cells, list_ro, partS_none, lenSl_of, lenStr_of, cvInt_of, aminmax_max, aminmax_min, abin_add, abin_sub, abin_mul, abin_eql, abin_neq, abin_lss, abin_leq, abin_gtr, abin_geq, aunary_not, aextract, Option.some.injEq, Prod.mk.injEq, Value.bool.injEq, exists_eq_left', exists_and_left, and_assoc, decide_eq_true_eq, decide_eq_false_iff_not, if_true, if_false, Nat.zero_add, Nat.add_zero, Option.bind_some, true_and, and_true, forall_const, true_implies, Bool.not_eq_true, Bool.false_eq_true, false_implies, ite_self, Nat.mul_one, e.g0, e.g1, e.g5, e.g7, e.g8, e.g9]
    have hw : IntKind.i64.wrap ((al.length : Int) + 1) = (((al ++ [S1.n]).length : Nat) : Int) := by rw [wrap_i64 (by omega) (by omega)]; simp
    rw [hw]
    have hzb : zeros [.int .u8 0] 256 = zb := by rw [zeros_one]; rfl
    refine ⟨m - 1, by omega, al ++ [S1.n], by simp; omega, ⟨?_, ?_, ?_, ?_⟩, ⟨by simp [FT.get_set, FT.setL, faS_ptr, nilS_ptr, nilS_func, nilS_yield, pickS_bool, ldS_ptr, list_cells, list_ro, partS_none, lenSl_of, lenStr_of, cvInt_of, aminmax_max, aminmax_min, abin_add, abin_sub, abin_mul, abin_eql, abin_neq, abin_lss, abin_leq, abin_gtr, abin_geq, aunary_not, aextract, e.g0, e.g1, e.g5, e.g7, e.g8, e.g9], by simp [FT.get_set, FT.setL, faS_ptr, nilS_ptr, nilS_func, nilS_yield, pickS_bool, ldS_ptr, list_cells, list_ro, partS_none, lenSl_of, lenStr_of, cvInt_of, aminmax_max, aminmax_min, abin_add, abin_sub, abin_mul, abin_eql, abin_neq, abin_lss, abin_leq, abin_gtr, abin_geq, aunary_not, aextract, e.g0, e.g1, e.g5, e.g7, e.g8, e.g9], by simp [FT.get_set, FT.setL, faS_ptr, nilS_ptr, nilS_func, nilS_yield, pickS_bool, ldS_ptr, list_cells, list_ro, partS_none, lenSl_of, lenStr_of, cvInt_of, aminmax_max, aminmax_min, abin_add, abin_sub, abin_mul, abin_eql, abin_neq, abin_lss, abin_leq, abin_gtr, abin_geq, aunary_not, aextract, e.g0, e.g1, e.g5, e.g7, e.g8, e.g9], by simp [FT.get_set, FT.setL, faS_ptr, nilS_ptr, nilS_func, nilS_yield, pickS_bool, ldS_ptr, list_cells, list_ro, partS_none, lenSl_of, lenStr_of, cvInt_of, aminmax_max, aminmax_min, abin_add, abin_sub, abin_mul, abin_eql, abin_neq, abin_lss, abin_leq, abin_gtr, abin_geq, aunary_not, aextract, e.g0, e.g1, e.g5, e.g7, e.g8, e.g9], by simp [FT.get_set, FT.setL, faS_ptr, nilS_ptr, nilS_func, nilS_yield, pickS_bool, ldS_ptr, list_cells, list_ro, partS_none, lenSl_of, lenStr_of, cvInt_of, aminmax_max, aminmax_min, abin_add, abin_sub, abin_mul, abin_eql, abin_neq, abin_lss, abin_leq, abin_gtr, abin_geq, aunary_not, aextract, e.g0, e.g1, e.g5, e.g7, e.g8, e.g9], by simp [FT.get_set, FT.setL, faS_ptr, nilS_ptr, nilS_func, nilS_yield, pickS_bool, ldS_ptr, list_cells, list_ro, partS_none, lenSl_of, lenStr_of, cvInt_of, aminmax_max, aminmax_min, abin_add, abin_sub, abin_mul, abin_eql, abin_neq, abin_lss, abin_leq, abin_gtr, abin_geq, aunary_not, aextract, e.g0, e.g1, e.g5, e.g7, e.g8, e.g9]⟩⟩
    · rw [s2]
      congr 2
      obtain ⟨r, hr⟩ : ∃ r, n - al.length = r + 1 := ⟨n - al.length - 1, by omega⟩
      have hr2 : n - (al ++ [S1.n]).length = r := by simp; omega
      rw [hr, hr2, List.replicate_succ, List.set_append, if_neg (by simp)]
      simp
    · intro a ha
      rcases List.mem_append.1 ha with ha | ha
      · obtain ⟨g1, g2⟩ := hal a ha
        refine ⟨g1, ?_⟩
        have := wf _ _ g2
        rw [s4 a (by omega), fresh_old _ _ _ (by omega)]; exact g2
      · simp at ha; subst ha
        refine ⟨hn1, ?_⟩
        rw [s4 _ (by omega), fresh_at, hzb]
    · rw [s3, fresh_n]; omega
    · intro x hx hne
      rw [s4 x hne, fresh_old _ _ _ (by omega)]; exact hf1 x hx hne
  · have hl : ¬ al.length < n := by have := of_decide_eq_false hl; omega
    refine m_exit ?_
    simp only [if_true]
    exact ⟨al, by omega, ⟨hb, hal, hn1, hf1⟩, ⟨by simp [FT.get_set, FT.setL, faS_ptr, nilS_ptr, nilS_func, nilS_yield, pickS_bool, ldS_ptr, list_cells, list_ro, partS_none, lenSl_of, lenStr_of, cvInt_of, aminmax_max, aminmax_min, abin_add, abin_sub, abin_mul, abin_eql, abin_neq, abin_lss, abin_leq, abin_gtr, abin_geq, aunary_not, aextract, e.g0, e.g1, e.g5, e.g7, e.g8, e.g9], by simp [FT.get_set, FT.setL, faS_ptr, nilS_ptr, nilS_func, nilS_yield, pickS_bool, ldS_ptr, list_cells, list_ro, partS_none, lenSl_of, lenStr_of, cvInt_of, aminmax_max, aminmax_min, abin_add, abin_sub, abin_mul, abin_eql, abin_neq, abin_lss, abin_leq, abin_gtr, abin_geq, aunary_not, aextract, e.g0, e.g1, e.g5, e.g7, e.g8, e.g9], by simp [FT.get_set, FT.setL, faS_ptr, nilS_ptr, nilS_func, nilS_yield, pickS_bool, ldS_ptr, list_cells, list_ro, partS_none, lenSl_of, lenStr_of, cvInt_of, aminmax_max, aminmax_min, abin_add, abin_sub, abin_mul, abin_eql, abin_neq, abin_lss, abin_leq, abin_gtr, abin_geq, aunary_not, aextract, e.g0, e.g1, e.g5, e.g7, e.g8, e.g9], by simp [FT.get_set, FT.setL, faS_ptr, nilS_ptr, nilS_func, nilS_yield, pickS_bool, ldS_ptr, list_cells, list_ro, partS_none, lenSl_of, lenStr_of, cvInt_of, aminmax_max, aminmax_min, abin_add, abin_sub, abin_mul, abin_eql, abin_neq, abin_lss, abin_leq, abin_gtr, abin_geq, aunary_not, aextract, e.g0, e.g1, e.g5, e.g7, e.g8, e.g9], by simp [FT.get_set, FT.setL, faS_ptr, nilS_ptr, nilS_func, nilS_yield, pickS_bool, ldS_ptr, list_cells, list_ro, partS_none, lenSl_of, lenStr_of, cvInt_of, aminmax_max, aminmax_min, abin_add, abin_sub, abin_mul, abin_eql, abin_neq, abin_lss, abin_leq, abin_gtr, abin_geq, aunary_not, aextract, e.g0, e.g1, e.g5, e.g7, e.g8, e.g9], by simp [FT.get_set, FT.setL, faS_ptr, nilS_ptr, nilS_func, nilS_yield, pickS_bool, ldS_ptr, list_cells, list_ro, partS_none, lenSl_of, lenStr_of, cvInt_of, aminmax_max, aminmax_min, abin_add, abin_sub, abin_mul, abin_eql, abin_neq, abin_lss, abin_leq, abin_gtr, abin_geq, aunary_not, aextract, e.g0, e.g1, e.g5, e.g7, e.g8, e.g9]⟩⟩

/-- before the first step -/
theorem begins {S S5 : MS} {n : Nat} (h1 : 1 ≤ n) (h20 : n ≤ 20) {nowb : Nat} {al : List Nat} (hr : RL S n nowb al S5) (hal : al.length = n) (wf : S5.WF) (hlt : nowb < S.n) {d a : Nat} (hd : IsD S d (newDK a n)) (wf0 : S.WF) (hnd : nowb ≠ d ∧ nowb ≠ a ∧ nowb ≠ a + 1) :
    ∃ p, apS false 1 24 [.slice none 0 0] S5 [(.slice none 0 0), .slice (some ⟨nowb, 0, none⟩) n n] = some (.slice (some ⟨S5.n, 0, none⟩) n unk, p) ∧ ∃ q, bsS p 1 1 [.slice none 0 0] [(0, .slice (some ⟨S5.n, 0, none⟩) n unk)] = some (.slice (some ⟨S5.n + 1, 0, none⟩) 1 1, q) ∧
      ∃ S6, apS false 1 24 [.slice none 0 0] q [.slice none 0 0, .slice (some ⟨S5.n + 1, 0, none⟩) 1 1] = some (.slice (some ⟨S5.n + 2, 0, none⟩) 1 unk, S6) ∧
      LInv S6 d (newDK a n) n nowb (S5.n + 2) [S5.n] [List.replicate n zb] ∧ (∀ x, x < S.n → x ≠ nowb → S6.m x = S.m x) := by
  obtain ⟨hb, hall, hn5, hf5⟩ := hr
  rw [hal, Nat.sub_self, List.replicate_zero, List.append_nil] at hb
  have hone : (al.map bsl).all oneCell = true := by rw [List.all_eq_true]; intro v hv; obtain ⟨x, _, rfl⟩ := List.mem_map.1 hv; rfl
  have hf3 : firstCellsM S5 1 n (.slice (some ⟨nowb, 0, none⟩) n n) = some (al.map bsl) := by
    rw [first_of (list_of hb) (Nat.le_refl _) (by omega) (by rw [List.length_map, hal]; omega)]
    simp only [List.drop_zero, Nat.mul_one]
    rw [List.take_of_length_le (by rw [List.length_map, hal]; omega)]
  have hap := apS_nil (bytes := 24) (z := [.slice none 0 0]) (x := .slice (some ⟨nowb, 0, none⟩) n n) (n := n) rfl hf3 (by rw [List.length_map, hal]; omega) hone (by omega) (by omega) (by omega)
  refine ⟨_, hap, _, bsS_one _ 1 [.slice none 0 0] (.slice (some ⟨S5.n, 0, none⟩) n unk) rfl rfl, ?_⟩
  have hf5' : firstCellsM ((S5.fresh (al.map bsl) 1).fresh (Value.cells (.slice (some ⟨S5.n, 0, none⟩) n unk)).toList 1) 1 1 (.slice (some ⟨S5.n + 1, 0, none⟩) 1 1) = some [rsl n S5.n] := by
    have e := fresh_at (S5.fresh (al.map bsl) 1) (Value.cells (.slice (some ⟨S5.n, 0, none⟩) n unk)).toList 1
    rw [fresh_n] at e
    rw [first_of (n := 1) (list_of e) (by decide) (by decide) (by simp [cells_slice])]; rfl
  refine ⟨_, apS_nil (bytes := 24) (z := [.slice none 0 0]) rfl hf5' rfl rfl (by decide) (by decide) (by decide), ?_⟩
  have old : ∀ x, x < S5.n → ((((S5.fresh (al.map bsl) 1).fresh (Value.cells (.slice (some ⟨S5.n, 0, none⟩) n unk)).toList 1)).fresh [rsl n S5.n] 1).m x = S5.m x := by
    intro x hx
    rw [fresh_old _ _ _ (by simp only [fresh_n]; omega), fresh_old _ _ _ (by rw [fresh_n]; omega), fresh_old _ _ _ (by omega)]
  have rown : ((((S5.fresh (al.map bsl) 1).fresh (Value.cells (.slice (some ⟨S5.n, 0, none⟩) n unk)).toList 1)).fresh [rsl n S5.n] 1).m S5.n = some (.cells (al.map bsl) 1) := by
    rw [fresh_old _ _ _ (by simp only [fresh_n]; omega), fresh_old _ _ _ (by rw [fresh_n]; omega), fresh_at]
  have momn := fresh_at ((S5.fresh (al.map bsl) 1).fresh (Value.cells (.slice (some ⟨S5.n, 0, none⟩) n unk)).toList 1) [rsl n S5.n] 1
  have hnn : ((S5.fresh (al.map bsl) 1).fresh (Value.cells (.slice (some ⟨S5.n, 0, none⟩) n unk)).toList 1).n = S5.n + 2 := rfl
  rw [hnn] at momn
  generalize (((S5.fresh (al.map bsl) 1).fresh (Value.cells (.slice (some ⟨S5.n, 0, none⟩) n unk)).toList 1)).fresh [rsl n S5.n] 1 = S6 at old rown momn ⊢
  have old2 : ∀ x, x < S.n → x ≠ nowb → S6.m x = S.m x := fun x hx hne => by rw [old x (by omega), hf5 x hx hne]
  have cells : ∀ (k : Nat) x cc, al[k]? = some x → (List.replicate n zb)[k]? = some cc → S6.m x = some (.cells cc 1) ∧ Byt cc := by
    intro k x cc hx hcc
    obtain ⟨g1, g2⟩ := hall x (List.mem_of_getElem? hx)
    rw [List.getElem?_replicate] at hcc
    split at hcc
    · cases hcc
      exact ⟨by rw [old x (wf _ _ g2)]; exact g2, byt_zero⟩
    · cases hcc
  have hmd : ((newDK a n).made.length) = n := by simp [newDK]
  refine ⟨⟨hd.keep fun x hx => ?_, hmd, h1, h20, rfl, (fun w hw => by cases hw), rfl, rfl, ?_, ?_, momn, ?_, ?_, by omega, ?_⟩, old2⟩
  · rcases hx with rfl | rfl | rfl | ⟨hw, rfl⟩
    · exact old2 _ (wf0 _ _ hd.hd) (Ne.symm hnd.1)
    · exact old2 _ (wf0 _ _ hd.hm) (Ne.symm hnd.2.1)
    · exact old2 _ (wf0 _ _ hd.hn) (Ne.symm hnd.2.2)
    · exact absurd rfl hw
  · intro j c hc
    cases j with
    | zero => simp at hc; subst hc; simp
    | succ j => simp at hc
  · intro j c hc k cc o hcc ho
    cases j with
    | zero =>
      simp at hc; subst hc
      rw [List.getElem?_replicate] at hcc
      split at hcc
      · cases hcc
        have ho' : (List.replicate n (none : Option Nat))[k]? = some o := ho
        rw [List.getElem?_replicate] at ho'
        split at ho' <;> first | (cases ho'; exact ⟨byt_zero, rfl⟩) | cases ho'
      · cases hcc
    | succ j => simp at hc
  · intro j r c hr hc
    cases j with
    | zero => simp at hc hr; subst hc; subst hr; exact ⟨al, by simp [hal], rown, cells⟩
    | succ j => simp at hc
  · intro c hc
    have hc' : ([List.replicate n zb] : List (List (List Value)))[0]? = some c := hc
    simp at hc'; subst hc'
    exact ⟨al, by simp [hal], by rw [old _ (wf _ _ hb)]; exact hb, cells⟩
  · intro r hr
    simp at hr; subst hr
    exact ⟨by omega, by omega⟩
end Go.Proofs.Ytlepbifmkleoeaa
