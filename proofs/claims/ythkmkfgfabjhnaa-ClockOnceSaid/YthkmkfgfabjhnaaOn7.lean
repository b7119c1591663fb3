/-
  The walk through the clock's code: what its functions do to memory, part On7. Nothing is asked.
-/
import Derived.Test.YthkmkfgfabjhnaaOn6
set_option linter.all false
namespace Go.Proofs.Ythkmkfgfabjhnaa
open Go Go.Ag
set_option linter.unusedVariables false
set_option maxRecDepth 100000

theorem SlF.fld {α : Type} {f : α → List Value} {sz : Nat} (hfl : ∀ a, (f a).length = sz) {S : MS} {B : Nat} {v : Value} {l : List α} {i : Nat} {x : α} (h : SlF f sz S B v l) (hx : l[i]? = some x) : ∃ b L, iaSS sz v (.int .i64 (i : Int)) = some (.pointer (some ⟨b, i * sz, none⟩)) ∧ S.list b = some L ∧ ∀ k, k < sz → L[i * sz + k]? = (f x)[k]? := by
  have hlt := (List.getElem?_eq_some_iff.1 hx).1
  cases h with
  | non => cases hx
  | own hb hB hc hj =>
    rename_i b cap junk
    refine ⟨b, _, ?_, list_of hb, fun k hk => ?_⟩
    · rw [iaSS_of (k := .i64) (i := (i : Int)) (by omega) (by omega : (i : Int) < (l.length : Int)), Int.toNat_natCast, Nat.zero_add]
    · exact fm_get hfl (by rw [List.getElem?_append_left hlt]; exact hx) hk

/-- bytes that are only read -/
structure By (S : MS) (dv : Value) (ds : List Nat) : Prop where
  len : lenSl dv = some (.int .i64 ds.length)
  small : ∀ d ∈ ds, d < 256
  cells : ds ≠ [] → ∃ ab cap l, dv = .slice (some ⟨ab, 0, none⟩) ds.length cap ∧ S.list ab = some l ∧ ∀ (k : Nat) d, ds[k]? = some d → l[k]? = some (.int .u8 d)
theorem By.keep {S S' : MS} {dv : Value} {ds : List Nat} (h : By S dv ds) (wf : S.WF) (hk : ∀ x, x < S.n → S'.m x = S.m x) : By S' dv ds :=
  ⟨h.len, h.small, fun hne => by obtain ⟨ab, cap, l, h1, h2, h3⟩ := h.cells hne; exact ⟨ab, cap, l, h1, list_keep wf hk h2, h3⟩⟩
theorem By.at {S : MS} {dv : Value} {ds : List Nat} (h : By S dv ds) {i d : Nat} (hd : ds[i]? = some d) : ∃ p, iaSS 1 dv (.int .i64 (i : Int)) = some p ∧ ldS none S p = some (.int .u8 d) := by
  have hlt := (List.getElem?_eq_some_iff.1 hd).1
  obtain ⟨ab, cap, l, h1, h2, h3⟩ := h.cells (fun e => by rw [e] at hd; cases hd)
  refine ⟨.pointer (some ⟨ab, i, none⟩), ?_, ?_⟩
  · rw [h1, iaSS_of (k := .i64) (i := (i : Int)) (by omega) (by omega : (i : Int) < (ds.length : Int)), Int.toNat_natCast, Nat.zero_add, Nat.mul_one]
  · rw [ldS_ptr, h2]
    exact h3 i d hd

def Came (ds : List Nat) (came : List Int) (A : Nat → Nat → Prop) : Prop := came.length = ds.length ∧ ∀ (i : Nat) d, ds[i]? = some d → ∃ x, came[i]? = some x ∧ ((x = 1 ∧ A i d) ∨ (x = 0 ∧ ¬ A i d))
theorem Came.iff {ds : List Nat} {came : List Int} {A B : Nat → Nat → Prop} (h : Came ds came A) (hab : ∀ (i : Nat) d, ds[i]? = some d → (A i d ↔ B i d)) : Came ds came B :=
  ⟨h.1, fun i d hd => by obtain ⟨x, h1, h2⟩ := h.2 i d hd; exact ⟨x, h1, by rw [← hab i d hd]; exact h2⟩⟩

/-- while timers are set -/
def SI3 (S0 : MS) (ds : List Nat) (dv : Value) (ticks : Int) (c : Nat) (m : Nat) (T : FT) (S : MS) : Prop :=
  ∃ (k : Nat) (w : Value) (l : List Tm), k + m = ds.length ∧ l.length = k ∧ IsC S c (c + 1) 5 (10 + (k : Int)) w l ∧ Waits ds k 5 l ∧ Old S0 S ∧ S0.n ≤ c ∧ c + 1 ≤ S.n ∧ T.get 0 = dv ∧ T.get 1 = .int .i64 ticks ∧ T.get 5 = .pointer (some ⟨c, 0, none⟩) ∧ T.get 6 = .int .i64 k

theorem sets3 {S0 S : MS} {ds : List Nat} {dv : Value} {ticks : Int} {c : Nat} {T : FT} (hb : By S0 dv ds) (wf0 : S0.WF) (hn : ds.length ≤ 12) (hs : SI3 S0 ds dv ticks c ds.length T S) :
    MWp Try.prog O 156 (.block 0 (.loop (.seq (.seq (.region 7 (ro 3 7) false) (.cond (.tmp 33) .skip (.exit 0))) (.seq (.block 1 (.seq (.region 9 (ro 3 9) false) (.seq (.region 10 (ro 3 10) false) (.cond (.tmp 56) (.seq (.region 11 (ro 3 11) false) .ret) .skip)))) (.region 8 (ro 3 8) false))))) T S
      (fun x T' S' => x = .normal ∧ SI3 S0 ds dv ticks c 0 T' S') := by
  refine m_block (m_loop (fun m T S' => SI3 S0 ds dv ticks c m T S') _ hs ?_)
  clear hs
  rintro m T S1 ⟨k, w, l, hk, hl, hc, hw, hold, hc0, hcn, t0, t1, t5, t6⟩
  refine m_seq (m_seq (m_reg ?_))
  rw [reg3_7]
  simp (decide := true) only [FT.get_set, FT.setL, faS_ptr, nilS_ptr, nilS_func, nilS_yield, pickS_bool, ldS_ptr, list_cells, list_ro, partS_none, lenSl_of, lenStr_of, cvInt_of, aminmax_max, aminmax_min, abin_add, abin_sub, abin_mul, abin_eql, abin_neq, abin_lss, abin_leq, abin_gtr, abin_geq, aunary_not, aextract, Option.some.injEq, Prod.mk.injEq, Value.bool.injEq, exists_eq_left', exists_and_left, and_assoc, decide_eq_true_eq, decide_eq_false_iff_not, if_true, if_false, Nat.zero_add, Nat.add_zero, Option.bind_some, true_and, and_true, forall_const, true_implies, Bool.not_eq_true, Bool.false_eq_true, false_implies, ite_self, Nat.mul_one, t0, t6, hb.len]
  refine m_cond (t := decide ((k : Int) < ds.length)) (by simp [evalT, FT.get_set, FT.setL, faS_ptr, nilS_ptr, nilS_func, nilS_yield, pickS_bool, ldS_ptr, list_cells, list_ro, partS_none, lenSl_of, lenStr_of, cvInt_of, aminmax_max, aminmax_min, abin_add, abin_sub, abin_mul, abin_eql, abin_neq, abin_lss, abin_leq, abin_gtr, abin_geq, aunary_not, aextract]) (fun hlt => m_skip ?_) (fun hlt => m_exit ?_)
  · have hlt : k < ds.length := by have := of_decide_eq_true hlt; omega
    simp only
    obtain ⟨d, hd⟩ : ∃ d, ds[k]? = some d := ⟨_, List.getElem?_eq_getElem hlt⟩
    have hd256 := hb.small d (List.mem_of_getElem? hd)
    obtain ⟨p, hp1, hp2⟩ := (hb.keep wf0 hold.2).at hd
    have hcv : IntKind.i64.wrap (d : Int) = d := wrap_i64 (by omega) (by omega)
    have hcw : IntKind.i64.wrap ((d : Int) + 1) = (d : Int) + 1 := wrap_i64 (by omega) (by omega)
    have hev : bdS (fun i => [(0, 1), (1, 1)][i]?) [.string ⟨⟨[]⟩⟩, .slice none 0 0] [(0, .string ⟨⟨[101]⟩⟩)] = some (.agg #[.string ⟨⟨[101]⟩⟩, .slice none 0 0]) := rfl
    have hpl : bdS (fun i => [(0, 1), (1, 2)][i]?) [.int .i64 0, .string ⟨⟨[]⟩⟩, .slice none 0 0] [(0, .int .i64 ((d : Int) + 1)), (1, .agg #[.string ⟨⟨[101]⟩⟩, .slice none 0 0])] = some (.agg (plL ((d : Int) + 1) ⟨⟨[101]⟩⟩ none 0 0).toArray) := rfl
    refine m_seq (m_block (m_seq (m_reg ?_)))
    rw [reg3_9]
    simp (decide := true) only [FT.get_set, FT.setL, faS_ptr, nilS_ptr, nilS_func, nilS_yield, pickS_bool, ldS_ptr, list_cells, list_ro, partS_none, lenSl_of, lenStr_of, cvInt_of, aminmax_max, aminmax_min, abin_add, abin_sub, abin_mul, abin_eql, abin_neq, abin_lss, abin_leq, abin_gtr, abin_geq, aunary_not, aextract, Option.some.injEq, Prod.mk.injEq, Value.bool.injEq, exists_eq_left', exists_and_left, and_assoc, decide_eq_true_eq, decide_eq_false_iff_not, if_true, if_false, Nat.zero_add, Nat.add_zero, Option.bind_some, true_and, and_true, forall_const, true_implies, Bool.not_eq_true, Bool.false_eq_true, false_implies, ite_self, Nat.mul_one, t0, t5, t6, hp1, hp2, cvInt_of, hcv, hcw, hev, hpl]
    refine set8 hc hcn ⟨by omega, by omega⟩ (by omega) ⟨by omega, by omega⟩ ⟨by omega, by omega⟩ fun w' S2 g1 g2 g3 hc2 => ?_
    simp (decide := true) only [FT.get_set, FT.setL, faS_ptr, nilS_ptr, nilS_func, nilS_yield, pickS_bool, ldS_ptr, list_cells, list_ro, partS_none, lenSl_of, lenStr_of, cvInt_of, aminmax_max, aminmax_min, abin_add, abin_sub, abin_mul, abin_eql, abin_neq, abin_lss, abin_leq, abin_gtr, abin_geq, aunary_not, aextract, Option.some.injEq, Prod.mk.injEq, Value.bool.injEq, exists_eq_left', exists_and_left, and_assoc, decide_eq_true_eq, decide_eq_false_iff_not, if_true, if_false, Nat.zero_add, Nat.add_zero, Option.bind_some, true_and, and_true, forall_const, true_implies, Bool.not_eq_true, Bool.false_eq_true, false_implies, ite_self, Nat.mul_one, List.getElem?_cons_zero, List.getElem?_cons_succ]
    refine m_seq (m_reg ?_)
    rw [reg3_10]
    have hwk : IntKind.i64.wrap ((10 : Int) + (k : Int)) = 10 + (k : Int) := wrap_i64 (by omega) (by omega)
    have hwk1 : IntKind.i64.wrap ((k : Int) + 1) = ((k + 1 : Nat) : Int) := by rw [wrap_i64 (by omega) (by omega)]; rfl
    simp (decide := true) only [FT.get_set, FT.setL, faS_ptr, nilS_ptr, nilS_func, nilS_yield, pickS_bool, ldS_ptr, list_cells, list_ro, partS_none, lenSl_of, lenStr_of, cvInt_of, aminmax_max, aminmax_min, abin_add, abin_sub, abin_mul, abin_eql, abin_neq, abin_lss, abin_leq, abin_gtr, abin_geq, aunary_not, aextract, Option.some.injEq, Prod.mk.injEq, Value.bool.injEq, exists_eq_left', exists_and_left, and_assoc, decide_eq_true_eq, decide_eq_false_iff_not, if_true, if_false, Nat.zero_add, Nat.add_zero, Option.bind_some, true_and, and_true, forall_const, true_implies, Bool.not_eq_true, Bool.false_eq_true, false_implies, ite_self, Nat.mul_one, t6, hwk, bne_self_eq_false]
    refine m_cond (t := false) (by simp [evalT, FT.get_set, FT.setL, faS_ptr, nilS_ptr, nilS_func, nilS_yield, pickS_bool, ldS_ptr, list_cells, list_ro, partS_none, lenSl_of, lenStr_of, cvInt_of, aminmax_max, aminmax_min, abin_add, abin_sub, abin_mul, abin_eql, abin_neq, abin_lss, abin_leq, abin_gtr, abin_geq, aunary_not, aextract]) (fun h => by cases h) (fun _ => m_skip ?_)
    simp only
    refine m_reg ?_
    rw [reg3_8]
    simp (decide := true) only [FT.get_set, FT.setL, faS_ptr, nilS_ptr, nilS_func, nilS_yield, pickS_bool, ldS_ptr, list_cells, list_ro, partS_none, lenSl_of, lenStr_of, cvInt_of, aminmax_max, aminmax_min, abin_add, abin_sub, abin_mul, abin_eql, abin_neq, abin_lss, abin_leq, abin_gtr, abin_geq, aunary_not, aextract, Option.some.injEq, Prod.mk.injEq, Value.bool.injEq, exists_eq_left', exists_and_left, and_assoc, decide_eq_true_eq, decide_eq_false_iff_not, if_true, if_false, Nat.zero_add, Nat.add_zero, Option.bind_some, true_and, and_true, forall_const, true_implies, Bool.not_eq_true, Bool.false_eq_true, false_implies, ite_self, Nat.mul_one, t6, hwk1]
    have e5 : (5 : Int) + ((d : Int) + 1) = (tmOf d k).t := rfl
    refine ⟨m - 1, by omega, k + 1, w', isort (l ++ [tmOf d k]), by omega, by rw [isort_len]; simp [hl], ?_, hw.set hd, ⟨by have := hold.1; omega, fun y hy => ?_⟩, hc0, by omega, by simp [FT.get_set, FT.setL, faS_ptr, nilS_ptr, nilS_func, nilS_yield, pickS_bool, ldS_ptr, list_cells, list_ro, partS_none, lenSl_of, lenStr_of, cvInt_of, aminmax_max, aminmax_min, abin_add, abin_sub, abin_mul, abin_eql, abin_neq, abin_lss, abin_leq, abin_gtr, abin_geq, aunary_not, aextract, t0], by simp [FT.get_set, FT.setL, faS_ptr, nilS_ptr, nilS_func, nilS_yield, pickS_bool, ldS_ptr, list_cells, list_ro, partS_none, lenSl_of, lenStr_of, cvInt_of, aminmax_max, aminmax_min, abin_add, abin_sub, abin_mul, abin_eql, abin_neq, abin_lss, abin_leq, abin_gtr, abin_geq, aunary_not, aextract, t1], by simp [FT.get_set, FT.setL, faS_ptr, nilS_ptr, nilS_func, nilS_yield, pickS_bool, ldS_ptr, list_cells, list_ro, partS_none, lenSl_of, lenStr_of, cvInt_of, aminmax_max, aminmax_min, abin_add, abin_sub, abin_mul, abin_eql, abin_neq, abin_lss, abin_leq, abin_gtr, abin_geq, aunary_not, aextract, t5], by simp [FT.get_set, FT.setL, faS_ptr, nilS_ptr, nilS_func, nilS_yield, pickS_bool, ldS_ptr, list_cells, list_ro, partS_none, lenSl_of, lenStr_of, cvInt_of, aminmax_max, aminmax_min, abin_add, abin_sub, abin_mul, abin_eql, abin_neq, abin_lss, abin_leq, abin_gtr, abin_geq, aunary_not, aextract]⟩
    · have : (10 : Int) + ((k + 1 : Nat) : Int) = 10 + (k : Int) + 1 := by omega
      rw [this]; exact hc2
    · have h1 := hold.1
      rw [g2 y (by omega) (by omega) (hc.2.1.av (by omega))]; exact hold.2 y hy
  · have hlt : ¬ k < ds.length := by have := of_decide_eq_false hlt; omega
    simp only [if_true]
    have fin : SI3 S0 ds dv ticks c 0 ((((T.set (.int .i64 k) 30).set dv 31).set (.int .i64 ds.length) 32).set (.bool (decide ((k : Int) < ds.length))) 33) S1 := ⟨k, w, l, by omega, hl, hc, hw, hold, hc0, hcn, by simp [FT.get_set, FT.setL, faS_ptr, nilS_ptr, nilS_func, nilS_yield, pickS_bool, ldS_ptr, list_cells, list_ro, partS_none, lenSl_of, lenStr_of, cvInt_of, aminmax_max, aminmax_min, abin_add, abin_sub, abin_mul, abin_eql, abin_neq, abin_lss, abin_leq, abin_gtr, abin_geq, aunary_not, aextract, t0], by simp [FT.get_set, FT.setL, faS_ptr, nilS_ptr, nilS_func, nilS_yield, pickS_bool, ldS_ptr, list_cells, list_ro, partS_none, lenSl_of, lenStr_of, cvInt_of, aminmax_max, aminmax_min, abin_add, abin_sub, abin_mul, abin_eql, abin_neq, abin_lss, abin_leq, abin_gtr, abin_geq, aunary_not, aextract, t1], by simp [FT.get_set, FT.setL, faS_ptr, nilS_ptr, nilS_func, nilS_yield, pickS_bool, ldS_ptr, list_cells, list_ro, partS_none, lenSl_of, lenStr_of, cvInt_of, aminmax_max, aminmax_min, abin_add, abin_sub, abin_mul, abin_eql, abin_neq, abin_lss, abin_leq, abin_gtr, abin_geq, aunary_not, aextract, t5], by simp [FT.get_set, FT.setL, faS_ptr, nilS_ptr, nilS_func, nilS_yield, pickS_bool, ldS_ptr, list_cells, list_ro, partS_none, lenSl_of, lenStr_of, cvInt_of, aminmax_max, aminmax_min, abin_add, abin_sub, abin_mul, abin_eql, abin_neq, abin_lss, abin_leq, abin_gtr, abin_geq, aunary_not, aextract, t6]⟩
    first | exact fin | exact ⟨rfl, fin⟩

/-- while it ticks -/
structure TC (S0 : MS) (ds : List Nat) (dv : Value) (ticks : Int) (c cb : Nat) (t : Int) (w : Value) (l : List Tm) (came : List Int) (T : FT) (S : MS) : Prop where
  old : Old S0 S
  c0 : S0.n ≤ c
  ccb : c < cb
  cbn : cb < S.n
  clk : IsC S c (c + 1) (4 + t) (10 + (ds.length : Int)) w l
  hw : Waits ds ds.length (4 + t) l
  cam : S.m cb = some (.cells (came.map fun x => .int .i64 x) 1)
  av : Av w cb
  t0 : T.get 0 = dv
  t1 : T.get 1 = .int .i64 ticks
  t5 : T.get 5 = .pointer (some ⟨c, 0, none⟩)
  t9 : T.get 9 = .slice (some ⟨cb, 0, none⟩) ds.length ds.length
  ll : l.length ≤ 12

def OI3 (S0 : MS) (ds : List Nat) (dv : Value) (ticks : Int) (c cb : Nat) (t : Int) (out : List Tm) (m : Nat) (T : FT) (S : MS) : Prop :=
  ∃ (j : Nat) (w : Value) (l : List Tm) (came : List Int), j + m = out.length ∧ TC S0 ds dv ticks c cb (t + 1) w l came T S ∧ SlF tmL 4 S (cb + 1) (T.get 11) out ∧ Came ds came (fun i d => (d : Int) + 1 < t ∨ ∃ q, q < j ∧ out[q]? = some (tmOf d i)) ∧ T.get 10 = .int .i64 t ∧ T.get 12 = .int .i64 j

def OJ3 (S0 : MS) (ds : List Nat) (dv : Value) (ticks : Int) (c cb : Nat) (t : Int) (out : List Tm) (j : Nat) (x : AExit) (T : FT) (S : MS) : Prop :=
  x = .normal ∧ ∃ (w : Value) (l : List Tm) (came : List Int), TC S0 ds dv ticks c cb (t + 1) w l came T S ∧ SlF tmL 4 S (cb + 1) (T.get 11) out ∧ Came ds came (fun i d => (d : Int) + 1 < t ∨ ∃ q, q < j + 1 ∧ out[q]? = some (tmOf d i)) ∧ T.get 10 = .int .i64 t ∧ T.get 12 = .int .i64 j

theorem outs3 {S0 S : MS} {ds : List Nat} {dv : Value} {ticks t : Int} {c cb : Nat} {out : List Tm} {T : FT} (hb : By S0 dv ds) (wf0 : S0.WF) (hn : ds.length ≤ 12) (ht : 1 ≤ t ∧ t ≤ 300) (hlen : out.length ≤ 100000)
    (hout : ∀ (j : Nat) x, out[j]? = some x → ∃ i d, ds[i]? = some d ∧ x = tmOf d i ∧ (d : Int) + 1 = t) (hlt : ∀ (i j : Nat) x y, i < j → out[i]? = some x → out[j]? = some y → x.n < y.n) (hs : OI3 S0 ds dv ticks c cb t out out.length T S) :
    MWp Try.prog O 156 (.block 4 (.loop (.seq (.seq (.region 18 (ro 3 18) false) (.cond (.tmp 70) .skip (.exit 4))) (.seq (.block 5 (.seq (.region 20 (ro 3 20) false) (.seq (.seq (.region 21 (ro 3 21) true) (.cond (.tmp 124) (.seq (.region 22 (ro 3 22) false) .ret) .skip)) (.region 23 (ro 3 23) false)))) (.region 19 (ro 3 19) false))))) T S
      (fun x T' S' => x = .normal ∧ OI3 S0 ds dv ticks c cb t out 0 T' S') := by
  refine m_block (m_loop (fun m T S' => OI3 S0 ds dv ticks c cb t out m T S') _ hs ?_)
  clear hs
  rintro m T S1 ⟨j, w, l, came, hj, hc, hv, hcm, t10, t12⟩
  have q1 := hc.c0
  have q2 := hc.ccb
  have q3 := hc.cbn
  have q4 := hc.old.1
  refine m_seq (m_seq (m_reg ?_))
  rw [reg3_18]
  simp (decide := true) only [FT.get_set, FT.setL, faS_ptr, nilS_ptr, nilS_func, nilS_yield, pickS_bool, ldS_ptr, list_cells, list_ro, partS_none, lenSl_of, lenStr_of, cvInt_of, aminmax_max, aminmax_min, abin_add, abin_sub, abin_mul, abin_eql, abin_neq, abin_lss, abin_leq, abin_gtr, abin_geq, aunary_not, aextract, Option.some.injEq, Prod.mk.injEq, Value.bool.injEq, exists_eq_left', exists_and_left, and_assoc, decide_eq_true_eq, decide_eq_false_iff_not, if_true, if_false, Nat.zero_add, Nat.add_zero, Option.bind_some, true_and, and_true, forall_const, true_implies, Bool.not_eq_true, Bool.false_eq_true, false_implies, ite_self, Nat.mul_one, t12, hv.lenSl]
  refine m_cond (t := decide ((j : Int) < out.length)) (by simp [evalT, FT.get_set, FT.setL, faS_ptr, nilS_ptr, nilS_func, nilS_yield, pickS_bool, ldS_ptr, list_cells, list_ro, partS_none, lenSl_of, lenStr_of, cvInt_of, aminmax_max, aminmax_min, abin_add, abin_sub, abin_mul, abin_eql, abin_neq, abin_lss, abin_leq, abin_gtr, abin_geq, aunary_not, aextract]) (fun hlt' => m_skip ?_) (fun hlt' => m_exit ?_)
  · have hjl : j < out.length := by have := of_decide_eq_true hlt'; omega
    simp only
    obtain ⟨x, hx⟩ : ∃ x, out[j]? = some x := ⟨_, List.getElem?_eq_getElem hjl⟩
    obtain ⟨i0, d, hd, hxe, hdt⟩ := hout j x hx
    have hi0 : i0 < ds.length := (List.getElem?_eq_some_iff.1 hd).1
    have hxn : x.n = 10 + (i0 : Int) := by rw [hxe]; rfl
    have hxt : x.t = 5 + ((d : Int) + 1) := by rw [hxe]; rfl
    obtain ⟨bb, L, p1, p2, p3⟩ := SlF.fld tm_len hv hx
    have hf1 : L[j * 4 + 1]? = some (.int .i64 (10 + (i0 : Int))) := by rw [p3 1 (by decide), tl1, hxn]
    have hf0 : L[j * 4]? = some (.int .i64 (5 + ((d : Int) + 1))) := by have := p3 0 (by decide); rw [Nat.add_zero] at this; rw [this, tl0, hxt]
    have hwk : IntKind.i64.wrap ((10 : Int) + (i0 : Int) - 10) = (i0 : Int) := by rw [wrap_i64 (by omega) (by omega)]; omega
    refine m_seq (m_block (m_seq (m_reg ?_)))
    rw [reg3_20]
    simp (decide := true) only [FT.get_set, FT.setL, faS_ptr, nilS_ptr, nilS_func, nilS_yield, pickS_bool, ldS_ptr, list_cells, list_ro, partS_none, lenSl_of, lenStr_of, cvInt_of, aminmax_max, aminmax_min, abin_add, abin_sub, abin_mul, abin_eql, abin_neq, abin_lss, abin_leq, abin_gtr, abin_geq, aunary_not, aextract, Option.some.injEq, Prod.mk.injEq, Value.bool.injEq, exists_eq_left', exists_and_left, and_assoc, decide_eq_true_eq, decide_eq_false_iff_not, if_true, if_false, Nat.zero_add, Nat.add_zero, Option.bind_some, true_and, and_true, forall_const, true_implies, Bool.not_eq_true, Bool.false_eq_true, false_implies, ite_self, Nat.mul_one, t12, p1, p2, hf1, hwk]
    obtain ⟨p, hp1, hp2⟩ := (hb.keep wf0 hc.old.2).at hd
    have hd256 := hb.small d (List.mem_of_getElem? hd)
    have hcv : IntKind.i64.wrap (d : Int) = d := wrap_i64 (by omega) (by omega)
    have hcw : IntKind.i64.wrap ((d : Int) + 1) = t := by rw [wrap_i64 (by omega) (by omega)]; omega
    have h5t : IntKind.i64.wrap ((5 : Int) + t) = 5 + t := wrap_i64 (by omega) (by omega)
    have e1 : decide ((i0 : Int) < 0) = false := decide_eq_false (by omega)
    have e2 : decide ((i0 : Int) ≥ (ds.length : Int)) = false := decide_eq_false (by omega)
    have e3 : ((5 : Int) + ((d : Int) + 1) != 5 + t) = false := by simp; omega
    -- one more came
    obtain ⟨x0, hx0, hx1⟩ := hcm.2 i0 d hd
    have hx00 : x0 = 0 := by
      rcases hx1 with ⟨_, h | ⟨q, hq, hq2⟩⟩ | ⟨h, _⟩
      · omega
      · have := hlt q j _ _ hq hq2 hx
        rw [hxn] at this
        unfold tmOf at this
        simp only at this; omega
      · exact h
    subst hx00
    have hcx : (came.map fun x => Value.int .i64 x)[i0]? = some (.int .i64 0) := by rw [List.getElem?_map, hx0]; rfl
    obtain ⟨S2, u1, u2, u3, u4⟩ := st_one (off := i0) (v := .int .i64 1) hc.cam (by rw [List.length_map, hcm.1]; exact hi0) rfl rfl
    have hwj : IntKind.i64.wrap ((j : Int) + 1) = ((j + 1 : Nat) : Int) := by rw [wrap_i64 (by omega) (by omega)]; rfl
    have hiac : iaSS 1 (.slice (some ⟨cb, 0, none⟩) ds.length ds.length) (.int .i64 (i0 : Int)) = some (.pointer (some ⟨cb, i0, none⟩)) := by rw [iaSS_of (k := .i64) (i := (i0 : Int)) (by omega) (by omega : (i0 : Int) < (ds.length : Int)), Int.toNat_natCast, Nat.zero_add, Nat.mul_one]
    have tail : ∀ (T' : FT), T'.get 124 = .bool false → T'.get 0 = dv → T'.get 1 = .int .i64 ticks → T'.get 5 = .pointer (some ⟨c, 0, none⟩) → T'.get 9 = .slice (some ⟨cb, 0, none⟩) ds.length ds.length → T'.get 10 = .int .i64 t → T'.get 11 = T.get 11 → T'.get 12 = .int .i64 j → T'.get 13 = .int .i64 i0 →
        MWp Try.prog O 156 (.seq (.cond (.tmp 124) (.seq (.region 22 (ro 3 22) false) .ret) .skip) (.region 23 (ro 3 23) false)) T' S1 (OJ3 S0 ds dv ticks c cb t out j) := by
      intro T' g124 g0 g1 g5 g9 g10 g11 g12 g13
      refine m_seq (m_cond (t := false) g124 (fun h => by cases h) (fun _ => m_skip ?_))
      simp only
      refine m_reg ?_
      rw [reg3_23]
      have hw1 : IntKind.i64.wrap ((0 : Int) + 1) = 1 := by decide
      simp (decide := true) only [FT.get_set, FT.setL, faS_ptr, nilS_ptr, nilS_func, nilS_yield, pickS_bool, ldS_ptr, list_cells, list_ro, partS_none, lenSl_of, lenStr_of, cvInt_of, aminmax_max, aminmax_min, abin_add, abin_sub, abin_mul, abin_eql, abin_neq, abin_lss, abin_leq, abin_gtr, abin_geq, aunary_not, aextract, Option.some.injEq, Prod.mk.injEq, Value.bool.injEq, exists_eq_left', exists_and_left, and_assoc, decide_eq_true_eq, decide_eq_false_iff_not, if_true, if_false, Nat.zero_add, Nat.add_zero, Option.bind_some, true_and, and_true, forall_const, true_implies, Bool.not_eq_true, Bool.false_eq_true, false_implies, ite_self, Nat.mul_one, g9, g13, hiac, list_of hc.cam, hcx, hw1]
      refine ⟨S2, u1, ?_⟩
      have hset : (came.map fun x => Value.int .i64 x).set i0 (.int .i64 1) = (came.set i0 1).map fun x => .int .i64 x := by rw [List.map_set]
      refine ⟨rfl, w, l, came.set i0 1, ⟨⟨by omega, fun y hy => by rw [u4 y (by omega)]; exact hc.old.2 y hy⟩, q1, q2, by omega, ⟨by rw [u4 c (by omega)]; exact hc.clk.1, hc.clk.2.1.keep1 fun y k' hy _ => u4 y fun e => by subst e; exact hy hc.av, hc.clk.2.2⟩, hc.hw, by rw [u2, hset], hc.av, by simp [FT.get_set, FT.setL, faS_ptr, nilS_ptr, nilS_func, nilS_yield, pickS_bool, ldS_ptr, list_cells, list_ro, partS_none, lenSl_of, lenStr_of, cvInt_of, aminmax_max, aminmax_min, abin_add, abin_sub, abin_mul, abin_eql, abin_neq, abin_lss, abin_leq, abin_gtr, abin_geq, aunary_not, aextract, g0], by simp [FT.get_set, FT.setL, faS_ptr, nilS_ptr, nilS_func, nilS_yield, pickS_bool, ldS_ptr, list_cells, list_ro, partS_none, lenSl_of, lenStr_of, cvInt_of, aminmax_max, aminmax_min, abin_add, abin_sub, abin_mul, abin_eql, abin_neq, abin_lss, abin_leq, abin_gtr, abin_geq, aunary_not, aextract, g1], by simp [FT.get_set, FT.setL, faS_ptr, nilS_ptr, nilS_func, nilS_yield, pickS_bool, ldS_ptr, list_cells, list_ro, partS_none, lenSl_of, lenStr_of, cvInt_of, aminmax_max, aminmax_min, abin_add, abin_sub, abin_mul, abin_eql, abin_neq, abin_lss, abin_leq, abin_gtr, abin_geq, aunary_not, aextract, g5], by simp [FT.get_set, FT.setL, faS_ptr, nilS_ptr, nilS_func, nilS_yield, pickS_bool, ldS_ptr, list_cells, list_ro, partS_none, lenSl_of, lenStr_of, cvInt_of, aminmax_max, aminmax_min, abin_add, abin_sub, abin_mul, abin_eql, abin_neq, abin_lss, abin_leq, abin_gtr, abin_geq, aunary_not, aextract, g9], hc.ll⟩, ?_, ⟨by rw [List.length_set]; exact hcm.1, fun i d' hd' => ?_⟩, by simp [FT.get_set, FT.setL, faS_ptr, nilS_ptr, nilS_func, nilS_yield, pickS_bool, ldS_ptr, list_cells, list_ro, partS_none, lenSl_of, lenStr_of, cvInt_of, aminmax_max, aminmax_min, abin_add, abin_sub, abin_mul, abin_eql, abin_neq, abin_lss, abin_leq, abin_gtr, abin_geq, aunary_not, aextract, g10], by simp [FT.get_set, FT.setL, faS_ptr, nilS_ptr, nilS_func, nilS_yield, pickS_bool, ldS_ptr, list_cells, list_ro, partS_none, lenSl_of, lenStr_of, cvInt_of, aminmax_max, aminmax_min, abin_add, abin_sub, abin_mul, abin_eql, abin_neq, abin_lss, abin_leq, abin_gtr, abin_geq, aunary_not, aextract, g12]⟩
      · have : SlF tmL 4 S2 (cb + 1) (T.get 11) out := hv.keep1 fun y k' hy _ => u4 y fun e => by subst e; exact hy (hv.av (Nat.lt_succ_self _))
        simpa [FT.get_set, FT.setL, faS_ptr, nilS_ptr, nilS_func, nilS_yield, pickS_bool, ldS_ptr, list_cells, list_ro, partS_none, lenSl_of, lenStr_of, cvInt_of, aminmax_max, aminmax_min, abin_add, abin_sub, abin_mul, abin_eql, abin_neq, abin_lss, abin_leq, abin_gtr, abin_geq, aunary_not, aextract, g11] using this
      · by_cases hii : i = i0
        · subst hii
          rw [hd] at hd'; cases hd'
          exact ⟨1, by rw [List.getElem?_set, if_pos rfl, if_pos (by rw [hcm.1]; exact hi0)], .inl ⟨rfl, .inr ⟨j, Nat.lt_succ_self _, by rw [hx, hxe]⟩⟩⟩
        · obtain ⟨y0, hy0, hy1⟩ := hcm.2 i d' hd'
          refine ⟨y0, by rw [List.getElem?_set, if_neg (fun e => hii e.symm)]; exact hy0, ?_⟩
          have hiff : ((d' : Int) + 1 < t ∨ ∃ q, q < j ∧ out[q]? = some (tmOf d' i)) ↔ ((d' : Int) + 1 < t ∨ ∃ q, q < j + 1 ∧ out[q]? = some (tmOf d' i)) := by
            constructor
            · rintro (h | ⟨q, h1, h2⟩)
              · exact .inl h
              · exact .inr ⟨q, by omega, h2⟩
            · rintro (h | ⟨q, h1, h2⟩)
              · exact .inl h
              · by_cases e : q = j
                · subst e
                  rw [hx, hxe] at h2
                  have := Option.some.inj h2
                  have := congrArg Tm.n this
                  unfold tmOf at this
                  simp only at this
                  exact absurd (by omega) hii
                · exact .inr ⟨q, by omega, h2⟩
          rcases hy1 with ⟨a1, a2⟩ | ⟨a1, a2⟩
          · exact .inl ⟨a1, hiff.1 a2⟩
          · exact .inr ⟨a1, fun h => a2 (hiff.2 h)⟩
    have next : ∀ (Q : AExit → FT → MS → Prop) (T' : FT) (S' : MS), OJ3 S0 ds dv ticks c cb t out j .normal T' S' → (∀ T'' S'', (∃ k', k' < m ∧ OI3 S0 ds dv ticks c cb t out k' T'' S'') → Q .normal T'' S'') → MWp Try.prog O 156 (.region 19 (ro 3 19) false) T' S' Q := by
      rintro Q T' S' ⟨_, w', l', came', h1, h2, h3, h4, h5⟩ hq
      refine m_reg ?_
      rw [reg3_19]
      simp (decide := true) only [FT.get_set, FT.setL, faS_ptr, nilS_ptr, nilS_func, nilS_yield, pickS_bool, ldS_ptr, list_cells, list_ro, partS_none, lenSl_of, lenStr_of, cvInt_of, aminmax_max, aminmax_min, abin_add, abin_sub, abin_mul, abin_eql, abin_neq, abin_lss, abin_leq, abin_gtr, abin_geq, aunary_not, aextract, Option.some.injEq, Prod.mk.injEq, Value.bool.injEq, exists_eq_left', exists_and_left, and_assoc, decide_eq_true_eq, decide_eq_false_iff_not, if_true, if_false, Nat.zero_add, Nat.add_zero, Option.bind_some, true_and, and_true, forall_const, true_implies, Bool.not_eq_true, Bool.false_eq_true, false_implies, ite_self, Nat.mul_one, h5, hwj]
      exact hq _ _ ⟨m - 1, by omega, j + 1, w', l', came', by omega, ⟨h1.old, h1.c0, h1.ccb, h1.cbn, h1.clk, h1.hw, h1.cam, h1.av, by simp [FT.get_set, FT.setL, faS_ptr, nilS_ptr, nilS_func, nilS_yield, pickS_bool, ldS_ptr, list_cells, list_ro, partS_none, lenSl_of, lenStr_of, cvInt_of, aminmax_max, aminmax_min, abin_add, abin_sub, abin_mul, abin_eql, abin_neq, abin_lss, abin_leq, abin_gtr, abin_geq, aunary_not, aextract, h1.t0], by simp [FT.get_set, FT.setL, faS_ptr, nilS_ptr, nilS_func, nilS_yield, pickS_bool, ldS_ptr, list_cells, list_ro, partS_none, lenSl_of, lenStr_of, cvInt_of, aminmax_max, aminmax_min, abin_add, abin_sub, abin_mul, abin_eql, abin_neq, abin_lss, abin_leq, abin_gtr, abin_geq, aunary_not, aextract, h1.t1], by simp [FT.get_set, FT.setL, faS_ptr, nilS_ptr, nilS_func, nilS_yield, pickS_bool, ldS_ptr, list_cells, list_ro, partS_none, lenSl_of, lenStr_of, cvInt_of, aminmax_max, aminmax_min, abin_add, abin_sub, abin_mul, abin_eql, abin_neq, abin_lss, abin_leq, abin_gtr, abin_geq, aunary_not, aextract, h1.t5], by simp [FT.get_set, FT.setL, faS_ptr, nilS_ptr, nilS_func, nilS_yield, pickS_bool, ldS_ptr, list_cells, list_ro, partS_none, lenSl_of, lenStr_of, cvInt_of, aminmax_max, aminmax_min, abin_add, abin_sub, abin_mul, abin_eql, abin_neq, abin_lss, abin_leq, abin_gtr, abin_geq, aunary_not, aextract, h1.t9], h1.ll⟩, by simpa [FT.get_set, FT.setL, faS_ptr, nilS_ptr, nilS_func, nilS_yield, pickS_bool, ldS_ptr, list_cells, list_ro, partS_none, lenSl_of, lenStr_of, cvInt_of, aminmax_max, aminmax_min, abin_add, abin_sub, abin_mul, abin_eql, abin_neq, abin_lss, abin_leq, abin_gtr, abin_geq, aunary_not, aextract] using h2, h3, by simp [FT.get_set, FT.setL, faS_ptr, nilS_ptr, nilS_func, nilS_yield, pickS_bool, ldS_ptr, list_cells, list_ro, partS_none, lenSl_of, lenStr_of, cvInt_of, aminmax_max, aminmax_min, abin_add, abin_sub, abin_mul, abin_eql, abin_neq, abin_lss, abin_leq, abin_gtr, abin_geq, aunary_not, aextract, h4], by simp [FT.get_set, FT.setL, faS_ptr, nilS_ptr, nilS_func, nilS_yield, pickS_bool, ldS_ptr, list_cells, list_ro, partS_none, lenSl_of, lenStr_of, cvInt_of, aminmax_max, aminmax_min, abin_add, abin_sub, abin_mul, abin_eql, abin_neq, abin_lss, abin_leq, abin_gtr, abin_geq, aunary_not, aextract]⟩
    refine MWp.mono (Q := OJ3 S0 ds dv ticks c cb t out j) (m_assoc2 (m_seq (m_draw ?_))) ?_
    · rw [reg3_21]
      by_cases hj0 : j = 0
      · subst hj0
        have e4 : decide (((0 : Nat) : Int) > 0) = false := by decide
        simp (decide := true) only [FT.get_set, FT.setL, faS_ptr, nilS_ptr, nilS_func, nilS_yield, pickS_bool, ldS_ptr, list_cells, list_ro, partS_none, lenSl_of, lenStr_of, cvInt_of, aminmax_max, aminmax_min, abin_add, abin_sub, abin_mul, abin_eql, abin_neq, abin_lss, abin_leq, abin_gtr, abin_geq, aunary_not, aextract, Option.some.injEq, Prod.mk.injEq, Value.bool.injEq, exists_eq_left', exists_and_left, and_assoc, decide_eq_true_eq, decide_eq_false_iff_not, if_true, if_false, Nat.zero_add, Nat.add_zero, Option.bind_some, true_and, and_true, forall_const, true_implies, Bool.not_eq_true, Bool.false_eq_true, false_implies, ite_self, Nat.mul_one, hc.t0, t10, t12, hb.len, e1, e2, hp1, hp2, cvInt_of, hcv, hcw, bne_self_eq_false, p1, p2, hf0, h5t, e3, e4]
        exact tail _ (by simp [FT.get_set, FT.setL, faS_ptr, nilS_ptr, nilS_func, nilS_yield, pickS_bool, ldS_ptr, list_cells, list_ro, partS_none, lenSl_of, lenStr_of, cvInt_of, aminmax_max, aminmax_min, abin_add, abin_sub, abin_mul, abin_eql, abin_neq, abin_lss, abin_leq, abin_gtr, abin_geq, aunary_not, aextract]) (by simp [FT.get_set, FT.setL, faS_ptr, nilS_ptr, nilS_func, nilS_yield, pickS_bool, ldS_ptr, list_cells, list_ro, partS_none, lenSl_of, lenStr_of, cvInt_of, aminmax_max, aminmax_min, abin_add, abin_sub, abin_mul, abin_eql, abin_neq, abin_lss, abin_leq, abin_gtr, abin_geq, aunary_not, aextract, hc.t0]) (by simp [FT.get_set, FT.setL, faS_ptr, nilS_ptr, nilS_func, nilS_yield, pickS_bool, ldS_ptr, list_cells, list_ro, partS_none, lenSl_of, lenStr_of, cvInt_of, aminmax_max, aminmax_min, abin_add, abin_sub, abin_mul, abin_eql, abin_neq, abin_lss, abin_leq, abin_gtr, abin_geq, aunary_not, aextract, hc.t1]) (by simp [FT.get_set, FT.setL, faS_ptr, nilS_ptr, nilS_func, nilS_yield, pickS_bool, ldS_ptr, list_cells, list_ro, partS_none, lenSl_of, lenStr_of, cvInt_of, aminmax_max, aminmax_min, abin_add, abin_sub, abin_mul, abin_eql, abin_neq, abin_lss, abin_leq, abin_gtr, abin_geq, aunary_not, aextract, hc.t5]) (by simp [FT.get_set, FT.setL, faS_ptr, nilS_ptr, nilS_func, nilS_yield, pickS_bool, ldS_ptr, list_cells, list_ro, partS_none, lenSl_of, lenStr_of, cvInt_of, aminmax_max, aminmax_min, abin_add, abin_sub, abin_mul, abin_eql, abin_neq, abin_lss, abin_leq, abin_gtr, abin_geq, aunary_not, aextract, hc.t9]) (by simp [FT.get_set, FT.setL, faS_ptr, nilS_ptr, nilS_func, nilS_yield, pickS_bool, ldS_ptr, list_cells, list_ro, partS_none, lenSl_of, lenStr_of, cvInt_of, aminmax_max, aminmax_min, abin_add, abin_sub, abin_mul, abin_eql, abin_neq, abin_lss, abin_leq, abin_gtr, abin_geq, aunary_not, aextract, t10]) (by simp [FT.get_set, FT.setL, faS_ptr, nilS_ptr, nilS_func, nilS_yield, pickS_bool, ldS_ptr, list_cells, list_ro, partS_none, lenSl_of, lenStr_of, cvInt_of, aminmax_max, aminmax_min, abin_add, abin_sub, abin_mul, abin_eql, abin_neq, abin_lss, abin_leq, abin_gtr, abin_geq, aunary_not, aextract]) (by simp [FT.get_set, FT.setL, faS_ptr, nilS_ptr, nilS_func, nilS_yield, pickS_bool, ldS_ptr, list_cells, list_ro, partS_none, lenSl_of, lenStr_of, cvInt_of, aminmax_max, aminmax_min, abin_add, abin_sub, abin_mul, abin_eql, abin_neq, abin_lss, abin_leq, abin_gtr, abin_geq, aunary_not, aextract, t12]) (by simp [FT.get_set, FT.setL, faS_ptr, nilS_ptr, nilS_func, nilS_yield, pickS_bool, ldS_ptr, list_cells, list_ro, partS_none, lenSl_of, lenStr_of, cvInt_of, aminmax_max, aminmax_min, abin_add, abin_sub, abin_mul, abin_eql, abin_neq, abin_lss, abin_leq, abin_gtr, abin_geq, aunary_not, aextract])
      · have e4 : decide ((j : Int) > 0) = true := decide_eq_true (by omega)
        have hwjm : IntKind.i64.wrap ((j : Int) - 1) = ((j - 1 : Nat) : Int) := by rw [wrap_i64 (by omega) (by omega)]; omega
        obtain ⟨y, hy⟩ : ∃ y, out[j - 1]? = some y := ⟨_, List.getElem?_eq_getElem (by omega)⟩
        obtain ⟨bb', L', p1', p2', p3'⟩ := SlF.fld tm_len hv hy
        have hyx := hlt (j - 1) j y x (by omega) hy hx
        have hf1' : L'[(j - 1) * 4 + 1]? = some (.int .i64 y.n) := by rw [p3' 1 (by decide), tl1]
        have e5 : decide (y.n ≥ 10 + (i0 : Int)) = false := decide_eq_false (by omega)
        simp (decide := true) only [FT.get_set, FT.setL, faS_ptr, nilS_ptr, nilS_func, nilS_yield, pickS_bool, ldS_ptr, list_cells, list_ro, partS_none, lenSl_of, lenStr_of, cvInt_of, aminmax_max, aminmax_min, abin_add, abin_sub, abin_mul, abin_eql, abin_neq, abin_lss, abin_leq, abin_gtr, abin_geq, aunary_not, aextract, Option.some.injEq, Prod.mk.injEq, Value.bool.injEq, exists_eq_left', exists_and_left, and_assoc, decide_eq_true_eq, decide_eq_false_iff_not, if_true, if_false, Nat.zero_add, Nat.add_zero, Option.bind_some, true_and, and_true, forall_const, true_implies, Bool.not_eq_true, Bool.false_eq_true, false_implies, ite_self, Nat.mul_one, hc.t0, t10, t12, hb.len, e1, e2, hp1, hp2, cvInt_of, hcv, hcw, bne_self_eq_false, p1, p2, hf0, hf1, h5t, e3, e4, hwjm, p1', p2', hf1', e5]
        exact tail _ (by simp [FT.get_set, FT.setL, faS_ptr, nilS_ptr, nilS_func, nilS_yield, pickS_bool, ldS_ptr, list_cells, list_ro, partS_none, lenSl_of, lenStr_of, cvInt_of, aminmax_max, aminmax_min, abin_add, abin_sub, abin_mul, abin_eql, abin_neq, abin_lss, abin_leq, abin_gtr, abin_geq, aunary_not, aextract]) (by simp [FT.get_set, FT.setL, faS_ptr, nilS_ptr, nilS_func, nilS_yield, pickS_bool, ldS_ptr, list_cells, list_ro, partS_none, lenSl_of, lenStr_of, cvInt_of, aminmax_max, aminmax_min, abin_add, abin_sub, abin_mul, abin_eql, abin_neq, abin_lss, abin_leq, abin_gtr, abin_geq, aunary_not, aextract, hc.t0]) (by simp [FT.get_set, FT.setL, faS_ptr, nilS_ptr, nilS_func, nilS_yield, pickS_bool, ldS_ptr, list_cells, list_ro, partS_none, lenSl_of, lenStr_of, cvInt_of, aminmax_max, aminmax_min, abin_add, abin_sub, abin_mul, abin_eql, abin_neq, abin_lss, abin_leq, abin_gtr, abin_geq, aunary_not, aextract, hc.t1]) (by simp [FT.get_set, FT.setL, faS_ptr, nilS_ptr, nilS_func, nilS_yield, pickS_bool, ldS_ptr, list_cells, list_ro, partS_none, lenSl_of, lenStr_of, cvInt_of, aminmax_max, aminmax_min, abin_add, abin_sub, abin_mul, abin_eql, abin_neq, abin_lss, abin_leq, abin_gtr, abin_geq, aunary_not, aextract, hc.t5]) (by simp [FT.get_set, FT.setL, faS_ptr, nilS_ptr, nilS_func, nilS_yield, pickS_bool, ldS_ptr, list_cells, list_ro, partS_none, lenSl_of, lenStr_of, cvInt_of, aminmax_max, aminmax_min, abin_add, abin_sub, abin_mul, abin_eql, abin_neq, abin_lss, abin_leq, abin_gtr, abin_geq, aunary_not, aextract, hc.t9]) (by simp [FT.get_set, FT.setL, faS_ptr, nilS_ptr, nilS_func, nilS_yield, pickS_bool, ldS_ptr, list_cells, list_ro, partS_none, lenSl_of, lenStr_of, cvInt_of, aminmax_max, aminmax_min, abin_add, abin_sub, abin_mul, abin_eql, abin_neq, abin_lss, abin_leq, abin_gtr, abin_geq, aunary_not, aextract, t10]) (by simp [FT.get_set, FT.setL, faS_ptr, nilS_ptr, nilS_func, nilS_yield, pickS_bool, ldS_ptr, list_cells, list_ro, partS_none, lenSl_of, lenStr_of, cvInt_of, aminmax_max, aminmax_min, abin_add, abin_sub, abin_mul, abin_eql, abin_neq, abin_lss, abin_leq, abin_gtr, abin_geq, aunary_not, aextract]) (by simp [FT.get_set, FT.setL, faS_ptr, nilS_ptr, nilS_func, nilS_yield, pickS_bool, ldS_ptr, list_cells, list_ro, partS_none, lenSl_of, lenStr_of, cvInt_of, aminmax_max, aminmax_min, abin_add, abin_sub, abin_mul, abin_eql, abin_neq, abin_lss, abin_leq, abin_gtr, abin_geq, aunary_not, aextract, t12]) (by simp [FT.get_set, FT.setL, faS_ptr, nilS_ptr, nilS_func, nilS_yield, pickS_bool, ldS_ptr, list_cells, list_ro, partS_none, lenSl_of, lenStr_of, cvInt_of, aminmax_max, aminmax_min, abin_add, abin_sub, abin_mul, abin_eql, abin_neq, abin_lss, abin_leq, abin_gtr, abin_geq, aunary_not, aextract])
    · rintro x' T' S' h
      obtain rfl := h.1
      simp only
      exact next _ T' S' h fun T'' S'' h => h
  · have hjl : ¬ j < out.length := by have := of_decide_eq_false hlt'; omega
    simp only [if_true]
    have fin : OI3 S0 ds dv ticks c cb t out 0 ((((T.set (.int .i64 j) 67).set (T.get 11) 68).set (.int .i64 out.length) 69).set (.bool (decide ((j : Int) < out.length))) 70) S1 := ⟨j, w, l, came, by omega, ⟨hc.old, q1, q2, q3, hc.clk, hc.hw, hc.cam, hc.av, by simp [FT.get_set, FT.setL, faS_ptr, nilS_ptr, nilS_func, nilS_yield, pickS_bool, ldS_ptr, list_cells, list_ro, partS_none, lenSl_of, lenStr_of, cvInt_of, aminmax_max, aminmax_min, abin_add, abin_sub, abin_mul, abin_eql, abin_neq, abin_lss, abin_leq, abin_gtr, abin_geq, aunary_not, aextract, hc.t0], by simp [FT.get_set, FT.setL, faS_ptr, nilS_ptr, nilS_func, nilS_yield, pickS_bool, ldS_ptr, list_cells, list_ro, partS_none, lenSl_of, lenStr_of, cvInt_of, aminmax_max, aminmax_min, abin_add, abin_sub, abin_mul, abin_eql, abin_neq, abin_lss, abin_leq, abin_gtr, abin_geq, aunary_not, aextract, hc.t1], by simp [FT.get_set, FT.setL, faS_ptr, nilS_ptr, nilS_func, nilS_yield, pickS_bool, ldS_ptr, list_cells, list_ro, partS_none, lenSl_of, lenStr_of, cvInt_of, aminmax_max, aminmax_min, abin_add, abin_sub, abin_mul, abin_eql, abin_neq, abin_lss, abin_leq, abin_gtr, abin_geq, aunary_not, aextract, hc.t5], by simp [FT.get_set, FT.setL, faS_ptr, nilS_ptr, nilS_func, nilS_yield, pickS_bool, ldS_ptr, list_cells, list_ro, partS_none, lenSl_of, lenStr_of, cvInt_of, aminmax_max, aminmax_min, abin_add, abin_sub, abin_mul, abin_eql, abin_neq, abin_lss, abin_leq, abin_gtr, abin_geq, aunary_not, aextract, hc.t9], hc.ll⟩, by simpa [FT.get_set, FT.setL, faS_ptr, nilS_ptr, nilS_func, nilS_yield, pickS_bool, ldS_ptr, list_cells, list_ro, partS_none, lenSl_of, lenStr_of, cvInt_of, aminmax_max, aminmax_min, abin_add, abin_sub, abin_mul, abin_eql, abin_neq, abin_lss, abin_leq, abin_gtr, abin_geq, aunary_not, aextract] using hv, hcm, by simp [FT.get_set, FT.setL, faS_ptr, nilS_ptr, nilS_func, nilS_yield, pickS_bool, ldS_ptr, list_cells, list_ro, partS_none, lenSl_of, lenStr_of, cvInt_of, aminmax_max, aminmax_min, abin_add, abin_sub, abin_mul, abin_eql, abin_neq, abin_lss, abin_leq, abin_gtr, abin_geq, aunary_not, aextract, t10], by simp [FT.get_set, FT.setL, faS_ptr, nilS_ptr, nilS_func, nilS_yield, pickS_bool, ldS_ptr, list_cells, list_ro, partS_none, lenSl_of, lenStr_of, cvInt_of, aminmax_max, aminmax_min, abin_add, abin_sub, abin_mul, abin_eql, abin_neq, abin_lss, abin_leq, abin_gtr, abin_geq, aunary_not, aextract, t12]⟩
    first | exact fin | exact ⟨rfl, fin⟩
end Go.Proofs.Ythkmkfgfabjhnaa

