/-
  The walk through the outbox's code: what its functions do to memory, part Bn3. Nothing is asked.
-/
import Derived.Test.YtikdcdccpbnaeaaBn2
import Derived.Test.YtikdcdccpbnaeaaOn3
set_option linter.all false
namespace Go.Proofs.Ytikdcdccpbnaeaa
open Go Go.Ag
set_option linter.unusedVariables false
set_option maxRecDepth 100000

theorem neq_em0 (x y : Operand) (a b : Em) : abin Try.prog .neq 34 x y (.agg (emL a).toArray) (.agg (emL b).toArray) =
  (if (a.1 == b.1) = true then (if (a.2 == b.2) = true then some true else some false) else some false : Option Bool).map fun r => .bool (!r) := by kernel_rfl
theorem neq_em (x y : Operand) (a : Em) : abin Try.prog .neq 34 x y (.agg (emL a).toArray) (.agg (emL a).toArray) = some (.bool false) := by
  rw [neq_em0]
  have h2 : (a.2 == a.2) = true := bytes_refl a.2
  have h1 : (a.1 == a.1) = true := by simp
  rw [h1, h2]; rfl

/-- texts that are only read -/
structure Txs (S : MS) (tv : Value) (ts : List ByteArray) : Prop where
  len : lenSl tv = some (.int .i64 ts.length)
  cells : ts ≠ [] → ∃ ab cap l, tv = .slice (some ⟨ab, 0, none⟩) ts.length cap ∧ S.list ab = some l ∧ ∀ (k : Nat) t, ts[k]? = some t → l[k]? = some (.string t)
theorem Txs.keep {S S' : MS} {tv : Value} {ts : List ByteArray} (h : Txs S tv ts) (wf : S.WF) (hk : ∀ x, x < S.n → S'.m x = S.m x) : Txs S' tv ts :=
  ⟨h.len, fun hne => by obtain ⟨ab, cap, l, h1, h2, h3⟩ := h.cells hne; exact ⟨ab, cap, l, h1, list_keep wf hk h2, h3⟩⟩
theorem Txs.at {S : MS} {tv : Value} {ts : List ByteArray} (h : Txs S tv ts) {i : Nat} {t : ByteArray} (hd : ts[i]? = some t) : ∃ p, iaSS 1 tv (.int .i64 (i : Int)) = some p ∧ ldS none S p = some (.string t) := by
  have hlt := (List.getElem?_eq_some_iff.1 hd).1
  obtain ⟨ab, cap, l, h1, h2, h3⟩ := h.cells (fun e => by rw [e] at hd; cases hd)
  refine ⟨.pointer (some ⟨ab, i, none⟩), ?_, ?_⟩
  · rw [h1, iaSS_of (k := .i64) (i := (i : Int)) (by omega) (by omega : (i : Int) < (ts.length : Int)), Int.toNat_natCast, Nat.zero_add, Nat.mul_one]
  · rw [ldS_ptr, h2]
    exact h3 i t hd

/-- what is sent: texts with their numbers -/
def wl : List ByteArray → Nat → List Em
  | [], _ => []
  | t :: ts, n => (((n + 1 : Nat) : Int), t) :: wl ts (n + 1)
theorem wl_len : ∀ (ts : List ByteArray) (n : Nat), (wl ts n).length = ts.length := by
  intro ts
  induction ts with
  | nil => intro n; rfl
  | cons t ts ih => intro n; simp [wl, ih]
theorem wl_at : ∀ (ts : List ByteArray) (n k : Nat), (wl ts n)[k]? = (ts[k]?).map fun t => (((n + k + 1 : Nat) : Int), t) := by
  intro ts
  induction ts with
  | nil => intro n k; rfl
  | cons t ts ih =>
    intro n k
    cases k with
    | zero => rfl
    | succ k =>
      show (wl ts (n + 1))[k]? = (ts[k]?).map _
      rw [ih, show n + 1 + k + 1 = n + (k + 1) + 1 by omega]
theorem wl_app : ∀ (ts : List ByteArray) (n : Nat) (t : ByteArray), wl (ts ++ [t]) n = wl ts n ++ [(((n + ts.length + 1 : Nat) : Int), t)] := by
  intro ts
  induction ts with
  | nil => intro n t; rfl
  | cons x ts ih =>
    intro n t
    show _ :: wl (ts ++ [t]) (n + 1) = _ :: (wl ts (n + 1) ++ _)
    rw [ih, show n + 1 + ts.length + 1 = n + (x :: ts).length + 1 by simp; omega]
theorem wl_mem {ts : List ByteArray} {p : Em} : p ∈ wl ts 0 ↔ ∃ k, ∃ t, ts[k]? = some t ∧ p = (((k + 1 : Nat) : Int), t) := by
  rw [List.mem_iff_getElem?]
  constructor
  · rintro ⟨k, hk⟩
    rw [wl_at] at hk
    cases ht : ts[k]? with
    | none => rw [ht] at hk; cases hk
    | some t => rw [ht] at hk; cases hk; exact ⟨k, t, ht, by rw [Nat.zero_add]⟩
  · rintro ⟨k, t, h1, rfl⟩
    exact ⟨k, by rw [wl_at, h1, Nat.zero_add]; rfl⟩
theorem wl_le {ts : List ByteArray} {p : Em} (h : p ∈ wl ts 0) : 1 ≤ p.1 ∧ p.1 ≤ ts.length := by
  obtain ⟨k, t, h1, rfl⟩ := wl_mem.1 h
  have := (List.getElem?_eq_some_iff.1 h1).1
  simp only; omega
theorem wl_uniq {ts : List ByteArray} {k : Int} {t t' : ByteArray} (h : (k, t) ∈ wl ts 0) (h' : (k, t') ∈ wl ts 0) : t = t' := by
  obtain ⟨i, x, h1, e⟩ := wl_mem.1 h
  obtain ⟨j, y, h2, e'⟩ := wl_mem.1 h'
  cases e
  have : i = j := by have := (Prod.mk.inj e').1; omega
  subst this
  rw [h1] at h2
  cases h2
  exact (Prod.mk.inj e').2.symm
theorem ab_ab (n a : Int) (l : List Em) : ab n (ab a l) = ab (max n a) l := by
  unfold ab
  rw [List.filter_filter]
  congr 1
  funext x
  rw [← Bool.decide_and]
  congr 1
  apply propext
  omega
theorem mem_ab {n : Int} {l : List Em} {p : Em} : p ∈ ab n l ↔ p ∈ l ∧ p.1 > n := by
  unfold ab
  rw [List.mem_filter, decide_eq_true_eq]
theorem ab_zero (ts : List ByteArray) : ab 0 (wl ts 0) = wl ts 0 := by
  unfold ab
  rw [List.filter_eq_self]
  intro p hp
  have := (wl_le hp).1
  simp; omega

/-- while texts are added -/
structure AD (S0 : MS) (ts : List ByteArray) (b r mb : Nat) (k : Nat) (wv : Value) (S : MS) : Prop where
  old : Old S0 S
  b0 : S0.n ≤ b
  bn : b + 1 ≤ S.n
  r0 : S0.n ≤ r
  m0 : S0.n ≤ mb
  box : IsB S b (b + 1) ((k + 1 : Nat) : Int) wv (wl (ts.take k) 0)
  rcv : IsR S r mb []
  ap : b ≠ r ∧ b ≠ mb
  av : Av wv r ∧ Av wv mb
def ADI (S0 : MS) (ts : List ByteArray) (tv dv : Value) (b r mb : Nat) (m : Nat) (T : FT) (S : MS) : Prop :=
  ∃ (k : Nat) (wv : Value), k + m = ts.length ∧ AD S0 ts b r mb k wv S ∧ T.get 0 = tv ∧ T.get 1 = dv ∧ T.get 5 = .pointer (some ⟨b, 0, none⟩) ∧ T.get 6 = .pointer (some ⟨r, 0, none⟩) ∧ T.get 7 = .int .i64 k

theorem adds3 {S0 S : MS} {ts : List ByteArray} {tv dv : Value} {b r mb : Nat} {T : FT} (ht : Txs S0 tv ts) (wf0 : S0.WF) (hn : ts.length ≤ 40) (hs : ADI S0 ts tv dv b r mb ts.length T S) :
    MWp Try.prog O 160 (.block 0 (.loop (.seq (.seq (.region 7 (ro 3 7) false) (.cond (.tmp 30) .skip (.exit 0))) (.seq (.block 1 (.seq (.region 9 (ro 3 9) false) (.cond (.tmp 49) (.seq (.region 10 (ro 3 10) false) .ret) .skip))) (.region 8 (ro 3 8) false))))) T S
      (fun x T' S' => (x = .ret ∧ T'.get 4 = .bool true) ∨ (x = .normal ∧ ADI S0 ts tv dv b r mb 0 T' S')) := by
  refine m_block (m_loop (fun m T S' => ADI S0 ts tv dv b r mb m T S') _ hs ?_)
  clear hs
  rintro m T S1 ⟨k, wv, hk, hc, t0, t1, t5, t6, t7⟩
  refine m_seq (m_seq (m_reg ?_))
  rw [reg3_7]
  simp (decide := true) only [FT.get_set, FT.setL, faS_ptr, nilS_ptr, nilS_func, nilS_yield, pickS_bool, ldS_ptr, list_cells, list_ro, partS_none, lenSl_of, lenStr_of, cvInt_of, aminmax_max, aminmax_min, abin_add, abin_sub, abin_mul, abin_eql, abin_neq, abin_lss, abin_leq, abin_gtr, abin_geq, aunary_not, aextract, Option.some.injEq, Prod.mk.injEq, Value.bool.injEq, exists_eq_left', exists_and_left, and_assoc, decide_eq_true_eq, decide_eq_false_iff_not, if_true, if_false, Nat.zero_add, Nat.add_zero, Option.bind_some, true_and, and_true, forall_const, true_implies, Bool.not_eq_true, Bool.false_eq_true, false_implies, ite_self, Nat.mul_one, t7, t0, ht.len]
  refine m_cond (t := decide ((k : Int) < ts.length)) (by simp [evalT, FT.get_set, FT.setL, faS_ptr, nilS_ptr, nilS_func, nilS_yield, pickS_bool, ldS_ptr, list_cells, list_ro, partS_none, lenSl_of, lenStr_of, cvInt_of, aminmax_max, aminmax_min, abin_add, abin_sub, abin_mul, abin_eql, abin_neq, abin_lss, abin_leq, abin_gtr, abin_geq, aunary_not, aextract]) (fun hlt => m_skip ?_) (fun hlt => m_exit ?_)
  · have hlt : k < ts.length := by have := of_decide_eq_true hlt; omega
    simp only
    obtain ⟨t, hd⟩ : ∃ d, ts[k]? = some d := ⟨_, List.getElem?_eq_getElem hlt⟩
    obtain ⟨p, hp1, hp2⟩ := (ht.keep wf0 hc.old.2).at hd
    have hwk : IntKind.i64.wrap ((k : Int) + 1) = ((k + 1 : Nat) : Int) := by rw [wrap_i64 (by omega) (by omega)]; rfl
    refine m_wf fun wf1 => m_seq (m_block (m_seq (m_reg ?_)))
    rw [reg3_9]
    by_cases hbig : (t.size : Int) > 100
    · have e1 : decide ((t.size : Int) > 100) = true := decide_eq_true hbig
      simp (decide := true) only [FT.get_set, FT.setL, faS_ptr, nilS_ptr, nilS_func, nilS_yield, pickS_bool, ldS_ptr, list_cells, list_ro, partS_none, lenSl_of, lenStr_of, cvInt_of, aminmax_max, aminmax_min, abin_add, abin_sub, abin_mul, abin_eql, abin_neq, abin_lss, abin_leq, abin_gtr, abin_geq, aunary_not, aextract, Option.some.injEq, Prod.mk.injEq, Value.bool.injEq, exists_eq_left', exists_and_left, and_assoc, decide_eq_true_eq, decide_eq_false_iff_not, if_true, if_false, Nat.zero_add, Nat.add_zero, Option.bind_some, true_and, and_true, forall_const, true_implies, Bool.not_eq_true, Bool.false_eq_true, false_implies, ite_self, Nat.mul_one, t0, t7, hp1, hp2, e1]
      refine m_cond (t := true) (by simp [evalT, FT.get_set, FT.setL, faS_ptr, nilS_ptr, nilS_func, nilS_yield, pickS_bool, ldS_ptr, list_cells, list_ro, partS_none, lenSl_of, lenStr_of, cvInt_of, aminmax_max, aminmax_min, abin_add, abin_sub, abin_mul, abin_eql, abin_neq, abin_lss, abin_leq, abin_gtr, abin_geq, aunary_not, aextract]) (fun _ => ?_) (fun h => by cases h)
      refine m_seq (m_reg ?_)
      rw [reg3_10]
      simp (decide := true) only [FT.get_set, FT.setL, faS_ptr, nilS_ptr, nilS_func, nilS_yield, pickS_bool, ldS_ptr, list_cells, list_ro, partS_none, lenSl_of, lenStr_of, cvInt_of, aminmax_max, aminmax_min, abin_add, abin_sub, abin_mul, abin_eql, abin_neq, abin_lss, abin_leq, abin_gtr, abin_geq, aunary_not, aextract, Option.some.injEq, Prod.mk.injEq, Value.bool.injEq, exists_eq_left', exists_and_left, and_assoc, decide_eq_true_eq, decide_eq_false_iff_not, if_true, if_false, Nat.zero_add, Nat.add_zero, Option.bind_some, true_and, and_true, forall_const, true_implies, Bool.not_eq_true, Bool.false_eq_true, false_implies, ite_self, Nat.mul_one, t0, t7, hp1, hp2, e1]
      exact m_ret (.inl ⟨rfl, by simp [FT.get_set, FT.setL, faS_ptr, nilS_ptr, nilS_func, nilS_yield, pickS_bool, ldS_ptr, list_cells, list_ro, partS_none, lenSl_of, lenStr_of, cvInt_of, aminmax_max, aminmax_min, abin_add, abin_sub, abin_mul, abin_eql, abin_neq, abin_lss, abin_leq, abin_gtr, abin_geq, aunary_not, aextract]⟩)
    · have e1 : decide ((t.size : Int) > 100) = false := decide_eq_false hbig
      simp (decide := true) only [FT.get_set, FT.setL, faS_ptr, nilS_ptr, nilS_func, nilS_yield, pickS_bool, ldS_ptr, list_cells, list_ro, partS_none, lenSl_of, lenStr_of, cvInt_of, aminmax_max, aminmax_min, abin_add, abin_sub, abin_mul, abin_eql, abin_neq, abin_lss, abin_leq, abin_gtr, abin_geq, aunary_not, aextract, Option.some.injEq, Prod.mk.injEq, Value.bool.injEq, exists_eq_left', exists_and_left, and_assoc, decide_eq_true_eq, decide_eq_false_iff_not, if_true, if_false, Nat.zero_add, Nat.add_zero, Option.bind_some, true_and, and_true, forall_const, true_implies, Bool.not_eq_true, Bool.false_eq_true, false_implies, ite_self, Nat.mul_one, t0, t5, t7, hp1, hp2, e1]
      have hlw : (wl (ts.take k) 0).length ≤ 1000 := by rw [wl_len, List.length_take]; omega
      refine add8 (t := t) hc.box hc.bn ⟨by omega, by omega⟩ hlw fun w' S2 g1 g2 g3 h2 => ?_
      simp (decide := true) only [FT.get_set, FT.setL, faS_ptr, nilS_ptr, nilS_func, nilS_yield, pickS_bool, ldS_ptr, list_cells, list_ro, partS_none, lenSl_of, lenStr_of, cvInt_of, aminmax_max, aminmax_min, abin_add, abin_sub, abin_mul, abin_eql, abin_neq, abin_lss, abin_leq, abin_gtr, abin_geq, aunary_not, aextract, Option.some.injEq, Prod.mk.injEq, Value.bool.injEq, exists_eq_left', exists_and_left, and_assoc, decide_eq_true_eq, decide_eq_false_iff_not, if_true, if_false, Nat.zero_add, Nat.add_zero, Option.bind_some, true_and, and_true, forall_const, true_implies, Bool.not_eq_true, Bool.false_eq_true, false_implies, ite_self, Nat.mul_one, hwk, bne_self_eq_false]
      refine m_cond (t := false) (by simp [evalT, FT.get_set, FT.setL, faS_ptr, nilS_ptr, nilS_func, nilS_yield, pickS_bool, ldS_ptr, list_cells, list_ro, partS_none, lenSl_of, lenStr_of, cvInt_of, aminmax_max, aminmax_min, abin_add, abin_sub, abin_mul, abin_eql, abin_neq, abin_lss, abin_leq, abin_gtr, abin_geq, aunary_not, aextract]) (fun h => by cases h) (fun _ => m_skip ?_)
      simp only
      refine m_reg ?_
      rw [reg3_8]
      simp (decide := true) only [FT.get_set, FT.setL, faS_ptr, nilS_ptr, nilS_func, nilS_yield, pickS_bool, ldS_ptr, list_cells, list_ro, partS_none, lenSl_of, lenStr_of, cvInt_of, aminmax_max, aminmax_min, abin_add, abin_sub, abin_mul, abin_eql, abin_neq, abin_lss, abin_leq, abin_gtr, abin_geq, aunary_not, aextract, Option.some.injEq, Prod.mk.injEq, Value.bool.injEq, exists_eq_left', exists_and_left, and_assoc, decide_eq_true_eq, decide_eq_false_iff_not, if_true, if_false, Nat.zero_add, Nat.add_zero, Option.bind_some, true_and, and_true, forall_const, true_implies, Bool.not_eq_true, Bool.false_eq_true, false_implies, ite_self, Nat.mul_one, t7, hwk]
      have hb0 := hc.b0
      have hoc := hc.old.1
      have hrn := wf1 _ _ hc.rcv.rc
      have hmn := wf1 _ _ hc.rcv.mp
      refine ⟨m - 1, by omega, k + 1, w', by omega, ⟨⟨by omega, fun y hy => ?_⟩, hb0, by have := hc.bn; omega, hc.r0, hc.m0, ?_, hc.rcv.keep ?_ ?_, hc.ap, ⟨g3 _ hrn hc.av.1, g3 _ hmn hc.av.2⟩⟩, by simp [FT.get_set, FT.setL, faS_ptr, nilS_ptr, nilS_func, nilS_yield, pickS_bool, ldS_ptr, list_cells, list_ro, partS_none, lenSl_of, lenStr_of, cvInt_of, aminmax_max, aminmax_min, abin_add, abin_sub, abin_mul, abin_eql, abin_neq, abin_lss, abin_leq, abin_gtr, abin_geq, aunary_not, aextract, t0], by simp [FT.get_set, FT.setL, faS_ptr, nilS_ptr, nilS_func, nilS_yield, pickS_bool, ldS_ptr, list_cells, list_ro, partS_none, lenSl_of, lenStr_of, cvInt_of, aminmax_max, aminmax_min, abin_add, abin_sub, abin_mul, abin_eql, abin_neq, abin_lss, abin_leq, abin_gtr, abin_geq, aunary_not, aextract, t1], by simp [FT.get_set, FT.setL, faS_ptr, nilS_ptr, nilS_func, nilS_yield, pickS_bool, ldS_ptr, list_cells, list_ro, partS_none, lenSl_of, lenStr_of, cvInt_of, aminmax_max, aminmax_min, abin_add, abin_sub, abin_mul, abin_eql, abin_neq, abin_lss, abin_leq, abin_gtr, abin_geq, aunary_not, aextract, t5], by simp [FT.get_set, FT.setL, faS_ptr, nilS_ptr, nilS_func, nilS_yield, pickS_bool, ldS_ptr, list_cells, list_ro, partS_none, lenSl_of, lenStr_of, cvInt_of, aminmax_max, aminmax_min, abin_add, abin_sub, abin_mul, abin_eql, abin_neq, abin_lss, abin_leq, abin_gtr, abin_geq, aunary_not, aextract, t6], by simp [FT.get_set, FT.setL, faS_ptr, nilS_ptr, nilS_func, nilS_yield, pickS_bool, ldS_ptr, list_cells, list_ro, partS_none, lenSl_of, lenStr_of, cvInt_of, aminmax_max, aminmax_min, abin_add, abin_sub, abin_mul, abin_eql, abin_neq, abin_lss, abin_leq, abin_gtr, abin_geq, aunary_not, aextract]⟩
      · rw [g2 y (by omega) (by omega) (hc.box.w.av (by omega))]; exact hc.old.2 y hy
      · have e2 : ts.take (k + 1) = ts.take k ++ [t] := by rw [List.take_add_one, hd]; rfl
        rw [e2, wl_app, List.length_take, Nat.min_eq_left (by omega), Nat.zero_add]
        have e3 : (((k + 1 : Nat) : Int) + 1) = ((k + 1 + 1 : Nat) : Int) := by omega
        rw [e3] at h2
        exact h2
      · exact g2 _ hrn (Ne.symm hc.ap.1) hc.av.1
      · exact g2 _ hmn (Ne.symm hc.ap.2) hc.av.2
  · have hlt : ¬ k < ts.length := by have := of_decide_eq_false hlt; omega
    have H : ∀ T' : FT, T'.get 0 = T.get 0 → T'.get 1 = T.get 1 → T'.get 5 = T.get 5 → T'.get 6 = T.get 6 → T'.get 7 = T.get 7 → ADI S0 ts tv dv b r mb 0 T' S1 := fun T' q0 q1 q5 q6 q7 => ⟨k, wv, by omega, hc, q0.trans t0, q1.trans t1, q5.trans t5, q6.trans t6, q7.trans t7⟩
    simp only [if_true]
    refine .inr ?_
    first
      | exact ⟨rfl, H _ (by simp [FT.get_set, FT.setL, faS_ptr, nilS_ptr, nilS_func, nilS_yield, pickS_bool, ldS_ptr, list_cells, list_ro, partS_none, lenSl_of, lenStr_of, cvInt_of, aminmax_max, aminmax_min, abin_add, abin_sub, abin_mul, abin_eql, abin_neq, abin_lss, abin_leq, abin_gtr, abin_geq, aunary_not, aextract, t0]) (by simp [FT.get_set, FT.setL, faS_ptr, nilS_ptr, nilS_func, nilS_yield, pickS_bool, ldS_ptr, list_cells, list_ro, partS_none, lenSl_of, lenStr_of, cvInt_of, aminmax_max, aminmax_min, abin_add, abin_sub, abin_mul, abin_eql, abin_neq, abin_lss, abin_leq, abin_gtr, abin_geq, aunary_not, aextract]) (by simp [FT.get_set, FT.setL, faS_ptr, nilS_ptr, nilS_func, nilS_yield, pickS_bool, ldS_ptr, list_cells, list_ro, partS_none, lenSl_of, lenStr_of, cvInt_of, aminmax_max, aminmax_min, abin_add, abin_sub, abin_mul, abin_eql, abin_neq, abin_lss, abin_leq, abin_gtr, abin_geq, aunary_not, aextract]) (by simp [FT.get_set, FT.setL, faS_ptr, nilS_ptr, nilS_func, nilS_yield, pickS_bool, ldS_ptr, list_cells, list_ro, partS_none, lenSl_of, lenStr_of, cvInt_of, aminmax_max, aminmax_min, abin_add, abin_sub, abin_mul, abin_eql, abin_neq, abin_lss, abin_leq, abin_gtr, abin_geq, aunary_not, aextract]) (by simp [FT.get_set, FT.setL, faS_ptr, nilS_ptr, nilS_func, nilS_yield, pickS_bool, ldS_ptr, list_cells, list_ro, partS_none, lenSl_of, lenStr_of, cvInt_of, aminmax_max, aminmax_min, abin_add, abin_sub, abin_mul, abin_eql, abin_neq, abin_lss, abin_leq, abin_gtr, abin_geq, aunary_not, aextract, t7])⟩
      | exact ⟨trivial, H _ (by simp [FT.get_set, FT.setL, faS_ptr, nilS_ptr, nilS_func, nilS_yield, pickS_bool, ldS_ptr, list_cells, list_ro, partS_none, lenSl_of, lenStr_of, cvInt_of, aminmax_max, aminmax_min, abin_add, abin_sub, abin_mul, abin_eql, abin_neq, abin_lss, abin_leq, abin_gtr, abin_geq, aunary_not, aextract, t0]) (by simp [FT.get_set, FT.setL, faS_ptr, nilS_ptr, nilS_func, nilS_yield, pickS_bool, ldS_ptr, list_cells, list_ro, partS_none, lenSl_of, lenStr_of, cvInt_of, aminmax_max, aminmax_min, abin_add, abin_sub, abin_mul, abin_eql, abin_neq, abin_lss, abin_leq, abin_gtr, abin_geq, aunary_not, aextract]) (by simp [FT.get_set, FT.setL, faS_ptr, nilS_ptr, nilS_func, nilS_yield, pickS_bool, ldS_ptr, list_cells, list_ro, partS_none, lenSl_of, lenStr_of, cvInt_of, aminmax_max, aminmax_min, abin_add, abin_sub, abin_mul, abin_eql, abin_neq, abin_lss, abin_leq, abin_gtr, abin_geq, aunary_not, aextract]) (by simp [FT.get_set, FT.setL, faS_ptr, nilS_ptr, nilS_func, nilS_yield, pickS_bool, ldS_ptr, list_cells, list_ro, partS_none, lenSl_of, lenStr_of, cvInt_of, aminmax_max, aminmax_min, abin_add, abin_sub, abin_mul, abin_eql, abin_neq, abin_lss, abin_leq, abin_gtr, abin_geq, aunary_not, aextract]) (by simp [FT.get_set, FT.setL, faS_ptr, nilS_ptr, nilS_func, nilS_yield, pickS_bool, ldS_ptr, list_cells, list_ro, partS_none, lenSl_of, lenStr_of, cvInt_of, aminmax_max, aminmax_min, abin_add, abin_sub, abin_mul, abin_eql, abin_neq, abin_lss, abin_leq, abin_gtr, abin_geq, aunary_not, aextract, t7])⟩
      | exact H _ (by simp [FT.get_set, FT.setL, faS_ptr, nilS_ptr, nilS_func, nilS_yield, pickS_bool, ldS_ptr, list_cells, list_ro, partS_none, lenSl_of, lenStr_of, cvInt_of, aminmax_max, aminmax_min, abin_add, abin_sub, abin_mul, abin_eql, abin_neq, abin_lss, abin_leq, abin_gtr, abin_geq, aunary_not, aextract, t0]) (by simp [FT.get_set, FT.setL, faS_ptr, nilS_ptr, nilS_func, nilS_yield, pickS_bool, ldS_ptr, list_cells, list_ro, partS_none, lenSl_of, lenStr_of, cvInt_of, aminmax_max, aminmax_min, abin_add, abin_sub, abin_mul, abin_eql, abin_neq, abin_lss, abin_leq, abin_gtr, abin_geq, aunary_not, aextract]) (by simp [FT.get_set, FT.setL, faS_ptr, nilS_ptr, nilS_func, nilS_yield, pickS_bool, ldS_ptr, list_cells, list_ro, partS_none, lenSl_of, lenStr_of, cvInt_of, aminmax_max, aminmax_min, abin_add, abin_sub, abin_mul, abin_eql, abin_neq, abin_lss, abin_leq, abin_gtr, abin_geq, aunary_not, aextract]) (by simp [FT.get_set, FT.setL, faS_ptr, nilS_ptr, nilS_func, nilS_yield, pickS_bool, ldS_ptr, list_cells, list_ro, partS_none, lenSl_of, lenStr_of, cvInt_of, aminmax_max, aminmax_min, abin_add, abin_sub, abin_mul, abin_eql, abin_neq, abin_lss, abin_leq, abin_gtr, abin_geq, aunary_not, aextract]) (by simp [FT.get_set, FT.setL, faS_ptr, nilS_ptr, nilS_func, nilS_yield, pickS_bool, ldS_ptr, list_cells, list_ro, partS_none, lenSl_of, lenStr_of, cvInt_of, aminmax_max, aminmax_min, abin_add, abin_sub, abin_mul, abin_eql, abin_neq, abin_lss, abin_leq, abin_gtr, abin_geq, aunary_not, aextract, t7])
end Go.Proofs.Ytikdcdccpbnaeaa

