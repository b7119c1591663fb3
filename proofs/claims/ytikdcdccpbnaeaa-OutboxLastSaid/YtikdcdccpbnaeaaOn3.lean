/-
  The walk through the outbox's code: what its functions do to memory, part On3. Nothing is asked.
-/
import Derived.Test.YtikdcdccpbnaeaaOn2
set_option linter.all false
namespace Go.Proofs.Ytikdcdccpbnaeaa
open Go Go.Ag
set_option linter.unusedVariables false
set_option maxRecDepth 100000

/-- bytes that are only read -/
structure By (S : MS) (dv : Value) (ds : List Nat) : Prop where
  len : lenSl dv = some (.int .i64 ds.length)
  small : ∀ d ∈ ds, d < 256
  cells : ds ≠ [] → ∃ ab cap l, dv = .slice (some ⟨ab, 0, none⟩) ds.length cap ∧ S.list ab = some l ∧ ∀ (k : Nat) d, ds[k]? = some d → l[k]? = some (.int .u8 d)
theorem By.keep {S S' : MS} {dv : Value} {ds : List Nat} (h : By S dv ds) (wf : S.WF) (hk : ∀ x, x < S.n → S'.m x = S.m x) : By S' dv ds :=
  ⟨h.len, h.small, fun hne => by obtain ⟨ab, cap, l, h1, h2, h3⟩ := h.cells hne; exact ⟨ab, cap, l, h1, list_keep wf hk h2, h3⟩⟩
theorem By.at {S : MS} {dv : Value} {ds : List Nat} (h : By S dv ds) {i d : Nat} (hd : ds[i]? = some d) : ∃ p, iaSS 1 dv (.int .i64 (i : Int)) = some p ∧ ldS none S p = some (.int .u8 d) := by
  have hlt := (List.getElem?_eq_some_iff.1 hd).1
  obtain ⟨ab, cap, l, h1, h2, h3⟩ := h.cells (fun e => by rw [e] at hd; cases hd)
  refine ⟨.pointer (some ⟨ab, i, none⟩), ?_, ?_⟩
  · rw [h1, iaSS_of (k := .i64) (i := (i : Int)) (by omega) (by omega : (i : Int) < (ds.length : Int)), Int.toNat_natCast, Nat.zero_add, Nat.mul_one]
  · rw [ldS_ptr, h2]
    exact h3 i d hd

theorem ia41 (g i : Nat) (h : i < 41) : iaAS 41 1 (.pointer (some ⟨g, 0, none⟩)) (.int .i64 (i : Int)) = some (.pointer (some ⟨g, i, none⟩)) := by
  unfold iaAS
  simp only
  rw [if_pos ⟨by omega, by omega⟩, Int.toNat_natCast, Nat.zero_add, Nat.mul_one]

/-- the law's own book: which numbers were seen -/
structure Seen (G : List Em) (g : List Bool) : Prop where
  len : g.length = 41
  iff : ∀ j : Nat, 1 ≤ j → j ≤ 40 → (g[j]? = some true ↔ has G (j : Int))
  top : ∀ p ∈ G, p.1 ≤ 40
theorem Seen.at {G : List Em} {g : List Bool} (h : Seen G g) {j : Nat} (hj : j ≤ 40) : ∃ b, g[j]? = some b ∧ (1 ≤ j → (b = true ↔ has G (j : Int))) := by
  refine ⟨g[j]'(by have := h.len; omega), List.getElem?_eq_getElem _, fun h1 => ?_⟩
  rw [← h.iff j h1 hj, List.getElem?_eq_getElem (by have := h.len; omega)]
  simp
theorem cells_at {g : List Bool} {j : Nat} {b : Bool} (h : g[j]? = some b) : (g.map Value.bool)[j]? = some (.bool b) := by rw [List.getElem?_map, h]; rfl

structure LC (S0 : MS) (ds : List Nat) (dv : Value) (r mb gb : Nat) (i : Nat) (G : List Em) (g : List Bool) (T : FT) (S : MS) : Prop where
  old : Old S0 S
  r0 : S0.n ≤ r
  m0 : S0.n ≤ mb
  g0 : S0.n ≤ gb
  gr : gb ≠ r ∧ gb ≠ mb
  rcv : IsR S r mb G
  book : S.m gb = some (.cells (g.map Value.bool) 0)
  seen : Seen G g
  cnt : G.length ≤ i
  t0 : T.get 0 = dv
  t3 : T.get 3 = .pointer (some ⟨r, 0, none⟩)
  t4 : T.get 4 = .pointer (some ⟨gb, 0, none⟩)
  t5 : T.get 5 = .int .i64 G.length

def LI4 (S0 : MS) (ds : List Nat) (dv : Value) (r mb gb : Nat) (m : Nat) (T : FT) (S : MS) : Prop :=
  ∃ (i : Nat) (G : List Em) (g : List Bool), i + m = ds.length ∧ LC S0 ds dv r mb gb i G g T S ∧ T.get 6 = .int .i64 i

/-- the inner loop: the last number up to which nothing is missing -/
def NI4 (S0 : MS) (T0 : FT) (G : List Em) (m : Nat) (T : FT) (S : MS) : Prop :=
  ∃ n : Nat, n + m = 41 ∧ n ≤ 40 ∧ S = S0 ∧ (∀ j : Nat, 1 ≤ j → j ≤ n → has G j) ∧ T.get 9 = .int .i64 n ∧ ∀ k, k ≤ 8 → T.get k = T0.get k

theorem inner4 {S : MS} {G : List Em} {g : List Bool} {gb : Nat} {T : FT} (hb : S.m gb = some (.cells (g.map Value.bool) 0)) (hs : Seen G g) (t4 : T.get 4 = .pointer (some ⟨gb, 0, none⟩)) (t9 : T.get 9 = .int .i64 0) :
    MWp Try.prog O 68 (.block 2 (.loop (.seq (.seq (.region 19 (ro 4 19) false) (.cond (.tmp 54) .skip (.exit 2))) (.block 3 (.region 20 (ro 4 20) false))))) T S
      (fun x T' S' => x = .normal ∧ S' = S ∧ ∃ n : Nat, n ≤ 40 ∧ (∀ j : Nat, 1 ≤ j → j ≤ n → has G j) ∧ (n < 40 → ¬ has G ((n + 1 : Nat) : Int)) ∧ T'.get 9 = .int .i64 n ∧ ∀ k, k ≤ 8 → T'.get k = T.get k) := by
  refine m_block (m_loop (fun m T' S' => NI4 S T G m T' S') 41 ⟨0, rfl, by omega, rfl, fun j h1 h2 => by omega, t9, fun _ _ => rfl⟩ ?_)
  rintro m T1 S1 ⟨n, hm, hn, rfl, hall, q9, hk⟩
  have q4 : T1.get 4 = .pointer (some ⟨gb, 0, none⟩) := (hk 4 (by decide)).trans t4
  refine m_seq (m_seq (m_reg ?_))
  rw [reg4_19]
  have leave : ∀ (T' : FT), (n < 40 → ¬ has G ((n + 1 : Nat) : Int)) → T'.get 9 = .int .i64 n → (∀ k, k ≤ 8 → T'.get k = T1.get k) → ∃ n : Nat, n ≤ 40 ∧ (∀ j : Nat, 1 ≤ j → j ≤ n → has G j) ∧ (n < 40 → ¬ has G ((n + 1 : Nat) : Int)) ∧ T'.get 9 = .int .i64 n ∧ ∀ k, k ≤ 8 → T'.get k = T.get k :=
    fun T' h1 h2 h3 => ⟨n, hn, hall, h1, h2, fun k hk' => (h3 k hk').trans (hk k hk')⟩
  by_cases h40 : n < 40
  · have e1 : decide ((n : Int) < 40) = true := decide_eq_true (by omega)
    have hw : IntKind.i64.wrap ((n : Int) + 1) = ((n + 1 : Nat) : Int) := by rw [wrap_i64 (by omega) (by omega)]; rfl
    obtain ⟨b, hb1, hb2⟩ := hs.at (show n + 1 ≤ 40 by omega)
    simp (decide := true) only [FT.get_set, FT.setL, faS_ptr, nilS_ptr, nilS_func, nilS_yield, pickS_bool, ldS_ptr, list_cells, list_ro, partS_none, lenSl_of, lenStr_of, cvInt_of, aminmax_max, aminmax_min, abin_add, abin_sub, abin_mul, abin_eql, abin_neq, abin_lss, abin_leq, abin_gtr, abin_geq, aunary_not, aextract, Option.some.injEq, Prod.mk.injEq, Value.bool.injEq, exists_eq_left', exists_and_left, and_assoc, decide_eq_true_eq, decide_eq_false_iff_not, if_true, if_false, Nat.zero_add, Nat.add_zero, Option.bind_some, true_and, and_true, forall_const, true_implies, Bool.not_eq_true, Bool.false_eq_true, false_implies, ite_self, Nat.mul_one, q9, q4, e1, hw, ia41 gb (n + 1) (by omega), list_of hb, cells_at hb1]
    cases b with
    | true =>
      refine m_cond (t := true) (by simp [evalT, FT.get_set, FT.setL, faS_ptr, nilS_ptr, nilS_func, nilS_yield, pickS_bool, ldS_ptr, list_cells, list_ro, partS_none, lenSl_of, lenStr_of, cvInt_of, aminmax_max, aminmax_min, abin_add, abin_sub, abin_mul, abin_eql, abin_neq, abin_lss, abin_leq, abin_gtr, abin_geq, aunary_not, aextract]) (fun _ => m_skip ?_) (fun h => by cases h)
      simp only
      refine m_block (m_reg ?_)
      rw [reg4_20]
      simp (decide := true) only [FT.get_set, FT.setL, faS_ptr, nilS_ptr, nilS_func, nilS_yield, pickS_bool, ldS_ptr, list_cells, list_ro, partS_none, lenSl_of, lenStr_of, cvInt_of, aminmax_max, aminmax_min, abin_add, abin_sub, abin_mul, abin_eql, abin_neq, abin_lss, abin_leq, abin_gtr, abin_geq, aunary_not, aextract, Option.some.injEq, Prod.mk.injEq, Value.bool.injEq, exists_eq_left', exists_and_left, and_assoc, decide_eq_true_eq, decide_eq_false_iff_not, if_true, if_false, Nat.zero_add, Nat.add_zero, Option.bind_some, true_and, and_true, forall_const, true_implies, Bool.not_eq_true, Bool.false_eq_true, false_implies, ite_self, Nat.mul_one, q9, hw]
      refine ⟨m - 1, by omega, n + 1, by omega, by omega, rfl, fun j h1 h2 => ?_, by simp [FT.get_set, FT.setL, faS_ptr, nilS_ptr, nilS_func, nilS_yield, pickS_bool, ldS_ptr, list_cells, list_ro, partS_none, lenSl_of, lenStr_of, cvInt_of, aminmax_max, aminmax_min, abin_add, abin_sub, abin_mul, abin_eql, abin_neq, abin_lss, abin_leq, abin_gtr, abin_geq, aunary_not, aextract], fun k hk' => ?_⟩
      · rcases Nat.lt_or_ge n j with h3 | h3
        · have : j = n + 1 := by omega
          subst this
          exact (hb2 (by omega)).1 rfl
        · exact hall j h1 h3
      · rw [← hk k hk']
        have : k ≠ 9 ∧ k ≠ 47 ∧ k ≠ 48 ∧ k ≠ 49 ∧ k ≠ 50 ∧ k ≠ 51 ∧ k ≠ 52 ∧ k ≠ 53 ∧ k ≠ 54 ∧ k ≠ 55 ∧ k ≠ 56 := by omega
        simp [FT.get_set, FT.setL, faS_ptr, nilS_ptr, nilS_func, nilS_yield, pickS_bool, ldS_ptr, list_cells, list_ro, partS_none, lenSl_of, lenStr_of, cvInt_of, aminmax_max, aminmax_min, abin_add, abin_sub, abin_mul, abin_eql, abin_neq, abin_lss, abin_leq, abin_gtr, abin_geq, aunary_not, aextract, this, Ne.symm]
        repeat rw [if_neg (by omega)]
    | false =>
      refine m_cond (t := false) (by simp [evalT, FT.get_set, FT.setL, faS_ptr, nilS_ptr, nilS_func, nilS_yield, pickS_bool, ldS_ptr, list_cells, list_ro, partS_none, lenSl_of, lenStr_of, cvInt_of, aminmax_max, aminmax_min, abin_add, abin_sub, abin_mul, abin_eql, abin_neq, abin_lss, abin_leq, abin_gtr, abin_geq, aunary_not, aextract]) (fun h => by cases h) (fun _ => m_exit ?_)
      simp only [if_true]
      refine ⟨trivial, leave _ (fun _ h => ?_) (by simp [FT.get_set, FT.setL, faS_ptr, nilS_ptr, nilS_func, nilS_yield, pickS_bool, ldS_ptr, list_cells, list_ro, partS_none, lenSl_of, lenStr_of, cvInt_of, aminmax_max, aminmax_min, abin_add, abin_sub, abin_mul, abin_eql, abin_neq, abin_lss, abin_leq, abin_gtr, abin_geq, aunary_not, aextract, q9]) fun k hk' => ?_⟩
      · have := (hb2 (by omega)).2 h
        cases this
      · simp only [FT.get_set]
        repeat rw [if_neg (by omega)]
  · have e1 : decide ((n : Int) < 40) = false := decide_eq_false (by omega)
    simp (decide := true) only [FT.get_set, FT.setL, faS_ptr, nilS_ptr, nilS_func, nilS_yield, pickS_bool, ldS_ptr, list_cells, list_ro, partS_none, lenSl_of, lenStr_of, cvInt_of, aminmax_max, aminmax_min, abin_add, abin_sub, abin_mul, abin_eql, abin_neq, abin_lss, abin_leq, abin_gtr, abin_geq, aunary_not, aextract, Option.some.injEq, Prod.mk.injEq, Value.bool.injEq, exists_eq_left', exists_and_left, and_assoc, decide_eq_true_eq, decide_eq_false_iff_not, if_true, if_false, Nat.zero_add, Nat.add_zero, Option.bind_some, true_and, and_true, forall_const, true_implies, Bool.not_eq_true, Bool.false_eq_true, false_implies, ite_self, Nat.mul_one, q9, e1]
    refine m_cond (t := false) (by simp [evalT, FT.get_set, FT.setL, faS_ptr, nilS_ptr, nilS_func, nilS_yield, pickS_bool, ldS_ptr, list_cells, list_ro, partS_none, lenSl_of, lenStr_of, cvInt_of, aminmax_max, aminmax_min, abin_add, abin_sub, abin_mul, abin_eql, abin_neq, abin_lss, abin_leq, abin_gtr, abin_geq, aunary_not, aextract]) (fun h => by cases h) (fun _ => m_exit ?_)
    simp only [if_true]
    refine ⟨trivial, leave _ (fun h => absurd h h40) (by simp [FT.get_set, FT.setL, faS_ptr, nilS_ptr, nilS_func, nilS_yield, pickS_bool, ldS_ptr, list_cells, list_ro, partS_none, lenSl_of, lenStr_of, cvInt_of, aminmax_max, aminmax_min, abin_add, abin_sub, abin_mul, abin_eql, abin_neq, abin_lss, abin_leq, abin_gtr, abin_geq, aunary_not, aextract, q9]) fun k hk' => ?_⟩
    simp only [FT.get_set]
    repeat rw [if_neg (by omega)]
end Go.Proofs.Ytikdcdccpbnaeaa

