/-
  The walk through the code of blocks and of what is reached, part F2: what its functions do to memory. Nothing is asked.
-/
import Derived.Test.YtgkdmnfmfcdfmaaSt1
set_option linter.all false
namespace Go.Ag
open Go
theorem wf_fresh' {S : MS} (wf : S.WF) (l : List Value) (es : Nat) : (S.fresh l es).WF := fun x k hk => by
  by_cases e : x = S.n
  · subst e; exact Nat.lt_succ_self _
  · rw [fresh_old _ _ _ e] at hk; exact Nat.lt_succ_of_lt (wf x k hk)
theorem Sl.weaken {S : MS} {B B' : Nat} {v : Value} {l : List Int} (h : Sl S B v l) (hb : B' ≤ B) : Sl S B' v l := by
  cases h with
  | non => exact .non
  | own h1 h2 h3 h4 => exact .own h1 (Nat.le_trans hb h2) h3 h4
theorem Sl.push2 {S : MS} {B : Nat} {v : Value} {l : List Int} (h : Sl S B v l) (wf : S.WF) (hBn : B ≤ S.n) (x : Int) (hsm : l.length < 900000) :
    ∃ v' S', apS false 1 8 [.int .i64 0] (S.fresh [.int .i64 x] 1) [v, .slice (some ⟨S.n, 0, none⟩) 1 1] = some (v', S') ∧ Sl S' B v' (l ++ [x]) ∧ S.n ≤ S'.n ∧ ∀ y, (y < B ∨ ∃ l', S.m y = some (.cells l' 0)) → S'.m y = S.m y := by
  have h1 : Sl (S.fresh [.int .i64 x] 1) B v l := h.keep fun y k hy => fresh_old _ _ _ (Nat.ne_of_lt (wf y k hy))
  obtain ⟨v', S', g1, g2, g3, g4⟩ := h1.app2 (x := .slice (some ⟨S.n, 0, none⟩) 1 1) (new := [x]) (wf_fresh' wf _ _) (Nat.le_succ_of_le hBn) rfl (by show firstCellsM _ 1 1 _ = _; rw [first_of (n := 1) (sz := 1) (list_of (fresh_at _ _ _)) (by decide) (by decide) (by simp)]; rfl) (by simp; omega)
  refine ⟨v', S', g1, g2, Nat.le_trans (Nat.le_succ _) g3, fun y hy => ?_⟩
  have hy' : y ≠ S.n := by
    rcases hy with hy | ⟨l', hy⟩
    · omega
    · exact Nat.ne_of_lt (wf _ _ hy)
  have ho := fresh_old S [.int .i64 x] 1 hy'
  rw [g4 y (by rw [ho]; exact hy), ho]
theorem Sl.push {S : MS} {B : Nat} {v : Value} {l : List Int} (h : Sl S B v l) (wf : S.WF) (hBn : B ≤ S.n) (x : Int) (hsm : l.length < 900000) :
    ∃ v' S', apS false 1 8 [.int .i64 0] (S.fresh [.int .i64 x] 1) [v, .slice (some ⟨S.n, 0, none⟩) 1 1] = some (v', S') ∧ Sl S' B v' (l ++ [x]) ∧ S.n ≤ S'.n ∧ ∀ y, y < B → S'.m y = S.m y := by
  obtain ⟨v', S', h1, h2, h3, h4⟩ := h.push2 wf hBn x hsm
  exact ⟨v', S', h1, h2, h3, fun y hy => h4 y (.inl hy)⟩
end Go.Ag
namespace Go.Proofs.Ytgkdmnfmfcdfmaa
open Go Go.Ag
set_option linter.unusedVariables false
set_option maxRecDepth 100000

def O : Known := fun f args => if f = 7 ∧ args = [] then some (.bool true) else none
theorem O_none {f : FuncId} {args : List Value} (h : f ≠ 7) : O f args = none := by unfold O; rw [if_neg (fun e => h e.1)]

structure Op5 where
  c : Int
  d : Int
  a : Int
  b : Int
  k : Int
def opL (o : Op5) : List Value := [.int .i64 o.c, .int .i64 o.d, .int .i64 o.a, .int .i64 o.b, .int .i64 o.k]
theorem ol0 (o : Op5) : (opL o)[0]? = some (.int .i64 o.c) := rfl
theorem ol4 (o : Op5) : (opL o)[4]? = some (.int .i64 o.k) := rfl

/-- the law's instructions, only read -/
structure Ops (S : MS) (ov : Value) (os : List Op5) : Prop where
  one : ov.cells = #[ov]
  oneC : oneCell ov = true
  len : lenSl ov = some (.int .i64 os.length)
  cells : os ≠ [] → ∃ ab cap l, ov = .slice (some ⟨ab, 0, none⟩) os.length cap ∧ S.m ab = some (.ro l) ∧ ∀ (k : Nat) x, os[k]? = some x → partS (some 5) l (k * 5) = some (.agg (opL x).toArray)
theorem Ops.keep {S S' : MS} {ov : Value} {os : List Op5} (h : Ops S ov os) (wf : S.WF) (hk : ∀ x, x < S.n → S'.m x = S.m x) : Ops S' ov os :=
  ⟨h.one, h.oneC, h.len, fun hne => by obtain ⟨ab, cap, l, h1, h2, h3⟩ := h.cells hne; exact ⟨ab, cap, l, h1, (hk _ (wf _ _ h2)).trans h2, h3⟩⟩
theorem Ops.at {S : MS} {ov : Value} {os : List Op5} (h : Ops S ov os) {i : Nat} {o : Op5} (ho : os[i]? = some o) : ∃ p, iaSS 5 ov (.int .i64 (i : Int)) = some p ∧ ldS (some 5) S p = some (.agg (opL o).toArray) := by
  have hlt := (List.getElem?_eq_some_iff.1 ho).1
  obtain ⟨ab, cap, l, h1, h2, h3⟩ := h.cells (fun e => by rw [e] at ho; cases ho)
  refine ⟨.pointer (some ⟨ab, i * 5, none⟩), ?_, ?_⟩
  · rw [h1, iaSS_of (k := .i64) (i := (i : Int)) (by omega) (by omega : (i : Int) < (os.length : Int)), Int.toNat_natCast, Nat.zero_add]
  · have hls : S.list ab = some l := by unfold MS.list; rw [h2]; rfl
    rw [ldS_ptr, hls]
    exact h3 i o ho
def fnV (rr : Int) (ov : Value) : Value := .agg #[.int .i64 rr, ov]
theorem fnV_cells (rr : Int) {ov : Value} (h : ov.cells = #[ov]) : (fnV rr ov).cells.toList = [.int .i64 rr, ov] := by
  unfold fnV; simp [cells_agg, h, cells_int]

theorem in28 {S : MS} (a b : Int) {Q : Value → MS → Prop} (hq : Q (.bool (decide (0 ≤ a ∧ a < b))) S) : CallM Try.prog O 28 [.int .i64 a, .int .i64 b] S Q := by
  refine callM_body (fnIs is28 body28 res28) (O_none (by decide)) (by simp) ?_
  refine m_seq (m_reg ?_)
  rw [reg28_0]
  refine m_seq (m_reg ?_)
  rw [reg28_1]
  simp (decide := true) only [FT.get_set, FT.setL, faS_ptr, nilS_ptr, nilS_func, nilS_yield, pickS_bool, ldS_ptr, list_cells, list_ro, partS_none, lenSl_of, lenStr_of, cvInt_of, aminmax_max, aminmax_min, abin_add, abin_sub, abin_mul, abin_eql, abin_neq, abin_lss, abin_leq, abin_gtr, abin_geq, aunary_not, aextract, Option.some.injEq, Prod.mk.injEq, Value.bool.injEq, exists_eq_left', exists_and_left, and_assoc, decide_eq_true_eq, decide_eq_false_iff_not, if_true, if_false, Nat.zero_add, Nat.add_zero, Option.bind_some, true_and, and_true, forall_const, true_implies, Bool.not_eq_true, Bool.false_eq_true, false_implies, ite_self, Nat.mul_one, ]
  refine ⟨fun h => ?_, fun h => ?_⟩
  · refine m_ret ?_
    simp [resM, FT.get_set, FT.setL, faS_ptr, nilS_ptr, nilS_func, nilS_yield, pickS_bool, ldS_ptr, list_cells, list_ro, partS_none, lenSl_of, lenStr_of, cvInt_of, aminmax_max, aminmax_min, abin_add, abin_sub, abin_mul, abin_eql, abin_neq, abin_lss, abin_leq, abin_gtr, abin_geq, aunary_not, aextract, oneOrTuple, h]
    simpa [h] using hq
  · refine m_ret ?_
    have e : decide (0 ≤ a ∧ a < b) = false := by rw [decide_eq_false_iff_not]; omega
    rw [e] at hq
    simp [resM, FT.get_set, FT.setL, faS_ptr, nilS_ptr, nilS_func, nilS_yield, pickS_bool, ldS_ptr, list_cells, list_ro, partS_none, lenSl_of, lenStr_of, cvInt_of, aminmax_max, aminmax_min, abin_add, abin_sub, abin_mul, abin_eql, abin_neq, abin_lss, abin_leq, abin_gtr, abin_geq, aunary_not, aextract, oneOrTuple, h]
    exact hq

def more (n : Nat) (o : Op5) (i : Nat) : List Int := if o.c ≠ 38 ∧ o.c ≠ 40 ∧ i + 1 < n then [((i + 1 : Nat) : Int)] else []
def goes (o : Op5) : List Int := if o.c = 38 ∨ o.c = 39 then [o.k] else []
def succ (n : Nat) (o : Op5) (i : Nat) : List Int := goes o ++ more n o i

end Go.Proofs.Ytgkdmnfmfcdfmaa

