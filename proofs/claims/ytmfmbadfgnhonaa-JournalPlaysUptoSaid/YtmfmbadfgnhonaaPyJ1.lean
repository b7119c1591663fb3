/-
  The walk through the journal's code: what its functions do to memory, part PyJ1. Nothing is asked.
-/
import Derived.Test.YtmfmbadfgnhonaaPyD3
import Derived.Test.YtmfmbadfgnhonaaPyG
set_option linter.all false
namespace Go.Proofs.Ytmfmbadfgnhonaa
open Go Go.Ag
set_option linter.unusedVariables false
set_option maxRecDepth 100000

/-! ### bytes that are read -/
def bL (bs : List UInt8) : List Value := bs.map fun b => .int .u8 b.toNat
theorem bL_len (bs : List UInt8) : (bL bs).length = bs.length := by simp [bL]
theorem bL_get {bs : List UInt8} {i : Nat} {b : UInt8} (h : bs[i]? = some b) : (bL bs)[i]? = some (.int .u8 b.toNat) := by simp [bL, h]
theorem bL_one (bs : List UInt8) : (bL bs).all oneCell = true := by
  rw [List.all_eq_true]
  intro v hv
  obtain ⟨b, _, rfl⟩ := List.mem_map.1 hv
  rfl
theorem bL_append (a b : List UInt8) : bL (a ++ b) = bL a ++ bL b := by simp [bL]
theorem bL_bytes : ∀ bs : List UInt8, toBytes (bL bs) = some bs := by
  intro bs
  induction bs with
  | nil => rfl
  | cons b bs ih =>
    show (toBytes (bL bs)).map _ = _
    rw [ih]
    simp
/-- one cell a byte -/
def bF (b : UInt8) : List Value := [.int .u8 b.toNat]
theorem bF_len (b : UInt8) : (bF b).length = 1 := rfl
theorem bF_one (b : UInt8) : (bF b).all oneCell = true := rfl
theorem bF_flat (bs : List UInt8) : bs.flatMap bF = bL bs := by
  induction bs with
  | nil => rfl
  | cons b bs ih => rw [List.flatMap_cons, ih]; rfl

/-- a slice that reads as these bytes -/
def RB (S : MS) (v : Value) (bs : List UInt8) : Prop :=
  (v = .slice none 0 0 ∧ bs = []) ∨ (v = .slice (some ⟨0, 0, some 0⟩) 0 0 ∧ bs = []) ∨
  ∃ b off cap L, v = .slice (some ⟨b, off, none⟩) bs.length cap ∧ S.list b = some L ∧ off + bs.length ≤ L.length ∧ (L.drop off).take bs.length = bL bs ∧ bs.length ≤ cap ∧ (cap < unk ∨ (cap = unk ∧ ∃ l, S.m b = some (.cells l 1) ∧ l.length ≤ 4000000))
theorem RB.nil {S : MS} : RB S (.slice none 0 0) [] := .inl ⟨rfl, rfl⟩
theorem RB.keep {S S' : MS} {v : Value} {bs : List UInt8} (h : RB S v bs) (wf : S.WF) (hk : ∀ x, x < S.n → S'.m x = S.m x) : RB S' v bs := by
  rcases h with h | h | ⟨b, off, cap, L, h1, h2, h3, h4, h5, h6⟩
  · exact .inl h
  · exact .inr (.inl h)
  · refine .inr (.inr ⟨b, off, cap, L, h1, list_keep wf hk h2, h3, h4, h5, ?_⟩)
    rcases h6 with h | ⟨h, l, hl, hs⟩
    · exact .inl h
    · exact .inr ⟨h, l, by rw [hk b (wf _ _ hl)]; exact hl, hs⟩
theorem RB.len {S : MS} {v : Value} {bs : List UInt8} (h : RB S v bs) : lenSl v = some (.int .i64 bs.length) := by
  rcases h with ⟨rfl, rfl⟩ | ⟨rfl, rfl⟩ | ⟨b, off, cap, L, rfl, _⟩ <;> rfl
theorem RB.lenA {S : MS} {v : Value} {bs : List UInt8} (h : RB S v bs) : lenOfA v = some bs.length := by
  rcases h with ⟨rfl, rfl⟩ | ⟨rfl, rfl⟩ | ⟨b, off, cap, L, rfl, _⟩ <;> rfl
theorem RB.one {S : MS} {v : Value} {bs : List UInt8} (h : RB S v bs) : v.cells = #[v] ∧ oneCell v = true := by
  rcases h with ⟨rfl, rfl⟩ | ⟨rfl, rfl⟩ | ⟨b, off, cap, L, rfl, _⟩ <;> exact ⟨rfl, rfl⟩
theorem RB.first {S : MS} {v : Value} {bs : List UInt8} {j : Nat} (h : RB S v bs) (hj : j ≤ bs.length) : firstCellsM S 1 j v = some (bL (bs.take j)) := by
  rcases h with ⟨rfl, rfl⟩ | ⟨rfl, rfl⟩ | ⟨b, off, cap, L, rfl, h2, h3, h4, h5, h6⟩
  · have : j = 0 := by simpa using hj
    subst this; rfl
  · have : j = 0 := by simpa using hj
    subst this; rfl
  · by_cases h0 : j = 0
    · subst h0
      rw [first_zero (fun h => by cases h) (fun x h => by cases h; rfl)]; rfl
    · rw [first_of h2 hj h0 (by omega), Nat.mul_one]
      have : (L.drop off).take j = ((L.drop off).take bs.length).take j := by rw [List.take_take]; congr 1; omega
      rw [this, h4]
      simp [bL, List.map_take]
theorem RB.all {S : MS} {v : Value} {bs : List UInt8} (h : RB S v bs) : firstCellsM S 1 bs.length v = some (bL bs) := by
  have := h.first (Nat.le_refl bs.length)
  rwa [List.take_length] at this
theorem RB.flat {S : MS} {v : Value} {bs : List UInt8} (h : RB S v bs) : firstCellsM S 1 bs.length v = some (bs.flatMap bF) := by rw [bF_flat]; exact h.all
theorem RB.at {S : MS} {v : Value} {bs : List UInt8} {i : Nat} {b : UInt8} (h : RB S v bs) (hb : bs[i]? = some b) : ∃ p, iaSS 1 v (.int .i64 (i : Int)) = some p ∧ ldS none S p = some (.int .u8 b.toNat) := by
  have hlt := (List.getElem?_eq_some_iff.1 hb).1
  rcases h with ⟨rfl, rfl⟩ | ⟨rfl, rfl⟩ | ⟨b', off, cap, L, rfl, h2, h3, h4, h5, h6⟩
  · cases hb
  · cases hb
  · refine ⟨.pointer (some ⟨b', off + i, none⟩), ?_, ?_⟩
    · rw [iaSS_of (k := .i64) (i := (i : Int)) (by omega) (by omega : (i : Int) < (bs.length : Int)), Int.toNat_natCast, Nat.mul_one]
    · rw [ldS_ptr, h2]
      have := bL_get hb
      rw [← h4, List.getElem?_take, if_pos hlt, List.getElem?_drop] at this
      exact this
theorem RB.str {S : MS} {v : Value} {bs : List UInt8} (h : RB S v bs) : strS S v = some (.string ⟨bs.toArray⟩) := by
  rcases h with ⟨rfl, rfl⟩ | ⟨rfl, rfl⟩ | ⟨b, off, cap, L, rfl, h2, h3, h4, h5, h6⟩
  · rfl
  · rfl
  · rw [strS_own]
    unfold MS.readAt
    rw [h2]
    simp only [Option.bind_some]
    rw [if_pos (by rw [Nat.ble_eq]; exact h3), h4]
    simp only [Option.bind_some, bL_bytes]
    rfl
/-- a part of it -/
theorem RB.sub {S : MS} {v : Value} {bs : List UInt8} {i j : Nat} {low high : Option Value} (h : RB S v bs) (hij : i ≤ j) (hj : j ≤ bs.length) (hlo : (low = none ∧ i = 0) ∨ low = some (.int .i64 i)) (hhi : (high = none ∧ j = bs.length) ∨ high = some (.int .i64 j)) :
    ∃ v', slS 1 S v low high none = some v' ∧ RB S v' ((bs.drop i).take (j - i)) := by
  have hab : ∀ c, j ≤ c → bs.length ≤ c → abounds bs.length c low high none = some (i, j, c) := by
    intro c hjc hlc
    unfold abounds
    rcases hhi with ⟨rfl, rfl⟩ | rfl <;> rcases hlo with ⟨rfl, rfl⟩ | rfl <;> simp only [intIn_of hjc, intIn_of hij, Option.bind_some]
  have hl : ((bs.drop i).take (j - i)).length = j - i := by rw [List.length_take, List.length_drop]; omega
  rcases h with ⟨rfl, rfl⟩ | ⟨rfl, rfl⟩ | ⟨b, off, cap, L, rfl, h2, h3, h4, h5, h6⟩
  · have h0 := hab 0 hj (Nat.le_refl _)
    refine ⟨.slice none 0 0, ?_, by simp; exact .nil⟩
    show (abounds 0 0 low high none).bind _ = _
    rw [show abounds 0 0 low high none = _ from h0]; rfl
  · have h0 := hab 0 hj (Nat.le_refl _)
    refine ⟨.slice (some ⟨0, 0, some 0⟩) 0 0, ?_, by simp; exact .inr (.inl ⟨rfl, rfl⟩)⟩
    show (abounds 0 0 low high none).bind _ = _
    rw [show abounds 0 0 low high none = _ from h0]; rfl
  · have hcells : (L.drop (off + i)).take (j - i) = bL ((bs.drop i).take (j - i)) := by
      have e : bL ((bs.drop i).take (j - i)) = ((bL bs).drop i).take (j - i) := by simp [bL, List.map_take, List.map_drop]
      rw [e, ← h4, List.drop_take, List.take_take, List.drop_drop]
      congr 1; omega
    rw [slS_own]
    rcases h6 with h6 | ⟨rfl, l, hl2, hs2⟩
    · rw [if_neg (by rw [Nat.beq_eq]; omega), if_pos (by rw [Nat.blt_eq]; exact h6), hab cap (by omega) h5]
      simp only [Option.bind_some, Nat.mul_one]
      refine ⟨_, rfl, .inr (.inr ⟨b, off + i, cap - i, L, by rw [hl], h2, by rw [hl]; omega, by rw [hl]; exact hcells, by rw [hl]; omega, .inl (by omega)⟩)⟩
    · have hLl : L = l := by
        have := list_of hl2
        rw [h2] at this; exact Option.some.inj this
      subst hLl
      have hN : bs.length ≤ Nat.max bs.length ((L.length - off) / 1) := Nat.le_max_left _ _
      simp only [Nat.beq_refl, if_true, hl2, Option.bind_some]
      rw [if_pos (by simp; omega), hab _ (by omega) hN]
      simp only [Option.bind_some, Nat.mul_one]
      have hbig : Nat.max bs.length ((L.length - off) / 1) < unk := by
        have h9 : Nat.max bs.length ((L.length - off) / 1) = L.length - off := by rw [Nat.div_one]; exact Nat.max_eq_right (by omega)
        have : (4000000 : Nat) < unk := by decide
        omega
      rw [if_pos (by rw [Bool.and_eq_true, Nat.blt_eq, Nat.blt_eq]; omega)]
      refine ⟨_, rfl, .inr (.inr ⟨b, off + i, unk, L, by rw [hl], h2, by rw [hl]; omega, by rw [hl]; exact hcells, by rw [hl]; have : (4000000 : Nat) < unk := by decide
                                                                                                                      omega, .inr ⟨rfl, L, hl2, hs2⟩⟩)⟩
end Go.Proofs.Ytmfmbadfgnhonaa
namespace Go.Proofs.Ytmfmbadfgnhonaa
open Go Go.Ag
set_option linter.unusedVariables false
set_option maxRecDepth 100000

theorem abin_shr' (P : Program) (t : TypeId) (x y : Operand) (k k' : IntKind) (a : Nat) (n : Nat) (hn : n ≤ k.bits) : abin P .shr t x y (.int k a) (.int k' n) = some (.int k ((a / 2 ^ n : Nat) : Int)) := by
  have h1 : ¬ ((n : Int) < 0) := by omega
  have h2 : (n : Int).toNat = n := by omega
  have h3 : (a : Int).fdiv (2 ^ n) = ((a / 2 ^ n : Nat) : Int) := by
    rw [Int.fdiv_eq_ediv_of_nonneg _ (by exact Int.pow_nonneg (by omega)), Int.natCast_ediv]; congr 1
  simp [abin, binOp, Op.shift, pureRun, pure, h1, h2, Nat.min_eq_left hn, h3]
theorem abin_shl' (P : Program) (t : TypeId) (x y : Operand) (k k' : IntKind) (a : Nat) (n : Nat) (hn : n ≤ k.bits) : abin P .shl t x y (.int k a) (.int k' n) = some (.int k (k.wrap ((a * 2 ^ n : Nat) : Int))) := by
  have h1 : ¬ ((n : Int) < 0) := by omega
  have h2 : (n : Int).toNat = n := by omega
  have h3 : (a : Int) * (2 ^ n) = ((a * 2 ^ n : Nat) : Int) := by rw [Int.natCast_mul]; congr 1
  simp only [abin, binOp, Op.shift, h1, if_false, h2, Nat.min_eq_left hn, h3]
  rfl
theorem abin_or' (P : Program) (t : TypeId) (x y : Operand) (a b : Nat) (ha : a < 4611686018427387904) (hb : b < 4611686018427387904) (hab : a ||| b < 4611686018427387904) : abin P .or t x y (.int .i64 a) (.int .i64 b) = some (.int .i64 ((a ||| b : Nat) : Int)) := by
  have e : (BitVec.ofInt 64 (a : Int) ||| BitVec.ofInt 64 (b : Int)).toNat = a ||| b := by
    rw [BitVec.toNat_or, BitVec.ofInt_natCast, BitVec.ofInt_natCast, BitVec.toNat_ofNat, BitVec.toNat_ofNat, Nat.mod_eq_of_lt (by omega), Nat.mod_eq_of_lt (by omega)]
  have hw : IntKind.i64.wrap ((a ||| b : Nat) : Int) = ((a ||| b : Nat) : Int) := wrap_i64 (by omega) (by omega)
  have hbits : IntKind.bits .i64 = 64 := rfl
  simp [abin, binOp, Op.intBits, pureRun, pure]
  show IntKind.i64.wrap ((a % 2 ^ 64 ||| b % 2 ^ 64 : Nat) : Int) = _
  rw [Nat.mod_eq_of_lt (by omega), Nat.mod_eq_of_lt (by omega), hw]

/-- a number as eight bytes -/
def num8 (n : Nat) : List UInt8 := (List.range 8).map fun i => UInt8.ofNat (n / 256 ^ i % 256)
theorem num8_len (n : Nat) : (num8 n).length = 8 := by simp [num8]
theorem num8_get (n i : Nat) (h : i < 8) : (num8 n)[i]? = some (UInt8.ofNat (n / 256 ^ i % 256)) := by simp [num8, h]
theorem u8_nat (n : Nat) (h : n < 256) : (UInt8.ofNat n).toNat = n := by simp; omega
theorem pow8 (i : Nat) : 2 ^ (8 * i) = 256 ^ i := by rw [Nat.pow_mul]

theorem num8_step (n i : Nat) (h : i < 8) : (bL ((num8 n).take i ++ List.replicate (8 - i) 0)).set i (.int .u8 ((n / 256 ^ i % 256 : Nat) : Int)) = bL ((num8 n).take (i + 1) ++ List.replicate (8 - (i + 1)) 0) := by
  have hl : ((num8 n).take i).length = i := by rw [List.length_take, num8_len]; omega
  have hr : List.replicate (8 - i) (0 : UInt8) = 0 :: List.replicate (8 - (i + 1)) 0 := by
    rw [show 8 - i = (8 - (i + 1)) + 1 by omega, List.replicate_succ]
  have ht : (num8 n).take (i + 1) = (num8 n).take i ++ [UInt8.ofNat (n / 256 ^ i % 256)] := by rw [List.take_add_one, num8_get n i h]; rfl
  have hv : (((n / 256 ^ i % 256 : Nat) : Int)) = ((UInt8.ofNat (n / 256 ^ i % 256)).toNat : Int) := by rw [u8_nat _ (Nat.mod_lt _ (by omega))]
  rw [ht, hr, bL_append, bL_append, bL_append, List.append_assoc, List.set_append_right _ _ (by rw [bL_len, hl]; omega), bL_len, hl, Nat.sub_self, hv]
  rfl
def NI43 (S : MS) (n : Nat) (m : Nat) (T : FT) (S' : MS) : Prop := ∃ i, i + m = 8 ∧ S'.n = S.n + 1 ∧ (∀ y, y < S.n → S'.m y = S.m y) ∧ S'.m S.n = some (.cells (bL ((num8 n).take i ++ List.replicate (8 - i) 0)) 1) ∧ T.get 0 = .int .i64 n ∧ T.get 3 = .slice (some ⟨S.n, 0, none⟩) 8 8 ∧ T.get 6 = .int .i64 i

theorem number43 {S : MS} (n : Nat) (hn : n < 4611686018427387904) {Q : Value → MS → Prop} (hq : ∀ S', S'.n = S.n + 1 → (∀ y, y < S.n → S'.m y = S.m y) → S'.m S.n = some (.cells (bL (num8 n)) 1) → Q (.slice (some ⟨S.n, 0, none⟩) 8 8) S') : CallM Try.prog O 43 [.int .i64 n] S Q := by
  refine callM_body (fnIs is43 body43 res43) (O_none (by decide)) (by simp) ?_
  refine m_seq (m_reg ?_)
  rw [reg43_0]
  refine m_seq (m_reg ?_)
  rw [reg43_1]
  have hz : zeros [.int .u8 0] 8 = bL (List.replicate 8 0) := rfl
  have hms : msS S 1 1 [.int .u8 0] (.int .i64 8) (.int .i64 8) = some (.slice (some ⟨S.n, 0, none⟩) 8 8, S.fresh (bL (List.replicate 8 0)) 1) := by rw [← hz]; exact msS_of (n := 8) S 1 1 [.int .u8 0] .i64 .i64 (by omega) (by omega)
  simp (decide := true) only [FT.get_set, FT.setL, faS_ptr, nilS_ptr, nilS_func, nilS_yield, pickS_bool, ldS_ptr, list_cells, list_ro, partS_none, lenSl_of, lenStr_of, cvInt_of, aminmax_max, aminmax_min, abin_add, abin_sub, abin_mul, abin_eql, abin_neq, abin_lss, abin_leq, abin_gtr, abin_geq, aunary_not, aextract, Option.some.injEq, Prod.mk.injEq, Value.bool.injEq, exists_eq_left', exists_and_left, and_assoc, decide_eq_true_eq, decide_eq_false_iff_not, if_true, if_false, Nat.zero_add, Nat.add_zero, Option.bind_some, true_and, and_true, forall_const, true_implies, Bool.not_eq_true, Bool.false_eq_true, false_implies, ite_self, Nat.mul_one, hms]
  refine m_seq (m_seq (m_reg ?_))
  rw [reg43_2]
  unfold blk43_0
  refine m_block (m_loop (fun m T S' => NI43 S n m T S') 8 ⟨0, by omega, rfl, fun y hy => fresh_old _ _ _ (Nat.ne_of_lt hy), fresh_at S _ 1, by simp [FT.get_set, FT.setL, faS_ptr, nilS_ptr, nilS_func, nilS_yield, pickS_bool, ldS_ptr, list_cells, list_ro, partS_none, lenSl_of, lenStr_of, cvInt_of, aminmax_max, aminmax_min, abin_add, abin_sub, abin_mul, abin_eql, abin_neq, abin_lss, abin_leq, abin_gtr, abin_geq, aunary_not, aextract], by simp [FT.get_set, FT.setL, faS_ptr, nilS_ptr, nilS_func, nilS_yield, pickS_bool, ldS_ptr, list_cells, list_ro, partS_none, lenSl_of, lenStr_of, cvInt_of, aminmax_max, aminmax_min, abin_add, abin_sub, abin_mul, abin_eql, abin_neq, abin_lss, abin_leq, abin_gtr, abin_geq, aunary_not, aextract], by simp [FT.get_set, FT.setL, faS_ptr, nilS_ptr, nilS_func, nilS_yield, pickS_bool, ldS_ptr, list_cells, list_ro, partS_none, lenSl_of, lenStr_of, cvInt_of, aminmax_max, aminmax_min, abin_add, abin_sub, abin_mul, abin_eql, abin_neq, abin_lss, abin_leq, abin_gtr, abin_geq, aunary_not, aextract]⟩ ?_)
  rintro m T S1 ⟨i, hi, n1, f1, c1, t0, t3, t6⟩
  refine m_seq (m_reg ?_)
  rw [reg43_3]
  simp (decide := true) only [FT.get_set, FT.setL, faS_ptr, nilS_ptr, nilS_func, nilS_yield, pickS_bool, ldS_ptr, list_cells, list_ro, partS_none, lenSl_of, lenStr_of, cvInt_of, aminmax_max, aminmax_min, abin_add, abin_sub, abin_mul, abin_eql, abin_neq, abin_lss, abin_leq, abin_gtr, abin_geq, aunary_not, aextract, Option.some.injEq, Prod.mk.injEq, Value.bool.injEq, exists_eq_left', exists_and_left, and_assoc, decide_eq_true_eq, decide_eq_false_iff_not, if_true, if_false, Nat.zero_add, Nat.add_zero, Option.bind_some, true_and, and_true, forall_const, true_implies, Bool.not_eq_true, Bool.false_eq_true, false_implies, ite_self, Nat.mul_one, t6]
  refine m_seq (m_cond (t := decide ((i : Int) < 8)) (by simp [evalT, FT.get_set, FT.setL, faS_ptr, nilS_ptr, nilS_func, nilS_yield, pickS_bool, ldS_ptr, list_cells, list_ro, partS_none, lenSl_of, lenStr_of, cvInt_of, aminmax_max, aminmax_min, abin_add, abin_sub, abin_mul, abin_eql, abin_neq, abin_lss, abin_leq, abin_gtr, abin_geq, aunary_not, aextract]) (fun hlt => m_skip ?_) (fun hlt => m_exit ?_))
  · have hlt : i < 8 := by have := of_decide_eq_true hlt; omega
    simp only
    unfold blk43_1
    refine m_seq (m_block (m_seq (m_reg ?_)))
    rw [reg43_4]
    refine m_reg ?_
    rw [reg43_5]
    have hw8 : IntKind.i64.wrap (8 * (i : Int)) = ((8 * i : Nat) : Int) := by rw [wrap_i64 (by omega) (by omega)]; omega
    have hsh := abin_shr' Try.prog 3 (.tmp 11) (.tmp 13) .i64 .i64 n (8 * i) (by show 8 * i ≤ 64; omega)
    have hcv : IntKind.u8.wrap ((n / 2 ^ (8 * i) : Nat) : Int) = ((n / 256 ^ i % 256 : Nat) : Int) := by
      rw [pow8]; simp [IntKind.wrap, IntKind.signed, IntKind.bits]
    have hia : iaSS 1 (.slice (some ⟨S.n, 0, none⟩) 8 8) (.int .i64 (i : Int)) = some (.pointer (some ⟨S.n, i, none⟩)) := by rw [iaSS_of (k := .i64) (i := (i : Int)) (by omega) (by omega : (i : Int) < ((8 : Nat) : Int)), Int.toNat_natCast, Nat.zero_add, Nat.mul_one]
    obtain ⟨S2, u1, u2, u3, u4⟩ := st_one (off := i) (v := .int .u8 ((n / 256 ^ i % 256 : Nat) : Int)) c1 (by rw [bL_len, List.length_append, List.length_take, num8_len, List.length_replicate]; omega) rfl rfl
    simp (decide := true) only [FT.get_set, FT.setL, faS_ptr, nilS_ptr, nilS_func, nilS_yield, pickS_bool, ldS_ptr, list_cells, list_ro, partS_none, lenSl_of, lenStr_of, cvInt_of, aminmax_max, aminmax_min, abin_add, abin_sub, abin_mul, abin_eql, abin_neq, abin_lss, abin_leq, abin_gtr, abin_geq, aunary_not, aextract, Option.some.injEq, Prod.mk.injEq, Value.bool.injEq, exists_eq_left', exists_and_left, and_assoc, decide_eq_true_eq, decide_eq_false_iff_not, if_true, if_false, Nat.zero_add, Nat.add_zero, Option.bind_some, true_and, and_true, forall_const, true_implies, Bool.not_eq_true, Bool.false_eq_true, false_implies, ite_self, Nat.mul_one, t0, t3, t6, hw8, hsh, hcv, hia]
    refine ⟨S2, u1, ?_⟩
    refine m_reg ?_
    rw [reg43_6]
    have hwi : IntKind.i64.wrap ((i : Int) + 1) = ((i + 1 : Nat) : Int) := by rw [wrap_i64 (by omega) (by omega)]; rfl
    simp (decide := true) only [FT.get_set, FT.setL, faS_ptr, nilS_ptr, nilS_func, nilS_yield, pickS_bool, ldS_ptr, list_cells, list_ro, partS_none, lenSl_of, lenStr_of, cvInt_of, aminmax_max, aminmax_min, abin_add, abin_sub, abin_mul, abin_eql, abin_neq, abin_lss, abin_leq, abin_gtr, abin_geq, aunary_not, aextract, Option.some.injEq, Prod.mk.injEq, Value.bool.injEq, exists_eq_left', exists_and_left, and_assoc, decide_eq_true_eq, decide_eq_false_iff_not, if_true, if_false, Nat.zero_add, Nat.add_zero, Option.bind_some, true_and, and_true, forall_const, true_implies, Bool.not_eq_true, Bool.false_eq_true, false_implies, ite_self, Nat.mul_one, t6, hwi]
    refine ⟨m - 1, by omega, i + 1, by omega, by omega, fun y hy => by rw [u4 y (by omega), f1 y hy], ?_, by simp [FT.get_set, FT.setL, faS_ptr, nilS_ptr, nilS_func, nilS_yield, pickS_bool, ldS_ptr, list_cells, list_ro, partS_none, lenSl_of, lenStr_of, cvInt_of, aminmax_max, aminmax_min, abin_add, abin_sub, abin_mul, abin_eql, abin_neq, abin_lss, abin_leq, abin_gtr, abin_geq, aunary_not, aextract, t0], by simp [FT.get_set, FT.setL, faS_ptr, nilS_ptr, nilS_func, nilS_yield, pickS_bool, ldS_ptr, list_cells, list_ro, partS_none, lenSl_of, lenStr_of, cvInt_of, aminmax_max, aminmax_min, abin_add, abin_sub, abin_mul, abin_eql, abin_neq, abin_lss, abin_leq, abin_gtr, abin_geq, aunary_not, aextract, t3], by simp [FT.get_set, FT.setL, faS_ptr, nilS_ptr, nilS_func, nilS_yield, pickS_bool, ldS_ptr, list_cells, list_ro, partS_none, lenSl_of, lenStr_of, cvInt_of, aminmax_max, aminmax_min, abin_add, abin_sub, abin_mul, abin_eql, abin_neq, abin_lss, abin_leq, abin_gtr, abin_geq, aunary_not, aextract]⟩
    rw [u2]
    congr 2
    exact num8_step n i hlt
  · have : i = 8 := by have := of_decide_eq_false hlt; omega
    subst this
    simp only [if_true]
    refine m_seq (m_reg ?_)
    rw [reg43_7]
    refine m_ret ?_
    simp [resM, FT.get_set, FT.setL, faS_ptr, nilS_ptr, nilS_func, nilS_yield, pickS_bool, ldS_ptr, list_cells, list_ro, partS_none, lenSl_of, lenStr_of, cvInt_of, aminmax_max, aminmax_min, abin_add, abin_sub, abin_mul, abin_eql, abin_neq, abin_lss, abin_leq, abin_gtr, abin_geq, aunary_not, aextract, oneOrTuple, t3]
    refine hq S1 n1 f1 ?_
    rw [c1]; congr 3
end Go.Proofs.Ytmfmbadfgnhonaa
namespace Go.Proofs.Ytmfmbadfgnhonaa
open Go Go.Ag
set_option linter.unusedVariables false
set_option maxRecDepth 100000

def RI36 (S : MS) (v : Value) (n : Nat) (m : Nat) (T : FT) (S' : MS) : Prop := ∃ i, i + m = 8 ∧ S' = S ∧ T.get 0 = v ∧ T.get 3 = .int .i64 ((n % 256 ^ i : Nat) : Int) ∧ T.get 5 = .int .i64 i

theorem read36 {S : MS} {v : Value} {bs : List UInt8} (n : Nat) (hn : n < 4611686018427387904) (h : RB S v bs) (hb : bs.take 8 = num8 n) {Q : Value → MS → Prop} (hq : Q (.int .i64 n) S) : CallM Try.prog O 36 [v] S Q := by
  refine callM_body (fnIs is36 body36 res36) (O_none (by decide)) (by simp) ?_
  refine m_seq (m_reg ?_)
  rw [reg36_0]
  refine m_seq (m_reg ?_)
  rw [reg36_1]
  refine m_seq (m_seq (m_reg ?_))
  rw [reg36_2]
  unfold blk36_0
  refine m_block (m_loop (fun m T S' => RI36 S v n m T S') 8 ⟨0, by omega, rfl, by simp [FT.get_set, FT.setL, faS_ptr, nilS_ptr, nilS_func, nilS_yield, pickS_bool, ldS_ptr, list_cells, list_ro, partS_none, lenSl_of, lenStr_of, cvInt_of, aminmax_max, aminmax_min, abin_add, abin_sub, abin_mul, abin_eql, abin_neq, abin_lss, abin_leq, abin_gtr, abin_geq, aunary_not, aextract], by simp [FT.get_set, FT.setL, faS_ptr, nilS_ptr, nilS_func, nilS_yield, pickS_bool, ldS_ptr, list_cells, list_ro, partS_none, lenSl_of, lenStr_of, cvInt_of, aminmax_max, aminmax_min, abin_add, abin_sub, abin_mul, abin_eql, abin_neq, abin_lss, abin_leq, abin_gtr, abin_geq, aunary_not, aextract, Nat.mod_one], by simp [FT.get_set, FT.setL, faS_ptr, nilS_ptr, nilS_func, nilS_yield, pickS_bool, ldS_ptr, list_cells, list_ro, partS_none, lenSl_of, lenStr_of, cvInt_of, aminmax_max, aminmax_min, abin_add, abin_sub, abin_mul, abin_eql, abin_neq, abin_lss, abin_leq, abin_gtr, abin_geq, aunary_not, aextract]⟩ ?_)
  rintro m T S1 ⟨i, hi, rfl, t0, t3, t5⟩
  refine m_seq (m_reg ?_)
  rw [reg36_3]
  simp (decide := true) only [FT.get_set, FT.setL, faS_ptr, nilS_ptr, nilS_func, nilS_yield, pickS_bool, ldS_ptr, list_cells, list_ro, partS_none, lenSl_of, lenStr_of, cvInt_of, aminmax_max, aminmax_min, abin_add, abin_sub, abin_mul, abin_eql, abin_neq, abin_lss, abin_leq, abin_gtr, abin_geq, aunary_not, aextract, Option.some.injEq, Prod.mk.injEq, Value.bool.injEq, exists_eq_left', exists_and_left, and_assoc, decide_eq_true_eq, decide_eq_false_iff_not, if_true, if_false, Nat.zero_add, Nat.add_zero, Option.bind_some, true_and, and_true, forall_const, true_implies, Bool.not_eq_true, Bool.false_eq_true, false_implies, ite_self, Nat.mul_one, t5]
  refine m_seq (m_cond (t := decide ((i : Int) < 8)) (by simp [evalT, FT.get_set, FT.setL, faS_ptr, nilS_ptr, nilS_func, nilS_yield, pickS_bool, ldS_ptr, list_cells, list_ro, partS_none, lenSl_of, lenStr_of, cvInt_of, aminmax_max, aminmax_min, abin_add, abin_sub, abin_mul, abin_eql, abin_neq, abin_lss, abin_leq, abin_gtr, abin_geq, aunary_not, aextract]) (fun hlt => m_skip ?_) (fun hlt => m_exit ?_))
  · have hlt : i < 8 := by have := of_decide_eq_true hlt; omega
    simp only
    unfold blk36_1
    refine m_seq (m_block (m_seq (m_reg ?_)))
    rw [reg36_4]
    refine m_reg ?_
    rw [reg36_5]
    obtain ⟨d, hd⟩ : ∃ d, d = n / 256 ^ i % 256 := ⟨_, rfl⟩
    have hd256 : d < 256 := by rw [hd]; exact Nat.mod_lt _ (by omega)
    have hbi : bs[i]? = some (UInt8.ofNat d) := by
      have h1 : (bs.take 8)[i]? = some (UInt8.ofNat d) := by rw [hb, num8_get n i hlt, hd]
      rwa [List.getElem?_take, if_pos hlt] at h1
    obtain ⟨p, hp1, hp2⟩ := h.at hbi
    rw [u8_nat d hd256] at hp2
    have hcv : IntKind.i64.wrap (d : Int) = d := wrap_i64 (by omega) (by omega)
    have hw8 : IntKind.i64.wrap (8 * (i : Int)) = ((8 * i : Nat) : Int) := by rw [wrap_i64 (by omega) (by omega)]; omega
    have hmod : n % 256 ^ (i + 1) = n % 256 ^ i + 256 ^ i * d := by rw [hd]; exact Nat.mod_pow_succ
    have hle : n % 256 ^ (i + 1) ≤ n := Nat.mod_le _ _
    have hc : d * 2 ^ (8 * i) = 256 ^ i * d := by rw [pow8, Nat.mul_comm]
    have hsh := abin_shl' Try.prog 3 (.tmp 13) (.tmp 15) .i64 .i64 d (8 * i) (by show 8 * i ≤ 64; omega)
    rw [hc, wrap_i64 (by omega) (by omega)] at hsh
    have hlt2 : n % 256 ^ i < 2 ^ (8 * i) := by rw [pow8]; exact Nat.mod_lt _ (Nat.pow_pos (by omega))
    have horn : n % 256 ^ i ||| 256 ^ i * d = n % 256 ^ (i + 1) := by
      rw [hmod, ← pow8, Nat.or_comm, ← Nat.two_pow_add_eq_or_of_lt (by rw [pow8] at hlt2 ⊢; exact hlt2), Nat.add_comm]
    have hor := abin_or' Try.prog 3 (.tmp 8) (.tmp 16) (n % 256 ^ i) (256 ^ i * d) (Nat.lt_of_le_of_lt (Nat.mod_le _ _) hn) (by omega) (by rw [horn]; omega)
    rw [horn] at hor
    simp (decide := true) only [FT.get_set, FT.setL, faS_ptr, nilS_ptr, nilS_func, nilS_yield, pickS_bool, ldS_ptr, list_cells, list_ro, partS_none, lenSl_of, lenStr_of, cvInt_of, aminmax_max, aminmax_min, abin_add, abin_sub, abin_mul, abin_eql, abin_neq, abin_lss, abin_leq, abin_gtr, abin_geq, aunary_not, aextract, Option.some.injEq, Prod.mk.injEq, Value.bool.injEq, exists_eq_left', exists_and_left, and_assoc, decide_eq_true_eq, decide_eq_false_iff_not, if_true, if_false, Nat.zero_add, Nat.add_zero, Option.bind_some, true_and, and_true, forall_const, true_implies, Bool.not_eq_true, Bool.false_eq_true, false_implies, ite_self, Nat.mul_one, t0, t3, t5, hp1, hp2, hcv, hw8, hsh, hor]
    refine m_reg ?_
    rw [reg36_6]
    have hwi : IntKind.i64.wrap ((i : Int) + 1) = ((i + 1 : Nat) : Int) := by rw [wrap_i64 (by omega) (by omega)]; rfl
    simp (decide := true) only [FT.get_set, FT.setL, faS_ptr, nilS_ptr, nilS_func, nilS_yield, pickS_bool, ldS_ptr, list_cells, list_ro, partS_none, lenSl_of, lenStr_of, cvInt_of, aminmax_max, aminmax_min, abin_add, abin_sub, abin_mul, abin_eql, abin_neq, abin_lss, abin_leq, abin_gtr, abin_geq, aunary_not, aextract, Option.some.injEq, Prod.mk.injEq, Value.bool.injEq, exists_eq_left', exists_and_left, and_assoc, decide_eq_true_eq, decide_eq_false_iff_not, if_true, if_false, Nat.zero_add, Nat.add_zero, Option.bind_some, true_and, and_true, forall_const, true_implies, Bool.not_eq_true, Bool.false_eq_true, false_implies, ite_self, Nat.mul_one, t5, hwi]
    exact ⟨m - 1, by omega, i + 1, by omega, rfl, by simp [FT.get_set, FT.setL, faS_ptr, nilS_ptr, nilS_func, nilS_yield, pickS_bool, ldS_ptr, list_cells, list_ro, partS_none, lenSl_of, lenStr_of, cvInt_of, aminmax_max, aminmax_min, abin_add, abin_sub, abin_mul, abin_eql, abin_neq, abin_lss, abin_leq, abin_gtr, abin_geq, aunary_not, aextract, t0], by simp [FT.get_set, FT.setL, faS_ptr, nilS_ptr, nilS_func, nilS_yield, pickS_bool, ldS_ptr, list_cells, list_ro, partS_none, lenSl_of, lenStr_of, cvInt_of, aminmax_max, aminmax_min, abin_add, abin_sub, abin_mul, abin_eql, abin_neq, abin_lss, abin_leq, abin_gtr, abin_geq, aunary_not, aextract], by simp [FT.get_set, FT.setL, faS_ptr, nilS_ptr, nilS_func, nilS_yield, pickS_bool, ldS_ptr, list_cells, list_ro, partS_none, lenSl_of, lenStr_of, cvInt_of, aminmax_max, aminmax_min, abin_add, abin_sub, abin_mul, abin_eql, abin_neq, abin_lss, abin_leq, abin_gtr, abin_geq, aunary_not, aextract]⟩
  · have : i = 8 := by have := of_decide_eq_false hlt; omega
    subst this
    simp only [if_true]
    refine m_seq (m_reg ?_)
    rw [reg36_7]
    have : n % 256 ^ 8 = n := Nat.mod_eq_of_lt (by have : (256 : Nat) ^ 8 = 18446744073709551616 := by decide
                                                   omega)
    rw [this] at t3
    refine m_ret ?_
    simp [resM, FT.get_set, FT.setL, faS_ptr, nilS_ptr, nilS_func, nilS_yield, pickS_bool, ldS_ptr, list_cells, list_ro, partS_none, lenSl_of, lenStr_of, cvInt_of, aminmax_max, aminmax_min, abin_add, abin_sub, abin_mul, abin_eql, abin_neq, abin_lss, abin_leq, abin_gtr, abin_geq, aunary_not, aextract, oneOrTuple, t3]
    exact hq

/-! ### small ones -/
theorem weight21 {S : MS} {v : Value} {bs : List UInt8} (h : RB S v bs) (hl : bs.length ≤ 4611686018427387904) {Q : Value → MS → Prop} (hq : Q (.int .i64 ((bs.length + 8 : Nat) : Int)) S) : CallM Try.prog O 21 [v] S Q := by
  refine callM_body (fnIs is21 body21 res21) (O_none (by decide)) (by simp) ?_
  refine m_seq (m_reg ?_)
  rw [reg21_0]
  refine m_seq (m_reg ?_)
  rw [reg21_1]
  have hw : IntKind.i64.wrap ((bs.length : Int) + 8) = ((bs.length + 8 : Nat) : Int) := by rw [wrap_i64 (by omega) (by omega)]; rfl
  simp (decide := true) only [FT.get_set, FT.setL, faS_ptr, nilS_ptr, nilS_func, nilS_yield, pickS_bool, ldS_ptr, list_cells, list_ro, partS_none, lenSl_of, lenStr_of, cvInt_of, aminmax_max, aminmax_min, abin_add, abin_sub, abin_mul, abin_eql, abin_neq, abin_lss, abin_leq, abin_gtr, abin_geq, aunary_not, aextract, Option.some.injEq, Prod.mk.injEq, Value.bool.injEq, exists_eq_left', exists_and_left, and_assoc, decide_eq_true_eq, decide_eq_false_iff_not, if_true, if_false, Nat.zero_add, Nat.add_zero, Option.bind_some, true_and, and_true, forall_const, true_implies, Bool.not_eq_true, Bool.false_eq_true, false_implies, ite_self, Nat.mul_one, h.len, hw]
  refine m_ret ?_
  simp [resM, FT.get_set, FT.setL, faS_ptr, nilS_ptr, nilS_func, nilS_yield, pickS_bool, ldS_ptr, list_cells, list_ro, partS_none, lenSl_of, lenStr_of, cvInt_of, aminmax_max, aminmax_min, abin_add, abin_sub, abin_mul, abin_eql, abin_neq, abin_lss, abin_leq, abin_gtr, abin_geq, aunary_not, aextract, oneOrTuple]
  exact hq
theorem under32 : Try.prog.underlying 32 = some (.slice 5) := by kernel_rfl
theorem eql32_nil (x y : Operand) : abin Try.prog .eql 32 x y (.slice none 0 0) (.slice none 0 0) = some (.bool true) := by
  have e0 : abin Try.prog .eql 32 x y (.slice none 0 0) (.slice none 0 0) = aeqOp Try.prog .eql 32 x y (.slice none 0 0) (.slice none 0 0) := by unfold abin; rfl
  rw [e0]
  unfold aeqOp
  rw [show Op.maxDepth = (Op.maxDepth - 1) + 1 from rfl, aeq_snil_nil _ _ _ under32]
  rfl
theorem eql32_own (x y : Operand) (a : Addr) (n c : Nat) : abin Try.prog .eql 32 x y (.slice (some a) n c) (.slice none 0 0) = some (.bool false) := by
  have e0 : abin Try.prog .eql 32 x y (.slice (some a) n c) (.slice none 0 0) = aeqOp Try.prog .eql 32 x y (.slice (some a) n c) (.slice none 0 0) := by unfold abin; rfl
  rw [e0]
  unfold aeqOp
  rw [show Op.maxDepth = (Op.maxDepth - 1) + 1 from rfl, aeq_slice_nil _ _ _ _ _ _ under32]
  rfl

/-- a slice of the code's own reads so -/
theorem RB.own {S : MS} {B : Nat} {v : Value} {bs : List UInt8} (h : SlF bF 1 S B v bs) : RB S v bs := by
  have hlim : (4000000 : Nat) < unk := by decide
  cases h with
  | non => exact .nil
  | own hb hB hc hj =>
    rename_i b cap junk
    rw [bF_flat] at hb
    have hl : (bL (bs ++ junk)).length = bs.length + junk.length := by rw [bL_len, List.length_append]
    refine .inr (.inr ⟨b, 0, cap, _, rfl, list_of hb, by rw [hl]; omega, ?_, ?_, ?_⟩)
    · show ((bL (bs ++ junk)).drop 0).take bs.length = bL bs
      rw [List.drop_zero, bL_append, List.take_left' (bL_len bs)]
    · rcases hc with rfl | ⟨h1, h2⟩
      · simp at hj; omega
      · simp at h2; omega
    · rcases hc with rfl | ⟨h1, h2⟩
      · exact .inr ⟨rfl, _, hb, by rw [hl]; simp at hj; omega⟩
      · exact .inl h1
end Go.Proofs.Ytmfmbadfgnhonaa

