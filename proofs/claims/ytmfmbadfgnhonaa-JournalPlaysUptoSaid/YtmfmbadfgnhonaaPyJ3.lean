/-
  The walk through the journal's code: what its functions do to memory, part PyJ3. Nothing is asked.
-/
import Derived.Test.YtmfmbadfgnhonaaPyJ2
set_option linter.all false
namespace Go.Proofs.Ytmfmbadfgnhonaa
open Go Go.Ag
set_option linter.unusedVariables false
set_option maxRecDepth 100000

theorem slS_own3 (sz : Nat) (S : MS) (b off len cap : Nat) (low high : Option Value) (mx : Value) : slS sz S (.slice (some ⟨b, off, none⟩) len cap) low high (some mx) =
    if Nat.beq cap unk then
      (S.m b).bind fun k =>
      match k with
      | .cells l es =>
        if Nat.beq es sz && Nat.blt 0 sz && Nat.ble off l.length then
          (abounds len (Nat.max len ((l.length - off) / sz)) low high (some mx)).bind fun (l, h, m) =>
            if Nat.blt h unk && Nat.blt m unk then some (.slice (some ⟨b, off + l * sz, none⟩) (h - l) (m - l)) else none
        else none
      | _ => none
    else
      if Nat.blt cap unk then (abounds len cap low high (some mx)).bind fun (l, h, m) => some (.slice (some ⟨b, off + l * sz, none⟩) (h - l) (m - l)) else none := by
  unfold slS
  split
  · rename_i h; cases h
  · rename_i h; cases h
  · rename_i h; cases h; rfl
  · rename_i h1 h2 h3; exact absurd rfl (h3 b off len cap)

/-- a part whose room is told: i to j, of what reads as bytes -/
theorem RB.sub3 {S : MS} {v : Value} {bs : List UInt8} {i j : Nat} {low : Option Value} (h : RB S v bs) (hij : i ≤ j) (hj : j ≤ bs.length) (hlo : (low = none ∧ i = 0) ∨ low = some (.int .i64 i)) :
    ∃ v', slS 1 S v low (some (.int .i64 j)) (some (.int .i64 j)) = some v' ∧ RB S v' ((bs.drop i).take (j - i)) := by
  have hab : ∀ c, j ≤ c → abounds bs.length c low (some (.int .i64 (j : Int))) (some (.int .i64 (j : Int))) = some (i, j, j) := by
    intro c hjc
    unfold abounds
    rcases hlo with ⟨rfl, rfl⟩ | rfl <;> simp only [intIn_of hjc, intIn_of (Nat.le_refl j), intIn_of hij, Option.bind_some]
  have hl : ((bs.drop i).take (j - i)).length = j - i := by rw [List.length_take, List.length_drop]; omega
  have hlim : (4000000 : Nat) < unk := by decide
  rcases h with ⟨rfl, rfl⟩ | ⟨rfl, rfl⟩ | ⟨b, off, cap, L, rfl, h2, h3, h4, h5, h6⟩
  · have h0 := hab 0 hj
    refine ⟨.slice none 0 0, ?_, by simp; exact .nil⟩
    show (abounds 0 0 low _ _).bind _ = _
    rw [show abounds 0 0 low (some (.int .i64 (j : Int))) (some (.int .i64 (j : Int))) = _ from h0]; rfl
  · have h0 := hab 0 hj
    refine ⟨.slice (some ⟨0, 0, some 0⟩) 0 0, ?_, by simp; exact .inr (.inl ⟨rfl, rfl⟩)⟩
    show (abounds 0 0 low _ _).bind _ = _
    rw [show abounds 0 0 low (some (.int .i64 (j : Int))) (some (.int .i64 (j : Int))) = _ from h0]; rfl
  · have hcells : (L.drop (off + i)).take (j - i) = bL ((bs.drop i).take (j - i)) := by
      have e : bL ((bs.drop i).take (j - i)) = ((bL bs).drop i).take (j - i) := by simp [bL, List.map_take, List.map_drop]
      rw [e, ← h4, List.drop_take, List.take_take, List.drop_drop]
      congr 1; omega
    rw [slS_own3]
    rcases h6 with h6 | ⟨rfl, l, hl2, hs2⟩
    · rw [if_neg (by rw [Nat.beq_eq]; omega), if_pos (by rw [Nat.blt_eq]; exact h6), hab cap (by omega)]
      simp only [Option.bind_some, Nat.mul_one]
      exact ⟨_, rfl, .inr (.inr ⟨b, off + i, j - i, L, by rw [hl], h2, by rw [hl]; omega, by rw [hl]; exact hcells, by rw [hl]; omega, .inl (by omega)⟩)⟩
    · have hLl : L = l := by
        have := list_of hl2
        rw [h2] at this; exact Option.some.inj this
      subst hLl
      have hN : bs.length ≤ Nat.max bs.length ((L.length - off) / 1) := Nat.le_max_left _ _
      simp only [Nat.beq_refl, if_true, hl2, Option.bind_some]
      rw [if_pos (by simp; omega), hab _ (by omega)]
      simp only [Option.bind_some, Nat.mul_one]
      rw [if_pos (by rw [Bool.and_eq_true, Nat.blt_eq]; omega)]
      exact ⟨_, rfl, .inr (.inr ⟨b, off + i, j - i, L, by rw [hl], h2, by rw [hl]; omega, by rw [hl]; exact hcells, by rw [hl]; omega, .inl (by omega)⟩)⟩

/-- the block that a slice stands in -/
def On (v : Value) (y : Nat) : Prop := ∃ o l c, v = .slice (some ⟨y, o, none⟩) l c
theorem RB.keepOn {S S' : MS} {v : Value} {bs : List UInt8} (h : RB S v bs) (hk : ∀ y, On v y → S'.m y = S.m y) : RB S' v bs := by
  rcases h with h | h | ⟨b, off, cap, L, h1, h2, h3, h4, h5, h6⟩
  · exact .inl h
  · exact .inr (.inl h)
  · have e := hk b ⟨_, _, _, h1⟩
    refine .inr (.inr ⟨b, off, cap, L, h1, by unfold MS.list at h2 ⊢; rw [e]; exact h2, h3, h4, h5, ?_⟩)
    rcases h6 with h | ⟨h, l, hl, hs⟩
    · exact .inl h
    · exact .inr ⟨h, l, by rw [e]; exact hl, hs⟩

theorem slS_on {S : MS} {v v' : Value} {low high mx : Option Value} (h : slS 1 S v low high mx = some v') {y : Nat} (ho : On v' y) : On v y := by
  obtain ⟨o, l, c, rfl⟩ := ho
  unfold slS at h
  split at h
  · obtain ⟨_, _, h⟩ := Option.bind_eq_some_iff.1 h
    cases h
  · obtain ⟨_, _, h⟩ := Option.bind_eq_some_iff.1 h
    cases h
  · rename_i b off len cap
    split at h
    · obtain ⟨k, _, h⟩ := Option.bind_eq_some_iff.1 h
      cases k with
      | cells l es =>
        simp only at h
        split at h
        · obtain ⟨⟨i, j, m⟩, _, h⟩ := Option.bind_eq_some_iff.1 h
          simp only at h
          split at h
          · cases mx with
            | none => cases h; exact ⟨_, _, _, rfl⟩
            | some m => cases h; exact ⟨_, _, _, rfl⟩
          · cases h
        · cases h
      | _ => cases h
    · split at h
      · obtain ⟨⟨i, j, m⟩, _, h⟩ := Option.bind_eq_some_iff.1 h
        cases h; exact ⟨_, _, _, rfl⟩
      · cases h
  · cases h

theorem SlF.on {α : Type} {f : α → List Value} {sz : Nat} {S : MS} {B : Nat} {v : Value} {l : List α} (h : SlF f sz S B v l) {y : Nat} (ho : On v y) : B ≤ y := by
  obtain ⟨o, n, c, e⟩ := ho
  cases h with
  | non => cases e
  | own hb hB hc hj => cases e; exact hB
theorem RB.on_lt {S : MS} {v : Value} {bs : List UInt8} (h : RB S v bs) (wf : S.WF) {y : Nat} (ho : On v y) : y < S.n := by
  obtain ⟨o, n, c, e⟩ := ho
  rcases h with ⟨rfl, _⟩ | ⟨rfl, _⟩ | ⟨b, off, cap, L, rfl, h2, _⟩
  · cases e
  · cases e
  · cases e
    unfold MS.list at h2
    obtain ⟨k, hk, _⟩ := Option.bind_eq_some_iff.1 h2
    exact wf _ _ hk

/-- pieces: a function over the bytes in a block of its own -/
theorem pieces44 {S : MS} {v : Value} {bs : List UInt8} (h : RB S v bs) {Q : Value → MS → Prop} (hq : Q (.func (.func 47) #[] #[.pointer (some ⟨S.n, 0, none⟩)]) (S.fresh [v] 0)) : CallM Try.prog O 44 [v] S Q := by
  refine callM_body (fnIs is44 body44 res44) (O_none (by decide)) (by simp) ?_
  refine m_seq (m_reg ?_)
  rw [reg44_0]
  refine m_seq (m_reg ?_)
  rw [reg44_1]
  have hc : (Value.cells v).toList = [v] := by rw [h.one.1]
  refine m_ret ?_
  simp [resM, FT.get_set, FT.setL, faS_ptr, nilS_ptr, nilS_func, nilS_yield, pickS_bool, ldS_ptr, list_cells, list_ro, partS_none, lenSl_of, lenStr_of, cvInt_of, aminmax_max, aminmax_min, abin_add, abin_sub, abin_mul, abin_eql, abin_neq, abin_lss, abin_leq, abin_gtr, abin_geq, aunary_not, aextract, oneOrTuple, hc, ptrTo]
  exact hq

/-- a journal's struct -/
def jouL (d : Nat) (half end' : Int) (base recs tail : Value) (dead : Bool) : List Value := [.pointer (some ⟨d, 0, none⟩), .int .i64 half, .int .i64 end', base, recs, tail, .bool dead]
theorem capacity14 {S : MS} {j d : Nat} {D : DK} {half end' : Int} {base recs tail : Value} {dead : Bool} (hj : S.m j = some (.cells (jouL d half end' base recs tail dead) 0)) (h : IsD S d D) (hn : D.made.length ≤ 16384) {Q : Value → MS → Prop} (hq : Q (.int .i64 ((32 * D.made.length : Nat) : Int)) S) : CallM Try.prog O 14 [.pointer (some ⟨j, 0, none⟩)] S Q := by
  refine callM_body (fnIs is14 body14 res14) (O_none (by decide)) (by simp) ?_
  refine m_seq (m_reg ?_)
  rw [reg14_0]
  refine m_seq (m_reg ?_)
  rw [reg14_1]
  have g0 : (jouL d half end' base recs tail dead)[0]? = some (.pointer (some ⟨d, 0, none⟩)) := rfl
  simp (decide := true) only [FT.get_set, FT.setL, faS_ptr, nilS_ptr, nilS_func, nilS_yield, pickS_bool, ldS_ptr, list_cells, list_ro, partS_none, lenSl_of, lenStr_of, cvInt_of, aminmax_max, aminmax_min, abin_add, abin_sub, abin_mul, abin_eql, abin_neq, abin_lss, abin_leq, abin_gtr, abin_geq, aunary_not, aextract, Option.some.injEq, Prod.mk.injEq, Value.bool.injEq, exists_eq_left', exists_and_left, and_assoc, decide_eq_true_eq, decide_eq_false_iff_not, if_true, if_false, Nat.zero_add, Nat.add_zero, Option.bind_some, true_and, and_true, forall_const, true_implies, Bool.not_eq_true, Bool.false_eq_true, false_implies, ite_self, Nat.mul_one, list_of hj, g0]
  refine capacity29 h hn ?_
  refine m_ret ?_
  simp [resM, FT.get_set, FT.setL, faS_ptr, nilS_ptr, nilS_func, nilS_yield, pickS_bool, ldS_ptr, list_cells, list_ro, partS_none, lenSl_of, lenStr_of, cvInt_of, aminmax_max, aminmax_min, abin_add, abin_sub, abin_mul, abin_eql, abin_neq, abin_lss, abin_leq, abin_gtr, abin_geq, aunary_not, aextract, oneOrTuple]
  exact hq
end Go.Proofs.Ytmfmbadfgnhonaa
namespace Go.Proofs.Ytmfmbadfgnhonaa
open Go Go.Ag
set_option linter.unusedVariables false
set_option maxRecDepth 100000

theorem jl6 (d : Nat) (h e : Int) (a b c : Value) (k : Bool) : (jouL d h e a b c k)[6]? = some (.bool k) := rfl
theorem js6 (d : Nat) (h e : Int) (a b c : Value) (k x : Bool) : (jouL d h e a b c k).set 6 (.bool x) = jouL d h e a b c x := rfl

/-- dies: an error that is none leaves it alive -/
theorem dies41 {S : MS} {j d : Nat} {half end' : Int} {base recs tail : Value} {dead : Bool} (hj : S.m j = some (.cells (jouL d half end' base recs tail dead) 0)) (e : Int) (he : e ≠ 0) {Q : Value → MS → Prop}
    (hq : ∀ S', S'.m j = some (.cells (jouL d half end' base recs tail true) 0) → S'.n = S.n → (∀ x, x ≠ j → S'.m x = S.m x) → Q (.int .i64 e) S') : CallM Try.prog O 41 [.pointer (some ⟨j, 0, none⟩), .int .i64 e] S Q := by
  refine callM_body (fnIs is41 body41 res41) (O_none (by decide)) (by simp) ?_
  refine m_seq (m_reg ?_)
  rw [reg41_0]
  refine m_seq (m_reg ?_)
  rw [reg41_1]
  have hne : (!(e == 0)) = true := by simp [he]
  have hne2 : (e != 0) = true := by simp [he]
  obtain ⟨S1, u1, u2, u3, u4⟩ := st_one (off := 6) (v := .bool true) hj (by show 6 < 7; omega) rfl rfl
  rw [js6] at u2
  cases dead with
  | true =>
    simp (decide := true) only [FT.get_set, FT.setL, faS_ptr, nilS_ptr, nilS_func, nilS_yield, pickS_bool, ldS_ptr, list_cells, list_ro, partS_none, lenSl_of, lenStr_of, cvInt_of, aminmax_max, aminmax_min, abin_add, abin_sub, abin_mul, abin_eql, abin_neq, abin_lss, abin_leq, abin_gtr, abin_geq, aunary_not, aextract, Option.some.injEq, Prod.mk.injEq, Value.bool.injEq, exists_eq_left', exists_and_left, and_assoc, decide_eq_true_eq, decide_eq_false_iff_not, if_true, if_false, Nat.zero_add, Nat.add_zero, Option.bind_some, true_and, and_true, forall_const, true_implies, Bool.not_eq_true, Bool.false_eq_true, false_implies, ite_self, Nat.mul_one, list_of hj, jl6]
    refine ⟨S1, u1, ?_⟩
    refine m_seq (m_reg ?_)
    rw [reg41_2]
    refine m_ret ?_
    simp [resM, FT.get_set, FT.setL, faS_ptr, nilS_ptr, nilS_func, nilS_yield, pickS_bool, ldS_ptr, list_cells, list_ro, partS_none, lenSl_of, lenStr_of, cvInt_of, aminmax_max, aminmax_min, abin_add, abin_sub, abin_mul, abin_eql, abin_neq, abin_lss, abin_leq, abin_gtr, abin_geq, aunary_not, aextract, oneOrTuple]
    exact hq S1 u2 u3 u4
  | false =>
    simp (decide := true) only [FT.get_set, FT.setL, faS_ptr, nilS_ptr, nilS_func, nilS_yield, pickS_bool, ldS_ptr, list_cells, list_ro, partS_none, lenSl_of, lenStr_of, cvInt_of, aminmax_max, aminmax_min, abin_add, abin_sub, abin_mul, abin_eql, abin_neq, abin_lss, abin_leq, abin_gtr, abin_geq, aunary_not, aextract, Option.some.injEq, Prod.mk.injEq, Value.bool.injEq, exists_eq_left', exists_and_left, and_assoc, decide_eq_true_eq, decide_eq_false_iff_not, if_true, if_false, Nat.zero_add, Nat.add_zero, Option.bind_some, true_and, and_true, forall_const, true_implies, Bool.not_eq_true, Bool.false_eq_true, false_implies, ite_self, Nat.mul_one, list_of hj, jl6, hne, hne2]
    refine ⟨S1, u1, ?_⟩
    refine m_seq (m_reg ?_)
    rw [reg41_2]
    refine m_ret ?_
    simp [resM, FT.get_set, FT.setL, faS_ptr, nilS_ptr, nilS_func, nilS_yield, pickS_bool, ldS_ptr, list_cells, list_ro, partS_none, lenSl_of, lenStr_of, cvInt_of, aminmax_max, aminmax_min, abin_add, abin_sub, abin_mul, abin_eql, abin_neq, abin_lss, abin_leq, abin_gtr, abin_geq, aunary_not, aextract, oneOrTuple]
    exact hq S1 u2 u3 u4
end Go.Proofs.Ytmfmbadfgnhonaa
namespace Go.Proofs.Ytmfmbadfgnhonaa
open Go Go.Ag
set_option linter.unusedVariables false
set_option maxRecDepth 100000

/-- a slice, as one cell -/
structure Sv where
  a : Option Addr
  n : Nat
  c : Nat
def Sv.v (x : Sv) : Value := .slice x.a x.n x.c
def svF (x : Sv) : List Value := [x.v]
theorem sv_len (x : Sv) : (svF x).length = 1 := rfl
theorem sv_one (x : Sv) : (svF x).all oneCell = true := rfl

theorem fm_get1 {α : Type} {f : α → List Value} (hf : ∀ a, (f a).length = 1) : ∀ (l : List α) (i : Nat) (x : α), l[i]? = some x → (l.flatMap f)[i]? = (f x)[0]? := by
  intro l
  induction l with
  | nil => intro i x h; cases h
  | cons y l ih =>
    intro i x h
    rw [List.flatMap_cons]
    cases i with
    | zero => cases h; rw [List.getElem?_append_left (by rw [hf]; omega)]
    | succ i => rw [List.getElem?_append_right (by rw [hf]; omega), hf, Nat.add_sub_cancel]; exact ih i x h
/-- an element of one cell -/
theorem SlF.at1 {S : MS} {B : Nat} {v : Value} {l : List Sv} {i : Nat} {x : Sv} (h : SlF svF 1 S B v l) (hx : l[i]? = some x) : ∃ p, iaSS 1 v (.int .i64 (i : Int)) = some p ∧ ldS none S p = some x.v := by
  have hlt := (List.getElem?_eq_some_iff.1 hx).1
  cases h with
  | non => cases hx
  | own hb hB hc hj =>
    rename_i b cap junk
    refine ⟨.pointer (some ⟨b, i, none⟩), ?_, ?_⟩
    · rw [iaSS_of (k := .i64) (i := (i : Int)) (by omega) (by omega : (i : Int) < (l.length : Int)), Int.toNat_natCast, Nat.zero_add, Nat.mul_one]
    · rw [ldS_ptr, list_of hb]
      exact fm_get1 sv_len (l ++ junk) i x (by rw [List.getElem?_append_left hlt]; exact hx)

/-- records that are read -/
def RBs (S : MS) (rl : List Sv) (rs : List (List UInt8)) : Prop := rl.length = rs.length ∧ ∀ (i : Nat) x r, rl[i]? = some x → rs[i]? = some r → RB S x.v r
theorem RBs.keep {S S' : MS} {rl : List Sv} {rs : List (List UInt8)} (h : RBs S rl rs) (wf : S.WF) (hk : ∀ x, x < S.n → S'.m x = S.m x) : RBs S' rl rs := ⟨h.1, fun i x r h1 h2 => (h.2 i x r h1 h2).keep wf hk⟩

/-- a journal: where its half is, how many bytes, what it says -/
structure IsJ (S : MS) (j d B : Nat) (half end' : Nat) (base : List UInt8) (rs : List (List UInt8)) (tail : List UInt8) (dead : Bool) : Prop where
  ex : ∃ bv rv tv rl, S.m j = some (.cells (jouL d half end' bv rv tv dead) 0) ∧ RB S bv base ∧ SlF svF 1 S B rv rl ∧ RBs S rl rs ∧ RB S tv tail ∧ Av rv j

def wsum : List (List UInt8) → Nat
  | [] => 0
  | r :: rs => r.length + 8 + wsum rs
theorem wsum_append (a b : List (List UInt8)) : wsum (a ++ b) = wsum a + wsum b := by
  induction a with
  | nil => simp [wsum]
  | cons x a ih => simp [wsum, ih]; omega
theorem wsum_take_le (rs : List (List UInt8)) (i : Nat) : wsum (rs.take i) ≤ wsum rs := by
  conv => rhs; rw [← List.take_append_drop i rs, wsum_append]
  omega
theorem wsum_len (rs : List (List UInt8)) : 8 * rs.length ≤ wsum rs := by
  induction rs with
  | nil => simp [wsum]
  | cons x a ih => simp [wsum]; omega
def liveN (base : List UInt8) (rs : List (List UInt8)) : Nat := base.length + 8 + wsum rs

def LI27 (S : MS) (rv : Value) (base : List UInt8) (rs : List (List UInt8)) (m : Nat) (T : FT) (S' : MS) : Prop := ∃ i : Nat, i + m = rs.length ∧ S' = S ∧ T.get 3 = .int .i64 ((liveN base (rs.take i) : Nat) : Int) ∧ T.get 14 = rv ∧ T.get 15 = .int .i64 rs.length ∧ T.get 16 = .int .i64 i

theorem live27 {S : MS} {j d B half end' : Nat} {base tail : List UInt8} {rs : List (List UInt8)} {dead : Bool} (h : IsJ S j d B half end' base rs tail dead) (hl : liveN base rs ≤ 1000000) {Q : Value → MS → Prop} (hq : Q (.int .i64 (liveN base rs : Nat)) S) : CallM Try.prog O 27 [.pointer (some ⟨j, 0, none⟩)] S Q := by
  obtain ⟨bv, rv, tv, rl, hj, hb, hr, hrs, ht, hav⟩ := h.ex
  refine callM_body (fnIs is27 body27 res27) (O_none (by decide)) (by simp) ?_
  refine m_seq (m_reg ?_)
  rw [reg27_0]
  refine m_seq (m_reg ?_)
  rw [reg27_1]
  have g3 : (jouL d half end' bv rv tv dead)[3]? = some bv := rfl
  have g4 : (jouL d half end' bv rv tv dead)[4]? = some rv := rfl
  have hbl : base.length ≤ 1000000 := by unfold liveN at hl; omega
  simp (decide := true) only [FT.get_set, FT.setL, faS_ptr, nilS_ptr, nilS_func, nilS_yield, pickS_bool, ldS_ptr, list_cells, list_ro, partS_none, lenSl_of, lenStr_of, cvInt_of, aminmax_max, aminmax_min, abin_add, abin_sub, abin_mul, abin_eql, abin_neq, abin_lss, abin_leq, abin_gtr, abin_geq, aunary_not, aextract, Option.some.injEq, Prod.mk.injEq, Value.bool.injEq, exists_eq_left', exists_and_left, and_assoc, decide_eq_true_eq, decide_eq_false_iff_not, if_true, if_false, Nat.zero_add, Nat.add_zero, Option.bind_some, true_and, and_true, forall_const, true_implies, Bool.not_eq_true, Bool.false_eq_true, false_implies, ite_self, Nat.mul_one, list_of hj, g3]
  refine weight21 hb (by omega) ?_
  refine m_seq (m_seq (m_reg ?_))
  rw [reg27_2]
  have hlen := hr.lenSl
  rw [hrs.1] at hlen
  simp (decide := true) only [FT.get_set, FT.setL, faS_ptr, nilS_ptr, nilS_func, nilS_yield, pickS_bool, ldS_ptr, list_cells, list_ro, partS_none, lenSl_of, lenStr_of, cvInt_of, aminmax_max, aminmax_min, abin_add, abin_sub, abin_mul, abin_eql, abin_neq, abin_lss, abin_leq, abin_gtr, abin_geq, aunary_not, aextract, Option.some.injEq, Prod.mk.injEq, Value.bool.injEq, exists_eq_left', exists_and_left, and_assoc, decide_eq_true_eq, decide_eq_false_iff_not, if_true, if_false, Nat.zero_add, Nat.add_zero, Option.bind_some, true_and, and_true, forall_const, true_implies, Bool.not_eq_true, Bool.false_eq_true, false_implies, ite_self, Nat.mul_one, list_of hj, g4, hlen]
  unfold blk27_0
  refine m_block (m_loop (fun m T S' => LI27 S rv base rs m T S') rs.length ⟨0, by omega, rfl, by simp [FT.get_set, FT.setL, faS_ptr, nilS_ptr, nilS_func, nilS_yield, pickS_bool, ldS_ptr, list_cells, list_ro, partS_none, lenSl_of, lenStr_of, cvInt_of, aminmax_max, aminmax_min, abin_add, abin_sub, abin_mul, abin_eql, abin_neq, abin_lss, abin_leq, abin_gtr, abin_geq, aunary_not, aextract, liveN, wsum], by simp [FT.get_set, FT.setL, faS_ptr, nilS_ptr, nilS_func, nilS_yield, pickS_bool, ldS_ptr, list_cells, list_ro, partS_none, lenSl_of, lenStr_of, cvInt_of, aminmax_max, aminmax_min, abin_add, abin_sub, abin_mul, abin_eql, abin_neq, abin_lss, abin_leq, abin_gtr, abin_geq, aunary_not, aextract], by simp [FT.get_set, FT.setL, faS_ptr, nilS_ptr, nilS_func, nilS_yield, pickS_bool, ldS_ptr, list_cells, list_ro, partS_none, lenSl_of, lenStr_of, cvInt_of, aminmax_max, aminmax_min, abin_add, abin_sub, abin_mul, abin_eql, abin_neq, abin_lss, abin_leq, abin_gtr, abin_geq, aunary_not, aextract], by simp [FT.get_set, FT.setL, faS_ptr, nilS_ptr, nilS_func, nilS_yield, pickS_bool, ldS_ptr, list_cells, list_ro, partS_none, lenSl_of, lenStr_of, cvInt_of, aminmax_max, aminmax_min, abin_add, abin_sub, abin_mul, abin_eql, abin_neq, abin_lss, abin_leq, abin_gtr, abin_geq, aunary_not, aextract]⟩ ?_)
  rintro m T S1 ⟨i, hi, rfl, t3, t14, t15, t16⟩
  refine m_seq (m_reg ?_)
  rw [reg27_3]
  simp (decide := true) only [FT.get_set, FT.setL, faS_ptr, nilS_ptr, nilS_func, nilS_yield, pickS_bool, ldS_ptr, list_cells, list_ro, partS_none, lenSl_of, lenStr_of, cvInt_of, aminmax_max, aminmax_min, abin_add, abin_sub, abin_mul, abin_eql, abin_neq, abin_lss, abin_leq, abin_gtr, abin_geq, aunary_not, aextract, Option.some.injEq, Prod.mk.injEq, Value.bool.injEq, exists_eq_left', exists_and_left, and_assoc, decide_eq_true_eq, decide_eq_false_iff_not, if_true, if_false, Nat.zero_add, Nat.add_zero, Option.bind_some, true_and, and_true, forall_const, true_implies, Bool.not_eq_true, Bool.false_eq_true, false_implies, ite_self, Nat.mul_one, t15, t16]
  refine m_seq (m_cond (t := decide ((i : Int) < rs.length)) (by simp [evalT, FT.get_set, FT.setL, faS_ptr, nilS_ptr, nilS_func, nilS_yield, pickS_bool, ldS_ptr, list_cells, list_ro, partS_none, lenSl_of, lenStr_of, cvInt_of, aminmax_max, aminmax_min, abin_add, abin_sub, abin_mul, abin_eql, abin_neq, abin_lss, abin_leq, abin_gtr, abin_geq, aunary_not, aextract]) (fun hlt => m_skip ?_) (fun hlt => m_exit ?_))
  · have hlt : i < rs.length := by have := of_decide_eq_true hlt; omega
    simp only
    obtain ⟨r, hri⟩ : ∃ r, rs[i]? = some r := ⟨_, List.getElem?_eq_getElem hlt⟩
    obtain ⟨x, hxi⟩ : ∃ x, rl[i]? = some x := ⟨_, List.getElem?_eq_getElem (by rw [hrs.1]; exact hlt)⟩
    have hrb := hrs.2 i x r hxi hri
    obtain ⟨p, q1, q2⟩ := SlF.at1 hr hxi
    have htk : rs.take (i + 1) = rs.take i ++ [r] := by rw [List.take_add_one, hri]; rfl
    have hsum : liveN base (rs.take (i + 1)) = liveN base (rs.take i) + (r.length + 8) := by
      unfold liveN; rw [htk, wsum_append]; simp [wsum]; omega
    have hle := wsum_take_le rs (i + 1)
    have hwl := wsum_len rs
    have hl3 := hl
    unfold liveN at hl3
    have hle2 : liveN base (rs.take (i + 1)) ≤ 1000000 := by unfold liveN at hl ⊢; omega
    unfold blk27_1
    refine m_seq (m_block (m_seq (m_reg ?_)))
    rw [reg27_4]
    simp (decide := true) only [FT.get_set, FT.setL, faS_ptr, nilS_ptr, nilS_func, nilS_yield, pickS_bool, ldS_ptr, list_cells, list_ro, partS_none, lenSl_of, lenStr_of, cvInt_of, aminmax_max, aminmax_min, abin_add, abin_sub, abin_mul, abin_eql, abin_neq, abin_lss, abin_leq, abin_gtr, abin_geq, aunary_not, aextract, Option.some.injEq, Prod.mk.injEq, Value.bool.injEq, exists_eq_left', exists_and_left, and_assoc, decide_eq_true_eq, decide_eq_false_iff_not, if_true, if_false, Nat.zero_add, Nat.add_zero, Option.bind_some, true_and, and_true, forall_const, true_implies, Bool.not_eq_true, Bool.false_eq_true, false_implies, ite_self, Nat.mul_one, t14, t16, q1, q2]
    refine m_reg ?_
    rw [reg27_5]
    simp (decide := true) only [FT.get_set, FT.setL, faS_ptr, nilS_ptr, nilS_func, nilS_yield, pickS_bool, ldS_ptr, list_cells, list_ro, partS_none, lenSl_of, lenStr_of, cvInt_of, aminmax_max, aminmax_min, abin_add, abin_sub, abin_mul, abin_eql, abin_neq, abin_lss, abin_leq, abin_gtr, abin_geq, aunary_not, aextract, Option.some.injEq, Prod.mk.injEq, Value.bool.injEq, exists_eq_left', exists_and_left, and_assoc, decide_eq_true_eq, decide_eq_false_iff_not, if_true, if_false, Nat.zero_add, Nat.add_zero, Option.bind_some, true_and, and_true, forall_const, true_implies, Bool.not_eq_true, Bool.false_eq_true, false_implies, ite_self, Nat.mul_one, t3]
    refine weight21 hrb (by omega) ?_
    have hw : IntKind.i64.wrap (((liveN base (rs.take i) : Nat) : Int) + ((r.length + 8 : Nat) : Int)) = ((liveN base (rs.take (i + 1)) : Nat) : Int) := by rw [wrap_i64 (by omega) (by omega), hsum]; rfl
    simp (decide := true) only [FT.get_set, FT.setL, faS_ptr, nilS_ptr, nilS_func, nilS_yield, pickS_bool, ldS_ptr, list_cells, list_ro, partS_none, lenSl_of, lenStr_of, cvInt_of, aminmax_max, aminmax_min, abin_add, abin_sub, abin_mul, abin_eql, abin_neq, abin_lss, abin_leq, abin_gtr, abin_geq, aunary_not, aextract, Option.some.injEq, Prod.mk.injEq, Value.bool.injEq, exists_eq_left', exists_and_left, and_assoc, decide_eq_true_eq, decide_eq_false_iff_not, if_true, if_false, Nat.zero_add, Nat.add_zero, Option.bind_some, true_and, and_true, forall_const, true_implies, Bool.not_eq_true, Bool.false_eq_true, false_implies, ite_self, Nat.mul_one, hw]
    refine m_reg ?_
    rw [reg27_6]
    have hwi : IntKind.i64.wrap ((i : Int) + 1) = ((i + 1 : Nat) : Int) := by rw [wrap_i64 (by omega) (by omega)]; rfl
    simp (decide := true) only [FT.get_set, FT.setL, faS_ptr, nilS_ptr, nilS_func, nilS_yield, pickS_bool, ldS_ptr, list_cells, list_ro, partS_none, lenSl_of, lenStr_of, cvInt_of, aminmax_max, aminmax_min, abin_add, abin_sub, abin_mul, abin_eql, abin_neq, abin_lss, abin_leq, abin_gtr, abin_geq, aunary_not, aextract, Option.some.injEq, Prod.mk.injEq, Value.bool.injEq, exists_eq_left', exists_and_left, and_assoc, decide_eq_true_eq, decide_eq_false_iff_not, if_true, if_false, Nat.zero_add, Nat.add_zero, Option.bind_some, true_and, and_true, forall_const, true_implies, Bool.not_eq_true, Bool.false_eq_true, false_implies, ite_self, Nat.mul_one, t16, hwi]
    exact ⟨m - 1, by omega, i + 1, by omega, rfl, by simp [FT.get_set, FT.setL, faS_ptr, nilS_ptr, nilS_func, nilS_yield, pickS_bool, ldS_ptr, list_cells, list_ro, partS_none, lenSl_of, lenStr_of, cvInt_of, aminmax_max, aminmax_min, abin_add, abin_sub, abin_mul, abin_eql, abin_neq, abin_lss, abin_leq, abin_gtr, abin_geq, aunary_not, aextract], by simp [FT.get_set, FT.setL, faS_ptr, nilS_ptr, nilS_func, nilS_yield, pickS_bool, ldS_ptr, list_cells, list_ro, partS_none, lenSl_of, lenStr_of, cvInt_of, aminmax_max, aminmax_min, abin_add, abin_sub, abin_mul, abin_eql, abin_neq, abin_lss, abin_leq, abin_gtr, abin_geq, aunary_not, aextract, t14], by simp [FT.get_set, FT.setL, faS_ptr, nilS_ptr, nilS_func, nilS_yield, pickS_bool, ldS_ptr, list_cells, list_ro, partS_none, lenSl_of, lenStr_of, cvInt_of, aminmax_max, aminmax_min, abin_add, abin_sub, abin_mul, abin_eql, abin_neq, abin_lss, abin_leq, abin_gtr, abin_geq, aunary_not, aextract, t15], by simp [FT.get_set, FT.setL, faS_ptr, nilS_ptr, nilS_func, nilS_yield, pickS_bool, ldS_ptr, list_cells, list_ro, partS_none, lenSl_of, lenStr_of, cvInt_of, aminmax_max, aminmax_min, abin_add, abin_sub, abin_mul, abin_eql, abin_neq, abin_lss, abin_leq, abin_gtr, abin_geq, aunary_not, aextract]⟩
  · have : i = rs.length := by have := of_decide_eq_false hlt; omega
    subst this
    rw [List.take_length] at t3
    simp only [if_true]
    refine m_seq (m_reg ?_)
    rw [reg27_7]
    refine m_ret ?_
    simp [resM, FT.get_set, FT.setL, faS_ptr, nilS_ptr, nilS_func, nilS_yield, pickS_bool, ldS_ptr, list_cells, list_ro, partS_none, lenSl_of, lenStr_of, cvInt_of, aminmax_max, aminmax_min, abin_add, abin_sub, abin_mul, abin_eql, abin_neq, abin_lss, abin_leq, abin_gtr, abin_geq, aunary_not, aextract, oneOrTuple, t3]
    exact hq
end Go.Proofs.Ytmfmbadfgnhonaa

