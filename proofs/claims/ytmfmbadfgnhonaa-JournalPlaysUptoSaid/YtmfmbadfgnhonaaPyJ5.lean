/-
  The walk through the journal's code: what its functions do to memory, part PyJ5. Nothing is asked.
-/
import Derived.Test.YtmfmbadfgnhonaaPyJ4
set_option linter.all false
namespace Go.Proofs.Ytmfmbadfgnhonaa
open Go Go.Ag
set_option linter.unusedVariables false
set_option maxRecDepth 100000

theorem parts39 {S : MS} {v : Value} {bs : List UInt8} (h : RB S v bs) {Q : Value → MS → Prop} (hq : Q (.func (.func 45) #[] #[.pointer (some ⟨S.n, 0, none⟩)]) (S.fresh [v] 0)) : CallM Try.prog O 39 [v] S Q := by
  refine callM_body (fnIs is39 body39 res39) (O_none (by decide)) (by simp) ?_
  refine m_seq (m_reg ?_)
  rw [reg39_0]
  refine m_seq (m_reg ?_)
  rw [reg39_1]
  have hc : (Value.cells v).toList = [v] := by rw [h.one.1]
  refine m_ret ?_
  simp [resM, FT.get_set, FT.setL, faS_ptr, nilS_ptr, nilS_func, nilS_yield, pickS_bool, ldS_ptr, list_cells, list_ro, partS_none, lenSl_of, lenStr_of, cvInt_of, aminmax_max, aminmax_min, abin_add, abin_sub, abin_mul, abin_eql, abin_neq, abin_lss, abin_leq, abin_gtr, abin_geq, aunary_not, aextract, oneOrTuple, hc, ptrTo]
  exact hq
end Go.Proofs.Ytmfmbadfgnhonaa
namespace Go.Proofs.Ytmfmbadfgnhonaa
open Go Go.Ag
set_option linter.unusedVariables false
set_option maxRecDepth 100000

/-! ### a disk's writes, one by one -/
def appC (c : Nat → List UInt8) (W : List (Nat × List UInt8)) : Nat → List UInt8 := W.foldl (fun c w => fun j => if j = w.1 then w.2 else c j) c
theorem appC_snoc (c : Nat → List UInt8) (W : List (Nat × List UInt8)) (w : Nat × List UInt8) : appC c (W ++ [w]) = fun j => if j = w.1 then w.2 else appC c W j := by simp [appC]
theorem appC_app (c : Nat → List UInt8) (W V : List (Nat × List UInt8)) : appC c (W ++ V) = appC (appC c W) V := by simp [appC]
/-- what a disk was made with, what was written since -/
structure HW (S : MS) (D : DK) (c0 : Nat → List UInt8) (W : List (Nat × List UInt8)) : Prop where
  z : ∀ i, i < D.made.length → (c0 i).length = 256 ∧ ∃ o, D.made[i]? = some o ∧ Cont S o (bL (c0 i))
  now : D.now = applyW D.made D.ws
  len : D.ws.length = W.length
  ws : ∀ (k : Nat) w x, D.ws[k]? = some w → W[k]? = some x → w.1 = x.1 ∧ w.1 < D.made.length ∧ x.2.length = 256 ∧ S.m w.2 = some (.cells (bL x.2) 0)

theorem HW.at {S : MS} {D : DK} {c0 : Nat → List UInt8} {W : List (Nat × List UInt8)} (h : HW S D c0 W) : ∀ n, n ≤ W.length → ∀ i, i < D.made.length → (appC c0 (W.take n) i).length = 256 ∧ ∃ o, (applyW D.made (D.ws.take n))[i]? = some o ∧ Cont S o (bL (appC c0 (W.take n) i)) := by
  intro n
  induction n with
  | zero => intro _ i hi; simpa [appC, applyW] using h.z i hi
  | succ n ih =>
    intro hn i hi
    obtain ⟨w, hw⟩ : ∃ w, D.ws[n]? = some w := ⟨_, List.getElem?_eq_getElem (by rw [h.len]; omega)⟩
    obtain ⟨x, hx⟩ : ∃ x, W[n]? = some x := ⟨_, List.getElem?_eq_getElem (by omega)⟩
    obtain ⟨h1, h2, h3, h4⟩ := h.ws n w x hw hx
    have e1 : W.take (n + 1) = W.take n ++ [x] := by rw [List.take_add_one, hx]; rfl
    rw [applyW_take _ _ _ _ hw, e1, appC_snoc]
    by_cases e : i = x.1
    · subst e
      simp only [if_true]
      refine ⟨h3, some w.2, ?_, ?_⟩
      · rw [h1, List.getElem?_set_self (by rw [applyW_len]; exact hi)]
      · exact ⟨by rw [bL_len, h3], bL_one _, h4⟩
    · simp only [if_neg e]
      rw [List.getElem?_set_ne (by rw [h1]; exact fun he => e he.symm)]
      exact ih (by omega) i hi
theorem HW.holds {S : MS} {D : DK} {c0 : Nat → List UInt8} {W : List (Nat × List UInt8)} (h : HW S D c0 W) : Holds S D (appC c0 W) := fun i hi => by
  have := h.at W.length (Nat.le_refl _) i hi
  rw [List.take_length, ← h.len, List.take_length, ← h.now] at this
  exact this

/-- an array of a disk -/
def Arr (S : MS) (x : Nat) : Prop := ∃ l, S.m x = some (.cells l 0) ∧ l.length = 256
theorem HW.keep {S S' : MS} {D : DK} {c0 : Nat → List UInt8} {W : List (Nat × List UInt8)} (h : HW S D c0 W) (hk : ∀ x, Arr S x → S'.m x = S.m x) : HW S' D c0 W := by
  refine ⟨fun i hi => ?_, h.now, h.len, fun k w x h1 h2 => ?_⟩
  · obtain ⟨h1, o, h2, h3⟩ := h.z i hi
    refine ⟨h1, o, h2, h3.keep fun a ha => ?_⟩
    subst ha
    exact hk a ⟨_, h3.2.2, h3.1⟩
  · obtain ⟨g1, g2, g3, g4⟩ := h.ws k w x h1 h2
    exact ⟨g1, g2, g3, by rw [hk _ ⟨_, g4, by rw [bL_len, g3]⟩]; exact g4⟩
theorem HW.old {S S' : MS} {D : DK} {c0 : Nat → List UInt8} {W : List (Nat × List UInt8)} (h : HW S D c0 W) (wf : S.WF) (f : Old S S') : HW S' D c0 W := h.keep fun x ⟨l, hl, _⟩ => f.2 x (wf _ _ hl)
/-- where only the disk's flags differ -/
theorem HW.same {S : MS} {D D' : DK} {c0 : Nat → List UInt8} {W : List (Nat × List UInt8)} (h : HW S D c0 W) (h1 : D'.made = D.made) (h2 : D'.now = D.now) (h3 : D'.ws = D.ws) : HW S D' c0 W :=
  ⟨by rw [h1]; exact h.z, by rw [h1, h2, h3]; exact h.now, by rw [h3]; exact h.len, by rw [h1, h3]; exact h.ws⟩

/-- blocks that aren't the disk's own -/
def FrD (S : MS) (d : Nat) (D : DK) (y : Nat) : Prop := y < S.n ∧ y ≠ d ∧ y ≠ D.nb ∧ (D.ws ≠ [] → y ≠ D.wb) ∧ y ≠ D.mb
/-- so many writes later -/
structure Wn (D D' : DK) (k : Nat) : Prop where
  made : D'.made = D.made
  ws : D'.ws.length = D.ws.length + k
  halt : D'.halt ≤ D.halt
  live : D.cut = false → D.halt ≤ 0 → D'.cut = false ∧ D'.halt = D.halt
theorem Wn.refl (D : DK) : Wn D D 0 := ⟨rfl, rfl, Int.le_refl _, fun h _ => ⟨h, rfl⟩⟩
theorem Wn.trans {D D' D'' : DK} {k l : Nat} (h : Wn D D' k) (h' : Wn D' D'' l) : Wn D D'' (k + l) :=
  ⟨h'.made.trans h.made, by rw [h'.ws, h.ws]; omega, Int.le_trans h'.halt h.halt, fun a b => by
    obtain ⟨h1, h2⟩ := h.live a b
    obtain ⟨h3, h4⟩ := h'.live h1 (by rw [h2]; exact b)
    exact ⟨h3, h4.trans h2⟩⟩
/-- a disk goes on: its memory, its writes -/
structure Goes (S : MS) (d : Nat) (D : DK) (c0 : Nat → List UInt8) (W : List (Nat × List UInt8)) (S' : MS) (D' : DK) (V : List (Nat × List UInt8)) : Prop where
  is : IsD S' d D'
  hw : HW S' D' c0 (W ++ V)
  wn : Wn D D' V.length
  le : S.n ≤ S'.n
  fr : ∀ y, FrD S d D y → S'.m y = S.m y ∧ FrD S' d D' y
theorem Goes.refl {S : MS} {d : Nat} {D : DK} {c0 : Nat → List UInt8} {W : List (Nat × List UInt8)} (h : IsD S d D) (hw : HW S D c0 W) : Goes S d D c0 W S D [] := ⟨h, by rw [List.append_nil]; exact hw, Wn.refl D, Nat.le_refl _, fun y hy => ⟨rfl, hy⟩⟩
theorem Goes.trans {S S' S'' : MS} {d : Nat} {D D' D'' : DK} {c0 : Nat → List UInt8} {W V U : List (Nat × List UInt8)} (h : Goes S d D c0 W S' D' V) (h' : Goes S' d D' c0 (W ++ V) S'' D'' U) : Goes S d D c0 W S'' D'' (V ++ U) :=
  ⟨h'.is, by rw [← List.append_assoc]; exact h'.hw, by rw [List.length_append]; exact h.wn.trans h'.wn, Nat.le_trans h.le h'.le, fun y hy => by
    obtain ⟨h1, h2⟩ := h.fr y hy
    obtain ⟨h3, h4⟩ := h'.fr y h2
    exact ⟨h3.trans h1, h4⟩⟩
theorem FrD.old {S S' : MS} {d : Nat} {D : DK} {y : Nat} (h : FrD S d D y) (f : Old S S') : FrD S' d D y := ⟨Nat.lt_of_lt_of_le h.1 f.1, h.2⟩
theorem Goes.old {S S' : MS} {d : Nat} {D : DK} {c0 : Nat → List UInt8} {W : List (Nat × List UInt8)} (h : IsD S d D) (hw : HW S D c0 W) (wf : S.WF) (f : Old S S') : Goes S d D c0 W S' D [] :=
  ⟨h.old' wf f, by rw [List.append_nil]; exact hw.old wf f, Wn.refl D, f.1, fun y hy => ⟨f.2 y hy.1, hy.old f⟩⟩
/-- a new block isn't the disk's -/
theorem FrD.new {S S' : MS} {d : Nat} {D : DK} {y : Nat} (h : IsD S d D) (wf : S.WF) (h1 : S.n ≤ y) (h2 : y < S'.n) : FrD S' d D y :=
  ⟨h2, fun e => by have := wf _ _ h.hd; omega, fun e => by have := wf _ _ h.hn; omega, fun hw e => by have := wf _ _ (h.hw hw); omega, fun e => by have := wf _ _ h.hm; omega⟩

theorem writeW {S : MS} {B d : Nat} {D : DK} {c0 : Nat → List UInt8} {W : List (Nat × List UInt8)} {v : Value} {bs : List UInt8} (h : IsD S d D) (hc : HW S D c0 W) {i : Nat} (hi : i < D.made.length) (hb : SlF bF 1 S B v bs) (hl : bs.length = 256) (hws : D.ws.length < 1000000) (hhalt : D.halt ≤ 9223372036854775807) {Q : Value → MS → Prop}
    (q1 : D.cut = true → Q (.int .i64 12) S)
    (q2 : D.cut = false → ∀ D' S', Goes S d D c0 W S' D' [(i, bs)] → Q (.int .i64 0) S') :
    CallM Try.prog O 30 [.pointer (some ⟨d, 0, none⟩), .int .i64 i, v] S Q := by
  refine callM_wf fun wf => ?_
  cases hb with
  | non => simp at hl
  | own hbb hB hcap hj =>
    rename_i b cap junk
    rw [bF_flat] at hbb
    refine writeD h (i : Int) (list_of hbb) (by show _ ≤ (bL (bs ++ junk)).length; rw [bL_len, List.length_append]; omega) (bL_one _) hws hhalt q1 (fun _ hno => absurd ⟨by omega, by omega⟩ hno) (fun _ _ _ hne => absurd hl hne) fun hcut _ _ _ wb S' g1 gw g2 g3 g4 => ?_
    rw [Int.toNat_natCast] at g1
    have ht : (bL (bs ++ junk)).take 256 = bL bs := by
      rw [bL_append, List.take_left' (by rw [bL_len, hl])]
    have g3' : S'.m S.n = some (.cells (bL bs) 0) := g3.trans (congrArg (fun l => some (K.cells l 0)) ht)
    have harr : ∀ x, Arr S x → S'.m x = S.m x := by
      rintro x ⟨l, hx, hx2⟩
      refine g4 x (wf _ _ hx) (fun e => ?_) (fun e => ?_) (fun hw e => ?_)
      · subst e
        have := hx.symm.trans h.hd
        injection this with this; injection this with this _
        rw [this] at hx2; simp [dlen] at hx2
      · subst e
        have := hx.symm.trans h.hn
        injection this with this; injection this with _ this; cases this
      · subst e
        have := hx.symm.trans (h.hw hw)
        injection this with this; injection this with _ this; cases this
    have hk := hc.keep harr
    refine q2 hcut (writeDK D i S.n wb) S' ⟨g1, ⟨hk.z, ?_, ?_, ?_⟩, ⟨rfl, by simp [writeDK], ?_, ?_⟩, g2, fun y hy => ⟨g4 y hy.1 hy.2.1 hy.2.2.1 hy.2.2.2.1, Nat.lt_of_lt_of_le hy.1 g2, hy.2.1, hy.2.2.1, fun _ e => (by have := hy.1; simp only [writeDK] at e; omega), hy.2.2.2.2⟩⟩
    · show D.now.set i (some S.n) = applyW D.made (D.ws ++ [(i, S.n)])
      rw [hc.now]; simp [applyW]
    · show (D.ws ++ [(i, S.n)]).length = _
      simp [hc.len]
    · intro k w x h1 h2
      have h1 : (D.ws ++ [(i, S.n)])[k]? = some w := h1
      by_cases hkl : k < D.ws.length
      · rw [List.getElem?_append_left hkl] at h1
        rw [List.getElem?_append_left (by rw [← hc.len]; exact hkl)] at h2
        exact hk.ws k w x h1 h2
      · have hkw := (List.getElem?_eq_some_iff.1 h1).1
        have e : k = D.ws.length := by simp at hkw; omega
        subst e
        rw [List.getElem?_append_right (Nat.le_refl _), Nat.sub_self] at h1
        rw [List.getElem?_append_right (by rw [hc.len]; exact Nat.le_refl _), hc.len, Nat.sub_self] at h2
        cases h1; cases h2
        exact ⟨rfl, hi, hl, g3'⟩
    · simp only [writeDK]; split <;> omega
    · intro h1 h2
      simp only [writeDK]
      rw [if_neg (by omega), if_neg (by omega)]
      exact ⟨h1, rfl⟩
end Go.Proofs.Ytmfmbadfgnhonaa
namespace Go.Proofs.Ytmfmbadfgnhonaa
open Go Go.Ag
set_option linter.unusedVariables false
set_option maxRecDepth 100000

/-! ### pieces -/
theorem bL_rep (n : Nat) : bL (List.replicate n 0) = List.replicate n (.int .u8 0) := by simp [bL]
def pieceN (bs : List UInt8) (i : Nat) : List UInt8 := (bs.drop (256 * i)).take 256 ++ List.replicate (256 - ((bs.drop (256 * i)).take 256).length) 0
theorem pieceN_len (bs : List UInt8) (i : Nat) : (pieceN bs i).length = 256 := by
  unfold pieceN
  rw [List.length_append, List.length_replicate, List.length_take]
  omega
def pieceK (bs : List UInt8) : Nat := (bs.length + 255) / 256
def piecesN (bs : List UInt8) (p : Nat) : List (Nat × List UInt8) := (List.range (pieceK bs)).map fun i => (p + i, pieceN bs i)
theorem piecesN_len (bs : List UInt8) (p : Nat) : (piecesN bs p).length = pieceK bs := by simp [piecesN]
theorem piecesN_take (bs : List UInt8) (p k : Nat) (h : k < pieceK bs) : (piecesN bs p).take (k + 1) = (piecesN bs p).take k ++ [(p + k, pieceN bs k)] := by
  have e : (piecesN bs p)[k]? = some (p + k, pieceN bs k) := by simp [piecesN, h]
  rw [List.take_add_one, e]; rfl

/-- a piece after another is told to a loop -/
theorem pieces47 {box l : Nat} {v : Value} {bs : List UInt8} (hsmall : bs.length ≤ 400000) (J : Nat → MS → Prop) (R : MS → Prop) {S : MS} (h0 : J 0 S)
    (hJ : ∀ k S, J k S → S.m box = some (.cells [v] 0) ∧ RB S v bs ∧ box < S.n)
    (step : ∀ k S, k < pieceK bs → S.WF → J k S → RoundM Try.prog O l [.int .i64 k, .slice (some ⟨S.n, 0, none⟩) 256 256] (S.fresh (bL (pieceN bs k)) 1) fun v S' => (v = .bool true ∧ J (k + 1) S') ∨ (v = .bool false ∧ R S')) :
    CallM Try.prog O 47 [.func (.yield l) #[] #[], .pointer (some ⟨box, 0, none⟩)] S fun _ S' => J (pieceK bs) S' ∨ R S' := by
  refine callM_body (fnIs is47 body47 res47) (O_none (by decide)) (by simp) ?_
  refine m_seq (m_reg ?_)
  rw [reg47_0]
  unfold blk47_0
  have hpk : pieceK bs ≤ 1563 := by unfold pieceK; omega
  refine m_block (m_loop (fun m T S' => ∃ k : Nat, k + m = pieceK bs ∧ T.get 0 = .func (.yield l) #[] #[] ∧ T.get 1 = .pointer (some ⟨box, 0, none⟩) ∧ T.get 3 = .int .i64 k ∧ J k S') (pieceK bs) ?_ ?_)
  · exact ⟨0, by omega, by simp [FT.get_set, FT.setL, faS_ptr, nilS_ptr, nilS_func, nilS_yield, pickS_bool, ldS_ptr, list_cells, list_ro, partS_none, lenSl_of, lenStr_of, cvInt_of, aminmax_max, aminmax_min, abin_add, abin_sub, abin_mul, abin_eql, abin_neq, abin_lss, abin_leq, abin_gtr, abin_geq, aunary_not, aextract], by simp [FT.get_set, FT.setL, faS_ptr, nilS_ptr, nilS_func, nilS_yield, pickS_bool, ldS_ptr, list_cells, list_ro, partS_none, lenSl_of, lenStr_of, cvInt_of, aminmax_max, aminmax_min, abin_add, abin_sub, abin_mul, abin_eql, abin_neq, abin_lss, abin_leq, abin_gtr, abin_geq, aunary_not, aextract], by simp [FT.get_set, FT.setL, faS_ptr, nilS_ptr, nilS_func, nilS_yield, pickS_bool, ldS_ptr, list_cells, list_ro, partS_none, lenSl_of, lenStr_of, cvInt_of, aminmax_max, aminmax_min, abin_add, abin_sub, abin_mul, abin_eql, abin_neq, abin_lss, abin_leq, abin_gtr, abin_geq, aunary_not, aextract], h0⟩
  · rintro m T S1 ⟨k, hk, t0, t1, t3, hj⟩
    obtain ⟨hb, hrb, hlt⟩ := hJ k S1 hj
    refine m_wf fun wf1 => m_seq (m_seq (m_reg ?_))
    rw [reg47_1]
    have hw : IntKind.i64.wrap ((k : Int) * 256) = ((256 * k : Nat) : Int) := by rw [wrap_i64 (by omega) (by omega)]; omega
    simp (decide := true) only [FT.get_set, FT.setL, faS_ptr, nilS_ptr, nilS_func, nilS_yield, pickS_bool, ldS_ptr, list_cells, list_ro, partS_none, lenSl_of, lenStr_of, cvInt_of, aminmax_max, aminmax_min, abin_add, abin_sub, abin_mul, abin_eql, abin_neq, abin_lss, abin_leq, abin_gtr, abin_geq, aunary_not, aextract, Option.some.injEq, Prod.mk.injEq, Value.bool.injEq, exists_eq_left', exists_and_left, and_assoc, decide_eq_true_eq, decide_eq_false_iff_not, if_true, if_false, Nat.zero_add, Nat.add_zero, Option.bind_some, true_and, and_true, forall_const, true_implies, Bool.not_eq_true, Bool.false_eq_true, false_implies, ite_self, Nat.mul_one, t1, t3, hw, list_of hb, List.getElem?_cons_zero, hrb.len]
    refine m_cond (t := decide (((256 * k : Nat) : Int) < bs.length)) (by simp [evalT, FT.get_set, FT.setL, faS_ptr, nilS_ptr, nilS_func, nilS_yield, pickS_bool, ldS_ptr, list_cells, list_ro, partS_none, lenSl_of, lenStr_of, cvInt_of, aminmax_max, aminmax_min, abin_add, abin_sub, abin_mul, abin_eql, abin_neq, abin_lss, abin_leq, abin_gtr, abin_geq, aunary_not, aextract]) (fun h => m_skip ?_) (fun h => m_exit ?_)
    · have hlt2 : 256 * k < bs.length := by have := of_decide_eq_true h; omega
      have hkk : k < pieceK bs := by unfold pieceK; omega
      simp only
      unfold blk47_1
      refine m_seq (m_block (m_seq (m_reg ?_)))
      rw [reg47_3]
      have hms : msS S1 1 1 [.int .u8 0] (.int .i64 256) (.int .i64 256) = some (.slice (some ⟨S1.n, 0, none⟩) 256 256, S1.fresh (bL (List.replicate 256 0)) 1) := by
        have hz : zeros [.int .u8 0] 256 = bL (List.replicate 256 0) := by rw [zeros_one]; simp [bL]
        rw [← hz]; exact msS_of (n := 256) S1 1 1 [.int .u8 0] .i64 .i64 (by omega) (by omega)
      simp (decide := true) only [FT.get_set, FT.setL, faS_ptr, nilS_ptr, nilS_func, nilS_yield, pickS_bool, ldS_ptr, list_cells, list_ro, partS_none, lenSl_of, lenStr_of, cvInt_of, aminmax_max, aminmax_min, abin_add, abin_sub, abin_mul, abin_eql, abin_neq, abin_lss, abin_leq, abin_gtr, abin_geq, aunary_not, aextract, Option.some.injEq, Prod.mk.injEq, Value.bool.injEq, exists_eq_left', exists_and_left, and_assoc, decide_eq_true_eq, decide_eq_false_iff_not, if_true, if_false, Nat.zero_add, Nat.add_zero, Option.bind_some, true_and, and_true, forall_const, true_implies, Bool.not_eq_true, Bool.false_eq_true, false_implies, ite_self, Nat.mul_one, hms]
      refine m_seq (m_reg ?_)
      rw [reg47_4]
      have f2 := old_fresh S1 (bL (List.replicate 256 0)) 1
      have hb2 : (S1.fresh (bL (List.replicate 256 0)) 1).m box = some (.cells [v] 0) := by rw [f2.2 _ hlt]; exact hb
      have hrb2 := hrb.keep wf1 f2.2
      obtain ⟨v2, q1, q2⟩ := hrb2.sub (i := 256 * k) (j := bs.length) (low := some (.int .i64 ((256 * k : Nat) : Int))) (high := none) (by omega) (Nat.le_refl _) (.inr rfl) (.inl ⟨rfl, rfl⟩)
      have e2 : (bs.drop (256 * k)).take (bs.length - 256 * k) = bs.drop (256 * k) := List.take_of_length_le (by rw [List.length_drop]; exact Nat.le_refl _)
      rw [e2] at q2
      have hdl : (bs.drop (256 * k)).length = bs.length - 256 * k := List.length_drop
      obtain ⟨n, hn⟩ : ∃ n, n = Nat.min (bs.drop (256 * k)).length 256 := ⟨_, rfl⟩
      have hn0 : n ≠ 0 := by rw [hn]; simp only [Nat.min_def]; split <;> omega
      have hnl : n ≤ (bs.drop (256 * k)).length := by rw [hn]; exact Nat.min_le_left _ _
      have hn256 : n ≤ 256 := by rw [hn]; exact Nat.min_le_right _ _
      have htk : (bs.drop (256 * k)).take n = (bs.drop (256 * k)).take 256 := by
        rw [hn]; show List.take (min _ _) _ = _
        rw [Nat.min_comm, ← List.take_take, List.take_length]
      have hcp := cpS_of (dcap := 256) (off := 0) (fresh_at S1 (bL (List.replicate 256 0)) 1) q2.lenA hn.symm hn0 (q2.first hnl) (bL_one _) (by rw [bL_len, bL_len, List.length_replicate, List.length_take]; omega)
      have hsp : spliceL (bL (List.replicate 256 0)) (bL ((bs.drop (256 * k)).take n)) 0 = bL (pieceN bs k) := by
        unfold spliceL pieceN
        rw [htk, bL_append, bL_len, bL_rep, bL_rep, List.drop_replicate, Nat.zero_add, List.take_zero, List.nil_append]
      rw [hsp, set_fresh] at hcp
      simp (decide := true) only [FT.get_set, FT.setL, faS_ptr, nilS_ptr, nilS_func, nilS_yield, pickS_bool, ldS_ptr, list_cells, list_ro, partS_none, lenSl_of, lenStr_of, cvInt_of, aminmax_max, aminmax_min, abin_add, abin_sub, abin_mul, abin_eql, abin_neq, abin_lss, abin_leq, abin_gtr, abin_geq, aunary_not, aextract, Option.some.injEq, Prod.mk.injEq, Value.bool.injEq, exists_eq_left', exists_and_left, and_assoc, decide_eq_true_eq, decide_eq_false_iff_not, if_true, if_false, Nat.zero_add, Nat.add_zero, Option.bind_some, true_and, and_true, forall_const, true_implies, Bool.not_eq_true, Bool.false_eq_true, false_implies, ite_self, Nat.mul_one, t1, t3, hw, list_of hb2, List.getElem?_cons_zero, q1, hcp]
      refine m_seq (m_reg ?_)
      rw [reg47_5]
      simp (decide := true) only [FT.get_set, FT.setL, faS_ptr, nilS_ptr, nilS_func, nilS_yield, pickS_bool, ldS_ptr, list_cells, list_ro, partS_none, lenSl_of, lenStr_of, cvInt_of, aminmax_max, aminmax_min, abin_add, abin_sub, abin_mul, abin_eql, abin_neq, abin_lss, abin_leq, abin_gtr, abin_geq, aunary_not, aextract, Option.some.injEq, Prod.mk.injEq, Value.bool.injEq, exists_eq_left', exists_and_left, and_assoc, decide_eq_true_eq, decide_eq_false_iff_not, if_true, if_false, Nat.zero_add, Nat.add_zero, Option.bind_some, true_and, and_true, forall_const, true_implies, Bool.not_eq_true, Bool.false_eq_true, false_implies, ite_self, Nat.mul_one, t0, t3]
      refine CallV.mono (f := .func (.yield l) #[] #[]) (args := [.int .i64 k, .slice (some ⟨S1.n, 0, none⟩) 256 256]) (step k S1 hkk wf1 hj) ?_
      rintro y S3 (⟨rfl, hj2⟩ | ⟨rfl, hr⟩)
      · simp (decide := true) only [FT.get_set, FT.setL, faS_ptr, nilS_ptr, nilS_func, nilS_yield, pickS_bool, ldS_ptr, list_cells, list_ro, partS_none, lenSl_of, lenStr_of, cvInt_of, aminmax_max, aminmax_min, abin_add, abin_sub, abin_mul, abin_eql, abin_neq, abin_lss, abin_leq, abin_gtr, abin_geq, aunary_not, aextract, Option.some.injEq, Prod.mk.injEq, Value.bool.injEq, exists_eq_left', exists_and_left, and_assoc, decide_eq_true_eq, decide_eq_false_iff_not, if_true, if_false, Nat.zero_add, Nat.add_zero, Option.bind_some, true_and, and_true, forall_const, true_implies, Bool.not_eq_true, Bool.false_eq_true, false_implies, ite_self, Nat.mul_one, ]
        refine m_cond (t := false) (by simp [evalT, FT.get_set, FT.setL, faS_ptr, nilS_ptr, nilS_func, nilS_yield, pickS_bool, ldS_ptr, list_cells, list_ro, partS_none, lenSl_of, lenStr_of, cvInt_of, aminmax_max, aminmax_min, abin_add, abin_sub, abin_mul, abin_eql, abin_neq, abin_lss, abin_leq, abin_gtr, abin_geq, aunary_not, aextract]) (fun h => by cases h) (fun _ => m_skip ?_)
        simp only
        refine m_reg ?_
        rw [reg47_2]
        have hw2 : IntKind.i64.wrap ((k : Int) + 1) = ((k + 1 : Nat) : Int) := by rw [wrap_i64 (by omega) (by omega)]; rfl
        simp (decide := true) only [FT.get_set, FT.setL, faS_ptr, nilS_ptr, nilS_func, nilS_yield, pickS_bool, ldS_ptr, list_cells, list_ro, partS_none, lenSl_of, lenStr_of, cvInt_of, aminmax_max, aminmax_min, abin_add, abin_sub, abin_mul, abin_eql, abin_neq, abin_lss, abin_leq, abin_gtr, abin_geq, aunary_not, aextract, Option.some.injEq, Prod.mk.injEq, Value.bool.injEq, exists_eq_left', exists_and_left, and_assoc, decide_eq_true_eq, decide_eq_false_iff_not, if_true, if_false, Nat.zero_add, Nat.add_zero, Option.bind_some, true_and, and_true, forall_const, true_implies, Bool.not_eq_true, Bool.false_eq_true, false_implies, ite_self, Nat.mul_one, t3, hw2]
        exact ⟨m - 1, by omega, k + 1, by omega, by simp [FT.get_set, FT.setL, faS_ptr, nilS_ptr, nilS_func, nilS_yield, pickS_bool, ldS_ptr, list_cells, list_ro, partS_none, lenSl_of, lenStr_of, cvInt_of, aminmax_max, aminmax_min, abin_add, abin_sub, abin_mul, abin_eql, abin_neq, abin_lss, abin_leq, abin_gtr, abin_geq, aunary_not, aextract, t0], by simp [FT.get_set, FT.setL, faS_ptr, nilS_ptr, nilS_func, nilS_yield, pickS_bool, ldS_ptr, list_cells, list_ro, partS_none, lenSl_of, lenStr_of, cvInt_of, aminmax_max, aminmax_min, abin_add, abin_sub, abin_mul, abin_eql, abin_neq, abin_lss, abin_leq, abin_gtr, abin_geq, aunary_not, aextract, t1], by simp [FT.get_set, FT.setL, faS_ptr, nilS_ptr, nilS_func, nilS_yield, pickS_bool, ldS_ptr, list_cells, list_ro, partS_none, lenSl_of, lenStr_of, cvInt_of, aminmax_max, aminmax_min, abin_add, abin_sub, abin_mul, abin_eql, abin_neq, abin_lss, abin_leq, abin_gtr, abin_geq, aunary_not, aextract], hj2⟩
      · simp (decide := true) only [FT.get_set, FT.setL, faS_ptr, nilS_ptr, nilS_func, nilS_yield, pickS_bool, ldS_ptr, list_cells, list_ro, partS_none, lenSl_of, lenStr_of, cvInt_of, aminmax_max, aminmax_min, abin_add, abin_sub, abin_mul, abin_eql, abin_neq, abin_lss, abin_leq, abin_gtr, abin_geq, aunary_not, aextract, Option.some.injEq, Prod.mk.injEq, Value.bool.injEq, exists_eq_left', exists_and_left, and_assoc, decide_eq_true_eq, decide_eq_false_iff_not, if_true, if_false, Nat.zero_add, Nat.add_zero, Option.bind_some, true_and, and_true, forall_const, true_implies, Bool.not_eq_true, Bool.false_eq_true, false_implies, ite_self, Nat.mul_one, ]
        refine m_cond (t := true) (by simp [evalT, FT.get_set, FT.setL, faS_ptr, nilS_ptr, nilS_func, nilS_yield, pickS_bool, ldS_ptr, list_cells, list_ro, partS_none, lenSl_of, lenStr_of, cvInt_of, aminmax_max, aminmax_min, abin_add, abin_sub, abin_mul, abin_eql, abin_neq, abin_lss, abin_leq, abin_gtr, abin_geq, aunary_not, aextract]) (fun _ => ?_) (fun h => by cases h)
        refine m_ret ?_
        simp [resM]
        exact .inr hr
    · have : k = pieceK bs := by have := of_decide_eq_false h; unfold pieceK at hk ⊢; omega
      subst this
      simp [resM]
      exact .inl hj
end Go.Proofs.Ytmfmbadfgnhonaa

