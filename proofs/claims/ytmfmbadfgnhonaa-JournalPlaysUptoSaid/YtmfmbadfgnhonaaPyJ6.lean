/-
  The walk through the journal's code: what its functions do to memory, part PyJ6. Nothing is asked.
-/
import Derived.Test.YtmfmbadfgnhonaaPyJ5
set_option linter.all false
namespace Go.Proofs.Ytmfmbadfgnhonaa
open Go Go.Ag
set_option linter.unusedVariables false
set_option maxRecDepth 100000

theorem ag24 : aggT Try.prog 24 = some none := by kernel_rfl
theorem mload24 (S : MS) (x : Value) : mload Try.prog S 24 x = ldS none S x := by unfold mload; rw [ag24]

/-- a block that isn't the disk's, nor an array, may change -/
theorem Goes.touch {S S1 S2 : MS} {d l : Nat} {D D1 : DK} {c0 : Nat → List UInt8} {W V : List (Nat × List UInt8)} (h : Goes S d D c0 W S1 D1 V) (wf : S1.WF) (hn : S1.n ≤ S2.n) (hm : ∀ x, x < S1.n → x ≠ l → S2.m x = S1.m x) (hl : S.n ≤ l) (hf : FrD S1 d D1 l) (ha : ¬ Arr S1 l) : Goes S d D c0 W S2 D1 V := by
  refine ⟨h.is.keep fun x hx => ?_, h.hw.keep fun x hx => ?_, h.wn, Nat.le_trans h.le hn, fun y hy => ?_⟩
  · rcases hx with rfl | rfl | rfl | ⟨hw, rfl⟩
    · exact hm _ (wf _ _ h.is.hd) (Ne.symm hf.2.1)
    · exact hm _ (wf _ _ h.is.hm) (Ne.symm hf.2.2.2.2)
    · exact hm _ (wf _ _ h.is.hn) (Ne.symm hf.2.2.1)
    · exact hm _ (wf _ _ (h.is.hw hw)) (Ne.symm (hf.2.2.2.1 hw))
  · obtain ⟨l', h1, h2⟩ := hx
    exact hm x (wf _ _ h1) (fun e => ha (e ▸ ⟨l', h1, h2⟩))
  · obtain ⟨h1, h2⟩ := h.fr y hy
    refine ⟨(hm y h2.1 (fun e => by have := hy.1; omega)).trans h1, Nat.lt_of_lt_of_le h2.1 hn, h2.2⟩

noncomputable def loop32 (S : MS) (T : FT) (st : LoopState) (pe : Option Code) : K := .loop ⟨st, pe, ⟨T, 23⟩, [12, 13], (.seq (.region 2 (ro 32 2) false) (.region 3 (ro 32 3) false)), blk32_1⟩

/-- what holds while pieces are written -/
structure I32 (S : MS) (d : Nat) (D : DK) (c0 : Nat → List UInt8) (W : List (Nat × List UInt8)) (v : Value) (bs : List UInt8) (p : Nat) (T : FT) (st : LoopState) (pe : Option Code) (r : Int) (k : Nat) (S' : MS) (D' : DK) : Prop where
  go : Goes S d D c0 W S' D' ((piecesN bs p).take k)
  b0 : S'.m S.n = some (.cells [.pointer (some ⟨d, 0, none⟩)] 0)
  b1 : S'.m (S.n + 1) = some (.cells [.int .i64 p] 0)
  b2 : S'.m (S.n + 2) = some (.cells [.int .i64 r] 0)
  b3 : S'.m (S.n + 3) = some (.cells [v] 0)
  b4 : S'.m (S.n + 4) = some (loop32 S T st pe)
  n5 : S.n + 5 ≤ S'.n
  fr : ∀ y, S.n ≤ y → y < S.n + 5 → FrD S' d D' y
  rb : RB S' v bs
  on : ∀ y, On v y → FrD S' d D' y ∧ y < S.n
theorem I32.nmb {S : MS} {d : Nat} {D : DK} {c0 : Nat → List UInt8} {W : List (Nat × List UInt8)} {v : Value} {bs : List UInt8} {p : Nat} {T : FT} {st : LoopState} {pe : Option Code} {r : Int} {k : Nat} {S' : MS} {D' : DK} (h : I32 S d D c0 W v bs p T st pe r k S' D') {y : Nat} (hy : y = S.n + 4 ∨ y = S.n + 2) : y ≠ D'.mb ∧ ¬ Arr S' y := by
  rcases hy with rfl | rfl
  · refine ⟨fun e => ?_, fun ⟨l, h1, h2⟩ => ?_⟩
    · have h1 := h.go.is.hm; rw [← e, h.b4] at h1; cases h1
    · rw [h.b4] at h1; cases h1
  · refine ⟨fun e => ?_, fun ⟨l, h1, h2⟩ => ?_⟩
    · have h1 := h.go.is.hm; rw [← e, h.b2] at h1; injection h1 with h1; injection h1 with _ h1; cases h1
    · rw [h.b2] at h1; cases h1; simp at h2
/-- the loop's block is set -/
theorem I32.set {S : MS} {d : Nat} {D : DK} {c0 : Nat → List UInt8} {W : List (Nat × List UInt8)} {v : Value} {bs : List UInt8} {p : Nat} {T : FT} {st : LoopState} {pe : Option Code} {r : Int} {k : Nat} {S' : MS} {D' : DK} (h : I32 S d D c0 W v bs p T st pe r k S' D') (wf : S'.WF) (st' : LoopState) (pe' : Option Code) : I32 S d D c0 W v bs p T st' pe' r k (S'.set (S.n + 4) (loop32 S T st' pe')) D' := by
  obtain ⟨h1, h2⟩ := h.nmb (.inl rfl)
  have ne : ∀ x, x ≠ S.n + 4 → (S'.set (S.n + 4) (loop32 S T st' pe')).m x = S'.m x := fun x hx => by rw [set_m, if_neg hx]
  exact ⟨h.go.touch wf (Nat.le_refl _) (fun x _ hx => ne x hx) (by omega) (h.fr _ (by omega) (by omega)) h2, by rw [ne _ (by omega)]; exact h.b0, by rw [ne _ (by omega)]; exact h.b1, by rw [ne _ (by omega)]; exact h.b2, by rw [ne _ (by omega)]; exact h.b3, by rw [set_m, if_pos rfl], h.n5, h.fr, h.rb.keepOn fun y hy => ne y (by have := (h.on y hy).2; omega), h.on⟩
theorem I32.fresh {S : MS} {d : Nat} {D : DK} {c0 : Nat → List UInt8} {W : List (Nat × List UInt8)} {v : Value} {bs : List UInt8} {p : Nat} {T : FT} {st : LoopState} {pe : Option Code} {r : Int} {k : Nat} {S' : MS} {D' : DK} (h : I32 S d D c0 W v bs p T st pe r k S' D') (wf : S'.WF) (l : List Value) (es : Nat) : I32 S d D c0 W v bs p T st pe r k (S'.fresh l es) D' := by
  have hn := h.n5
  have f := old_fresh S' l es
  have g := h.go.trans (Goes.old h.go.is h.go.hw wf f)
  rw [List.append_nil] at g
  exact ⟨g, by rw [f.2 _ (by omega)]; exact h.b0, by rw [f.2 _ (by omega)]; exact h.b1, by rw [f.2 _ (by omega)]; exact h.b2, by rw [f.2 _ (by omega)]; exact h.b3, by rw [f.2 _ (by omega)]; exact h.b4, by rw [fresh_n]; omega, fun y h1 h2 => (h.fr y h1 h2).old f, h.rb.keep wf f.2, fun y hy => ⟨(h.on y hy).1.old f, (h.on y hy).2⟩⟩
theorem I32.goes {S : MS} {d : Nat} {D : DK} {c0 : Nat → List UInt8} {W : List (Nat × List UInt8)} {v : Value} {bs : List UInt8} {p : Nat} {T : FT} {st : LoopState} {pe : Option Code} {r : Int} {k : Nat} {S' S'' : MS} {D' D'' : DK} (h : I32 S d D c0 W v bs p T st pe r k S' D') (hk : k < pieceK bs) (g : Goes S' d D' c0 (W ++ (piecesN bs p).take k) S'' D'' [(p + k, pieceN bs k)]) : I32 S d D c0 W v bs p T st pe r (k + 1) S'' D'' := by
  have hg := h.go.trans g
  rw [← piecesN_take _ _ _ hk] at hg
  have e : ∀ y, S.n ≤ y → y < S.n + 5 → S''.m y = S'.m y ∧ FrD S'' d D'' y := fun y h1 h2 => g.fr y (h.fr y h1 h2)
  exact ⟨hg, by rw [(e _ (by omega) (by omega)).1]; exact h.b0, by rw [(e _ (by omega) (by omega)).1]; exact h.b1, by rw [(e _ (by omega) (by omega)).1]; exact h.b2, by rw [(e _ (by omega) (by omega)).1]; exact h.b3, by rw [(e _ (by omega) (by omega)).1]; exact h.b4, Nat.le_trans h.n5 g.le, fun y h1 h2 => (e y h1 h2).2, h.rb.keepOn fun y hy => (g.fr y (h.on y hy).1).1, fun y hy => ⟨(g.fr y (h.on y hy).1).2, (h.on y hy).2⟩⟩

theorem writes32 {S : MS} {d : Nat} {D : DK} {c0 : Nat → List UInt8} {W : List (Nat × List UInt8)} {v : Value} {bs : List UInt8} {p : Nat} (h : IsD S d D) (hw : HW S D c0 W) (hb : RB S v bs) (hon : ∀ y, On v y → FrD S d D y) (hsm : bs.length ≤ 400000) (hp : p + pieceK bs ≤ D.made.length) (hws : D.ws.length + pieceK bs < 1000000) (hhalt : D.halt ≤ 9223372036854775807) {Q : Value → MS → Prop}
    (hQ : ∀ (r : Int) k D' S', k ≤ pieceK bs → Goes S d D c0 W S' D' ((piecesN bs p).take k) → ((k = pieceK bs ∧ r = 0) ∨ (k < pieceK bs ∧ D'.cut = true ∧ r = 12)) → Q (.int .i64 r) S') : CallM Try.prog O 32 [.pointer (some ⟨d, 0, none⟩), .int .i64 p, v] S Q := by
  refine callM_wf fun wf => ?_
  have hsmall := h.small
  refine callM_body (fnIs is32 body32 res32) (O_none (by decide)) (by simp) ?_
  refine m_seq (m_reg ?_)
  rw [reg32_0]
  refine m_seq (m_seq (m_reg ?_))
  rw [reg32_1]
  simp (decide := true) only [FT.get_set, FT.setL, faS_ptr, nilS_ptr, nilS_func, nilS_yield, pickS_bool, ldS_ptr, list_cells, list_ro, partS_none, lenSl_of, lenStr_of, cvInt_of, aminmax_max, aminmax_min, abin_add, abin_sub, abin_mul, abin_eql, abin_neq, abin_lss, abin_leq, abin_gtr, abin_geq, aunary_not, aextract, Option.some.injEq, Prod.mk.injEq, Value.bool.injEq, exists_eq_left', exists_and_left, and_assoc, decide_eq_true_eq, decide_eq_false_iff_not, if_true, if_false, Nat.zero_add, Nat.add_zero, Option.bind_some, true_and, and_true, forall_const, true_implies, Bool.not_eq_true, Bool.false_eq_true, false_implies, ite_self, Nat.mul_one, cells_int, cells_ptr, ptrTo, fresh_n]
  have f1 := old_fresh S [.pointer (some ⟨d, 0, none⟩)] 0
  have wf1 := wf_fresh' wf [.pointer (some ⟨d, 0, none⟩)] 0
  have f2 := old_fresh (S.fresh [.pointer (some ⟨d, 0, none⟩)] 0) [.int .i64 p] 0
  have wf2 := wf_fresh' wf1 [.int .i64 p] 0
  have f3 := old_fresh ((S.fresh [.pointer (some ⟨d, 0, none⟩)] 0).fresh [.int .i64 p] 0) [.int .i64 0] 0
  have wf3 := wf_fresh' wf2 [.int .i64 0] 0
  obtain ⟨S3, hS3⟩ : ∃ S3, S3 = ((S.fresh [.pointer (some ⟨d, 0, none⟩)] 0).fresh [.int .i64 p] 0).fresh [.int .i64 0] 0 := ⟨_, rfl⟩
  have hn3 : S3.n = S.n + 3 := by rw [hS3]; rfl
  have h3 : Old S S3 := by rw [hS3]; exact (f1.trans f2).trans f3
  have c0' : S3.m S.n = some (.cells [.pointer (some ⟨d, 0, none⟩)] 0) := by rw [hS3, fresh_old _ _ _ (by simp only [fresh_n]; omega), fresh_old _ _ _ (by simp only [fresh_n]; omega), fresh_at]
  have c1' : S3.m (S.n + 1) = some (.cells [.int .i64 p] 0) := by rw [hS3, fresh_old _ _ _ (by simp only [fresh_n]; omega)]; exact fresh_at (S.fresh _ 0) _ _
  have c2' : S3.m (S.n + 2) = some (.cells [.int .i64 0] 0) := by rw [hS3]; exact fresh_at ((S.fresh _ 0).fresh _ 0) _ _
  rw [← hS3] at wf3
  rw [← hS3]
  refine pieces44 (hb.keep wf h3.2) ?_
  have f4 := old_fresh S3 [v] 0
  have wf4 := wf_fresh' wf3 [v] 0
  unfold blk32_0
  refine m_block (m_rangeFunc rfl ?_)
  have e11 : ∀ T : FT, evalT (((T.set v 10).set (.func (.func 47) #[] #[.pointer (some ⟨S3.n, 0, none⟩)]) 11)) (.tmp 11) = .func (.func 47) #[] #[.pointer (some ⟨S3.n, 0, none⟩)] := fun T => by simp [evalT, FT.get_set]
  rw [e11]
  rw [hn3]
  obtain ⟨T, hT⟩ : ∃ T, T = (((((FT.empty.setL 0 [.pointer (some ⟨d, 0, none⟩), .int .i64 p, v]).set (.pointer (some ⟨S.n, 0, none⟩)) 3).set (.pointer (some ⟨S.n + 1, 0, none⟩)) 4).set (.pointer (some ⟨S.n + 1 + 1, 0, none⟩)) 6).set v 10).set (.func (.func 47) #[] #[.pointer (some ⟨S.n + 3, 0, none⟩)]) 11 := ⟨_, rfl⟩
  have t3 : T.get 3 = .pointer (some ⟨S.n, 0, none⟩) := by rw [hT]; simp [FT.get_set, FT.setL, faS_ptr, nilS_ptr, nilS_func, nilS_yield, pickS_bool, ldS_ptr, list_cells, list_ro, partS_none, lenSl_of, lenStr_of, cvInt_of, aminmax_max, aminmax_min, abin_add, abin_sub, abin_mul, abin_eql, abin_neq, abin_lss, abin_leq, abin_gtr, abin_geq, aunary_not, aextract]
  have t4 : T.get 4 = .pointer (some ⟨S.n + 1, 0, none⟩) := by rw [hT]; simp [FT.get_set, FT.setL, faS_ptr, nilS_ptr, nilS_func, nilS_yield, pickS_bool, ldS_ptr, list_cells, list_ro, partS_none, lenSl_of, lenStr_of, cvInt_of, aminmax_max, aminmax_min, abin_add, abin_sub, abin_mul, abin_eql, abin_neq, abin_lss, abin_leq, abin_gtr, abin_geq, aunary_not, aextract]
  have t6 : T.get 6 = .pointer (some ⟨S.n + 2, 0, none⟩) := by rw [hT]; simp [FT.get_set, FT.setL, faS_ptr, nilS_ptr, nilS_func, nilS_yield, pickS_bool, ldS_ptr, list_cells, list_ro, partS_none, lenSl_of, lenStr_of, cvInt_of, aminmax_max, aminmax_min, abin_add, abin_sub, abin_mul, abin_eql, abin_neq, abin_lss, abin_leq, abin_gtr, abin_geq, aunary_not, aextract]
  show CallM Try.prog O 47 [.func (.yield ((S3.fresh [v] 0).n)) #[] #[], .pointer (some ⟨S.n + 3, 0, none⟩)] _ _
  rw [fresh_n, hn3]
  have hpu : ∀ x, x < S.n + 4 → ((S3.fresh [v] 0).push (loop32 S T .ready none)).m x = (S3.fresh [v] 0).m x := fun x hx => by rw [push_m, if_neg (by rw [fresh_n]; omega)]
  have old5 : Old S ((S3.fresh [v] 0).push (loop32 S T .ready none)) := ⟨by rw [push_n, fresh_n]; omega, fun y hy => by rw [hpu y (by omega), f4.2 y (by omega), h3.2 y hy]⟩
  have st0 : I32 S d D c0 W v bs p T .ready none 0 0 ((S3.fresh [v] 0).push (loop32 S T .ready none)) D := by
    refine ⟨by rw [List.take_zero]; exact Goes.old h hw wf old5, by rw [hpu _ (by omega), f4.2 _ (by omega)]; exact c0', by rw [hpu _ (by omega), f4.2 _ (by omega)]; exact c1', by rw [hpu _ (by omega), f4.2 _ (by omega)]; exact c2', by rw [hpu _ (by omega), ← hn3, fresh_at], by rw [push_m, fresh_n, hn3, if_pos rfl], by rw [push_n, fresh_n, hn3]; omega, fun y h1 h2 => FrD.new h wf h1 (by rw [push_n, fresh_n, hn3]; omega), hb.keep wf old5.2, fun y hy => ⟨(hon y hy).old old5, (hon y hy).1⟩⟩
  refine callM_wf_post (CallM.mono (pieces47 (bs := bs) (v := v) hsm (fun k S' => k ≤ pieceK bs ∧ ∃ D', I32 S d D c0 W v bs p T .ready none 0 k S' D') (fun S' => ∃ k D', k < pieceK bs ∧ D'.cut = true ∧ I32 S d D c0 W v bs p T .done (some .ret) 12 k S' D') ⟨Nat.zero_le _, D, ?_⟩ ?_ ?_) ?_)
  · subst hT
    exact st0
  · rintro k S' ⟨hk, D', hi⟩
    have := hi.n5
    exact ⟨hi.b3, hi.rb, by omega⟩
  · rintro k S' hkk wf' ⟨hk, D', hi⟩
    have hi1 := hi.fresh wf' (bL (pieceN bs k)) 1
    have wf1' := wf_fresh' wf' (bL (pieceN bs k)) 1
    have hsl : SlF bF 1 (S'.fresh (bL (pieceN bs k)) 1) 0 (.slice (some ⟨S'.n, 0, none⟩) 256 256) (pieceN bs k) := by
      have := SlF.own (f := bF) (sz := 1) (S := S'.fresh (bL (pieceN bs k)) 1) (B := 0) (b := S'.n) (cap := 256) (l := pieceN bs k) (junk := []) (by rw [List.append_nil, bF_flat]; exact fresh_at S' _ 1) (Nat.zero_le _) (.inr ⟨by decide, by rw [List.append_nil, pieceN_len]⟩) (by rw [List.append_nil, pieceN_len]; omega)
      rwa [pieceN_len] at this
    refine roundM_body (T := (T.set (.int .i64 k) 12).set (.slice (some ⟨S'.n, 0, none⟩) 256 256) 13) hi1.b4 rfl ?_
    refine m_seq (m_reg ?_)
    rw [reg32_2]
    refine m_reg ?_
    rw [reg32_3]
    simp (decide := true) only [FT.get_set, FT.setL, faS_ptr, nilS_ptr, nilS_func, nilS_yield, pickS_bool, ldS_ptr, list_cells, list_ro, partS_none, lenSl_of, lenStr_of, cvInt_of, aminmax_max, aminmax_min, abin_add, abin_sub, abin_mul, abin_eql, abin_neq, abin_lss, abin_leq, abin_gtr, abin_geq, aunary_not, aextract, Option.some.injEq, Prod.mk.injEq, Value.bool.injEq, exists_eq_left', exists_and_left, and_assoc, decide_eq_true_eq, decide_eq_false_iff_not, if_true, if_false, Nat.zero_add, Nat.add_zero, Option.bind_some, true_and, and_true, forall_const, true_implies, Bool.not_eq_true, Bool.false_eq_true, false_implies, ite_self, Nat.mul_one, ]
    refine ⟨_, hi1.b4, rfl, ?_⟩
    have hi2 := hi1.set wf1' .busy none
    have hl1 := hi1.n5
    have wf2' : ((S'.fresh (bL (pieceN bs k)) 1).set (S.n + 4) (loop32 S T .busy none)).WF := fun x q hq => by
      rw [set_m] at hq
      by_cases e : x = S.n + 4
      · subst e; rw [set_n]; omega
      · rw [if_neg e] at hq; exact wf1' x q hq
    show MWp Try.prog O 23 blk32_1 _ ((S'.fresh (bL (pieceN bs k)) 1).set (S.n + 4) (loop32 S T .busy none)) _
    have hsl2 : SlF bF 1 ((S'.fresh (bL (pieceN bs k)) 1).set (S.n + 4) (loop32 S T .busy none)) 0 (.slice (some ⟨S'.n, 0, none⟩) 256 256) (pieceN bs k) := hsl.keep1 fun y q hy _ => by
      rw [set_m, if_neg]
      intro e
      refine hy fun l c h2 => ?_
      have hn5 := hi.n5
      simp at h2
    obtain ⟨S2, hS2⟩ : ∃ S2, S2 = (S'.fresh (bL (pieceN bs k)) 1).set (S.n + 4) (loop32 S T .busy none) := ⟨_, rfl⟩
    rw [← hS2] at hi2 wf2' hsl2 ⊢
    unfold blk32_1
    refine m_block (m_seq (m_reg ?_))
    rw [reg32_4]
    have hw1 : IntKind.i64.wrap ((p : Int) + (k : Int)) = ((p + k : Nat) : Int) := by rw [wrap_i64 (by omega) (by omega)]; rfl
    simp (decide := true) only [FT.get_set, FT.setL, faS_ptr, nilS_ptr, nilS_func, nilS_yield, pickS_bool, ldS_ptr, list_cells, list_ro, partS_none, lenSl_of, lenStr_of, cvInt_of, aminmax_max, aminmax_min, abin_add, abin_sub, abin_mul, abin_eql, abin_neq, abin_lss, abin_leq, abin_gtr, abin_geq, aunary_not, aextract, Option.some.injEq, Prod.mk.injEq, Value.bool.injEq, exists_eq_left', exists_and_left, and_assoc, decide_eq_true_eq, decide_eq_false_iff_not, if_true, if_false, Nat.zero_add, Nat.add_zero, Option.bind_some, true_and, and_true, forall_const, true_implies, Bool.not_eq_true, Bool.false_eq_true, false_implies, ite_self, Nat.mul_one, t3, t4, list_of hi2.b0, list_of hi2.b1, List.getElem?_cons_zero, hw1]
    have hmd := hi2.go.wn.made
    have hwl := hi2.go.wn.ws
    rw [List.length_take, piecesN_len] at hwl
    refine writeW hi2.go.is hi2.go.hw (i := p + k) (by rw [hmd]; omega) hsl2 (pieceN_len _ _) (by omega) (Int.le_trans hi2.go.wn.halt hhalt) (fun hcut => ?_) (fun hcut D'' S4 g => ?_)
    · refine m_seq (m_reg ?_)
      rw [reg32_5]
      have hne : ((12 : Int) != 0) = true := by decide
      simp (decide := true) only [FT.get_set, FT.setL, faS_ptr, nilS_ptr, nilS_func, nilS_yield, pickS_bool, ldS_ptr, list_cells, list_ro, partS_none, lenSl_of, lenStr_of, cvInt_of, aminmax_max, aminmax_min, abin_add, abin_sub, abin_mul, abin_eql, abin_neq, abin_lss, abin_leq, abin_gtr, abin_geq, aunary_not, aextract, Option.some.injEq, Prod.mk.injEq, Value.bool.injEq, exists_eq_left', exists_and_left, and_assoc, decide_eq_true_eq, decide_eq_false_iff_not, if_true, if_false, Nat.zero_add, Nat.add_zero, Option.bind_some, true_and, and_true, forall_const, true_implies, Bool.not_eq_true, Bool.false_eq_true, false_implies, ite_self, Nat.mul_one, hne]
      refine m_cond (t := true) (by simp [evalT, FT.get_set, FT.setL, faS_ptr, nilS_ptr, nilS_func, nilS_yield, pickS_bool, ldS_ptr, list_cells, list_ro, partS_none, lenSl_of, lenStr_of, cvInt_of, aminmax_max, aminmax_min, abin_add, abin_sub, abin_mul, abin_eql, abin_neq, abin_lss, abin_leq, abin_gtr, abin_geq, aunary_not, aextract]) (fun _ => ?_) (fun h => by cases h)
      refine m_seq (m_reg ?_)
      rw [reg32_6]
      obtain ⟨S5, u1, u2, u3, u4⟩ := st_one (off := 0) (v := .int .i64 12) hi2.b2 (by decide) rfl rfl
      simp (decide := true) only [FT.get_set, FT.setL, faS_ptr, nilS_ptr, nilS_func, nilS_yield, pickS_bool, ldS_ptr, list_cells, list_ro, partS_none, lenSl_of, lenStr_of, cvInt_of, aminmax_max, aminmax_min, abin_add, abin_sub, abin_mul, abin_eql, abin_neq, abin_lss, abin_leq, abin_gtr, abin_geq, aunary_not, aextract, Option.some.injEq, Prod.mk.injEq, Value.bool.injEq, exists_eq_left', exists_and_left, and_assoc, decide_eq_true_eq, decide_eq_false_iff_not, if_true, if_false, Nat.zero_add, Nat.add_zero, Option.bind_some, true_and, and_true, forall_const, true_implies, Bool.not_eq_true, Bool.false_eq_true, false_implies, ite_self, Nat.mul_one, t6]
      refine ⟨S5, u1, m_ret ?_⟩
      simp only
      have hne2 := hi2.nmb (.inr rfl)
      have hi5 : I32 S d D c0 W v bs p T .busy none 12 k S5 D' := ⟨hi2.go.touch wf2' (by omega) (fun x _ hx => u4 x hx) (by omega) (hi2.fr _ (by omega) (by omega)) hne2.2, by rw [u4 _ (by omega)]; exact hi2.b0, by rw [u4 _ (by omega)]; exact hi2.b1, u2, by rw [u4 _ (by omega)]; exact hi2.b3, by rw [u4 _ (by omega)]; exact hi2.b4, by rw [u3]; exact hi2.n5, fun y h1 h2 => ⟨by rw [u3]; exact (hi2.fr y h1 h2).1, (hi2.fr y h1 h2).2⟩, hi2.rb.keepOn fun y hy => u4 y (by have := (hi2.on y hy).2; omega), fun y hy => ⟨⟨by rw [u3]; exact (hi2.on y hy).1.1, (hi2.on y hy).1.2⟩, (hi2.on y hy).2⟩⟩
      have wf5 : S5.WF := fun x q hq => by
        by_cases e : x = S.n + 2
        · subst e; rw [u3]; have := hi2.n5; omega
        · rw [u4 x e] at hq; rw [u3]; exact wf2' x q hq
      refine ⟨_, hi5.b4, .inr ⟨rfl, k, hkk, D', hcut, hi5.set wf5 .done (some .ret)⟩⟩
    · have hi4 := hi2.goes hkk g
      refine m_wf fun wf4 => m_seq (m_reg ?_)
      rw [reg32_5]
      simp (decide := true) only [FT.get_set, FT.setL, faS_ptr, nilS_ptr, nilS_func, nilS_yield, pickS_bool, ldS_ptr, list_cells, list_ro, partS_none, lenSl_of, lenStr_of, cvInt_of, aminmax_max, aminmax_min, abin_add, abin_sub, abin_mul, abin_eql, abin_neq, abin_lss, abin_leq, abin_gtr, abin_geq, aunary_not, aextract, Option.some.injEq, Prod.mk.injEq, Value.bool.injEq, exists_eq_left', exists_and_left, and_assoc, decide_eq_true_eq, decide_eq_false_iff_not, if_true, if_false, Nat.zero_add, Nat.add_zero, Option.bind_some, true_and, and_true, forall_const, true_implies, Bool.not_eq_true, Bool.false_eq_true, false_implies, ite_self, Nat.mul_one, bne_self_eq_false]
      refine m_cond (t := false) (by simp [evalT, FT.get_set, FT.setL, faS_ptr, nilS_ptr, nilS_func, nilS_yield, pickS_bool, ldS_ptr, list_cells, list_ro, partS_none, lenSl_of, lenStr_of, cvInt_of, aminmax_max, aminmax_min, abin_add, abin_sub, abin_mul, abin_eql, abin_neq, abin_lss, abin_leq, abin_gtr, abin_geq, aunary_not, aextract]) (fun h => by cases h) (fun _ => m_skip ?_)
      simp only
      exact ⟨_, hi4.b4, .inl ⟨rfl, by omega, D'', hi4.set wf4 .ready none⟩⟩
  · rintro _ S' (⟨hk, D', hi⟩ | ⟨k, D', hk, hcut, hi⟩) wf'
    · refine ⟨_, hi.b4, by simp, ?_⟩
      have hi' := hi.set wf' .exhausted none
      simp only
      refine m_wf fun wf2' => m_seq (m_reg ?_)
      rw [reg32_7]
      obtain ⟨S5, u1, u2, u3, u4⟩ := st_one (off := 0) (v := .int .i64 0) hi'.b2 (by decide) rfl rfl
      simp (decide := true) only [FT.get_set, FT.setL, faS_ptr, nilS_ptr, nilS_func, nilS_yield, pickS_bool, ldS_ptr, list_cells, list_ro, partS_none, lenSl_of, lenStr_of, cvInt_of, aminmax_max, aminmax_min, abin_add, abin_sub, abin_mul, abin_eql, abin_neq, abin_lss, abin_leq, abin_gtr, abin_geq, aunary_not, aextract, Option.some.injEq, Prod.mk.injEq, Value.bool.injEq, exists_eq_left', exists_and_left, and_assoc, decide_eq_true_eq, decide_eq_false_iff_not, if_true, if_false, Nat.zero_add, Nat.add_zero, Option.bind_some, true_and, and_true, forall_const, true_implies, Bool.not_eq_true, Bool.false_eq_true, false_implies, ite_self, Nat.mul_one, t6]
      refine ⟨S5, u1, m_ret ?_⟩
      simp [resM, mload24, FT.get_set, FT.setL, faS_ptr, nilS_ptr, nilS_func, nilS_yield, pickS_bool, ldS_ptr, list_cells, list_ro, partS_none, lenSl_of, lenStr_of, cvInt_of, aminmax_max, aminmax_min, abin_add, abin_sub, abin_mul, abin_eql, abin_neq, abin_lss, abin_leq, abin_gtr, abin_geq, aunary_not, aextract, list_of u2, oneOrTuple]
      have hne2 := hi'.nmb (.inr rfl)
      exact hQ 0 (pieceK bs) D' S5 (Nat.le_refl _) (hi'.go.touch wf2' (by omega) (fun x _ hx => u4 x hx) (by omega) (hi'.fr _ (by omega) (by omega)) hne2.2) (.inl ⟨rfl, rfl⟩)
    · refine ⟨_, hi.b4, by simp, ?_⟩
      have hi' := hi.set wf' .exhausted (some .ret)
      simp only
      have hb2 := hi'.b2
      have hl2 : (S'.set (S.n + 3 + 1) (loop32 S T .exhausted (some .ret))).list (S.n + 1 + 1) = some [.int .i64 12] := list_of hb2
      unfold loop32 at hl2
      simp [resM, mload24, FT.get_set, FT.setL, faS_ptr, nilS_ptr, nilS_func, nilS_yield, pickS_bool, ldS_ptr, list_cells, list_ro, partS_none, lenSl_of, lenStr_of, cvInt_of, aminmax_max, aminmax_min, abin_add, abin_sub, abin_mul, abin_eql, abin_neq, abin_lss, abin_leq, abin_gtr, abin_geq, aunary_not, aextract, hl2, oneOrTuple]
      exact hQ 12 k D' _ (by omega) hi'.go (.inr ⟨hk, hcut, rfl⟩)
end Go.Proofs.Ytmfmbadfgnhonaa
namespace Go.Proofs.Ytmfmbadfgnhonaa
open Go Go.Ag
set_option linter.unusedVariables false
set_option maxRecDepth 100000

theorem flat_drop (rs : List (List UInt8)) {k : Nat} {r : List UInt8} (h : rs[k]? = some r) : (rs.drop k).flatMap laid = laid r ++ (rs.drop (k + 1)).flatMap laid := by
  obtain ⟨h1, h2⟩ := List.getElem?_eq_some_iff.1 h
  rw [List.drop_eq_getElem_cons h1, h2, List.flatMap_cons]
theorem wsum_drop_le (rs : List (List UInt8)) (i : Nat) : wsum (rs.drop i) ≤ wsum rs := by
  conv => rhs; rw [← List.take_append_drop i rs, wsum_append]
  omega

/-- a record after another is told to a loop -/
theorem parts45 {box l : Nat} {v : Value} {rs : List (List UInt8)} (hsmall : wsum rs ≤ 400000) (J : Nat → MS → Prop) {S : MS} (h0 : J 0 S) (hb : S.m box = some (.cells [v] 0)) (hr : RB S v (rs.flatMap laid))
    (hst : ∀ k S S', J k S → (∀ x, x ≠ box → S'.m x = S.m x) → S'.n = S.n → J k S') (hnb : ¬ On v box)
    (step : ∀ k S r x, rs[k]? = some r → S.WF → J k S → RB S x r → (∀ y, On x y → On v y) → RoundM Try.prog O l [x] S fun v' S' => v' = .bool true ∧ J (k + 1) S' ∧ S'.m box = S.m box ∧ ∀ y, On v y → S'.m y = S.m y) :
    CallM Try.prog O 45 [.func (.yield l) #[] #[], .pointer (some ⟨box, 0, none⟩)] S fun _ S' => J rs.length S' := by
  refine callM_body (fnIs is45 body45 res45) (O_none (by decide)) (by simp) ?_
  unfold blk45_0
  refine m_block (m_loop (fun m T S' => ∃ (k : Nat) (w : Value), k + m = rs.length ∧ T.get 0 = .func (.yield l) #[] #[] ∧ T.get 1 = .pointer (some ⟨box, 0, none⟩) ∧ J k S' ∧ S'.m box = some (.cells [w] 0) ∧ RB S' w ((rs.drop k).flatMap laid) ∧ ∀ y, On w y → On v y) rs.length ?_ ?_)
  · exact ⟨0, v, by omega, by simp [FT.get_set, FT.setL, faS_ptr, nilS_ptr, nilS_func, nilS_yield, pickS_bool, ldS_ptr, list_cells, list_ro, partS_none, lenSl_of, lenStr_of, cvInt_of, aminmax_max, aminmax_min, abin_add, abin_sub, abin_mul, abin_eql, abin_neq, abin_lss, abin_leq, abin_gtr, abin_geq, aunary_not, aextract], by simp [FT.get_set, FT.setL, faS_ptr, nilS_ptr, nilS_func, nilS_yield, pickS_bool, ldS_ptr, list_cells, list_ro, partS_none, lenSl_of, lenStr_of, cvInt_of, aminmax_max, aminmax_min, abin_add, abin_sub, abin_mul, abin_eql, abin_neq, abin_lss, abin_leq, abin_gtr, abin_geq, aunary_not, aextract], h0, hb, hr, fun y h => h⟩
  · rintro m T S1 ⟨k, w, hk, t0, t1, hj, hbw, hrw, hon⟩
    refine m_wf fun wf1 => m_seq (m_seq (m_reg ?_))
    rw [reg45_0]
    have hl : ((rs.drop k).flatMap laid).length = wsum (rs.drop k) := flat_laid_len _
    have hle := wsum_drop_le rs k
    simp (decide := true) only [FT.get_set, FT.setL, faS_ptr, nilS_ptr, nilS_func, nilS_yield, pickS_bool, ldS_ptr, list_cells, list_ro, partS_none, lenSl_of, lenStr_of, cvInt_of, aminmax_max, aminmax_min, abin_add, abin_sub, abin_mul, abin_eql, abin_neq, abin_lss, abin_leq, abin_gtr, abin_geq, aunary_not, aextract, Option.some.injEq, Prod.mk.injEq, Value.bool.injEq, exists_eq_left', exists_and_left, and_assoc, decide_eq_true_eq, decide_eq_false_iff_not, if_true, if_false, Nat.zero_add, Nat.add_zero, Option.bind_some, true_and, and_true, forall_const, true_implies, Bool.not_eq_true, Bool.false_eq_true, false_implies, ite_self, Nat.mul_one, t1, list_of hbw, List.getElem?_cons_zero, hrw.len]
    refine m_cond (t := decide ((((rs.drop k).flatMap laid).length : Int) ≥ 8)) (by simp [evalT, FT.get_set, FT.setL, faS_ptr, nilS_ptr, nilS_func, nilS_yield, pickS_bool, ldS_ptr, list_cells, list_ro, partS_none, lenSl_of, lenStr_of, cvInt_of, aminmax_max, aminmax_min, abin_add, abin_sub, abin_mul, abin_eql, abin_neq, abin_lss, abin_leq, abin_gtr, abin_geq, aunary_not, aextract]) (fun h => m_skip ?_) (fun h => m_exit ?_)
    · have h8 : ((rs.drop k).flatMap laid).length ≥ 8 := by have := of_decide_eq_true h; omega
      have hlt : k < rs.length := by
        by_cases hlt : k < rs.length
        · exact hlt
        · rw [List.drop_of_length_le (by omega)] at h8; simp at h8
      obtain ⟨r, hri⟩ : ∃ r, rs[k]? = some r := ⟨_, List.getElem?_eq_getElem hlt⟩
      obtain ⟨rest, hrest⟩ : ∃ rest, rest = (rs.drop (k + 1)).flatMap laid := ⟨_, rfl⟩
      have hfd := flat_drop rs hri
      rw [← hrest] at hfd
      rw [hfd] at hrw hl
      have hll : (laid r ++ rest).length = 8 + r.length + rest.length := by rw [List.length_append, laid_len]; omega
      simp only
      unfold blk45_1
      refine m_block (m_seq (m_reg ?_))
      rw [reg45_1]
      obtain ⟨v8, a1, a2⟩ := hrw.sub (i := 0) (j := 8) (low := none) (high := some (.int .i64 ((8 : Nat) : Int))) (by omega) (by omega) (.inl ⟨rfl, rfl⟩) (.inr rfl)
      have a1' : slS 1 S1 w none (some (.int .i64 8)) none = some v8 := a1
      simp (decide := true) only [FT.get_set, FT.setL, faS_ptr, nilS_ptr, nilS_func, nilS_yield, pickS_bool, ldS_ptr, list_cells, list_ro, partS_none, lenSl_of, lenStr_of, cvInt_of, aminmax_max, aminmax_min, abin_add, abin_sub, abin_mul, abin_eql, abin_neq, abin_lss, abin_leq, abin_gtr, abin_geq, aunary_not, aextract, Option.some.injEq, Prod.mk.injEq, Value.bool.injEq, exists_eq_left', exists_and_left, and_assoc, decide_eq_true_eq, decide_eq_false_iff_not, if_true, if_false, Nat.zero_add, Nat.add_zero, Option.bind_some, true_and, and_true, forall_const, true_implies, Bool.not_eq_true, Bool.false_eq_true, false_implies, ite_self, Nat.mul_one, t1, list_of hbw, List.getElem?_cons_zero, a1']
      refine read36 r.length (by omega) a2 (by rw [List.drop_zero, Nat.sub_zero, List.take_take]; exact laid_head r rest) ?_
      refine m_seq (m_seq (m_reg ?_))
      rw [reg45_2]
      have hn0 : ¬ ((r.length : Int) < 0) := by omega
      have hw8 : IntKind.i64.wrap (((laid r ++ rest).length : Int) - 8) = (((laid r ++ rest).length - 8 : Nat) : Int) := by rw [wrap_i64 (by omega) (by omega)]; omega
      have hng : ¬ ((r.length : Int) > (((laid r ++ rest).length - 8 : Nat) : Int)) := by omega
      have hwa : IntKind.i64.wrap (8 + (r.length : Int)) = ((8 + r.length : Nat) : Int) := by rw [wrap_i64 (by omega) (by omega)]; rfl
      obtain ⟨x, b1, b2⟩ := hrw.sub3 (i := 8) (j := 8 + r.length) (low := some (.int .i64 ((8 : Nat) : Int))) (by omega) (by omega) (.inr rfl)
      have b1' : slS 1 S1 w (some (.int .i64 8)) (some (.int .i64 ((8 + r.length : Nat) : Int))) (some (.int .i64 ((8 + r.length : Nat) : Int))) = some x := b1
      rw [show 8 + r.length - 8 = r.length by omega, laid_body] at b2
      simp (decide := true) only [FT.get_set, FT.setL, faS_ptr, nilS_ptr, nilS_func, nilS_yield, pickS_bool, ldS_ptr, list_cells, list_ro, partS_none, lenSl_of, lenStr_of, cvInt_of, aminmax_max, aminmax_min, abin_add, abin_sub, abin_mul, abin_eql, abin_neq, abin_lss, abin_leq, abin_gtr, abin_geq, aunary_not, aextract, Option.some.injEq, Prod.mk.injEq, Value.bool.injEq, exists_eq_left', exists_and_left, and_assoc, decide_eq_true_eq, decide_eq_false_iff_not, if_true, if_false, Nat.zero_add, Nat.add_zero, Option.bind_some, true_and, and_true, forall_const, true_implies, Bool.not_eq_true, Bool.false_eq_true, false_implies, ite_self, Nat.mul_one, t0, t1, list_of hbw, List.getElem?_cons_zero, hn0, hw8, hng, hrw.len, hwa, b1', decide_false]
      refine (CallV.mono (f := .func (.yield l) #[] #[]) (args := [x]) (step k S1 r x hri wf1 hj b2 fun y hy => hon y (slS_on b1 hy)) ?_)
      rintro _ S2 ⟨rfl, hj2, hbx, hkeep⟩
      simp (decide := true) only [FT.get_set, FT.setL, faS_ptr, nilS_ptr, nilS_func, nilS_yield, pickS_bool, ldS_ptr, list_cells, list_ro, partS_none, lenSl_of, lenStr_of, cvInt_of, aminmax_max, aminmax_min, abin_add, abin_sub, abin_mul, abin_eql, abin_neq, abin_lss, abin_leq, abin_gtr, abin_geq, aunary_not, aextract, Option.some.injEq, Prod.mk.injEq, Value.bool.injEq, exists_eq_left', exists_and_left, and_assoc, decide_eq_true_eq, decide_eq_false_iff_not, if_true, if_false, Nat.zero_add, Nat.add_zero, Option.bind_some, true_and, and_true, forall_const, true_implies, Bool.not_eq_true, Bool.false_eq_true, false_implies, ite_self, Nat.mul_one, ]
      refine m_cond (t := false) (by simp [evalT, FT.get_set, FT.setL, faS_ptr, nilS_ptr, nilS_func, nilS_yield, pickS_bool, ldS_ptr, list_cells, list_ro, partS_none, lenSl_of, lenStr_of, cvInt_of, aminmax_max, aminmax_min, abin_add, abin_sub, abin_mul, abin_eql, abin_neq, abin_lss, abin_leq, abin_gtr, abin_geq, aunary_not, aextract]) (fun h => by cases h) (fun _ => m_skip ?_)
      simp only
      refine m_reg ?_
      rw [reg45_3]
      have hbw2 : S2.m box = some (.cells [w] 0) := hbx.trans hbw
      have hrw2 := hrw.keepOn fun y hy => hkeep y (hon y hy)
      obtain ⟨w2, c1, c2⟩ := hrw2.sub (i := 8 + r.length) (j := (laid r ++ rest).length) (low := some (.int .i64 ((8 + r.length : Nat) : Int))) (high := none) (by omega) (Nat.le_refl _) (.inr rfl) (.inl ⟨rfl, rfl⟩)
      rw [laid_rest, List.take_of_length_le (by omega)] at c2
      obtain ⟨S3, u1, u2, u3, u4⟩ := st_one (off := 0) (v := w2) hbw2 (by simp) c2.one.1 c2.one.2
      simp (decide := true) only [FT.get_set, FT.setL, faS_ptr, nilS_ptr, nilS_func, nilS_yield, pickS_bool, ldS_ptr, list_cells, list_ro, partS_none, lenSl_of, lenStr_of, cvInt_of, aminmax_max, aminmax_min, abin_add, abin_sub, abin_mul, abin_eql, abin_neq, abin_lss, abin_leq, abin_gtr, abin_geq, aunary_not, aextract, Option.some.injEq, Prod.mk.injEq, Value.bool.injEq, exists_eq_left', exists_and_left, and_assoc, decide_eq_true_eq, decide_eq_false_iff_not, if_true, if_false, Nat.zero_add, Nat.add_zero, Option.bind_some, true_and, and_true, forall_const, true_implies, Bool.not_eq_true, Bool.false_eq_true, false_implies, ite_self, Nat.mul_one, t0, t1, list_of hbw2, List.getElem?_cons_zero, hwa, c1]
      refine ⟨S3, u1, m - 1, by omega, k + 1, by omega, hst _ _ _ hj2 u4 u3, w2, u2, ?_, fun y hy => hon y (slS_on c1 hy)⟩
      rw [← hrest]
      refine c2.keepOn fun y hy => u4 y fun e => ?_
      subst e
      exact hnb (hon _ (slS_on c1 hy))
    · have hk2 : k = rs.length := by
        have h8 := of_decide_eq_false h
        by_cases hlt : k < rs.length
        · obtain ⟨r, hri⟩ : ∃ r, rs[k]? = some r := ⟨_, List.getElem?_eq_getElem hlt⟩
          rw [flat_drop rs hri, List.length_append, laid_len] at h8
          omega
        · omega
      subst hk2
      simp [resM]
      exact hj
end Go.Proofs.Ytmfmbadfgnhonaa
namespace Go.Proofs.Ytmfmbadfgnhonaa
open Go Go.Ag
set_option linter.unusedVariables false
set_option maxRecDepth 100000

theorem veq_ptr (a : Option Addr) : veq (.pointer a) (.pointer a) = true := by simp [veq, veq1]
theorem RB.veq {S : MS} {v : Value} {bs : List UInt8} (h : RB S v bs) : veq v v = true := by
  rcases h with ⟨rfl, _⟩ | ⟨rfl, _⟩ | ⟨b, off, cap, L, rfl, _⟩ <;> exact veq_slice _ _ _
theorem RB.sv {S : MS} {v : Value} {bs : List UInt8} (h : RB S v bs) : ∃ s : Sv, v = s.v := by
  rcases h with ⟨rfl, _⟩ | ⟨rfl, _⟩ | ⟨b, off, cap, L, rfl, _⟩ <;> exact ⟨⟨_, _, _⟩, rfl⟩

theorem headB_8 (h e : Nat) : (((headB h e).drop 8).take (256 - 8)).take 8 = num8 h := by
  unfold headB
  rw [List.take_take, List.append_assoc, List.append_assoc, List.drop_left' (num8_len _), List.take_left' (by rw [num8_len]; rfl)]
theorem headB_16 (h e : Nat) : (((headB h e).drop 16).take (256 - 16)).take 8 = num8 e := by
  unfold headB
  rw [List.take_take, List.append_assoc, List.drop_left' (by simp [num8_len]), List.take_left' (by rw [num8_len]; rfl)]

/-- a disk's blocks say: this base, these records -/
structure Says (n : Nat) (c : Nat → List UInt8) (half end' : Nat) (base : List UInt8) (rs : List (List UInt8)) : Prop where
  hh : half ≤ 1
  c0 : c 0 = headB half end'
  he : end' = liveN base rs
  le : end' ≤ (n - 1) / 2 * 256
  all : (catB c (placeN n half) ((end' + 255) / 256)).take end' = allB base rs

/-- an open journal: on this disk, with this base, these records -/
structure JJ (X : Nat → Prop) (S : MS) (d : Nat) (D : DK) (j : Nat) (rv : Value) (half end' : Nat) (base : List UInt8) (rs : List (List UInt8)) (dead : Bool) : Prop where
  ex : ∃ bv tv rl, S.m j = some (.cells (jouL d half end' bv rv tv dead) 0) ∧ RB S bv base ∧ SlF svF 1 S 0 rv rl ∧ RBs S rl rs ∧ RB S tv ((allB base rs).drop (end' / 256 * 256)) ∧ ∀ y, On bv y ∨ On tv y ∨ (∃ x ∈ rl, On x.v y) → FrD S d D y ∧ y ≠ j ∧ Av rv y ∧ ¬ X y
  fj : FrD S d D j ∧ Av rv j
  frv : ∀ y, ¬ Av rv y → FrD S d D y
theorem JJ.isJ {X : Nat → Prop} {S : MS} {d : Nat} {D : DK} {j : Nat} {rv : Value} {half end' : Nat} {base : List UInt8} {rs : List (List UInt8)} {dead : Bool} (h : JJ X S d D j rv half end' base rs dead) : IsJ S j d 0 half end' base rs ((allB base rs).drop (end' / 256 * 256)) dead := by
  obtain ⟨bv, tv, rl, h1, h2, h3, h4, h5, h6⟩ := h.ex
  exact ⟨bv, rv, tv, rl, h1, h2, h3, h4, h5, h.fj.2⟩
/-- where the disk's other blocks stay, a journal stays -/
theorem JJ.keep {X : Nat → Prop} {S S' : MS} {d : Nat} {D D' : DK} {j : Nat} {rv : Value} {half end' : Nat} {base : List UInt8} {rs : List (List UInt8)} {dead : Bool} (h : JJ X S d D j rv half end' base rs dead) (hk : ∀ y, FrD S d D y → S'.m y = S.m y ∧ FrD S' d D' y) : JJ X S' d D' j rv half end' base rs dead := by
  obtain ⟨bv, tv, rl, h1, h2, h3, h4, h5, h6⟩ := h.ex
  refine ⟨⟨bv, tv, rl, by rw [(hk j h.fj.1).1]; exact h1, h2.keepOn fun y hy => (hk y (h6 y (.inl hy)).1).1, h3.keep1 fun y k hy _ => (hk y (h.frv y hy)).1, ⟨h4.1, fun i x r hx hr => (h4.2 i x r hx hr).keepOn fun y hy => (hk y (h6 y (.inr (.inr ⟨x, List.mem_of_getElem? hx, hy⟩))).1).1⟩, h5.keepOn fun y hy => (hk y (h6 y (.inr (.inl hy))).1).1, fun y hy => ⟨(hk y (h6 y hy).1).2, (h6 y hy).2⟩⟩, ⟨(hk j h.fj.1).2, h.fj.2⟩, fun y hy => (hk y (h.frv y hy)).2⟩

theorem bd_j (d : Nat) (h e : Int) (t : Value) (ht : t.cells = #[t]) : bdS (fun i => [(0, 1), (1, 1), (2, 1), (3, 1), (4, 1), (5, 1), (6, 1)][i]?) [.pointer none, .int .i64 0, .int .i64 0, .slice none 0 0, .slice none 0 0, .slice none 0 0, .bool false] [(0, .pointer (some ⟨d, 0, none⟩)), (1, .int .i64 h), (2, .int .i64 e), (5, t)] = some (.agg (jouL d h e (.slice none 0 0) (.slice none 0 0) t false).toArray) := by
  simp [bdS, fillL, spliceL, ht, cells_int, cells_ptr, jouL]

/-- a first block as a fresh slice -/
theorem RB.block {S : MS} {b : Nat} {bs : List UInt8} {es : Nat} (h : S.m b = some (.cells (bL bs) es)) (hl : bs.length = 256) : RB S (.slice (some ⟨b, 0, none⟩) 256 256) bs :=
  .inr (.inr ⟨b, 0, 256, bL bs, by rw [hl], list_of h, by rw [bL_len]; omega, by rw [List.drop_zero, ← bL_len, List.take_length], by omega, .inl (by decide)⟩)

/-! ### the checks on the first block -/
theorem ff {p : Prop} (h : false = true) : p := by cases h
theorem tf {p : Prop} (h : true = false) : p := by cases h
theorem g10_ok {S : MS} {d : Nat} {D : DK} (wf : S.WF) (h : IsD S d D) (hn : 64 ≤ D.made.length ∧ D.made.length ≤ 2000) {T : FT} {v : Value} {half end' : Nat} (t0 : T.get 0 = .pointer (some ⟨d, 0, none⟩)) (t4 : T.get 4 = v) (t6 : T.get 6 = .int .i64 half) (t7 : T.get 7 = .int .i64 end') (hv : RB S v (headB half end')) (hh : half ≤ 1) (h8 : 8 ≤ end') (he : end' ≤ (D.made.length - 1) / 2 * 256) {Q : FT → MS → Prop} (hq : ∀ T' S', Old S S' → T'.get 0 = T.get 0 → T'.get 4 = T.get 4 → T'.get 6 = T.get 6 → T'.get 7 = T.get 7 → T'.get 57 = .bool false → Q T' S') : mOps Try.prog O 97 (ro 10 5).toList (ro 10 5).toList [] T S Q := by
  rw [reg10_5, t0, t4, t6, t7]
  have e1 : decide ((D.made.length : Int) < 64) = false := decide_eq_false (by omega)
  have e2 : decide ((half : Int) < 0) = false := decide_eq_false (by omega)
  have e3 : decide ((half : Int) > 1) = false := decide_eq_false (by omega)
  have e4 : decide ((end' : Int) < 8) = false := decide_eq_false (by omega)
  have e5 : decide ((end' : Int) > (((D.made.length - 1) / 2 * 256 : Nat) : Int)) = false := decide_eq_false (by omega)
  have w1 : IntKind.i64.wrap ((D.made.length : Int) - 1) = ((D.made.length - 1 : Nat) : Int) := by rw [wrap_i64 (by omega) (by omega)]; omega
  have w2 : ((D.made.length - 1 : Nat) : Int).tdiv 2 = (((D.made.length - 1) / 2 : Nat) : Int) := by rw [Int.tdiv_eq_ediv_of_nonneg (by omega)]; rfl
  have w3 : IntKind.i64.wrap (((D.made.length - 1) / 2 : Nat) : Int) = (((D.made.length - 1) / 2 : Nat) : Int) := wrap_i64 (by omega) (by omega)
  have w4 : IntKind.i64.wrap ((((D.made.length - 1) / 2 : Nat) : Int) * 256) = (((D.made.length - 1) / 2 * 256 : Nat) : Int) := by rw [wrap_i64 (by omega) (by omega)]; omega
  refine blocksD h ⟨.bool false, (abin_lss _ _ _ _ _ _ _).trans (by rw [e1]), false, rfl, ff, fun _ => ⟨.bool false, (abin_lss _ _ _ _ _ _ _).trans (by rw [e2]), .bool false, rfl, false, rfl, ff, fun _ => ⟨.bool false, (abin_gtr _ _ _ _ _ _ _).trans (by rw [e3]), .bool false, rfl, false, rfl, ff, fun _ => ⟨.bool false, (abin_lss _ _ _ _ _ _ _).trans (by rw [e4]), .bool false, rfl, false, rfl, ff, fun _ => blocksD h ⟨.int .i64 ((D.made.length - 1 : Nat) : Int), (abin_sub _ _ _ _ _ _ _).trans (by rw [w1]), .int .i64 (((D.made.length - 1) / 2 : Nat) : Int), (abin_quo _ _ _ _ _ _ _ (by decide)).trans (by rw [w2, w3]), .int .i64 (((D.made.length - 1) / 2 * 256 : Nat) : Int), (abin_mul _ _ _ _ _ _ _).trans (by rw [w4]), .bool false, (abin_gtr _ _ _ _ _ _ _).trans (by rw [e5]), .bool false, rfl, false, rfl, ff, fun _ => ?_⟩⟩⟩⟩⟩
  refine head34 half end' (by omega) (by omega) fun hv2 S2 f2 b2 => ?_
  refine equal37 (hv.keep wf f2.2) (RB.own b2) ⟨.bool false, rfl, .bool false, rfl, hq _ _ f2 ?_ ?_ ?_ ?_ ?_⟩
  · simp [FT.get_set, t0]
  · simp [FT.get_set, t4]
  · simp [FT.get_set, t6]
  · simp [FT.get_set, t7]
  · simp [FT.get_set]

end Go.Proofs.Ytmfmbadfgnhonaa

