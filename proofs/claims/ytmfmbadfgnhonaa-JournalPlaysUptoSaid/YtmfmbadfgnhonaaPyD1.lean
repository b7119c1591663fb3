/-
  The walk through the journal's code: what its functions do to memory, part PyD1. Nothing is asked.
-/
import Derived.Test.YtmfmbadfgnhonaaPyW
set_option linter.all false
namespace Go.Proofs.Ytmfmbadfgnhonaa
open Go Go.Ag
set_option linter.unusedVariables false
set_option maxRecDepth 100000

def O : Known := fun f args => if f = 7 ∧ args = [] then some (.bool true) else none
theorem O_none {f : FuncId} {args : List Value} (h : f ≠ 7) : O f args = none := by unfold O; rw [if_neg (fun e => h e.1)]

/-- a disk's struct -/
def diskL (made now writes : Value) (halt : Int) (cut : Bool) : List Value := [made, now, writes, .int .i64 halt, .bool cut]

end Go.Proofs.Ytmfmbadfgnhonaa
namespace Go.Proofs.Ytmfmbadfgnhonaa
open Go Go.Ag
set_option linter.unusedVariables false
set_option maxRecDepth 100000

end Go.Proofs.Ytmfmbadfgnhonaa
namespace Go.Proofs.Ytmfmbadfgnhonaa
open Go Go.Ag
set_option linter.unusedVariables false
set_option maxRecDepth 100000

structure DK where
  mb : Nat
  nb : Nat
  wb : Nat
  made : List (Option Nat)
  now : List (Option Nat)
  ws : List (Nat × Nat)
  halt : Int
  cut : Bool
def pv : Option Nat → Value
  | none => .pointer none
  | some a => .pointer (some ⟨a, 0, none⟩)
def wv (w : Nat × Nat) : List Value := [.int .i64 w.1, .pointer (some ⟨w.2, 0, none⟩)]
def wsa (wb : Nat) (n : Nat) : Option Addr := if n = 0 then none else some ⟨wb, 0, none⟩
def wsc (n : Nat) : Nat := if n = 0 then 0 else unk
structure IsD (S : MS) (d : Nat) (D : DK) : Prop where
  len : D.now.length = D.made.length
  hd : S.m d = some (.cells (diskL (.slice (some ⟨D.mb, 0, none⟩) D.made.length D.made.length) (.slice (some ⟨D.nb, 0, none⟩) D.made.length D.made.length) (.slice (wsa D.wb D.ws.length) D.ws.length (wsc D.ws.length)) D.halt D.cut) 0)
  hm : S.m D.mb = some (.cells (D.made.map pv) 1)
  hn : S.m D.nb = some (.cells (D.now.map pv) 1)
  hw : D.ws ≠ [] → S.m D.wb = some (.cells (D.ws.flatMap wv) 2)
  mn : D.mb ≠ D.nb
  small : D.made.length ≤ 16384

theorem dl0 (a b c : Value) (h : Int) (k : Bool) : (diskL a b c h k)[0]? = some a := rfl
theorem dl1 (a b c : Value) (h : Int) (k : Bool) : (diskL a b c h k)[1]? = some b := rfl
theorem dl2 (a b c : Value) (h : Int) (k : Bool) : (diskL a b c h k)[2]? = some c := rfl
theorem dl3 (a b c : Value) (h : Int) (k : Bool) : (diskL a b c h k)[3]? = some (.int .i64 h) := rfl
theorem dl4 (a b c : Value) (h : Int) (k : Bool) : (diskL a b c h k)[4]? = some (.bool k) := rfl
theorem dlen (a b c : Value) (h : Int) (k : Bool) : (diskL a b c h k).length = 5 := rfl
theorem ds2 (a b c v : Value) (h : Int) (k : Bool) : (diskL a b c h k).set 2 v = diskL a b v h k := rfl
theorem ds3 (a b c : Value) (h x : Int) (k : Bool) : (diskL a b c h k).set 3 (.int .i64 x) = diskL a b c x k := rfl
theorem ds4 (a b c : Value) (h : Int) (k x : Bool) : (diskL a b c h k).set 4 (.bool x) = diskL a b c h x := rfl

theorem IsD.dm {S : MS} {d : Nat} {D : DK} (h : IsD S d D) : d ≠ D.mb := ne_m h.hd h.hm (by intro e; injection e with _ e; cases e)
theorem IsD.dn {S : MS} {d : Nat} {D : DK} (h : IsD S d D) : d ≠ D.nb := ne_m h.hd h.hn (by intro e; injection e with _ e; cases e)
theorem IsD.dw {S : MS} {d : Nat} {D : DK} (h : IsD S d D) (hw : D.ws ≠ []) : d ≠ D.wb := ne_m h.hd (h.hw hw) (by intro e; injection e with _ e; cases e)
theorem IsD.mw {S : MS} {d : Nat} {D : DK} (h : IsD S d D) (hw : D.ws ≠ []) : D.mb ≠ D.wb := ne_m h.hm (h.hw hw) (by intro e; injection e with _ e; cases e)
theorem IsD.nw {S : MS} {d : Nat} {D : DK} (h : IsD S d D) (hw : D.ws ≠ []) : D.nb ≠ D.wb := ne_m h.hn (h.hw hw) (by intro e; injection e with _ e; cases e)

/-- another memory in which the disk's blocks are as they were -/
theorem IsD.keep {S S' : MS} {d : Nat} {D : DK} (h : IsD S d D) (hs : ∀ x, x = d ∨ x = D.mb ∨ x = D.nb ∨ (D.ws ≠ [] ∧ x = D.wb) → S'.m x = S.m x) : IsD S' d D :=
  ⟨h.len, by rw [hs d (by simp)]; exact h.hd, by rw [hs _ (by simp)]; exact h.hm, by rw [hs _ (by simp)]; exact h.hn, fun hw => by rw [hs _ (.inr (.inr (.inr ⟨hw, rfl⟩)))]; exact h.hw hw, h.mn, h.small⟩

theorem blocksD {S : MS} {d : Nat} {D : DK} (h : IsD S d D) {Q : Value → MS → Prop} (hq : Q (.int .i64 D.made.length) S) : CallM Try.prog O 28 [.pointer (some ⟨d, 0, none⟩)] S Q := by
  refine callM_body (fnIs is28 body28 res28) (O_none (by decide)) (by simp) ?_
  refine m_seq (m_reg ?_)
  rw [reg28_0]
  refine m_seq (m_reg ?_)
  rw [reg28_1]
  simp [FT.get_set, FT.setL, faS_ptr, nilS_ptr, nilS_func, nilS_yield, pickS_bool, ldS_ptr, list_cells, list_ro, partS_none, lenSl_of, lenStr_of, cvInt_of, aminmax_max, aminmax_min, abin_add, abin_sub, abin_mul, abin_eql, abin_neq, abin_lss, abin_leq, abin_gtr, abin_geq, aunary_not, aextract, list_of h.hd, dl0, dl1, dl2, dl3, dl4, dlen, ds2, ds3, ds4]
  refine m_ret ?_
  simp [resM, FT.get_set, oneOrTuple]
  exact hq

def haltD (D : DK) (n : Int) : DK := { D with halt := n, cut := D.cut || n == 0 }
theorem haltsD {S : MS} {d : Nat} {D : DK} (h : IsD S d D) (n : Int) : CallM Try.prog O 16 [.pointer (some ⟨d, 0, none⟩), .int .i64 n] S fun v S' => IsD S' d (haltD D n) ∧ S'.n = S.n ∧ ∀ x, x ≠ d → S'.m x = S.m x := by
  refine callM_body (fnIs is16 body16 res16) (O_none (by decide)) (by simp) ?_
  refine m_seq (m_reg ?_)
  rw [reg16_0]
  simp [FT.get_set, FT.setL, faS_ptr, nilS_ptr, nilS_func, nilS_yield, pickS_bool, ldS_ptr, list_cells, list_ro, partS_none, lenSl_of, lenStr_of, cvInt_of, aminmax_max, aminmax_min, abin_add, abin_sub, abin_mul, abin_eql, abin_neq, abin_lss, abin_leq, abin_gtr, abin_geq, aunary_not, aextract]
  obtain ⟨S1, h1, h2, h3, h4⟩ := st_one (off := 3) (v := .int .i64 n) h.hd (by rw [dlen]; decide) rfl rfl
  rw [ds3] at h2
  rw [h1]
  refine ⟨_, rfl, ?_⟩
  refine m_reg ?_
  rw [reg16_1]
  simp [FT.get_set, FT.setL, faS_ptr, nilS_ptr, nilS_func, nilS_yield, pickS_bool, ldS_ptr, list_cells, list_ro, partS_none, lenSl_of, lenStr_of, cvInt_of, aminmax_max, aminmax_min, abin_add, abin_sub, abin_mul, abin_eql, abin_neq, abin_lss, abin_leq, abin_gtr, abin_geq, aunary_not, aextract, list_of h2, dl0, dl1, dl2, dl3, dl4, dlen, ds2, ds3, ds4]
  have main : ∀ c, ∃ S2, stS 1 S1 (.pointer (some ⟨d, 4, none⟩)) (.bool c) = some S2 ∧ IsD S2 d { D with halt := n, cut := c } ∧ S2.n = S.n ∧ ∀ x, x ≠ d → S2.m x = S.m x := by
    intro c
    obtain ⟨S2, g1, g2, g3, g4⟩ := st_one (off := 4) (v := .bool c) h2 (by rw [dlen]; decide) rfl rfl
    rw [ds4] at g2
    refine ⟨S2, g1, ⟨h.len, g2, ?_, ?_, fun hw => ?_, h.mn, h.small⟩, by rw [g3, h3], fun x hx => by rw [g4 x hx, h4 x hx]⟩
    · rw [g4 _ (Ne.symm h.dm), h4 _ (Ne.symm h.dm)]; exact h.hm
    · rw [g4 _ (Ne.symm h.dn), h4 _ (Ne.symm h.dn)]; exact h.hn
    · rw [g4 _ (Ne.symm (h.dw hw)), h4 _ (Ne.symm (h.dw hw))]; exact h.hw hw
  cases hc : D.cut with
  | true =>
    simp
    obtain ⟨S2, g1, g2, g3, g4⟩ := main true
    rw [g1]
    refine ⟨_, rfl, ?_⟩
    simp [resM]
    exact ⟨by simpa [haltD, hc] using g2, g3, g4⟩
  | false =>
    simp
    obtain ⟨S2, g1, g2, g3, g4⟩ := main (n == 0)
    rw [g1]
    refine ⟨_, rfl, ?_⟩
    simp [resM]
    exact ⟨by simpa [haltD, hc] using g2, g3, g4⟩

abbrev restartD (D : DK) : DK := { D with halt := -1, cut := false }
theorem restartsD {S : MS} {d : Nat} {D : DK} (h : IsD S d D) : CallM Try.prog O 18 [.pointer (some ⟨d, 0, none⟩)] S fun v S' => IsD S' d (restartD D) ∧ S'.n = S.n ∧ ∀ x, x ≠ d → S'.m x = S.m x := by
  refine callM_body (fnIs is18 body18 res18) (O_none (by decide)) (by simp) ?_
  refine m_reg ?_
  rw [reg18_0]
  simp [FT.get_set, FT.setL, faS_ptr, nilS_ptr, nilS_func, nilS_yield, pickS_bool, ldS_ptr, list_cells, list_ro, partS_none, lenSl_of, lenStr_of, cvInt_of, aminmax_max, aminmax_min, abin_add, abin_sub, abin_mul, abin_eql, abin_neq, abin_lss, abin_leq, abin_gtr, abin_geq, aunary_not, aextract]
  obtain ⟨S1, h1, h2, h3, h4⟩ := st_one (off := 3) (v := .int .i64 (-1)) h.hd (by rw [dlen]; decide) rfl rfl
  rw [ds3] at h2
  rw [h1]
  refine ⟨_, rfl, ?_⟩
  obtain ⟨S2, g1, g2, g3, g4⟩ := st_one (off := 4) (v := .bool false) h2 (by rw [dlen]; decide) rfl rfl
  rw [ds4] at g2
  rw [g1]
  refine ⟨_, rfl, ?_⟩
  simp [resM]
  refine ⟨⟨h.len, g2, ?_, ?_, fun hw => ?_, h.mn, h.small⟩, by rw [g3, h3], fun x hx => by rw [g4 x hx, h4 x hx]⟩
  · show S2.m D.mb = _; rw [g4 _ (Ne.symm h.dm), h4 _ (Ne.symm h.dm)]; exact h.hm
  · show S2.m D.nb = _; rw [g4 _ (Ne.symm h.dn), h4 _ (Ne.symm h.dn)]; exact h.hn
  · show S2.m D.wb = _; rw [g4 _ (Ne.symm (h.dw hw)), h4 _ (Ne.symm (h.dw hw))]; exact h.hw hw
end Go.Proofs.Ytmfmbadfgnhonaa
namespace Go.Proofs.Ytmfmbadfgnhonaa
open Go Go.Ag
set_option linter.unusedVariables false
set_option maxRecDepth 100000

/-- an array's bytes, where there is one; else noughts -/
def Cont (S : MS) (o : Option Nat) (c : List Value) : Prop := c.length = 256 ∧ c.all oneCell = true ∧ match o with | none => c = List.replicate 256 (.int .u8 0) | some a => S.m a = some (.cells c 0)
theorem Cont.keep {S S' : MS} {o : Option Nat} {c : List Value} (h : Cont S o c) (hs : ∀ a, o = some a → S'.m a = S.m a) : Cont S' o c := by
  obtain ⟨h1, h2, h3⟩ := h
  refine ⟨h1, h2, ?_⟩
  cases o with
  | none => exact h3
  | some a => simp only at h3 ⊢; rw [hs a rfl]; exact h3

theorem under74 : Try.prog.underlying 74 = some (.pointer 77) := by kernel_rfl
theorem msS256 (S : MS) (k k' : IntKind) : msS S 1 1 [.int .u8 0] (.int k 256) (.int k' 256) = some (.slice (some ⟨S.n, 0, none⟩) 256 256, S.fresh (zeros [.int .u8 0] 256) 1) :=
  msS_of (n := 256) S 1 1 [.int .u8 0] k k' (by omega) (by omega)

/-- Read -/
theorem readD {S : MS} {d : Nat} {D : DK} (h : IsD S d D) (i : Int) {c : List Value} (hc : ∀ o, 0 ≤ i → D.now[i.toNat]? = some o → Cont S o c) {Q : Value → MS → Prop}
    (q1 : D.cut = true → Q (.tuple #[.slice none 0 0, .int .i64 12]) S)
    (q2 : D.cut = false → ¬ (0 ≤ i ∧ i < D.made.length) → Q (.tuple #[.slice none 0 0, .int .i64 11]) S)
    (q3 : D.cut = false → 0 ≤ i → i < D.made.length → Q (.tuple #[.slice (some ⟨S.n, 0, none⟩) 256 256, .int .i64 0]) (S.fresh c 1)) :
    CallM Try.prog O 35 [.pointer (some ⟨d, 0, none⟩), .int .i64 i] S Q := by
  refine callM_wf fun wf => ?_
  refine callM_body (fnIs is35 body35 res35) (O_none (by decide)) (by simp) ?_
  refine m_seq (m_reg ?_)
  rw [reg35_0]
  refine m_seq (m_block (m_seq (m_reg ?_)))
  rw [reg35_1]
  simp [FT.get_set, FT.setL, faS_ptr, nilS_ptr, nilS_func, nilS_yield, pickS_bool, ldS_ptr, list_cells, list_ro, partS_none, lenSl_of, lenStr_of, cvInt_of, aminmax_max, aminmax_min, abin_add, abin_sub, abin_mul, abin_eql, abin_neq, abin_lss, abin_leq, abin_gtr, abin_geq, aunary_not, aextract, list_of h.hd, dl0, dl1, dl2, dl3, dl4, dlen, ds2, ds3, ds4]
  refine m_cond (t := D.cut) (by simp [evalT, FT.get_set, FT.setL, faS_ptr, nilS_ptr, nilS_func, nilS_yield, pickS_bool, ldS_ptr, list_cells, list_ro, partS_none, lenSl_of, lenStr_of, cvInt_of, aminmax_max, aminmax_min, abin_add, abin_sub, abin_mul, abin_eql, abin_neq, abin_lss, abin_leq, abin_gtr, abin_geq, aunary_not, aextract]) (fun hcut => ?_) (fun hcut => ?_)
  · refine m_seq (m_reg ?_)
    rw [reg35_2]
    refine m_ret ?_
    simp [resM, FT.get_set, FT.setL, faS_ptr, nilS_ptr, nilS_func, nilS_yield, pickS_bool, ldS_ptr, list_cells, list_ro, partS_none, lenSl_of, lenStr_of, cvInt_of, aminmax_max, aminmax_min, abin_add, abin_sub, abin_mul, abin_eql, abin_neq, abin_lss, abin_leq, abin_gtr, abin_geq, aunary_not, aextract, oneOrTuple]
    exact q1 hcut
  · refine m_seq (m_reg ?_)
    rw [reg35_3]
    simp (decide := true) only [FT.get_set, FT.setL, faS_ptr, nilS_ptr, nilS_func, nilS_yield, pickS_bool, ldS_ptr, list_cells, list_ro, partS_none, lenSl_of, lenStr_of, cvInt_of, aminmax_max, aminmax_min, abin_add, abin_sub, abin_mul, abin_eql, abin_neq, abin_lss, abin_leq, abin_gtr, abin_geq, aunary_not, aextract, Option.some.injEq, Prod.mk.injEq, Value.bool.injEq, exists_eq_left', exists_and_left, and_assoc, decide_eq_true_eq, decide_eq_false_iff_not, if_true, if_false, Nat.zero_add, Nat.add_zero, Option.bind_some, true_and, and_true, forall_const, true_implies, Bool.not_eq_true, Bool.false_eq_true, false_implies, ite_self, Nat.mul_one, list_of h.hd, dl0, dl1, dl2, dl3, dl4, dlen, ds2, ds3, ds4]
    have bad : ∀ T, ¬ (0 ≤ i ∧ i < D.made.length) → MWp Try.prog O 41 (.seq (.region 4 (ro 35 4) false) .ret) T S fun x T' S' => (match x with | .exit id' => False | x => True) ∧ x = .ret ∧ T'.get 4 = .slice none 0 0 ∧ T'.get 5 = .int .i64 11 ∧ S' = S := by
      intro T hb
      refine m_seq (m_reg ?_)
      rw [reg35_4]
      refine m_ret ?_
      simp [FT.get_set, FT.setL, faS_ptr, nilS_ptr, nilS_func, nilS_yield, pickS_bool, ldS_ptr, list_cells, list_ro, partS_none, lenSl_of, lenStr_of, cvInt_of, aminmax_max, aminmax_min, abin_add, abin_sub, abin_mul, abin_eql, abin_neq, abin_lss, abin_leq, abin_gtr, abin_geq, aunary_not, aextract]
    refine ⟨fun hneg => ?_, fun hpos => ?_⟩
    · refine m_cond (t := true) (by simp [evalT, FT.get_set, FT.setL, faS_ptr, nilS_ptr, nilS_func, nilS_yield, pickS_bool, ldS_ptr, list_cells, list_ro, partS_none, lenSl_of, lenStr_of, cvInt_of, aminmax_max, aminmax_min, abin_add, abin_sub, abin_mul, abin_eql, abin_neq, abin_lss, abin_leq, abin_gtr, abin_geq, aunary_not, aextract, hneg]) (fun _ => ?_) (fun h => by cases h)
      have hneg : i < 0 := hneg
      refine (bad _ (by omega)).mono ?_
      rintro x T' S' ⟨_, rfl, h4, h5, rfl⟩
      simp [resM, h4, h5, oneOrTuple]
      exact q2 hcut (by omega)
    · have hpos : 0 ≤ i := Int.not_lt.1 hpos
      refine m_cond (t := decide ((D.made.length : Int) ≤ i)) (by simp [evalT, FT.get_set, FT.setL, faS_ptr, nilS_ptr, nilS_func, nilS_yield, pickS_bool, ldS_ptr, list_cells, list_ro, partS_none, lenSl_of, lenStr_of, cvInt_of, aminmax_max, aminmax_min, abin_add, abin_sub, abin_mul, abin_eql, abin_neq, abin_lss, abin_leq, abin_gtr, abin_geq, aunary_not, aextract, Int.not_lt.2 hpos]) (fun hge => ?_) (fun hlt => ?_)
      · have hge := of_decide_eq_true hge
        refine (bad _ (by omega)).mono ?_
        rintro x T' S' ⟨_, rfl, h4, h5, rfl⟩
        simp [resM, h4, h5, oneOrTuple]
        exact q2 hcut (by omega)
      · have hlt := of_decide_eq_false hlt
        have hi : i.toNat < D.now.length := by rw [h.len]; omega
        obtain ⟨o, ho⟩ : ∃ o, D.now[i.toNat]? = some o := ⟨_, List.getElem?_eq_getElem hi⟩
        have hcont := hc o hpos ho
        refine m_skip ?_
        simp only
        refine m_seq (m_reg ?_)
        rw [reg35_5, msS256]
        refine ⟨_, _, rfl, ?_⟩
        have hdn : d ≠ S.n := Nat.ne_of_lt (wf _ _ h.hd)
        have hnn : D.nb ≠ S.n := Nat.ne_of_lt (wf _ _ h.hn)
        have hd' := (fresh_m S (zeros [.int .u8 0] 256) 1 d).trans ((if_neg hdn).trans h.hd)
        have hn' := (fresh_m S (zeros [.int .u8 0] 256) 1 D.nb).trans ((if_neg hnn).trans h.hn)
        refine m_seq (m_seq (m_reg ?_))
        rw [reg35_6]
        simp [FT.get_set, FT.setL, faS_ptr, nilS_ptr, nilS_func, nilS_yield, pickS_bool, ldS_ptr, list_cells, list_ro, partS_none, lenSl_of, lenStr_of, cvInt_of, aminmax_max, aminmax_min, abin_add, abin_sub, abin_mul, abin_eql, abin_neq, abin_lss, abin_leq, abin_gtr, abin_geq, aunary_not, aextract, list_of hd', list_of hn', dl0, dl1, dl2, dl3, dl4, dlen, ds2, ds3, ds4, iaSS_of (k := .i64) hpos (by omega : i < (D.made.length : Int)), ho]
        refine m_seq (m_reg ?_)
        rw [reg35_7]
        cases o with
        | none =>
          simp [FT.get_set, FT.setL, faS_ptr, nilS_ptr, nilS_func, nilS_yield, pickS_bool, ldS_ptr, list_cells, list_ro, partS_none, lenSl_of, lenStr_of, cvInt_of, aminmax_max, aminmax_min, abin_add, abin_sub, abin_mul, abin_eql, abin_neq, abin_lss, abin_leq, abin_gtr, abin_geq, aunary_not, aextract, pv, abin_nil_nil_neq _ _ _ _ _ under74]
          refine m_cond (t := false) (by simp [evalT, FT.get_set, FT.setL, faS_ptr, nilS_ptr, nilS_func, nilS_yield, pickS_bool, ldS_ptr, list_cells, list_ro, partS_none, lenSl_of, lenStr_of, cvInt_of, aminmax_max, aminmax_min, abin_add, abin_sub, abin_mul, abin_eql, abin_neq, abin_lss, abin_leq, abin_gtr, abin_geq, aunary_not, aextract]) (fun h => by cases h) (fun _ => ?_)
          refine m_skip ?_
          simp only
          refine m_seq (m_reg ?_)
          rw [reg35_9]
          refine m_ret ?_
          simp [resM, FT.get_set, FT.setL, faS_ptr, nilS_ptr, nilS_func, nilS_yield, pickS_bool, ldS_ptr, list_cells, list_ro, partS_none, lenSl_of, lenStr_of, cvInt_of, aminmax_max, aminmax_min, abin_add, abin_sub, abin_mul, abin_eql, abin_neq, abin_lss, abin_leq, abin_gtr, abin_geq, aunary_not, aextract, oneOrTuple]
          obtain ⟨_, _, hcc⟩ := hcont
          simp only at hcc
          have := q3 hcut hpos (by omega)
          rw [hcc, ← zeros_one] at this
          exact this
        | some a =>
          simp [FT.get_set, FT.setL, faS_ptr, nilS_ptr, nilS_func, nilS_yield, pickS_bool, ldS_ptr, list_cells, list_ro, partS_none, lenSl_of, lenStr_of, cvInt_of, aminmax_max, aminmax_min, abin_add, abin_sub, abin_mul, abin_eql, abin_neq, abin_lss, abin_leq, abin_gtr, abin_geq, aunary_not, aextract, pv, abin_ptr_nil_neq _ _ _ _ _ _ under74]
          refine m_cond (t := true) (by simp [evalT, FT.get_set, FT.setL, faS_ptr, nilS_ptr, nilS_func, nilS_yield, pickS_bool, ldS_ptr, list_cells, list_ro, partS_none, lenSl_of, lenStr_of, cvInt_of, aminmax_max, aminmax_min, abin_add, abin_sub, abin_mul, abin_eql, abin_neq, abin_lss, abin_leq, abin_gtr, abin_geq, aunary_not, aextract]) (fun _ => ?_) (fun h => by cases h)
          refine m_reg ?_
          rw [reg35_8]
          obtain ⟨hl, hone, hcc⟩ := hcont
          simp only at hcc
          have han : a ≠ S.n := Nat.ne_of_lt (wf _ _ hcc)
          have ha' : (S.fresh (zeros [.int .u8 0] 256) 1).m a = some (.cells c 0) := by rw [fresh_m, if_neg han]; exact hcc
          simp [FT.get_set, FT.setL, faS_ptr, nilS_ptr, nilS_func, nilS_yield, pickS_bool, ldS_ptr, list_cells, list_ro, partS_none, lenSl_of, lenStr_of, cvInt_of, aminmax_max, aminmax_min, abin_add, abin_sub, abin_mul, abin_eql, abin_neq, abin_lss, abin_leq, abin_gtr, abin_geq, aunary_not, aextract, slA_all 256 1 a 0 (by decide)]
          have hcp := cpS_of (S := S.fresh (zeros [.int .u8 0] 256) 1) (sz := 1) (b := S.n) (off := 0) (dlen := 256) (dcap := 256) (xl := 256) (n := 256) (x := .slice (some ⟨a, 0, none⟩) 256 256) (l := zeros [.int .u8 0] 256) (cs := c) (es := 1)
            (by rw [fresh_m, if_pos rfl]) rfl rfl (by decide) (by rw [first_of (list_of ha') (by decide) (by decide) (by omega)]; simp [hl, List.take_of_length_le]) hone (by rw [zeros_len, hl]; decide)
          rw [hcp]
          simp only [Option.some.injEq, Prod.mk.injEq]
          refine ⟨_, _, ⟨rfl, rfl⟩, ?_⟩
          rw [splice_all (by rw [zeros_len, hl]; rfl), set_fresh]
          refine m_seq (m_reg ?_)
          rw [reg35_9]
          refine m_ret ?_
          simp [resM, FT.get_set, FT.setL, faS_ptr, nilS_ptr, nilS_func, nilS_yield, pickS_bool, ldS_ptr, list_cells, list_ro, partS_none, lenSl_of, lenStr_of, cvInt_of, aminmax_max, aminmax_min, abin_add, abin_sub, abin_mul, abin_eql, abin_neq, abin_lss, abin_leq, abin_gtr, abin_geq, aunary_not, aextract, oneOrTuple]
          exact q3 hcut hpos (by omega)
end Go.Proofs.Ytmfmbadfgnhonaa

