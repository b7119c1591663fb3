/-
  The walk through the journal's code: what its functions do to memory, part FmD3. Nothing is asked.
-/
import Derived.Test.YtmfmbadfgnhonaaFmD2
set_option linter.all false
namespace Go.Proofs.Ytmfmbadfgnhonaa
open Go Go.Ag
set_option linter.unusedVariables false
set_option maxRecDepth 100000

structure DK where
  mb : Nat
  nb : Nat
  wb : Nat
  made : List (Option Nat)
  now : List (Option Nat)
  ws : List (Nat × Nat)
  halt : Int
  cut : Bool
def pv : Option Nat → Value
  | none => .pointer none
  | some a => .pointer (some ⟨a, 0, none⟩)
def wv (w : Nat × Nat) : List Value := [.int .i64 w.1, .pointer (some ⟨w.2, 0, none⟩)]
def wsa (wb : Nat) (n : Nat) : Option Addr := if n = 0 then none else some ⟨wb, 0, none⟩
def wsc (n : Nat) : Nat := if n = 0 then 0 else unk
structure IsD (S : MS) (d : Nat) (D : DK) : Prop where
  len : D.now.length = D.made.length
  hd : S.m d = some (.cells (diskL (.slice (some ⟨D.mb, 0, none⟩) D.made.length D.made.length) (.slice (some ⟨D.nb, 0, none⟩) D.made.length D.made.length) (.slice (wsa D.wb D.ws.length) D.ws.length (wsc D.ws.length)) D.halt D.cut) 0)
  hm : S.m D.mb = some (.cells (D.made.map pv) 1)
  hn : S.m D.nb = some (.cells (D.now.map pv) 1)
  hw : D.ws ≠ [] → S.m D.wb = some (.cells (D.ws.flatMap wv) 2)
  mn : D.mb ≠ D.nb
  small : D.made.length ≤ 16384

theorem dl0 (a b c : Value) (h : Int) (k : Bool) : (diskL a b c h k)[0]? = some a := rfl
theorem dl1 (a b c : Value) (h : Int) (k : Bool) : (diskL a b c h k)[1]? = some b := rfl
theorem dl2 (a b c : Value) (h : Int) (k : Bool) : (diskL a b c h k)[2]? = some c := rfl
theorem dl3 (a b c : Value) (h : Int) (k : Bool) : (diskL a b c h k)[3]? = some (.int .i64 h) := rfl
theorem dl4 (a b c : Value) (h : Int) (k : Bool) : (diskL a b c h k)[4]? = some (.bool k) := rfl
theorem dlen (a b c : Value) (h : Int) (k : Bool) : (diskL a b c h k).length = 5 := rfl
theorem ds2 (a b c v : Value) (h : Int) (k : Bool) : (diskL a b c h k).set 2 v = diskL a b v h k := rfl
theorem ds3 (a b c : Value) (h x : Int) (k : Bool) : (diskL a b c h k).set 3 (.int .i64 x) = diskL a b c x k := rfl
theorem ds4 (a b c : Value) (h : Int) (k x : Bool) : (diskL a b c h k).set 4 (.bool x) = diskL a b c h x := rfl

theorem IsD.dm {S : MS} {d : Nat} {D : DK} (h : IsD S d D) : d ≠ D.mb := ne_m h.hd h.hm (by intro e; injection e with _ e; cases e)
theorem IsD.dn {S : MS} {d : Nat} {D : DK} (h : IsD S d D) : d ≠ D.nb := ne_m h.hd h.hn (by intro e; injection e with _ e; cases e)
theorem IsD.dw {S : MS} {d : Nat} {D : DK} (h : IsD S d D) (hw : D.ws ≠ []) : d ≠ D.wb := ne_m h.hd (h.hw hw) (by intro e; injection e with _ e; cases e)
theorem IsD.mw {S : MS} {d : Nat} {D : DK} (h : IsD S d D) (hw : D.ws ≠ []) : D.mb ≠ D.wb := ne_m h.hm (h.hw hw) (by intro e; injection e with _ e; cases e)
theorem IsD.nw {S : MS} {d : Nat} {D : DK} (h : IsD S d D) (hw : D.ws ≠ []) : D.nb ≠ D.wb := ne_m h.hn (h.hw hw) (by intro e; injection e with _ e; cases e)

/-- another memory in which the disk's blocks are as they were -/
theorem IsD.keep {S S' : MS} {d : Nat} {D : DK} (h : IsD S d D) (hs : ∀ x, x = d ∨ x = D.mb ∨ x = D.nb ∨ (D.ws ≠ [] ∧ x = D.wb) → S'.m x = S.m x) : IsD S' d D :=
  ⟨h.len, by rw [hs d (by simp)]; exact h.hd, by rw [hs _ (by simp)]; exact h.hm, by rw [hs _ (by simp)]; exact h.hn, fun hw => by rw [hs _ (.inr (.inr (.inr ⟨hw, rfl⟩)))]; exact h.hw hw, h.mn, h.small⟩

theorem blocksD {S : MS} {d : Nat} {D : DK} (h : IsD S d D) {Q : Value → MS → Prop} (hq : Q (.int .i64 D.made.length) S) : CallM Try.prog O 28 [.pointer (some ⟨d, 0, none⟩)] S Q := by
  refine callM_body (fnIs is28 body28 res28) (O_none (by decide)) (by simp) ?_
  refine m_seq (m_reg ?_)
  rw [reg28_0]
  refine m_seq (m_reg ?_)
  rw [reg28_1]
  simp [FT.get_set, FT.setL, faS_ptr, nilS_ptr, nilS_func, nilS_yield, pickS_bool, ldS_ptr, list_cells, list_ro, partS_none, lenSl_of, lenStr_of, cvInt_of, aminmax_max, aminmax_min, abin_add, abin_sub, abin_mul, abin_eql, abin_neq, abin_lss, abin_leq, abin_gtr, abin_geq, aunary_not, aextract, list_of h.hd, dl0, dl1, dl2, dl3, dl4, dlen, ds2, ds3, ds4]
  refine m_ret ?_
  simp [resM, FT.get_set, oneOrTuple]
  exact hq

def haltD (D : DK) (n : Int) : DK := { D with halt := n, cut := D.cut || n == 0 }
theorem haltsD {S : MS} {d : Nat} {D : DK} (h : IsD S d D) (n : Int) : CallM Try.prog O 16 [.pointer (some ⟨d, 0, none⟩), .int .i64 n] S fun v S' => IsD S' d (haltD D n) ∧ S'.n = S.n ∧ ∀ x, x ≠ d → S'.m x = S.m x := by
  refine callM_body (fnIs is16 body16 res16) (O_none (by decide)) (by simp) ?_
  refine m_seq (m_reg ?_)
  rw [reg16_0]
  simp [FT.get_set, FT.setL, faS_ptr, nilS_ptr, nilS_func, nilS_yield, pickS_bool, ldS_ptr, list_cells, list_ro, partS_none, lenSl_of, lenStr_of, cvInt_of, aminmax_max, aminmax_min, abin_add, abin_sub, abin_mul, abin_eql, abin_neq, abin_lss, abin_leq, abin_gtr, abin_geq, aunary_not, aextract]
  obtain ⟨S1, h1, h2, h3, h4⟩ := st_one (off := 3) (v := .int .i64 n) h.hd (by rw [dlen]; decide) rfl rfl
  rw [ds3] at h2
  rw [h1]
  refine ⟨_, rfl, ?_⟩
  refine m_reg ?_
  rw [reg16_1]
  simp [FT.get_set, FT.setL, faS_ptr, nilS_ptr, nilS_func, nilS_yield, pickS_bool, ldS_ptr, list_cells, list_ro, partS_none, lenSl_of, lenStr_of, cvInt_of, aminmax_max, aminmax_min, abin_add, abin_sub, abin_mul, abin_eql, abin_neq, abin_lss, abin_leq, abin_gtr, abin_geq, aunary_not, aextract, list_of h2, dl0, dl1, dl2, dl3, dl4, dlen, ds2, ds3, ds4]
  have main : ∀ c, ∃ S2, stS 1 S1 (.pointer (some ⟨d, 4, none⟩)) (.bool c) = some S2 ∧ IsD S2 d { D with halt := n, cut := c } ∧ S2.n = S.n ∧ ∀ x, x ≠ d → S2.m x = S.m x := by
    intro c
    obtain ⟨S2, g1, g2, g3, g4⟩ := st_one (off := 4) (v := .bool c) h2 (by rw [dlen]; decide) rfl rfl
    rw [ds4] at g2
    refine ⟨S2, g1, ⟨h.len, g2, ?_, ?_, fun hw => ?_, h.mn, h.small⟩, by rw [g3, h3], fun x hx => by rw [g4 x hx, h4 x hx]⟩
    · rw [g4 _ (Ne.symm h.dm), h4 _ (Ne.symm h.dm)]; exact h.hm
    · rw [g4 _ (Ne.symm h.dn), h4 _ (Ne.symm h.dn)]; exact h.hn
    · rw [g4 _ (Ne.symm (h.dw hw)), h4 _ (Ne.symm (h.dw hw))]; exact h.hw hw
  cases hc : D.cut with
  | true =>
    simp
    obtain ⟨S2, g1, g2, g3, g4⟩ := main true
    rw [g1]
    refine ⟨_, rfl, ?_⟩
    simp [resM]
    exact ⟨by simpa [haltD, hc] using g2, g3, g4⟩
  | false =>
    simp
    obtain ⟨S2, g1, g2, g3, g4⟩ := main (n == 0)
    rw [g1]
    refine ⟨_, rfl, ?_⟩
    simp [resM]
    exact ⟨by simpa [haltD, hc] using g2, g3, g4⟩

abbrev restartD (D : DK) : DK := { D with halt := -1, cut := false }
theorem restartsD {S : MS} {d : Nat} {D : DK} (h : IsD S d D) : CallM Try.prog O 18 [.pointer (some ⟨d, 0, none⟩)] S fun v S' => IsD S' d (restartD D) ∧ S'.n = S.n ∧ ∀ x, x ≠ d → S'.m x = S.m x := by
  refine callM_body (fnIs is18 body18 res18) (O_none (by decide)) (by simp) ?_
  refine m_reg ?_
  rw [reg18_0]
  simp [FT.get_set, FT.setL, faS_ptr, nilS_ptr, nilS_func, nilS_yield, pickS_bool, ldS_ptr, list_cells, list_ro, partS_none, lenSl_of, lenStr_of, cvInt_of, aminmax_max, aminmax_min, abin_add, abin_sub, abin_mul, abin_eql, abin_neq, abin_lss, abin_leq, abin_gtr, abin_geq, aunary_not, aextract]
  obtain ⟨S1, h1, h2, h3, h4⟩ := st_one (off := 3) (v := .int .i64 (-1)) h.hd (by rw [dlen]; decide) rfl rfl
  rw [ds3] at h2
  rw [h1]
  refine ⟨_, rfl, ?_⟩
  obtain ⟨S2, g1, g2, g3, g4⟩ := st_one (off := 4) (v := .bool false) h2 (by rw [dlen]; decide) rfl rfl
  rw [ds4] at g2
  rw [g1]
  refine ⟨_, rfl, ?_⟩
  simp [resM]
  refine ⟨⟨h.len, g2, ?_, ?_, fun hw => ?_, h.mn, h.small⟩, by rw [g3, h3], fun x hx => by rw [g4 x hx, h4 x hx]⟩
  · show S2.m D.mb = _; rw [g4 _ (Ne.symm h.dm), h4 _ (Ne.symm h.dm)]; exact h.hm
  · show S2.m D.nb = _; rw [g4 _ (Ne.symm h.dn), h4 _ (Ne.symm h.dn)]; exact h.hn
  · show S2.m D.wb = _; rw [g4 _ (Ne.symm (h.dw hw)), h4 _ (Ne.symm (h.dw hw))]; exact h.hw hw
end Go.Proofs.Ytmfmbadfgnhonaa

