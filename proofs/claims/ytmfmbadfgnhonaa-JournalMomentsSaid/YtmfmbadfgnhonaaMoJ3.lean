/-
  The walk through the journal's code: what its functions do to memory, part MoJ3. Nothing is asked.
-/
import Derived.Test.YtmfmbadfgnhonaaMoJ2
set_option linter.all false
namespace Go.Proofs.Ytmfmbadfgnhonaa
open Go Go.Ag
set_option linter.unusedVariables false
set_option maxRecDepth 100000

theorem apS_zeros (S : MS) (s : Value) (n : Nat) (hn : n ≤ 100000) : apS true 1 1 [.int .u8 0] S [s, .int .i64 (n : Int)] = apS false 1 1 [.int .u8 0] S [s, .string ⟨(List.replicate n 0).toArray⟩] := by
  have hw : IntKind.i64.wrap (n : Int) = n := wrap_i64 (by omega) (by omega)
  have e1 : appendedM S true 1 1 [.int .u8 0] (.int .i64 (n : Int)) = some (n, bL (List.replicate n 0)) := by
    unfold appendedM
    simp only [if_true, hw]
    rw [if_pos ⟨by omega, by omega, rfl⟩, Int.toNat_natCast, zeros_one]
    simp [bL]
  have e2 : appendedM S false 1 1 [.int .u8 0] (.string ⟨(List.replicate n 0).toArray⟩) = some (n, bL (List.replicate n 0)) := by
    unfold appendedM
    have h1 : lenOfA (.string ⟨(List.replicate n (0 : UInt8)).toArray⟩) = some n := by
      show some (ByteArray.size ⟨(List.replicate n (0 : UInt8)).toArray⟩) = some n
      simp [ByteArray.size]
    simp only [Bool.false_eq_true, if_false, h1, Option.bind_some, first_str]
    simp [bL]
  unfold apS
  simp only [e1, e2]

def headB (half end' : Nat) : List UInt8 := ((num8 2003398244 ++ num8 half) ++ num8 end') ++ List.replicate 232 0
theorem headB_len (h e : Nat) : (headB h e).length = 256 := by simp [headB, num8_len]

theorem first_strB (S : MS) (n : Nat) : lenOfA (.string ⟨(List.replicate n (0 : UInt8)).toArray⟩) = some (List.replicate n (0 : UInt8)).length ∧ firstCellsM S 1 (List.replicate n (0 : UInt8)).length (.string ⟨(List.replicate n (0 : UInt8)).toArray⟩) = some ((List.replicate n (0 : UInt8)).flatMap bF) := by
  refine ⟨?_, ?_⟩
  · show some (ByteArray.size ⟨(List.replicate n (0 : UInt8)).toArray⟩) = _
    simp [ByteArray.size]
  · rw [first_str, bF_flat]
    simp [bL]

theorem head34 {S : MS} (half end' : Nat) (hh : half < 4611686018427387904) (he : end' < 4611686018427387904) {Q : Value → MS → Prop} (hq : ∀ v' S', Old S S' → SlF bF 1 S' S.n v' (headB half end') → Q v' S') : CallM Try.prog O 34 [.int .i64 half, .int .i64 end'] S Q := by
  refine callM_wf fun wf => ?_
  refine callM_body (fnIs is34 body34 res34) (O_none (by decide)) (by simp) ?_
  refine m_seq (m_reg ?_)
  rw [reg34_0]
  refine m_seq (m_reg ?_)
  rw [reg34_1]
  simp (decide := true) only [FT.get_set, FT.setL, faS_ptr, nilS_ptr, nilS_func, nilS_yield, pickS_bool, ldS_ptr, list_cells, list_ro, partS_none, lenSl_of, lenStr_of, cvInt_of, aminmax_max, aminmax_min, abin_add, abin_sub, abin_mul, abin_eql, abin_neq, abin_lss, abin_leq, abin_gtr, abin_geq, aunary_not, aextract, Option.some.injEq, Prod.mk.injEq, Value.bool.injEq, exists_eq_left', exists_and_left, and_assoc, decide_eq_true_eq, decide_eq_false_iff_not, if_true, if_false, Nat.zero_add, Nat.add_zero, Option.bind_some, true_and, and_true, forall_const, true_implies, Bool.not_eq_true, Bool.false_eq_true, false_implies, ite_self, Nat.mul_one, ]
  refine callM_wf_post (number43 2003398244 (by omega) fun S1 n1 f1 c1 wf1 => ?_)
  refine callM_wf_post (number43 half hh fun S2 n2 f2 c2 wf2 => ?_)
  have s1 : SlF bF 1 S2 S.n (.slice (some ⟨S.n, 0, none⟩) 8 8) (num8 2003398244) := (SlF.num c1).keep fun y k hk => f2 y (wf1 y k hk)
  have r2 : RB S2 (.slice (some ⟨S1.n, 0, none⟩) 8 8) (num8 half) := RB.own (SlF.num c2)
  obtain ⟨v3, S3, a1, a2, a3, a4, a5⟩ := s1.app2 (bytes := 1) (z := [.int .u8 0]) bF_len bF_one (by decide) (x := .slice (some ⟨S1.n, 0, none⟩) 8 8) (new := num8 half) wf2 (by omega) r2.lenA r2.flat (by rw [num8_len, num8_len]; omega) (by rw [num8_len, num8_len]; omega)
  simp (decide := true) only [FT.get_set, FT.setL, faS_ptr, nilS_ptr, nilS_func, nilS_yield, pickS_bool, ldS_ptr, list_cells, list_ro, partS_none, lenSl_of, lenStr_of, cvInt_of, aminmax_max, aminmax_min, abin_add, abin_sub, abin_mul, abin_eql, abin_neq, abin_lss, abin_leq, abin_gtr, abin_geq, aunary_not, aextract, Option.some.injEq, Prod.mk.injEq, Value.bool.injEq, exists_eq_left', exists_and_left, and_assoc, decide_eq_true_eq, decide_eq_false_iff_not, if_true, if_false, Nat.zero_add, Nat.add_zero, Option.bind_some, true_and, and_true, forall_const, true_implies, Bool.not_eq_true, Bool.false_eq_true, false_implies, ite_self, Nat.mul_one, a1]
  refine callM_wf fun wf3 => callM_wf_post (number43 end' he fun S4 n4 f4 c4 wf4 => ?_)
  have s3 : SlF bF 1 S4 S.n v3 (num8 2003398244 ++ num8 half) := a2.keep1 fun y k hy hk => f4 y (wf3 y k hk)
  have r4 : RB S4 (.slice (some ⟨S3.n, 0, none⟩) 8 8) (num8 end') := RB.own (SlF.num c4)
  obtain ⟨v5, S5, b1, b2, b3, b4, b5⟩ := s3.app2 (bytes := 1) (z := [.int .u8 0]) bF_len bF_one (by decide) (x := .slice (some ⟨S3.n, 0, none⟩) 8 8) (new := num8 end') wf4 (by omega) r4.lenA r4.flat (by rw [List.length_append, num8_len, num8_len, num8_len]; omega) (by rw [List.length_append, num8_len, num8_len, num8_len]; omega)
  simp (decide := true) only [FT.get_set, FT.setL, faS_ptr, nilS_ptr, nilS_func, nilS_yield, pickS_bool, ldS_ptr, list_cells, list_ro, partS_none, lenSl_of, lenStr_of, cvInt_of, aminmax_max, aminmax_min, abin_add, abin_sub, abin_mul, abin_eql, abin_neq, abin_lss, abin_leq, abin_gtr, abin_geq, aunary_not, aextract, Option.some.injEq, Prod.mk.injEq, Value.bool.injEq, exists_eq_left', exists_and_left, and_assoc, decide_eq_true_eq, decide_eq_false_iff_not, if_true, if_false, Nat.zero_add, Nat.add_zero, Option.bind_some, true_and, and_true, forall_const, true_implies, Bool.not_eq_true, Bool.false_eq_true, false_implies, ite_self, Nat.mul_one, b1]
  refine m_wf fun wf5 => m_seq (m_reg ?_)
  rw [reg34_2]
  have hl5 : ((num8 2003398244 ++ num8 half) ++ num8 end').length = 24 := by simp [num8_len]
  have hlen := b2.lenSl
  rw [hl5] at hlen
  obtain ⟨g1, g2⟩ := first_strB S5 232
  obtain ⟨v6, S6, d1, d2, d3, d4, d5⟩ := b2.app2 (bytes := 1) (z := [.int .u8 0]) bF_len bF_one (by decide) (x := .string ⟨(List.replicate 232 (0 : UInt8)).toArray⟩) (new := List.replicate 232 0) wf5 (by omega) g1 g2 (by rw [hl5, List.length_replicate]; omega) (by rw [hl5, List.length_replicate]; omega)
  have hz := apS_zeros S5 v5 232 (by omega)
  rw [d1] at hz
  have hw : IntKind.i64.wrap ((256 : Int) - ((24 : Nat) : Int)) = ((232 : Nat) : Int) := by rw [wrap_i64 (by omega) (by omega)]; rfl
  simp (decide := true) only [FT.get_set, FT.setL, faS_ptr, nilS_ptr, nilS_func, nilS_yield, pickS_bool, ldS_ptr, list_cells, list_ro, partS_none, lenSl_of, lenStr_of, cvInt_of, aminmax_max, aminmax_min, abin_add, abin_sub, abin_mul, abin_eql, abin_neq, abin_lss, abin_leq, abin_gtr, abin_geq, aunary_not, aextract, Option.some.injEq, Prod.mk.injEq, Value.bool.injEq, exists_eq_left', exists_and_left, and_assoc, decide_eq_true_eq, decide_eq_false_iff_not, if_true, if_false, Nat.zero_add, Nat.add_zero, Option.bind_some, true_and, and_true, forall_const, true_implies, Bool.not_eq_true, Bool.false_eq_true, false_implies, ite_self, Nat.mul_one, hlen, hw, hz]
  refine m_ret ?_
  simp [resM, FT.get_set, FT.setL, faS_ptr, nilS_ptr, nilS_func, nilS_yield, pickS_bool, ldS_ptr, list_cells, list_ro, partS_none, lenSl_of, lenStr_of, cvInt_of, aminmax_max, aminmax_min, abin_add, abin_sub, abin_mul, abin_eql, abin_neq, abin_lss, abin_leq, abin_gtr, abin_geq, aunary_not, aextract, oneOrTuple]
  refine hq _ _ ⟨by omega, fun y hy => ?_⟩ d2
  rw [d4 y (by omega) (b2.av hy), b4 y (by omega) (s3.av hy), f4 y (by omega), a4 y (by omega) (s1.av hy), f2 y (by omega), f1 y hy]
end Go.Proofs.Ytmfmbadfgnhonaa
namespace Go.Proofs.Ytmfmbadfgnhonaa
open Go Go.Ag
set_option linter.unusedVariables false
set_option maxRecDepth 100000

/-- what a disk's blocks have in them -/
def Holds (S : MS) (D : DK) (c : Nat → List UInt8) : Prop := ∀ i, i < D.made.length → (c i).length = 256 ∧ ∃ o, D.now[i]? = some o ∧ Cont S o (bL (c i))
theorem Holds.old {S S' : MS} {D : DK} {c : Nat → List UInt8} (h : Holds S D c) (wf : S.WF) (f : Old S S') : Holds S' D c := fun i hi => by
  obtain ⟨h1, o, h2, h3⟩ := h i hi
  refine ⟨h1, o, h2, h3.keep fun a ha => ?_⟩
  subst ha
  exact f.2 a (wf _ _ h3.2.2)

theorem readP {S : MS} {d : Nat} {D : DK} {c : Nat → List UInt8} (h : IsD S d D) (hc : Holds S D c) {i : Nat} (hi : i < D.made.length) {Q : Value → MS → Prop}
    (q1 : D.cut = true → Q (.tuple #[.slice none 0 0, .int .i64 12]) S)
    (q2 : D.cut = false → Q (.tuple #[.slice (some ⟨S.n, 0, none⟩) 256 256, .int .i64 0]) (S.fresh (bL (c i)) 1)) :
    CallM Try.prog O 35 [.pointer (some ⟨d, 0, none⟩), .int .i64 i] S Q := by
  obtain ⟨h1, o, h2, h3⟩ := hc i hi
  refine readD h (i : Int) (c := bL (c i)) (fun o' _ ho' => ?_) q1 (fun _ hno => absurd ⟨by omega, by omega⟩ hno) (fun hcut _ _ => q2 hcut)
  rw [Int.toNat_natCast, h2] at ho'
  cases ho'; exact h3

end Go.Proofs.Ytmfmbadfgnhonaa

