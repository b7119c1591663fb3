/-
  The walk through LowerLoops: what its functions do to memory, part Vn1. Nothing is asked.
-/
import Derived.Test.YtfgbeecipklkdaaGreatProg
import Derived.Test.YtfgbeecipklkdaaGreatVAg5
import Derived.KernelRfl
set_option linter.all false
namespace Go.Proofs.YtfgbeecipklkdaaGreat
open Go Go.Ag
set_option linter.unusedVariables false
set_option maxRecDepth 100000
variable {O : Hook} {T : FT} {S : MS} {Q : FT → MS → Prop}
noncomputable def ro (f id : Nat) : Array Oper := roP Tryz.prog f id
/-! ### 10: windlass/windlassref12.Num -/
theorem body10 : (Tryz.prog.funcs[10]?).bind (·.body) = some (.seq (.region 0 (ro 10 0) false) (.seq (.region 1 (ro 10 1) false) .ret)) := by kernel_rfl
theorem res10 : (Tryz.prog.funcs[10]?).map (·.results.toList) = some [.cell 2 47] := by kernel_rfl
theorem is10 : fnIsB Tryz.prog 10 5 = true := by kernel_rfl
theorem reg10_0 : mOps Tryz.prog O 5 (ro 10 0).toList (ro 10 0).toList [] T S Q =
  (Q (T.set (ptrTo S.n) 2) (S.fresh [.int .i64 0, .int .i64 0, .string ⟨⟨[]⟩⟩, .int .i64 0, .slice none 0 0] 0)) := by kernel_rfl
theorem reg10_1 : mOps Tryz.prog O 5 (ro 10 1).toList (ro 10 1).toList [] T S Q =
  (∃ p1, bdS (fun i => [(0, 1), (1, 1), (2, 1), (3, 1), (4, 1)][i]?) [.int .i64 0, .int .i64 0, .string ⟨⟨[]⟩⟩, .int .i64 0, .slice none 0 0] [(0, (.int .i64 1)), (1, (T.get 0))] = some p1 ∧ ∃ S2, stS 5 S (T.get 2) p1 = some S2 ∧ Q ((T.set (T.get 0) 3).set p1 4) S2) := by kernel_rfl
/-! ### 157: windlass/windlassref12.Yes -/
theorem body157 : (Tryz.prog.funcs[157]?).bind (·.body) = some (.seq (.region 0 (ro 157 0) false) (.seq (.seq (.region 1 (ro 157 1) false) (.cond (.tmp 3) (.seq (.region 2 (ro 157 2) false) .ret) .skip)) (.seq (.region 3 (ro 157 3) false) .ret))) := by kernel_rfl
theorem res157 : (Tryz.prog.funcs[157]?).map (·.results.toList) = some [.cell 2 47] := by kernel_rfl
theorem is157 : fnIsB Tryz.prog 157 6 = true := by kernel_rfl
theorem reg157_0 : mOps Tryz.prog O 6 (ro 157 0).toList (ro 157 0).toList [] T S Q =
  (Q (T.set (ptrTo S.n) 2) (S.fresh [.int .i64 0, .int .i64 0, .string ⟨⟨[]⟩⟩, .int .i64 0, .slice none 0 0] 0)) := by kernel_rfl
theorem reg157_1 : mOps Tryz.prog O 6 (ro 157 1).toList (ro 157 1).toList [] T S Q =
  (Q (T.set (T.get 0) 3) S) := by kernel_rfl
theorem reg157_2 : mOps Tryz.prog O 6 (ro 157 2).toList (ro 157 2).toList [] T S Q =
  (∃ p0, bdS (fun i => [(0, 1), (1, 1), (2, 1), (3, 1), (4, 1)][i]?) [.int .i64 0, .int .i64 0, .string ⟨⟨[]⟩⟩, .int .i64 0, .slice none 0 0] [(0, (.int .i64 3)), (1, (.int .i64 1))] = some p0 ∧ ∃ S1, stS 5 S (T.get 2) p0 = some S1 ∧ Q (T.set p0 4) S1) := by kernel_rfl
theorem reg157_3 : mOps Tryz.prog O 6 (ro 157 3).toList (ro 157 3).toList [] T S Q =
  (∃ p0, bdS (fun i => [(0, 1), (1, 1), (2, 1), (3, 1), (4, 1)][i]?) [.int .i64 0, .int .i64 0, .string ⟨⟨[]⟩⟩, .int .i64 0, .slice none 0 0] [(0, (.int .i64 3))] = some p0 ∧ ∃ S1, stS 5 S (T.get 2) p0 = some S1 ∧ Q (T.set p0 5) S1) := by kernel_rfl
/-! ### 171: windlass/windlassref3.order -/
theorem body171 : (Tryz.prog.funcs[171]?).bind (·.body) = some (.seq (.region 0 (ro 171 0) false) (.seq (.block 0 (.seq (.region 1 (ro 171 1) false) (.cond (.tmp 5) (.seq (.region 2 (ro 171 2) false) .ret) (.seq (.region 3 (ro 171 3) false) (.cond (.tmp 7) (.seq (.region 4 (ro 171 4) false) .ret) .skip))))) (.seq (.region 5 (ro 171 5) false) .ret))) := by kernel_rfl
theorem res171 : (Tryz.prog.funcs[171]?).map (·.results.toList) = some [.tmp 4] := by kernel_rfl
theorem is171 : fnIsB Tryz.prog 171 9 = true := by kernel_rfl
theorem reg171_0 : mOps Tryz.prog O 9 (ro 171 0).toList (ro 171 0).toList [] T S Q =
  (Q (T.set (.int .i64 0) 4) S) := by kernel_rfl
theorem reg171_1 : mOps Tryz.prog O 9 (ro 171 1).toList (ro 171 1).toList [] T S Q =
  (Q ((T.set (T.get 0) 6).set (T.get 0) 5) S) := by kernel_rfl
theorem reg171_2 : mOps Tryz.prog O 9 (ro 171 2).toList (ro 171 2).toList [] T S Q =
  (Q (T.set (.int .i64 (-1)) 4) S) := by kernel_rfl
theorem reg171_3 : mOps Tryz.prog O 9 (ro 171 3).toList (ro 171 3).toList [] T S Q =
  (Q ((T.set (T.get 1) 8).set (T.get 1) 7) S) := by kernel_rfl
theorem reg171_4 : mOps Tryz.prog O 9 (ro 171 4).toList (ro 171 4).toList [] T S Q =
  (Q (T.set (.int .i64 1) 4) S) := by kernel_rfl
theorem reg171_5 : mOps Tryz.prog O 9 (ro 171 5).toList (ro 171 5).toList [] T S Q =
  (Q (T.set (.int .i64 0) 4) S) := by kernel_rfl
/-! ### 83: windlass/windlassref3.Compare -/
noncomputable def blk83_1 : Code := .block 1 (.region 11 (ro 83 11) true)
noncomputable def blk83_0 : Code := .block 0 (.loop (.seq (.seq (.region 9 (ro 83 9) false) (.cond (.tmp 72) .skip (.exit 0))) (.seq blk83_1 (.region 10 (ro 83 10) false))))
theorem body83 : (Tryz.prog.funcs[83]?).bind (·.body) = some (.seq (.region 0 (ro 83 0) false) (.seq (.region 1 (ro 83 1) false) (.seq (.seq (.region 2 (ro 83 2) false) (.cond (.tmp 19) (.region 3 (ro 83 3) false) .skip)) (.seq (.seq (.region 4 (ro 83 4) false) (.cond (.tmp 32) (.region 5 (ro 83 5) false) .skip)) (.seq (.seq (.region 6 (ro 83 6) false) (.cond (.tmp 45) (.region 7 (ro 83 7) false) .skip)) (.seq (.seq (.region 8 (ro 83 8) false) blk83_0) (.seq (.seq (.region 12 (ro 83 12) false) (.cond (.tmp 87) (.region 13 (ro 83 13) false) .skip)) (.seq (.region 14 (ro 83 14) false) .ret)))))))) := by kernel_rfl
theorem res83 : (Tryz.prog.funcs[83]?).map (·.results.toList) = some [.tmp 4] := by kernel_rfl
theorem is83 : fnIsB Tryz.prog 83 104 = true := by kernel_rfl
theorem reg83_0 : mOps Tryz.prog O 104 (ro 83 0).toList (ro 83 0).toList [] T S Q =
  (Q (((T.set (ptrTo S.n) 2).set (ptrTo (S.fresh (Value.cells (T.get 0)).toList 0).n) 3).set (.int .i64 0) 4) ((S.fresh (Value.cells (T.get 0)).toList 0).fresh (Value.cells (T.get 1)).toList 0)) := by kernel_rfl
theorem reg83_1 : mOps Tryz.prog O 104 (ro 83 1).toList (ro 83 1).toList [] T S Q =
  (∃ p0, faS 0 (T.get 2) = some p0 ∧ ∃ p1, ldS none S p0 = some p1 ∧ ∃ p2, faS 0 (T.get 3) = some p2 ∧ ∃ p3, ldS none S p2 = some p3 ∧ ∃ p4, abin Tryz.prog .lss 3 (.tmp 8) (.tmp 10) p1 p3 = some p4 ∧ ∃ p5, faS 0 (T.get 2) = some p5 ∧ ∃ p6, ldS none S p5 = some p6 ∧ ∃ p7, faS 0 (T.get 3) = some p7 ∧ ∃ p8, ldS none S p7 = some p8 ∧ ∃ p9, abin Tryz.prog .gtr 3 (.tmp 13) (.tmp 15) p6 p8 = some p9 ∧ CallM Tryz.prog O 171 [p4, p9] S fun p10 S10 => Q ((((((((((((T.set p0 7).set p1 8).set p2 9).set p3 10).set p4 11).set p5 12).set p6 13).set p7 14).set p8 15).set p9 16).set p10 17).set p10 5) S10) := by kernel_rfl
theorem reg83_2 : mOps Tryz.prog O 104 (ro 83 2).toList (ro 83 2).toList [] T S Q =
  (∃ p1, abin Tryz.prog .eql 3 (.tmp 18) (.const (.int .i64 0)) (T.get 5) (.int .i64 0) = some p1 ∧ Q ((T.set (T.get 5) 18).set p1 19) S) := by kernel_rfl
theorem reg83_3 : mOps Tryz.prog O 104 (ro 83 3).toList (ro 83 3).toList [] T S Q =
  (∃ p0, faS 1 (T.get 2) = some p0 ∧ ∃ p1, ldS none S p0 = some p1 ∧ ∃ p2, faS 1 (T.get 3) = some p2 ∧ ∃ p3, ldS none S p2 = some p3 ∧ ∃ p4, abin Tryz.prog .lss 2 (.tmp 21) (.tmp 23) p1 p3 = some p4 ∧ ∃ p5, faS 1 (T.get 2) = some p5 ∧ ∃ p6, ldS none S p5 = some p6 ∧ ∃ p7, faS 1 (T.get 3) = some p7 ∧ ∃ p8, ldS none S p7 = some p8 ∧ ∃ p9, abin Tryz.prog .gtr 2 (.tmp 26) (.tmp 28) p6 p8 = some p9 ∧ CallM Tryz.prog O 171 [p4, p9] S fun p10 S10 => Q ((((((((((((T.set p0 20).set p1 21).set p2 22).set p3 23).set p4 24).set p5 25).set p6 26).set p7 27).set p8 28).set p9 29).set p10 30).set p10 5) S10) := by kernel_rfl
theorem reg83_4 : mOps Tryz.prog O 104 (ro 83 4).toList (ro 83 4).toList [] T S Q =
  (∃ p1, abin Tryz.prog .eql 3 (.tmp 31) (.const (.int .i64 0)) (T.get 5) (.int .i64 0) = some p1 ∧ Q ((T.set (T.get 5) 31).set p1 32) S) := by kernel_rfl
theorem reg83_5 : mOps Tryz.prog O 104 (ro 83 5).toList (ro 83 5).toList [] T S Q =
  (∃ p0, faS 2 (T.get 2) = some p0 ∧ ∃ p1, ldS none S p0 = some p1 ∧ ∃ p2, faS 2 (T.get 3) = some p2 ∧ ∃ p3, ldS none S p2 = some p3 ∧ ∃ p4, abin Tryz.prog .lss 9 (.tmp 34) (.tmp 36) p1 p3 = some p4 ∧ ∃ p5, faS 2 (T.get 2) = some p5 ∧ ∃ p6, ldS none S p5 = some p6 ∧ ∃ p7, faS 2 (T.get 3) = some p7 ∧ ∃ p8, ldS none S p7 = some p8 ∧ ∃ p9, abin Tryz.prog .gtr 9 (.tmp 39) (.tmp 41) p6 p8 = some p9 ∧ CallM Tryz.prog O 171 [p4, p9] S fun p10 S10 => Q ((((((((((((T.set p0 33).set p1 34).set p2 35).set p3 36).set p4 37).set p5 38).set p6 39).set p7 40).set p8 41).set p9 42).set p10 43).set p10 5) S10) := by kernel_rfl
theorem reg83_6 : mOps Tryz.prog O 104 (ro 83 6).toList (ro 83 6).toList [] T S Q =
  (∃ p1, abin Tryz.prog .eql 3 (.tmp 44) (.const (.int .i64 0)) (T.get 5) (.int .i64 0) = some p1 ∧ Q ((T.set (T.get 5) 44).set p1 45) S) := by kernel_rfl
theorem reg83_7 : mOps Tryz.prog O 104 (ro 83 7).toList (ro 83 7).toList [] T S Q =
  (∃ p0, faS 3 (T.get 2) = some p0 ∧ ∃ p1, ldS none S p0 = some p1 ∧ ∃ p2, faS 3 (T.get 3) = some p2 ∧ ∃ p3, ldS none S p2 = some p3 ∧ ∃ p4, abin Tryz.prog .lss 3 (.tmp 47) (.tmp 49) p1 p3 = some p4 ∧ ∃ p5, faS 3 (T.get 2) = some p5 ∧ ∃ p6, ldS none S p5 = some p6 ∧ ∃ p7, faS 3 (T.get 3) = some p7 ∧ ∃ p8, ldS none S p7 = some p8 ∧ ∃ p9, abin Tryz.prog .gtr 3 (.tmp 52) (.tmp 54) p6 p8 = some p9 ∧ CallM Tryz.prog O 171 [p4, p9] S fun p10 S10 => Q ((((((((((((T.set p0 46).set p1 47).set p2 48).set p3 49).set p4 50).set p5 51).set p6 52).set p7 53).set p8 54).set p9 55).set p10 56).set p10 5) S10) := by kernel_rfl
theorem reg83_8 : mOps Tryz.prog O 104 (ro 83 8).toList (ro 83 8).toList [] T S Q =
  (Q (T.set (.int .i64 0) 6) S) := by kernel_rfl
theorem reg83_9 : mOps Tryz.prog O 104 (ro 83 9).toList (ro 83 9).toList [] T S Q =
  (∃ p1, faS 4 (T.get 2) = some p1 ∧ ∃ p2, ldS none S p1 = some p2 ∧ ∃ p3, lenSl p2 = some p3 ∧ ∃ p4, abin Tryz.prog .lss 3 (.tmp 57) (.tmp 60) (T.get 6) p3 = some p4 ∧ ∃ b5, p4 = .bool b5 ∧
        (b5 = true → ∃ p7, faS 4 (T.get 3) = some p7 ∧ ∃ p8, ldS none S p7 = some p8 ∧ ∃ p9, lenSl p8 = some p9 ∧ ∃ p10, abin Tryz.prog .lss 3 (.tmp 63) (.tmp 66) (T.get 6) p9 = some p10 ∧ ∃ p11, pickS p4 p10 (.bool false) = some p11 ∧ ∃ b12, p11 = .bool b12 ∧
               (b12 = true → ∃ p14, abin Tryz.prog .eql 3 (.tmp 70) (.const (.int .i64 0)) (T.get 5) (.int .i64 0) = some p14 ∧ ∃ p15, pickS p11 p14 (.bool false) = some p15 ∧ Q ((((((((((((((((T.set (T.get 6) 57).set p1 58).set p2 59).set p3 60).set p4 61).set p4 62).set (T.get 6) 63).set p7 64).set p8 65).set p9 66).set p10 67).set p11 68).set p11 69).set (T.get 5) 70).set p14 71).set p15 72) S) ∧
               (b12 = false → ∃ p15, pickS p11 undef (.bool false) = some p15 ∧ Q ((((((((((((((((T.set (T.get 6) 57).set p1 58).set p2 59).set p3 60).set p4 61).set p4 62).set (T.get 6) 63).set p7 64).set p8 65).set p9 66).set p10 67).set p11 68).set p11 69).set undef 70).set undef 71).set p15 72) S)) ∧
        (b5 = false → ∃ p11, pickS p4 undef (.bool false) = some p11 ∧ ∃ b12, p11 = .bool b12 ∧
               (b12 = true → ∃ p14, abin Tryz.prog .eql 3 (.tmp 70) (.const (.int .i64 0)) (T.get 5) (.int .i64 0) = some p14 ∧ ∃ p15, pickS p11 p14 (.bool false) = some p15 ∧ Q ((((((((((((((((T.set (T.get 6) 57).set p1 58).set p2 59).set p3 60).set p4 61).set p4 62).set undef 63).set undef 64).set undef 65).set undef 66).set undef 67).set p11 68).set p11 69).set (T.get 5) 70).set p14 71).set p15 72) S) ∧
               (b12 = false → ∃ p15, pickS p11 undef (.bool false) = some p15 ∧ Q ((((((((((((((((T.set (T.get 6) 57).set p1 58).set p2 59).set p3 60).set p4 61).set p4 62).set undef 63).set undef 64).set undef 65).set undef 66).set undef 67).set p11 68).set p11 69).set undef 70).set undef 71).set p15 72) S))) := by kernel_rfl
theorem reg83_12 : mOps Tryz.prog O 104 (ro 83 12).toList (ro 83 12).toList [] T S Q =
  (∃ p1, abin Tryz.prog .eql 3 (.tmp 86) (.const (.int .i64 0)) (T.get 5) (.int .i64 0) = some p1 ∧ Q ((T.set (T.get 5) 86).set p1 87) S) := by kernel_rfl
theorem reg83_13 : mOps Tryz.prog O 104 (ro 83 13).toList (ro 83 13).toList [] T S Q =
  (∃ p0, faS 4 (T.get 2) = some p0 ∧ ∃ p1, ldS none S p0 = some p1 ∧ ∃ p2, lenSl p1 = some p2 ∧ ∃ p3, faS 4 (T.get 3) = some p3 ∧ ∃ p4, ldS none S p3 = some p4 ∧ ∃ p5, lenSl p4 = some p5 ∧ ∃ p6, abin Tryz.prog .lss 3 (.tmp 90) (.tmp 93) p2 p5 = some p6 ∧ ∃ p7, faS 4 (T.get 2) = some p7 ∧ ∃ p8, ldS none S p7 = some p8 ∧ ∃ p9, lenSl p8 = some p9 ∧ ∃ p10, faS 4 (T.get 3) = some p10 ∧ ∃ p11, ldS none S p10 = some p11 ∧ ∃ p12, lenSl p11 = some p12 ∧ ∃ p13, abin Tryz.prog .gtr 3 (.tmp 97) (.tmp 100) p9 p12 = some p13 ∧ CallM Tryz.prog O 171 [p6, p13] S fun p14 S14 => Q ((((((((((((((((T.set p0 88).set p1 89).set p2 90).set p3 91).set p4 92).set p5 93).set p6 94).set p7 95).set p8 96).set p9 97).set p10 98).set p11 99).set p12 100).set p13 101).set p14 102).set p14 5) S14) := by kernel_rfl
theorem reg83_14 : mOps Tryz.prog O 104 (ro 83 14).toList (ro 83 14).toList [] T S Q =
  (Q ((T.set (T.get 5) 103).set (T.get 5) 4) S) := by kernel_rfl
/-! ### 34: windlass/windlassref3.Same -/
theorem body34 : (Tryz.prog.funcs[34]?).bind (·.body) = some (.seq (.region 0 (ro 34 0) false) (.seq (.region 1 (ro 34 1) false) .ret)) := by kernel_rfl
theorem res34 : (Tryz.prog.funcs[34]?).map (·.results.toList) = some [.tmp 4] := by kernel_rfl
theorem is34 : fnIsB Tryz.prog 34 9 = true := by kernel_rfl
theorem reg34_0 : mOps Tryz.prog O 9 (ro 34 0).toList (ro 34 0).toList [] T S Q =
  (Q (((T.set (ptrTo S.n) 2).set (ptrTo (S.fresh (Value.cells (T.get 0)).toList 0).n) 3).set (.bool false) 4) ((S.fresh (Value.cells (T.get 0)).toList 0).fresh (Value.cells (T.get 1)).toList 0)) := by kernel_rfl
theorem reg34_1 : mOps Tryz.prog O 9 (ro 34 1).toList (ro 34 1).toList [] T S Q =
  (∃ p0, ldS (some 5) S (T.get 2) = some p0 ∧ ∃ p1, ldS (some 5) S (T.get 3) = some p1 ∧ CallM Tryz.prog O 83 [p0, p1] S fun p2 S2 => ∃ p3, abin Tryz.prog .eql 3 (.tmp 7) (.const (.int .i64 0)) p2 (.int .i64 0) = some p3 ∧ Q (((((T.set p0 5).set p1 6).set p2 7).set p3 8).set p3 4) S2) := by kernel_rfl
/-! ### 243: windlass/windlassref12.Reckon -/
noncomputable def blk243_0 : Code := .block 0 (.seq (.region 3 (ro 243 3) false) (.cond (.tmp 20) (.seq (.region 4 (ro 243 4) false) .ret) (.seq (.region 5 (ro 243 5) false) (.cond (.tmp 26) (.seq (.region 6 (ro 243 6) false) .ret) (.seq (.region 7 (ro 243 7) false) (.cond (.tmp 32) (.seq (.region 8 (ro 243 8) false) .ret) (.seq (.region 9 (ro 243 9) false) (.cond (.tmp 38) (.seq (.region 10 (ro 243 10) false) (.seq (.seq (.region 11 (ro 243 11) false) (.cond (.tmp 65) (.seq (.region 12 (ro 243 12) false) .ret) .skip)) (.seq (.region 13 (ro 243 13) false) .ret))) (.seq (.region 14 (ro 243 14) false) (.cond (.tmp 67) (.seq (.region 15 (ro 243 15) false) (.seq (.seq (.region 16 (ro 243 16) false) (.cond (.tmp 94) (.seq (.region 17 (ro 243 17) false) .ret) .skip)) (.seq (.region 18 (ro 243 18) false) .ret))) (.seq (.region 19 (ro 243 19) false) (.cond (.tmp 96) (.seq (.region 20 (ro 243 20) false) (.seq (.seq (.region 21 (ro 243 21) false) (.cond (.tmp 104) (.region 22 (ro 243 22) false) .skip)) (.seq (.seq (.region 23 (ro 243 23) false) (.cond (.tmp 108) (.region 24 (ro 243 24) false) .skip)) (.seq (.region 25 (ro 243 25) false) (.seq (.seq (.region 26 (ro 243 26) false) (.cond (.tmp 133) (.seq (.region 27 (ro 243 27) false) .ret) .skip)) (.seq (.seq (.region 28 (ro 243 28) false) (.cond (.tmp 134) (.seq (.region 29 (ro 243 29) false) .ret) .skip)) (.seq (.region 30 (ro 243 30) false) .ret))))))) .skip))))))))))))
theorem body243 : (Tryz.prog.funcs[243]?).bind (·.body) = some (.seq (.region 0 (ro 243 0) false) (.seq (.region 1 (ro 243 1) false) (.seq (.seq (.region 2 (ro 243 2) false) blk243_0) (.seq (.seq (.region 31 (ro 243 31) false) (.cond (.tmp 141) (.seq (.region 32 (ro 243 32) false) .ret) .skip)) (.seq (.seq (.region 33 (ro 243 33) false) (.cond (.tmp 143) (.seq (.seq (.region 34 (ro 243 34) false) (.cond (.tmp 145) (.seq (.region 35 (ro 243 35) false) .ret) .skip)) (.seq (.region 36 (ro 243 36) false) .ret)) .skip)) (.seq (.seq (.region 37 (ro 243 37) false) (.cond (.tmp 151) (.seq (.region 38 (ro 243 38) false) .ret) .skip)) (.seq (.region 39 (ro 243 39) false) .ret))))))) := by kernel_rfl
theorem res243 : (Tryz.prog.funcs[243]?).map (·.results.toList) = some [.tmp 6, .tmp 7] := by kernel_rfl
theorem is243 : fnIsB Tryz.prog 243 158 = true := by kernel_rfl
theorem reg243_0 : mOps Tryz.prog O 158 (ro 243 0).toList (ro 243 0).toList [] T S Q =
  (Q ((T.set (.int .i64 0) 6).set (.int .i64 0) 7) S) := by kernel_rfl
theorem reg243_1 : mOps Tryz.prog O 158 (ro 243 1).toList (ro 243 1).toList [] T S Q =
  (∃ p1, cvInt .u64 (T.get 1) = some p1 ∧ ∃ p3, cvInt .u64 (T.get 2) = some p3 ∧ Q ((((((T.set (T.get 1) 15).set p1 16).set (T.get 2) 17).set p3 18).set p1 8).set p3 9) S) := by kernel_rfl
theorem reg243_2 : mOps Tryz.prog O 158 (ro 243 2).toList (ro 243 2).toList [] T S Q =
  (Q (T.set (T.get 0) 19) S) := by kernel_rfl
theorem reg243_3 : mOps Tryz.prog O 158 (ro 243 3).toList (ro 243 3).toList [] T S Q =
  (∃ p0, abin Tryz.prog .eql 3 (.tmp 19) (.const (.int .i64 8)) (T.get 19) (.int .i64 8) = some p0 ∧ Q ((T.set p0 21).set p0 20) S) := by kernel_rfl
theorem reg243_5 : mOps Tryz.prog O 158 (ro 243 5).toList (ro 243 5).toList [] T S Q =
  (∃ p0, abin Tryz.prog .eql 3 (.tmp 19) (.const (.int .i64 9)) (T.get 19) (.int .i64 9) = some p0 ∧ Q ((T.set p0 27).set p0 26) S) := by kernel_rfl
theorem reg243_7 : mOps Tryz.prog O 158 (ro 243 7).toList (ro 243 7).toList [] T S Q =
  (∃ p0, abin Tryz.prog .eql 3 (.tmp 19) (.const (.int .i64 10)) (T.get 19) (.int .i64 10) = some p0 ∧ Q ((T.set p0 33).set p0 32) S) := by kernel_rfl
theorem reg243_9 : mOps Tryz.prog O 158 (ro 243 9).toList (ro 243 9).toList [] T S Q =
  (∃ p0, abin Tryz.prog .eql 3 (.tmp 19) (.const (.int .i64 5)) (T.get 19) (.int .i64 5) = some p0 ∧ Q ((T.set p0 39).set p0 38) S) := by kernel_rfl
theorem reg243_10 : mOps Tryz.prog O 158 (ro 243 10).toList (ro 243 10).toList [] T S Q =
  (∃ p2, abin Tryz.prog .add 125 (.tmp 40) (.tmp 41) (T.get 8) (T.get 9) = some p2 ∧ ∃ p3, cvInt .i64 p2 = some p3 ∧ Q (((((T.set (T.get 8) 40).set (T.get 9) 41).set p2 42).set p3 43).set p3 10) S) := by kernel_rfl
theorem reg243_11 : mOps2 Tryz.prog O 158 (ro 243 11).toList (ro 243 11).toList 0 [] [] T S Q =
  (∃ p1, abin Tryz.prog .geq 2 (.tmp 44) (.const (.int .i64 0)) (T.get 1) (.int .i64 0) = some p1 ∧ ∃ b2, p1 = .bool b2 ∧
     (b2 = true → ∃ p4, abin Tryz.prog .geq 2 (.tmp 47) (.const (.int .i64 0)) (T.get 2) (.int .i64 0) = some p4 ∧ ∃ p5, pickS p1 p4 (.bool false) = some p5 ∧ ∃ b6, p5 = .bool b6 ∧
         (b6 = true → ∃ p8, abin Tryz.prog .lss 2 (.tmp 51) (.const (.int .i64 0)) (T.get 10) (.int .i64 0) = some p8 ∧ ∃ p9, pickS p5 p8 (.bool false) = some p9 ∧ ∃ b10, p9 = .bool b10 ∧
             (b10 = true → ∃ p21, pickS p9 (.bool true) undef = some p21 ∧ Q ((((((((((((((((((((((T.set (T.get 1) 44).set p1 45).set p1 46).set (T.get 2) 47).set p4 48).set p5 49).set p5 50).set (T.get 10) 51).set p8 52).set p9 53).set p9 54).set undef 55).set undef 56).set undef 57).set undef 58).set undef 59).set undef 60).set undef 61).set undef 62).set undef 63).set undef 64).set p21 65) S) ∧
             (b10 = false → ∃ p12, abin Tryz.prog .lss 2 (.tmp 55) (.const (.int .i64 0)) (T.get 1) (.int .i64 0) = some p12 ∧ ∃ b13, p12 = .bool b13 ∧
                (b13 = true → ∃ p15, abin Tryz.prog .lss 2 (.tmp 58) (.const (.int .i64 0)) (T.get 2) (.int .i64 0) = some p15 ∧ ∃ p16, pickS p12 p15 (.bool false) = some p16 ∧ ∃ b17, p16 = .bool b17 ∧
                    (b17 = true → ∃ p19, abin Tryz.prog .geq 2 (.tmp 62) (.const (.int .i64 0)) (T.get 10) (.int .i64 0) = some p19 ∧ ∃ p20, pickS p16 p19 (.bool false) = some p20 ∧ ∃ p21, pickS p9 (.bool true) p20 = some p21 ∧ Q ((((((((((((((((((((((T.set (T.get 1) 44).set p1 45).set p1 46).set (T.get 2) 47).set p4 48).set p5 49).set p5 50).set (T.get 10) 51).set p8 52).set p9 53).set p9 54).set (T.get 1) 55).set p12 56).set p12 57).set (T.get 2) 58).set p15 59).set p16 60).set p16 61).set (T.get 10) 62).set p19 63).set p20 64).set p21 65) S) ∧
                    (b17 = false → ∃ p20, pickS p16 undef (.bool false) = some p20 ∧ ∃ p21, pickS p9 (.bool true) p20 = some p21 ∧ Q ((((((((((((((((((((((T.set (T.get 1) 44).set p1 45).set p1 46).set (T.get 2) 47).set p4 48).set p5 49).set p5 50).set (T.get 10) 51).set p8 52).set p9 53).set p9 54).set (T.get 1) 55).set p12 56).set p12 57).set (T.get 2) 58).set p15 59).set p16 60).set p16 61).set undef 62).set undef 63).set p20 64).set p21 65) S)) ∧
                (b13 = false → ∃ p16, pickS p12 undef (.bool false) = some p16 ∧ ∃ b17, p16 = .bool b17 ∧
                    (b17 = true → ∃ p19, abin Tryz.prog .geq 2 (.tmp 62) (.const (.int .i64 0)) (T.get 10) (.int .i64 0) = some p19 ∧ ∃ p20, pickS p16 p19 (.bool false) = some p20 ∧ ∃ p21, pickS p9 (.bool true) p20 = some p21 ∧ Q ((((((((((((((((((((((T.set (T.get 1) 44).set p1 45).set p1 46).set (T.get 2) 47).set p4 48).set p5 49).set p5 50).set (T.get 10) 51).set p8 52).set p9 53).set p9 54).set (T.get 1) 55).set p12 56).set p12 57).set undef 58).set undef 59).set p16 60).set p16 61).set (T.get 10) 62).set p19 63).set p20 64).set p21 65) S) ∧
                    (b17 = false → ∃ p20, pickS p16 undef (.bool false) = some p20 ∧ ∃ p21, pickS p9 (.bool true) p20 = some p21 ∧ Q ((((((((((((((((((((((T.set (T.get 1) 44).set p1 45).set p1 46).set (T.get 2) 47).set p4 48).set p5 49).set p5 50).set (T.get 10) 51).set p8 52).set p9 53).set p9 54).set (T.get 1) 55).set p12 56).set p12 57).set undef 58).set undef 59).set p16 60).set p16 61).set undef 62).set undef 63).set p20 64).set p21 65) S)))) ∧
         (b6 = false → ∃ p9, pickS p5 undef (.bool false) = some p9 ∧ ∃ b10, p9 = .bool b10 ∧
             (b10 = true → ∃ p21, pickS p9 (.bool true) undef = some p21 ∧ Q ((((((((((((((((((((((T.set (T.get 1) 44).set p1 45).set p1 46).set (T.get 2) 47).set p4 48).set p5 49).set p5 50).set undef 51).set undef 52).set p9 53).set p9 54).set undef 55).set undef 56).set undef 57).set undef 58).set undef 59).set undef 60).set undef 61).set undef 62).set undef 63).set undef 64).set p21 65) S) ∧
             (b10 = false → ∃ p12, abin Tryz.prog .lss 2 (.tmp 55) (.const (.int .i64 0)) (T.get 1) (.int .i64 0) = some p12 ∧ ∃ b13, p12 = .bool b13 ∧
                (b13 = true → ∃ p15, abin Tryz.prog .lss 2 (.tmp 58) (.const (.int .i64 0)) (T.get 2) (.int .i64 0) = some p15 ∧ ∃ p16, pickS p12 p15 (.bool false) = some p16 ∧ ∃ b17, p16 = .bool b17 ∧
                    (b17 = true → ∃ p19, abin Tryz.prog .geq 2 (.tmp 62) (.const (.int .i64 0)) (T.get 10) (.int .i64 0) = some p19 ∧ ∃ p20, pickS p16 p19 (.bool false) = some p20 ∧ ∃ p21, pickS p9 (.bool true) p20 = some p21 ∧ Q ((((((((((((((((((((((T.set (T.get 1) 44).set p1 45).set p1 46).set (T.get 2) 47).set p4 48).set p5 49).set p5 50).set undef 51).set undef 52).set p9 53).set p9 54).set (T.get 1) 55).set p12 56).set p12 57).set (T.get 2) 58).set p15 59).set p16 60).set p16 61).set (T.get 10) 62).set p19 63).set p20 64).set p21 65) S) ∧
                    (b17 = false → ∃ p20, pickS p16 undef (.bool false) = some p20 ∧ ∃ p21, pickS p9 (.bool true) p20 = some p21 ∧ Q ((((((((((((((((((((((T.set (T.get 1) 44).set p1 45).set p1 46).set (T.get 2) 47).set p4 48).set p5 49).set p5 50).set undef 51).set undef 52).set p9 53).set p9 54).set (T.get 1) 55).set p12 56).set p12 57).set (T.get 2) 58).set p15 59).set p16 60).set p16 61).set undef 62).set undef 63).set p20 64).set p21 65) S)) ∧
                (b13 = false → ∃ p16, pickS p12 undef (.bool false) = some p16 ∧ ∃ b17, p16 = .bool b17 ∧
                    (b17 = true → ∃ p19, abin Tryz.prog .geq 2 (.tmp 62) (.const (.int .i64 0)) (T.get 10) (.int .i64 0) = some p19 ∧ ∃ p20, pickS p16 p19 (.bool false) = some p20 ∧ ∃ p21, pickS p9 (.bool true) p20 = some p21 ∧ Q ((((((((((((((((((((((T.set (T.get 1) 44).set p1 45).set p1 46).set (T.get 2) 47).set p4 48).set p5 49).set p5 50).set undef 51).set undef 52).set p9 53).set p9 54).set (T.get 1) 55).set p12 56).set p12 57).set undef 58).set undef 59).set p16 60).set p16 61).set (T.get 10) 62).set p19 63).set p20 64).set p21 65) S) ∧
                    (b17 = false → ∃ p20, pickS p16 undef (.bool false) = some p20 ∧ ∃ p21, pickS p9 (.bool true) p20 = some p21 ∧ Q ((((((((((((((((((((((T.set (T.get 1) 44).set p1 45).set p1 46).set (T.get 2) 47).set p4 48).set p5 49).set p5 50).set undef 51).set undef 52).set p9 53).set p9 54).set (T.get 1) 55).set p12 56).set p12 57).set undef 58).set undef 59).set p16 60).set p16 61).set undef 62).set undef 63).set p20 64).set p21 65) S))))) ∧
     (b2 = false → ∃ p5, pickS p1 undef (.bool false) = some p5 ∧ ∃ b6, p5 = .bool b6 ∧
         (b6 = true → ∃ p8, abin Tryz.prog .lss 2 (.tmp 51) (.const (.int .i64 0)) (T.get 10) (.int .i64 0) = some p8 ∧ ∃ p9, pickS p5 p8 (.bool false) = some p9 ∧ ∃ b10, p9 = .bool b10 ∧
             (b10 = true → ∃ p21, pickS p9 (.bool true) undef = some p21 ∧ Q ((((((((((((((((((((((T.set (T.get 1) 44).set p1 45).set p1 46).set undef 47).set undef 48).set p5 49).set p5 50).set (T.get 10) 51).set p8 52).set p9 53).set p9 54).set undef 55).set undef 56).set undef 57).set undef 58).set undef 59).set undef 60).set undef 61).set undef 62).set undef 63).set undef 64).set p21 65) S) ∧
             (b10 = false → ∃ p12, abin Tryz.prog .lss 2 (.tmp 55) (.const (.int .i64 0)) (T.get 1) (.int .i64 0) = some p12 ∧ ∃ b13, p12 = .bool b13 ∧
                (b13 = true → ∃ p15, abin Tryz.prog .lss 2 (.tmp 58) (.const (.int .i64 0)) (T.get 2) (.int .i64 0) = some p15 ∧ ∃ p16, pickS p12 p15 (.bool false) = some p16 ∧ ∃ b17, p16 = .bool b17 ∧
                    (b17 = true → ∃ p19, abin Tryz.prog .geq 2 (.tmp 62) (.const (.int .i64 0)) (T.get 10) (.int .i64 0) = some p19 ∧ ∃ p20, pickS p16 p19 (.bool false) = some p20 ∧ ∃ p21, pickS p9 (.bool true) p20 = some p21 ∧ Q ((((((((((((((((((((((T.set (T.get 1) 44).set p1 45).set p1 46).set undef 47).set undef 48).set p5 49).set p5 50).set (T.get 10) 51).set p8 52).set p9 53).set p9 54).set (T.get 1) 55).set p12 56).set p12 57).set (T.get 2) 58).set p15 59).set p16 60).set p16 61).set (T.get 10) 62).set p19 63).set p20 64).set p21 65) S) ∧
                    (b17 = false → ∃ p20, pickS p16 undef (.bool false) = some p20 ∧ ∃ p21, pickS p9 (.bool true) p20 = some p21 ∧ Q ((((((((((((((((((((((T.set (T.get 1) 44).set p1 45).set p1 46).set undef 47).set undef 48).set p5 49).set p5 50).set (T.get 10) 51).set p8 52).set p9 53).set p9 54).set (T.get 1) 55).set p12 56).set p12 57).set (T.get 2) 58).set p15 59).set p16 60).set p16 61).set undef 62).set undef 63).set p20 64).set p21 65) S)) ∧
                (b13 = false → ∃ p16, pickS p12 undef (.bool false) = some p16 ∧ ∃ b17, p16 = .bool b17 ∧
                    (b17 = true → ∃ p19, abin Tryz.prog .geq 2 (.tmp 62) (.const (.int .i64 0)) (T.get 10) (.int .i64 0) = some p19 ∧ ∃ p20, pickS p16 p19 (.bool false) = some p20 ∧ ∃ p21, pickS p9 (.bool true) p20 = some p21 ∧ Q ((((((((((((((((((((((T.set (T.get 1) 44).set p1 45).set p1 46).set undef 47).set undef 48).set p5 49).set p5 50).set (T.get 10) 51).set p8 52).set p9 53).set p9 54).set (T.get 1) 55).set p12 56).set p12 57).set undef 58).set undef 59).set p16 60).set p16 61).set (T.get 10) 62).set p19 63).set p20 64).set p21 65) S) ∧
                    (b17 = false → ∃ p20, pickS p16 undef (.bool false) = some p20 ∧ ∃ p21, pickS p9 (.bool true) p20 = some p21 ∧ Q ((((((((((((((((((((((T.set (T.get 1) 44).set p1 45).set p1 46).set undef 47).set undef 48).set p5 49).set p5 50).set (T.get 10) 51).set p8 52).set p9 53).set p9 54).set (T.get 1) 55).set p12 56).set p12 57).set undef 58).set undef 59).set p16 60).set p16 61).set undef 62).set undef 63).set p20 64).set p21 65) S)))) ∧
         (b6 = false → ∃ p9, pickS p5 undef (.bool false) = some p9 ∧ ∃ b10, p9 = .bool b10 ∧
             (b10 = true → ∃ p21, pickS p9 (.bool true) undef = some p21 ∧ Q ((((((((((((((((((((((T.set (T.get 1) 44).set p1 45).set p1 46).set undef 47).set undef 48).set p5 49).set p5 50).set undef 51).set undef 52).set p9 53).set p9 54).set undef 55).set undef 56).set undef 57).set undef 58).set undef 59).set undef 60).set undef 61).set undef 62).set undef 63).set undef 64).set p21 65) S) ∧
             (b10 = false → ∃ p12, abin Tryz.prog .lss 2 (.tmp 55) (.const (.int .i64 0)) (T.get 1) (.int .i64 0) = some p12 ∧ ∃ b13, p12 = .bool b13 ∧
                (b13 = true → ∃ p15, abin Tryz.prog .lss 2 (.tmp 58) (.const (.int .i64 0)) (T.get 2) (.int .i64 0) = some p15 ∧ ∃ p16, pickS p12 p15 (.bool false) = some p16 ∧ ∃ b17, p16 = .bool b17 ∧
                    (b17 = true → ∃ p19, abin Tryz.prog .geq 2 (.tmp 62) (.const (.int .i64 0)) (T.get 10) (.int .i64 0) = some p19 ∧ ∃ p20, pickS p16 p19 (.bool false) = some p20 ∧ ∃ p21, pickS p9 (.bool true) p20 = some p21 ∧ Q ((((((((((((((((((((((T.set (T.get 1) 44).set p1 45).set p1 46).set undef 47).set undef 48).set p5 49).set p5 50).set undef 51).set undef 52).set p9 53).set p9 54).set (T.get 1) 55).set p12 56).set p12 57).set (T.get 2) 58).set p15 59).set p16 60).set p16 61).set (T.get 10) 62).set p19 63).set p20 64).set p21 65) S) ∧
                    (b17 = false → ∃ p20, pickS p16 undef (.bool false) = some p20 ∧ ∃ p21, pickS p9 (.bool true) p20 = some p21 ∧ Q ((((((((((((((((((((((T.set (T.get 1) 44).set p1 45).set p1 46).set undef 47).set undef 48).set p5 49).set p5 50).set undef 51).set undef 52).set p9 53).set p9 54).set (T.get 1) 55).set p12 56).set p12 57).set (T.get 2) 58).set p15 59).set p16 60).set p16 61).set undef 62).set undef 63).set p20 64).set p21 65) S)) ∧
                (b13 = false → ∃ p16, pickS p12 undef (.bool false) = some p16 ∧ ∃ b17, p16 = .bool b17 ∧
                    (b17 = true → ∃ p19, abin Tryz.prog .geq 2 (.tmp 62) (.const (.int .i64 0)) (T.get 10) (.int .i64 0) = some p19 ∧ ∃ p20, pickS p16 p19 (.bool false) = some p20 ∧ ∃ p21, pickS p9 (.bool true) p20 = some p21 ∧ Q ((((((((((((((((((((((T.set (T.get 1) 44).set p1 45).set p1 46).set undef 47).set undef 48).set p5 49).set p5 50).set undef 51).set undef 52).set p9 53).set p9 54).set (T.get 1) 55).set p12 56).set p12 57).set undef 58).set undef 59).set p16 60).set p16 61).set (T.get 10) 62).set p19 63).set p20 64).set p21 65) S) ∧
                    (b17 = false → ∃ p20, pickS p16 undef (.bool false) = some p20 ∧ ∃ p21, pickS p9 (.bool true) p20 = some p21 ∧ Q ((((((((((((((((((((((T.set (T.get 1) 44).set p1 45).set p1 46).set undef 47).set undef 48).set p5 49).set p5 50).set undef 51).set undef 52).set p9 53).set p9 54).set (T.get 1) 55).set p12 56).set p12 57).set undef 58).set undef 59).set p16 60).set p16 61).set undef 62).set undef 63).set p20 64).set p21 65) S)))))) := by kernel_rfl
theorem reg243_13 : mOps Tryz.prog O 158 (ro 243 13).toList (ro 243 13).toList [] T S Q =
  (Q (((T.set (T.get 10) 66).set (T.get 10) 6).set (.int .i64 0) 7) S) := by kernel_rfl
/-! ### 169: windlass/windlassref12.Pure -/
noncomputable def blk169_0 : Code := .block 0 (.seq (.region 8 (ro 169 8) false) (.cond (.tmp 39) (.seq (.seq (.region 9 (ro 169 9) false) (.cond (.tmp 48) (.seq (.region 10 (ro 169 10) false) .ret) .skip)) (.seq (.region 11 (ro 169 11) false) .ret)) (.seq (.region 12 (ro 169 12) false) (.cond (.tmp 56) (.seq (.region 13 (ro 169 13) false) .ret) (.seq (.region 14 (ro 169 14) false) (.cond (.tmp 61) (.seq (.region 15 (ro 169 15) false) .ret) (.seq (.region 16 (ro 169 16) false) (.cond (.tmp 66) (.seq (.region 17 (ro 169 17) false) .ret) (.seq (.region 18 (ro 169 18) false) (.cond (.tmp 71) (.seq (.region 19 (ro 169 19) false) .ret) (.seq (.region 20 (ro 169 20) false) (.cond (.tmp 76) (.seq (.region 21 (ro 169 21) false) .ret) (.seq (.region 22 (ro 169 22) false) (.cond (.tmp 81) (.seq (.region 23 (ro 169 23) false) .ret) (.seq (.region 24 (ro 169 24) false) (.cond (.tmp 86) (.seq (.region 25 (ro 169 25) false) (.seq (.seq (.region 26 (ro 169 26) false) (.cond (.tmp 95) (.seq (.region 27 (ro 169 27) false) .ret) .skip)) (.seq (.region 28 (ro 169 28) false) .ret))) (.seq (.region 29 (ro 169 29) false) (.cond (.tmp 100) (.seq (.region 30 (ro 169 30) false) .ret) (.seq (.region 31 (ro 169 31) false) (.cond (.tmp 106) (.seq (.region 32 (ro 169 32) false) .ret) (.seq (.region 33 (ro 169 33) false) (.cond (.tmp 112) (.seq (.region 34 (ro 169 34) false) .ret) .skip))))))))))))))))))))))
theorem body169 : (Tryz.prog.funcs[169]?).bind (·.body) = some (.seq (.region 0 (ro 169 0) false) (.seq (.seq (.region 1 (ro 169 1) false) (.cond (.tmp 19) (.seq (.region 2 (ro 169 2) false) (.seq (.seq (.region 3 (ro 169 3) false) (.cond (.tmp 30) (.seq (.region 4 (ro 169 4) false) .ret) .skip)) (.seq (.region 5 (ro 169 5) false) .ret))) .skip)) (.seq (.region 6 (ro 169 6) false) (.seq (.seq (.region 7 (ro 169 7) false) blk169_0) (.seq (.region 35 (ro 169 35) false) .ret))))) := by kernel_rfl
theorem res169 : (Tryz.prog.funcs[169]?).map (·.results.toList) = some [.cell 6 47, .tmp 7, .tmp 8] := by kernel_rfl
theorem is169 : fnIsB Tryz.prog 169 119 = true := by kernel_rfl
theorem reg169_0 : mOps Tryz.prog O 119 (ro 169 0).toList (ro 169 0).toList [] T S Q =
  (Q (((((T.set (ptrTo S.n) 4).set (ptrTo (S.fresh (Value.cells (T.get 1)).toList 0).n) 5).set (ptrTo ((S.fresh (Value.cells (T.get 1)).toList 0).fresh (Value.cells (T.get 2)).toList 0).n) 6).set (.int .i64 0) 7).set (.bool false) 8) (((S.fresh (Value.cells (T.get 1)).toList 0).fresh (Value.cells (T.get 2)).toList 0).fresh [.int .i64 0, .int .i64 0, .string ⟨⟨[]⟩⟩, .int .i64 0, .slice none 0 0] 0)) := by kernel_rfl
theorem reg169_1 : mOps Tryz.prog O 119 (ro 169 1).toList (ro 169 1).toList [] T S Q =
  (∃ p1, abin Tryz.prog .geq 3 (.tmp 14) (.const (.int .i64 5)) (T.get 0) (.int .i64 5) = some p1 ∧ ∃ b2, p1 = .bool b2 ∧
     (b2 = true → ∃ p4, abin Tryz.prog .leq 3 (.tmp 17) (.const (.int .i64 12)) (T.get 0) (.int .i64 12) = some p4 ∧ ∃ p5, pickS p1 p4 (.bool false) = some p5 ∧ Q ((((((T.set (T.get 0) 14).set p1 15).set p1 16).set (T.get 0) 17).set p4 18).set p5 19) S) ∧
     (b2 = false → ∃ p5, pickS p1 undef (.bool false) = some p5 ∧ Q ((((((T.set (T.get 0) 14).set p1 15).set p1 16).set undef 17).set undef 18).set p5 19) S)) := by kernel_rfl
theorem reg169_2 : mOps Tryz.prog O 119 (ro 169 2).toList (ro 169 2).toList [] T S Q =
  (∃ p1, faS 1 (T.get 4) = some p1 ∧ ∃ p2, ldS none S p1 = some p2 ∧ ∃ p3, faS 1 (T.get 5) = some p3 ∧ ∃ p4, ldS none S p3 = some p4 ∧ CallM Tryz.prog O 243 [(T.get 0), p2, p4] S fun p5 S5 => ∃ p7, aextract p5 0 = some p7 ∧ ∃ p8, aextract p5 1 = some p8 ∧ Q (((((((((((T.set (T.get 0) 21).set p1 22).set p2 23).set p3 24).set p4 25).set p5 26).set p5 20).set p7 27).set p8 28).set p7 9).set p8 10) S5) := by kernel_rfl
theorem reg169_3 : mOps Tryz.prog O 119 (ro 169 3).toList (ro 169 3).toList [] T S Q =
  (∃ p1, abin Tryz.prog .neq 3 (.tmp 29) (.const (.int .i64 0)) (T.get 10) (.int .i64 0) = some p1 ∧ Q ((T.set (T.get 10) 29).set p1 30) S) := by kernel_rfl
theorem reg169_5 : mOps Tryz.prog O 119 (ro 169 5).toList (ro 169 5).toList [] T S Q =
  (CallM Tryz.prog O 10 [(T.get 9)] S fun p1 S1 => ∃ S2, stS 5 S1 (T.get 6) p1 = some S2 ∧ Q ((((T.set (T.get 9) 33).set p1 34).set (.int .i64 0) 7).set (.bool true) 8) S2) := by kernel_rfl
theorem reg169_6 : mOps Tryz.prog O 119 (ro 169 6).toList (ro 169 6).toList [] T S Q =
  (∃ p0, ldS (some 5) S (T.get 4) = some p0 ∧ ∃ p1, ldS (some 5) S (T.get 5) = some p1 ∧ CallM Tryz.prog O 83 [p0, p1] S fun p2 S2 => Q ((((T.set p0 35).set p1 36).set p2 37).set p2 11) S2) := by kernel_rfl
theorem reg169_7 : mOps Tryz.prog O 119 (ro 169 7).toList (ro 169 7).toList [] T S Q =
  (Q (T.set (T.get 0) 38) S) := by kernel_rfl
theorem reg169_8 : mOps Tryz.prog O 119 (ro 169 8).toList (ro 169 8).toList [] T S Q =
  (∃ p0, abin Tryz.prog .eql 3 (.tmp 38) (.const (.int .i64 13)) (T.get 38) (.int .i64 13) = some p0 ∧ Q ((T.set p0 40).set p0 39) S) := by kernel_rfl
theorem reg169_12 : mOps Tryz.prog O 119 (ro 169 12).toList (ro 169 12).toList [] T S Q =
  (∃ p0, abin Tryz.prog .eql 3 (.tmp 38) (.const (.int .i64 14)) (T.get 38) (.int .i64 14) = some p0 ∧ Q ((T.set p0 57).set p0 56) S) := by kernel_rfl
theorem reg169_13 : mOps Tryz.prog O 119 (ro 169 13).toList (ro 169 13).toList [] T S Q =
  (∃ p1, abin Tryz.prog .eql 3 (.tmp 58) (.const (.int .i64 0)) (T.get 11) (.int .i64 0) = some p1 ∧ CallM Tryz.prog O 157 [p1] S fun p2 S2 => ∃ S3, stS 5 S2 (T.get 6) p2 = some S3 ∧ Q (((((T.set (T.get 11) 58).set p1 59).set p2 60).set (.int .i64 0) 7).set (.bool true) 8) S3) := by kernel_rfl
theorem reg169_14 : mOps Tryz.prog O 119 (ro 169 14).toList (ro 169 14).toList [] T S Q =
  (∃ p0, abin Tryz.prog .eql 3 (.tmp 38) (.const (.int .i64 15)) (T.get 38) (.int .i64 15) = some p0 ∧ Q ((T.set p0 62).set p0 61) S) := by kernel_rfl
theorem reg169_16 : mOps Tryz.prog O 119 (ro 169 16).toList (ro 169 16).toList [] T S Q =
  (∃ p0, abin Tryz.prog .eql 3 (.tmp 38) (.const (.int .i64 16)) (T.get 38) (.int .i64 16) = some p0 ∧ Q ((T.set p0 67).set p0 66) S) := by kernel_rfl
theorem reg169_17 : mOps Tryz.prog O 119 (ro 169 17).toList (ro 169 17).toList [] T S Q =
  (∃ p1, abin Tryz.prog .lss 3 (.tmp 68) (.const (.int .i64 0)) (T.get 11) (.int .i64 0) = some p1 ∧ CallM Tryz.prog O 157 [p1] S fun p2 S2 => ∃ S3, stS 5 S2 (T.get 6) p2 = some S3 ∧ Q (((((T.set (T.get 11) 68).set p1 69).set p2 70).set (.int .i64 0) 7).set (.bool true) 8) S3) := by kernel_rfl
/-! ### 168: (*windlass/windlassref12.World).Charge -/
theorem body168 : (Tryz.prog.funcs[168]?).bind (·.body) = some (.seq (.region 0 (ro 168 0) false) (.seq (.seq (.region 1 (ro 168 1) false) (.cond (.tmp 8) (.seq (.region 2 (ro 168 2) false) .ret) .skip)) (.seq (.region 3 (ro 168 3) false) (.seq (.region 4 (ro 168 4) false) .ret)))) := by kernel_rfl
theorem res168 : (Tryz.prog.funcs[168]?).map (·.results.toList) = some [.tmp 2] := by kernel_rfl
theorem is168 : fnIsB Tryz.prog 168 20 = true := by kernel_rfl
theorem reg168_0 : mOps Tryz.prog O 20 (ro 168 0).toList (ro 168 0).toList [] T S Q =
  (Q (T.set (.bool false) 2) S) := by kernel_rfl
theorem reg168_1 : mOps Tryz.prog O 20 (ro 168 1).toList (ro 168 1).toList [] T S Q =
  (∃ p1, nilS (T.get 0) = some p1 ∧ ∃ p2, faS 8 p1 = some p2 ∧ ∃ p3, faS 6 p2 = some p3 ∧ ∃ p4, ldS none S p3 = some p4 ∧ ∃ p5, abin Tryz.prog .eql 3 (.tmp 7) (.const (.int .i64 400)) p4 (.int .i64 400) = some p5 ∧ Q ((((((T.set (T.get 0) 3).set p1 4).set p2 5).set p3 6).set p4 7).set p5 8) S) := by kernel_rfl
theorem reg168_3 : mOps Tryz.prog O 20 (ro 168 3).toList (ro 168 3).toList [] T S Q =
  (∃ p1, nilS (T.get 0) = some p1 ∧ ∃ p2, faS 8 p1 = some p2 ∧ ∃ p3, faS 6 p2 = some p3 ∧ ∃ p4, ldS none S p3 = some p4 ∧ ∃ p5, abin Tryz.prog .add 3 (.tmp 15) (.const (.int .i64 1)) p4 (.int .i64 1) = some p5 ∧ ∃ p6, nilS (T.get 0) = some p6 ∧ ∃ p7, faS 8 p6 = some p7 ∧ ∃ p8, faS 6 p7 = some p8 ∧ ∃ S9, stS 1 S p8 p5 = some S9 ∧ Q (((((((((T.set (T.get 0) 11).set p1 12).set p2 13).set p3 14).set p4 15).set p5 16).set p6 17).set p7 18).set p8 19) S9) := by kernel_rfl
theorem reg168_4 : mOps Tryz.prog O 20 (ro 168 4).toList (ro 168 4).toList [] T S Q =
  (Q (T.set (.bool false) 2) S) := by kernel_rfl
/-! ### 32: windlass/windlassref4.at -/
noncomputable def blk32_1 : Code := .block 1 (.region 6 (ro 32 6) false)
noncomputable def blk32_0 : Code := .block 0 (.loop (.seq (.seq (.region 5 (ro 32 5) true) (.cond (.tmp 37) .skip (.exit 0))) blk32_1))
theorem body32 : (Tryz.prog.funcs[32]?).bind (·.body) = some (.seq (.region 0 (ro 32 0) false) (.seq (.seq (.region 1 (ro 32 1) false) (.cond (.tmp 18) (.seq (.region 2 (ro 32 2) false) .ret) .skip)) (.seq (.region 3 (ro 32 3) false) (.seq (.region 4 (ro 32 4) false) (.seq blk32_0 (.seq (.region 7 (ro 32 7) true) .ret)))))) := by kernel_rfl
theorem res32 : (Tryz.prog.funcs[32]?).map (·.results.toList) = some [.tmp 6, .tmp 7] := by kernel_rfl
theorem is32 : fnIsB Tryz.prog 32 54 = true := by kernel_rfl
theorem reg32_0 : mOps Tryz.prog O 54 (ro 32 0).toList (ro 32 0).toList [] T S Q =
  (Q ((((T.set (ptrTo S.n) 3).set (ptrTo (S.fresh (Value.cells (T.get 0)).toList 0).n) 5).set (.int .i64 0) 6).set (.bool false) 7) ((S.fresh (Value.cells (T.get 0)).toList 0).fresh (Value.cells (T.get 2)).toList 0)) := by kernel_rfl
theorem reg32_1 : mOps Tryz.prog O 54 (ro 32 1).toList (ro 32 1).toList [] T S Q =
  (∃ p1, abin Tryz.prog .lss 3 (.tmp 10) (.const (.int .i64 0)) (T.get 1) (.int .i64 0) = some p1 ∧ ∃ b2, p1 = .bool b2 ∧
     (b2 = true → ∃ p8, pickS p1 (.bool true) undef = some p8 ∧ Q (((((((((T.set (T.get 1) 10).set p1 11).set p1 12).set undef 13).set undef 14).set undef 15).set undef 16).set undef 17).set p8 18) S) ∧
     (b2 = false → ∃ p4, faS 0 (T.get 3) = some p4 ∧ ∃ p5, ldS none S p4 = some p5 ∧ ∃ p6, lenSl p5 = some p6 ∧ ∃ p7, abin Tryz.prog .geq 3 (.tmp 13) (.tmp 16) (T.get 1) p6 = some p7 ∧ ∃ p8, pickS p1 (.bool true) p7 = some p8 ∧ Q (((((((((T.set (T.get 1) 10).set p1 11).set p1 12).set (T.get 1) 13).set p4 14).set p5 15).set p6 16).set p7 17).set p8 18) S)) := by kernel_rfl
theorem reg32_3 : mOps Tryz.prog O 54 (ro 32 3).toList (ro 32 3).toList [] T S Q =
  (∃ p0, faS 0 (T.get 3) = some p0 ∧ ∃ p1, ldS none S p0 = some p1 ∧ ∃ p3, iaSS 1 p1 (T.get 1) = some p3 ∧ ∃ p4, ldS none S p3 = some p4 ∧ Q ((((((T.set p0 19).set p1 20).set (T.get 1) 21).set p3 22).set p4 23).set p4 8) S) := by kernel_rfl
theorem reg32_4 : mOps Tryz.prog O 54 (ro 32 4).toList (ro 32 4).toList [] T S Q =
  (Q (T.set (.int .i64 0) 9) S) := by kernel_rfl
theorem reg32_5 : mDraw Tryz.prog O 54 (ro 32 5).toList T S Q =
  (∃ p2, lenSl (T.get 8) = some p2 ∧ ∃ p3, abin Tryz.prog .lss 3 (.tmp 24) (.tmp 26) (T.get 9) p2 = some p3 ∧ ∃ b4, p3 = .bool b4 ∧
       (b4 = true → ∃ p7, iaSS 10 (T.get 8) (T.get 9) = some p7 ∧ ∃ p8, faS 0 p7 = some p8 ∧ ∃ p9, ldS (some 5) S p8 = some p9 ∧ ∃ p10, ldS (some 5) S (T.get 5) = some p10 ∧ CallM Tryz.prog O 83 [p9, p10] S fun p11 S11 => ∃ p12, abin Tryz.prog .lss 3 (.tmp 35) (.const (.int .i64 0)) p11 (.int .i64 0) = some p12 ∧ ∃ p13, pickS p3 p12 (.bool false) = some p13 ∧ Q ((((((((((((((T.set (T.get 9) 24).set (T.get 8) 25).set p2 26).set p3 27).set p3 28).set (T.get 8) 29).set (T.get 9) 30).set p7 31).set p8 32).set p9 33).set p10 34).set p11 35).set p12 36).set p13 37) S11) ∧
       (b4 = false → ∃ p13, pickS p3 undef (.bool false) = some p13 ∧ Q ((((((((((((((T.set (T.get 9) 24).set (T.get 8) 25).set p2 26).set p3 27).set p3 28).set undef 29).set undef 30).set undef 31).set undef 32).set undef 33).set undef 34).set undef 35).set undef 36).set p13 37) S)) := by kernel_rfl
theorem reg32_6 : mOps Tryz.prog O 54 (ro 32 6).toList (ro 32 6).toList [] T S Q =
  (∃ p1, abin Tryz.prog .add 3 (.tmp 38) (.const (.int .i64 1)) (T.get 9) (.int .i64 1) = some p1 ∧ Q (((T.set (T.get 9) 38).set p1 39).set p1 9) S) := by kernel_rfl
theorem reg32_7 : mDraw Tryz.prog O 54 (ro 32 7).toList T S Q =
  (∃ p3, lenSl (T.get 8) = some p3 ∧ ∃ p4, abin Tryz.prog .lss 3 (.tmp 41) (.tmp 43) (T.get 9) p3 = some p4 ∧ ∃ b5, p4 = .bool b5 ∧
       (b5 = true → ∃ p8, iaSS 10 (T.get 8) (T.get 9) = some p8 ∧ ∃ p9, faS 0 p8 = some p9 ∧ ∃ p10, ldS (some 5) S p9 = some p10 ∧ ∃ p11, ldS (some 5) S (T.get 5) = some p11 ∧ CallM Tryz.prog O 34 [p10, p11] S fun p12 S12 => ∃ p13, pickS p4 p12 (.bool false) = some p13 ∧ Q ((((((((((((((((T.set (T.get 9) 41).set (T.get 8) 42).set p3 43).set p4 44).set p4 45).set (T.get 8) 46).set (T.get 9) 47).set p8 48).set p9 49).set p10 50).set p11 51).set p12 52).set (T.get 9) 40).set p13 53).set (T.get 9) 6).set p13 7) S12) ∧
       (b5 = false → ∃ p13, pickS p4 undef (.bool false) = some p13 ∧ Q ((((((((((((((((T.set (T.get 9) 41).set (T.get 8) 42).set p3 43).set p4 44).set p4 45).set undef 46).set undef 47).set undef 48).set undef 49).set undef 50).set undef 51).set undef 52).set (T.get 9) 40).set p13 53).set (T.get 9) 6).set p13 7) S)) := by kernel_rfl
/-! ### 33: windlass/windlassref4.with -/
theorem body33 : (Tryz.prog.funcs[33]?).bind (·.body) = some (.seq (.region 0 (ro 33 0) false) (.seq (.region 1 (ro 33 1) false) (.seq (.region 2 (ro 33 2) false) (.seq (.region 3 (ro 33 3) false) .ret)))) := by kernel_rfl
theorem res33 : (Tryz.prog.funcs[33]?).map (·.results.toList) = some [.cell 6 51] := by kernel_rfl
theorem is33 : fnIsB Tryz.prog 33 18 = true := by kernel_rfl
theorem reg33_0 : mOps Tryz.prog O 18 (ro 33 0).toList (ro 33 0).toList [] T S Q =
  (Q ((T.set (ptrTo S.n) 3).set (ptrTo (S.fresh (Value.cells (T.get 0)).toList 0).n) 6) ((S.fresh (Value.cells (T.get 0)).toList 0).fresh [.slice none 0 0] 0)) := by kernel_rfl
theorem reg33_1 : mOps Tryz.prog O 18 (ro 33 1).toList (ro 33 1).toList [] T S Q =
  (∃ p0, faS 0 (T.get 3) = some p0 ∧ ∃ p1, ldS none S p0 = some p1 ∧ ∃ p2 S2, apS false 1 24 [.slice none 0 0] S [(.slice none 0 0), p1] = some (p2, S2) ∧ ∃ p3, bdS (fun i => [(0, 1)][i]?) [.slice none 0 0] [(0, p2)] = some p3 ∧ ∃ S5, stS 1 (S2.fresh [.slice none 0 0] 0) (ptrTo S2.n) p3 = some S5 ∧ Q (((((T.set p0 8).set p1 9).set p2 10).set p3 11).set (ptrTo S2.n) 7) S5) := by kernel_rfl
theorem reg33_2 : mOps Tryz.prog O 18 (ro 33 2).toList (ro 33 2).toList [] T S Q =
  (∃ p0, faS 0 (T.get 7) = some p0 ∧ ∃ p1, ldS none S p0 = some p1 ∧ ∃ p4, iaSS 1 p1 (T.get 1) = some p4 ∧ ∃ S5, stS 1 S p4 (T.get 2) = some S5 ∧ Q (((((T.set p0 12).set p1 13).set (T.get 1) 14).set (T.get 2) 15).set p4 16) S5) := by kernel_rfl
theorem reg33_3 : mOps Tryz.prog O 18 (ro 33 3).toList (ro 33 3).toList [] T S Q =
  (∃ p0, ldS (some 1) S (T.get 7) = some p0 ∧ ∃ S1, stS 1 S (T.get 6) p0 = some S1 ∧ Q (T.set p0 17) S1) := by kernel_rfl
/-! ### 12: windlass/windlassref4.Put -/
theorem body12 : (Tryz.prog.funcs[12]?).bind (·.body) = some (.seq (.region 0 (ro 12 0) false) (.seq (.seq (.region 1 (ro 12 1) false) (.cond (.tmp 21) (.seq (.region 2 (ro 12 2) false) .ret) .skip)) (.seq (.region 3 (ro 12 3) false) (.seq (.region 4 (ro 12 4) false) (.seq (.seq (.region 5 (ro 12 5) false) (.cond (.tmp 36) (.seq (.region 6 (ro 12 6) false) (.seq (.region 7 (ro 12 7) false) .ret)) .skip)) (.seq (.seq (.region 8 (ro 12 8) false) (.cond (.tmp 48) (.seq (.region 9 (ro 12 9) false) .ret) .skip)) (.seq (.region 10 (ro 12 10) false) (.seq (.region 11 (ro 12 11) true) (.seq (.region 12 (ro 12 12) false) (.seq (.region 13 (ro 12 13) false) .ret)))))))))) := by kernel_rfl
theorem res12 : (Tryz.prog.funcs[12]?).map (·.results.toList) = some [.cell 8 51, .tmp 9] := by kernel_rfl
theorem is12 : fnIsB Tryz.prog 12 72 = true := by kernel_rfl
theorem reg12_0 : mOps Tryz.prog O 72 (ro 12 0).toList (ro 12 0).toList [] T S Q =
  (Q (((((T.set (ptrTo S.n) 4).set (ptrTo (S.fresh (Value.cells (T.get 0)).toList 0).n) 6).set (ptrTo ((S.fresh (Value.cells (T.get 0)).toList 0).fresh (Value.cells (T.get 2)).toList 0).n) 7).set (ptrTo (((S.fresh (Value.cells (T.get 0)).toList 0).fresh (Value.cells (T.get 2)).toList 0).fresh (Value.cells (T.get 3)).toList 0).n) 8).set (.int .i64 0) 9) ((((S.fresh (Value.cells (T.get 0)).toList 0).fresh (Value.cells (T.get 2)).toList 0).fresh (Value.cells (T.get 3)).toList 0).fresh [.slice none 0 0] 0)) := by kernel_rfl
theorem reg12_1 : mOps Tryz.prog O 72 (ro 12 1).toList (ro 12 1).toList [] T S Q =
  (∃ p1, abin Tryz.prog .lss 3 (.tmp 13) (.const (.int .i64 0)) (T.get 1) (.int .i64 0) = some p1 ∧ ∃ b2, p1 = .bool b2 ∧
     (b2 = true → ∃ p8, pickS p1 (.bool true) undef = some p8 ∧ Q (((((((((T.set (T.get 1) 13).set p1 14).set p1 15).set undef 16).set undef 17).set undef 18).set undef 19).set undef 20).set p8 21) S) ∧
     (b2 = false → ∃ p4, faS 0 (T.get 4) = some p4 ∧ ∃ p5, ldS none S p4 = some p5 ∧ ∃ p6, lenSl p5 = some p6 ∧ ∃ p7, abin Tryz.prog .geq 3 (.tmp 16) (.tmp 19) (T.get 1) p6 = some p7 ∧ ∃ p8, pickS p1 (.bool true) p7 = some p8 ∧ Q (((((((((T.set (T.get 1) 13).set p1 14).set p1 15).set (T.get 1) 16).set p4 17).set p5 18).set p6 19).set p7 20).set p8 21) S)) := by kernel_rfl
theorem reg12_3 : mOps Tryz.prog O 72 (ro 12 3).toList (ro 12 3).toList [] T S Q =
  (∃ p0, ldS (some 1) S (T.get 4) = some p0 ∧ ∃ p2, ldS (some 5) S (T.get 6) = some p2 ∧ CallM Tryz.prog O 32 [p0, (T.get 1), p2] S fun p3 S3 => ∃ p5, aextract p3 0 = some p5 ∧ ∃ p6, aextract p3 1 = some p6 ∧ Q (((((((((T.set p0 24).set (T.get 1) 25).set p2 26).set p3 27).set p3 23).set p5 28).set p6 29).set p5 10).set p6 11) S3) := by kernel_rfl
theorem reg12_4 : mOps Tryz.prog O 72 (ro 12 4).toList (ro 12 4).toList [] T S Q =
  (∃ p0, faS 0 (T.get 4) = some p0 ∧ ∃ p1, ldS none S p0 = some p1 ∧ ∃ p3, iaSS 1 p1 (T.get 1) = some p3 ∧ ∃ p4, ldS none S p3 = some p4 ∧ ∃ p5 S5, apS false 10 128 [.int .i64 0, .int .i64 0, .string ⟨⟨[]⟩⟩, .int .i64 0, .slice none 0 0, .int .i64 0, .int .i64 0, .string ⟨⟨[]⟩⟩, .int .i64 0, .slice none 0 0] S [(.slice none 0 0), p4] = some (p5, S5) ∧ Q (((((((T.set p0 30).set p1 31).set (T.get 1) 32).set p3 33).set p4 34).set p5 35).set p5 12) S5) := by kernel_rfl
theorem reg12_5 : mOps Tryz.prog O 72 (ro 12 5).toList (ro 12 5).toList [] T S Q =
  (Q (T.set (T.get 11) 36) S) := by kernel_rfl
theorem reg12_8 : mOps Tryz.prog O 72 (ro 12 8).toList (ro 12 8).toList [] T S Q =
  (∃ p1, lenSl (T.get 12) = some p1 ∧ ∃ p2, abin Tryz.prog .geq 3 (.tmp 47) (.const (.int .i64 24)) p1 (.int .i64 24) = some p2 ∧ Q (((T.set (T.get 12) 46).set p1 47).set p2 48) S) := by kernel_rfl
theorem reg12_10 : mOps Tryz.prog O 72 (ro 12 10).toList (ro 12 10).toList [] T S Q =
  (∃ p1, bdS (fun i => [(0, 5), (5, 5)][i]?) [.int .i64 0, .int .i64 0, .string ⟨⟨[]⟩⟩, .int .i64 0, .slice none 0 0, .int .i64 0, .int .i64 0, .string ⟨⟨[]⟩⟩, .int .i64 0, .slice none 0 0] [] = some p1 ∧ ∃ p2 S2, bsS S 1 10 [.int .i64 0, .int .i64 0, .string ⟨⟨[]⟩⟩, .int .i64 0, .slice none 0 0, .int .i64 0, .int .i64 0, .string ⟨⟨[]⟩⟩, .int .i64 0, .slice none 0 0] [(0, p1)] = some (p2, S2) ∧ ∃ p3 S3, apS false 10 128 [.int .i64 0, .int .i64 0, .string ⟨⟨[]⟩⟩, .int .i64 0, .slice none 0 0, .int .i64 0, .int .i64 0, .string ⟨⟨[]⟩⟩, .int .i64 0, .slice none 0 0] S2 [(T.get 12), p2] = some (p3, S3) ∧ Q (((((T.set (T.get 12) 50).set p1 51).set p2 52).set p3 53).set p3 12) S3) := by kernel_rfl
theorem reg12_11 : mDraw Tryz.prog O 72 (ro 12 11).toList T S Q =
  (∃ p2, abin Tryz.prog .add 3 (.tmp 55) (.const (.int .i64 1)) (T.get 10) (.int .i64 1) = some p2 ∧ ∃ p3, slS 10 S (T.get 12) (some p2) none none = some p3 ∧ ∃ p6, slS 10 S (T.get 12) (some (T.get 10)) none none = some p6 ∧ ∃ p7 S7, cpS 10 S [p3, p6] = some (p7, S7) ∧ Q ((((((((T.set (T.get 12) 54).set (T.get 10) 55).set p2 56).set p3 57).set (T.get 12) 58).set (T.get 10) 59).set p6 60).set p7 61) S7) := by kernel_rfl
theorem reg12_12 : mOps Tryz.prog O 72 (ro 12 12).toList (ro 12 12).toList [] T S Q =
  (∃ p2, ldS (some 5) S (T.get 6) = some p2 ∧ ∃ p3, ldS (some 5) S (T.get 7) = some p3 ∧ ∃ p4, bdS (fun i => [(0, 5), (5, 5)][i]?) [.int .i64 0, .int .i64 0, .string ⟨⟨[]⟩⟩, .int .i64 0, .slice none 0 0, .int .i64 0, .int .i64 0, .string ⟨⟨[]⟩⟩, .int .i64 0, .slice none 0 0] [(0, p2), (1, p3)] = some p4 ∧ ∃ p5, iaSS 10 (T.get 12) (T.get 10) = some p5 ∧ ∃ S6, stS 10 S p5 p4 = some S6 ∧ Q ((((((T.set (T.get 12) 62).set (T.get 10) 63).set p2 64).set p3 65).set p4 66).set p5 67) S6) := by kernel_rfl
theorem reg12_13 : mOps Tryz.prog O 72 (ro 12 13).toList (ro 12 13).toList [] T S Q =
  (∃ p0, ldS (some 1) S (T.get 4) = some p0 ∧ CallM Tryz.prog O 33 [p0, (T.get 1), (T.get 12)] S fun p3 S3 => ∃ S4, stS 1 S3 (T.get 8) p3 = some S4 ∧ Q (((((T.set p0 68).set (T.get 1) 69).set (T.get 12) 70).set p3 71).set (.int .i64 0) 9) S4) := by kernel_rfl
/-! ### 160: (*windlass/windlassref12.World).Put -/
theorem body160 : (Tryz.prog.funcs[160]?).bind (·.body) = some (.seq (.region 0 (ro 160 0) false) (.seq (.region 1 (ro 160 1) true) (.seq (.seq (.region 2 (ro 160 2) false) (.cond (.tmp 23) (.seq (.region 3 (ro 160 3) false) .ret) .skip)) (.seq (.region 4 (ro 160 4) false) (.seq (.region 5 (ro 160 5) false) .ret))))) := by kernel_rfl
theorem res160 : (Tryz.prog.funcs[160]?).map (·.results.toList) = some [.tmp 8] := by kernel_rfl
theorem is160 : fnIsB Tryz.prog 160 30 = true := by kernel_rfl
theorem reg160_0 : mOps Tryz.prog O 30 (ro 160 0).toList (ro 160 0).toList [] T S Q =
  (Q (((T.set (ptrTo S.n) 6).set (ptrTo (S.fresh (Value.cells (T.get 2)).toList 0).n) 7).set (.bool false) 8) ((S.fresh (Value.cells (T.get 2)).toList 0).fresh (Value.cells (T.get 3)).toList 0)) := by kernel_rfl
theorem reg160_1 : mDraw Tryz.prog O 30 (ro 160 1).toList T S Q =
  (∃ p1, nilS (T.get 0) = some p1 ∧ ∃ p2, faS 4 p1 = some p2 ∧ ∃ p3, ldS (some 1) S p2 = some p3 ∧ ∃ p5, ldS (some 5) S (T.get 6) = some p5 ∧ ∃ p6, ldS (some 5) S (T.get 7) = some p6 ∧ CallM Tryz.prog O 12 [p3, (T.get 1), p5, p6] S fun p7 S7 => ∃ p9, aextract p7 0 = some p9 ∧ ∃ S12, stS 1 (S7.fresh [.slice none 0 0] 0) (ptrTo S7.n) p9 = some S12 ∧ ∃ p10, aextract p7 1 = some p10 ∧ Q (((((((((((((T.set (T.get 0) 12).set p1 13).set p2 14).set p3 15).set (T.get 1) 16).set p5 17).set p6 18).set p7 19).set p7 11).set p9 20).set (ptrTo S7.n) 9).set p10 21).set p10 10) S12) := by kernel_rfl
theorem reg160_2 : mOps Tryz.prog O 30 (ro 160 2).toList (ro 160 2).toList [] T S Q =
  (∃ p1, abin Tryz.prog .neq 3 (.tmp 22) (.const (.int .i64 0)) (T.get 10) (.int .i64 0) = some p1 ∧ Q ((T.set (T.get 10) 22).set p1 23) S) := by kernel_rfl
theorem reg160_4 : mOps Tryz.prog O 30 (ro 160 4).toList (ro 160 4).toList [] T S Q =
  (∃ p1, ldS (some 1) S (T.get 9) = some p1 ∧ ∃ p2, nilS (T.get 0) = some p2 ∧ ∃ p3, faS 4 p2 = some p3 ∧ ∃ S4, stS 1 S p3 p1 = some S4 ∧ Q ((((T.set (T.get 0) 26).set p1 27).set p2 28).set p3 29) S4) := by kernel_rfl
theorem reg160_5 : mOps Tryz.prog O 30 (ro 160 5).toList (ro 160 5).toList [] T S Q =
  (Q (T.set (.bool false) 8) S) := by kernel_rfl
/-! ### 82: (*windlass/windlassref12.machine).run -/
noncomputable def blk82_2 : Code := .block 2 (.seq (.region 19 (ro 82 19) false) (.cond (.tmp 110) (.region 20 (ro 82 20) true) (.seq (.region 21 (ro 82 21) false) (.cond (.tmp 126) (.region 22 (ro 82 22) true) (.seq (.region 23 (ro 82 23) false) (.cond (.tmp 142) (.region 24 (ro 82 24) true) (.seq (.region 25 (ro 82 25) false) (.cond (.tmp 152) (.region 26 (ro 82 26) true) (.seq (.region 27 (ro 82 27) false) (.cond (.tmp 163) (.seq (.region 28 (ro 82 28) true) (.region 29 (ro 82 29) true)) (.seq (.region 30 (ro 82 30) false) (.cond (.tmp 193) (.region 31 (ro 82 31) true) (.seq (.region 32 (ro 82 32) false) (.cond (.tmp 209) (.region 33 (ro 82 33) true) (.seq (.region 34 (ro 82 34) false) (.cond (.tmp 227) (.seq (.region 35 (ro 82 35) true) (.region 36 (ro 82 36) true)) (.seq (.region 37 (ro 82 37) false) (.cond (.tmp 253) (.seq (.region 38 (ro 82 38) true) (.cond (.tmp 271) (.seq (.region 39 (ro 82 39) false) .ret) .skip)) (.seq (.region 40 (ro 82 40) false) (.cond (.tmp 273) (.region 41 (ro 82 41) true) (.seq (.region 42 (ro 82 42) false) (.cond (.tmp 296) (.seq (.region 43 (ro 82 43) true) (.seq (.seq (.region 44 (ro 82 44) false) (.cond (.tmp 317) (.region 45 (ro 82 45) true) .skip)) (.seq (.seq (.region 46 (ro 82 46) false) (.cond (.tmp 336) (.seq (.region 47 (ro 82 47) false) (.region 48 (ro 82 48) true)) .skip)) (.region 49 (ro 82 49) true)))) (.seq (.region 50 (ro 82 50) false) (.cond (.tmp 353) (.seq (.seq (.region 51 (ro 82 51) false) (.cond (.tmp 359) (.seq (.region 52 (ro 82 52) false) .ret) .skip)) (.seq (.region 53 (ro 82 53) true) (.seq (.region 54 (ro 82 54) true) (.seq (.seq (.region 55 (ro 82 55) false) (.cond (.tmp 395) (.seq (.region 56 (ro 82 56) false) .ret) .skip)) (.seq (.region 57 (ro 82 57) false) (.seq (.region 58 (ro 82 58) false) (.cond (.tmp 409) (.region 59 (ro 82 59) false) .skip))))))) (.seq (.region 60 (ro 82 60) false) (.cond (.tmp 415) (.seq (.region 61 (ro 82 61) true) (.seq (.seq (.region 62 (ro 82 62) false) (.cond (.tmp 440) (.seq (.region 63 (ro 82 63) false) .ret) .skip)) (.region 64 (ro 82 64) true))) (.seq (.region 65 (ro 82 65) false) (.cond (.tmp 448) (.seq (.region 66 (ro 82 66) true) (.cond (.tmp 460) (.seq (.region 67 (ro 82 67) false) .ret) .skip)) (.seq (.region 68 (ro 82 68) false) (.cond (.tmp 462) (.seq (.region 69 (ro 82 69) true) (.seq (.region 70 (ro 82 70) true) (.seq (.region 71 (ro 82 71) true) (.cond (.tmp 499) (.seq (.region 72 (ro 82 72) false) .ret) .skip)))) (.seq (.region 73 (ro 82 73) false) (.cond (.tmp 501) (.seq (.region 74 (ro 82 74) false) (.cond (.tmp 507) (.seq (.region 75 (ro 82 75) false) .ret) .skip)) (.seq (.region 76 (ro 82 76) false) (.cond (.tmp 509) (.seq (.region 77 (ro 82 77) false) (.cond (.tmp 515) (.seq (.region 78 (ro 82 78) false) .ret) .skip)) (.seq (.region 79 (ro 82 79) false) (.cond (.tmp 517) (.region 80 (ro 82 80) false) (.seq (.region 81 (ro 82 81) false) (.cond (.tmp 529) (.region 82 (ro 82 82) false) (.seq (.region 83 (ro 82 83) false) (.cond (.tmp 533) (.seq (.region 84 (ro 82 84) false) (.cond (.tmp 541) (.region 85 (ro 82 85) false) .skip)) (.seq (.region 86 (ro 82 86) false) (.cond (.tmp 544) (.seq (.seq (.region 87 (ro 82 87) false) (.cond (.tmp 548) (.seq (.region 88 (ro 82 88) false) .ret) .skip)) (.seq (.region 89 (ro 82 89) false) .ret)) (.seq (.region 12 (ro 82 12) false) (.seq (.seq (.region 13 (ro 82 13) false) (.cond (.tmp 77) (.region 14 (ro 82 14) false) .skip)) (.seq (.region 15 (ro 82 15) true) (.seq (.seq (.region 16 (ro 82 16) false) (.cond (.tmp 97) (.seq (.region 17 (ro 82 17) false) .ret) .skip)) (.region 18 (ro 82 18) false)))))))))))))))))))))))))))))))))))))))))))))))
noncomputable def blk82_1 : Code := .block 1 (.seq (.region 4 (ro 82 4) false) (.seq (.region 5 (ro 82 5) false) (.seq (.region 6 (ro 82 6) false) (.seq (.region 7 (ro 82 7) false) (.seq (.seq (.region 8 (ro 82 8) false) (.cond (.tmp 56) (.region 9 (ro 82 9) false) .skip)) (.seq (.region 10 (ro 82 10) true) (.seq (.region 11 (ro 82 11) false) blk82_2)))))))
noncomputable def blk82_0 : Code := .block 0 (.loop blk82_1)
theorem body82 : (Tryz.prog.funcs[82]?).bind (·.body) = some (.seq (.region 0 (ro 82 0) false) (.seq (.region 1 (ro 82 1) false) (.seq (.region 2 (ro 82 2) false) (.seq (.region 3 (ro 82 3) false) blk82_0)))) := by kernel_rfl
theorem res82 : (Tryz.prog.funcs[82]?).map (·.results.toList) = some [.cell 6 47, .tmp 7] := by kernel_rfl
theorem is82 : fnIsB Tryz.prog 82 555 = true := by kernel_rfl
theorem reg82_0 : mOps Tryz.prog O 555 (ro 82 0).toList (ro 82 0).toList [] T S Q =
  (Q (((T.set (ptrTo S.n) 4).set (ptrTo (S.fresh (Value.cells (T.get 1)).toList 0).n) 6).set (.bool false) 7) ((S.fresh (Value.cells (T.get 1)).toList 0).fresh [.int .i64 0, .int .i64 0, .string ⟨⟨[]⟩⟩, .int .i64 0, .slice none 0 0] 0)) := by kernel_rfl
theorem reg82_1 : mOps Tryz.prog O 555 (ro 82 1).toList (ro 82 1).toList [] T S Q =
  (∃ p0, faS 0 (T.get 4) = some p0 ∧ ∃ p1, ldS none S p0 = some p1 ∧ ∃ p2 S2, msS S 5 64 [.int .i64 0, .int .i64 0, .string ⟨⟨[]⟩⟩, .int .i64 0, .slice none 0 0] p1 p1 = some (p2, S2) ∧ Q ((((T.set p0 27).set p1 28).set p2 29).set p2 8) S2) := by kernel_rfl
theorem reg82_2 : mOps Tryz.prog O 555 (ro 82 2).toList (ro 82 2).toList [] T S Q =
  (∃ p2 S2, cpS 5 S [(T.get 8), (T.get 2)] = some (p2, S2) ∧ Q (((T.set (T.get 8) 30).set (T.get 2) 31).set p2 32) S2) := by kernel_rfl
theorem reg82_3 : mOps Tryz.prog O 555 (ro 82 3).toList (ro 82 3).toList [] T S Q =
  (Q (T.set (.int .i64 0) 9) S) := by kernel_rfl
theorem reg82_4 : mOps Tryz.prog O 555 (ro 82 4).toList (ro 82 4).toList [] T S Q =
  (∃ p0, faS 1 (T.get 4) = some p0 ∧ ∃ p1, ldS none S p0 = some p1 ∧ ∃ p3, iaSS 5 p1 (T.get 9) = some p3 ∧ ∃ p4, ldS (some 5) S p3 = some p4 ∧ ∃ S6, stS 5 (S.fresh [.int .i64 0, .int .i64 0, .int .i64 0, .int .i64 0, .int .i64 0] 0) (ptrTo S.n) p4 = some S6 ∧ Q ((((((T.set p0 33).set p1 34).set (T.get 9) 35).set p3 36).set p4 37).set (ptrTo S.n) 10) S6) := by kernel_rfl
theorem reg82_5 : mOps Tryz.prog O 555 (ro 82 5).toList (ro 82 5).toList [] T S Q =
  (∃ p1, abin Tryz.prog .add 3 (.tmp 38) (.const (.int .i64 1)) (T.get 9) (.int .i64 1) = some p1 ∧ Q (((T.set (T.get 9) 38).set p1 39).set p1 9) S) := by kernel_rfl
theorem reg82_6 : mOps Tryz.prog O 555 (ro 82 6).toList (ro 82 6).toList [] T S Q =
  (∃ p1, nilS (T.get 0) = some p1 ∧ ∃ p2, faS 9 p1 = some p2 ∧ ∃ p3, ldS none S p2 = some p3 ∧ ∃ p4, abin Tryz.prog .add 3 (.tmp 43) (.const (.int .i64 1)) p3 (.int .i64 1) = some p4 ∧ ∃ p5, nilS (T.get 0) = some p5 ∧ ∃ p6, faS 9 p5 = some p6 ∧ ∃ S7, stS 1 S p6 p4 = some S7 ∧ Q (((((((T.set (T.get 0) 40).set p1 41).set p2 42).set p3 43).set p4 44).set p5 45).set p6 46) S7) := by kernel_rfl
theorem reg82_7 : mOps Tryz.prog O 555 (ro 82 7).toList (ro 82 7).toList [] T S Q =
  (∃ p1, nilS (T.get 0) = some p1 ∧ ∃ p2, faS 10 p1 = some p2 ∧ ∃ p3, ldS none S p2 = some p3 ∧ ∃ p4, abin Tryz.prog .add 3 (.tmp 50) (.const (.int .i64 1)) p3 (.int .i64 1) = some p4 ∧ ∃ p5, nilS (T.get 0) = some p5 ∧ ∃ p6, faS 10 p5 = some p6 ∧ ∃ S7, stS 1 S p6 p4 = some S7 ∧ Q (((((((T.set (T.get 0) 47).set p1 48).set p2 49).set p3 50).set p4 51).set p5 52).set p6 53) S7) := by kernel_rfl
theorem reg82_8 : mOps Tryz.prog O 555 (ro 82 8).toList (ro 82 8).toList [] T S Q =
  (∃ p0, faS 0 (T.get 10) = some p0 ∧ ∃ p1, ldS none S p0 = some p1 ∧ ∃ p2, abin Tryz.prog .eql 3 (.tmp 55) (.const (.int .i64 35)) p1 (.int .i64 35) = some p2 ∧ Q (((T.set p0 54).set p1 55).set p2 56) S) := by kernel_rfl
theorem reg82_9 : mOps Tryz.prog O 555 (ro 82 9).toList (ro 82 9).toList [] T S Q =
  (∃ p1, nilS (T.get 0) = some p1 ∧ ∃ p2, faS 10 p1 = some p2 ∧ ∃ S3, stS 1 S p2 (.int .i64 0) = some S3 ∧ Q (((T.set (T.get 0) 57).set p1 58).set p2 59) S3) := by kernel_rfl
theorem reg82_10 : mDraw Tryz.prog O 555 (ro 82 10).toList T S Q =
  (∃ p2, nilS (T.get 0) = some p2 ∧ ∃ p3, faS 11 p2 = some p3 ∧ ∃ p4, ldS none S p3 = some p4 ∧ ∃ p6, nilS (T.get 0) = some p6 ∧ ∃ p7, faS 10 p6 = some p7 ∧ ∃ p8, ldS none S p7 = some p8 ∧ ∃ p9, aminmax true [p4, p8] = some p9 ∧ ∃ p10, nilS (T.get 0) = some p10 ∧ ∃ p11, faS 11 p10 = some p11 ∧ ∃ S12, stS 1 S p11 p9 = some S12 ∧ Q ((((((((((((T.set (T.get 0) 60).set (T.get 0) 61).set p2 62).set p3 63).set p4 64).set (T.get 0) 65).set p6 66).set p7 67).set p8 68).set p9 69).set p10 70).set p11 71) S12) := by kernel_rfl
theorem reg82_11 : mOps Tryz.prog O 555 (ro 82 11).toList (ro 82 11).toList [] T S Q =
  (∃ p0, faS 0 (T.get 10) = some p0 ∧ ∃ p1, ldS none S p0 = some p1 ∧ Q ((T.set p0 72).set p1 73) S) := by kernel_rfl
theorem reg82_19 : mOps Tryz.prog O 555 (ro 82 19).toList (ro 82 19).toList [] T S Q =
  (∃ p0, abin Tryz.prog .eql 3 (.tmp 73) (.const (.int .i64 1)) (T.get 73) (.int .i64 1) = some p0 ∧ Q ((T.set p0 111).set p0 110) S) := by kernel_rfl
theorem reg82_20 : mDraw Tryz.prog O 555 (ro 82 20).toList T S Q =
  (∃ p4, nilS (T.get 0) = some p4 ∧ ∃ p5, faS 0 p4 = some p5 ∧ ∃ p6, faS 4 p5 = some p6 ∧ ∃ p7, ldS none S p6 = some p7 ∧ ∃ p8, faS 4 (T.get 10) = some p8 ∧ ∃ p9, ldS none S p8 = some p9 ∧ ∃ p10, iaSS 1 p7 p9 = some p10 ∧ ∃ p11, ldS none S p10 = some p11 ∧ CallM Tryz.prog O 10 [p11] S fun p12 S12 => ∃ p1, faS 1 (T.get 10) = some p1 ∧ ∃ p2, ((ldS none S12 p1).bind fun v => (ldS none S p1).bind fun w => if veq v w then some v else none) = some p2 ∧ ∃ p13, iaSS 5 (T.get 8) p2 = some p13 ∧ ∃ S14, stS 5 S12 p13 p12 = some S14 ∧ Q ((((((((((((((T.set (T.get 0) 115).set p4 116).set p5 117).set p6 118).set p7 119).set p8 120).set p9 121).set p10 122).set p11 123).set p12 124).set (T.get 8) 112).set p1 113).set p2 114).set p13 125) S14) := by kernel_rfl
theorem reg82_21 : mOps Tryz.prog O 555 (ro 82 21).toList (ro 82 21).toList [] T S Q =
  (∃ p0, abin Tryz.prog .eql 3 (.tmp 73) (.const (.int .i64 2)) (T.get 73) (.int .i64 2) = some p0 ∧ Q ((T.set p0 127).set p0 126) S) := by kernel_rfl
theorem reg82_23 : mOps Tryz.prog O 555 (ro 82 23).toList (ro 82 23).toList [] T S Q =
  (∃ p0, abin Tryz.prog .eql 3 (.tmp 73) (.const (.int .i64 3)) (T.get 73) (.int .i64 3) = some p0 ∧ Q ((T.set p0 143).set p0 142) S) := by kernel_rfl
theorem reg82_25 : mOps Tryz.prog O 555 (ro 82 25).toList (ro 82 25).toList [] T S Q =
  (∃ p0, abin Tryz.prog .eql 3 (.tmp 73) (.const (.int .i64 4)) (T.get 73) (.int .i64 4) = some p0 ∧ Q ((T.set p0 153).set p0 152) S) := by kernel_rfl
theorem reg82_26 : mDraw Tryz.prog O 555 (ro 82 26).toList T S Q =
  (∃ p1, faS 1 (T.get 10) = some p1 ∧ ∃ p2, ldS none S p1 = some p2 ∧ ∃ p4, faS 2 (T.get 10) = some p4 ∧ ∃ p5, ldS none S p4 = some p5 ∧ ∃ p6, iaSS 5 (T.get 8) p5 = some p6 ∧ ∃ p7, ldS (some 5) S p6 = some p7 ∧ ∃ p8, iaSS 5 (T.get 8) p2 = some p8 ∧ ∃ S9, stS 5 S p8 p7 = some S9 ∧ Q (((((((((T.set (T.get 8) 154).set p1 155).set p2 156).set (T.get 8) 157).set p4 158).set p5 159).set p6 160).set p7 161).set p8 162) S9) := by kernel_rfl
theorem reg82_27 : mOps Tryz.prog O 555 (ro 82 27).toList (ro 82 27).toList [] T S Q =
  (∃ p0, abin Tryz.prog .eql 3 (.tmp 73) (.const (.int .i64 24)) (T.get 73) (.int .i64 24) = some p0 ∧ Q ((T.set p0 164).set p0 163) S) := by kernel_rfl
theorem reg82_30 : mOps Tryz.prog O 555 (ro 82 30).toList (ro 82 30).toList [] T S Q =
  (∃ p0, abin Tryz.prog .eql 3 (.tmp 73) (.const (.int .i64 25)) (T.get 73) (.int .i64 25) = some p0 ∧ Q ((T.set p0 194).set p0 193) S) := by kernel_rfl
theorem reg82_32 : mOps Tryz.prog O 555 (ro 82 32).toList (ro 82 32).toList [] T S Q =
  (∃ p0, abin Tryz.prog .eql 3 (.tmp 73) (.const (.int .i64 26)) (T.get 73) (.int .i64 26) = some p0 ∧ Q ((T.set p0 210).set p0 209) S) := by kernel_rfl
theorem reg82_34 : mOps Tryz.prog O 555 (ro 82 34).toList (ro 82 34).toList [] T S Q =
  (∃ p0, abin Tryz.prog .eql 3 (.tmp 73) (.const (.int .i64 27)) (T.get 73) (.int .i64 27) = some p0 ∧ Q ((T.set p0 228).set p0 227) S) := by kernel_rfl
theorem reg82_37 : mOps Tryz.prog O 555 (ro 82 37).toList (ro 82 37).toList [] T S Q =
  (∃ p0, abin Tryz.prog .eql 3 (.tmp 73) (.const (.int .i64 28)) (T.get 73) (.int .i64 28) = some p0 ∧ Q ((T.set p0 254).set p0 253) S) := by kernel_rfl
theorem reg82_38 : mDraw Tryz.prog O 555 (ro 82 38).toList T S Q =
  (∃ p1, nilS (T.get 0) = some p1 ∧ ∃ p2, faS 8 p1 = some p2 ∧ ∃ p3, ldS none S p2 = some p3 ∧ ∃ p4, faS 4 (T.get 10) = some p4 ∧ ∃ p5, ldS none S p4 = some p5 ∧ ∃ p7, faS 2 (T.get 10) = some p7 ∧ ∃ p8, ldS none S p7 = some p8 ∧ ∃ p9, iaSS 5 (T.get 8) p8 = some p9 ∧ ∃ p10, ldS (some 5) S p9 = some p10 ∧ ∃ p12, faS 3 (T.get 10) = some p12 ∧ ∃ p13, ldS none S p12 = some p13 ∧ ∃ p14, iaSS 5 (T.get 8) p13 = some p14 ∧ ∃ p15, ldS (some 5) S p14 = some p15 ∧ CallM Tryz.prog O 160 [p3, p5, p10, p15] S fun p16 S16 => Q (((((((((((((((((T.set (T.get 0) 255).set p1 256).set p2 257).set p3 258).set p4 259).set p5 260).set (T.get 8) 261).set p7 262).set p8 263).set p9 264).set p10 265).set (T.get 8) 266).set p12 267).set p13 268).set p14 269).set p15 270).set p16 271) S16) := by kernel_rfl
theorem reg82_40 : mOps Tryz.prog O 555 (ro 82 40).toList (ro 82 40).toList [] T S Q =
  (∃ p0, abin Tryz.prog .eql 3 (.tmp 73) (.const (.int .i64 29)) (T.get 73) (.int .i64 29) = some p0 ∧ Q ((T.set p0 274).set p0 273) S) := by kernel_rfl
theorem reg82_42 : mOps Tryz.prog O 555 (ro 82 42).toList (ro 82 42).toList [] T S Q =
  (∃ p0, abin Tryz.prog .eql 3 (.tmp 73) (.const (.int .i64 30)) (T.get 73) (.int .i64 30) = some p0 ∧ Q ((T.set p0 297).set p0 296) S) := by kernel_rfl
theorem reg82_50 : mOps Tryz.prog O 555 (ro 82 50).toList (ro 82 50).toList [] T S Q =
  (∃ p0, abin Tryz.prog .eql 3 (.tmp 73) (.const (.int .i64 31)) (T.get 73) (.int .i64 31) = some p0 ∧ Q ((T.set p0 354).set p0 353) S) := by kernel_rfl
theorem reg82_60 : mOps Tryz.prog O 555 (ro 82 60).toList (ro 82 60).toList [] T S Q =
  (∃ p0, abin Tryz.prog .eql 3 (.tmp 73) (.const (.int .i64 32)) (T.get 73) (.int .i64 32) = some p0 ∧ Q ((T.set p0 416).set p0 415) S) := by kernel_rfl
theorem reg82_65 : mOps Tryz.prog O 555 (ro 82 65).toList (ro 82 65).toList [] T S Q =
  (∃ p0, abin Tryz.prog .eql 3 (.tmp 73) (.const (.int .i64 33)) (T.get 73) (.int .i64 33) = some p0 ∧ Q ((T.set p0 449).set p0 448) S) := by kernel_rfl
theorem reg82_68 : mOps Tryz.prog O 555 (ro 82 68).toList (ro 82 68).toList [] T S Q =
  (∃ p0, abin Tryz.prog .eql 3 (.tmp 73) (.const (.int .i64 34)) (T.get 73) (.int .i64 34) = some p0 ∧ Q ((T.set p0 463).set p0 462) S) := by kernel_rfl
theorem reg82_73 : mOps Tryz.prog O 555 (ro 82 73).toList (ro 82 73).toList [] T S Q =
  (∃ p0, abin Tryz.prog .eql 3 (.tmp 73) (.const (.int .i64 35)) (T.get 73) (.int .i64 35) = some p0 ∧ Q ((T.set p0 502).set p0 501) S) := by kernel_rfl
theorem reg82_74 : mOps Tryz.prog O 555 (ro 82 74).toList (ro 82 74).toList [] T S Q =
  (∃ p1, nilS (T.get 0) = some p1 ∧ ∃ p2, faS 8 p1 = some p2 ∧ ∃ p3, ldS none S p2 = some p3 ∧ CallM Tryz.prog O 168 [p3] S fun p4 S4 => Q (((((T.set (T.get 0) 503).set p1 504).set p2 505).set p3 506).set p4 507) S4) := by kernel_rfl
theorem reg82_76 : mOps Tryz.prog O 555 (ro 82 76).toList (ro 82 76).toList [] T S Q =
  (∃ p0, abin Tryz.prog .eql 3 (.tmp 73) (.const (.int .i64 36)) (T.get 73) (.int .i64 36) = some p0 ∧ Q ((T.set p0 510).set p0 509) S) := by kernel_rfl
theorem reg82_79 : mOps Tryz.prog O 555 (ro 82 79).toList (ro 82 79).toList [] T S Q =
  (∃ p0, abin Tryz.prog .eql 3 (.tmp 73) (.const (.int .i64 37)) (T.get 73) (.int .i64 37) = some p0 ∧ Q ((T.set p0 518).set p0 517) S) := by kernel_rfl
theorem reg82_81 : mOps Tryz.prog O 555 (ro 82 81).toList (ro 82 81).toList [] T S Q =
  (∃ p0, abin Tryz.prog .eql 3 (.tmp 73) (.const (.int .i64 38)) (T.get 73) (.int .i64 38) = some p0 ∧ Q ((T.set p0 530).set p0 529) S) := by kernel_rfl
theorem reg82_82 : mOps Tryz.prog O 555 (ro 82 82).toList (ro 82 82).toList [] T S Q =
  (∃ p0, faS 4 (T.get 10) = some p0 ∧ ∃ p1, ldS none S p0 = some p1 ∧ Q (((T.set p0 531).set p1 532).set p1 9) S) := by kernel_rfl
theorem reg82_83 : mOps Tryz.prog O 555 (ro 82 83).toList (ro 82 83).toList [] T S Q =
  (∃ p0, abin Tryz.prog .eql 3 (.tmp 73) (.const (.int .i64 39)) (T.get 73) (.int .i64 39) = some p0 ∧ Q ((T.set p0 534).set p0 533) S) := by kernel_rfl
theorem reg82_84 : mOps Tryz.prog O 555 (ro 82 84).toList (ro 82 84).toList [] T S Q =
  (∃ p1, faS 2 (T.get 10) = some p1 ∧ ∃ p2, ldS none S p1 = some p2 ∧ ∃ p3, iaSS 5 (T.get 8) p2 = some p3 ∧ ∃ p4, faS 1 p3 = some p4 ∧ ∃ p5, ldS none S p4 = some p5 ∧ ∃ p6, abin Tryz.prog .neq 2 (.tmp 540) (.const (.int .i64 1)) p5 (.int .i64 1) = some p6 ∧ Q (((((((T.set (T.get 8) 535).set p1 536).set p2 537).set p3 538).set p4 539).set p5 540).set p6 541) S) := by kernel_rfl
theorem reg82_85 : mOps Tryz.prog O 555 (ro 82 85).toList (ro 82 85).toList [] T S Q =
  (∃ p0, faS 4 (T.get 10) = some p0 ∧ ∃ p1, ldS none S p0 = some p1 ∧ Q (((T.set p0 542).set p1 543).set p1 9) S) := by kernel_rfl
theorem reg82_86 : mOps Tryz.prog O 555 (ro 82 86).toList (ro 82 86).toList [] T S Q =
  (∃ p0, abin Tryz.prog .eql 3 (.tmp 73) (.const (.int .i64 40)) (T.get 73) (.int .i64 40) = some p0 ∧ Q ((T.set p0 545).set p0 544) S) := by kernel_rfl
theorem reg82_87 : mOps Tryz.prog O 555 (ro 82 87).toList (ro 82 87).toList [] T S Q =
  (∃ p0, faS 2 (T.get 10) = some p0 ∧ ∃ p1, ldS none S p0 = some p1 ∧ ∃ p2, abin Tryz.prog .lss 3 (.tmp 547) (.const (.int .i64 0)) p1 (.int .i64 0) = some p2 ∧ Q (((T.set p0 546).set p1 547).set p2 548) S) := by kernel_rfl
theorem reg82_88 : mOps Tryz.prog O 555 (ro 82 88).toList (ro 82 88).toList [] T S Q =
  (∃ p0, bdS (fun i => [(0, 1), (1, 1), (2, 1), (3, 1), (4, 1)][i]?) [.int .i64 0, .int .i64 0, .string ⟨⟨[]⟩⟩, .int .i64 0, .slice none 0 0] [] = some p0 ∧ ∃ S1, stS 5 S (T.get 6) p0 = some S1 ∧ Q ((T.set p0 549).set (.bool false) 7) S1) := by kernel_rfl
theorem reg82_12 : mOps Tryz.prog O 555 (ro 82 12).toList (ro 82 12).toList [] T S Q =
  (∃ p0, bdS (fun i => [(0, 1), (1, 1), (2, 1), (3, 1), (4, 1)][i]?) [.int .i64 0, .int .i64 0, .string ⟨⟨[]⟩⟩, .int .i64 0, .slice none 0 0] [] = some p0 ∧ ∃ S2, stS 5 (S.fresh [.int .i64 0, .int .i64 0, .string ⟨⟨[]⟩⟩, .int .i64 0, .slice none 0 0] 0) (ptrTo S.n) p0 = some S2 ∧ Q ((T.set p0 74).set (ptrTo S.n) 23) S2) := by kernel_rfl
theorem reg82_13 : mOps Tryz.prog O 555 (ro 82 13).toList (ro 82 13).toList [] T S Q =
  (∃ p0, faS 0 (T.get 10) = some p0 ∧ ∃ p1, ldS none S p0 = some p1 ∧ ∃ p2, abin Tryz.prog .leq 3 (.tmp 76) (.const (.int .i64 19)) p1 (.int .i64 19) = some p2 ∧ Q (((T.set p0 75).set p1 76).set p2 77) S) := by kernel_rfl
theorem reg82_14 : mOps Tryz.prog O 555 (ro 82 14).toList (ro 82 14).toList [] T S Q =
  (∃ p1, faS 3 (T.get 10) = some p1 ∧ ∃ p2, ldS none S p1 = some p2 ∧ ∃ p3, iaSS 5 (T.get 8) p2 = some p3 ∧ ∃ p4, ldS (some 5) S p3 = some p4 ∧ ∃ S5, stS 5 S (T.get 23) p4 = some S5 ∧ Q (((((T.set (T.get 8) 78).set p1 79).set p2 80).set p3 81).set p4 82) S5) := by kernel_rfl
theorem reg82_15 : mDraw Tryz.prog O 555 (ro 82 15).toList T S Q =
  (∃ p0, faS 0 (T.get 10) = some p0 ∧ ∃ p1, ldS none S p0 = some p1 ∧ ∃ p3, faS 2 (T.get 10) = some p3 ∧ ∃ p4, ldS none S p3 = some p4 ∧ ∃ p5, iaSS 5 (T.get 8) p4 = some p5 ∧ ∃ p6, ldS (some 5) S p5 = some p6 ∧ ∃ p7, ldS (some 5) S (T.get 23) = some p7 ∧ CallM Tryz.prog O 169 [p1, p6, p7] S fun p8 S8 => ∃ p10, aextract p8 0 = some p10 ∧ ∃ S14, stS 5 (S8.fresh [.int .i64 0, .int .i64 0, .string ⟨⟨[]⟩⟩, .int .i64 0, .slice none 0 0] 0) (ptrTo S8.n) p10 = some S14 ∧ ∃ p11, aextract p8 1 = some p11 ∧ ∃ p12, aextract p8 2 = some p12 ∧ Q ((((((((((((((((T.set p0 84).set p1 85).set (T.get 8) 86).set p3 87).set p4 88).set p5 89).set p6 90).set p7 91).set p8 92).set p8 83).set p10 93).set (ptrTo S8.n) 24).set p11 94).set p12 95).set p11 25).set p12 26) S14) := by kernel_rfl
theorem reg82_16 : mOps Tryz.prog O 555 (ro 82 16).toList (ro 82 16).toList [] T S Q =
  (∃ p1, abin Tryz.prog .neq 3 (.tmp 96) (.const (.int .i64 0)) (T.get 25) (.int .i64 0) = some p1 ∧ Q ((T.set (T.get 25) 96).set p1 97) S) := by kernel_rfl
theorem reg82_18 : mOps Tryz.prog O 555 (ro 82 18).toList (ro 82 18).toList [] T S Q =
  (∃ p1, faS 1 (T.get 10) = some p1 ∧ ∃ p2, ldS none S p1 = some p2 ∧ ∃ p3, ldS (some 5) S (T.get 24) = some p3 ∧ ∃ p4, iaSS 5 (T.get 8) p2 = some p4 ∧ ∃ S5, stS 5 S p4 p3 = some S5 ∧ Q (((((T.set (T.get 8) 105).set p1 106).set p2 107).set p3 108).set p4 109) S5) := by kernel_rfl
/-! ### 240: windlass/windlassref3.Is -/
noncomputable def blk240_1 : Code := .block 1 (.seq (.region 11 (ro 240 11) true) (.cond (.tmp 67) (.seq (.region 12 (ro 240 12) false) .ret) .skip))
noncomputable def blk240_0 : Code := .block 0 (.loop (.seq (.seq (.region 9 (ro 240 9) false) (.cond (.tmp 52) .skip (.exit 0))) (.seq blk240_1 (.region 10 (ro 240 10) false))))
theorem body240 : (Tryz.prog.funcs[240]?).bind (·.body) = some (.seq (.region 0 (ro 240 0) false) (.seq (.seq (.region 1 (ro 240 1) false) (.cond (.tmp 24) (.seq (.region 2 (ro 240 2) false) .ret) .skip)) (.seq (.seq (.region 3 (ro 240 3) false) (.cond (.tmp 27) (.seq (.region 4 (ro 240 4) false) .ret) .skip)) (.seq (.region 5 (ro 240 5) false) (.seq (.seq (.region 6 (ro 240 6) false) (.cond (.tmp 47) (.seq (.region 7 (ro 240 7) false) .ret) .skip)) (.seq (.seq (.region 8 (ro 240 8) false) blk240_0) (.seq (.region 13 (ro 240 13) false) .ret))))))) := by kernel_rfl
theorem res240 : (Tryz.prog.funcs[240]?).map (·.results.toList) = some [.tmp 6] := by kernel_rfl
theorem is240 : fnIsB Tryz.prog 240 68 = true := by kernel_rfl
theorem reg240_0 : mOps Tryz.prog O 68 (ro 240 0).toList (ro 240 0).toList [] T S Q =
  (Q ((((T.set (ptrTo S.n) 3).set (ptrTo (S.fresh (Value.cells (T.get 0)).toList 0).n) 4).set (ptrTo ((S.fresh (Value.cells (T.get 0)).toList 0).fresh (Value.cells (T.get 1)).toList 0).n) 5).set (.bool false) 6) (((S.fresh (Value.cells (T.get 0)).toList 0).fresh (Value.cells (T.get 1)).toList 0).fresh (Value.cells (T.get 2)).toList 0)) := by kernel_rfl
theorem reg240_1 : mOps Tryz.prog O 68 (ro 240 1).toList (ro 240 1).toList [] T S Q =
  (∃ p0, ldS (some 4) S (T.get 3) = some p0 ∧ ∃ p1, ldS (some 2) S (T.get 4) = some p1 ∧ CallM Tryz.prog O 151 [p0, p1] S fun p2 S2 => ∃ p3, aunary .not p2 = some p3 ∧ ∃ b4, p3 = .bool b4 ∧
       (b4 = true → ∃ p8, pickS p3 (.bool true) undef = some p8 ∧ ∃ b9, p8 = .bool b9 ∧
            (b9 = true → ∃ p15, pickS p8 (.bool true) undef = some p15 ∧ Q ((((((((((((((((T.set p0 9).set p1 10).set p2 11).set p3 12).set p3 13).set undef 14).set undef 15).set undef 16).set p8 17).set p8 18).set undef 19).set undef 20).set undef 21).set undef 22).set undef 23).set p15 24) S2) ∧
            (b9 = false → ∃ p10, faS 0 (T.get 5) = some p10 ∧ ∃ p11, ldS none S2 p10 = some p11 ∧ ∃ p12, faS 0 (T.get 4) = some p12 ∧ ∃ p13, ldS none S2 p12 = some p13 ∧ ∃ p14, abin Tryz.prog .neq 3 (.tmp 20) (.tmp 22) p11 p13 = some p14 ∧ ∃ p15, pickS p8 (.bool true) p14 = some p15 ∧ Q ((((((((((((((((T.set p0 9).set p1 10).set p2 11).set p3 12).set p3 13).set undef 14).set undef 15).set undef 16).set p8 17).set p8 18).set p10 19).set p11 20).set p12 21).set p13 22).set p14 23).set p15 24) S2)) ∧
       (b4 = false → ∃ p5, ldS (some 5) S2 (T.get 5) = some p5 ∧ CallM Tryz.prog O 302 [p5] S2 fun p6 S6 => ∃ p7, aunary .not p6 = some p7 ∧ ∃ p8, pickS p3 (.bool true) p7 = some p8 ∧ ∃ b9, p8 = .bool b9 ∧
            (b9 = true → ∃ p15, pickS p8 (.bool true) undef = some p15 ∧ Q ((((((((((((((((T.set p0 9).set p1 10).set p2 11).set p3 12).set p3 13).set p5 14).set p6 15).set p7 16).set p8 17).set p8 18).set undef 19).set undef 20).set undef 21).set undef 22).set undef 23).set p15 24) S6) ∧
            (b9 = false → ∃ p10, faS 0 (T.get 5) = some p10 ∧ ∃ p11, ldS none S6 p10 = some p11 ∧ ∃ p12, faS 0 (T.get 4) = some p12 ∧ ∃ p13, ldS none S6 p12 = some p13 ∧ ∃ p14, abin Tryz.prog .neq 3 (.tmp 20) (.tmp 22) p11 p13 = some p14 ∧ ∃ p15, pickS p8 (.bool true) p14 = some p15 ∧ Q ((((((((((((((((T.set p0 9).set p1 10).set p2 11).set p3 12).set p3 13).set p5 14).set p6 15).set p7 16).set p8 17).set p8 18).set p10 19).set p11 20).set p12 21).set p13 22).set p14 23).set p15 24) S6))) := by kernel_rfl
theorem reg240_3 : mOps Tryz.prog O 68 (ro 240 3).toList (ro 240 3).toList [] T S Q =
  (∃ p0, faS 0 (T.get 4) = some p0 ∧ ∃ p1, ldS none S p0 = some p1 ∧ ∃ p2, abin Tryz.prog .neq 3 (.tmp 26) (.const (.int .i64 4)) p1 (.int .i64 4) = some p2 ∧ Q (((T.set p0 25).set p1 26).set p2 27) S) := by kernel_rfl
theorem reg240_4 : mOps Tryz.prog O 68 (ro 240 4).toList (ro 240 4).toList [] T S Q =
  (Q (T.set (.bool true) 6) S) := by kernel_rfl
/-! ### 155: windlass/windlassref12.Fits -/
noncomputable def blk155_1 : Code := .block 1 (.seq (.region 7 (ro 155 7) true) (.cond (.tmp 50) (.seq (.region 8 (ro 155 8) false) .ret) .skip))
noncomputable def blk155_0 : Code := .block 0 (.loop (.seq (.seq (.region 5 (ro 155 5) false) (.cond (.tmp 31) .skip (.exit 0))) (.seq blk155_1 (.region 6 (ro 155 6) false))))
theorem body155 : (Tryz.prog.funcs[155]?).bind (·.body) = some (.seq (.region 0 (ro 155 0) false) (.seq (.region 1 (ro 155 1) false) (.seq (.seq (.region 2 (ro 155 2) true) (.cond (.tmp 26) (.seq (.region 3 (ro 155 3) false) .ret) .skip)) (.seq (.seq (.region 4 (ro 155 4) false) blk155_0) (.seq (.region 9 (ro 155 9) false) .ret))))) := by kernel_rfl
theorem res155 : (Tryz.prog.funcs[155]?).map (·.results.toList) = some [.tmp 4, .tmp 5] := by kernel_rfl
theorem is155 : fnIsB Tryz.prog 155 52 = true := by kernel_rfl
theorem reg155_0 : mOps Tryz.prog O 52 (ro 155 0).toList (ro 155 0).toList [] T S Q =
  (Q ((((T.set (ptrTo S.n) 2).set (ptrTo (S.fresh (Value.cells (T.get 0)).toList 0).n) 3).set (.int .i64 0) 4).set (.bool false) 5) ((S.fresh (Value.cells (T.get 0)).toList 0).fresh (Value.cells (T.get 1)).toList 0)) := by kernel_rfl
theorem reg155_1 : mOps Tryz.prog O 52 (ro 155 1).toList (ro 155 1).toList [] T S Q =
  (∃ p0, ldS (some 4) S (T.get 2) = some p0 ∧ ∃ p1, faS 0 (T.get 3) = some p1 ∧ ∃ p2, ldS none S p1 = some p2 ∧ CallM Tryz.prog O 241 [p0, (.int .i64 3), p2] S fun p3 S3 => Q (((((T.set p0 8).set p1 9).set p2 10).set p3 11).set p3 6) S3) := by kernel_rfl
theorem reg155_2 : mDraw Tryz.prog O 52 (ro 155 2).toList T S Q =
  (∃ p1, abin Tryz.prog .lss 3 (.tmp 12) (.const (.int .i64 0)) (T.get 6) (.int .i64 0) = some p1 ∧ ∃ b2, p1 = .bool b2 ∧
     (b2 = true → ∃ p14, pickS p1 (.bool true) undef = some p14 ∧ Q (((((((((((((((T.set (T.get 6) 12).set p1 13).set p1 14).set undef 15).set undef 16).set undef 17).set undef 18).set undef 19).set undef 20).set undef 21).set undef 22).set undef 23).set undef 24).set undef 25).set p14 26) S) ∧
     (b2 = false → ∃ p3, faS 1 (T.get 3) = some p3 ∧ ∃ p4, ldS none S p3 = some p4 ∧ ∃ p5, lenSl p4 = some p5 ∧ ∃ p6, faS 3 (T.get 2) = some p6 ∧ ∃ p7, ldS none S p6 = some p7 ∧ ∃ p9, iaSS 4 p7 (T.get 6) = some p9 ∧ ∃ p10, faS 1 p9 = some p10 ∧ ∃ p11, ldS none S p10 = some p11 ∧ ∃ p12, lenSl p11 = some p12 ∧ ∃ p13, abin Tryz.prog .neq 3 (.tmp 17) (.tmp 24) p5 p12 = some p13 ∧ ∃ p14, pickS p1 (.bool true) p13 = some p14 ∧ Q (((((((((((((((T.set (T.get 6) 12).set p1 13).set p1 14).set p3 15).set p4 16).set p5 17).set p6 18).set p7 19).set (T.get 6) 20).set p9 21).set p10 22).set p11 23).set p12 24).set p13 25).set p14 26) S)) := by kernel_rfl
theorem reg155_4 : mOps Tryz.prog O 52 (ro 155 4).toList (ro 155 4).toList [] T S Q =
  (Q (T.set (.int .i64 0) 7) S) := by kernel_rfl
theorem reg155_5 : mOps Tryz.prog O 52 (ro 155 5).toList (ro 155 5).toList [] T S Q =
  (∃ p1, faS 1 (T.get 3) = some p1 ∧ ∃ p2, ldS none S p1 = some p2 ∧ ∃ p3, lenSl p2 = some p3 ∧ ∃ p4, abin Tryz.prog .lss 3 (.tmp 27) (.tmp 30) (T.get 7) p3 = some p4 ∧ Q (((((T.set (T.get 7) 27).set p1 28).set p2 29).set p3 30).set p4 31) S) := by kernel_rfl
theorem reg155_7 : mDraw Tryz.prog O 52 (ro 155 7).toList T S Q =
  (∃ p0, ldS (some 4) S (T.get 2) = some p0 ∧ ∃ p1, faS 3 (T.get 2) = some p1 ∧ ∃ p2, ldS none S p1 = some p2 ∧ ∃ p4, iaSS 4 p2 (T.get 6) = some p4 ∧ ∃ p5, faS 1 p4 = some p5 ∧ ∃ p6, ldS none S p5 = some p6 ∧ ∃ p8, iaSS 2 p6 (T.get 7) = some p8 ∧ ∃ p9, ldS (some 2) S p8 = some p9 ∧ ∃ p10, faS 1 (T.get 3) = some p10 ∧ ∃ p11, ldS none S p10 = some p11 ∧ ∃ p13, iaSS 5 p11 (T.get 7) = some p13 ∧ ∃ p14, ldS (some 5) S p13 = some p14 ∧ CallM Tryz.prog O 240 [p0, p9, p14] S fun p15 S15 => ∃ p16, aunary .not p15 = some p16 ∧ Q (((((((((((((((((T.set p0 34).set p1 35).set p2 36).set (T.get 6) 37).set p4 38).set p5 39).set p6 40).set (T.get 7) 41).set p8 42).set p9 43).set p10 44).set p11 45).set (T.get 7) 46).set p13 47).set p14 48).set p15 49).set p16 50) S15) := by kernel_rfl
theorem reg155_6 : mOps Tryz.prog O 52 (ro 155 6).toList (ro 155 6).toList [] T S Q =
  (∃ p1, abin Tryz.prog .add 3 (.tmp 32) (.const (.int .i64 1)) (T.get 7) (.int .i64 1) = some p1 ∧ Q (((T.set (T.get 7) 32).set p1 33).set p1 7) S) := by kernel_rfl
theorem reg155_9 : mOps Tryz.prog O 52 (ro 155 9).toList (ro 155 9).toList [] T S Q =
  (Q (((T.set (T.get 6) 51).set (T.get 6) 4).set (.bool true) 5) S) := by kernel_rfl
/-! ### 81: windlass/windlassref12.Ready -/
theorem body81 : (Tryz.prog.funcs[81]?).bind (·.body) = some (.seq (.region 0 (ro 81 0) false) (.seq (.region 1 (ro 81 1) false) (.seq (.seq (.region 2 (ro 81 2) false) (.cond (.tmp 18) (.seq (.region 3 (ro 81 3) false) .ret) .skip)) (.seq (.seq (.region 4 (ro 81 4) false) (.cond (.tmp 23) (.seq (.region 5 (ro 81 5) false) .ret) .skip)) (.seq (.region 6 (ro 81 6) false) (.seq (.seq (.region 7 (ro 81 7) false) (.cond (.tmp 32) (.seq (.region 8 (ro 81 8) false) .ret) .skip)) (.seq (.region 9 (ro 81 9) false) .ret))))))) := by kernel_rfl
theorem res81 : (Tryz.prog.funcs[81]?).map (·.results.toList) = some [.tmp 6, .tmp 7] := by kernel_rfl
theorem is81 : fnIsB Tryz.prog 81 34 = true := by kernel_rfl
theorem reg81_0 : mOps Tryz.prog O 34 (ro 81 0).toList (ro 81 0).toList [] T S Q =
  (Q (((((T.set (ptrTo S.n) 3).set (ptrTo (S.fresh (Value.cells (T.get 0)).toList 0).n) 4).set (ptrTo ((S.fresh (Value.cells (T.get 0)).toList 0).fresh (Value.cells (T.get 1)).toList 0).n) 5).set (.int .i64 0) 6).set (.int .i64 0) 7) (((S.fresh (Value.cells (T.get 0)).toList 0).fresh (Value.cells (T.get 1)).toList 0).fresh (Value.cells (T.get 2)).toList 0)) := by kernel_rfl
theorem reg81_1 : mOps Tryz.prog O 34 (ro 81 1).toList (ro 81 1).toList [] T S Q =
  (∃ p0, ldS (some 8) S (T.get 3) = some p0 ∧ CallM Tryz.prog O 39 [p0] S fun p1 S1 => ∃ p3, aextract p1 0 = some p3 ∧ ∃ p4, aextract p1 1 = some p4 ∧ Q (((((((T.set p0 13).set p1 14).set p1 12).set p3 15).set p4 16).set p3 8).set p4 9) S1) := by kernel_rfl
theorem reg81_2 : mOps Tryz.prog O 34 (ro 81 2).toList (ro 81 2).toList [] T S Q =
  (∃ p1, abin Tryz.prog .neq 3 (.tmp 17) (.const (.int .i64 0)) (T.get 9) (.int .i64 0) = some p1 ∧ Q ((T.set (T.get 9) 17).set p1 18) S) := by kernel_rfl
theorem reg81_4 : mOps Tryz.prog O 34 (ro 81 4).toList (ro 81 4).toList [] T S Q =
  (∃ p0, faS 0 (T.get 3) = some p0 ∧ ∃ p1, ldS (some 4) S p0 = some p1 ∧ ∃ p2, ldS (some 1) S (T.get 4) = some p2 ∧ CallM Tryz.prog O 154 [p1, p2] S fun p3 S3 => ∃ p4, aunary .not p3 = some p4 ∧ Q (((((T.set p0 19).set p1 20).set p2 21).set p3 22).set p4 23) S3) := by kernel_rfl
theorem reg81_6 : mOps Tryz.prog O 34 (ro 81 6).toList (ro 81 6).toList [] T S Q =
  (∃ p0, faS 0 (T.get 3) = some p0 ∧ ∃ p1, ldS (some 4) S p0 = some p1 ∧ ∃ p2, ldS (some 2) S (T.get 5) = some p2 ∧ CallM Tryz.prog O 155 [p1, p2] S fun p3 S3 => ∃ p5, aextract p3 0 = some p5 ∧ ∃ p6, aextract p3 1 = some p6 ∧ Q (((((((((T.set p0 25).set p1 26).set p2 27).set p3 28).set p3 24).set p5 29).set p6 30).set p5 10).set p6 11) S3) := by kernel_rfl
theorem reg81_7 : mOps Tryz.prog O 34 (ro 81 7).toList (ro 81 7).toList [] T S Q =
  (∃ p1, aunary .not (T.get 11) = some p1 ∧ Q ((T.set (T.get 11) 31).set p1 32) S) := by kernel_rfl
theorem reg81_9 : mOps Tryz.prog O 34 (ro 81 9).toList (ro 81 9).toList [] T S Q =
  (Q (((T.set (T.get 10) 33).set (T.get 10) 6).set (.int .i64 0) 7) S) := by kernel_rfl
/-! ### 30: windlass/windlassref12.start -/
theorem body30 : (Tryz.prog.funcs[30]?).bind (·.body) = some (.seq (.region 0 (ro 30 0) false) (.seq (.region 1 (ro 30 1) false) (.seq (.seq (.region 2 (ro 30 2) false) (.cond (.tmp 23) (.seq (.region 3 (ro 30 3) false) .ret) .skip)) (.seq (.region 4 (ro 30 4) false) (.seq (.region 5 (ro 30 5) true) (.seq (.region 6 (ro 30 6) false) .ret)))))) := by kernel_rfl
theorem res30 : (Tryz.prog.funcs[30]?).map (·.results.toList) = some [.tmp 10, .tmp 11] := by kernel_rfl
theorem is30 : fnIsB Tryz.prog 30 45 = true := by kernel_rfl
theorem reg30_0 : mOps Tryz.prog O 45 (ro 30 0).toList (ro 30 0).toList [] T S Q =
  (Q (((((T.set (ptrTo S.n) 5).set (ptrTo (S.fresh (Value.cells (T.get 0)).toList 0).n) 6).set (ptrTo ((S.fresh (Value.cells (T.get 0)).toList 0).fresh (Value.cells (T.get 1)).toList 0).n) 7).set (.pointer none) 10).set (.int .i64 0) 11) (((S.fresh (Value.cells (T.get 0)).toList 0).fresh (Value.cells (T.get 1)).toList 0).fresh (Value.cells (T.get 2)).toList 0)) := by kernel_rfl
theorem reg30_1 : mOps Tryz.prog O 45 (ro 30 1).toList (ro 30 1).toList [] T S Q =
  (∃ p0, ldS (some 8) S (T.get 5) = some p0 ∧ ∃ p1, ldS (some 1) S (T.get 6) = some p1 ∧ ∃ p2, ldS (some 2) S (T.get 7) = some p2 ∧ CallM Tryz.prog O 81 [p0, p1, p2] S fun p3 S3 => ∃ p5, aextract p3 0 = some p5 ∧ ∃ p6, aextract p3 1 = some p6 ∧ Q (((((((((T.set p0 16).set p1 17).set p2 18).set p3 19).set p3 15).set p5 20).set p6 21).set p5 12).set p6 13) S3) := by kernel_rfl
theorem reg30_2 : mOps Tryz.prog O 45 (ro 30 2).toList (ro 30 2).toList [] T S Q =
  (∃ p1, abin Tryz.prog .neq 3 (.tmp 22) (.const (.int .i64 0)) (T.get 13) (.int .i64 0) = some p1 ∧ Q ((T.set (T.get 13) 22).set p1 23) S) := by kernel_rfl
theorem reg30_4 : mOps Tryz.prog O 45 (ro 30 4).toList (ro 30 4).toList [] T S Q =
  (∃ p0, ldS (some 8) S (T.get 5) = some p0 ∧ ∃ p1, faS 0 (T.get 5) = some p1 ∧ ∃ p2, ldS (some 4) S p1 = some p2 ∧ ∃ p3, ldS (some 1) S (T.get 6) = some p3 ∧ ∃ p6, bdS (fun i => [(0, 4), (4, 1), (5, 1), (6, 1), (7, 1), (8, 7), (15, 1), (16, 1)][i]?) [.slice none 0 0, .slice none 0 0, .slice none 0 0, .slice none 0 0, .slice none 0 0, .slice none 0 0, .int .i64 0, .int .i64 0, .int .i64 0, .int .i64 0, .slice none 0 0, .slice none 0 0, .slice none 0 0, .slice none 0 0, .int .i64 0, .int .i64 0, .bool false] [(0, p2), (1, p3), (2, (T.get 3)), (3, (T.get 4))] = some p6 ∧ ∃ p8, bdS (fun i => [(0, 8), (8, 1), (9, 1), (10, 1), (11, 1)][i]?) [.slice none 0 0, .slice none 0 0, .slice none 0 0, .slice none 0 0, .slice none 0 0, .slice none 0 0, .slice none 0 0, .slice none 0 0, .pointer none, .int .i64 0, .int .i64 0, .int .i64 0] [(0, p0), (1, (ptrTo S.n))] = some p8 ∧ Q (((((((((((T.set p0 25).set p1 26).set p2 27).set p3 28).set (T.get 3) 29).set (T.get 4) 30).set p6 31).set (ptrTo S.n) 32).set p8 33).set (ptrTo (S.fresh (Value.cells p6).toList 0).n) 34).set (ptrTo (S.fresh (Value.cells p6).toList 0).n) 14) ((S.fresh (Value.cells p6).toList 0).fresh (Value.cells p8).toList 0)) := by kernel_rfl
theorem reg30_5 : mDraw Tryz.prog O 45 (ro 30 5).toList T S Q =
  (∃ p1, faS 7 (T.get 5) = some p1 ∧ ∃ p2, ldS none S p1 = some p2 ∧ ∃ p4, iaSS 2 p2 (T.get 12) = some p4 ∧ ∃ p5, ldS (some 2) S p4 = some p5 ∧ ∃ p6, faS 1 (T.get 7) = some p6 ∧ ∃ p7, ldS none S p6 = some p7 ∧ CallM Tryz.prog O 82 [(T.get 14), p5, p7] S fun p8 S8 => Q (((((((((T.set (T.get 14) 35).set p1 36).set p2 37).set (T.get 12) 38).set p4 39).set p5 40).set p6 41).set p7 42).set p8 43) S8) := by kernel_rfl
theorem reg30_6 : mOps Tryz.prog O 45 (ro 30 6).toList (ro 30 6).toList [] T S Q =
  (Q (((T.set (T.get 14) 44).set (T.get 14) 10).set (.int .i64 0) 11) S) := by kernel_rfl
/-! ### 31: (*windlass/windlassref12.World).Finish -/
theorem body31 : (Tryz.prog.funcs[31]?).bind (·.body) = some (.seq (.region 0 (ro 31 0) false) (.seq (.region 1 (ro 31 1) false) (.seq (.region 2 (ro 31 2) false) (.seq (.seq (.region 3 (ro 31 3) false) (.cond (.tmp 26) (.seq (.region 4 (ro 31 4) false) (.seq (.region 5 (ro 31 5) false) .ret)) .skip)) (.seq (.region 6 (ro 31 6) false) (.seq (.seq (.region 7 (ro 31 7) false) (.cond (.tmp 37) (.region 8 (ro 31 8) false) .skip)) (.seq (.region 9 (ro 31 9) false) (.seq (.region 10 (ro 31 10) false) .ret)))))))) := by kernel_rfl
theorem res31 : (Tryz.prog.funcs[31]?).map (·.results.toList) = some [.cell 4 55] := by kernel_rfl
theorem is31 : fnIsB Tryz.prog 31 44 = true := by kernel_rfl
theorem reg31_0 : mOps Tryz.prog O 44 (ro 31 0).toList (ro 31 0).toList [] T S Q =
  (Q ((T.set (ptrTo S.n) 3).set (ptrTo (S.fresh (Value.cells (T.get 1)).toList 0).n) 4) ((S.fresh (Value.cells (T.get 1)).toList 0).fresh [.int .i64 0, .int .i64 0, .slice none 0 0, .slice none 0 0, .slice none 0 0, .slice none 0 0, .int .i64 0] 0)) := by kernel_rfl
theorem reg31_1 : mOps Tryz.prog O 44 (ro 31 1).toList (ro 31 1).toList [] T S Q =
  (∃ p1, nilS (T.get 0) = some p1 ∧ ∃ p2, faS 8 p1 = some p2 ∧ ∃ p3, ldS (some 7) S p2 = some p3 ∧ ∃ S5, stS 7 (S.fresh [.int .i64 0, .int .i64 0, .slice none 0 0, .slice none 0 0, .slice none 0 0, .slice none 0 0, .int .i64 0] 0) (ptrTo S.n) p3 = some S5 ∧ Q (((((T.set (T.get 0) 6).set p1 7).set p2 8).set p3 9).set (ptrTo S.n) 5) S5) := by kernel_rfl
theorem reg31_2 : mOps Tryz.prog O 44 (ro 31 2).toList (ro 31 2).toList [] T S Q =
  (∃ p1, nilS (T.get 0) = some p1 ∧ ∃ p2, faS 15 p1 = some p2 ∧ ∃ p3, ldS none S p2 = some p3 ∧ ∃ p4, faS 1 (T.get 5) = some p4 ∧ ∃ S5, stS 1 S p4 p3 = some S5 ∧ Q (((((T.set (T.get 0) 10).set p1 11).set p2 12).set p3 13).set p4 14) S5) := by kernel_rfl
theorem reg31_3 : mOps Tryz.prog O 44 (ro 31 3).toList (ro 31 3).toList [] T S Q =
  (∃ p1, nilS (T.get 0) = some p1 ∧ ∃ p2, faS 15 p1 = some p2 ∧ ∃ p3, ldS none S p2 = some p3 ∧ ∃ p4, abin Tryz.prog .eql 3 (.tmp 18) (.const (.int .i64 0)) p3 (.int .i64 0) = some p4 ∧ ∃ b5, p4 = .bool b5 ∧
        (b5 = true → ∃ p7, nilS (T.get 0) = some p7 ∧ ∃ p8, faS 16 p7 = some p8 ∧ ∃ p9, ldS none S p8 = some p9 ∧ ∃ p10, aunary .not p9 = some p10 ∧ ∃ p11, pickS p4 p10 (.bool false) = some p11 ∧ Q ((((((((((((T.set (T.get 0) 15).set p1 16).set p2 17).set p3 18).set p4 19).set p4 20).set (T.get 0) 21).set p7 22).set p8 23).set p9 24).set p10 25).set p11 26) S) ∧
        (b5 = false → ∃ p11, pickS p4 undef (.bool false) = some p11 ∧ Q ((((((((((((T.set (T.get 0) 15).set p1 16).set p2 17).set p3 18).set p4 19).set p4 20).set undef 21).set undef 22).set undef 23).set undef 24).set undef 25).set p11 26) S)) := by kernel_rfl
theorem reg31_4 : mOps Tryz.prog O 44 (ro 31 4).toList (ro 31 4).toList [] T S Q =
  (∃ p1, nilS (T.get 0) = some p1 ∧ ∃ p2, faS 4 p1 = some p2 ∧ ∃ p3, ldS (some 1) S p2 = some p3 ∧ ∃ p4, faS 2 (T.get 5) = some p4 ∧ ∃ S5, stS 1 S p4 p3 = some S5 ∧ Q (((((T.set (T.get 0) 27).set p1 28).set p2 29).set p3 30).set p4 31) S5) := by kernel_rfl
theorem reg31_5 : mOps Tryz.prog O 44 (ro 31 5).toList (ro 31 5).toList [] T S Q =
  (∃ p0, ldS (some 7) S (T.get 5) = some p0 ∧ ∃ S1, stS 7 S (T.get 4) p0 = some S1 ∧ Q (T.set p0 32) S1) := by kernel_rfl
/-! ### 11: windlass/windlassref12.Run -/
theorem body11 : (Tryz.prog.funcs[11]?).bind (·.body) = some (.seq (.region 0 (ro 11 0) false) (.seq (.region 1 (ro 11 1) false) (.seq (.seq (.region 2 (ro 11 2) false) (.cond (.tmp 24) (.seq (.region 3 (ro 11 3) false) .ret) .skip)) (.seq (.region 4 (ro 11 4) true) .ret)))) := by kernel_rfl
theorem res11 : (Tryz.prog.funcs[11]?).map (·.results.toList) = some [.cell 10 55, .tmp 11] := by kernel_rfl
theorem is11 : fnIsB Tryz.prog 11 33 = true := by kernel_rfl
theorem reg11_0 : mOps Tryz.prog O 33 (ro 11 0).toList (ro 11 0).toList [] T S Q =
  (Q (((((T.set (ptrTo S.n) 5).set (ptrTo (S.fresh (Value.cells (T.get 0)).toList 0).n) 6).set (ptrTo ((S.fresh (Value.cells (T.get 0)).toList 0).fresh (Value.cells (T.get 1)).toList 0).n) 7).set (ptrTo (((S.fresh (Value.cells (T.get 0)).toList 0).fresh (Value.cells (T.get 1)).toList 0).fresh (Value.cells (T.get 2)).toList 0).n) 10).set (.int .i64 0) 11) ((((S.fresh (Value.cells (T.get 0)).toList 0).fresh (Value.cells (T.get 1)).toList 0).fresh (Value.cells (T.get 2)).toList 0).fresh [.int .i64 0, .int .i64 0, .slice none 0 0, .slice none 0 0, .slice none 0 0, .slice none 0 0, .int .i64 0] 0)) := by kernel_rfl
theorem reg11_1 : mOps Tryz.prog O 33 (ro 11 1).toList (ro 11 1).toList [] T S Q =
  (∃ p0, ldS (some 8) S (T.get 5) = some p0 ∧ ∃ p1, ldS (some 1) S (T.get 6) = some p1 ∧ ∃ p2, ldS (some 2) S (T.get 7) = some p2 ∧ CallM Tryz.prog O 30 [p0, p1, p2, (T.get 3), (T.get 4)] S fun p5 S5 => ∃ p7, aextract p5 0 = some p7 ∧ ∃ p8, aextract p5 1 = some p8 ∧ Q (((((((((((T.set p0 15).set p1 16).set p2 17).set (T.get 3) 18).set (T.get 4) 19).set p5 20).set p5 14).set p7 21).set p8 22).set p7 12).set p8 13) S5) := by kernel_rfl
theorem reg11_2 : mOps Tryz.prog O 33 (ro 11 2).toList (ro 11 2).toList [] T S Q =
  (∃ p1, abin Tryz.prog .neq 3 (.tmp 23) (.const (.int .i64 0)) (T.get 13) (.int .i64 0) = some p1 ∧ Q ((T.set (T.get 13) 23).set p1 24) S) := by kernel_rfl
theorem reg11_4 : mDraw Tryz.prog O 33 (ro 11 4).toList T S Q =
  (∃ p1, nilS (T.get 12) = some p1 ∧ ∃ p2, faS 8 p1 = some p2 ∧ ∃ p3, ldS none S p2 = some p3 ∧ ∃ p4, ldS (some 1) S (T.get 6) = some p4 ∧ CallM Tryz.prog O 31 [p3, p4] S fun p5 S5 => ∃ S6, stS 7 S5 (T.get 10) p5 = some S6 ∧ Q (((((((T.set (T.get 12) 27).set p1 28).set p2 29).set p3 30).set p4 31).set p5 32).set (.int .i64 0) 11) S6) := by kernel_rfl
/-! ### 13: windlass/windlassref4.Same -/
noncomputable def blk13_3 : Code := .block 3 (.seq (.region 11 (ro 13 11) true) (.cond (.tmp 85) (.seq (.region 12 (ro 13 12) false) .ret) .skip))
noncomputable def blk13_2 : Code := .block 2 (.loop (.seq (.seq (.region 9 (ro 13 9) false) (.cond (.tmp 41) .skip (.exit 2))) (.seq blk13_3 (.region 10 (ro 13 10) false))))
noncomputable def blk13_1 : Code := .block 1 (.seq (.seq (.region 6 (ro 13 6) true) (.cond (.tmp 33) (.seq (.region 7 (ro 13 7) false) .ret) .skip)) (.seq (.region 8 (ro 13 8) false) blk13_2))
noncomputable def blk13_0 : Code := .block 0 (.loop (.seq (.seq (.region 4 (ro 13 4) false) (.cond (.tmp 18) .skip (.exit 0))) (.seq blk13_1 (.region 5 (ro 13 5) false))))
theorem body13 : (Tryz.prog.funcs[13]?).bind (·.body) = some (.seq (.region 0 (ro 13 0) false) (.seq (.seq (.region 1 (ro 13 1) false) (.cond (.tmp 13) (.seq (.region 2 (ro 13 2) false) .ret) .skip)) (.seq (.seq (.region 3 (ro 13 3) false) blk13_0) (.seq (.region 13 (ro 13 13) false) .ret)))) := by kernel_rfl
theorem res13 : (Tryz.prog.funcs[13]?).map (·.results.toList) = some [.tmp 4] := by kernel_rfl
theorem is13 : fnIsB Tryz.prog 13 86 = true := by kernel_rfl
theorem reg13_0 : mOps Tryz.prog O 86 (ro 13 0).toList (ro 13 0).toList [] T S Q =
  (Q (((T.set (ptrTo S.n) 2).set (ptrTo (S.fresh (Value.cells (T.get 0)).toList 0).n) 3).set (.bool false) 4) ((S.fresh (Value.cells (T.get 0)).toList 0).fresh (Value.cells (T.get 1)).toList 0)) := by kernel_rfl
theorem reg13_1 : mOps Tryz.prog O 86 (ro 13 1).toList (ro 13 1).toList [] T S Q =
  (∃ p0, faS 0 (T.get 2) = some p0 ∧ ∃ p1, ldS none S p0 = some p1 ∧ ∃ p2, lenSl p1 = some p2 ∧ ∃ p3, faS 0 (T.get 3) = some p3 ∧ ∃ p4, ldS none S p3 = some p4 ∧ ∃ p5, lenSl p4 = some p5 ∧ ∃ p6, abin Tryz.prog .neq 3 (.tmp 9) (.tmp 12) p2 p5 = some p6 ∧ Q (((((((T.set p0 7).set p1 8).set p2 9).set p3 10).set p4 11).set p5 12).set p6 13) S) := by kernel_rfl
theorem reg13_3 : mOps Tryz.prog O 86 (ro 13 3).toList (ro 13 3).toList [] T S Q =
  (Q (T.set (.int .i64 0) 5) S) := by kernel_rfl
theorem reg13_4 : mOps Tryz.prog O 86 (ro 13 4).toList (ro 13 4).toList [] T S Q =
  (∃ p1, faS 0 (T.get 2) = some p1 ∧ ∃ p2, ldS none S p1 = some p2 ∧ ∃ p3, lenSl p2 = some p3 ∧ ∃ p4, abin Tryz.prog .lss 3 (.tmp 14) (.tmp 17) (T.get 5) p3 = some p4 ∧ Q (((((T.set (T.get 5) 14).set p1 15).set p2 16).set p3 17).set p4 18) S) := by kernel_rfl
theorem reg13_6 : mDraw Tryz.prog O 86 (ro 13 6).toList T S Q =
  (∃ p0, faS 0 (T.get 2) = some p0 ∧ ∃ p1, ldS none S p0 = some p1 ∧ ∃ p3, iaSS 1 p1 (T.get 5) = some p3 ∧ ∃ p4, ldS none S p3 = some p4 ∧ ∃ p5, lenSl p4 = some p5 ∧ ∃ p6, faS 0 (T.get 3) = some p6 ∧ ∃ p7, ldS none S p6 = some p7 ∧ ∃ p9, iaSS 1 p7 (T.get 5) = some p9 ∧ ∃ p10, ldS none S p9 = some p10 ∧ ∃ p11, lenSl p10 = some p11 ∧ ∃ p12, abin Tryz.prog .neq 3 (.tmp 26) (.tmp 32) p5 p11 = some p12 ∧ Q (((((((((((((T.set p0 21).set p1 22).set (T.get 5) 23).set p3 24).set p4 25).set p5 26).set p6 27).set p7 28).set (T.get 5) 29).set p9 30).set p10 31).set p11 32).set p12 33) S) := by kernel_rfl
theorem reg13_8 : mOps Tryz.prog O 86 (ro 13 8).toList (ro 13 8).toList [] T S Q =
  (Q (T.set (.int .i64 0) 6) S) := by kernel_rfl
theorem reg13_9 : mOps Tryz.prog O 86 (ro 13 9).toList (ro 13 9).toList [] T S Q =
  (∃ p1, faS 0 (T.get 2) = some p1 ∧ ∃ p2, ldS none S p1 = some p2 ∧ ∃ p4, iaSS 1 p2 (T.get 5) = some p4 ∧ ∃ p5, ldS none S p4 = some p5 ∧ ∃ p6, lenSl p5 = some p6 ∧ ∃ p7, abin Tryz.prog .lss 3 (.tmp 34) (.tmp 40) (T.get 6) p6 = some p7 ∧ Q ((((((((T.set (T.get 6) 34).set p1 35).set p2 36).set (T.get 5) 37).set p4 38).set p5 39).set p6 40).set p7 41) S) := by kernel_rfl
theorem reg13_11 : mDraw Tryz.prog O 86 (ro 13 11).toList T S Q =
  (∃ p0, faS 0 (T.get 2) = some p0 ∧ ∃ p1, ldS none S p0 = some p1 ∧ ∃ p3, iaSS 1 p1 (T.get 5) = some p3 ∧ ∃ p4, ldS none S p3 = some p4 ∧ ∃ p6, iaSS 10 p4 (T.get 6) = some p6 ∧ ∃ p7, faS 0 p6 = some p7 ∧ ∃ p8, ldS (some 5) S p7 = some p8 ∧ ∃ p9, faS 0 (T.get 3) = some p9 ∧ ∃ p10, ldS none S p9 = some p10 ∧ ∃ p12, iaSS 1 p10 (T.get 5) = some p12 ∧ ∃ p13, ldS none S p12 = some p13 ∧ ∃ p15, iaSS 10 p13 (T.get 6) = some p15 ∧ ∃ p16, faS 0 p15 = some p16 ∧ ∃ p17, ldS (some 5) S p16 = some p17 ∧ CallM Tryz.prog O 34 [p8, p17] S fun p18 S18 => ∃ p19, aunary .not p18 = some p19 ∧ ∃ b20, p19 = .bool b20 ∧
                       (b20 = true → ∃ p41, pickS p19 (.bool true) undef = some p41 ∧ Q ((((((((((((((((((((((((((((((((((((((((((T.set p0 44).set p1 45).set (T.get 5) 46).set p3 47).set p4 48).set (T.get 6) 49).set p6 50).set p7 51).set p8 52).set p9 53).set p10 54).set (T.get 5) 55).set p12 56).set p13 57).set (T.get 6) 58).set p15 59).set p16 60).set p17 61).set p18 62).set p19 63).set p19 64).set undef 65).set undef 66).set undef 67).set undef 68).set undef 69).set undef 70).set undef 71).set undef 72).set undef 73).set undef 74).set undef 75).set undef 76).set undef 77).set undef 78).set undef 79).set undef 80).set undef 81).set undef 82).set undef 83).set undef 84).set p41 85) S18) ∧
                       (b20 = false → ∃ p21, faS 0 (T.get 2) = some p21 ∧ ∃ p22, ldS none S18 p21 = some p22 ∧ ∃ p24, iaSS 1 p22 (T.get 5) = some p24 ∧ ∃ p25, ldS none S18 p24 = some p25 ∧ ∃ p27, iaSS 10 p25 (T.get 6) = some p27 ∧ ∃ p28, faS 5 p27 = some p28 ∧ ∃ p29, ldS (some 5) S18 p28 = some p29 ∧ ∃ p30, faS 0 (T.get 3) = some p30 ∧ ∃ p31, ldS none S18 p30 = some p31 ∧ ∃ p33, iaSS 1 p31 (T.get 5) = some p33 ∧ ∃ p34, ldS none S18 p33 = some p34 ∧ ∃ p36, iaSS 10 p34 (T.get 6) = some p36 ∧ ∃ p37, faS 5 p36 = some p37 ∧ ∃ p38, ldS (some 5) S18 p37 = some p38 ∧ CallM Tryz.prog O 34 [p29, p38] S18 fun p39 S39 => ∃ p40, aunary .not p39 = some p40 ∧ ∃ p41, pickS p19 (.bool true) p40 = some p41 ∧ Q ((((((((((((((((((((((((((((((((((((((((((T.set p0 44).set p1 45).set (T.get 5) 46).set p3 47).set p4 48).set (T.get 6) 49).set p6 50).set p7 51).set p8 52).set p9 53).set p10 54).set (T.get 5) 55).set p12 56).set p13 57).set (T.get 6) 58).set p15 59).set p16 60).set p17 61).set p18 62).set p19 63).set p19 64).set p21 65).set p22 66).set (T.get 5) 67).set p24 68).set p25 69).set (T.get 6) 70).set p27 71).set p28 72).set p29 73).set p30 74).set p31 75).set (T.get 5) 76).set p33 77).set p34 78).set (T.get 6) 79).set p36 80).set p37 81).set p38 82).set p39 83).set p40 84).set p41 85) S39)) := by kernel_rfl
theorem reg13_10 : mOps Tryz.prog O 86 (ro 13 10).toList (ro 13 10).toList [] T S Q =
  (∃ p1, abin Tryz.prog .add 3 (.tmp 42) (.const (.int .i64 1)) (T.get 6) (.int .i64 1) = some p1 ∧ Q (((T.set (T.get 6) 42).set p1 43).set p1 6) S) := by kernel_rfl
theorem reg13_5 : mOps Tryz.prog O 86 (ro 13 5).toList (ro 13 5).toList [] T S Q =
  (∃ p1, abin Tryz.prog .add 3 (.tmp 19) (.const (.int .i64 1)) (T.get 5) (.int .i64 1) = some p1 ∧ Q (((T.set (T.get 5) 19).set p1 20).set p1 5) S) := by kernel_rfl
theorem reg13_13 : mOps Tryz.prog O 86 (ro 13 13).toList (ro 13 13).toList [] T S Q =
  (Q (T.set (.bool true) 4) S) := by kernel_rfl
/-! ### 3: windlass/windlasslaw13.LowerLoops -/
noncomputable def blk3_4 : Code := .block 4 (.seq (.region 23 (ro 3 23) false) (.cond (.tmp 106) (.region 24 (ro 3 24) false) (.seq (.region 25 (ro 3 25) false) (.cond (.tmp 109) (.region 26 (ro 3 26) false) (.region 22 (ro 3 22) false)))))
noncomputable def blk3_3 : Code := .block 3 (.seq (.region 20 (ro 3 20) false) (.seq (.region 21 (ro 3 21) false) blk3_4))
noncomputable def blk3_2 : Code := .block 2 (.loop (.seq (.seq (.region 19 (ro 3 19) false) (.cond (.tmp 98) .skip (.exit 2))) blk3_3))
noncomputable def blk3_1 : Code := .block 1 (.seq (.region 17 (ro 3 17) false) (.seq (.region 18 (ro 3 18) false) (.seq blk3_2 (.seq (.region 27 (ro 3 27) false) (.cond (.tmp 117) (.region 28 (ro 3 28) true) .skip)))))
noncomputable def blk3_0 : Code := .block 0 (.loop (.seq (.seq (.region 15 (ro 3 15) false) (.cond (.tmp 85) .skip (.exit 0))) (.seq blk3_1 (.region 16 (ro 3 16) false))))
theorem body3 : (Tryz.prog.funcs[3]?).bind (·.body) = some (.seq (.region 0 (ro 3 0) false) (.seq (.seq (.region 1 (ro 3 1) false) (.cond (.tmp 28) (.seq (.region 2 (ro 3 2) false) .ret) .skip)) (.seq (.region 3 (ro 3 3) false) (.seq (.region 4 (ro 3 4) false) (.seq (.region 5 (ro 3 5) false) (.seq (.region 6 (ro 3 6) false) (.seq (.seq (.region 7 (ro 3 7) false) (.cond (.tmp 58) (.seq (.region 8 (ro 3 8) false) .ret) .skip)) (.seq (.region 9 (ro 3 9) false) (.seq (.region 10 (ro 3 10) true) (.seq (.region 11 (ro 3 11) false) (.seq (.region 12 (ro 3 12) false) (.seq (.region 13 (ro 3 13) false) (.seq (.seq (.region 14 (ro 3 14) false) blk3_0) (.seq (.region 29 (ro 3 29) true) (.seq (.region 30 (ro 3 30) false) .ret))))))))))))))) := by kernel_rfl
theorem res3 : (Tryz.prog.funcs[3]?).map (·.results.toList) = some [.tmp 8] := by kernel_rfl
theorem is3 : fnIsB Tryz.prog 3 148 = true := by kernel_rfl
theorem reg3_0 : mOps Tryz.prog O 148 (ro 3 0).toList (ro 3 0).toList [] T S Q =
  (Q (T.set (.bool false) 8) S) := by kernel_rfl
theorem reg3_1 : mOps Tryz.prog O 148 (ro 3 1).toList (ro 3 1).toList [] T S Q =
  (CallM Tryz.prog O 6 [] S fun p0 S0 => ∃ p1, aunary .not p0 = some p1 ∧ Q ((T.set p0 27).set p1 28) S0) := by kernel_rfl
theorem reg3_3 : mOps Tryz.prog O 148 (ro 3 3).toList (ro 3 3).toList [] T S Q =
  (∃ p1, abin Tryz.prog .rem 5 (.tmp 29) (.const (.int .u8 8)) (T.get 0) (.int .u8 8) = some p1 ∧ ∃ p2, cvInt .i64 p1 = some p2 ∧ ∃ p4, abin Tryz.prog .rem 5 (.tmp 32) (.const (.int .u8 8)) (T.get 1) (.int .u8 8) = some p4 ∧ ∃ p5, cvInt .i64 p4 = some p5 ∧ ∃ p7, abin Tryz.prog .rem 5 (.tmp 35) (.const (.int .u8 12)) (T.get 2) (.int .u8 12) = some p7 ∧ ∃ p8, cvInt .i64 p7 = some p8 ∧ ∃ p10, abin Tryz.prog .rem 5 (.tmp 38) (.const (.int .u8 12)) (T.get 3) (.int .u8 12) = some p10 ∧ ∃ p11, cvInt .i64 p10 = some p11 ∧ Q ((((((((((((((((T.set (T.get 0) 29).set p1 30).set p2 31).set (T.get 1) 32).set p4 33).set p5 34).set (T.get 2) 35).set p7 36).set p8 37).set (T.get 3) 38).set p10 39).set p11 40).set p2 9).set p5 10).set p8 11).set p11 12) S) := by kernel_rfl
theorem reg3_4 : mOps Tryz.prog O 148 (ro 3 4).toList (ro 3 4).toList [] T S Q =
  (Q (T.set (.string ⟨⟨[109, 97, 112, 32, 109, 58, 32, 105, 110, 116, 32, 45, 62, 32, 105, 110, 116, 59, 32, 111, 110, 32, 101, 40, 97, 58, 32, 105, 110, 116, 44, 32, 98, 58, 32, 105, 110, 116, 44, 32, 108, 58, 32, 105, 110, 116, 44, 32, 115, 58, 32, 105, 110, 116, 41, 32, 123, 32, 108, 101, 116, 32, 110, 32, 61, 32, 48, 59, 32, 108, 101, 116, 32, 105, 32, 61, 32, 48, 59, 32, 120, 58, 32, 119, 104, 105, 108, 101, 32, 105, 32, 60, 32, 97, 32, 123, 32, 105, 32, 61, 32, 105, 32, 43, 32, 49, 59, 32, 108, 101, 116, 32, 106, 32, 61, 32, 48, 59, 32, 119, 104, 105, 108, 101, 32, 106, 32, 60, 32, 98, 32, 123, 32, 106, 32, 61, 32, 106, 32, 43, 32, 49, 59, 32, 105, 102, 32, 105, 32, 43, 32, 106, 32, 61, 61, 32, 108, 32, 123, 32, 98, 114, 101, 97, 107, 32, 120, 59, 32, 125, 32, 105, 102, 32, 105, 32, 43, 32, 106, 32, 61, 61, 32, 115, 32, 123, 32, 99, 111, 110, 116, 105, 110, 117, 101, 32, 120, 59, 32, 125, 32, 110, 32, 61, 32, 110, 32, 43, 32, 49, 59, 32, 125, 32, 109, 91, 105, 93, 32, 61, 32, 106, 59, 32, 125, 32, 109, 91, 48, 93, 32, 61, 32, 110, 59, 32, 125]⟩⟩) 13) S) := by kernel_rfl
theorem reg3_5 : mOps Tryz.prog O 148 (ro 3 5).toList (ro 3 5).toList [] T S Q =
  (CallM Tryz.prog O 8 [(T.get 13)] S fun p1 S1 => CallM Tryz.prog O 7 [p1] S1 fun p2 S2 => ∃ p4, aextract p2 0 = some p4 ∧ ∃ p5, aextract p2 1 = some p5 ∧ ∃ p6, aextract p2 2 = some p6 ∧ ∃ S8, stS 8 (S2.fresh [.slice none 0 0, .slice none 0 0, .slice none 0 0, .slice none 0 0, .slice none 0 0, .slice none 0 0, .slice none 0 0, .slice none 0 0] 0) (ptrTo S2.n) p4 = some S8 ∧ Q ((((((((((T.set (T.get 13) 42).set p1 43).set p2 44).set p2 41).set p4 45).set p5 46).set p6 47).set (ptrTo S2.n) 14).set p5 15).set p6 16) S8) := by kernel_rfl
theorem reg3_6 : mOps Tryz.prog O 148 (ro 3 6).toList (ro 3 6).toList [] T S Q =
  (∃ p0, ldS (some 8) S (T.get 14) = some p0 ∧ CallM Tryz.prog O 9 [p0] S fun p1 S1 => ∃ p3, aextract p1 0 = some p3 ∧ ∃ p4, aextract p1 1 = some p4 ∧ ∃ S6, stS 8 (S1.fresh [.slice none 0 0, .slice none 0 0, .slice none 0 0, .slice none 0 0, .slice none 0 0, .slice none 0 0, .slice none 0 0, .slice none 0 0] 0) (ptrTo S1.n) p3 = some S6 ∧ Q (((((((T.set p0 49).set p1 50).set p1 48).set p3 51).set p4 52).set (ptrTo S1.n) 17).set p4 18) S6) := by kernel_rfl
theorem reg3_7 : mOps Tryz.prog O 148 (ro 3 7).toList (ro 3 7).toList [] T S Q =
  (∃ p1, abin Tryz.prog .neq 33 (.tmp 53) (.const (.int .i64 0)) (T.get 16) (.int .i64 0) = some p1 ∧ ∃ b2, p1 = .bool b2 ∧
     (b2 = true → ∃ p5, pickS p1 (.bool true) undef = some p5 ∧ Q ((((((T.set (T.get 16) 53).set p1 54).set p1 55).set undef 56).set undef 57).set p5 58) S) ∧
     (b2 = false → ∃ p4, abin Tryz.prog .neq 3 (.tmp 56) (.const (.int .i64 0)) (T.get 18) (.int .i64 0) = some p4 ∧ ∃ p5, pickS p1 (.bool true) p4 = some p5 ∧ Q ((((((T.set (T.get 16) 53).set p1 54).set p1 55).set (T.get 18) 56).set p4 57).set p5 58) S)) := by kernel_rfl
theorem reg3_9 : mOps Tryz.prog O 148 (ro 3 9).toList (ro 3 9).toList [] T S Q =
  (CallM Tryz.prog O 10 [(T.get 9)] S fun p1 S1 => CallM Tryz.prog O 10 [(T.get 10)] S1 fun p3 S3 => CallM Tryz.prog O 10 [(T.get 11)] S3 fun p5 S5 => CallM Tryz.prog O 10 [(T.get 12)] S5 fun p7 S7 => ∃ p8 S8, bsS S7 4 5 [.int .i64 0, .int .i64 0, .string ⟨⟨[]⟩⟩, .int .i64 0, .slice none 0 0, .int .i64 0, .int .i64 0, .string ⟨⟨[]⟩⟩, .int .i64 0, .slice none 0 0, .int .i64 0, .int .i64 0, .string ⟨⟨[]⟩⟩, .int .i64 0, .slice none 0 0, .int .i64 0, .int .i64 0, .string ⟨⟨[]⟩⟩, .int .i64 0, .slice none 0 0] [(0, p1), (1, p3), (2, p5), (3, p7)] = some (p8, S8) ∧ Q ((((((((((T.set (T.get 9) 59).set p1 60).set (T.get 10) 61).set p3 62).set (T.get 11) 63).set p5 64).set (T.get 12) 65).set p7 66).set p8 67).set p8 19) S8) := by kernel_rfl
theorem reg3_10 : mDraw Tryz.prog O 148 (ro 3 10).toList T S Q =
  (∃ p0, ldS (some 8) S (T.get 17) = some p0 ∧ ∃ p1 S1, msS S 1 24 [.slice none 0 0] (.int .i64 1) (.int .i64 1) = some (p1, S1) ∧ ∃ p2, bdS (fun i => [(0, 1)][i]?) [.slice none 0 0] [(0, p1)] = some p2 ∧ ∃ p4, bdS (fun i => [(0, 1), (1, 1)][i]?) [.string ⟨⟨[]⟩⟩, .slice none 0 0] [(0, (.string ⟨⟨[101]⟩⟩)), (1, (T.get 19))] = some p4 ∧ CallM Tryz.prog O 11 [p0, p2, p4, (.slice none 0 0), (.int .i64 0)] S1 fun p5 S5 => ∃ p7, aextract p5 0 = some p7 ∧ ∃ S10, stS 7 (S5.fresh [.int .i64 0, .int .i64 0, .slice none 0 0, .slice none 0 0, .slice none 0 0, .slice none 0 0, .int .i64 0] 0) (ptrTo S5.n) p7 = some S10 ∧ ∃ p8, aextract p5 1 = some p8 ∧ Q (((((((((((T.set p0 69).set p1 70).set p2 71).set (T.get 19) 72).set p4 73).set p5 74).set p5 68).set p7 75).set (ptrTo S5.n) 20).set p8 76).set p8 18) S10) := by kernel_rfl
theorem reg3_11 : mOps Tryz.prog O 148 (ro 3 11).toList (ro 3 11).toList [] T S Q =
  (∃ p0 S0, msS S 1 24 [.slice none 0 0] (.int .i64 1) (.int .i64 1) = some (p0, S0) ∧ ∃ p1, bdS (fun i => [(0, 1)][i]?) [.slice none 0 0] [(0, p0)] = some p1 ∧ ∃ S3, stS 1 (S0.fresh [.slice none 0 0] 0) (ptrTo S0.n) p1 = some S3 ∧ Q (((T.set p0 77).set p1 78).set (ptrTo S0.n) 21) S3) := by kernel_rfl
theorem reg3_12 : mOps Tryz.prog O 148 (ro 3 12).toList (ro 3 12).toList [] T S Q =
  (Q (T.set (.int .i64 0) 22) S) := by kernel_rfl
theorem reg3_13 : mOps Tryz.prog O 148 (ro 3 13).toList (ro 3 13).toList [] T S Q =
  (Q (T.set (.bool false) 23) S) := by kernel_rfl
theorem reg3_14 : mOps Tryz.prog O 148 (ro 3 14).toList (ro 3 14).toList [] T S Q =
  (Q (T.set (.int .i64 1) 24) S) := by kernel_rfl
theorem reg3_15 : mOps Tryz.prog O 148 (ro 3 15).toList (ro 3 15).toList [] T S Q =
  (∃ p2, abin Tryz.prog .leq 2 (.tmp 79) (.tmp 80) (T.get 24) (T.get 9) = some p2 ∧ ∃ b3, p2 = .bool b3 ∧
      (b3 = true → ∃ p5, aunary .not (T.get 23) = some p5 ∧ ∃ p6, pickS p2 p5 (.bool false) = some p6 ∧ Q (((((((T.set (T.get 24) 79).set (T.get 9) 80).set p2 81).set p2 82).set (T.get 23) 83).set p5 84).set p6 85) S) ∧
      (b3 = false → ∃ p6, pickS p2 undef (.bool false) = some p6 ∧ Q (((((((T.set (T.get 24) 79).set (T.get 9) 80).set p2 81).set p2 82).set undef 83).set undef 84).set p6 85) S)) := by kernel_rfl
theorem reg3_17 : mOps Tryz.prog O 148 (ro 3 17).toList (ro 3 17).toList [] T S Q =
  (Q (T.set (.int .i64 0) 25) S) := by kernel_rfl
theorem reg3_18 : mOps Tryz.prog O 148 (ro 3 18).toList (ro 3 18).toList [] T S Q =
  (Q (T.set (.bool false) 26) S) := by kernel_rfl
theorem reg3_19 : mOps Tryz.prog O 148 (ro 3 19).toList (ro 3 19).toList [] T S Q =
  (∃ p2, abin Tryz.prog .lss 2 (.tmp 88) (.tmp 89) (T.get 25) (T.get 10) = some p2 ∧ ∃ b3, p2 = .bool b3 ∧
      (b3 = true → ∃ p5, aunary .not (T.get 23) = some p5 ∧ ∃ p6, pickS p2 p5 (.bool false) = some p6 ∧ ∃ b7, p6 = .bool b7 ∧
          (b7 = true → ∃ p9, aunary .not (T.get 26) = some p9 ∧ ∃ p10, pickS p6 p9 (.bool false) = some p10 ∧ Q (((((((((((T.set (T.get 25) 88).set (T.get 10) 89).set p2 90).set p2 91).set (T.get 23) 92).set p5 93).set p6 94).set p6 95).set (T.get 26) 96).set p9 97).set p10 98) S) ∧
          (b7 = false → ∃ p10, pickS p6 undef (.bool false) = some p10 ∧ Q (((((((((((T.set (T.get 25) 88).set (T.get 10) 89).set p2 90).set p2 91).set (T.get 23) 92).set p5 93).set p6 94).set p6 95).set undef 96).set undef 97).set p10 98) S)) ∧
      (b3 = false → ∃ p6, pickS p2 undef (.bool false) = some p6 ∧ ∃ b7, p6 = .bool b7 ∧
          (b7 = true → ∃ p9, aunary .not (T.get 26) = some p9 ∧ ∃ p10, pickS p6 p9 (.bool false) = some p10 ∧ Q (((((((((((T.set (T.get 25) 88).set (T.get 10) 89).set p2 90).set p2 91).set undef 92).set undef 93).set p6 94).set p6 95).set (T.get 26) 96).set p9 97).set p10 98) S) ∧
          (b7 = false → ∃ p10, pickS p6 undef (.bool false) = some p10 ∧ Q (((((((((((T.set (T.get 25) 88).set (T.get 10) 89).set p2 90).set p2 91).set undef 92).set undef 93).set p6 94).set p6 95).set undef 96).set undef 97).set p10 98) S))) := by kernel_rfl
theorem reg3_20 : mOps Tryz.prog O 148 (ro 3 20).toList (ro 3 20).toList [] T S Q =
  (∃ p1, abin Tryz.prog .add 2 (.tmp 99) (.const (.int .i64 1)) (T.get 25) (.int .i64 1) = some p1 ∧ Q (((T.set (T.get 25) 99).set p1 100).set p1 25) S) := by kernel_rfl
theorem reg3_21 : mOps Tryz.prog O 148 (ro 3 21).toList (ro 3 21).toList [] T S Q =
  (∃ p2, abin Tryz.prog .add 2 (.tmp 101) (.tmp 102) (T.get 24) (T.get 25) = some p2 ∧ Q (((T.set (T.get 24) 101).set (T.get 25) 102).set p2 103) S) := by kernel_rfl
theorem reg3_23 : mOps Tryz.prog O 148 (ro 3 23).toList (ro 3 23).toList [] T S Q =
  (∃ p1, abin Tryz.prog .eql 2 (.tmp 103) (.tmp 107) (T.get 103) (T.get 11) = some p1 ∧ Q (((T.set (T.get 11) 107).set p1 108).set p1 106) S) := by kernel_rfl
theorem reg3_24 : mOps Tryz.prog O 148 (ro 3 24).toList (ro 3 24).toList [] T S Q =
  (Q (T.set (.bool true) 23) S) := by kernel_rfl
theorem reg3_25 : mOps Tryz.prog O 148 (ro 3 25).toList (ro 3 25).toList [] T S Q =
  (∃ p1, abin Tryz.prog .eql 2 (.tmp 103) (.tmp 110) (T.get 103) (T.get 12) = some p1 ∧ Q (((T.set (T.get 12) 110).set p1 111).set p1 109) S) := by kernel_rfl
theorem reg3_26 : mOps Tryz.prog O 148 (ro 3 26).toList (ro 3 26).toList [] T S Q =
  (Q (T.set (.bool true) 26) S) := by kernel_rfl
theorem reg3_22 : mOps Tryz.prog O 148 (ro 3 22).toList (ro 3 22).toList [] T S Q =
  (∃ p1, abin Tryz.prog .add 2 (.tmp 104) (.const (.int .i64 1)) (T.get 22) (.int .i64 1) = some p1 ∧ Q (((T.set (T.get 22) 104).set p1 105).set p1 22) S) := by kernel_rfl
theorem reg3_27 : mOps Tryz.prog O 148 (ro 3 27).toList (ro 3 27).toList [] T S Q =
  (∃ p1, aunary .not (T.get 23) = some p1 ∧ ∃ b2, p1 = .bool b2 ∧
     (b2 = true → ∃ p4, aunary .not (T.get 26) = some p4 ∧ ∃ p5, pickS p1 p4 (.bool false) = some p5 ∧ Q ((((((T.set (T.get 23) 112).set p1 113).set p1 114).set (T.get 26) 115).set p4 116).set p5 117) S) ∧
     (b2 = false → ∃ p5, pickS p1 undef (.bool false) = some p5 ∧ Q ((((((T.set (T.get 23) 112).set p1 113).set p1 114).set undef 115).set undef 116).set p5 117) S)) := by kernel_rfl
theorem reg3_28 : mDraw Tryz.prog O 148 (ro 3 28).toList T S Q =
  (CallM Tryz.prog O 10 [(T.get 24)] S fun p2 S2 => CallM Tryz.prog O 10 [(T.get 25)] S2 fun p4 S4 => ∃ p0, ((ldS (some 1) S4 (T.get 21)).bind fun v => (((ldS (some 1) S2 (T.get 21)).bind fun v => (ldS (some 1) S (T.get 21)).bind fun w => if veq v w then some v else none)).bind fun w => if veq v w then some v else none) = some p0 ∧ CallM Tryz.prog O 12 [p0, (.int .i64 0), p2, p4] S4 fun p5 S5 => ∃ p7, aextract p5 0 = some p7 ∧ ∃ S9, stS 1 S5 (T.get 21) p7 = some S9 ∧ ∃ p8, aextract p5 1 = some p8 ∧ Q (((((((((T.set (T.get 24) 120).set p2 121).set (T.get 25) 122).set p4 123).set p0 119).set p5 124).set p5 118).set p7 125).set p8 126) S9) := by kernel_rfl
theorem reg3_16 : mOps Tryz.prog O 148 (ro 3 16).toList (ro 3 16).toList [] T S Q =
  (∃ p1, abin Tryz.prog .add 2 (.tmp 86) (.const (.int .i64 1)) (T.get 24) (.int .i64 1) = some p1 ∧ Q (((T.set (T.get 24) 86).set p1 87).set p1 24) S) := by kernel_rfl
theorem reg3_29 : mDraw Tryz.prog O 148 (ro 3 29).toList T S Q =
  (CallM Tryz.prog O 10 [(.int .i64 0)] S fun p1 S1 => CallM Tryz.prog O 10 [(T.get 22)] S1 fun p3 S3 => ∃ p0, ((ldS (some 1) S3 (T.get 21)).bind fun v => (((ldS (some 1) S1 (T.get 21)).bind fun v => (ldS (some 1) S (T.get 21)).bind fun w => if veq v w then some v else none)).bind fun w => if veq v w then some v else none) = some p0 ∧ CallM Tryz.prog O 12 [p0, (.int .i64 0), p1, p3] S3 fun p4 S4 => ∃ p6, aextract p4 0 = some p6 ∧ ∃ S8, stS 1 S4 (T.get 21) p6 = some S8 ∧ ∃ p7, aextract p4 1 = some p7 ∧ Q ((((((((T.set p1 129).set (T.get 22) 130).set p3 131).set p0 128).set p4 132).set p4 127).set p6 133).set p7 134) S8) := by kernel_rfl
theorem reg3_30 : mOps Tryz.prog O 148 (ro 3 30).toList (ro 3 30).toList [] T S Q =
  (∃ p1, abin Tryz.prog .eql 3 (.tmp 135) (.const (.int .i64 0)) (T.get 18) (.int .i64 0) = some p1 ∧ ∃ b2, p1 = .bool b2 ∧
     (b2 = true → ∃ p3, faS 0 (T.get 20) = some p3 ∧ ∃ p4, ldS none S p3 = some p4 ∧ ∃ p5, abin Tryz.prog .eql 3 (.tmp 139) (.const (.int .i64 0)) p4 (.int .i64 0) = some p5 ∧ ∃ p6, pickS p1 p5 (.bool false) = some p6 ∧ ∃ b7, p6 = .bool b7 ∧
          (b7 = true → ∃ p8, faS 2 (T.get 20) = some p8 ∧ ∃ p9, ldS (some 1) S p8 = some p9 ∧ ∃ p10, ldS (some 1) S (T.get 21) = some p10 ∧ CallM Tryz.prog O 13 [p9, p10] S fun p11 S11 => ∃ p12, pickS p6 p11 (.bool false) = some p12 ∧ Q ((((((((((((((T.set (T.get 18) 135).set p1 136).set p1 137).set p3 138).set p4 139).set p5 140).set p6 141).set p6 142).set p8 143).set p9 144).set p10 145).set p11 146).set p12 147).set p12 8) S11) ∧
          (b7 = false → ∃ p12, pickS p6 undef (.bool false) = some p12 ∧ Q ((((((((((((((T.set (T.get 18) 135).set p1 136).set p1 137).set p3 138).set p4 139).set p5 140).set p6 141).set p6 142).set undef 143).set undef 144).set undef 145).set undef 146).set p12 147).set p12 8) S)) ∧
     (b2 = false → ∃ p6, pickS p1 undef (.bool false) = some p6 ∧ ∃ b7, p6 = .bool b7 ∧
          (b7 = true → ∃ p8, faS 2 (T.get 20) = some p8 ∧ ∃ p9, ldS (some 1) S p8 = some p9 ∧ ∃ p10, ldS (some 1) S (T.get 21) = some p10 ∧ CallM Tryz.prog O 13 [p9, p10] S fun p11 S11 => ∃ p12, pickS p6 p11 (.bool false) = some p12 ∧ Q ((((((((((((((T.set (T.get 18) 135).set p1 136).set p1 137).set undef 138).set undef 139).set undef 140).set p6 141).set p6 142).set p8 143).set p9 144).set p10 145).set p11 146).set p12 147).set p12 8) S11) ∧
          (b7 = false → ∃ p12, pickS p6 undef (.bool false) = some p12 ∧ Q ((((((((((((((T.set (T.get 18) 135).set p1 136).set p1 137).set undef 138).set undef 139).set undef 140).set p6 141).set p6 142).set undef 143).set undef 144).set undef 145).set undef 146).set p12 147).set p12 8) S))) := by kernel_rfl
end Go.Proofs.YtfgbeecipklkdaaGreat

