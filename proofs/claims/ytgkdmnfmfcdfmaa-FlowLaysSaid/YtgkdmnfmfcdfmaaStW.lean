/-
  The code of this seat as the machine reads it: shapes, and what each row of operations comes to. Nothing is asked.
-/
import Derived.Test.YtgkdmnfmfcdfmaaProg
import Derived.Test.YtgkdmnfmfcdfmaaAg3
import Derived.KernelRfl
set_option linter.all false
namespace Go.Proofs.Ytgkdmnfmfcdfmaa
open Go Go.Ag
set_option linter.unusedVariables false
set_option maxRecDepth 100000
noncomputable def ro (f id : Nat) : Array Oper := roP Try.prog f id
/-! ### 13: windlass/windlasshelp.Flags -/
theorem body13 : (Try.prog.funcs[13]?).bind (·.body) = some (.seq (.region 0 (ro 13 0) false) (.seq (.seq (.region 1 (ro 13 1) false) (.cond (.tmp 10) (.seq (.region 2 (ro 13 2) false) .ret) .skip)) (.seq (.seq (.region 3 (ro 13 3) false) (.block 0 (.loop (.seq (.seq (.region 4 (ro 13 4) false) (.cond (.tmp 14) .skip (.exit 0))) (.seq (.block 1 (.seq (.region 6 (ro 13 6) true) (.cond (.tmp 25) (.seq (.region 7 (ro 13 7) false) .ret) .skip))) (.region 5 (ro 13 5) false)))))) (.seq (.region 8 (ro 13 8) false) .ret)))) := by kernel_rfl
theorem res13 : (Try.prog.funcs[13]?).map (·.results.toList) = some [.tmp 4] := by kernel_rfl
theorem is13 : fnIsB Try.prog 13 26 = true := by kernel_rfl
theorem reg13_0 {O : Known} {T : FT} {S : MS} {Q : FT → MS → Prop} : mOps Try.prog O 26 (ro 13 0).toList (ro 13 0).toList [] T S Q =
  (Q (T.set (.bool false) 4) S) := by kernel_rfl
theorem reg13_1 {O : Known} {T : FT} {S : MS} {Q : FT → MS → Prop} : mOps Try.prog O 26 (ro 13 1).toList (ro 13 1).toList [] T S Q =
  (∃ p1, lenSl (T.get 0) = some p1 ∧ ∃ p3, lenSl (T.get 1) = some p3 ∧ ∃ p4, abin Try.prog .neq 3 (.tmp 7) (.tmp 9) p1 p3 = some p4 ∧ Q (((((T.set (T.get 0) 6).set p1 7).set (T.get 1) 8).set p3 9).set p4 10) S) := by kernel_rfl
theorem reg13_3 {O : Known} {T : FT} {S : MS} {Q : FT → MS → Prop} : mOps Try.prog O 26 (ro 13 3).toList (ro 13 3).toList [] T S Q =
  (Q (T.set (.int .i64 0) 5) S) := by kernel_rfl
theorem reg13_4 {O : Known} {T : FT} {S : MS} {Q : FT → MS → Prop} : mOps Try.prog O 26 (ro 13 4).toList (ro 13 4).toList [] T S Q =
  (∃ p2, lenSl (T.get 0) = some p2 ∧ ∃ p3, abin Try.prog .lss 3 (.tmp 11) (.tmp 13) (T.get 5) p2 = some p3 ∧ Q ((((T.set (T.get 5) 11).set (T.get 0) 12).set p2 13).set p3 14) S) := by kernel_rfl
theorem reg13_6 {O : Known} {T : FT} {S : MS} {Q : FT → MS → Prop} : mDraw Try.prog O 26 (ro 13 6).toList T S Q =
  (∃ p2, iaSS 1 (T.get 0) (T.get 5) = some p2 ∧ ∃ p3, ldS none S p2 = some p3 ∧ ∃ p6, iaSS 1 (T.get 1) (T.get 5) = some p6 ∧ ∃ p7, ldS none S p6 = some p7 ∧ ∃ p8, abin Try.prog .neq 4 (.tmp 20) (.tmp 24) p3 p7 = some p8 ∧ Q (((((((((T.set (T.get 0) 17).set (T.get 5) 18).set p2 19).set p3 20).set (T.get 1) 21).set (T.get 5) 22).set p6 23).set p7 24).set p8 25) S) := by kernel_rfl
theorem reg13_5 {O : Known} {T : FT} {S : MS} {Q : FT → MS → Prop} : mOps Try.prog O 26 (ro 13 5).toList (ro 13 5).toList [] T S Q =
  (∃ p1, abin Try.prog .add 3 (.tmp 15) (.const (.int .i64 1)) (T.get 5) (.int .i64 1) = some p1 ∧ Q (((T.set (T.get 5) 15).set p1 16).set p1 5) S) := by kernel_rfl
theorem reg13_8 {O : Known} {T : FT} {S : MS} {Q : FT → MS → Prop} : mOps Try.prog O 26 (ro 13 8).toList (ro 13 8).toList [] T S Q =
  (Q (T.set (.bool true) 4) S) := by kernel_rfl
/-! ### 28: windlass/flow.in -/
theorem body28 : (Try.prog.funcs[28]?).bind (·.body) = some (.seq (.region 0 (ro 28 0) false) (.seq (.region 1 (ro 28 1) false) .ret)) := by kernel_rfl
theorem res28 : (Try.prog.funcs[28]?).map (·.results.toList) = some [.tmp 4] := by kernel_rfl
theorem is28 : fnIsB Try.prog 28 12 = true := by kernel_rfl
theorem reg28_0 {O : Known} {T : FT} {S : MS} {Q : FT → MS → Prop} : mOps Try.prog O 12 (ro 28 0).toList (ro 28 0).toList [] T S Q =
  (Q (T.set (.bool false) 4) S) := by kernel_rfl
theorem reg28_1 {O : Known} {T : FT} {S : MS} {Q : FT → MS → Prop} : mOps Try.prog O 12 (ro 28 1).toList (ro 28 1).toList [] T S Q =
  (∃ p1, abin Try.prog .geq 3 (.tmp 5) (.const (.int .i64 0)) (T.get 0) (.int .i64 0) = some p1 ∧ ∃ b2, p1 = .bool b2 ∧
     (b2 = true → ∃ p5, abin Try.prog .lss 3 (.tmp 8) (.tmp 9) (T.get 0) (T.get 1) = some p5 ∧ ∃ p6, pickS p1 p5 (.bool false) = some p6 ∧ Q ((((((((T.set (T.get 0) 5).set p1 6).set p1 7).set (T.get 0) 8).set (T.get 1) 9).set p5 10).set p6 11).set p6 4) S) ∧
     (b2 = false → ∃ p6, pickS p1 undef (.bool false) = some p6 ∧ Q ((((((((T.set (T.get 0) 5).set p1 6).set p1 7).set undef 8).set undef 9).set undef 10).set p6 11).set p6 4) S)) := by kernel_rfl
/-! ### 29: windlass/flow.Steps$1 -/
/-! ### 30: windlass/flow.Then -/
/-! ### 25: windlass/flow.walk -/
theorem body25 : (Try.prog.funcs[25]?).bind (·.body) = some (.seq (.region 0 (ro 25 0) false) (.seq (.region 1 (ro 25 1) false) .ret)) := by kernel_rfl
theorem res25 : (Try.prog.funcs[25]?).map (·.results.toList) = some [.tmp 4] := by kernel_rfl
theorem is25 : fnIsB Try.prog 25 6 = true := by kernel_rfl
theorem reg25_0 {O : Known} {T : FT} {S : MS} {Q : FT → MS → Prop} : mOps Try.prog O 6 (ro 25 0).toList (ro 25 0).toList [] T S Q =
  (Q (((T.set (ptrTo S.n) 2).set (ptrTo (S.fresh (Value.cells (T.get 0)).toList 0).n) 3).set (.nilFunc) 4) ((S.fresh (Value.cells (T.get 0)).toList 0).fresh (Value.cells (T.get 1)).toList 0)) := by kernel_rfl
theorem reg25_1 {O : Known} {T : FT} {S : MS} {Q : FT → MS → Prop} : mOps Try.prog O 6 (ro 25 1).toList (ro 25 1).toList [] T S Q =
  (Q ((T.set (.func (.func 39) (Array.mk []) (Array.mk [(T.get 2), (T.get 3)])) 5).set (.func (.func 39) (Array.mk []) (Array.mk [(T.get 2), (T.get 3)])) 4) S) := by kernel_rfl
/-! ### 4: windlass/windlasslaw10.FlowSteps -/
/-! ### 15: windlass/windlassref10.Steps -/
/-! ### 14: windlass/flow.Steps -/
/-! ### 39: windlass/flow.walk$1 -/
noncomputable def blk39_1 : Code := .block 1 (.seq (.region 3 (ro 39 3) false) (.seq (.region 4 (ro 39 4) false) (.seq (.seq (.region 5 (ro 39 5) false) (.cond (.tmp 27) (.exit 1) .skip)) (.seq (.region 6 (ro 39 6) false) (.seq (.seq (.region 7 (ro 39 7) false) (.cond (.tmp 34) .ret .skip)) (.region 8 (ro 39 8) false))))))
noncomputable def blk39_0 : Code := .block 0 (.loop (.seq (.seq (.region 2 (ro 39 2) false) (.cond (.tmp 12) .skip (.exit 0))) blk39_1))
theorem body39 : (Try.prog.funcs[39]?).bind (·.body) = some (.scope (.seq (.region 0 (ro 39 0) false) (.seq (.region 1 (ro 39 1) false) (.seq (.label 0) blk39_0)))) := by kernel_rfl
theorem res39 : (Try.prog.funcs[39]?).map (·.results.toList) = some [] := by kernel_rfl
theorem is39 : fnIsB Try.prog 39 40 = true := by kernel_rfl
theorem reg39_0 {O : Known} {T : FT} {S : MS} {Q : FT → MS → Prop} : mOps Try.prog O 40 (ro 39 0).toList (ro 39 0).toList [] T S Q =
  (∃ p0, ldS none S (T.get 1) = some p0 ∧ ∃ p1 S1, msS S 1 1 [.bool false] p0 p0 = some (p1, S1) ∧ Q (((T.set p0 7).set p1 8).set p1 4) S1) := by kernel_rfl
theorem reg39_1 {O : Known} {T : FT} {S : MS} {Q : FT → MS → Prop} : mOps Try.prog O 40 (ro 39 1).toList (ro 39 1).toList [] T S Q =
  (∃ p0 S0, bsS S 1 1 [.int .i64 0] [(0, (.int .i64 0))] = some (p0, S0) ∧ Q ((T.set p0 9).set p0 5) S0) := by kernel_rfl
theorem reg39_2 {O : Known} {T : FT} {S : MS} {Q : FT → MS → Prop} : mOps Try.prog O 40 (ro 39 2).toList (ro 39 2).toList [] T S Q =
  (∃ p1, lenSl (T.get 5) = some p1 ∧ ∃ p2, abin Try.prog .gtr 3 (.tmp 11) (.const (.int .i64 0)) p1 (.int .i64 0) = some p2 ∧ Q (((T.set (T.get 5) 10).set p1 11).set p2 12) S) := by kernel_rfl
theorem reg39_3 {O : Known} {T : FT} {S : MS} {Q : FT → MS → Prop} : mOps Try.prog O 40 (ro 39 3).toList (ro 39 3).toList [] T S Q =
  (∃ p2, lenSl (T.get 5) = some p2 ∧ ∃ p3, abin Try.prog .sub 3 (.tmp 15) (.const (.int .i64 1)) p2 (.int .i64 1) = some p3 ∧ ∃ p4, iaSS 1 (T.get 5) p3 = some p4 ∧ ∃ p5, ldS none S p4 = some p5 ∧ Q (((((((T.set (T.get 5) 13).set (T.get 5) 14).set p2 15).set p3 16).set p4 17).set p5 18).set p5 6) S) := by kernel_rfl
theorem reg39_4 {O : Known} {T : FT} {S : MS} {Q : FT → MS → Prop} : mOps Try.prog O 40 (ro 39 4).toList (ro 39 4).toList [] T S Q =
  (∃ p2, lenSl (T.get 5) = some p2 ∧ ∃ p3, abin Try.prog .sub 3 (.tmp 21) (.const (.int .i64 1)) p2 (.int .i64 1) = some p3 ∧ ∃ p4, slS 1 S (T.get 5) none (some p3) none = some p4 ∧ Q ((((((T.set (T.get 5) 19).set (T.get 5) 20).set p2 21).set p3 22).set p4 23).set p4 5) S) := by kernel_rfl
theorem reg39_5 {O : Known} {T : FT} {S : MS} {Q : FT → MS → Prop} : mOps Try.prog O 40 (ro 39 5).toList (ro 39 5).toList [] T S Q =
  (∃ p2, iaSS 1 (T.get 4) (T.get 6) = some p2 ∧ ∃ p3, ldS none S p2 = some p3 ∧ Q ((((T.set (T.get 4) 24).set (T.get 6) 25).set p2 26).set p3 27) S) := by kernel_rfl
theorem reg39_6 {O : Known} {T : FT} {S : MS} {Q : FT → MS → Prop} : mOps Try.prog O 40 (ro 39 6).toList (ro 39 6).toList [] T S Q =
  (∃ p2, iaSS 1 (T.get 4) (T.get 6) = some p2 ∧ ∃ S3, stS 1 S p2 (.bool true) = some S3 ∧ Q (((T.set (T.get 4) 28).set (T.get 6) 29).set p2 30) S3) := by kernel_rfl
theorem reg39_7 {O : Known} {T : FT} {S : MS} {Q : FT → MS → Prop} : mOps Try.prog O 40 (ro 39 7).toList (ro 39 7).toList [] T S Q =
  (CallV Try.prog O (T.get 0) [(T.get 6)] S fun p2 S2 => ∃ p3, aunary .not p2 = some p3 ∧ Q ((((T.set (T.get 0) 31).set (T.get 6) 32).set p2 33).set p3 34) S2) := by kernel_rfl
theorem reg39_8 {O : Known} {T : FT} {S : MS} {Q : FT → MS → Prop} : mOps Try.prog O 40 (ro 39 8).toList (ro 39 8).toList [] T S Q =
  (∃ p1, ldS none S (T.get 2) = some p1 ∧ CallV Try.prog O p1 [(T.get 6)] S fun p3 S3 => ∃ p4 S4, apS false 1 8 [.int .i64 0] S3 [(T.get 5), p3] = some (p4, S4) ∧ Q ((((((T.set (T.get 5) 35).set p1 36).set (T.get 6) 37).set p3 38).set p4 39).set p4 5) S4) := by kernel_rfl
end Go.Proofs.Ytgkdmnfmfcdfmaa

