/-
  More code of this seat as the machine reads it: shapes, and what each row of operations comes to. Nothing is asked.
-/
import Derived.Test.YtgkdmnfmfcdfmaaProg
import Derived.Test.YtgkdmnfmfcdfmaaSt11
import Derived.KernelRfl
set_option linter.all false
namespace Go.Proofs.Ytgkdmnfmfcdfmaa
open Go Go.Ag
set_option linter.unusedVariables false
set_option maxRecDepth 100000
/-! ### 3: windlass/windlasslaw10.FlowLays -/
/-! ### 8: windlass/windlasslaw10.few -/
/-! ### 9: windlass/flow.Fn -/
theorem body9 : (Try.prog.funcs[9]?).bind (·.body) = some (.seq (.region 0 (ro 9 0) false) (.seq (.region 1 (ro 9 1) false) (.seq (.seq (.region 2 (ro 9 2) false) (.cond (.tmp 22) (.seq (.region 3 (ro 9 3) false) .ret) .skip)) (.seq (.region 4 (ro 9 4) false) (.seq (.region 5 (ro 9 5) false) (.seq (.seq (.region 6 (ro 9 6) false) (.block 0 (.loop (.seq (.region 7 (ro 9 7) false) (.seq (.cond (.tmp 30) .skip (.exit 0)) (.seq (.block 1 (.seq (.region 8 (ro 9 8) false) (.seq (.seq (.region 9 (ro 9 9) false) (.cond (.tmp 37) (.seq (.region 10 (ro 9 10) false) .ret) .skip)) (.seq (.region 11 (ro 9 11) false) (.region 12 (ro 9 12) true))))) (.region 13 (ro 9 13) false))))))) (.seq (.region 14 (ro 9 14) false) (.seq (.seq (.region 15 (ro 9 15) false) (.block 2 (.loop (.seq (.region 16 (ro 9 16) false) (.seq (.cond (.tmp 61) .skip (.exit 2)) (.seq (.block 3 (.seq (.region 17 (ro 9 17) false) (.seq (.region 18 (ro 9 18) false) (.seq (.region 19 (ro 9 19) false) (.block 4 (.loop (.seq (.region 20 (ro 9 20) false) (.seq (.cond (.tmp 76) .skip (.exit 4)) (.seq (.block 5 (.seq (.region 21 (ro 9 21) false) (.seq (.seq (.region 22 (ro 9 22) false) (.cond (.tmp 81) (.region 23 (ro 9 23) false) .skip)) (.region 24 (ro 9 24) false)))) (.region 25 (ro 9 25) false)))))))))) (.region 26 (ro 9 26) false))))))) (.seq (.region 27 (ro 9 27) false) .ret))))))))) := by kernel_rfl
theorem res9 : (Try.prog.funcs[9]?).map (·.results.toList) = some [.cell 2 29, .tmp 3] := by kernel_rfl
theorem is9 : fnIsB Try.prog 9 97 = true := by kernel_rfl
theorem reg9_0 {O : Known} {T : FT} {S : MS} {Q : FT → MS → Prop} : mOps Try.prog O 97 (ro 9 0).toList (ro 9 0).toList [] T S Q =
  (Q (((T.set (ptrTo S.n) 1).set (ptrTo (S.fresh (Value.cells (T.get 0)).toList 0).n) 2).set (.int .i64 0) 3) ((S.fresh (Value.cells (T.get 0)).toList 0).fresh [.int .i64 0, .slice none 0 0] 0)) := by kernel_rfl
theorem reg9_1 {O : Known} {T : FT} {S : MS} {Q : FT → MS → Prop} : mOps Try.prog O 97 (ro 9 1).toList (ro 9 1).toList [] T S Q =
  (∃ p0, faS 1 (T.get 1) = some p0 ∧ ∃ p1, ldS none S p0 = some p1 ∧ ∃ p2, lenSl p1 = some p2 ∧ Q ((((T.set p0 14).set p1 15).set p2 16).set p2 4) S) := by kernel_rfl
theorem reg9_2 {O : Known} {T : FT} {S : MS} {Q : FT → MS → Prop} : mOps Try.prog O 97 (ro 9 2).toList (ro 9 2).toList [] T S Q =
  (∃ p1, abin Try.prog .lss 3 (.tmp 17) (.const (.int .i64 1)) (T.get 4) (.int .i64 1) = some p1 ∧ ∃ b2, p1 = .bool b2 ∧
     (b2 = true → ∃ p5, pickS p1 (.bool true) undef = some p5 ∧ Q ((((((T.set (T.get 4) 17).set p1 18).set p1 19).set undef 20).set undef 21).set p5 22) S) ∧
     (b2 = false → ∃ p4, abin Try.prog .gtr 3 (.tmp 20) (.const (.int .i64 2000)) (T.get 4) (.int .i64 2000) = some p4 ∧ ∃ p5, pickS p1 (.bool true) p4 = some p5 ∧ Q ((((((T.set (T.get 4) 17).set p1 18).set p1 19).set (T.get 4) 20).set p4 21).set p5 22) S)) := by kernel_rfl
theorem reg9_3 {O : Known} {T : FT} {S : MS} {Q : FT → MS → Prop} : mOps Try.prog O 97 (ro 9 3).toList (ro 9 3).toList [] T S Q =
  (∃ p0, bdS (fun i => [(0, 1), (1, 1)][i]?) [.int .i64 0, .slice none 0 0] [] = some p0 ∧ ∃ S1, stS 2 S (T.get 2) p0 = some S1 ∧ Q ((T.set p0 23).set (.int .i64 100) 3) S1) := by kernel_rfl
theorem reg9_4 {O : Known} {T : FT} {S : MS} {Q : FT → MS → Prop} : mOps Try.prog O 97 (ro 9 4).toList (ro 9 4).toList [] T S Q =
  (∃ p1 S1, msS S 1 8 [.int .i64 0] (T.get 4) (T.get 4) = some (p1, S1) ∧ Q (((T.set (T.get 4) 24).set p1 25).set p1 5) S1) := by kernel_rfl
theorem reg9_5 {O : Known} {T : FT} {S : MS} {Q : FT → MS → Prop} : mOps Try.prog O 97 (ro 9 5).toList (ro 9 5).toList [] T S Q =
  (Q (T.set (.int .i64 0) 6) S) := by kernel_rfl
theorem reg9_6 {O : Known} {T : FT} {S : MS} {Q : FT → MS → Prop} : mOps Try.prog O 97 (ro 9 6).toList (ro 9 6).toList [] T S Q =
  (∃ p0, faS 1 (T.get 1) = some p0 ∧ ∃ p1, ldS none S p0 = some p1 ∧ ∃ p2, lenSl p1 = some p2 ∧ Q ((((T.set p0 26).set p1 27).set p2 28).set (.int .i64 0) 29) S) := by kernel_rfl
theorem reg9_7 {O : Known} {T : FT} {S : MS} {Q : FT → MS → Prop} : mOps Try.prog O 97 (ro 9 7).toList (ro 9 7).toList [] T S Q =
  (∃ p0, abin Try.prog .lss 3 (.tmp 29) (.tmp 28) (T.get 29) (T.get 28) = some p0 ∧ Q (T.set p0 30) S) := by kernel_rfl
theorem reg9_8 {O : Known} {T : FT} {S : MS} {Q : FT → MS → Prop} : mOps Try.prog O 97 (ro 9 8).toList (ro 9 8).toList [] T S Q =
  (∃ p1, iaSS 5 (T.get 27) (T.get 29) = some p1 ∧ ∃ p2, ldS (some 5) S p1 = some p2 ∧ ∃ S5, stS 5 (S.fresh [.slice none 0 0, .int .i64 0, .int .i64 0, .int .i64 0, .int .i64 0] 0) (ptrTo S.n) p2 = some S5 ∧ Q (((((T.set (T.get 29) 31).set p1 32).set p2 33).set (ptrTo S.n) 8).set (T.get 29) 7) S5) := by kernel_rfl
theorem reg9_9 {O : Known} {T : FT} {S : MS} {Q : FT → MS → Prop} : mOps Try.prog O 97 (ro 9 9).toList (ro 9 9).toList [] T S Q =
  (∃ p0, ldS (some 5) S (T.get 8) = some p0 ∧ CallM Try.prog O 21 [p0, (T.get 4)] S fun p2 S2 => ∃ p3, aunary .not p2 = some p3 ∧ Q ((((T.set p0 34).set (T.get 4) 35).set p2 36).set p3 37) S2) := by kernel_rfl
theorem reg9_10 {O : Known} {T : FT} {S : MS} {Q : FT → MS → Prop} : mOps Try.prog O 97 (ro 9 10).toList (ro 9 10).toList [] T S Q =
  (∃ p0, bdS (fun i => [(0, 1), (1, 1)][i]?) [.int .i64 0, .slice none 0 0] [] = some p0 ∧ ∃ S1, stS 2 S (T.get 2) p0 = some S1 ∧ Q ((T.set p0 38).set (.int .i64 100) 3) S1) := by kernel_rfl
theorem reg9_11 {O : Known} {T : FT} {S : MS} {Q : FT → MS → Prop} : mOps Try.prog O 97 (ro 9 11).toList (ro 9 11).toList [] T S Q =
  (∃ p3, iaSS 1 (T.get 5) (T.get 7) = some p3 ∧ ∃ S4, stS 1 S p3 (T.get 6) = some S4 ∧ Q ((((T.set (T.get 5) 39).set (T.get 7) 40).set (T.get 6) 41).set p3 42) S4) := by kernel_rfl
theorem reg9_12 {O : Known} {T : FT} {S : MS} {Q : FT → MS → Prop} : mDraw Try.prog O 97 (ro 9 12).toList T S Q =
  (∃ p4, ldS (some 5) S (T.get 8) = some p4 ∧ CallM Try.prog O 22 [p4, (T.get 7)] S fun p6 S6 => ∃ p1, faS 0 (T.get 8) = some p1 ∧ ∃ p2, ((ldS none S6 p1).bind fun v => (ldS none S p1).bind fun w => if veq v w then some v else none) = some p2 ∧ ∃ p3, ((lenSl p2).bind fun v => (lenSl p2).bind fun w => if veq v w then some v else none) = some p3 ∧ ∃ p7, lenSl p6 = some p7 ∧ ∃ p8, abin Try.prog .add 3 (.tmp 46) (.tmp 50) p3 p7 = some p8 ∧ ∃ p9, abin Try.prog .add 3 (.tmp 43) (.tmp 51) (T.get 6) p8 = some p9 ∧ Q (((((((((((T.set p4 47).set (T.get 7) 48).set p6 49).set (T.get 6) 43).set p1 44).set p2 45).set p3 46).set p7 50).set p8 51).set p9 52).set p9 6) S6) := by kernel_rfl
theorem reg9_13 {O : Known} {T : FT} {S : MS} {Q : FT → MS → Prop} : mOps Try.prog O 97 (ro 9 13).toList (ro 9 13).toList [] T S Q =
  (∃ p0, abin Try.prog .add 3 (.tmp 29) (.const (.int .i64 1)) (T.get 29) (.int .i64 1) = some p0 ∧ Q ((T.set p0 53).set p0 29) S) := by kernel_rfl
theorem reg9_14 {O : Known} {T : FT} {S : MS} {Q : FT → MS → Prop} : mOps Try.prog O 97 (ro 9 14).toList (ro 9 14).toList [] T S Q =
  (∃ p0, faS 0 (T.get 1) = some p0 ∧ ∃ p1, ldS none S p0 = some p1 ∧ ∃ p2, bdS (fun i => [(0, 1), (1, 1)][i]?) [.int .i64 0, .slice none 0 0] [(0, p1)] = some p2 ∧ ∃ S4, stS 2 (S.fresh [.int .i64 0, .slice none 0 0] 0) (ptrTo S.n) p2 = some S4 ∧ Q ((((T.set p0 54).set p1 55).set p2 56).set (ptrTo S.n) 9) S4) := by kernel_rfl
theorem reg9_15 {O : Known} {T : FT} {S : MS} {Q : FT → MS → Prop} : mOps Try.prog O 97 (ro 9 15).toList (ro 9 15).toList [] T S Q =
  (∃ p0, faS 1 (T.get 1) = some p0 ∧ ∃ p1, ldS none S p0 = some p1 ∧ ∃ p2, lenSl p1 = some p2 ∧ Q ((((T.set p0 57).set p1 58).set p2 59).set (.int .i64 0) 60) S) := by kernel_rfl
theorem reg9_16 {O : Known} {T : FT} {S : MS} {Q : FT → MS → Prop} : mOps Try.prog O 97 (ro 9 16).toList (ro 9 16).toList [] T S Q =
  (∃ p0, abin Try.prog .lss 3 (.tmp 60) (.tmp 59) (T.get 60) (T.get 59) = some p0 ∧ Q (T.set p0 61) S) := by kernel_rfl
theorem reg9_17 {O : Known} {T : FT} {S : MS} {Q : FT → MS → Prop} : mOps Try.prog O 97 (ro 9 17).toList (ro 9 17).toList [] T S Q =
  (∃ p1, iaSS 5 (T.get 58) (T.get 60) = some p1 ∧ ∃ p2, ldS (some 5) S p1 = some p2 ∧ ∃ S5, stS 5 (S.fresh [.slice none 0 0, .int .i64 0, .int .i64 0, .int .i64 0, .int .i64 0] 0) (ptrTo S.n) p2 = some S5 ∧ Q (((((T.set (T.get 60) 62).set p1 63).set p2 64).set (ptrTo S.n) 11).set (T.get 60) 10) S5) := by kernel_rfl
theorem reg9_18 {O : Known} {T : FT} {S : MS} {Q : FT → MS → Prop} : mOps Try.prog O 97 (ro 9 18).toList (ro 9 18).toList [] T S Q =
  (∃ p0, faS 1 (T.get 9) = some p0 ∧ ∃ p1, ldS none S p0 = some p1 ∧ ∃ p2, faS 0 (T.get 11) = some p2 ∧ ∃ p3, ldS none S p2 = some p3 ∧ ∃ p4 S4, apS false 5 40 [.int .i64 0, .int .i64 0, .int .i64 0, .int .i64 0, .int .i64 0] S [p1, p3] = some (p4, S4) ∧ ∃ p5, faS 1 (T.get 9) = some p5 ∧ ∃ S6, stS 1 S4 p5 p4 = some S6 ∧ Q ((((((T.set p0 65).set p1 66).set p2 67).set p3 68).set p4 69).set p5 70) S6) := by kernel_rfl
theorem reg9_19 {O : Known} {T : FT} {S : MS} {Q : FT → MS → Prop} : mOps Try.prog O 97 (ro 9 19).toList (ro 9 19).toList [] T S Q =
  (∃ p0, ldS (some 5) S (T.get 11) = some p0 ∧ CallM Try.prog O 22 [p0, (T.get 10)] S fun p2 S2 => ∃ p3, lenSl p2 = some p3 ∧ Q (((((T.set p0 71).set (T.get 10) 72).set p2 73).set p3 74).set (.int .i64 0) 75) S2) := by kernel_rfl
theorem reg9_20 {O : Known} {T : FT} {S : MS} {Q : FT → MS → Prop} : mOps Try.prog O 97 (ro 9 20).toList (ro 9 20).toList [] T S Q =
  (∃ p0, abin Try.prog .lss 3 (.tmp 75) (.tmp 74) (T.get 75) (T.get 74) = some p0 ∧ Q (T.set p0 76) S) := by kernel_rfl
theorem reg9_21 {O : Known} {T : FT} {S : MS} {Q : FT → MS → Prop} : mOps Try.prog O 97 (ro 9 21).toList (ro 9 21).toList [] T S Q =
  (∃ p0, iaSS 5 (T.get 73) (T.get 75) = some p0 ∧ ∃ p1, ldS (some 5) S p0 = some p1 ∧ ∃ S3, stS 5 (S.fresh [.int .i64 0, .int .i64 0, .int .i64 0, .int .i64 0, .int .i64 0] 0) (ptrTo S.n) p1 = some S3 ∧ Q (((T.set p0 77).set p1 78).set (ptrTo S.n) 13) S3) := by kernel_rfl
theorem reg9_22 {O : Known} {T : FT} {S : MS} {Q : FT → MS → Prop} : mOps Try.prog O 97 (ro 9 22).toList (ro 9 22).toList [] T S Q =
  (∃ p0, faS 0 (T.get 13) = some p0 ∧ ∃ p1, ldS none S p0 = some p1 ∧ ∃ p2, abin Try.prog .neq 3 (.tmp 80) (.const (.int .i64 40)) p1 (.int .i64 40) = some p2 ∧ Q (((T.set p0 79).set p1 80).set p2 81) S) := by kernel_rfl
theorem reg9_23 {O : Known} {T : FT} {S : MS} {Q : FT → MS → Prop} : mOps Try.prog O 97 (ro 9 23).toList (ro 9 23).toList [] T S Q =
  (∃ p1, faS 4 (T.get 13) = some p1 ∧ ∃ p2, ldS none S p1 = some p2 ∧ ∃ p3, iaSS 1 (T.get 5) p2 = some p3 ∧ ∃ p4, ldS none S p3 = some p4 ∧ ∃ p5, faS 4 (T.get 13) = some p5 ∧ ∃ S6, stS 1 S p5 p4 = some S6 ∧ Q ((((((T.set (T.get 5) 82).set p1 83).set p2 84).set p3 85).set p4 86).set p5 87) S6) := by kernel_rfl
theorem reg9_24 {O : Known} {T : FT} {S : MS} {Q : FT → MS → Prop} : mOps Try.prog O 97 (ro 9 24).toList (ro 9 24).toList [] T S Q =
  (∃ p0, faS 1 (T.get 9) = some p0 ∧ ∃ p1, ldS none S p0 = some p1 ∧ ∃ p2, ldS (some 5) S (T.get 13) = some p2 ∧ ∃ p3 S3, bsS S 1 5 [.int .i64 0, .int .i64 0, .int .i64 0, .int .i64 0, .int .i64 0] [(0, p2)] = some (p3, S3) ∧ ∃ p4 S4, apS false 5 40 [.int .i64 0, .int .i64 0, .int .i64 0, .int .i64 0, .int .i64 0] S3 [p1, p3] = some (p4, S4) ∧ ∃ p5, faS 1 (T.get 9) = some p5 ∧ ∃ S6, stS 1 S4 p5 p4 = some S6 ∧ Q ((((((T.set p0 88).set p1 89).set p2 90).set p3 91).set p4 92).set p5 93) S6) := by kernel_rfl
theorem reg9_25 {O : Known} {T : FT} {S : MS} {Q : FT → MS → Prop} : mOps Try.prog O 97 (ro 9 25).toList (ro 9 25).toList [] T S Q =
  (∃ p0, abin Try.prog .add 3 (.tmp 75) (.const (.int .i64 1)) (T.get 75) (.int .i64 1) = some p0 ∧ Q ((T.set p0 94).set p0 75) S) := by kernel_rfl
theorem reg9_26 {O : Known} {T : FT} {S : MS} {Q : FT → MS → Prop} : mOps Try.prog O 97 (ro 9 26).toList (ro 9 26).toList [] T S Q =
  (∃ p0, abin Try.prog .add 3 (.tmp 60) (.const (.int .i64 1)) (T.get 60) (.int .i64 1) = some p0 ∧ Q ((T.set p0 95).set p0 60) S) := by kernel_rfl
theorem reg9_27 {O : Known} {T : FT} {S : MS} {Q : FT → MS → Prop} : mOps Try.prog O 97 (ro 9 27).toList (ro 9 27).toList [] T S Q =
  (∃ p0, ldS (some 2) S (T.get 9) = some p0 ∧ ∃ S1, stS 2 S (T.get 2) p0 = some S1 ∧ Q ((T.set p0 96).set (.int .i64 0) 3) S1) := by kernel_rfl
/-! ### 10: windlass/windlassref10.Fn -/
/-! ### 11: windlass/flow.Reached -/
theorem body11 : (Try.prog.funcs[11]?).bind (·.body) = some (.seq (.region 0 (ro 11 0) false) (.seq (.seq (.region 1 (ro 11 1) false) (.seq (.region 2 (ro 11 2) false) (.cond (.tmp 14) (.seq (.region 3 (ro 11 3) false) .ret) .skip))) (.seq (.region 4 (ro 11 4) false) (.seq (.seq (.region 5 (ro 11 5) false) (.block 0 (.rangeFunc (.tmp 24) #[25] (.region 6 (ro 11 6) false) (.block 1 (.region 7 (ro 11 7) false))))) (.seq (.region 8 (ro 11 8) false) .ret))))) := by kernel_rfl
theorem res11 : (Try.prog.funcs[11]?).map (·.results.toList) = some [.tmp 2, .tmp 3] := by kernel_rfl
theorem is11 : fnIsB Try.prog 11 30 = true := by kernel_rfl
theorem reg11_0 {O : Known} {T : FT} {S : MS} {Q : FT → MS → Prop} : mOps Try.prog O 30 (ro 11 0).toList (ro 11 0).toList [] T S Q =
  (Q (((T.set (ptrTo S.n) 1).set (.slice none 0 0) 2).set (.int .i64 0) 3) (S.fresh (Value.cells (T.get 0)).toList 0)) := by kernel_rfl
theorem reg11_1 {O : Known} {T : FT} {S : MS} {Q : FT → MS → Prop} : mOps Try.prog O 30 (ro 11 1).toList (ro 11 1).toList [] T S Q =
  (∃ p0, ldS (some 2) S (T.get 1) = some p0 ∧ CallM Try.prog O 9 [p0] S fun p1 S1 => ∃ p3, aextract p1 0 = some p3 ∧ ∃ p4, aextract p1 1 = some p4 ∧ ∃ S6, stS 2 (S1.fresh [.int .i64 0, .slice none 0 0] 0) (ptrTo S1.n) p3 = some S6 ∧ Q (((((((T.set p0 9).set p1 10).set p1 8).set p3 11).set p4 12).set (ptrTo S1.n) 4).set p4 5) S6) := by kernel_rfl
theorem reg11_2 {O : Known} {T : FT} {S : MS} {Q : FT → MS → Prop} : mOps Try.prog O 30 (ro 11 2).toList (ro 11 2).toList [] T S Q =
  (∃ p1, abin Try.prog .neq 30 (.tmp 13) (.const (.int .i64 0)) (T.get 5) (.int .i64 0) = some p1 ∧ Q ((T.set (T.get 5) 13).set p1 14) S) := by kernel_rfl
theorem reg11_3 {O : Known} {T : FT} {S : MS} {Q : FT → MS → Prop} : mOps Try.prog O 30 (ro 11 3).toList (ro 11 3).toList [] T S Q =
  (Q (((T.set (T.get 5) 15).set (.slice none 0 0) 2).set (T.get 5) 3) S) := by kernel_rfl
theorem reg11_4 {O : Known} {T : FT} {S : MS} {Q : FT → MS → Prop} : mOps Try.prog O 30 (ro 11 4).toList (ro 11 4).toList [] T S Q =
  (∃ p0, faS 1 (T.get 1) = some p0 ∧ ∃ p1, ldS none S p0 = some p1 ∧ ∃ p2, lenSl p1 = some p2 ∧ ∃ p3 S3, msS S 1 1 [.bool false] p2 p2 = some (p3, S3) ∧ ∃ S5, stS 1 (S3.fresh [.slice none 0 0] 0) (ptrTo S3.n) p3 = some S5 ∧ Q (((((T.set p0 16).set p1 17).set p2 18).set p3 19).set (ptrTo S3.n) 6) S5) := by kernel_rfl
theorem reg11_5 {O : Known} {T : FT} {S : MS} {Q : FT → MS → Prop} : mOps Try.prog O 30 (ro 11 5).toList (ro 11 5).toList [] T S Q =
  (∃ p0, faS 1 (T.get 1) = some p0 ∧ ∃ p1, ldS none S p0 = some p1 ∧ ∃ p2, lenSl p1 = some p2 ∧ CallM Try.prog O 25 [p2, (.func (.func 26) (Array.mk []) (Array.mk [(T.get 1)]))] S fun p4 S4 => Q (((((T.set p0 20).set p1 21).set p2 22).set (.func (.func 26) (Array.mk []) (Array.mk [(T.get 1)])) 23).set p4 24) S4) := by kernel_rfl
theorem reg11_6 {O : Known} {T : FT} {S : MS} {Q : FT → MS → Prop} : mOps Try.prog O 30 (ro 11 6).toList (ro 11 6).toList [] T S Q =
  (Q (T.set (T.get 25) 7) S) := by kernel_rfl
theorem reg11_7 {O : Known} {T : FT} {S : MS} {Q : FT → MS → Prop} : mOps Try.prog O 30 (ro 11 7).toList (ro 11 7).toList [] T S Q =
  (∃ p0, ldS none S (T.get 6) = some p0 ∧ ∃ p2, iaSS 1 p0 (T.get 7) = some p2 ∧ ∃ S3, stS 1 S p2 (.bool true) = some S3 ∧ Q (((T.set p0 26).set (T.get 7) 27).set p2 28) S3) := by kernel_rfl
theorem reg11_8 {O : Known} {T : FT} {S : MS} {Q : FT → MS → Prop} : mOps Try.prog O 30 (ro 11 8).toList (ro 11 8).toList [] T S Q =
  (∃ p0, ldS none S (T.get 6) = some p0 ∧ Q (((T.set p0 29).set p0 2).set (.int .i64 0) 3) S) := by kernel_rfl
/-! ### 12: windlass/windlassref10.Reached -/
/-! ### 21: windlass/flow.right -/
theorem body21 : (Try.prog.funcs[21]?).bind (·.body) = some (.seq (.region 0 (ro 21 0) false) (.seq (.seq (.region 1 (ro 21 1) false) (.block 0 (.loop (.seq (.region 2 (ro 21 2) false) (.seq (.cond (.tmp 11) .skip (.exit 0)) (.seq (.block 1 (.seq (.region 3 (ro 21 3) false) (.seq (.region 4 (ro 21 4) false) (.cond (.tmp 26) (.seq (.region 5 (ro 21 5) false) .ret) .skip)))) (.region 6 (ro 21 6) false))))))) (.seq (.seq (.region 7 (ro 21 7) false) (.block 2 (.seq (.region 8 (ro 21 8) false) (.cond (.tmp 30) (.seq (.region 9 (ro 21 9) false) .ret) (.seq (.region 10 (ro 21 10) false) (.cond (.tmp 46) (.seq (.region 11 (ro 21 11) false) .ret) (.seq (.region 12 (ro 21 12) false) (.cond (.tmp 63) (.seq (.region 13 (ro 21 13) false) .ret) .skip)))))))) (.seq (.region 14 (ro 21 14) false) .ret)))) := by kernel_rfl
theorem res21 : (Try.prog.funcs[21]?).map (·.results.toList) = some [.tmp 4] := by kernel_rfl
theorem is21 : fnIsB Try.prog 21 78 = true := by kernel_rfl
theorem reg21_0 {O : Known} {T : FT} {S : MS} {Q : FT → MS → Prop} : mOps Try.prog O 78 (ro 21 0).toList (ro 21 0).toList [] T S Q =
  (Q ((T.set (ptrTo S.n) 2).set (.bool false) 4) (S.fresh (Value.cells (T.get 0)).toList 0)) := by kernel_rfl
theorem reg21_1 {O : Known} {T : FT} {S : MS} {Q : FT → MS → Prop} : mOps Try.prog O 78 (ro 21 1).toList (ro 21 1).toList [] T S Q =
  (∃ p0, faS 0 (T.get 2) = some p0 ∧ ∃ p1, ldS none S p0 = some p1 ∧ ∃ p2, lenSl p1 = some p2 ∧ Q ((((T.set p0 7).set p1 8).set p2 9).set (.int .i64 0) 10) S) := by kernel_rfl
theorem reg21_2 {O : Known} {T : FT} {S : MS} {Q : FT → MS → Prop} : mOps Try.prog O 78 (ro 21 2).toList (ro 21 2).toList [] T S Q =
  (∃ p0, abin Try.prog .lss 3 (.tmp 10) (.tmp 9) (T.get 10) (T.get 9) = some p0 ∧ Q (T.set p0 11) S) := by kernel_rfl
theorem reg21_3 {O : Known} {T : FT} {S : MS} {Q : FT → MS → Prop} : mOps Try.prog O 78 (ro 21 3).toList (ro 21 3).toList [] T S Q =
  (∃ p0, iaSS 5 (T.get 8) (T.get 10) = some p0 ∧ ∃ p1, ldS (some 5) S p0 = some p1 ∧ ∃ S3, stS 5 (S.fresh [.int .i64 0, .int .i64 0, .int .i64 0, .int .i64 0, .int .i64 0] 0) (ptrTo S.n) p1 = some S3 ∧ Q (((T.set p0 12).set p1 13).set (ptrTo S.n) 6) S3) := by kernel_rfl
theorem reg21_4 {O : Known} {T : FT} {S : MS} {Q : FT → MS → Prop} : mOps Try.prog O 78 (ro 21 4).toList (ro 21 4).toList [] T S Q =
  (∃ p0, faS 0 (T.get 6) = some p0 ∧ ∃ p1, ldS none S p0 = some p1 ∧ ∃ p2, abin Try.prog .eql 3 (.tmp 15) (.const (.int .i64 38)) p1 (.int .i64 38) = some p2 ∧ ∃ b3, p2 = .bool b3 ∧
      (b3 = true → ∃ p7, pickS p2 (.bool true) undef = some p7 ∧ ∃ b8, p7 = .bool b8 ∧
           (b8 = true → ∃ p12, pickS p7 (.bool true) undef = some p12 ∧ Q (((((((((((((T.set p0 14).set p1 15).set p2 16).set p2 17).set undef 18).set undef 19).set undef 20).set p7 21).set p7 22).set undef 23).set undef 24).set undef 25).set p12 26) S) ∧
           (b8 = false → ∃ p9, faS 0 (T.get 6) = some p9 ∧ ∃ p10, ldS none S p9 = some p10 ∧ ∃ p11, abin Try.prog .eql 3 (.tmp 24) (.const (.int .i64 40)) p10 (.int .i64 40) = some p11 ∧ ∃ p12, pickS p7 (.bool true) p11 = some p12 ∧ Q (((((((((((((T.set p0 14).set p1 15).set p2 16).set p2 17).set undef 18).set undef 19).set undef 20).set p7 21).set p7 22).set p9 23).set p10 24).set p11 25).set p12 26) S)) ∧
      (b3 = false → ∃ p4, faS 0 (T.get 6) = some p4 ∧ ∃ p5, ldS none S p4 = some p5 ∧ ∃ p6, abin Try.prog .eql 3 (.tmp 19) (.const (.int .i64 39)) p5 (.int .i64 39) = some p6 ∧ ∃ p7, pickS p2 (.bool true) p6 = some p7 ∧ ∃ b8, p7 = .bool b8 ∧
           (b8 = true → ∃ p12, pickS p7 (.bool true) undef = some p12 ∧ Q (((((((((((((T.set p0 14).set p1 15).set p2 16).set p2 17).set p4 18).set p5 19).set p6 20).set p7 21).set p7 22).set undef 23).set undef 24).set undef 25).set p12 26) S) ∧
           (b8 = false → ∃ p9, faS 0 (T.get 6) = some p9 ∧ ∃ p10, ldS none S p9 = some p10 ∧ ∃ p11, abin Try.prog .eql 3 (.tmp 24) (.const (.int .i64 40)) p10 (.int .i64 40) = some p11 ∧ ∃ p12, pickS p7 (.bool true) p11 = some p12 ∧ Q (((((((((((((T.set p0 14).set p1 15).set p2 16).set p2 17).set p4 18).set p5 19).set p6 20).set p7 21).set p7 22).set p9 23).set p10 24).set p11 25).set p12 26) S))) := by kernel_rfl
theorem reg21_5 {O : Known} {T : FT} {S : MS} {Q : FT → MS → Prop} : mOps Try.prog O 78 (ro 21 5).toList (ro 21 5).toList [] T S Q =
  (Q (T.set (.bool false) 4) S) := by kernel_rfl
theorem reg21_6 {O : Known} {T : FT} {S : MS} {Q : FT → MS → Prop} : mOps Try.prog O 78 (ro 21 6).toList (ro 21 6).toList [] T S Q =
  (∃ p0, abin Try.prog .add 3 (.tmp 10) (.const (.int .i64 1)) (T.get 10) (.int .i64 1) = some p0 ∧ Q ((T.set p0 27).set p0 10) S) := by kernel_rfl
theorem reg21_7 {O : Known} {T : FT} {S : MS} {Q : FT → MS → Prop} : mOps Try.prog O 78 (ro 21 7).toList (ro 21 7).toList [] T S Q =
  (∃ p0, faS 1 (T.get 2) = some p0 ∧ ∃ p1, ldS none S p0 = some p1 ∧ Q ((T.set p0 28).set p1 29) S) := by kernel_rfl
theorem reg21_8 {O : Known} {T : FT} {S : MS} {Q : FT → MS → Prop} : mOps Try.prog O 78 (ro 21 8).toList (ro 21 8).toList [] T S Q =
  (∃ p0, abin Try.prog .eql 3 (.tmp 29) (.const (.int .i64 38)) (T.get 29) (.int .i64 38) = some p0 ∧ Q ((T.set p0 31).set p0 30) S) := by kernel_rfl
theorem reg21_9 {O : Known} {T : FT} {S : MS} {Q : FT → MS → Prop} : mOps Try.prog O 78 (ro 21 9).toList (ro 21 9).toList [] T S Q =
  (∃ p0, faS 3 (T.get 2) = some p0 ∧ ∃ p1, ldS none S p0 = some p1 ∧ CallM Try.prog O 28 [p1, (T.get 1)] S fun p3 S3 => ∃ b4, p3 = .bool b4 ∧
       (b4 = true → ∃ p5, faS 2 (T.get 2) = some p5 ∧ ∃ p6, ldS none S3 p5 = some p6 ∧ ∃ p7, abin Try.prog .eql 3 (.tmp 38) (.const (.int .i64 0)) p6 (.int .i64 0) = some p7 ∧ ∃ p8, pickS p3 p7 (.bool false) = some p8 ∧ ∃ b9, p8 = .bool b9 ∧
            (b9 = true → ∃ p10, faS 4 (T.get 2) = some p10 ∧ ∃ p11, ldS none S3 p10 = some p11 ∧ ∃ p12, abin Try.prog .eql 3 (.tmp 43) (.const (.int .i64 0)) p11 (.int .i64 0) = some p12 ∧ ∃ p13, pickS p8 p12 (.bool false) = some p13 ∧ Q (((((((((((((((T.set p0 32).set p1 33).set (T.get 1) 34).set p3 35).set p3 36).set p5 37).set p6 38).set p7 39).set p8 40).set p8 41).set p10 42).set p11 43).set p12 44).set p13 45).set p13 4) S3) ∧
            (b9 = false → ∃ p13, pickS p8 undef (.bool false) = some p13 ∧ Q (((((((((((((((T.set p0 32).set p1 33).set (T.get 1) 34).set p3 35).set p3 36).set p5 37).set p6 38).set p7 39).set p8 40).set p8 41).set undef 42).set undef 43).set undef 44).set p13 45).set p13 4) S3)) ∧
       (b4 = false → ∃ p8, pickS p3 undef (.bool false) = some p8 ∧ ∃ b9, p8 = .bool b9 ∧
            (b9 = true → ∃ p10, faS 4 (T.get 2) = some p10 ∧ ∃ p11, ldS none S3 p10 = some p11 ∧ ∃ p12, abin Try.prog .eql 3 (.tmp 43) (.const (.int .i64 0)) p11 (.int .i64 0) = some p12 ∧ ∃ p13, pickS p8 p12 (.bool false) = some p13 ∧ Q (((((((((((((((T.set p0 32).set p1 33).set (T.get 1) 34).set p3 35).set p3 36).set undef 37).set undef 38).set undef 39).set p8 40).set p8 41).set p10 42).set p11 43).set p12 44).set p13 45).set p13 4) S3) ∧
            (b9 = false → ∃ p13, pickS p8 undef (.bool false) = some p13 ∧ Q (((((((((((((((T.set p0 32).set p1 33).set (T.get 1) 34).set p3 35).set p3 36).set undef 37).set undef 38).set undef 39).set p8 40).set p8 41).set undef 42).set undef 43).set undef 44).set p13 45).set p13 4) S3))) := by kernel_rfl
theorem reg21_10 {O : Known} {T : FT} {S : MS} {Q : FT → MS → Prop} : mOps Try.prog O 78 (ro 21 10).toList (ro 21 10).toList [] T S Q =
  (∃ p0, abin Try.prog .eql 3 (.tmp 29) (.const (.int .i64 39)) (T.get 29) (.int .i64 39) = some p0 ∧ Q ((T.set p0 47).set p0 46) S) := by kernel_rfl
theorem reg21_11 {O : Known} {T : FT} {S : MS} {Q : FT → MS → Prop} : mOps Try.prog O 78 (ro 21 11).toList (ro 21 11).toList [] T S Q =
  (∃ p0, faS 3 (T.get 2) = some p0 ∧ ∃ p1, ldS none S p0 = some p1 ∧ CallM Try.prog O 28 [p1, (T.get 1)] S fun p3 S3 => ∃ b4, p3 = .bool b4 ∧
       (b4 = true → ∃ p5, faS 4 (T.get 2) = some p5 ∧ ∃ p6, ldS none S3 p5 = some p6 ∧ CallM Try.prog O 28 [p6, (T.get 1)] S3 fun p8 S8 => ∃ p9, pickS p3 p8 (.bool false) = some p9 ∧ ∃ b10, p9 = .bool b10 ∧
             (b10 = true → ∃ p11, faS 2 (T.get 2) = some p11 ∧ ∃ p12, ldS none S8 p11 = some p12 ∧ ∃ p13, abin Try.prog .geq 3 (.tmp 60) (.const (.int .i64 0)) p12 (.int .i64 0) = some p13 ∧ ∃ p14, pickS p9 p13 (.bool false) = some p14 ∧ Q ((((((((((((((((T.set p0 48).set p1 49).set (T.get 1) 50).set p3 51).set p3 52).set p5 53).set p6 54).set (T.get 1) 55).set p8 56).set p9 57).set p9 58).set p11 59).set p12 60).set p13 61).set p14 62).set p14 4) S8) ∧
             (b10 = false → ∃ p14, pickS p9 undef (.bool false) = some p14 ∧ Q ((((((((((((((((T.set p0 48).set p1 49).set (T.get 1) 50).set p3 51).set p3 52).set p5 53).set p6 54).set (T.get 1) 55).set p8 56).set p9 57).set p9 58).set undef 59).set undef 60).set undef 61).set p14 62).set p14 4) S8)) ∧
       (b4 = false → ∃ p9, pickS p3 undef (.bool false) = some p9 ∧ ∃ b10, p9 = .bool b10 ∧
             (b10 = true → ∃ p11, faS 2 (T.get 2) = some p11 ∧ ∃ p12, ldS none S3 p11 = some p12 ∧ ∃ p13, abin Try.prog .geq 3 (.tmp 60) (.const (.int .i64 0)) p12 (.int .i64 0) = some p13 ∧ ∃ p14, pickS p9 p13 (.bool false) = some p14 ∧ Q ((((((((((((((((T.set p0 48).set p1 49).set (T.get 1) 50).set p3 51).set p3 52).set undef 53).set undef 54).set undef 55).set undef 56).set p9 57).set p9 58).set p11 59).set p12 60).set p13 61).set p14 62).set p14 4) S3) ∧
             (b10 = false → ∃ p14, pickS p9 undef (.bool false) = some p14 ∧ Q ((((((((((((((((T.set p0 48).set p1 49).set (T.get 1) 50).set p3 51).set p3 52).set undef 53).set undef 54).set undef 55).set undef 56).set p9 57).set p9 58).set undef 59).set undef 60).set undef 61).set p14 62).set p14 4) S3))) := by kernel_rfl
theorem reg21_12 {O : Known} {T : FT} {S : MS} {Q : FT → MS → Prop} : mOps Try.prog O 78 (ro 21 12).toList (ro 21 12).toList [] T S Q =
  (∃ p0, abin Try.prog .eql 3 (.tmp 29) (.const (.int .i64 40)) (T.get 29) (.int .i64 40) = some p0 ∧ Q ((T.set p0 64).set p0 63) S) := by kernel_rfl
theorem reg21_13 {O : Known} {T : FT} {S : MS} {Q : FT → MS → Prop} : mOps Try.prog O 78 (ro 21 13).toList (ro 21 13).toList [] T S Q =
  (∃ p0, faS 2 (T.get 2) = some p0 ∧ ∃ p1, ldS none S p0 = some p1 ∧ ∃ p2, abin Try.prog .geq 3 (.tmp 66) (.const (.int .i64 (-1))) p1 (.int .i64 (-1)) = some p2 ∧ ∃ b3, p2 = .bool b3 ∧
      (b3 = true → ∃ p4, faS 3 (T.get 2) = some p4 ∧ ∃ p5, ldS none S p4 = some p5 ∧ ∃ p6, abin Try.prog .eql 3 (.tmp 70) (.const (.int .i64 0)) p5 (.int .i64 0) = some p6 ∧ ∃ p7, pickS p2 p6 (.bool false) = some p7 ∧ ∃ b8, p7 = .bool b8 ∧
           (b8 = true → ∃ p9, faS 4 (T.get 2) = some p9 ∧ ∃ p10, ldS none S p9 = some p10 ∧ ∃ p11, abin Try.prog .eql 3 (.tmp 75) (.const (.int .i64 0)) p10 (.int .i64 0) = some p11 ∧ ∃ p12, pickS p7 p11 (.bool false) = some p12 ∧ Q ((((((((((((((T.set p0 65).set p1 66).set p2 67).set p2 68).set p4 69).set p5 70).set p6 71).set p7 72).set p7 73).set p9 74).set p10 75).set p11 76).set p12 77).set p12 4) S) ∧
           (b8 = false → ∃ p12, pickS p7 undef (.bool false) = some p12 ∧ Q ((((((((((((((T.set p0 65).set p1 66).set p2 67).set p2 68).set p4 69).set p5 70).set p6 71).set p7 72).set p7 73).set undef 74).set undef 75).set undef 76).set p12 77).set p12 4) S)) ∧
      (b3 = false → ∃ p7, pickS p2 undef (.bool false) = some p7 ∧ ∃ b8, p7 = .bool b8 ∧
           (b8 = true → ∃ p9, faS 4 (T.get 2) = some p9 ∧ ∃ p10, ldS none S p9 = some p10 ∧ ∃ p11, abin Try.prog .eql 3 (.tmp 75) (.const (.int .i64 0)) p10 (.int .i64 0) = some p11 ∧ ∃ p12, pickS p7 p11 (.bool false) = some p12 ∧ Q ((((((((((((((T.set p0 65).set p1 66).set p2 67).set p2 68).set undef 69).set undef 70).set undef 71).set p7 72).set p7 73).set p9 74).set p10 75).set p11 76).set p12 77).set p12 4) S) ∧
           (b8 = false → ∃ p12, pickS p7 undef (.bool false) = some p12 ∧ Q ((((((((((((((T.set p0 65).set p1 66).set p2 67).set p2 68).set undef 69).set undef 70).set undef 71).set p7 72).set p7 73).set undef 74).set undef 75).set undef 76).set p12 77).set p12 4) S))) := by kernel_rfl
theorem reg21_14 {O : Known} {T : FT} {S : MS} {Q : FT → MS → Prop} : mOps Try.prog O 78 (ro 21 14).toList (ro 21 14).toList [] T S Q =
  (Q (T.set (.bool false) 4) S) := by kernel_rfl
/-! ### 22: windlass/flow.tail -/
theorem body22 : (Try.prog.funcs[22]?).bind (·.body) = some (.seq (.region 0 (ro 22 0) false) (.seq (.seq (.region 1 (ro 22 1) false) (.block 0 (.seq (.region 2 (ro 22 2) false) (.cond (.tmp 8) (.seq (.region 3 (ro 22 3) false) .ret) (.seq (.region 4 (ro 22 4) false) (.cond (.tmp 14) (.seq (.region 5 (ro 22 5) false) (.seq (.seq (.region 6 (ro 22 6) false) (.cond (.tmp 26) (.region 7 (ro 22 7) false) .skip)) (.seq (.region 8 (ro 22 8) false) .ret))) .skip)))))) (.seq (.seq (.region 9 (ro 22 9) false) (.cond (.tmp 38) (.seq (.region 10 (ro 22 10) false) .ret) .skip)) (.seq (.region 11 (ro 22 11) false) .ret)))) := by kernel_rfl
theorem res22 : (Try.prog.funcs[22]?).map (·.results.toList) = some [.tmp 4] := by kernel_rfl
theorem is22 : fnIsB Try.prog 22 43 = true := by kernel_rfl
theorem reg22_0 {O : Known} {T : FT} {S : MS} {Q : FT → MS → Prop} : mOps Try.prog O 43 (ro 22 0).toList (ro 22 0).toList [] T S Q =
  (Q ((T.set (ptrTo S.n) 2).set (.slice none 0 0) 4) (S.fresh (Value.cells (T.get 0)).toList 0)) := by kernel_rfl
theorem reg22_1 {O : Known} {T : FT} {S : MS} {Q : FT → MS → Prop} : mOps Try.prog O 43 (ro 22 1).toList (ro 22 1).toList [] T S Q =
  (∃ p0, faS 1 (T.get 2) = some p0 ∧ ∃ p1, ldS none S p0 = some p1 ∧ Q ((T.set p0 6).set p1 7) S) := by kernel_rfl
theorem reg22_2 {O : Known} {T : FT} {S : MS} {Q : FT → MS → Prop} : mOps Try.prog O 43 (ro 22 2).toList (ro 22 2).toList [] T S Q =
  (∃ p0, abin Try.prog .eql 3 (.tmp 7) (.const (.int .i64 40)) (T.get 7) (.int .i64 40) = some p0 ∧ Q ((T.set p0 9).set p0 8) S) := by kernel_rfl
theorem reg22_3 {O : Known} {T : FT} {S : MS} {Q : FT → MS → Prop} : mOps Try.prog O 43 (ro 22 3).toList (ro 22 3).toList [] T S Q =
  (∃ p0, faS 2 (T.get 2) = some p0 ∧ ∃ p1, ldS none S p0 = some p1 ∧ ∃ p2, bdS (fun i => [(0, 1), (1, 1), (2, 1), (3, 1), (4, 1)][i]?) [.int .i64 0, .int .i64 0, .int .i64 0, .int .i64 0, .int .i64 0] [(0, (.int .i64 40)), (2, p1)] = some p2 ∧ ∃ p3 S3, bsS S 1 5 [.int .i64 0, .int .i64 0, .int .i64 0, .int .i64 0, .int .i64 0] [(0, p2)] = some (p3, S3) ∧ Q (((((T.set p0 10).set p1 11).set p2 12).set p3 13).set p3 4) S3) := by kernel_rfl
theorem reg22_4 {O : Known} {T : FT} {S : MS} {Q : FT → MS → Prop} : mOps Try.prog O 43 (ro 22 4).toList (ro 22 4).toList [] T S Q =
  (∃ p0, abin Try.prog .eql 3 (.tmp 7) (.const (.int .i64 39)) (T.get 7) (.int .i64 39) = some p0 ∧ Q ((T.set p0 15).set p0 14) S) := by kernel_rfl
theorem reg22_5 {O : Known} {T : FT} {S : MS} {Q : FT → MS → Prop} : mOps Try.prog O 43 (ro 22 5).toList (ro 22 5).toList [] T S Q =
  (∃ p0, faS 2 (T.get 2) = some p0 ∧ ∃ p1, ldS none S p0 = some p1 ∧ ∃ p2, faS 3 (T.get 2) = some p2 ∧ ∃ p3, ldS none S p2 = some p3 ∧ ∃ p4, bdS (fun i => [(0, 1), (1, 1), (2, 1), (3, 1), (4, 1)][i]?) [.int .i64 0, .int .i64 0, .int .i64 0, .int .i64 0, .int .i64 0] [(0, (.int .i64 39)), (2, p1), (4, p3)] = some p4 ∧ ∃ p5 S5, bsS S 1 5 [.int .i64 0, .int .i64 0, .int .i64 0, .int .i64 0, .int .i64 0] [(0, p4)] = some (p5, S5) ∧ Q (((((((T.set p0 16).set p1 17).set p2 18).set p3 19).set p4 20).set p5 21).set p5 5) S5) := by kernel_rfl
theorem reg22_6 {O : Known} {T : FT} {S : MS} {Q : FT → MS → Prop} : mOps Try.prog O 43 (ro 22 6).toList (ro 22 6).toList [] T S Q =
  (∃ p0, faS 4 (T.get 2) = some p0 ∧ ∃ p1, ldS none S p0 = some p1 ∧ ∃ p3, abin Try.prog .add 3 (.tmp 24) (.const (.int .i64 1)) (T.get 1) (.int .i64 1) = some p3 ∧ ∃ p4, abin Try.prog .neq 3 (.tmp 23) (.tmp 25) p1 p3 = some p4 ∧ Q (((((T.set p0 22).set p1 23).set (T.get 1) 24).set p3 25).set p4 26) S) := by kernel_rfl
theorem reg22_7 {O : Known} {T : FT} {S : MS} {Q : FT → MS → Prop} : mOps Try.prog O 43 (ro 22 7).toList (ro 22 7).toList [] T S Q =
  (∃ p1, faS 4 (T.get 2) = some p1 ∧ ∃ p2, ldS none S p1 = some p2 ∧ ∃ p3, bdS (fun i => [(0, 1), (1, 1), (2, 1), (3, 1), (4, 1)][i]?) [.int .i64 0, .int .i64 0, .int .i64 0, .int .i64 0, .int .i64 0] [(0, (.int .i64 38)), (4, p2)] = some p3 ∧ ∃ p4 S4, bsS S 1 5 [.int .i64 0, .int .i64 0, .int .i64 0, .int .i64 0, .int .i64 0] [(0, p3)] = some (p4, S4) ∧ ∃ p5 S5, apS false 5 40 [.int .i64 0, .int .i64 0, .int .i64 0, .int .i64 0, .int .i64 0] S4 [(T.get 5), p4] = some (p5, S5) ∧ Q (((((((T.set (T.get 5) 27).set p1 28).set p2 29).set p3 30).set p4 31).set p5 32).set p5 5) S5) := by kernel_rfl
theorem reg22_8 {O : Known} {T : FT} {S : MS} {Q : FT → MS → Prop} : mOps Try.prog O 43 (ro 22 8).toList (ro 22 8).toList [] T S Q =
  (Q ((T.set (T.get 5) 33).set (T.get 5) 4) S) := by kernel_rfl
theorem reg22_9 {O : Known} {T : FT} {S : MS} {Q : FT → MS → Prop} : mOps Try.prog O 43 (ro 22 9).toList (ro 22 9).toList [] T S Q =
  (∃ p0, faS 3 (T.get 2) = some p0 ∧ ∃ p1, ldS none S p0 = some p1 ∧ ∃ p3, abin Try.prog .add 3 (.tmp 36) (.const (.int .i64 1)) (T.get 1) (.int .i64 1) = some p3 ∧ ∃ p4, abin Try.prog .eql 3 (.tmp 35) (.tmp 37) p1 p3 = some p4 ∧ Q (((((T.set p0 34).set p1 35).set (T.get 1) 36).set p3 37).set p4 38) S) := by kernel_rfl
theorem reg22_10 {O : Known} {T : FT} {S : MS} {Q : FT → MS → Prop} : mOps Try.prog O 43 (ro 22 10).toList (ro 22 10).toList [] T S Q =
  (Q (T.set (.slice none 0 0) 4) S) := by kernel_rfl
theorem reg22_11 {O : Known} {T : FT} {S : MS} {Q : FT → MS → Prop} : mOps Try.prog O 43 (ro 22 11).toList (ro 22 11).toList [] T S Q =
  (∃ p0, faS 3 (T.get 2) = some p0 ∧ ∃ p1, ldS none S p0 = some p1 ∧ ∃ p2, bdS (fun i => [(0, 1), (1, 1), (2, 1), (3, 1), (4, 1)][i]?) [.int .i64 0, .int .i64 0, .int .i64 0, .int .i64 0, .int .i64 0] [(0, (.int .i64 38)), (4, p1)] = some p2 ∧ ∃ p3 S3, bsS S 1 5 [.int .i64 0, .int .i64 0, .int .i64 0, .int .i64 0, .int .i64 0] [(0, p2)] = some (p3, S3) ∧ Q (((((T.set p0 39).set p1 40).set p2 41).set p3 42).set p3 4) S3) := by kernel_rfl
/-! ### 23: windlass/windlassref10.isGraph -/
/-! ### 24: windlass/windlassref10.size -/
/-! ### 26: windlass/flow.Reached$1 -/
theorem body26 : (Try.prog.funcs[26]?).bind (·.body) = some (.seq (.region 0 (ro 26 0) false) (.seq (.region 1 (ro 26 1) false) .ret)) := by kernel_rfl
theorem res26 : (Try.prog.funcs[26]?).map (·.results.toList) = some [.tmp 3] := by kernel_rfl
theorem is26 : fnIsB Try.prog 26 10 = true := by kernel_rfl
theorem reg26_0 {O : Known} {T : FT} {S : MS} {Q : FT → MS → Prop} : mOps Try.prog O 10 (ro 26 0).toList (ro 26 0).toList [] T S Q =
  (Q (T.set (.slice none 0 0) 3) S) := by kernel_rfl
theorem reg26_1 {O : Known} {T : FT} {S : MS} {Q : FT → MS → Prop} : mOps Try.prog O 10 (ro 26 1).toList (ro 26 1).toList [] T S Q =
  (∃ p0, faS 1 (T.get 1) = some p0 ∧ ∃ p1, ldS none S p0 = some p1 ∧ ∃ p3, iaSS 5 p1 (T.get 0) = some p3 ∧ ∃ p4, ldS (some 5) S p3 = some p4 ∧ CallM Try.prog O 27 [p4] S fun p5 S5 => Q (((((((T.set p0 4).set p1 5).set (T.get 0) 6).set p3 7).set p4 8).set p5 9).set p5 3) S5) := by kernel_rfl
/-! ### 27: windlass/flow.After -/
theorem body27 : (Try.prog.funcs[27]?).bind (·.body) = some (.seq (.region 0 (ro 27 0) false) (.seq (.seq (.region 1 (ro 27 1) false) (.block 0 (.seq (.region 2 (ro 27 2) false) (.cond (.tmp 5) (.seq (.region 3 (ro 27 3) false) .ret) (.seq (.region 4 (ro 27 4) false) (.cond (.tmp 10) (.seq (.region 5 (ro 27 5) false) .ret) .skip)))))) (.seq (.region 6 (ro 27 6) false) .ret))) := by kernel_rfl
theorem res27 : (Try.prog.funcs[27]?).map (·.results.toList) = some [.tmp 2] := by kernel_rfl
theorem is27 : fnIsB Try.prog 27 17 = true := by kernel_rfl
theorem reg27_0 {O : Known} {T : FT} {S : MS} {Q : FT → MS → Prop} : mOps Try.prog O 17 (ro 27 0).toList (ro 27 0).toList [] T S Q =
  (Q ((T.set (ptrTo S.n) 1).set (.slice none 0 0) 2) (S.fresh (Value.cells (T.get 0)).toList 0)) := by kernel_rfl
theorem reg27_1 {O : Known} {T : FT} {S : MS} {Q : FT → MS → Prop} : mOps Try.prog O 17 (ro 27 1).toList (ro 27 1).toList [] T S Q =
  (∃ p0, faS 1 (T.get 1) = some p0 ∧ ∃ p1, ldS none S p0 = some p1 ∧ Q ((T.set p0 3).set p1 4) S) := by kernel_rfl
theorem reg27_2 {O : Known} {T : FT} {S : MS} {Q : FT → MS → Prop} : mOps Try.prog O 17 (ro 27 2).toList (ro 27 2).toList [] T S Q =
  (∃ p0, abin Try.prog .eql 3 (.tmp 4) (.const (.int .i64 38)) (T.get 4) (.int .i64 38) = some p0 ∧ Q ((T.set p0 6).set p0 5) S) := by kernel_rfl
theorem reg27_3 {O : Known} {T : FT} {S : MS} {Q : FT → MS → Prop} : mOps Try.prog O 17 (ro 27 3).toList (ro 27 3).toList [] T S Q =
  (∃ p0, faS 3 (T.get 1) = some p0 ∧ ∃ p1, ldS none S p0 = some p1 ∧ ∃ p2 S2, bsS S 1 1 [.int .i64 0] [(0, p1)] = some (p2, S2) ∧ Q ((((T.set p0 7).set p1 8).set p2 9).set p2 2) S2) := by kernel_rfl
theorem reg27_4 {O : Known} {T : FT} {S : MS} {Q : FT → MS → Prop} : mOps Try.prog O 17 (ro 27 4).toList (ro 27 4).toList [] T S Q =
  (∃ p0, abin Try.prog .eql 3 (.tmp 4) (.const (.int .i64 39)) (T.get 4) (.int .i64 39) = some p0 ∧ Q ((T.set p0 11).set p0 10) S) := by kernel_rfl
theorem reg27_5 {O : Known} {T : FT} {S : MS} {Q : FT → MS → Prop} : mOps Try.prog O 17 (ro 27 5).toList (ro 27 5).toList [] T S Q =
  (∃ p0, faS 3 (T.get 1) = some p0 ∧ ∃ p1, ldS none S p0 = some p1 ∧ ∃ p2, faS 4 (T.get 1) = some p2 ∧ ∃ p3, ldS none S p2 = some p3 ∧ ∃ p4 S4, bsS S 2 1 [.int .i64 0, .int .i64 0] [(0, p1), (1, p3)] = some (p4, S4) ∧ Q ((((((T.set p0 12).set p1 13).set p2 14).set p3 15).set p4 16).set p4 2) S4) := by kernel_rfl
theorem reg27_6 {O : Known} {T : FT} {S : MS} {Q : FT → MS → Prop} : mOps Try.prog O 17 (ro 27 6).toList (ro 27 6).toList [] T S Q =
  (Q (T.set (.slice none 0 0) 2) S) := by kernel_rfl
/-! ### 38: windlass/windlassref10.isBlock -/
end Go.Proofs.Ytgkdmnfmfcdfmaa

