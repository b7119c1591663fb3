/-
  The code of this seat as the machine reads it: shapes, and what each row of operations comes to. Nothing is asked.
-/
import Derived.Test.YtlepbifmkleoeaaProg
import Derived.Test.YtlepbifmkleoeaaAg3
import Derived.KernelRfl
set_option linter.all false
namespace Go.Proofs.Ytlepbifmkleoeaa
open Go Go.Ag
set_option linter.unusedVariables false
set_option maxRecDepth 100000
noncomputable def ro (f id : Nat) : Array Oper := roP Try.prog f id
/-! ### 5: windlass/disk.New -/
theorem body5 : (Try.prog.funcs[5]?).bind (·.body) = some (.seq (.region 0 (ro 5 0) false) (.seq (.seq (.region 1 (ro 5 1) false) (.cond (.tmp 9) (.seq (.region 2 (ro 5 2) false) .ret) .skip)) (.seq (.region 3 (ro 5 3) true) .ret))) := by kernel_rfl
theorem res5 : (Try.prog.funcs[5]?).map (·.results.toList) = some [.tmp 2, .tmp 3] := by kernel_rfl
theorem is5 : fnIsB Try.prog 5 16 = true := by kernel_rfl
theorem reg5_0 {O : Known} {T : FT} {S : MS} {Q : FT → MS → Prop} : mOps Try.prog O 16 (ro 5 0).toList (ro 5 0).toList [] T S Q =
  (Q ((T.set (.pointer none) 2).set (.int .i64 0) 3) S) := by kernel_rfl
theorem reg5_1 {O : Known} {T : FT} {S : MS} {Q : FT → MS → Prop} : mOps Try.prog O 16 (ro 5 1).toList (ro 5 1).toList [] T S Q =
  (∃ p1, abin Try.prog .lss 3 (.tmp 4) (.const (.int .i64 1)) (T.get 0) (.int .i64 1) = some p1 ∧ ∃ b2, p1 = .bool b2 ∧
     (b2 = true → ∃ p5, pickS p1 (.bool true) undef = some p5 ∧ Q ((((((T.set (T.get 0) 4).set p1 5).set p1 6).set undef 7).set undef 8).set p5 9) S) ∧
     (b2 = false → ∃ p4, abin Try.prog .gtr 3 (.tmp 7) (.const (.int .i64 16384)) (T.get 0) (.int .i64 16384) = some p4 ∧ ∃ p5, pickS p1 (.bool true) p4 = some p5 ∧ Q ((((((T.set (T.get 0) 4).set p1 5).set p1 6).set (T.get 0) 7).set p4 8).set p5 9) S)) := by kernel_rfl
theorem reg5_2 {O : Known} {T : FT} {S : MS} {Q : FT → MS → Prop} : mOps Try.prog O 16 (ro 5 2).toList (ro 5 2).toList [] T S Q =
  (Q ((T.set (.pointer none) 2).set (.int .i64 10) 3) S) := by kernel_rfl
theorem reg5_3 {O : Known} {T : FT} {S : MS} {Q : FT → MS → Prop} : mDraw Try.prog O 16 (ro 5 3).toList T S Q =
  (∃ p1 S1, msS S 1 8 [.pointer none] (T.get 0) (T.get 0) = some (p1, S1) ∧ ∃ p3 S3, msS S1 1 8 [.pointer none] (T.get 0) (T.get 0) = some (p3, S3) ∧ ∃ p4, bdS (fun i => [(0, 1), (1, 1), (2, 1), (3, 1), (4, 1)][i]?) [.slice none 0 0, .slice none 0 0, .slice none 0 0, .int .i64 0, .bool false] [(0, p1), (1, p3), (3, (.int .i64 (-1)))] = some p4 ∧ Q ((((((((T.set (T.get 0) 10).set p1 11).set (T.get 0) 12).set p3 13).set p4 14).set (ptrTo S3.n) 15).set (ptrTo S3.n) 2).set (.int .i64 0) 3) (S3.fresh (Value.cells p4).toList 0)) := by kernel_rfl
/-! ### 6: windlass/windlasslaw1.block -/
theorem body6 : (Try.prog.funcs[6]?).bind (·.body) = some (.seq (.region 0 (ro 6 0) false) (.seq (.region 1 (ro 6 1) false) (.seq (.seq (.region 2 (ro 6 2) false) (.cond (.tmp 8) (.region 3 (ro 6 3) false) .skip)) (.seq (.region 4 (ro 6 4) false) (.seq (.seq (.region 5 (ro 6 5) false) (.block 0 (.loop (.seq (.seq (.region 6 (ro 6 6) false) (.cond (.tmp 15) .skip (.exit 0))) (.seq (.block 1 (.region 8 (ro 6 8) false)) (.region 7 (ro 6 7) false)))))) (.seq (.region 9 (ro 6 9) false) .ret)))))) := by kernel_rfl
theorem res6 : (Try.prog.funcs[6]?).map (·.results.toList) = some [.tmp 4] := by kernel_rfl
theorem is6 : fnIsB Try.prog 6 27 = true := by kernel_rfl
theorem reg6_0 {O : Known} {T : FT} {S : MS} {Q : FT → MS → Prop} : mOps Try.prog O 27 (ro 6 0).toList (ro 6 0).toList [] T S Q =
  (Q (T.set (.slice none 0 0) 4) S) := by kernel_rfl
theorem reg6_1 {O : Known} {T : FT} {S : MS} {Q : FT → MS → Prop} : mOps Try.prog O 27 (ro 6 1).toList (ro 6 1).toList [] T S Q =
  (Q (T.set (.int .i64 256) 5) S) := by kernel_rfl
theorem reg6_2 {O : Known} {T : FT} {S : MS} {Q : FT → MS → Prop} : mOps Try.prog O 27 (ro 6 2).toList (ro 6 2).toList [] T S Q =
  (Q (T.set (T.get 1) 8) S) := by kernel_rfl
theorem reg6_3 {O : Known} {T : FT} {S : MS} {Q : FT → MS → Prop} : mOps Try.prog O 27 (ro 6 3).toList (ro 6 3).toList [] T S Q =
  (∃ p1, abin Try.prog .sub 3 (.tmp 9) (.const (.int .i64 1)) (T.get 5) (.int .i64 1) = some p1 ∧ Q (((T.set (T.get 5) 9).set p1 10).set p1 5) S) := by kernel_rfl
theorem reg6_4 {O : Known} {T : FT} {S : MS} {Q : FT → MS → Prop} : mOps Try.prog O 27 (ro 6 4).toList (ro 6 4).toList [] T S Q =
  (∃ p1 S1, msS S 1 1 [.int .u8 0] (T.get 5) (T.get 5) = some (p1, S1) ∧ Q (((T.set (T.get 5) 11).set p1 12).set p1 6) S1) := by kernel_rfl
theorem reg6_5 {O : Known} {T : FT} {S : MS} {Q : FT → MS → Prop} : mOps Try.prog O 27 (ro 6 5).toList (ro 6 5).toList [] T S Q =
  (Q (T.set (.int .i64 0) 7) S) := by kernel_rfl
theorem reg6_6 {O : Known} {T : FT} {S : MS} {Q : FT → MS → Prop} : mOps Try.prog O 27 (ro 6 6).toList (ro 6 6).toList [] T S Q =
  (∃ p2, abin Try.prog .lss 3 (.tmp 13) (.tmp 14) (T.get 7) (T.get 5) = some p2 ∧ Q (((T.set (T.get 7) 13).set (T.get 5) 14).set p2 15) S) := by kernel_rfl
theorem reg6_8 {O : Known} {T : FT} {S : MS} {Q : FT → MS → Prop} : mOps Try.prog O 27 (ro 6 8).toList (ro 6 8).toList [] T S Q =
  (∃ p4, abin Try.prog .rem 3 (.tmp 21) (.const (.int .i64 7)) (T.get 7) (.int .i64 7) = some p4 ∧ ∃ p5, cvInt .u8 p4 = some p5 ∧ ∃ p6, abin Try.prog .add 5 (.tmp 20) (.tmp 23) (T.get 0) p5 = some p6 ∧ ∃ p7, iaSS 1 (T.get 6) (T.get 7) = some p7 ∧ ∃ S8, stS 1 S p7 p6 = some S8 ∧ Q ((((((((T.set (T.get 6) 18).set (T.get 7) 19).set (T.get 0) 20).set (T.get 7) 21).set p4 22).set p5 23).set p6 24).set p7 25) S8) := by kernel_rfl
theorem reg6_7 {O : Known} {T : FT} {S : MS} {Q : FT → MS → Prop} : mOps Try.prog O 27 (ro 6 7).toList (ro 6 7).toList [] T S Q =
  (∃ p1, abin Try.prog .add 3 (.tmp 16) (.const (.int .i64 1)) (T.get 7) (.int .i64 1) = some p1 ∧ Q (((T.set (T.get 7) 16).set p1 17).set p1 7) S) := by kernel_rfl
theorem reg6_9 {O : Known} {T : FT} {S : MS} {Q : FT → MS → Prop} : mOps Try.prog O 27 (ro 6 9).toList (ro 6 9).toList [] T S Q =
  (Q ((T.set (T.get 6) 26).set (T.get 6) 4) S) := by kernel_rfl
/-! ### 7: (*windlass/disk.Disk).Write -/
theorem body7 : (Try.prog.funcs[7]?).bind (·.body) = some (.seq (.region 0 (ro 7 0) false) (.seq (.block 0 (.seq (.region 1 (ro 7 1) false) (.cond (.tmp 8) (.seq (.region 2 (ro 7 2) false) .ret) (.seq (.region 3 (ro 7 3) false) (.cond (.tmp 13) (.seq (.region 4 (ro 7 4) false) .ret) (.seq (.region 5 (ro 7 5) false) (.cond (.tmp 25) (.seq (.region 6 (ro 7 6) false) .ret) .skip))))))) (.seq (.region 7 (ro 7 7) false) (.seq (.region 8 (ro 7 8) false) (.seq (.region 9 (ro 7 9) true) (.seq (.region 10 (ro 7 10) true) (.seq (.seq (.region 11 (ro 7 11) false) (.cond (.tmp 60) (.seq (.region 12 (ro 7 12) false) (.region 13 (ro 7 13) false)) .skip)) (.seq (.region 14 (ro 7 14) false) .ret)))))))) := by kernel_rfl
theorem res7 : (Try.prog.funcs[7]?).map (·.results.toList) = some [.tmp 6] := by kernel_rfl
theorem is7 : fnIsB Try.prog 7 76 = true := by kernel_rfl
theorem reg7_0 {O : Known} {T : FT} {S : MS} {Q : FT → MS → Prop} : mOps Try.prog O 76 (ro 7 0).toList (ro 7 0).toList [] T S Q =
  (Q (T.set (.int .i64 0) 6) S) := by kernel_rfl
theorem reg7_1 {O : Known} {T : FT} {S : MS} {Q : FT → MS → Prop} : mOps Try.prog O 76 (ro 7 1).toList (ro 7 1).toList [] T S Q =
  (∃ p1, nilS (T.get 0) = some p1 ∧ ∃ p2, faS 4 p1 = some p2 ∧ ∃ p3, ldS none S p2 = some p3 ∧ Q (((((T.set (T.get 0) 9).set p1 10).set p2 11).set p3 12).set p3 8) S) := by kernel_rfl
theorem reg7_2 {O : Known} {T : FT} {S : MS} {Q : FT → MS → Prop} : mOps Try.prog O 76 (ro 7 2).toList (ro 7 2).toList [] T S Q =
  (Q (T.set (.int .i64 12) 6) S) := by kernel_rfl
theorem reg7_3 {O : Known} {T : FT} {S : MS} {Q : FT → MS → Prop} : mOps Try.prog O 76 (ro 7 3).toList (ro 7 3).toList [] T S Q =
  (∃ p1, abin Try.prog .lss 3 (.tmp 14) (.const (.int .i64 0)) (T.get 1) (.int .i64 0) = some p1 ∧ ∃ b2, p1 = .bool b2 ∧
     (b2 = true → ∃ p10, pickS p1 (.bool true) undef = some p10 ∧ Q ((((((((((((T.set (T.get 1) 14).set p1 15).set p1 16).set undef 17).set undef 18).set undef 19).set undef 20).set undef 21).set undef 22).set undef 23).set p10 24).set p10 13) S) ∧
     (b2 = false → ∃ p5, nilS (T.get 0) = some p5 ∧ ∃ p6, faS 1 p5 = some p6 ∧ ∃ p7, ldS none S p6 = some p7 ∧ ∃ p8, lenSl p7 = some p8 ∧ ∃ p9, abin Try.prog .geq 3 (.tmp 17) (.tmp 22) (T.get 1) p8 = some p9 ∧ ∃ p10, pickS p1 (.bool true) p9 = some p10 ∧ Q ((((((((((((T.set (T.get 1) 14).set p1 15).set p1 16).set (T.get 1) 17).set (T.get 0) 18).set p5 19).set p6 20).set p7 21).set p8 22).set p9 23).set p10 24).set p10 13) S)) := by kernel_rfl
theorem reg7_4 {O : Known} {T : FT} {S : MS} {Q : FT → MS → Prop} : mOps Try.prog O 76 (ro 7 4).toList (ro 7 4).toList [] T S Q =
  (Q (T.set (.int .i64 11) 6) S) := by kernel_rfl
theorem reg7_5 {O : Known} {T : FT} {S : MS} {Q : FT → MS → Prop} : mOps Try.prog O 76 (ro 7 5).toList (ro 7 5).toList [] T S Q =
  (∃ p1, lenSl (T.get 2) = some p1 ∧ ∃ p2, abin Try.prog .neq 3 (.tmp 27) (.const (.int .i64 256)) p1 (.int .i64 256) = some p2 ∧ Q ((((T.set (T.get 2) 26).set p1 27).set p2 28).set p2 25) S) := by kernel_rfl
theorem reg7_6 {O : Known} {T : FT} {S : MS} {Q : FT → MS → Prop} : mOps Try.prog O 76 (ro 7 6).toList (ro 7 6).toList [] T S Q =
  (Q (T.set (.int .i64 10) 6) S) := by kernel_rfl
theorem reg7_7 {O : Known} {T : FT} {S : MS} {Q : FT → MS → Prop} : mOps Try.prog O 76 (ro 7 7).toList (ro 7 7).toList [] T S Q =
  (∃ p2, bdS (fun i => [(0, 1), (1, 1)][i]?) [.int .i64 0, .pointer none] [(0, (T.get 1)), (1, (ptrTo S.n))] = some p2 ∧ ∃ S4, stS 2 ((S.fresh (List.replicate 256 (.int .u8 0)) 0).fresh [.int .i64 0, .pointer none] 0) (ptrTo (S.fresh (List.replicate 256 (.int .u8 0)) 0).n) p2 = some S4 ∧ Q ((((T.set (T.get 1) 29).set (ptrTo S.n) 30).set p2 31).set (ptrTo (S.fresh (List.replicate 256 (.int .u8 0)) 0).n) 7) S4) := by kernel_rfl
theorem reg7_8 {O : Known} {T : FT} {S : MS} {Q : FT → MS → Prop} : mOps Try.prog O 76 (ro 7 8).toList (ro 7 8).toList [] T S Q =
  (∃ p0, faS 1 (T.get 7) = some p0 ∧ ∃ p1, ldS none S p0 = some p1 ∧ ∃ p2, nilS p1 = some p2 ∧ ∃ p3, slA 256 1 p2 none none none = some p3 ∧ ∃ p5 S5, cpS 1 S [p3, (T.get 2)] = some (p5, S5) ∧ Q ((((((T.set p0 32).set p1 33).set p2 34).set p3 35).set (T.get 2) 36).set p5 37) S5) := by kernel_rfl
theorem reg7_9 {O : Known} {T : FT} {S : MS} {Q : FT → MS → Prop} : mDraw Try.prog O 76 (ro 7 9).toList T S Q =
  (∃ p1, nilS (T.get 0) = some p1 ∧ ∃ p2, faS 1 p1 = some p2 ∧ ∃ p3, ldS none S p2 = some p3 ∧ ∃ p5, faS 1 (T.get 7) = some p5 ∧ ∃ p6, ldS none S p5 = some p6 ∧ ∃ p7, iaSS 1 p3 (T.get 1) = some p7 ∧ ∃ S8, stS 1 S p7 p6 = some S8 ∧ Q ((((((((T.set (T.get 0) 38).set p1 39).set p2 40).set p3 41).set (T.get 1) 42).set p5 43).set p6 44).set p7 45) S8) := by kernel_rfl
theorem reg7_10 {O : Known} {T : FT} {S : MS} {Q : FT → MS → Prop} : mDraw Try.prog O 76 (ro 7 10).toList T S Q =
  (∃ p2, nilS (T.get 0) = some p2 ∧ ∃ p3, faS 2 p2 = some p3 ∧ ∃ p4, ldS none S p3 = some p4 ∧ ∃ p5, ldS (some 2) S (T.get 7) = some p5 ∧ ∃ p6 S6, bsS S 1 2 [.int .i64 0, .pointer none] [(0, p5)] = some (p6, S6) ∧ ∃ p7 S7, apS false 2 16 [.int .i64 0, .pointer none] S6 [p4, p6] = some (p7, S7) ∧ ∃ p8, nilS (T.get 0) = some p8 ∧ ∃ p9, faS 2 p8 = some p9 ∧ ∃ S10, stS 1 S7 p9 p7 = some S10 ∧ Q ((((((((((T.set (T.get 0) 47).set p2 48).set p3 49).set p4 50).set p5 51).set p6 52).set p7 53).set (T.get 0) 46).set p8 54).set p9 55) S10) := by kernel_rfl
theorem reg7_11 {O : Known} {T : FT} {S : MS} {Q : FT → MS → Prop} : mOps Try.prog O 76 (ro 7 11).toList (ro 7 11).toList [] T S Q =
  (∃ p1, nilS (T.get 0) = some p1 ∧ ∃ p2, faS 3 p1 = some p2 ∧ ∃ p3, ldS none S p2 = some p3 ∧ ∃ p4, abin Try.prog .gtr 3 (.tmp 59) (.const (.int .i64 0)) p3 (.int .i64 0) = some p4 ∧ Q (((((T.set (T.get 0) 56).set p1 57).set p2 58).set p3 59).set p4 60) S) := by kernel_rfl
theorem reg7_12 {O : Known} {T : FT} {S : MS} {Q : FT → MS → Prop} : mOps Try.prog O 76 (ro 7 12).toList (ro 7 12).toList [] T S Q =
  (∃ p1, nilS (T.get 0) = some p1 ∧ ∃ p2, faS 3 p1 = some p2 ∧ ∃ p3, ldS none S p2 = some p3 ∧ ∃ p4, abin Try.prog .sub 3 (.tmp 64) (.const (.int .i64 1)) p3 (.int .i64 1) = some p4 ∧ ∃ p5, nilS (T.get 0) = some p5 ∧ ∃ p6, faS 3 p5 = some p6 ∧ ∃ S7, stS 1 S p6 p4 = some S7 ∧ Q (((((((T.set (T.get 0) 61).set p1 62).set p2 63).set p3 64).set p4 65).set p5 66).set p6 67) S7) := by kernel_rfl
theorem reg7_13 {O : Known} {T : FT} {S : MS} {Q : FT → MS → Prop} : mOps Try.prog O 76 (ro 7 13).toList (ro 7 13).toList [] T S Q =
  (∃ p2, nilS (T.get 0) = some p2 ∧ ∃ p3, faS 3 p2 = some p3 ∧ ∃ p4, ldS none S p3 = some p4 ∧ ∃ p5, abin Try.prog .eql 3 (.tmp 72) (.const (.int .i64 0)) p4 (.int .i64 0) = some p5 ∧ ∃ p6, nilS (T.get 0) = some p6 ∧ ∃ p7, faS 4 p6 = some p7 ∧ ∃ S8, stS 1 S p7 p5 = some S8 ∧ Q ((((((((T.set (T.get 0) 68).set (T.get 0) 69).set p2 70).set p3 71).set p4 72).set p5 73).set p6 74).set p7 75) S8) := by kernel_rfl
theorem reg7_14 {O : Known} {T : FT} {S : MS} {Q : FT → MS → Prop} : mOps Try.prog O 76 (ro 7 14).toList (ro 7 14).toList [] T S Q =
  (Q (T.set (.int .i64 0) 6) S) := by kernel_rfl
/-! ### 8: windlass/windlasshelp.Spoil -/
theorem body8 : (Try.prog.funcs[8]?).bind (·.body) = some (.seq (.region 0 (ro 8 0) false) (.block 0 (.loop (.seq (.seq (.region 1 (ro 8 1) false) (.cond (.tmp 6) .skip (.exit 0))) (.seq (.block 1 (.region 3 (ro 8 3) false)) (.region 2 (ro 8 2) false)))))) := by kernel_rfl
theorem res8 : (Try.prog.funcs[8]?).map (·.results.toList) = some [] := by kernel_rfl
theorem is8 : fnIsB Try.prog 8 12 = true := by kernel_rfl
theorem reg8_0 {O : Known} {T : FT} {S : MS} {Q : FT → MS → Prop} : mOps Try.prog O 12 (ro 8 0).toList (ro 8 0).toList [] T S Q =
  (Q (T.set (.int .i64 0) 2) S) := by kernel_rfl
theorem reg8_1 {O : Known} {T : FT} {S : MS} {Q : FT → MS → Prop} : mOps Try.prog O 12 (ro 8 1).toList (ro 8 1).toList [] T S Q =
  (∃ p2, lenSl (T.get 0) = some p2 ∧ ∃ p3, abin Try.prog .lss 3 (.tmp 3) (.tmp 5) (T.get 2) p2 = some p3 ∧ Q ((((T.set (T.get 2) 3).set (T.get 0) 4).set p2 5).set p3 6) S) := by kernel_rfl
theorem reg8_3 {O : Known} {T : FT} {S : MS} {Q : FT → MS → Prop} : mOps Try.prog O 12 (ro 8 3).toList (ro 8 3).toList [] T S Q =
  (∃ p2, iaSS 1 (T.get 0) (T.get 2) = some p2 ∧ ∃ S3, stS 1 S p2 (.int .u8 238) = some S3 ∧ Q (((T.set (T.get 0) 9).set (T.get 2) 10).set p2 11) S3) := by kernel_rfl
theorem reg8_2 {O : Known} {T : FT} {S : MS} {Q : FT → MS → Prop} : mOps Try.prog O 12 (ro 8 2).toList (ro 8 2).toList [] T S Q =
  (∃ p1, abin Try.prog .add 3 (.tmp 7) (.const (.int .i64 1)) (T.get 2) (.int .i64 1) = some p1 ∧ Q (((T.set (T.get 2) 7).set p1 8).set p1 2) S) := by kernel_rfl
/-! ### 9: (*windlass/disk.Disk).Halt -/
theorem body9 : (Try.prog.funcs[9]?).bind (·.body) = some (.seq (.region 0 (ro 9 0) false) (.region 1 (ro 9 1) false)) := by kernel_rfl
theorem res9 : (Try.prog.funcs[9]?).map (·.results.toList) = some [] := by kernel_rfl
theorem is9 : fnIsB Try.prog 9 19 = true := by kernel_rfl
theorem reg9_0 {O : Known} {T : FT} {S : MS} {Q : FT → MS → Prop} : mOps Try.prog O 19 (ro 9 0).toList (ro 9 0).toList [] T S Q =
  (∃ p2, nilS (T.get 0) = some p2 ∧ ∃ p3, faS 3 p2 = some p3 ∧ ∃ S4, stS 1 S p3 (T.get 1) = some S4 ∧ Q ((((T.set (T.get 0) 4).set (T.get 1) 5).set p2 6).set p3 7) S4) := by kernel_rfl
theorem reg9_1 {O : Known} {T : FT} {S : MS} {Q : FT → MS → Prop} : mOps Try.prog O 19 (ro 9 1).toList (ro 9 1).toList [] T S Q =
  (∃ p2, nilS (T.get 0) = some p2 ∧ ∃ p3, faS 4 p2 = some p3 ∧ ∃ p4, ldS none S p3 = some p4 ∧ ∃ b5, p4 = .bool b5 ∧
        (b5 = true → ∃ p8, pickS p4 (.bool true) undef = some p8 ∧ ∃ p9, nilS (T.get 0) = some p9 ∧ ∃ p10, faS 4 p9 = some p10 ∧ ∃ S11, stS 1 S p10 p8 = some S11 ∧ Q (((((((((((T.set (T.get 0) 8).set (T.get 0) 9).set p2 10).set p3 11).set p4 12).set p4 13).set undef 14).set undef 15).set p8 16).set p9 17).set p10 18) S11) ∧
        (b5 = false → ∃ p7, abin Try.prog .eql 3 (.tmp 14) (.const (.int .i64 0)) (T.get 1) (.int .i64 0) = some p7 ∧ ∃ p8, pickS p4 (.bool true) p7 = some p8 ∧ ∃ p9, nilS (T.get 0) = some p9 ∧ ∃ p10, faS 4 p9 = some p10 ∧ ∃ S11, stS 1 S p10 p8 = some S11 ∧ Q (((((((((((T.set (T.get 0) 8).set (T.get 0) 9).set p2 10).set p3 11).set p4 12).set p4 13).set (T.get 1) 14).set p7 15).set p8 16).set p9 17).set p10 18) S11)) := by kernel_rfl
/-! ### 10: (*windlass/disk.Disk).Restart -/
theorem body10 : (Try.prog.funcs[10]?).bind (·.body) = some (.region 0 (ro 10 0) false) := by kernel_rfl
theorem res10 : (Try.prog.funcs[10]?).map (·.results.toList) = some [] := by kernel_rfl
theorem is10 : fnIsB Try.prog 10 8 = true := by kernel_rfl
theorem reg10_0 {O : Known} {T : FT} {S : MS} {Q : FT → MS → Prop} : mOps Try.prog O 8 (ro 10 0).toList (ro 10 0).toList [] T S Q =
  (∃ p2, nilS (T.get 0) = some p2 ∧ ∃ p3, faS 3 p2 = some p3 ∧ ∃ S4, stS 1 S p3 (.int .i64 (-1)) = some S4 ∧ ∃ p5, nilS (T.get 0) = some p5 ∧ ∃ p6, faS 4 p5 = some p6 ∧ ∃ S7, stS 1 S4 p6 (.bool false) = some S7 ∧ Q ((((((T.set (T.get 0) 2).set (T.get 0) 3).set p2 4).set p3 5).set p5 6).set p6 7) S7) := by kernel_rfl
/-! ### 11: (*windlass/disk.Disk).Read -/
theorem body11 : (Try.prog.funcs[11]?).bind (·.body) = some (.seq (.region 0 (ro 11 0) false) (.seq (.block 0 (.seq (.region 1 (ro 11 1) false) (.cond (.tmp 8) (.seq (.region 2 (ro 11 2) false) .ret) (.seq (.region 3 (ro 11 3) false) (.cond (.tmp 13) (.seq (.region 4 (ro 11 4) false) .ret) .skip))))) (.seq (.region 5 (ro 11 5) false) (.seq (.seq (.region 6 (ro 11 6) false) (.seq (.region 7 (ro 11 7) false) (.cond (.tmp 34) (.region 8 (ro 11 8) false) .skip))) (.seq (.region 9 (ro 11 9) false) .ret))))) := by kernel_rfl
theorem res11 : (Try.prog.funcs[11]?).map (·.results.toList) = some [.tmp 4, .tmp 5] := by kernel_rfl
theorem is11 : fnIsB Try.prog 11 41 = true := by kernel_rfl
theorem reg11_0 {O : Known} {T : FT} {S : MS} {Q : FT → MS → Prop} : mOps Try.prog O 41 (ro 11 0).toList (ro 11 0).toList [] T S Q =
  (Q ((T.set (.slice none 0 0) 4).set (.int .i64 0) 5) S) := by kernel_rfl
theorem reg11_1 {O : Known} {T : FT} {S : MS} {Q : FT → MS → Prop} : mOps Try.prog O 41 (ro 11 1).toList (ro 11 1).toList [] T S Q =
  (∃ p1, nilS (T.get 0) = some p1 ∧ ∃ p2, faS 4 p1 = some p2 ∧ ∃ p3, ldS none S p2 = some p3 ∧ Q (((((T.set (T.get 0) 9).set p1 10).set p2 11).set p3 12).set p3 8) S) := by kernel_rfl
theorem reg11_2 {O : Known} {T : FT} {S : MS} {Q : FT → MS → Prop} : mOps Try.prog O 41 (ro 11 2).toList (ro 11 2).toList [] T S Q =
  (Q ((T.set (.slice none 0 0) 4).set (.int .i64 12) 5) S) := by kernel_rfl
theorem reg11_3 {O : Known} {T : FT} {S : MS} {Q : FT → MS → Prop} : mOps Try.prog O 41 (ro 11 3).toList (ro 11 3).toList [] T S Q =
  (∃ p1, abin Try.prog .lss 3 (.tmp 14) (.const (.int .i64 0)) (T.get 1) (.int .i64 0) = some p1 ∧ ∃ b2, p1 = .bool b2 ∧
     (b2 = true → ∃ p10, pickS p1 (.bool true) undef = some p10 ∧ Q ((((((((((((T.set (T.get 1) 14).set p1 15).set p1 16).set undef 17).set undef 18).set undef 19).set undef 20).set undef 21).set undef 22).set undef 23).set p10 24).set p10 13) S) ∧
     (b2 = false → ∃ p5, nilS (T.get 0) = some p5 ∧ ∃ p6, faS 1 p5 = some p6 ∧ ∃ p7, ldS none S p6 = some p7 ∧ ∃ p8, lenSl p7 = some p8 ∧ ∃ p9, abin Try.prog .geq 3 (.tmp 17) (.tmp 22) (T.get 1) p8 = some p9 ∧ ∃ p10, pickS p1 (.bool true) p9 = some p10 ∧ Q ((((((((((((T.set (T.get 1) 14).set p1 15).set p1 16).set (T.get 1) 17).set (T.get 0) 18).set p5 19).set p6 20).set p7 21).set p8 22).set p9 23).set p10 24).set p10 13) S)) := by kernel_rfl
theorem reg11_4 {O : Known} {T : FT} {S : MS} {Q : FT → MS → Prop} : mOps Try.prog O 41 (ro 11 4).toList (ro 11 4).toList [] T S Q =
  (Q ((T.set (.slice none 0 0) 4).set (.int .i64 11) 5) S) := by kernel_rfl
theorem reg11_5 {O : Known} {T : FT} {S : MS} {Q : FT → MS → Prop} : mOps Try.prog O 41 (ro 11 5).toList (ro 11 5).toList [] T S Q =
  (∃ p0 S0, msS S 1 1 [.int .u8 0] (.int .i64 256) (.int .i64 256) = some (p0, S0) ∧ Q ((T.set p0 25).set p0 6) S0) := by kernel_rfl
theorem reg11_6 {O : Known} {T : FT} {S : MS} {Q : FT → MS → Prop} : mOps Try.prog O 41 (ro 11 6).toList (ro 11 6).toList [] T S Q =
  (∃ p1, nilS (T.get 0) = some p1 ∧ ∃ p2, faS 1 p1 = some p2 ∧ ∃ p3, ldS none S p2 = some p3 ∧ ∃ p5, iaSS 1 p3 (T.get 1) = some p5 ∧ ∃ p6, ldS none S p5 = some p6 ∧ Q ((((((((T.set (T.get 0) 26).set p1 27).set p2 28).set p3 29).set (T.get 1) 30).set p5 31).set p6 32).set p6 7) S) := by kernel_rfl
theorem reg11_7 {O : Known} {T : FT} {S : MS} {Q : FT → MS → Prop} : mOps Try.prog O 41 (ro 11 7).toList (ro 11 7).toList [] T S Q =
  (∃ p1, abin Try.prog .neq 46 (.tmp 33) (.const (.pointer none)) (T.get 7) (.pointer none) = some p1 ∧ Q ((T.set (T.get 7) 33).set p1 34) S) := by kernel_rfl
theorem reg11_8 {O : Known} {T : FT} {S : MS} {Q : FT → MS → Prop} : mOps Try.prog O 41 (ro 11 8).toList (ro 11 8).toList [] T S Q =
  (∃ p2, nilS (T.get 7) = some p2 ∧ ∃ p3, slA 256 1 p2 none none none = some p3 ∧ ∃ p4 S4, cpS 1 S [(T.get 6), p3] = some (p4, S4) ∧ Q (((((T.set (T.get 6) 35).set (T.get 7) 36).set p2 37).set p3 38).set p4 39) S4) := by kernel_rfl
theorem reg11_9 {O : Known} {T : FT} {S : MS} {Q : FT → MS → Prop} : mOps Try.prog O 41 (ro 11 9).toList (ro 11 9).toList [] T S Q =
  (Q (((T.set (T.get 6) 40).set (T.get 6) 4).set (.int .i64 0) 5) S) := by kernel_rfl
/-! ### 12: windlass/windlasshelp.Bytes -/
theorem body12 : (Try.prog.funcs[12]?).bind (·.body) = some (.seq (.region 0 (ro 12 0) false) (.seq (.region 1 (ro 12 1) false) .ret)) := by kernel_rfl
theorem res12 : (Try.prog.funcs[12]?).map (·.results.toList) = some [.tmp 4] := by kernel_rfl
theorem is12 : fnIsB Try.prog 12 10 = true := by kernel_rfl
theorem reg12_0 {O : Known} {T : FT} {S : MS} {Q : FT → MS → Prop} : mOps Try.prog O 10 (ro 12 0).toList (ro 12 0).toList [] T S Q =
  (Q (T.set (.bool false) 4) S) := by kernel_rfl
theorem reg12_1 {O : Known} {T : FT} {S : MS} {Q : FT → MS → Prop} : mOps Try.prog O 10 (ro 12 1).toList (ro 12 1).toList [] T S Q =
  (∃ p1, strS S (T.get 0) = some p1 ∧ ∃ p3, strS S (T.get 1) = some p3 ∧ ∃ p4, abin Try.prog .eql 9 (.tmp 6) (.tmp 8) p1 p3 = some p4 ∧ Q ((((((T.set (T.get 0) 5).set p1 6).set (T.get 1) 7).set p3 8).set p4 9).set p4 4) S) := by kernel_rfl
/-! ### 13: (*windlass/disk.Disk).Writes -/
theorem body13 : (Try.prog.funcs[13]?).bind (·.body) = some (.seq (.region 0 (ro 13 0) false) (.seq (.region 1 (ro 13 1) false) .ret)) := by kernel_rfl
theorem res13 : (Try.prog.funcs[13]?).map (·.results.toList) = some [.tmp 2] := by kernel_rfl
theorem is13 : fnIsB Try.prog 13 8 = true := by kernel_rfl
theorem reg13_0 {O : Known} {T : FT} {S : MS} {Q : FT → MS → Prop} : mOps Try.prog O 8 (ro 13 0).toList (ro 13 0).toList [] T S Q =
  (Q (T.set (.int .i64 0) 2) S) := by kernel_rfl
theorem reg13_1 {O : Known} {T : FT} {S : MS} {Q : FT → MS → Prop} : mOps Try.prog O 8 (ro 13 1).toList (ro 13 1).toList [] T S Q =
  (∃ p1, nilS (T.get 0) = some p1 ∧ ∃ p2, faS 2 p1 = some p2 ∧ ∃ p3, ldS none S p2 = some p3 ∧ ∃ p4, lenSl p3 = some p4 ∧ Q ((((((T.set (T.get 0) 3).set p1 4).set p2 5).set p3 6).set p4 7).set p4 2) S) := by kernel_rfl
/-! ### 14: (*windlass/disk.Disk).Blocks -/
theorem body14 : (Try.prog.funcs[14]?).bind (·.body) = some (.seq (.region 0 (ro 14 0) false) (.seq (.region 1 (ro 14 1) false) .ret)) := by kernel_rfl
theorem res14 : (Try.prog.funcs[14]?).map (·.results.toList) = some [.tmp 2] := by kernel_rfl
theorem is14 : fnIsB Try.prog 14 8 = true := by kernel_rfl
theorem reg14_0 {O : Known} {T : FT} {S : MS} {Q : FT → MS → Prop} : mOps Try.prog O 8 (ro 14 0).toList (ro 14 0).toList [] T S Q =
  (Q (T.set (.int .i64 0) 2) S) := by kernel_rfl
theorem reg14_1 {O : Known} {T : FT} {S : MS} {Q : FT → MS → Prop} : mOps Try.prog O 8 (ro 14 1).toList (ro 14 1).toList [] T S Q =
  (∃ p1, nilS (T.get 0) = some p1 ∧ ∃ p2, faS 1 p1 = some p2 ∧ ∃ p3, ldS none S p2 = some p3 ∧ ∃ p4, lenSl p3 = some p4 ∧ Q ((((((T.set (T.get 0) 3).set p1 4).set p2 5).set p3 6).set p4 7).set p4 2) S) := by kernel_rfl
/-! ### 15: (*windlass/disk.Disk).At -/
theorem body15 : (Try.prog.funcs[15]?).bind (·.body) = some (.seq (.region 0 (ro 15 0) false) (.scope (.seq (.seq (.region 1 (ro 15 1) true) (.cond (.tmp 20) (.seq (.region 2 (ro 15 2) false) .ret) .skip)) (.seq (.region 3 (ro 15 3) false) (.seq (.region 4 (ro 15 4) true) (.seq (.label 0) (.seq (.seq (.region 5 (ro 15 5) false) (.block 0 (.rangeFunc (.tmp 34) #[35, 36] (.seq (.region 6 (ro 15 6) false) (.region 7 (ro 15 7) false)) (.block 1 (.seq (.seq (.region 8 (ro 15 8) false) (.cond (.tmp 39) (.exit 0) .skip)) (.region 9 (ro 15 9) false)))))) (.seq (.region 10 (ro 15 10) false) (.seq (.region 11 (ro 15 11) false) (.seq (.region 12 (ro 15 12) false) .ret)))))))))) := by kernel_rfl
theorem res15 : (Try.prog.funcs[15]?).map (·.results.toList) = some [.tmp 4, .tmp 5] := by kernel_rfl
theorem is15 : fnIsB Try.prog 15 56 = true := by kernel_rfl
theorem reg15_0 {O : Known} {T : FT} {S : MS} {Q : FT → MS → Prop} : mOps Try.prog O 56 (ro 15 0).toList (ro 15 0).toList [] T S Q =
  (Q (((T.set (ptrTo S.n) 3).set (.pointer none) 4).set (.int .i64 0) 5) (S.fresh (Value.cells (T.get 1)).toList 0)) := by kernel_rfl
theorem reg15_1 {O : Known} {T : FT} {S : MS} {Q : FT → MS → Prop} : mDraw Try.prog O 56 (ro 15 1).toList T S Q =
  (∃ p0, ldS none S (T.get 3) = some p0 ∧ ∃ p1, abin Try.prog .lss 3 (.tmp 10) (.const (.int .i64 0)) p0 (.int .i64 0) = some p1 ∧ ∃ b2, p1 = .bool b2 ∧
     (b2 = true → ∃ p10, pickS p1 (.bool true) undef = some p10 ∧ Q (((((((((((T.set p0 10).set p1 11).set p1 12).set undef 13).set undef 14).set undef 15).set undef 16).set undef 17).set undef 18).set undef 19).set p10 20) S) ∧
     (b2 = false → ∃ p3, ldS none S (T.get 3) = some p3 ∧ ∃ p5, nilS (T.get 0) = some p5 ∧ ∃ p6, faS 2 p5 = some p6 ∧ ∃ p7, ldS none S p6 = some p7 ∧ ∃ p8, lenSl p7 = some p8 ∧ ∃ p9, abin Try.prog .gtr 3 (.tmp 13) (.tmp 18) p3 p8 = some p9 ∧ ∃ p10, pickS p1 (.bool true) p9 = some p10 ∧ Q (((((((((((T.set p0 10).set p1 11).set p1 12).set p3 13).set (T.get 0) 14).set p5 15).set p6 16).set p7 17).set p8 18).set p9 19).set p10 20) S)) := by kernel_rfl
theorem reg15_2 {O : Known} {T : FT} {S : MS} {Q : FT → MS → Prop} : mOps Try.prog O 56 (ro 15 2).toList (ro 15 2).toList [] T S Q =
  (Q ((T.set (.pointer none) 4).set (.int .i64 11) 5) S) := by kernel_rfl
theorem reg15_3 {O : Known} {T : FT} {S : MS} {Q : FT → MS → Prop} : mOps Try.prog O 56 (ro 15 3).toList (ro 15 3).toList [] T S Q =
  (∃ p1, nilS (T.get 0) = some p1 ∧ ∃ p2, faS 0 p1 = some p2 ∧ ∃ p3, ldS none S p2 = some p3 ∧ ∃ p4, lenSl p3 = some p4 ∧ ∃ p5 S5, msS S 1 8 [.pointer none] p4 p4 = some (p5, S5) ∧ ∃ S7, stS 1 (S5.fresh [.slice none 0 0] 0) (ptrTo S5.n) p5 = some S7 ∧ Q (((((((T.set (T.get 0) 21).set p1 22).set p2 23).set p3 24).set p4 25).set p5 26).set (ptrTo S5.n) 6) S7) := by kernel_rfl
theorem reg15_4 {O : Known} {T : FT} {S : MS} {Q : FT → MS → Prop} : mDraw Try.prog O 56 (ro 15 4).toList T S Q =
  (∃ p0, ldS none S (T.get 6) = some p0 ∧ ∃ p2, nilS (T.get 0) = some p2 ∧ ∃ p3, faS 0 p2 = some p3 ∧ ∃ p4, ldS none S p3 = some p4 ∧ ∃ p5 S5, cpS 1 S [p0, p4] = some (p5, S5) ∧ Q ((((((T.set p0 27).set (T.get 0) 28).set p2 29).set p3 30).set p4 31).set p5 32) S5) := by kernel_rfl
theorem reg15_5 {O : Known} {T : FT} {S : MS} {Q : FT → MS → Prop} : mOps Try.prog O 56 (ro 15 5).toList (ro 15 5).toList [] T S Q =
  (CallM Try.prog O 16 [(T.get 0)] S fun p1 S1 => Q ((T.set (T.get 0) 33).set p1 34) S1) := by kernel_rfl
theorem reg15_6 {O : Known} {T : FT} {S : MS} {Q : FT → MS → Prop} : mOps Try.prog O 56 (ro 15 6).toList (ro 15 6).toList [] T S Q =
  (Q (T.set (T.get 35) 7) S) := by kernel_rfl
theorem reg15_7 {O : Known} {T : FT} {S : MS} {Q : FT → MS → Prop} : mOps Try.prog O 56 (ro 15 7).toList (ro 15 7).toList [] T S Q =
  (∃ S1, stS 2 (S.fresh [.int .i64 0, .pointer none] 0) (ptrTo S.n) (T.get 36) = some S1 ∧ Q (T.set (ptrTo S.n) 8) S1) := by kernel_rfl
theorem reg15_8 {O : Known} {T : FT} {S : MS} {Q : FT → MS → Prop} : mOps Try.prog O 56 (ro 15 8).toList (ro 15 8).toList [] T S Q =
  (∃ p1, ldS none S (T.get 3) = some p1 ∧ ∃ p2, abin Try.prog .eql 3 (.tmp 37) (.tmp 38) (T.get 7) p1 = some p2 ∧ Q (((T.set (T.get 7) 37).set p1 38).set p2 39) S) := by kernel_rfl
theorem reg15_9 {O : Known} {T : FT} {S : MS} {Q : FT → MS → Prop} : mOps Try.prog O 56 (ro 15 9).toList (ro 15 9).toList [] T S Q =
  (∃ p0, ldS none S (T.get 6) = some p0 ∧ ∃ p1, faS 0 (T.get 8) = some p1 ∧ ∃ p2, ldS none S p1 = some p2 ∧ ∃ p3, faS 1 (T.get 8) = some p3 ∧ ∃ p4, ldS none S p3 = some p4 ∧ ∃ p5, iaSS 1 p0 p2 = some p5 ∧ ∃ S6, stS 1 S p5 p4 = some S6 ∧ Q ((((((T.set p0 40).set p1 41).set p2 42).set p3 43).set p4 44).set p5 45) S6) := by kernel_rfl
theorem reg15_10 {O : Known} {T : FT} {S : MS} {Q : FT → MS → Prop} : mOps Try.prog O 56 (ro 15 10).toList (ro 15 10).toList [] T S Q =
  (∃ p0, ldS none S (T.get 6) = some p0 ∧ ∃ p1, lenSl p0 = some p1 ∧ ∃ p2 S2, msS S 1 8 [.pointer none] p1 p1 = some (p2, S2) ∧ Q ((((T.set p0 46).set p1 47).set p2 48).set p2 9) S2) := by kernel_rfl
theorem reg15_11 {O : Known} {T : FT} {S : MS} {Q : FT → MS → Prop} : mOps Try.prog O 56 (ro 15 11).toList (ro 15 11).toList [] T S Q =
  (∃ p1, ldS none S (T.get 6) = some p1 ∧ ∃ p2 S2, cpS 1 S [(T.get 9), p1] = some (p2, S2) ∧ Q (((T.set (T.get 9) 49).set p1 50).set p2 51) S2) := by kernel_rfl
theorem reg15_12 {O : Known} {T : FT} {S : MS} {Q : FT → MS → Prop} : mOps Try.prog O 56 (ro 15 12).toList (ro 15 12).toList [] T S Q =
  (∃ p0, ldS none S (T.get 6) = some p0 ∧ ∃ p2, bdS (fun i => [(0, 1), (1, 1), (2, 1), (3, 1), (4, 1)][i]?) [.slice none 0 0, .slice none 0 0, .slice none 0 0, .int .i64 0, .bool false] [(0, p0), (1, (T.get 9)), (3, (.int .i64 (-1)))] = some p2 ∧ Q ((((((T.set p0 52).set (T.get 9) 53).set p2 54).set (ptrTo S.n) 55).set (ptrTo S.n) 4).set (.int .i64 0) 5) (S.fresh (Value.cells p2).toList 0)) := by kernel_rfl
/-! ### 16: (*windlass/disk.Disk).told -/
theorem body16 : (Try.prog.funcs[16]?).bind (·.body) = some (.seq (.region 0 (ro 16 0) false) (.seq (.region 1 (ro 16 1) false) .ret)) := by kernel_rfl
theorem res16 : (Try.prog.funcs[16]?).map (·.results.toList) = some [.tmp 2] := by kernel_rfl
theorem is16 : fnIsB Try.prog 16 4 = true := by kernel_rfl
theorem reg16_0 {O : Known} {T : FT} {S : MS} {Q : FT → MS → Prop} : mOps Try.prog O 4 (ro 16 0).toList (ro 16 0).toList [] T S Q =
  (Q ((T.set (ptrTo S.n) 1).set (.nilFunc) 2) (S.fresh (Value.cells (T.get 0)).toList 0)) := by kernel_rfl
theorem reg16_1 {O : Known} {T : FT} {S : MS} {Q : FT → MS → Prop} : mOps Try.prog O 4 (ro 16 1).toList (ro 16 1).toList [] T S Q =
  (Q ((T.set (.func (.func 17) (Array.mk []) (Array.mk [(T.get 1)])) 3).set (.func (.func 17) (Array.mk []) (Array.mk [(T.get 1)])) 2) S) := by kernel_rfl
/-! ### 17: (*windlass/disk.Disk).told$1 -/
theorem body17 : (Try.prog.funcs[17]?).bind (·.body) = some (.seq (.region 0 (ro 17 0) false) (.block 0 (.loop (.seq (.region 1 (ro 17 1) false) (.seq (.cond (.tmp 11) .skip (.exit 0)) (.seq (.block 1 (.seq (.region 2 (ro 17 2) false) (.seq (.region 3 (ro 17 3) false) (.cond (.tmp 19) .ret .skip)))) (.region 4 (ro 17 4) false))))))) := by kernel_rfl
theorem res17 : (Try.prog.funcs[17]?).map (·.results.toList) = some [] := by kernel_rfl
theorem is17 : fnIsB Try.prog 17 21 = true := by kernel_rfl
theorem reg17_0 {O : Known} {T : FT} {S : MS} {Q : FT → MS → Prop} : mOps Try.prog O 21 (ro 17 0).toList (ro 17 0).toList [] T S Q =
  (∃ p0, ldS none S (T.get 1) = some p0 ∧ ∃ p1, nilS p0 = some p1 ∧ ∃ p2, faS 2 p1 = some p2 ∧ ∃ p3, ldS none S p2 = some p3 ∧ ∃ p4, lenSl p3 = some p4 ∧ Q ((((((T.set p0 5).set p1 6).set p2 7).set p3 8).set p4 9).set (.int .i64 0) 10) S) := by kernel_rfl
theorem reg17_1 {O : Known} {T : FT} {S : MS} {Q : FT → MS → Prop} : mOps Try.prog O 21 (ro 17 1).toList (ro 17 1).toList [] T S Q =
  (∃ p0, abin Try.prog .lss 3 (.tmp 10) (.tmp 9) (T.get 10) (T.get 9) = some p0 ∧ Q (T.set p0 11) S) := by kernel_rfl
theorem reg17_2 {O : Known} {T : FT} {S : MS} {Q : FT → MS → Prop} : mOps Try.prog O 21 (ro 17 2).toList (ro 17 2).toList [] T S Q =
  (∃ p1, iaSS 2 (T.get 8) (T.get 10) = some p1 ∧ ∃ p2, ldS (some 2) S p1 = some p2 ∧ ∃ S5, stS 2 (S.fresh [.int .i64 0, .pointer none] 0) (ptrTo S.n) p2 = some S5 ∧ Q (((((T.set (T.get 10) 12).set p1 13).set p2 14).set (ptrTo S.n) 4).set (T.get 10) 3) S5) := by kernel_rfl
theorem reg17_3 {O : Known} {T : FT} {S : MS} {Q : FT → MS → Prop} : mOps Try.prog O 21 (ro 17 3).toList (ro 17 3).toList [] T S Q =
  (∃ p2, ldS (some 2) S (T.get 4) = some p2 ∧ CallV Try.prog O (T.get 0) [(T.get 3), p2] S fun p3 S3 => ∃ p4, aunary .not p3 = some p4 ∧ Q (((((T.set (T.get 0) 15).set (T.get 3) 16).set p2 17).set p3 18).set p4 19) S3) := by kernel_rfl
theorem reg17_4 {O : Known} {T : FT} {S : MS} {Q : FT → MS → Prop} : mOps Try.prog O 21 (ro 17 4).toList (ro 17 4).toList [] T S Q =
  (∃ p0, abin Try.prog .add 3 (.tmp 10) (.const (.int .i64 1)) (T.get 10) (.int .i64 1) = some p0 ∧ Q ((T.set p0 20).set p0 10) S) := by kernel_rfl
/-! ### 3: windlass/windlasslaw1.DiskPlays -/
noncomputable def blk3_1 : Code := .block 1 (.region 15 (ro 3 15) false)
noncomputable def blk3_0 : Code := .block 0 (.loop (.seq (.seq (.region 13 (ro 3 13) false) (.cond (.tmp 68) .skip (.exit 0))) (.seq blk3_1 (.region 14 (ro 3 14) false))))
noncomputable def blk3_6 : Code := .block 6 (.seq (.region 40 (ro 3 40) false) (.cond (.tmp 141) (.region 41 (ro 3 41) false) (.seq (.region 42 (ro 3 42) false) (.cond (.tmp 143) (.region 43 (ro 3 43) false) (.seq (.region 44 (ro 3 44) false) (.cond (.tmp 146) (.region 45 (ro 3 45) false) .skip))))))
noncomputable def blk3_5 : Code := .block 5 (.seq (.region 27 (ro 3 27) false) (.cond (.tmp 120) (.seq (.region 28 (ro 3 28) false) (.cond (.tmp 123) (.seq (.region 29 (ro 3 29) false) .ret) .skip)) (.seq (.region 30 (ro 3 30) false) (.cond (.tmp 124) (.seq (.region 31 (ro 3 31) false) (.cond (.tmp 128) (.seq (.region 32 (ro 3 32) false) .ret) .skip)) (.seq (.region 25 (ro 3 25) false) (.cond (.tmp 119) (.seq (.region 26 (ro 3 26) false) .ret) .skip))))))
noncomputable def blk3_4 : Code := .block 4 (.seq (.seq (.region 34 (ro 3 34) false) (.cond (.tmp 131) .skip (.seq (.region 35 (ro 3 35) false) (.cond (.tmp 131) .skip (.seq (.region 36 (ro 3 36) false) (.cond (.tmp 131) .skip (.region 37 (ro 3 37) false))))))) (.cond (.tmp 131) (.seq (.region 38 (ro 3 38) false) (.seq (.region 39 (ro 3 39) false) (.seq blk3_6 (.seq (.seq (.region 46 (ro 3 46) false) (.cond (.tmp 155) (.seq (.region 47 (ro 3 47) false) .ret) .skip)) (.seq (.region 48 (ro 3 48) false) (.seq (.region 49 (ro 3 49) false) (.cond (.tmp 159) (.seq (.region 50 (ro 3 50) true) (.seq (.region 51 (ro 3 51) false) (.seq (.seq (.region 52 (ro 3 52) false) (.cond (.tmp 173) (.region 53 (ro 3 53) false) .skip)) (.region 54 (ro 3 54) false)))) .skip))))))) (.seq (.region 55 (ro 3 55) false) (.cond (.tmp 178) (.seq (.region 56 (ro 3 56) false) (.seq (.region 57 (ro 3 57) false) (.region 58 (ro 3 58) false))) (.seq (.region 59 (ro 3 59) false) (.cond (.tmp 192) (.seq (.region 60 (ro 3 60) false) (.region 61 (ro 3 61) false)) (.seq (.region 24 (ro 3 24) false) (.seq blk3_5 (.region 33 (ro 3 33) false)))))))))
noncomputable def blk3_3 : Code := .block 3 (.seq (.region 21 (ro 3 21) false) (.seq (.region 22 (ro 3 22) false) (.seq (.seq (.region 23 (ro 3 23) false) blk3_4) (.seq (.region 62 (ro 3 62) false) (.cond (.tmp 207) (.seq (.region 63 (ro 3 63) false) .ret) .skip)))))
noncomputable def blk3_2 : Code := .block 2 (.loop (.seq (.seq (.region 19 (ro 3 19) false) (.cond (.tmp 83) .skip (.exit 2))) (.seq blk3_3 (.region 20 (ro 3 20) false))))
noncomputable def blk3_10 : Code := .block 10 (.seq (.region 76 (ro 3 76) false) (.seq (.region 77 (ro 3 77) false) (.cond (.tmp 275) (.seq (.region 78 (ro 3 78) false) .ret) .skip)))
noncomputable def blk3_9 : Code := .block 9 (.loop (.seq (.seq (.region 74 (ro 3 74) false) (.cond (.tmp 253) .skip (.exit 9))) (.seq blk3_10 (.region 75 (ro 3 75) false))))
noncomputable def blk3_8 : Code := .block 8 (.seq (.region 67 (ro 3 67) false) (.seq (.seq (.region 68 (ro 3 68) false) (.cond (.tmp 227) (.seq (.seq (.region 69 (ro 3 69) false) (.cond (.tmp 233) (.seq (.region 70 (ro 3 70) false) .ret) .skip)) (.exit 8)) .skip)) (.seq (.seq (.region 71 (ro 3 71) false) (.cond (.tmp 250) (.seq (.region 72 (ro 3 72) false) .ret) .skip)) (.seq (.seq (.region 73 (ro 3 73) false) blk3_9) (.seq (.region 79 (ro 3 79) false) (.cond (.tmp 283) (.seq (.region 80 (ro 3 80) false) .ret) .skip))))))
noncomputable def blk3_7 : Code := .block 7 (.loop (.seq (.seq (.region 65 (ro 3 65) false) (.cond (.tmp 211) .skip (.exit 7))) (.seq blk3_8 (.region 66 (ro 3 66) false))))
noncomputable def blk3_12 : Code := .block 12 (.seq (.region 85 (ro 3 85) false) (.seq (.region 86 (ro 3 86) false) (.cond (.tmp 307) (.seq (.region 87 (ro 3 87) false) .ret) .skip)))
noncomputable def blk3_11 : Code := .block 11 (.loop (.seq (.seq (.region 83 (ro 3 83) false) (.cond (.tmp 288) .skip (.exit 11))) (.seq blk3_12 (.region 84 (ro 3 84) false))))
theorem body3 : (Try.prog.funcs[3]?).bind (·.body) = some (.seq (.region 0 (ro 3 0) false) (.seq (.seq (.region 1 (ro 3 1) false) (.cond (.tmp 29) (.seq (.region 2 (ro 3 2) false) .ret) .skip)) (.seq (.seq (.region 3 (ro 3 3) false) (.cond (.tmp 40) (.seq (.region 4 (ro 3 4) false) .ret) .skip)) (.seq (.region 5 (ro 3 5) false) (.seq (.seq (.region 6 (ro 3 6) false) (.cond (.tmp 51) (.seq (.region 7 (ro 3 7) false) .ret) .skip)) (.seq (.seq (.region 8 (ro 3 8) false) (.cond (.tmp 63) (.seq (.region 9 (ro 3 9) false) .ret) .skip)) (.seq (.region 10 (ro 3 10) false) (.seq (.region 11 (ro 3 11) false) (.seq (.seq (.region 12 (ro 3 12) false) blk3_0) (.seq (.region 16 (ro 3 16) false) (.seq (.region 17 (ro 3 17) false) (.seq (.seq (.region 18 (ro 3 18) false) blk3_2) (.seq (.seq (.region 64 (ro 3 64) false) blk3_7) (.seq (.region 81 (ro 3 81) false) (.seq (.seq (.region 82 (ro 3 82) false) blk3_11) (.seq (.region 88 (ro 3 88) false) .ret)))))))))))))))) := by kernel_rfl
theorem res3 : (Try.prog.funcs[3]?).map (·.results.toList) = some [.tmp 4] := by kernel_rfl
theorem is3 : fnIsB Try.prog 3 308 = true := by kernel_rfl
theorem reg3_0 {O : Known} {T : FT} {S : MS} {Q : FT → MS → Prop} : mOps Try.prog O 308 (ro 3 0).toList (ro 3 0).toList [] T S Q =
  (Q (T.set (.bool false) 4) S) := by kernel_rfl
theorem reg3_1 {O : Known} {T : FT} {S : MS} {Q : FT → MS → Prop} : mOps Try.prog O 308 (ro 3 1).toList (ro 3 1).toList [] T S Q =
  (CallM Try.prog O 4 [] S fun p0 S0 => ∃ p1, aunary .not p0 = some p1 ∧ Q ((T.set p0 28).set p1 29) S0) := by kernel_rfl
theorem reg3_2 {O : Known} {T : FT} {S : MS} {Q : FT → MS → Prop} : mOps Try.prog O 308 (ro 3 2).toList (ro 3 2).toList [] T S Q =
  (Q (T.set (.bool false) 4) S) := by kernel_rfl
theorem reg3_3 {O : Known} {T : FT} {S : MS} {Q : FT → MS → Prop} : mOps Try.prog O 308 (ro 3 3).toList (ro 3 3).toList [] T S Q =
  (∃ p1, lenSl (T.get 1) = some p1 ∧ ∃ p2, abin Try.prog .gtr 3 (.tmp 31) (.const (.int .i64 50)) p1 (.int .i64 50) = some p2 ∧ ∃ b3, p2 = .bool b3 ∧
      (b3 = true → ∃ b6, undef = .bool b6 ∧
         (b6 = true → ∃ p8, abin Try.prog .leq 3 (.tmp 37) (.const (.int .i64 16384)) (T.get 0) (.int .i64 16384) = some p8 ∧ ∃ p10, pickS p2 (.bool true) undef = some p10 ∧ Q (((((((((((T.set (T.get 1) 30).set p1 31).set p2 32).set p2 33).set undef 34).set undef 35).set undef 36).set (T.get 0) 37).set p8 38).set undef 39).set p10 40) S) ∧
         (b6 = false → ∃ p10, pickS p2 (.bool true) undef = some p10 ∧ Q (((((((((((T.set (T.get 1) 30).set p1 31).set p2 32).set p2 33).set undef 34).set undef 35).set undef 36).set undef 37).set undef 38).set undef 39).set p10 40) S)) ∧
      (b3 = false → ∃ p5, abin Try.prog .gtr 3 (.tmp 34) (.const (.int .i64 20)) (T.get 0) (.int .i64 20) = some p5 ∧ ∃ b6, p5 = .bool b6 ∧
         (b6 = true → ∃ p8, abin Try.prog .leq 3 (.tmp 37) (.const (.int .i64 16384)) (T.get 0) (.int .i64 16384) = some p8 ∧ ∃ p9, pickS p5 p8 (.bool false) = some p9 ∧ ∃ p10, pickS p2 (.bool true) p9 = some p10 ∧ Q (((((((((((T.set (T.get 1) 30).set p1 31).set p2 32).set p2 33).set (T.get 0) 34).set p5 35).set p5 36).set (T.get 0) 37).set p8 38).set p9 39).set p10 40) S) ∧
         (b6 = false → ∃ p9, pickS p5 undef (.bool false) = some p9 ∧ ∃ p10, pickS p2 (.bool true) p9 = some p10 ∧ Q (((((((((((T.set (T.get 1) 30).set p1 31).set p2 32).set p2 33).set (T.get 0) 34).set p5 35).set p5 36).set undef 37).set undef 38).set p9 39).set p10 40) S))) := by kernel_rfl
theorem reg3_4 {O : Known} {T : FT} {S : MS} {Q : FT → MS → Prop} : mOps Try.prog O 308 (ro 3 4).toList (ro 3 4).toList [] T S Q =
  (Q (T.set (.bool true) 4) S) := by kernel_rfl
theorem reg3_5 {O : Known} {T : FT} {S : MS} {Q : FT → MS → Prop} : mOps Try.prog O 308 (ro 3 5).toList (ro 3 5).toList [] T S Q =
  (CallM Try.prog O 5 [(T.get 0)] S fun p1 S1 => ∃ p3, aextract p1 0 = some p3 ∧ ∃ p4, aextract p1 1 = some p4 ∧ Q (((((((T.set (T.get 0) 42).set p1 43).set p1 41).set p3 44).set p4 45).set p3 5).set p4 6) S1) := by kernel_rfl
theorem reg3_6 {O : Known} {T : FT} {S : MS} {Q : FT → MS → Prop} : mOps Try.prog O 308 (ro 3 6).toList (ro 3 6).toList [] T S Q =
  (∃ p1, abin Try.prog .lss 3 (.tmp 46) (.const (.int .i64 1)) (T.get 0) (.int .i64 1) = some p1 ∧ ∃ b2, p1 = .bool b2 ∧
     (b2 = true → ∃ p5, pickS p1 (.bool true) undef = some p5 ∧ Q ((((((T.set (T.get 0) 46).set p1 47).set p1 48).set undef 49).set undef 50).set p5 51) S) ∧
     (b2 = false → ∃ p4, abin Try.prog .gtr 3 (.tmp 49) (.const (.int .i64 16384)) (T.get 0) (.int .i64 16384) = some p4 ∧ ∃ p5, pickS p1 (.bool true) p4 = some p5 ∧ Q ((((((T.set (T.get 0) 46).set p1 47).set p1 48).set (T.get 0) 49).set p4 50).set p5 51) S)) := by kernel_rfl
theorem reg3_7 {O : Known} {T : FT} {S : MS} {Q : FT → MS → Prop} : mOps Try.prog O 308 (ro 3 7).toList (ro 3 7).toList [] T S Q =
  (∃ p1, abin Try.prog .eql 25 (.tmp 52) (.const (.int .i64 10)) (T.get 6) (.int .i64 10) = some p1 ∧ ∃ b2, p1 = .bool b2 ∧
     (b2 = true → ∃ p4, abin Try.prog .eql 24 (.tmp 55) (.const (.pointer none)) (T.get 5) (.pointer none) = some p4 ∧ ∃ p5, pickS p1 p4 (.bool false) = some p5 ∧ Q (((((((T.set (T.get 6) 52).set p1 53).set p1 54).set (T.get 5) 55).set p4 56).set p5 57).set p5 4) S) ∧
     (b2 = false → ∃ p5, pickS p1 undef (.bool false) = some p5 ∧ Q (((((((T.set (T.get 6) 52).set p1 53).set p1 54).set undef 55).set undef 56).set p5 57).set p5 4) S)) := by kernel_rfl
theorem reg3_8 {O : Known} {T : FT} {S : MS} {Q : FT → MS → Prop} : mOps Try.prog O 308 (ro 3 8).toList (ro 3 8).toList [] T S Q =
  (∃ p1, abin Try.prog .neq 25 (.tmp 58) (.const (.int .i64 0)) (T.get 6) (.int .i64 0) = some p1 ∧ ∃ b2, p1 = .bool b2 ∧
     (b2 = true → ∃ p5, pickS p1 (.bool true) undef = some p5 ∧ Q ((((((T.set (T.get 6) 58).set p1 59).set p1 60).set undef 61).set undef 62).set p5 63) S) ∧
     (b2 = false → ∃ p4, abin Try.prog .eql 24 (.tmp 61) (.const (.pointer none)) (T.get 5) (.pointer none) = some p4 ∧ ∃ p5, pickS p1 (.bool true) p4 = some p5 ∧ Q ((((((T.set (T.get 6) 58).set p1 59).set p1 60).set (T.get 5) 61).set p4 62).set p5 63) S)) := by kernel_rfl
theorem reg3_9 {O : Known} {T : FT} {S : MS} {Q : FT → MS → Prop} : mOps Try.prog O 308 (ro 3 9).toList (ro 3 9).toList [] T S Q =
  (Q (T.set (.bool false) 4) S) := by kernel_rfl
theorem reg3_10 {O : Known} {T : FT} {S : MS} {Q : FT → MS → Prop} : mOps Try.prog O 308 (ro 3 10).toList (ro 3 10).toList [] T S Q =
  (Q (T.set (.slice none 0 0) 7) S) := by kernel_rfl
theorem reg3_11 {O : Known} {T : FT} {S : MS} {Q : FT → MS → Prop} : mOps Try.prog O 308 (ro 3 11).toList (ro 3 11).toList [] T S Q =
  (∃ p1 S1, msS S 1 24 [.slice none 0 0] (T.get 0) (T.get 0) = some (p1, S1) ∧ Q (((T.set (T.get 0) 64).set p1 65).set p1 8) S1) := by kernel_rfl
theorem reg3_12 {O : Known} {T : FT} {S : MS} {Q : FT → MS → Prop} : mOps Try.prog O 308 (ro 3 12).toList (ro 3 12).toList [] T S Q =
  (Q (T.set (.int .i64 0) 9) S) := by kernel_rfl
theorem reg3_13 {O : Known} {T : FT} {S : MS} {Q : FT → MS → Prop} : mOps Try.prog O 308 (ro 3 13).toList (ro 3 13).toList [] T S Q =
  (∃ p2, abin Try.prog .lss 3 (.tmp 66) (.tmp 67) (T.get 9) (T.get 0) = some p2 ∧ Q (((T.set (T.get 9) 66).set (T.get 0) 67).set p2 68) S) := by kernel_rfl
theorem reg3_15 {O : Known} {T : FT} {S : MS} {Q : FT → MS → Prop} : mOps Try.prog O 308 (ro 3 15).toList (ro 3 15).toList [] T S Q =
  (∃ p2 S2, msS S 1 1 [.int .u8 0] (.int .i64 256) (.int .i64 256) = some (p2, S2) ∧ ∃ p3, iaSS 1 (T.get 8) (T.get 9) = some p3 ∧ ∃ S4, stS 1 S2 p3 p2 = some S4 ∧ Q ((((T.set (T.get 8) 71).set (T.get 9) 72).set p2 73).set p3 74) S4) := by kernel_rfl
theorem reg3_14 {O : Known} {T : FT} {S : MS} {Q : FT → MS → Prop} : mOps Try.prog O 308 (ro 3 14).toList (ro 3 14).toList [] T S Q =
  (∃ p1, abin Try.prog .add 3 (.tmp 69) (.const (.int .i64 1)) (T.get 9) (.int .i64 1) = some p1 ∧ Q (((T.set (T.get 9) 69).set p1 70).set p1 9) S) := by kernel_rfl
theorem reg3_16 {O : Known} {T : FT} {S : MS} {Q : FT → MS → Prop} : mOps Try.prog O 308 (ro 3 16).toList (ro 3 16).toList [] T S Q =
  (∃ p2 S2, apS false 1 24 [.slice none 0 0] S [(.slice none 0 0), (T.get 8)] = some (p2, S2) ∧ ∃ p3 S3, bsS S2 1 1 [.slice none 0 0] [(0, p2)] = some (p3, S3) ∧ ∃ p4 S4, apS false 1 24 [.slice none 0 0] S3 [(T.get 7), p3] = some (p4, S4) ∧ Q ((((((T.set (T.get 7) 75).set (T.get 8) 76).set p2 77).set p3 78).set p4 79).set p4 7) S4) := by kernel_rfl
theorem reg3_17 {O : Known} {T : FT} {S : MS} {Q : FT → MS → Prop} : mOps Try.prog O 308 (ro 3 17).toList (ro 3 17).toList [] T S Q =
  (Q ((T.set (.int .i64 (-1)) 10).set (.bool false) 11) S) := by kernel_rfl
theorem reg3_18 {O : Known} {T : FT} {S : MS} {Q : FT → MS → Prop} : mOps Try.prog O 308 (ro 3 18).toList (ro 3 18).toList [] T S Q =
  (Q (T.set (.int .i64 0) 12) S) := by kernel_rfl
theorem reg3_19 {O : Known} {T : FT} {S : MS} {Q : FT → MS → Prop} : mOps Try.prog O 308 (ro 3 19).toList (ro 3 19).toList [] T S Q =
  (∃ p2, lenSl (T.get 1) = some p2 ∧ ∃ p3, abin Try.prog .lss 3 (.tmp 80) (.tmp 82) (T.get 12) p2 = some p3 ∧ Q ((((T.set (T.get 12) 80).set (T.get 1) 81).set p2 82).set p3 83) S) := by kernel_rfl
theorem reg3_21 {O : Known} {T : FT} {S : MS} {Q : FT → MS → Prop} : mOps Try.prog O 308 (ro 3 21).toList (ro 3 21).toList [] T S Q =
  (∃ p2, iaSS 5 (T.get 1) (T.get 12) = some p2 ∧ ∃ p3, ldS (some 5) S p2 = some p3 ∧ ∃ S5, stS 5 (S.fresh [.int .i64 0, .int .i64 0, .int .i64 0, .int .u8 0, .bool false] 0) (ptrTo S.n) p3 = some S5 ∧ Q (((((T.set (T.get 1) 86).set (T.get 12) 87).set p2 88).set p3 89).set (ptrTo S.n) 13) S5) := by kernel_rfl
theorem reg3_22 {O : Known} {T : FT} {S : MS} {Q : FT → MS → Prop} : mOps Try.prog O 308 (ro 3 22).toList (ro 3 22).toList [] T S Q =
  (∃ p0, faS 1 (T.get 13) = some p0 ∧ ∃ p1, ldS none S p0 = some p1 ∧ ∃ p2, abin Try.prog .geq 3 (.tmp 91) (.const (.int .i64 0)) p1 (.int .i64 0) = some p2 ∧ ∃ b3, p2 = .bool b3 ∧
      (b3 = true → ∃ p4, faS 1 (T.get 13) = some p4 ∧ ∃ p5, ldS none S p4 = some p5 ∧ ∃ p7, abin Try.prog .lss 3 (.tmp 95) (.tmp 96) p5 (T.get 0) = some p7 ∧ ∃ p8, pickS p2 p7 (.bool false) = some p8 ∧ Q ((((((((((T.set p0 90).set p1 91).set p2 92).set p2 93).set p4 94).set p5 95).set (T.get 0) 96).set p7 97).set p8 98).set p8 14) S) ∧
      (b3 = false → ∃ p8, pickS p2 undef (.bool false) = some p8 ∧ Q ((((((((((T.set p0 90).set p1 91).set p2 92).set p2 93).set undef 94).set undef 95).set undef 96).set undef 97).set p8 98).set p8 14) S)) := by kernel_rfl
theorem reg3_23 {O : Known} {T : FT} {S : MS} {Q : FT → MS → Prop} : mOps Try.prog O 308 (ro 3 23).toList (ro 3 23).toList [] T S Q =
  (∃ p0, faS 0 (T.get 13) = some p0 ∧ ∃ p1, ldS none S p0 = some p1 ∧ Q ((T.set p0 99).set p1 100) S) := by kernel_rfl
theorem reg3_34 {O : Known} {T : FT} {S : MS} {Q : FT → MS → Prop} : mOps Try.prog O 308 (ro 3 34).toList (ro 3 34).toList [] T S Q =
  (∃ p0, abin Try.prog .eql 3 (.tmp 100) (.const (.int .i64 0)) (T.get 100) (.int .i64 0) = some p0 ∧ Q ((T.set p0 132).set p0 131) S) := by kernel_rfl
theorem reg3_35 {O : Known} {T : FT} {S : MS} {Q : FT → MS → Prop} : mOps Try.prog O 308 (ro 3 35).toList (ro 3 35).toList [] T S Q =
  (∃ p0, abin Try.prog .eql 3 (.tmp 100) (.const (.int .i64 1)) (T.get 100) (.int .i64 1) = some p0 ∧ Q ((T.set p0 133).set p0 131) S) := by kernel_rfl
theorem reg3_36 {O : Known} {T : FT} {S : MS} {Q : FT → MS → Prop} : mOps Try.prog O 308 (ro 3 36).toList (ro 3 36).toList [] T S Q =
  (∃ p0, abin Try.prog .eql 3 (.tmp 100) (.const (.int .i64 2)) (T.get 100) (.int .i64 2) = some p0 ∧ Q ((T.set p0 134).set p0 131) S) := by kernel_rfl
theorem reg3_37 {O : Known} {T : FT} {S : MS} {Q : FT → MS → Prop} : mOps Try.prog O 308 (ro 3 37).toList (ro 3 37).toList [] T S Q =
  (∃ p0, abin Try.prog .eql 3 (.tmp 100) (.const (.int .i64 3)) (T.get 100) (.int .i64 3) = some p0 ∧ Q ((T.set p0 135).set p0 131) S) := by kernel_rfl
theorem reg3_38 {O : Known} {T : FT} {S : MS} {Q : FT → MS → Prop} : mOps Try.prog O 308 (ro 3 38).toList (ro 3 38).toList [] T S Q =
  (∃ p0, faS 3 (T.get 13) = some p0 ∧ ∃ p1, ldS none S p0 = some p1 ∧ ∃ p2, faS 4 (T.get 13) = some p2 ∧ ∃ p3, ldS none S p2 = some p3 ∧ CallM Try.prog O 6 [p1, p3] S fun p4 S4 => Q ((((((T.set p0 136).set p1 137).set p2 138).set p3 139).set p4 140).set p4 15) S4) := by kernel_rfl
theorem reg3_39 {O : Known} {T : FT} {S : MS} {Q : FT → MS → Prop} : mOps Try.prog O 308 (ro 3 39).toList (ro 3 39).toList [] T S Q =
  (Q (T.set (.int .i64 0) 16) S) := by kernel_rfl
theorem reg3_40 {O : Known} {T : FT} {S : MS} {Q : FT → MS → Prop} : mOps Try.prog O 308 (ro 3 40).toList (ro 3 40).toList [] T S Q =
  (Q ((T.set (T.get 11) 142).set (T.get 11) 141) S) := by kernel_rfl
theorem reg3_41 {O : Known} {T : FT} {S : MS} {Q : FT → MS → Prop} : mOps Try.prog O 308 (ro 3 41).toList (ro 3 41).toList [] T S Q =
  (Q (T.set (.int .i64 12) 16) S) := by kernel_rfl
theorem reg3_42 {O : Known} {T : FT} {S : MS} {Q : FT → MS → Prop} : mOps Try.prog O 308 (ro 3 42).toList (ro 3 42).toList [] T S Q =
  (∃ p1, aunary .not (T.get 14) = some p1 ∧ Q (((T.set (T.get 14) 144).set p1 145).set p1 143) S) := by kernel_rfl
theorem reg3_43 {O : Known} {T : FT} {S : MS} {Q : FT → MS → Prop} : mOps Try.prog O 308 (ro 3 43).toList (ro 3 43).toList [] T S Q =
  (Q (T.set (.int .i64 11) 16) S) := by kernel_rfl
theorem reg3_44 {O : Known} {T : FT} {S : MS} {Q : FT → MS → Prop} : mOps Try.prog O 308 (ro 3 44).toList (ro 3 44).toList [] T S Q =
  (∃ p0, faS 4 (T.get 13) = some p0 ∧ ∃ p1, ldS none S p0 = some p1 ∧ Q (((T.set p0 147).set p1 148).set p1 146) S) := by kernel_rfl
theorem reg3_45 {O : Known} {T : FT} {S : MS} {Q : FT → MS → Prop} : mOps Try.prog O 308 (ro 3 45).toList (ro 3 45).toList [] T S Q =
  (Q (T.set (.int .i64 10) 16) S) := by kernel_rfl
theorem reg3_46 {O : Known} {T : FT} {S : MS} {Q : FT → MS → Prop} : mOps Try.prog O 308 (ro 3 46).toList (ro 3 46).toList [] T S Q =
  (∃ p1, faS 1 (T.get 13) = some p1 ∧ ∃ p2, ldS none S p1 = some p2 ∧ CallM Try.prog O 7 [(T.get 5), p2, (T.get 15)] S fun p4 S4 => ∃ p6, abin Try.prog .neq 25 (.tmp 153) (.tmp 154) p4 (T.get 16) = some p6 ∧ Q (((((((T.set (T.get 5) 149).set p1 150).set p2 151).set (T.get 15) 152).set p4 153).set (T.get 16) 154).set p6 155) S4) := by kernel_rfl
theorem reg3_47 {O : Known} {T : FT} {S : MS} {Q : FT → MS → Prop} : mOps Try.prog O 308 (ro 3 47).toList (ro 3 47).toList [] T S Q =
  (Q (T.set (.bool false) 4) S) := by kernel_rfl
theorem reg3_48 {O : Known} {T : FT} {S : MS} {Q : FT → MS → Prop} : mOps Try.prog O 308 (ro 3 48).toList (ro 3 48).toList [] T S Q =
  (CallM Try.prog O 8 [(T.get 15)] S fun p1 S1 => Q ((T.set (T.get 15) 156).set p1 157) S1) := by kernel_rfl
theorem reg3_49 {O : Known} {T : FT} {S : MS} {Q : FT → MS → Prop} : mOps Try.prog O 308 (ro 3 49).toList (ro 3 49).toList [] T S Q =
  (∃ p1, abin Try.prog .eql 25 (.tmp 158) (.const (.int .i64 0)) (T.get 16) (.int .i64 0) = some p1 ∧ Q ((T.set (T.get 16) 158).set p1 159) S) := by kernel_rfl
theorem reg3_50 {O : Known} {T : FT} {S : MS} {Q : FT → MS → Prop} : mDraw Try.prog O 308 (ro 3 50).toList T S Q =
  (∃ p3, faS 3 (T.get 13) = some p3 ∧ ∃ p4, ldS none S p3 = some p4 ∧ CallM Try.prog O 6 [p4, (.bool false)] S fun p5 S5 => ∃ p1, faS 1 (T.get 13) = some p1 ∧ ∃ p2, ((ldS none S5 p1).bind fun v => (ldS none S p1).bind fun w => if veq v w then some v else none) = some p2 ∧ ∃ p6, iaSS 1 (T.get 8) p2 = some p6 ∧ ∃ S7, stS 1 S5 p6 p5 = some S7 ∧ Q (((((((T.set p3 163).set p4 164).set p5 165).set (T.get 8) 160).set p1 161).set p2 162).set p6 166) S7) := by kernel_rfl
theorem reg3_51 {O : Known} {T : FT} {S : MS} {Q : FT → MS → Prop} : mOps Try.prog O 308 (ro 3 51).toList (ro 3 51).toList [] T S Q =
  (∃ p2 S2, apS false 1 24 [.slice none 0 0] S [(.slice none 0 0), (T.get 8)] = some (p2, S2) ∧ ∃ p3 S3, bsS S2 1 1 [.slice none 0 0] [(0, p2)] = some (p3, S3) ∧ ∃ p4 S4, apS false 1 24 [.slice none 0 0] S3 [(T.get 7), p3] = some (p4, S4) ∧ Q ((((((T.set (T.get 7) 167).set (T.get 8) 168).set p2 169).set p3 170).set p4 171).set p4 7) S4) := by kernel_rfl
theorem reg3_52 {O : Known} {T : FT} {S : MS} {Q : FT → MS → Prop} : mOps Try.prog O 308 (ro 3 52).toList (ro 3 52).toList [] T S Q =
  (∃ p1, abin Try.prog .gtr 3 (.tmp 172) (.const (.int .i64 0)) (T.get 10) (.int .i64 0) = some p1 ∧ Q ((T.set (T.get 10) 172).set p1 173) S) := by kernel_rfl
theorem reg3_53 {O : Known} {T : FT} {S : MS} {Q : FT → MS → Prop} : mOps Try.prog O 308 (ro 3 53).toList (ro 3 53).toList [] T S Q =
  (∃ p1, abin Try.prog .sub 3 (.tmp 174) (.const (.int .i64 1)) (T.get 10) (.int .i64 1) = some p1 ∧ Q (((T.set (T.get 10) 174).set p1 175).set p1 10) S) := by kernel_rfl
theorem reg3_54 {O : Known} {T : FT} {S : MS} {Q : FT → MS → Prop} : mOps Try.prog O 308 (ro 3 54).toList (ro 3 54).toList [] T S Q =
  (∃ p1, abin Try.prog .eql 3 (.tmp 176) (.const (.int .i64 0)) (T.get 10) (.int .i64 0) = some p1 ∧ Q (((T.set (T.get 10) 176).set p1 177).set p1 11) S) := by kernel_rfl
theorem reg3_55 {O : Known} {T : FT} {S : MS} {Q : FT → MS → Prop} : mOps Try.prog O 308 (ro 3 55).toList (ro 3 55).toList [] T S Q =
  (∃ p0, abin Try.prog .eql 3 (.tmp 100) (.const (.int .i64 4)) (T.get 100) (.int .i64 4) = some p0 ∧ Q ((T.set p0 179).set p0 178) S) := by kernel_rfl
theorem reg3_56 {O : Known} {T : FT} {S : MS} {Q : FT → MS → Prop} : mOps Try.prog O 308 (ro 3 56).toList (ro 3 56).toList [] T S Q =
  (∃ p1, faS 2 (T.get 13) = some p1 ∧ ∃ p2, ldS none S p1 = some p2 ∧ CallM Try.prog O 9 [(T.get 5), p2] S fun p3 S3 => Q ((((T.set (T.get 5) 180).set p1 181).set p2 182).set p3 183) S3) := by kernel_rfl
theorem reg3_57 {O : Known} {T : FT} {S : MS} {Q : FT → MS → Prop} : mOps Try.prog O 308 (ro 3 57).toList (ro 3 57).toList [] T S Q =
  (∃ p0, faS 2 (T.get 13) = some p0 ∧ ∃ p1, ldS none S p0 = some p1 ∧ ∃ p2, aminmax true [p1, (.int .i64 (-1))] = some p2 ∧ Q ((((T.set p0 184).set p1 185).set p2 186).set p2 10) S) := by kernel_rfl
theorem reg3_58 {O : Known} {T : FT} {S : MS} {Q : FT → MS → Prop} : mOps Try.prog O 308 (ro 3 58).toList (ro 3 58).toList [] T S Q =
  (∃ b1, (T.get 11) = .bool b1 ∧
    (b1 = true → ∃ p4, pickS (T.get 11) (.bool true) undef = some p4 ∧ Q ((((((T.set (T.get 11) 187).set (T.get 11) 188).set undef 189).set undef 190).set p4 191).set p4 11) S) ∧
    (b1 = false → ∃ p3, abin Try.prog .eql 3 (.tmp 189) (.const (.int .i64 0)) (T.get 10) (.int .i64 0) = some p3 ∧ ∃ p4, pickS (T.get 11) (.bool true) p3 = some p4 ∧ Q ((((((T.set (T.get 11) 187).set (T.get 11) 188).set (T.get 10) 189).set p3 190).set p4 191).set p4 11) S)) := by kernel_rfl
theorem reg3_59 {O : Known} {T : FT} {S : MS} {Q : FT → MS → Prop} : mOps Try.prog O 308 (ro 3 59).toList (ro 3 59).toList [] T S Q =
  (∃ p0, abin Try.prog .eql 3 (.tmp 100) (.const (.int .i64 5)) (T.get 100) (.int .i64 5) = some p0 ∧ Q ((T.set p0 193).set p0 192) S) := by kernel_rfl
theorem reg3_60 {O : Known} {T : FT} {S : MS} {Q : FT → MS → Prop} : mOps Try.prog O 308 (ro 3 60).toList (ro 3 60).toList [] T S Q =
  (CallM Try.prog O 10 [(T.get 5)] S fun p1 S1 => Q ((T.set (T.get 5) 194).set p1 195) S1) := by kernel_rfl
theorem reg3_61 {O : Known} {T : FT} {S : MS} {Q : FT → MS → Prop} : mOps Try.prog O 308 (ro 3 61).toList (ro 3 61).toList [] T S Q =
  (Q ((T.set (.int .i64 (-1)) 10).set (.bool false) 11) S) := by kernel_rfl
theorem reg3_24 {O : Known} {T : FT} {S : MS} {Q : FT → MS → Prop} : mOps Try.prog O 308 (ro 3 24).toList (ro 3 24).toList [] T S Q =
  (∃ p1, faS 1 (T.get 13) = some p1 ∧ ∃ p2, ldS none S p1 = some p2 ∧ CallM Try.prog O 11 [(T.get 5), p2] S fun p3 S3 => ∃ p5, aextract p3 0 = some p5 ∧ ∃ p6, aextract p3 1 = some p6 ∧ Q (((((((((T.set (T.get 5) 102).set p1 103).set p2 104).set p3 105).set p3 101).set p5 106).set p6 107).set p5 17).set p6 18) S3) := by kernel_rfl
theorem reg3_27 {O : Known} {T : FT} {S : MS} {Q : FT → MS → Prop} : mOps Try.prog O 308 (ro 3 27).toList (ro 3 27).toList [] T S Q =
  (Q ((T.set (T.get 11) 121).set (T.get 11) 120) S) := by kernel_rfl
theorem reg3_28 {O : Known} {T : FT} {S : MS} {Q : FT → MS → Prop} : mOps Try.prog O 308 (ro 3 28).toList (ro 3 28).toList [] T S Q =
  (∃ p1, abin Try.prog .neq 25 (.tmp 122) (.const (.int .i64 12)) (T.get 18) (.int .i64 12) = some p1 ∧ Q ((T.set (T.get 18) 122).set p1 123) S) := by kernel_rfl
theorem reg3_29 {O : Known} {T : FT} {S : MS} {Q : FT → MS → Prop} : mOps Try.prog O 308 (ro 3 29).toList (ro 3 29).toList [] T S Q =
  (Q (T.set (.bool false) 4) S) := by kernel_rfl
theorem reg3_30 {O : Known} {T : FT} {S : MS} {Q : FT → MS → Prop} : mOps Try.prog O 308 (ro 3 30).toList (ro 3 30).toList [] T S Q =
  (∃ p1, aunary .not (T.get 14) = some p1 ∧ Q (((T.set (T.get 14) 125).set p1 126).set p1 124) S) := by kernel_rfl
theorem reg3_31 {O : Known} {T : FT} {S : MS} {Q : FT → MS → Prop} : mOps Try.prog O 308 (ro 3 31).toList (ro 3 31).toList [] T S Q =
  (∃ p1, abin Try.prog .neq 25 (.tmp 127) (.const (.int .i64 11)) (T.get 18) (.int .i64 11) = some p1 ∧ Q ((T.set (T.get 18) 127).set p1 128) S) := by kernel_rfl
theorem reg3_32 {O : Known} {T : FT} {S : MS} {Q : FT → MS → Prop} : mOps Try.prog O 308 (ro 3 32).toList (ro 3 32).toList [] T S Q =
  (Q (T.set (.bool false) 4) S) := by kernel_rfl
theorem reg3_25 {O : Known} {T : FT} {S : MS} {Q : FT → MS → Prop} : mOps Try.prog O 308 (ro 3 25).toList (ro 3 25).toList [] T S Q =
  (∃ p1, abin Try.prog .neq 25 (.tmp 108) (.const (.int .i64 0)) (T.get 18) (.int .i64 0) = some p1 ∧ ∃ b2, p1 = .bool b2 ∧
     (b2 = true → ∃ p11, pickS p1 (.bool true) undef = some p11 ∧ Q ((((((((((((T.set (T.get 18) 108).set p1 109).set p1 110).set undef 111).set undef 112).set undef 113).set undef 114).set undef 115).set undef 116).set undef 117).set undef 118).set p11 119) S) ∧
     (b2 = false → ∃ p5, faS 1 (T.get 13) = some p5 ∧ ∃ p6, ldS none S p5 = some p6 ∧ ∃ p7, iaSS 1 (T.get 8) p6 = some p7 ∧ ∃ p8, ldS none S p7 = some p8 ∧ CallM Try.prog O 12 [(T.get 17), p8] S fun p9 S9 => ∃ p10, aunary .not p9 = some p10 ∧ ∃ p11, pickS p1 (.bool true) p10 = some p11 ∧ Q ((((((((((((T.set (T.get 18) 108).set p1 109).set p1 110).set (T.get 17) 111).set (T.get 8) 112).set p5 113).set p6 114).set p7 115).set p8 116).set p9 117).set p10 118).set p11 119) S9)) := by kernel_rfl
theorem reg3_26 {O : Known} {T : FT} {S : MS} {Q : FT → MS → Prop} : mOps Try.prog O 308 (ro 3 26).toList (ro 3 26).toList [] T S Q =
  (Q (T.set (.bool false) 4) S) := by kernel_rfl
theorem reg3_33 {O : Known} {T : FT} {S : MS} {Q : FT → MS → Prop} : mOps Try.prog O 308 (ro 3 33).toList (ro 3 33).toList [] T S Q =
  (CallM Try.prog O 8 [(T.get 17)] S fun p1 S1 => Q ((T.set (T.get 17) 129).set p1 130) S1) := by kernel_rfl
theorem reg3_62 {O : Known} {T : FT} {S : MS} {Q : FT → MS → Prop} : mOps Try.prog O 308 (ro 3 62).toList (ro 3 62).toList [] T S Q =
  (CallM Try.prog O 13 [(T.get 5)] S fun p1 S1 => ∃ p3, lenSl (T.get 7) = some p3 ∧ ∃ p4, abin Try.prog .sub 3 (.tmp 199) (.const (.int .i64 1)) p3 (.int .i64 1) = some p4 ∧ ∃ p5, abin Try.prog .neq 3 (.tmp 197) (.tmp 200) p1 p4 = some p5 ∧ ∃ b6, p5 = .bool b6 ∧
         (b6 = true → ∃ p11, pickS p5 (.bool true) undef = some p11 ∧ Q ((((((((((((T.set (T.get 5) 196).set p1 197).set (T.get 7) 198).set p3 199).set p4 200).set p5 201).set p5 202).set undef 203).set undef 204).set undef 205).set undef 206).set p11 207) S1) ∧
         (b6 = false → CallM Try.prog O 14 [(T.get 5)] S1 fun p8 S8 => ∃ p10, abin Try.prog .neq 3 (.tmp 204) (.tmp 205) p8 (T.get 0) = some p10 ∧ ∃ p11, pickS p5 (.bool true) p10 = some p11 ∧ Q ((((((((((((T.set (T.get 5) 196).set p1 197).set (T.get 7) 198).set p3 199).set p4 200).set p5 201).set p5 202).set (T.get 5) 203).set p8 204).set (T.get 0) 205).set p10 206).set p11 207) S8)) := by kernel_rfl
theorem reg3_63 {O : Known} {T : FT} {S : MS} {Q : FT → MS → Prop} : mOps Try.prog O 308 (ro 3 63).toList (ro 3 63).toList [] T S Q =
  (Q (T.set (.bool false) 4) S) := by kernel_rfl
theorem reg3_20 {O : Known} {T : FT} {S : MS} {Q : FT → MS → Prop} : mOps Try.prog O 308 (ro 3 20).toList (ro 3 20).toList [] T S Q =
  (∃ p1, abin Try.prog .add 3 (.tmp 84) (.const (.int .i64 1)) (T.get 12) (.int .i64 1) = some p1 ∧ Q (((T.set (T.get 12) 84).set p1 85).set p1 12) S) := by kernel_rfl
theorem reg3_64 {O : Known} {T : FT} {S : MS} {Q : FT → MS → Prop} : mOps Try.prog O 308 (ro 3 64).toList (ro 3 64).toList [] T S Q =
  (Q (T.set (.int .i64 (-1)) 19) S) := by kernel_rfl
theorem reg3_65 {O : Known} {T : FT} {S : MS} {Q : FT → MS → Prop} : mOps Try.prog O 308 (ro 3 65).toList (ro 3 65).toList [] T S Q =
  (∃ p2, lenSl (T.get 7) = some p2 ∧ ∃ p3, abin Try.prog .leq 3 (.tmp 208) (.tmp 210) (T.get 19) p2 = some p3 ∧ Q ((((T.set (T.get 19) 208).set (T.get 7) 209).set p2 210).set p3 211) S) := by kernel_rfl
theorem reg3_67 {O : Known} {T : FT} {S : MS} {Q : FT → MS → Prop} : mOps Try.prog O 308 (ro 3 67).toList (ro 3 67).toList [] T S Q =
  (CallM Try.prog O 15 [(T.get 5), (T.get 19)] S fun p2 S2 => ∃ p4, aextract p2 0 = some p4 ∧ ∃ p5, aextract p2 1 = some p5 ∧ Q ((((((((T.set (T.get 5) 215).set (T.get 19) 216).set p2 217).set p2 214).set p4 218).set p5 219).set p4 20).set p5 21) S2) := by kernel_rfl
theorem reg3_68 {O : Known} {T : FT} {S : MS} {Q : FT → MS → Prop} : mOps Try.prog O 308 (ro 3 68).toList (ro 3 68).toList [] T S Q =
  (∃ p1, abin Try.prog .lss 3 (.tmp 220) (.const (.int .i64 0)) (T.get 19) (.int .i64 0) = some p1 ∧ ∃ b2, p1 = .bool b2 ∧
     (b2 = true → ∃ p7, pickS p1 (.bool true) undef = some p7 ∧ Q ((((((((T.set (T.get 19) 220).set p1 221).set p1 222).set undef 223).set undef 224).set undef 225).set undef 226).set p7 227) S) ∧
     (b2 = false → ∃ p5, lenSl (T.get 7) = some p5 ∧ ∃ p6, abin Try.prog .eql 3 (.tmp 223) (.tmp 225) (T.get 19) p5 = some p6 ∧ ∃ p7, pickS p1 (.bool true) p6 = some p7 ∧ Q ((((((((T.set (T.get 19) 220).set p1 221).set p1 222).set (T.get 19) 223).set (T.get 7) 224).set p5 225).set p6 226).set p7 227) S)) := by kernel_rfl
theorem reg3_69 {O : Known} {T : FT} {S : MS} {Q : FT → MS → Prop} : mOps Try.prog O 308 (ro 3 69).toList (ro 3 69).toList [] T S Q =
  (∃ p1, abin Try.prog .neq 25 (.tmp 228) (.const (.int .i64 11)) (T.get 21) (.int .i64 11) = some p1 ∧ ∃ b2, p1 = .bool b2 ∧
     (b2 = true → ∃ p5, pickS p1 (.bool true) undef = some p5 ∧ Q ((((((T.set (T.get 21) 228).set p1 229).set p1 230).set undef 231).set undef 232).set p5 233) S) ∧
     (b2 = false → ∃ p4, abin Try.prog .neq 24 (.tmp 231) (.const (.pointer none)) (T.get 20) (.pointer none) = some p4 ∧ ∃ p5, pickS p1 (.bool true) p4 = some p5 ∧ Q ((((((T.set (T.get 21) 228).set p1 229).set p1 230).set (T.get 20) 231).set p4 232).set p5 233) S)) := by kernel_rfl
theorem reg3_70 {O : Known} {T : FT} {S : MS} {Q : FT → MS → Prop} : mOps Try.prog O 308 (ro 3 70).toList (ro 3 70).toList [] T S Q =
  (Q (T.set (.bool false) 4) S) := by kernel_rfl
theorem reg3_71 {O : Known} {T : FT} {S : MS} {Q : FT → MS → Prop} : mOps Try.prog O 308 (ro 3 71).toList (ro 3 71).toList [] T S Q =
  (∃ p1, abin Try.prog .neq 25 (.tmp 234) (.const (.int .i64 0)) (T.get 21) (.int .i64 0) = some p1 ∧ ∃ b2, p1 = .bool b2 ∧
     (b2 = true → ∃ p5, pickS p1 (.bool true) undef = some p5 ∧ ∃ b6, p5 = .bool b6 ∧
         (b6 = true → ∃ p10, pickS p5 (.bool true) undef = some p10 ∧ ∃ b11, p10 = .bool b11 ∧
              (b11 = true → ∃ p16, pickS p10 (.bool true) undef = some p16 ∧ Q (((((((((((((((((T.set (T.get 21) 234).set p1 235).set p1 236).set undef 237).set undef 238).set p5 239).set p5 240).set undef 241).set undef 242).set undef 243).set p10 244).set p10 245).set undef 246).set undef 247).set undef 248).set undef 249).set p16 250) S) ∧
              (b11 = false → CallM Try.prog O 14 [(T.get 20)] S fun p13 S13 => ∃ p15, abin Try.prog .neq 3 (.tmp 247) (.tmp 248) p13 (T.get 0) = some p15 ∧ ∃ p16, pickS p10 (.bool true) p15 = some p16 ∧ Q (((((((((((((((((T.set (T.get 21) 234).set p1 235).set p1 236).set undef 237).set undef 238).set p5 239).set p5 240).set undef 241).set undef 242).set undef 243).set p10 244).set p10 245).set (T.get 20) 246).set p13 247).set (T.get 0) 248).set p15 249).set p16 250) S13)) ∧
         (b6 = false → CallM Try.prog O 13 [(T.get 20)] S fun p8 S8 => ∃ p9, abin Try.prog .neq 3 (.tmp 242) (.const (.int .i64 0)) p8 (.int .i64 0) = some p9 ∧ ∃ p10, pickS p5 (.bool true) p9 = some p10 ∧ ∃ b11, p10 = .bool b11 ∧
              (b11 = true → ∃ p16, pickS p10 (.bool true) undef = some p16 ∧ Q (((((((((((((((((T.set (T.get 21) 234).set p1 235).set p1 236).set undef 237).set undef 238).set p5 239).set p5 240).set (T.get 20) 241).set p8 242).set p9 243).set p10 244).set p10 245).set undef 246).set undef 247).set undef 248).set undef 249).set p16 250) S8) ∧
              (b11 = false → CallM Try.prog O 14 [(T.get 20)] S8 fun p13 S13 => ∃ p15, abin Try.prog .neq 3 (.tmp 247) (.tmp 248) p13 (T.get 0) = some p15 ∧ ∃ p16, pickS p10 (.bool true) p15 = some p16 ∧ Q (((((((((((((((((T.set (T.get 21) 234).set p1 235).set p1 236).set undef 237).set undef 238).set p5 239).set p5 240).set (T.get 20) 241).set p8 242).set p9 243).set p10 244).set p10 245).set (T.get 20) 246).set p13 247).set (T.get 0) 248).set p15 249).set p16 250) S13))) ∧
     (b2 = false → ∃ p4, abin Try.prog .eql 24 (.tmp 237) (.const (.pointer none)) (T.get 20) (.pointer none) = some p4 ∧ ∃ p5, pickS p1 (.bool true) p4 = some p5 ∧ ∃ b6, p5 = .bool b6 ∧
         (b6 = true → ∃ p10, pickS p5 (.bool true) undef = some p10 ∧ ∃ b11, p10 = .bool b11 ∧
              (b11 = true → ∃ p16, pickS p10 (.bool true) undef = some p16 ∧ Q (((((((((((((((((T.set (T.get 21) 234).set p1 235).set p1 236).set (T.get 20) 237).set p4 238).set p5 239).set p5 240).set undef 241).set undef 242).set undef 243).set p10 244).set p10 245).set undef 246).set undef 247).set undef 248).set undef 249).set p16 250) S) ∧
              (b11 = false → CallM Try.prog O 14 [(T.get 20)] S fun p13 S13 => ∃ p15, abin Try.prog .neq 3 (.tmp 247) (.tmp 248) p13 (T.get 0) = some p15 ∧ ∃ p16, pickS p10 (.bool true) p15 = some p16 ∧ Q (((((((((((((((((T.set (T.get 21) 234).set p1 235).set p1 236).set (T.get 20) 237).set p4 238).set p5 239).set p5 240).set undef 241).set undef 242).set undef 243).set p10 244).set p10 245).set (T.get 20) 246).set p13 247).set (T.get 0) 248).set p15 249).set p16 250) S13)) ∧
         (b6 = false → CallM Try.prog O 13 [(T.get 20)] S fun p8 S8 => ∃ p9, abin Try.prog .neq 3 (.tmp 242) (.const (.int .i64 0)) p8 (.int .i64 0) = some p9 ∧ ∃ p10, pickS p5 (.bool true) p9 = some p10 ∧ ∃ b11, p10 = .bool b11 ∧
              (b11 = true → ∃ p16, pickS p10 (.bool true) undef = some p16 ∧ Q (((((((((((((((((T.set (T.get 21) 234).set p1 235).set p1 236).set (T.get 20) 237).set p4 238).set p5 239).set p5 240).set (T.get 20) 241).set p8 242).set p9 243).set p10 244).set p10 245).set undef 246).set undef 247).set undef 248).set undef 249).set p16 250) S8) ∧
              (b11 = false → CallM Try.prog O 14 [(T.get 20)] S8 fun p13 S13 => ∃ p15, abin Try.prog .neq 3 (.tmp 247) (.tmp 248) p13 (T.get 0) = some p15 ∧ ∃ p16, pickS p10 (.bool true) p15 = some p16 ∧ Q (((((((((((((((((T.set (T.get 21) 234).set p1 235).set p1 236).set (T.get 20) 237).set p4 238).set p5 239).set p5 240).set (T.get 20) 241).set p8 242).set p9 243).set p10 244).set p10 245).set (T.get 20) 246).set p13 247).set (T.get 0) 248).set p15 249).set p16 250) S13)))) := by kernel_rfl
theorem reg3_72 {O : Known} {T : FT} {S : MS} {Q : FT → MS → Prop} : mOps Try.prog O 308 (ro 3 72).toList (ro 3 72).toList [] T S Q =
  (Q (T.set (.bool false) 4) S) := by kernel_rfl
theorem reg3_73 {O : Known} {T : FT} {S : MS} {Q : FT → MS → Prop} : mOps Try.prog O 308 (ro 3 73).toList (ro 3 73).toList [] T S Q =
  (Q (T.set (.int .i64 0) 22) S) := by kernel_rfl
theorem reg3_74 {O : Known} {T : FT} {S : MS} {Q : FT → MS → Prop} : mOps Try.prog O 308 (ro 3 74).toList (ro 3 74).toList [] T S Q =
  (∃ p2, abin Try.prog .lss 3 (.tmp 251) (.tmp 252) (T.get 22) (T.get 0) = some p2 ∧ Q (((T.set (T.get 22) 251).set (T.get 0) 252).set p2 253) S) := by kernel_rfl
theorem reg3_76 {O : Known} {T : FT} {S : MS} {Q : FT → MS → Prop} : mOps Try.prog O 308 (ro 3 76).toList (ro 3 76).toList [] T S Q =
  (CallM Try.prog O 11 [(T.get 20), (T.get 22)] S fun p2 S2 => ∃ p4, aextract p2 0 = some p4 ∧ ∃ p5, aextract p2 1 = some p5 ∧ Q ((((((((T.set (T.get 20) 257).set (T.get 22) 258).set p2 259).set p2 256).set p4 260).set p5 261).set p4 23).set p5 24) S2) := by kernel_rfl
theorem reg3_77 {O : Known} {T : FT} {S : MS} {Q : FT → MS → Prop} : mOps Try.prog O 308 (ro 3 77).toList (ro 3 77).toList [] T S Q =
  (∃ p1, abin Try.prog .neq 25 (.tmp 262) (.const (.int .i64 0)) (T.get 24) (.int .i64 0) = some p1 ∧ ∃ b2, p1 = .bool b2 ∧
     (b2 = true → ∃ p13, pickS p1 (.bool true) undef = some p13 ∧ Q ((((((((((((((T.set (T.get 24) 262).set p1 263).set p1 264).set undef 265).set undef 266).set undef 267).set undef 268).set undef 269).set undef 270).set undef 271).set undef 272).set undef 273).set undef 274).set p13 275) S) ∧
     (b2 = false → ∃ p6, iaSS 1 (T.get 7) (T.get 19) = some p6 ∧ ∃ p7, ldS none S p6 = some p7 ∧ ∃ p9, iaSS 1 p7 (T.get 22) = some p9 ∧ ∃ p10, ldS none S p9 = some p10 ∧ CallM Try.prog O 12 [(T.get 23), p10] S fun p11 S11 => ∃ p12, aunary .not p11 = some p12 ∧ ∃ p13, pickS p1 (.bool true) p12 = some p13 ∧ Q ((((((((((((((T.set (T.get 24) 262).set p1 263).set p1 264).set (T.get 23) 265).set (T.get 7) 266).set (T.get 19) 267).set p6 268).set p7 269).set (T.get 22) 270).set p9 271).set p10 272).set p11 273).set p12 274).set p13 275) S11)) := by kernel_rfl
theorem reg3_78 {O : Known} {T : FT} {S : MS} {Q : FT → MS → Prop} : mOps Try.prog O 308 (ro 3 78).toList (ro 3 78).toList [] T S Q =
  (Q (T.set (.bool false) 4) S) := by kernel_rfl
theorem reg3_75 {O : Known} {T : FT} {S : MS} {Q : FT → MS → Prop} : mOps Try.prog O 308 (ro 3 75).toList (ro 3 75).toList [] T S Q =
  (∃ p1, abin Try.prog .add 3 (.tmp 254) (.const (.int .i64 1)) (T.get 22) (.int .i64 1) = some p1 ∧ Q (((T.set (T.get 22) 254).set p1 255).set p1 22) S) := by kernel_rfl
theorem reg3_79 {O : Known} {T : FT} {S : MS} {Q : FT → MS → Prop} : mOps Try.prog O 308 (ro 3 79).toList (ro 3 79).toList [] T S Q =
  (∃ p1, abin Try.prog .gtr 3 (.tmp 276) (.const (.int .i64 0)) (T.get 0) (.int .i64 0) = some p1 ∧ ∃ b2, p1 = .bool b2 ∧
     (b2 = true → CallM Try.prog O 6 [(.int .u8 9), (.bool false)] S fun p4 S4 => CallM Try.prog O 7 [(T.get 20), (.int .i64 0), p4] S4 fun p5 S5 => ∃ p6, abin Try.prog .neq 25 (.tmp 281) (.const (.int .i64 0)) p5 (.int .i64 0) = some p6 ∧ ∃ p7, pickS p1 p6 (.bool false) = some p7 ∧ Q ((((((((T.set (T.get 0) 276).set p1 277).set p1 278).set (T.get 20) 279).set p4 280).set p5 281).set p6 282).set p7 283) S5) ∧
     (b2 = false → ∃ p7, pickS p1 undef (.bool false) = some p7 ∧ Q ((((((((T.set (T.get 0) 276).set p1 277).set p1 278).set undef 279).set undef 280).set undef 281).set undef 282).set p7 283) S)) := by kernel_rfl
theorem reg3_80 {O : Known} {T : FT} {S : MS} {Q : FT → MS → Prop} : mOps Try.prog O 308 (ro 3 80).toList (ro 3 80).toList [] T S Q =
  (Q (T.set (.bool false) 4) S) := by kernel_rfl
theorem reg3_66 {O : Known} {T : FT} {S : MS} {Q : FT → MS → Prop} : mOps Try.prog O 308 (ro 3 66).toList (ro 3 66).toList [] T S Q =
  (∃ p1, abin Try.prog .add 3 (.tmp 212) (.const (.int .i64 1)) (T.get 19) (.int .i64 1) = some p1 ∧ Q (((T.set (T.get 19) 212).set p1 213).set p1 19) S) := by kernel_rfl
theorem reg3_81 {O : Known} {T : FT} {S : MS} {Q : FT → MS → Prop} : mOps Try.prog O 308 (ro 3 81).toList (ro 3 81).toList [] T S Q =
  (CallM Try.prog O 10 [(T.get 5)] S fun p1 S1 => Q ((T.set (T.get 5) 284).set p1 285) S1) := by kernel_rfl
theorem reg3_82 {O : Known} {T : FT} {S : MS} {Q : FT → MS → Prop} : mOps Try.prog O 308 (ro 3 82).toList (ro 3 82).toList [] T S Q =
  (Q (T.set (.int .i64 0) 25) S) := by kernel_rfl
theorem reg3_83 {O : Known} {T : FT} {S : MS} {Q : FT → MS → Prop} : mOps Try.prog O 308 (ro 3 83).toList (ro 3 83).toList [] T S Q =
  (∃ p2, abin Try.prog .lss 3 (.tmp 286) (.tmp 287) (T.get 25) (T.get 0) = some p2 ∧ Q (((T.set (T.get 25) 286).set (T.get 0) 287).set p2 288) S) := by kernel_rfl
theorem reg3_85 {O : Known} {T : FT} {S : MS} {Q : FT → MS → Prop} : mOps Try.prog O 308 (ro 3 85).toList (ro 3 85).toList [] T S Q =
  (CallM Try.prog O 11 [(T.get 5), (T.get 25)] S fun p2 S2 => ∃ p4, aextract p2 0 = some p4 ∧ ∃ p5, aextract p2 1 = some p5 ∧ Q ((((((((T.set (T.get 5) 292).set (T.get 25) 293).set p2 294).set p2 291).set p4 295).set p5 296).set p4 26).set p5 27) S2) := by kernel_rfl
theorem reg3_86 {O : Known} {T : FT} {S : MS} {Q : FT → MS → Prop} : mOps Try.prog O 308 (ro 3 86).toList (ro 3 86).toList [] T S Q =
  (∃ p1, abin Try.prog .neq 25 (.tmp 297) (.const (.int .i64 0)) (T.get 27) (.int .i64 0) = some p1 ∧ ∃ b2, p1 = .bool b2 ∧
     (b2 = true → ∃ p10, pickS p1 (.bool true) undef = some p10 ∧ Q (((((((((((T.set (T.get 27) 297).set p1 298).set p1 299).set undef 300).set undef 301).set undef 302).set undef 303).set undef 304).set undef 305).set undef 306).set p10 307) S) ∧
     (b2 = false → ∃ p6, iaSS 1 (T.get 8) (T.get 25) = some p6 ∧ ∃ p7, ldS none S p6 = some p7 ∧ CallM Try.prog O 12 [(T.get 26), p7] S fun p8 S8 => ∃ p9, aunary .not p8 = some p9 ∧ ∃ p10, pickS p1 (.bool true) p9 = some p10 ∧ Q (((((((((((T.set (T.get 27) 297).set p1 298).set p1 299).set (T.get 26) 300).set (T.get 8) 301).set (T.get 25) 302).set p6 303).set p7 304).set p8 305).set p9 306).set p10 307) S8)) := by kernel_rfl
theorem reg3_87 {O : Known} {T : FT} {S : MS} {Q : FT → MS → Prop} : mOps Try.prog O 308 (ro 3 87).toList (ro 3 87).toList [] T S Q =
  (Q (T.set (.bool false) 4) S) := by kernel_rfl
theorem reg3_84 {O : Known} {T : FT} {S : MS} {Q : FT → MS → Prop} : mOps Try.prog O 308 (ro 3 84).toList (ro 3 84).toList [] T S Q =
  (∃ p1, abin Try.prog .add 3 (.tmp 289) (.const (.int .i64 1)) (T.get 25) (.int .i64 1) = some p1 ∧ Q (((T.set (T.get 25) 289).set p1 290).set p1 25) S) := by kernel_rfl
theorem reg3_88 {O : Known} {T : FT} {S : MS} {Q : FT → MS → Prop} : mOps Try.prog O 308 (ro 3 88).toList (ro 3 88).toList [] T S Q =
  (Q (T.set (.bool true) 4) S) := by kernel_rfl
end Go.Proofs.Ytlepbifmkleoeaa
