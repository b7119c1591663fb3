/-
  The walk through the journal's code: what its functions do to memory, part PyW. Nothing is asked.
-/
import Derived.Test.YtmfmbadfgnhonaaProg
import Derived.Test.YtmfmbadfgnhonaaAg3
import Derived.KernelRfl
set_option linter.all false
namespace Go.Proofs.Ytmfmbadfgnhonaa
open Go Go.Ag
set_option linter.unusedVariables false
set_option maxRecDepth 100000
noncomputable def ro (f id : Nat) : Array Oper := roP Try.prog f id
/-! ### 8: windlass/disk.New -/
theorem body8 : (Try.prog.funcs[8]?).bind (·.body) = some (.seq (.region 0 (ro 8 0) false) (.seq (.seq (.region 1 (ro 8 1) false) (.cond (.tmp 9) (.seq (.region 2 (ro 8 2) false) .ret) .skip)) (.seq (.region 3 (ro 8 3) true) .ret))) := by kernel_rfl
theorem res8 : (Try.prog.funcs[8]?).map (·.results.toList) = some [.tmp 2, .tmp 3] := by kernel_rfl
theorem is8 : fnIsB Try.prog 8 16 = true := by kernel_rfl
theorem reg8_0 {O : Known} {T : FT} {S : MS} {Q : FT → MS → Prop} : mOps Try.prog O 16 (ro 8 0).toList (ro 8 0).toList [] T S Q =
  (Q ((T.set (.pointer none) 2).set (.int .i64 0) 3) S) := by kernel_rfl
theorem reg8_1 {O : Known} {T : FT} {S : MS} {Q : FT → MS → Prop} : mOps Try.prog O 16 (ro 8 1).toList (ro 8 1).toList [] T S Q =
  (∃ p1, abin Try.prog .lss 3 (.tmp 4) (.const (.int .i64 1)) (T.get 0) (.int .i64 1) = some p1 ∧ ∃ b2, p1 = .bool b2 ∧
     (b2 = true → ∃ p5, pickS p1 (.bool true) undef = some p5 ∧ Q ((((((T.set (T.get 0) 4).set p1 5).set p1 6).set undef 7).set undef 8).set p5 9) S) ∧
     (b2 = false → ∃ p4, abin Try.prog .gtr 3 (.tmp 7) (.const (.int .i64 16384)) (T.get 0) (.int .i64 16384) = some p4 ∧ ∃ p5, pickS p1 (.bool true) p4 = some p5 ∧ Q ((((((T.set (T.get 0) 4).set p1 5).set p1 6).set (T.get 0) 7).set p4 8).set p5 9) S)) := by kernel_rfl
theorem reg8_3 {O : Known} {T : FT} {S : MS} {Q : FT → MS → Prop} : mDraw Try.prog O 16 (ro 8 3).toList T S Q =
  (∃ p1 S1, msS S 1 8 [.pointer none] (T.get 0) (T.get 0) = some (p1, S1) ∧ ∃ p3 S3, msS S1 1 8 [.pointer none] (T.get 0) (T.get 0) = some (p3, S3) ∧ ∃ p4, bdS (fun i => [(0, 1), (1, 1), (2, 1), (3, 1), (4, 1)][i]?) [.slice none 0 0, .slice none 0 0, .slice none 0 0, .int .i64 0, .bool false] [(0, p1), (1, p3), (3, (.int .i64 (-1)))] = some p4 ∧ Q ((((((((T.set (T.get 0) 10).set p1 11).set (T.get 0) 12).set p3 13).set p4 14).set (ptrTo S3.n) 15).set (ptrTo S3.n) 2).set (.int .i64 0) 3) (S3.fresh (Value.cells p4).toList 0)) := by kernel_rfl
/-! ### 30: (*windlass/disk.Disk).Write -/
theorem body30 : (Try.prog.funcs[30]?).bind (·.body) = some (.seq (.region 0 (ro 30 0) false) (.seq (.block 0 (.seq (.region 1 (ro 30 1) false) (.cond (.tmp 8) (.seq (.region 2 (ro 30 2) false) .ret) (.seq (.region 3 (ro 30 3) false) (.cond (.tmp 13) (.seq (.region 4 (ro 30 4) false) .ret) (.seq (.region 5 (ro 30 5) false) (.cond (.tmp 25) (.seq (.region 6 (ro 30 6) false) .ret) .skip))))))) (.seq (.region 7 (ro 30 7) false) (.seq (.region 8 (ro 30 8) false) (.seq (.region 9 (ro 30 9) true) (.seq (.region 10 (ro 30 10) true) (.seq (.seq (.region 11 (ro 30 11) false) (.cond (.tmp 60) (.seq (.region 12 (ro 30 12) false) (.region 13 (ro 30 13) false)) .skip)) (.seq (.region 14 (ro 30 14) false) .ret)))))))) := by kernel_rfl
theorem res30 : (Try.prog.funcs[30]?).map (·.results.toList) = some [.tmp 6] := by kernel_rfl
theorem is30 : fnIsB Try.prog 30 76 = true := by kernel_rfl
theorem reg30_0 {O : Known} {T : FT} {S : MS} {Q : FT → MS → Prop} : mOps Try.prog O 76 (ro 30 0).toList (ro 30 0).toList [] T S Q =
  (Q (T.set (.int .i64 0) 6) S) := by kernel_rfl
theorem reg30_1 {O : Known} {T : FT} {S : MS} {Q : FT → MS → Prop} : mOps Try.prog O 76 (ro 30 1).toList (ro 30 1).toList [] T S Q =
  (∃ p1, nilS (T.get 0) = some p1 ∧ ∃ p2, faS 4 p1 = some p2 ∧ ∃ p3, ldS none S p2 = some p3 ∧ Q (((((T.set (T.get 0) 9).set p1 10).set p2 11).set p3 12).set p3 8) S) := by kernel_rfl
theorem reg30_2 {O : Known} {T : FT} {S : MS} {Q : FT → MS → Prop} : mOps Try.prog O 76 (ro 30 2).toList (ro 30 2).toList [] T S Q =
  (Q (T.set (.int .i64 12) 6) S) := by kernel_rfl
theorem reg30_3 {O : Known} {T : FT} {S : MS} {Q : FT → MS → Prop} : mOps Try.prog O 76 (ro 30 3).toList (ro 30 3).toList [] T S Q =
  (∃ p1, abin Try.prog .lss 3 (.tmp 14) (.const (.int .i64 0)) (T.get 1) (.int .i64 0) = some p1 ∧ ∃ b2, p1 = .bool b2 ∧
     (b2 = true → ∃ p10, pickS p1 (.bool true) undef = some p10 ∧ Q ((((((((((((T.set (T.get 1) 14).set p1 15).set p1 16).set undef 17).set undef 18).set undef 19).set undef 20).set undef 21).set undef 22).set undef 23).set p10 24).set p10 13) S) ∧
     (b2 = false → ∃ p5, nilS (T.get 0) = some p5 ∧ ∃ p6, faS 1 p5 = some p6 ∧ ∃ p7, ldS none S p6 = some p7 ∧ ∃ p8, lenSl p7 = some p8 ∧ ∃ p9, abin Try.prog .geq 3 (.tmp 17) (.tmp 22) (T.get 1) p8 = some p9 ∧ ∃ p10, pickS p1 (.bool true) p9 = some p10 ∧ Q ((((((((((((T.set (T.get 1) 14).set p1 15).set p1 16).set (T.get 1) 17).set (T.get 0) 18).set p5 19).set p6 20).set p7 21).set p8 22).set p9 23).set p10 24).set p10 13) S)) := by kernel_rfl
theorem reg30_4 {O : Known} {T : FT} {S : MS} {Q : FT → MS → Prop} : mOps Try.prog O 76 (ro 30 4).toList (ro 30 4).toList [] T S Q =
  (Q (T.set (.int .i64 11) 6) S) := by kernel_rfl
theorem reg30_5 {O : Known} {T : FT} {S : MS} {Q : FT → MS → Prop} : mOps Try.prog O 76 (ro 30 5).toList (ro 30 5).toList [] T S Q =
  (∃ p1, lenSl (T.get 2) = some p1 ∧ ∃ p2, abin Try.prog .neq 3 (.tmp 27) (.const (.int .i64 256)) p1 (.int .i64 256) = some p2 ∧ Q ((((T.set (T.get 2) 26).set p1 27).set p2 28).set p2 25) S) := by kernel_rfl
theorem reg30_6 {O : Known} {T : FT} {S : MS} {Q : FT → MS → Prop} : mOps Try.prog O 76 (ro 30 6).toList (ro 30 6).toList [] T S Q =
  (Q (T.set (.int .i64 10) 6) S) := by kernel_rfl
theorem reg30_7 {O : Known} {T : FT} {S : MS} {Q : FT → MS → Prop} : mOps Try.prog O 76 (ro 30 7).toList (ro 30 7).toList [] T S Q =
  (∃ p2, bdS (fun i => [(0, 1), (1, 1)][i]?) [.int .i64 0, .pointer none] [(0, (T.get 1)), (1, (ptrTo S.n))] = some p2 ∧ ∃ S4, stS 2 ((S.fresh (List.replicate 256 (.int .u8 0)) 0).fresh [.int .i64 0, .pointer none] 0) (ptrTo (S.fresh (List.replicate 256 (.int .u8 0)) 0).n) p2 = some S4 ∧ Q ((((T.set (T.get 1) 29).set (ptrTo S.n) 30).set p2 31).set (ptrTo (S.fresh (List.replicate 256 (.int .u8 0)) 0).n) 7) S4) := by kernel_rfl
theorem reg30_8 {O : Known} {T : FT} {S : MS} {Q : FT → MS → Prop} : mOps Try.prog O 76 (ro 30 8).toList (ro 30 8).toList [] T S Q =
  (∃ p0, faS 1 (T.get 7) = some p0 ∧ ∃ p1, ldS none S p0 = some p1 ∧ ∃ p2, nilS p1 = some p2 ∧ ∃ p3, slA 256 1 p2 none none none = some p3 ∧ ∃ p5 S5, cpS 1 S [p3, (T.get 2)] = some (p5, S5) ∧ Q ((((((T.set p0 32).set p1 33).set p2 34).set p3 35).set (T.get 2) 36).set p5 37) S5) := by kernel_rfl
theorem reg30_9 {O : Known} {T : FT} {S : MS} {Q : FT → MS → Prop} : mDraw Try.prog O 76 (ro 30 9).toList T S Q =
  (∃ p1, nilS (T.get 0) = some p1 ∧ ∃ p2, faS 1 p1 = some p2 ∧ ∃ p3, ldS none S p2 = some p3 ∧ ∃ p5, faS 1 (T.get 7) = some p5 ∧ ∃ p6, ldS none S p5 = some p6 ∧ ∃ p7, iaSS 1 p3 (T.get 1) = some p7 ∧ ∃ S8, stS 1 S p7 p6 = some S8 ∧ Q ((((((((T.set (T.get 0) 38).set p1 39).set p2 40).set p3 41).set (T.get 1) 42).set p5 43).set p6 44).set p7 45) S8) := by kernel_rfl
theorem reg30_10 {O : Known} {T : FT} {S : MS} {Q : FT → MS → Prop} : mDraw Try.prog O 76 (ro 30 10).toList T S Q =
  (∃ p2, nilS (T.get 0) = some p2 ∧ ∃ p3, faS 2 p2 = some p3 ∧ ∃ p4, ldS none S p3 = some p4 ∧ ∃ p5, ldS (some 2) S (T.get 7) = some p5 ∧ ∃ p6 S6, bsS S 1 2 [.int .i64 0, .pointer none] [(0, p5)] = some (p6, S6) ∧ ∃ p7 S7, apS false 2 16 [.int .i64 0, .pointer none] S6 [p4, p6] = some (p7, S7) ∧ ∃ p8, nilS (T.get 0) = some p8 ∧ ∃ p9, faS 2 p8 = some p9 ∧ ∃ S10, stS 1 S7 p9 p7 = some S10 ∧ Q ((((((((((T.set (T.get 0) 47).set p2 48).set p3 49).set p4 50).set p5 51).set p6 52).set p7 53).set (T.get 0) 46).set p8 54).set p9 55) S10) := by kernel_rfl
theorem reg30_11 {O : Known} {T : FT} {S : MS} {Q : FT → MS → Prop} : mOps Try.prog O 76 (ro 30 11).toList (ro 30 11).toList [] T S Q =
  (∃ p1, nilS (T.get 0) = some p1 ∧ ∃ p2, faS 3 p1 = some p2 ∧ ∃ p3, ldS none S p2 = some p3 ∧ ∃ p4, abin Try.prog .gtr 3 (.tmp 59) (.const (.int .i64 0)) p3 (.int .i64 0) = some p4 ∧ Q (((((T.set (T.get 0) 56).set p1 57).set p2 58).set p3 59).set p4 60) S) := by kernel_rfl
theorem reg30_12 {O : Known} {T : FT} {S : MS} {Q : FT → MS → Prop} : mOps Try.prog O 76 (ro 30 12).toList (ro 30 12).toList [] T S Q =
  (∃ p1, nilS (T.get 0) = some p1 ∧ ∃ p2, faS 3 p1 = some p2 ∧ ∃ p3, ldS none S p2 = some p3 ∧ ∃ p4, abin Try.prog .sub 3 (.tmp 64) (.const (.int .i64 1)) p3 (.int .i64 1) = some p4 ∧ ∃ p5, nilS (T.get 0) = some p5 ∧ ∃ p6, faS 3 p5 = some p6 ∧ ∃ S7, stS 1 S p6 p4 = some S7 ∧ Q (((((((T.set (T.get 0) 61).set p1 62).set p2 63).set p3 64).set p4 65).set p5 66).set p6 67) S7) := by kernel_rfl
theorem reg30_13 {O : Known} {T : FT} {S : MS} {Q : FT → MS → Prop} : mOps Try.prog O 76 (ro 30 13).toList (ro 30 13).toList [] T S Q =
  (∃ p2, nilS (T.get 0) = some p2 ∧ ∃ p3, faS 3 p2 = some p3 ∧ ∃ p4, ldS none S p3 = some p4 ∧ ∃ p5, abin Try.prog .eql 3 (.tmp 72) (.const (.int .i64 0)) p4 (.int .i64 0) = some p5 ∧ ∃ p6, nilS (T.get 0) = some p6 ∧ ∃ p7, faS 4 p6 = some p7 ∧ ∃ S8, stS 1 S p7 p5 = some S8 ∧ Q ((((((((T.set (T.get 0) 68).set (T.get 0) 69).set p2 70).set p3 71).set p4 72).set p5 73).set p6 74).set p7 75) S8) := by kernel_rfl
theorem reg30_14 {O : Known} {T : FT} {S : MS} {Q : FT → MS → Prop} : mOps Try.prog O 76 (ro 30 14).toList (ro 30 14).toList [] T S Q =
  (Q (T.set (.int .i64 0) 6) S) := by kernel_rfl
/-! ### 19: windlass/windlasshelp.Spoil -/
theorem body19 : (Try.prog.funcs[19]?).bind (·.body) = some (.seq (.region 0 (ro 19 0) false) (.block 0 (.loop (.seq (.seq (.region 1 (ro 19 1) false) (.cond (.tmp 6) .skip (.exit 0))) (.seq (.block 1 (.region 3 (ro 19 3) false)) (.region 2 (ro 19 2) false)))))) := by kernel_rfl
theorem res19 : (Try.prog.funcs[19]?).map (·.results.toList) = some [] := by kernel_rfl
theorem is19 : fnIsB Try.prog 19 12 = true := by kernel_rfl
theorem reg19_0 {O : Known} {T : FT} {S : MS} {Q : FT → MS → Prop} : mOps Try.prog O 12 (ro 19 0).toList (ro 19 0).toList [] T S Q =
  (Q (T.set (.int .i64 0) 2) S) := by kernel_rfl
theorem reg19_1 {O : Known} {T : FT} {S : MS} {Q : FT → MS → Prop} : mOps Try.prog O 12 (ro 19 1).toList (ro 19 1).toList [] T S Q =
  (∃ p2, lenSl (T.get 0) = some p2 ∧ ∃ p3, abin Try.prog .lss 3 (.tmp 3) (.tmp 5) (T.get 2) p2 = some p3 ∧ Q ((((T.set (T.get 2) 3).set (T.get 0) 4).set p2 5).set p3 6) S) := by kernel_rfl
theorem reg19_3 {O : Known} {T : FT} {S : MS} {Q : FT → MS → Prop} : mOps Try.prog O 12 (ro 19 3).toList (ro 19 3).toList [] T S Q =
  (∃ p2, iaSS 1 (T.get 0) (T.get 2) = some p2 ∧ ∃ S3, stS 1 S p2 (.int .u8 238) = some S3 ∧ Q (((T.set (T.get 0) 9).set (T.get 2) 10).set p2 11) S3) := by kernel_rfl
theorem reg19_2 {O : Known} {T : FT} {S : MS} {Q : FT → MS → Prop} : mOps Try.prog O 12 (ro 19 2).toList (ro 19 2).toList [] T S Q =
  (∃ p1, abin Try.prog .add 3 (.tmp 7) (.const (.int .i64 1)) (T.get 2) (.int .i64 1) = some p1 ∧ Q (((T.set (T.get 2) 7).set p1 8).set p1 2) S) := by kernel_rfl
/-! ### 16: (*windlass/disk.Disk).Halt -/
theorem body16 : (Try.prog.funcs[16]?).bind (·.body) = some (.seq (.region 0 (ro 16 0) false) (.region 1 (ro 16 1) false)) := by kernel_rfl
theorem res16 : (Try.prog.funcs[16]?).map (·.results.toList) = some [] := by kernel_rfl
theorem is16 : fnIsB Try.prog 16 19 = true := by kernel_rfl
theorem reg16_0 {O : Known} {T : FT} {S : MS} {Q : FT → MS → Prop} : mOps Try.prog O 19 (ro 16 0).toList (ro 16 0).toList [] T S Q =
  (∃ p2, nilS (T.get 0) = some p2 ∧ ∃ p3, faS 3 p2 = some p3 ∧ ∃ S4, stS 1 S p3 (T.get 1) = some S4 ∧ Q ((((T.set (T.get 0) 4).set (T.get 1) 5).set p2 6).set p3 7) S4) := by kernel_rfl
theorem reg16_1 {O : Known} {T : FT} {S : MS} {Q : FT → MS → Prop} : mOps Try.prog O 19 (ro 16 1).toList (ro 16 1).toList [] T S Q =
  (∃ p2, nilS (T.get 0) = some p2 ∧ ∃ p3, faS 4 p2 = some p3 ∧ ∃ p4, ldS none S p3 = some p4 ∧ ∃ b5, p4 = .bool b5 ∧
        (b5 = true → ∃ p8, pickS p4 (.bool true) undef = some p8 ∧ ∃ p9, nilS (T.get 0) = some p9 ∧ ∃ p10, faS 4 p9 = some p10 ∧ ∃ S11, stS 1 S p10 p8 = some S11 ∧ Q (((((((((((T.set (T.get 0) 8).set (T.get 0) 9).set p2 10).set p3 11).set p4 12).set p4 13).set undef 14).set undef 15).set p8 16).set p9 17).set p10 18) S11) ∧
        (b5 = false → ∃ p7, abin Try.prog .eql 3 (.tmp 14) (.const (.int .i64 0)) (T.get 1) (.int .i64 0) = some p7 ∧ ∃ p8, pickS p4 (.bool true) p7 = some p8 ∧ ∃ p9, nilS (T.get 0) = some p9 ∧ ∃ p10, faS 4 p9 = some p10 ∧ ∃ S11, stS 1 S p10 p8 = some S11 ∧ Q (((((((((((T.set (T.get 0) 8).set (T.get 0) 9).set p2 10).set p3 11).set p4 12).set p4 13).set (T.get 1) 14).set p7 15).set p8 16).set p9 17).set p10 18) S11)) := by kernel_rfl
/-! ### 18: (*windlass/disk.Disk).Restart -/
theorem body18 : (Try.prog.funcs[18]?).bind (·.body) = some (.region 0 (ro 18 0) false) := by kernel_rfl
theorem res18 : (Try.prog.funcs[18]?).map (·.results.toList) = some [] := by kernel_rfl
theorem is18 : fnIsB Try.prog 18 8 = true := by kernel_rfl
theorem reg18_0 {O : Known} {T : FT} {S : MS} {Q : FT → MS → Prop} : mOps Try.prog O 8 (ro 18 0).toList (ro 18 0).toList [] T S Q =
  (∃ p2, nilS (T.get 0) = some p2 ∧ ∃ p3, faS 3 p2 = some p3 ∧ ∃ S4, stS 1 S p3 (.int .i64 (-1)) = some S4 ∧ ∃ p5, nilS (T.get 0) = some p5 ∧ ∃ p6, faS 4 p5 = some p6 ∧ ∃ S7, stS 1 S4 p6 (.bool false) = some S7 ∧ Q ((((((T.set (T.get 0) 2).set (T.get 0) 3).set p2 4).set p3 5).set p5 6).set p6 7) S7) := by kernel_rfl
/-! ### 35: (*windlass/disk.Disk).Read -/
theorem body35 : (Try.prog.funcs[35]?).bind (·.body) = some (.seq (.region 0 (ro 35 0) false) (.seq (.block 0 (.seq (.region 1 (ro 35 1) false) (.cond (.tmp 8) (.seq (.region 2 (ro 35 2) false) .ret) (.seq (.region 3 (ro 35 3) false) (.cond (.tmp 13) (.seq (.region 4 (ro 35 4) false) .ret) .skip))))) (.seq (.region 5 (ro 35 5) false) (.seq (.seq (.region 6 (ro 35 6) false) (.seq (.region 7 (ro 35 7) false) (.cond (.tmp 34) (.region 8 (ro 35 8) false) .skip))) (.seq (.region 9 (ro 35 9) false) .ret))))) := by kernel_rfl
theorem res35 : (Try.prog.funcs[35]?).map (·.results.toList) = some [.tmp 4, .tmp 5] := by kernel_rfl
theorem is35 : fnIsB Try.prog 35 41 = true := by kernel_rfl
theorem reg35_0 {O : Known} {T : FT} {S : MS} {Q : FT → MS → Prop} : mOps Try.prog O 41 (ro 35 0).toList (ro 35 0).toList [] T S Q =
  (Q ((T.set (.slice none 0 0) 4).set (.int .i64 0) 5) S) := by kernel_rfl
theorem reg35_1 {O : Known} {T : FT} {S : MS} {Q : FT → MS → Prop} : mOps Try.prog O 41 (ro 35 1).toList (ro 35 1).toList [] T S Q =
  (∃ p1, nilS (T.get 0) = some p1 ∧ ∃ p2, faS 4 p1 = some p2 ∧ ∃ p3, ldS none S p2 = some p3 ∧ Q (((((T.set (T.get 0) 9).set p1 10).set p2 11).set p3 12).set p3 8) S) := by kernel_rfl
theorem reg35_2 {O : Known} {T : FT} {S : MS} {Q : FT → MS → Prop} : mOps Try.prog O 41 (ro 35 2).toList (ro 35 2).toList [] T S Q =
  (Q ((T.set (.slice none 0 0) 4).set (.int .i64 12) 5) S) := by kernel_rfl
theorem reg35_3 {O : Known} {T : FT} {S : MS} {Q : FT → MS → Prop} : mOps Try.prog O 41 (ro 35 3).toList (ro 35 3).toList [] T S Q =
  (∃ p1, abin Try.prog .lss 3 (.tmp 14) (.const (.int .i64 0)) (T.get 1) (.int .i64 0) = some p1 ∧ ∃ b2, p1 = .bool b2 ∧
     (b2 = true → ∃ p10, pickS p1 (.bool true) undef = some p10 ∧ Q ((((((((((((T.set (T.get 1) 14).set p1 15).set p1 16).set undef 17).set undef 18).set undef 19).set undef 20).set undef 21).set undef 22).set undef 23).set p10 24).set p10 13) S) ∧
     (b2 = false → ∃ p5, nilS (T.get 0) = some p5 ∧ ∃ p6, faS 1 p5 = some p6 ∧ ∃ p7, ldS none S p6 = some p7 ∧ ∃ p8, lenSl p7 = some p8 ∧ ∃ p9, abin Try.prog .geq 3 (.tmp 17) (.tmp 22) (T.get 1) p8 = some p9 ∧ ∃ p10, pickS p1 (.bool true) p9 = some p10 ∧ Q ((((((((((((T.set (T.get 1) 14).set p1 15).set p1 16).set (T.get 1) 17).set (T.get 0) 18).set p5 19).set p6 20).set p7 21).set p8 22).set p9 23).set p10 24).set p10 13) S)) := by kernel_rfl
theorem reg35_4 {O : Known} {T : FT} {S : MS} {Q : FT → MS → Prop} : mOps Try.prog O 41 (ro 35 4).toList (ro 35 4).toList [] T S Q =
  (Q ((T.set (.slice none 0 0) 4).set (.int .i64 11) 5) S) := by kernel_rfl
theorem reg35_5 {O : Known} {T : FT} {S : MS} {Q : FT → MS → Prop} : mOps Try.prog O 41 (ro 35 5).toList (ro 35 5).toList [] T S Q =
  (∃ p0 S0, msS S 1 1 [.int .u8 0] (.int .i64 256) (.int .i64 256) = some (p0, S0) ∧ Q ((T.set p0 25).set p0 6) S0) := by kernel_rfl
theorem reg35_6 {O : Known} {T : FT} {S : MS} {Q : FT → MS → Prop} : mOps Try.prog O 41 (ro 35 6).toList (ro 35 6).toList [] T S Q =
  (∃ p1, nilS (T.get 0) = some p1 ∧ ∃ p2, faS 1 p1 = some p2 ∧ ∃ p3, ldS none S p2 = some p3 ∧ ∃ p5, iaSS 1 p3 (T.get 1) = some p5 ∧ ∃ p6, ldS none S p5 = some p6 ∧ Q ((((((((T.set (T.get 0) 26).set p1 27).set p2 28).set p3 29).set (T.get 1) 30).set p5 31).set p6 32).set p6 7) S) := by kernel_rfl
theorem reg35_7 {O : Known} {T : FT} {S : MS} {Q : FT → MS → Prop} : mOps Try.prog O 41 (ro 35 7).toList (ro 35 7).toList [] T S Q =
  (∃ p1, abin Try.prog .neq 74 (.tmp 33) (.const (.pointer none)) (T.get 7) (.pointer none) = some p1 ∧ Q ((T.set (T.get 7) 33).set p1 34) S) := by kernel_rfl
theorem reg35_8 {O : Known} {T : FT} {S : MS} {Q : FT → MS → Prop} : mOps Try.prog O 41 (ro 35 8).toList (ro 35 8).toList [] T S Q =
  (∃ p2, nilS (T.get 7) = some p2 ∧ ∃ p3, slA 256 1 p2 none none none = some p3 ∧ ∃ p4 S4, cpS 1 S [(T.get 6), p3] = some (p4, S4) ∧ Q (((((T.set (T.get 6) 35).set (T.get 7) 36).set p2 37).set p3 38).set p4 39) S4) := by kernel_rfl
theorem reg35_9 {O : Known} {T : FT} {S : MS} {Q : FT → MS → Prop} : mOps Try.prog O 41 (ro 35 9).toList (ro 35 9).toList [] T S Q =
  (Q (((T.set (T.get 6) 40).set (T.get 6) 4).set (.int .i64 0) 5) S) := by kernel_rfl
/-! ### 24: windlass/windlasshelp.Bytes -/
theorem body24 : (Try.prog.funcs[24]?).bind (·.body) = some (.seq (.region 0 (ro 24 0) false) (.seq (.region 1 (ro 24 1) false) .ret)) := by kernel_rfl
theorem res24 : (Try.prog.funcs[24]?).map (·.results.toList) = some [.tmp 4] := by kernel_rfl
theorem is24 : fnIsB Try.prog 24 10 = true := by kernel_rfl
theorem reg24_0 {O : Known} {T : FT} {S : MS} {Q : FT → MS → Prop} : mOps Try.prog O 10 (ro 24 0).toList (ro 24 0).toList [] T S Q =
  (Q (T.set (.bool false) 4) S) := by kernel_rfl
theorem reg24_1 {O : Known} {T : FT} {S : MS} {Q : FT → MS → Prop} : mOps Try.prog O 10 (ro 24 1).toList (ro 24 1).toList [] T S Q =
  (∃ p1, strS S (T.get 0) = some p1 ∧ ∃ p3, strS S (T.get 1) = some p3 ∧ ∃ p4, abin Try.prog .eql 9 (.tmp 6) (.tmp 8) p1 p3 = some p4 ∧ Q ((((((T.set (T.get 0) 5).set p1 6).set (T.get 1) 7).set p3 8).set p4 9).set p4 4) S) := by kernel_rfl
/-! ### 22: (*windlass/disk.Disk).Writes -/
/-! ### 28: (*windlass/disk.Disk).Blocks -/
theorem body28 : (Try.prog.funcs[28]?).bind (·.body) = some (.seq (.region 0 (ro 28 0) false) (.seq (.region 1 (ro 28 1) false) .ret)) := by kernel_rfl
theorem res28 : (Try.prog.funcs[28]?).map (·.results.toList) = some [.tmp 2] := by kernel_rfl
theorem is28 : fnIsB Try.prog 28 8 = true := by kernel_rfl
theorem reg28_0 {O : Known} {T : FT} {S : MS} {Q : FT → MS → Prop} : mOps Try.prog O 8 (ro 28 0).toList (ro 28 0).toList [] T S Q =
  (Q (T.set (.int .i64 0) 2) S) := by kernel_rfl
theorem reg28_1 {O : Known} {T : FT} {S : MS} {Q : FT → MS → Prop} : mOps Try.prog O 8 (ro 28 1).toList (ro 28 1).toList [] T S Q =
  (∃ p1, nilS (T.get 0) = some p1 ∧ ∃ p2, faS 1 p1 = some p2 ∧ ∃ p3, ldS none S p2 = some p3 ∧ ∃ p4, lenSl p3 = some p4 ∧ Q ((((((T.set (T.get 0) 3).set p1 4).set p2 5).set p3 6).set p4 7).set p4 2) S) := by kernel_rfl
/-! ### 23: (*windlass/disk.Disk).At -/
/-! ### 42: (*windlass/disk.Disk).told -/
/-! ### 46: (*windlass/disk.Disk).told$1 -/
/-! ### 9: windlass/journal.Format -/
theorem body9 : (Try.prog.funcs[9]?).bind (·.body) = some (.seq (.region 0 (ro 9 0) false) (.seq (.block 0 (.seq (.region 1 (ro 9 1) false) (.cond (.tmp 8) (.seq (.region 2 (ro 9 2) false) .ret) (.seq (.region 3 (ro 9 3) false) (.cond (.tmp 12) (.seq (.region 4 (ro 9 4) false) .ret) .skip))))) (.seq (.seq (.region 5 (ro 9 5) false) (.seq (.region 6 (ro 9 6) false) (.cond (.tmp 22) (.seq (.region 7 (ro 9 7) false) .ret) .skip))) (.seq (.region 8 (ro 9 8) false) (.seq (.seq (.region 9 (ro 9 9) false) (.seq (.region 10 (ro 9 10) false) (.cond (.tmp 32) (.seq (.region 11 (ro 9 11) false) .ret) .skip))) (.seq (.region 12 (ro 9 12) false) .ret)))))) := by kernel_rfl
theorem res9 : (Try.prog.funcs[9]?).map (·.results.toList) = some [.tmp 4] := by kernel_rfl
theorem is9 : fnIsB Try.prog 9 39 = true := by kernel_rfl
theorem reg9_0 {O : Known} {T : FT} {S : MS} {Q : FT → MS → Prop} : mOps Try.prog O 39 (ro 9 0).toList (ro 9 0).toList [] T S Q =
  (Q (T.set (.int .i64 0) 4) S) := by kernel_rfl
theorem reg9_1 {O : Known} {T : FT} {S : MS} {Q : FT → MS → Prop} : mOps Try.prog O 39 (ro 9 1).toList (ro 9 1).toList [] T S Q =
  (CallM Try.prog O 28 [(T.get 0)] S fun p1 S1 => ∃ p2, abin Try.prog .lss 3 (.tmp 10) (.const (.int .i64 64)) p1 (.int .i64 64) = some p2 ∧ Q ((((T.set (T.get 0) 9).set p1 10).set p2 11).set p2 8) S1) := by kernel_rfl
theorem reg9_3 {O : Known} {T : FT} {S : MS} {Q : FT → MS → Prop} : mOps Try.prog O 39 (ro 9 3).toList (ro 9 3).toList [] T S Q =
  (CallM Try.prog O 21 [(T.get 1)] S fun p1 S1 => CallM Try.prog O 29 [(T.get 0)] S1 fun p3 S3 => ∃ p4, abin Try.prog .gtr 3 (.tmp 14) (.tmp 16) p1 p3 = some p4 ∧ Q ((((((T.set (T.get 1) 13).set p1 14).set (T.get 0) 15).set p3 16).set p4 17).set p4 12) S3) := by kernel_rfl
theorem reg9_5 {O : Known} {T : FT} {S : MS} {Q : FT → MS → Prop} : mOps Try.prog O 39 (ro 9 5).toList (ro 9 5).toList [] T S Q =
  (∃ p1 S1, msS S 1 1 [.int .u8 0] (.int .i64 256) (.int .i64 256) = some (p1, S1) ∧ CallM Try.prog O 30 [(T.get 0), (.int .i64 0), p1] S1 fun p2 S2 => Q ((((T.set (T.get 0) 18).set p1 19).set p2 20).set p2 5) S2) := by kernel_rfl
theorem reg9_6 {O : Known} {T : FT} {S : MS} {Q : FT → MS → Prop} : mOps Try.prog O 39 (ro 9 6).toList (ro 9 6).toList [] T S Q =
  (∃ p1, abin Try.prog .neq 24 (.tmp 21) (.const (.int .i64 0)) (T.get 5) (.int .i64 0) = some p1 ∧ Q ((T.set (T.get 5) 21).set p1 22) S) := by kernel_rfl
theorem reg9_7 {O : Known} {T : FT} {S : MS} {Q : FT → MS → Prop} : mOps Try.prog O 39 (ro 9 7).toList (ro 9 7).toList [] T S Q =
  (Q ((T.set (T.get 5) 23).set (T.get 5) 4) S) := by kernel_rfl
theorem reg9_8 {O : Known} {T : FT} {S : MS} {Q : FT → MS → Prop} : mOps Try.prog O 39 (ro 9 8).toList (ro 9 8).toList [] T S Q =
  (CallM Try.prog O 31 [(T.get 1)] S fun p1 S1 => Q (((T.set (T.get 1) 24).set p1 25).set p1 6) S1) := by kernel_rfl
theorem reg9_9 {O : Known} {T : FT} {S : MS} {Q : FT → MS → Prop} : mOps Try.prog O 39 (ro 9 9).toList (ro 9 9).toList [] T S Q =
  (CallM Try.prog O 33 [(T.get 0), (.int .i64 0)] S fun p2 S2 => CallM Try.prog O 32 [(T.get 0), p2, (T.get 6)] S2 fun p4 S4 => Q ((((((T.set (T.get 0) 26).set (T.get 0) 27).set p2 28).set (T.get 6) 29).set p4 30).set p4 7) S4) := by kernel_rfl
theorem reg9_10 {O : Known} {T : FT} {S : MS} {Q : FT → MS → Prop} : mOps Try.prog O 39 (ro 9 10).toList (ro 9 10).toList [] T S Q =
  (∃ p1, abin Try.prog .neq 24 (.tmp 31) (.const (.int .i64 0)) (T.get 7) (.int .i64 0) = some p1 ∧ Q ((T.set (T.get 7) 31).set p1 32) S) := by kernel_rfl
theorem reg9_11 {O : Known} {T : FT} {S : MS} {Q : FT → MS → Prop} : mOps Try.prog O 39 (ro 9 11).toList (ro 9 11).toList [] T S Q =
  (Q ((T.set (T.get 7) 33).set (T.get 7) 4) S) := by kernel_rfl
theorem reg9_12 {O : Known} {T : FT} {S : MS} {Q : FT → MS → Prop} : mOps Try.prog O 39 (ro 9 12).toList (ro 9 12).toList [] T S Q =
  (∃ p2, lenSl (T.get 6) = some p2 ∧ CallM Try.prog O 34 [(.int .i64 0), p2] S fun p3 S3 => CallM Try.prog O 30 [(T.get 0), (.int .i64 0), p3] S3 fun p4 S4 => Q ((((((T.set (T.get 0) 34).set (T.get 6) 35).set p2 36).set p3 37).set p4 38).set p4 4) S4) := by kernel_rfl
/-! ### 10: windlass/journal.Open -/
noncomputable def blk10_1 : Code := .block 1 (.seq (.seq (.region 14 (ro 10 14) false) (.cond (.tmp 81) (.seq (.region 15 (ro 10 15) false) (.exit 1)) .skip)) (.region 16 (ro 10 16) true))
noncomputable def blk10_0 : Code := .block 0 (.rangeFunc (.tmp 79) #[80] (.region 13 (ro 10 13) false) blk10_1)
theorem body10 : (Try.prog.funcs[10]?).bind (·.body) = some (.seq (.region 0 (ro 10 0) false) (.scope (.seq (.region 1 (ro 10 1) false) (.seq (.seq (.region 2 (ro 10 2) false) (.cond (.tmp 18) (.seq (.region 3 (ro 10 3) false) .ret) .skip)) (.seq (.region 4 (ro 10 4) true) (.seq (.seq (.region 5 (ro 10 5) false) (.cond (.tmp 57) (.seq (.region 6 (ro 10 6) false) .ret) .skip)) (.seq (.region 7 (ro 10 7) false) (.seq (.seq (.region 8 (ro 10 8) false) (.cond (.tmp 66) (.seq (.region 9 (ro 10 9) false) .ret) .skip)) (.seq (.region 10 (ro 10 10) false) (.seq (.region 11 (ro 10 11) false) (.seq (.label 0) (.seq (.seq (.region 12 (ro 10 12) false) blk10_0) (.seq (.region 17 (ro 10 17) false) .ret))))))))))))) := by kernel_rfl
theorem res10 : (Try.prog.funcs[10]?).map (·.results.toList) = some [.tmp 2, .tmp 3] := by kernel_rfl
theorem is10 : fnIsB Try.prog 10 97 = true := by kernel_rfl
theorem reg10_0 {O : Known} {T : FT} {S : MS} {Q : FT → MS → Prop} : mOps Try.prog O 97 (ro 10 0).toList (ro 10 0).toList [] T S Q =
  (Q ((T.set (.pointer none) 2).set (.int .i64 0) 3) S) := by kernel_rfl
theorem reg10_1 {O : Known} {T : FT} {S : MS} {Q : FT → MS → Prop} : mOps Try.prog O 97 (ro 10 1).toList (ro 10 1).toList [] T S Q =
  (CallM Try.prog O 35 [(T.get 0), (.int .i64 0)] S fun p1 S1 => ∃ p3, aextract p1 0 = some p3 ∧ ∃ p4, aextract p1 1 = some p4 ∧ Q (((((((T.set (T.get 0) 13).set p1 14).set p1 12).set p3 15).set p4 16).set p3 4).set p4 5) S1) := by kernel_rfl
theorem reg10_2 {O : Known} {T : FT} {S : MS} {Q : FT → MS → Prop} : mOps Try.prog O 97 (ro 10 2).toList (ro 10 2).toList [] T S Q =
  (∃ p1, abin Try.prog .neq 24 (.tmp 17) (.const (.int .i64 0)) (T.get 5) (.int .i64 0) = some p1 ∧ Q ((T.set (T.get 5) 17).set p1 18) S) := by kernel_rfl
theorem reg10_4 {O : Known} {T : FT} {S : MS} {Q : FT → MS → Prop} : mDraw Try.prog O 97 (ro 10 4).toList T S Q =
  (∃ p1, slS 1 S (T.get 4) (some (.int .i64 8)) none none = some p1 ∧ CallM Try.prog O 36 [p1] S fun p2 S2 => ∃ p4, ((slS 1 S2 (T.get 4) (some (.int .i64 16)) none none).bind fun v => (slS 1 S (T.get 4) (some (.int .i64 16)) none none).bind fun w => if veq v w then some v else none) = some p4 ∧ CallM Try.prog O 36 [p4] S2 fun p5 S5 => Q ((((((((T.set (T.get 4) 20).set p1 21).set p2 22).set (T.get 4) 23).set p4 24).set p5 25).set p2 6).set p5 7) S5) := by kernel_rfl
theorem reg10_5 {O : Known} {T : FT} {S : MS} {Q : FT → MS → Prop} : mOps Try.prog O 97 (ro 10 5).toList (ro 10 5).toList [] T S Q =
  (CallM Try.prog O 28 [(T.get 0)] S fun p1 S1 => ∃ p2, abin Try.prog .lss 3 (.tmp 27) (.const (.int .i64 64)) p1 (.int .i64 64) = some p2 ∧ ∃ b3, p2 = .bool b3 ∧
      (b3 = true → ∃ p6, pickS p2 (.bool true) undef = some p6 ∧ ∃ b7, p6 = .bool b7 ∧
          (b7 = true → ∃ p10, pickS p6 (.bool true) undef = some p10 ∧ ∃ b11, p10 = .bool b11 ∧
              (b11 = true → ∃ p14, pickS p10 (.bool true) undef = some p14 ∧ ∃ b15, p14 = .bool b15 ∧
                  (b15 = true → ∃ p23, pickS p14 (.bool true) undef = some p23 ∧ ∃ b24, p23 = .bool b24 ∧
                           (b24 = true → ∃ p31, pickS p23 (.bool true) undef = some p31 ∧ Q ((((((((((((((((((((((((((((((((T.set (T.get 0) 26).set p1 27).set p2 28).set p2 29).set undef 30).set undef 31).set p6 32).set p6 33).set undef 34).set undef 35).set p10 36).set p10 37).set undef 38).set undef 39).set p14 40).set p14 41).set undef 42).set undef 43).set undef 44).set undef 45).set undef 46).set undef 47).set undef 48).set p23 49).set p23 50).set undef 51).set undef 52).set undef 53).set undef 54).set undef 55).set undef 56).set p31 57) S1) ∧
                           (b24 = false → CallM Try.prog O 34 [(T.get 6), (T.get 7)] S1 fun p28 S28 => CallM Try.prog O 37 [(T.get 4), p28] S28 fun p29 S29 => ∃ p30, aunary .not p29 = some p30 ∧ ∃ p31, pickS p23 (.bool true) p30 = some p31 ∧ Q ((((((((((((((((((((((((((((((((T.set (T.get 0) 26).set p1 27).set p2 28).set p2 29).set undef 30).set undef 31).set p6 32).set p6 33).set undef 34).set undef 35).set p10 36).set p10 37).set undef 38).set undef 39).set p14 40).set p14 41).set undef 42).set undef 43).set undef 44).set undef 45).set undef 46).set undef 47).set undef 48).set p23 49).set p23 50).set (T.get 4) 51).set (T.get 6) 52).set (T.get 7) 53).set p28 54).set p29 55).set p30 56).set p31 57) S29)) ∧
                  (b15 = false → CallM Try.prog O 28 [(T.get 0)] S1 fun p18 S18 => ∃ p19, abin Try.prog .sub 3 (.tmp 44) (.const (.int .i64 1)) p18 (.int .i64 1) = some p19 ∧ ∃ p20, abin Try.prog .quo 3 (.tmp 45) (.const (.int .i64 2)) p19 (.int .i64 2) = some p20 ∧ ∃ p21, abin Try.prog .mul 3 (.tmp 46) (.const (.int .i64 256)) p20 (.int .i64 256) = some p21 ∧ ∃ p22, abin Try.prog .gtr 3 (.tmp 42) (.tmp 47) (T.get 7) p21 = some p22 ∧ ∃ p23, pickS p14 (.bool true) p22 = some p23 ∧ ∃ b24, p23 = .bool b24 ∧
                           (b24 = true → ∃ p31, pickS p23 (.bool true) undef = some p31 ∧ Q ((((((((((((((((((((((((((((((((T.set (T.get 0) 26).set p1 27).set p2 28).set p2 29).set undef 30).set undef 31).set p6 32).set p6 33).set undef 34).set undef 35).set p10 36).set p10 37).set undef 38).set undef 39).set p14 40).set p14 41).set (T.get 7) 42).set (T.get 0) 43).set p18 44).set p19 45).set p20 46).set p21 47).set p22 48).set p23 49).set p23 50).set undef 51).set undef 52).set undef 53).set undef 54).set undef 55).set undef 56).set p31 57) S18) ∧
                           (b24 = false → CallM Try.prog O 34 [(T.get 6), (T.get 7)] S18 fun p28 S28 => CallM Try.prog O 37 [(T.get 4), p28] S28 fun p29 S29 => ∃ p30, aunary .not p29 = some p30 ∧ ∃ p31, pickS p23 (.bool true) p30 = some p31 ∧ Q ((((((((((((((((((((((((((((((((T.set (T.get 0) 26).set p1 27).set p2 28).set p2 29).set undef 30).set undef 31).set p6 32).set p6 33).set undef 34).set undef 35).set p10 36).set p10 37).set undef 38).set undef 39).set p14 40).set p14 41).set (T.get 7) 42).set (T.get 0) 43).set p18 44).set p19 45).set p20 46).set p21 47).set p22 48).set p23 49).set p23 50).set (T.get 4) 51).set (T.get 6) 52).set (T.get 7) 53).set p28 54).set p29 55).set p30 56).set p31 57) S29))) ∧
              (b11 = false → ∃ p13, abin Try.prog .lss 3 (.tmp 38) (.const (.int .i64 8)) (T.get 7) (.int .i64 8) = some p13 ∧ ∃ p14, pickS p10 (.bool true) p13 = some p14 ∧ ∃ b15, p14 = .bool b15 ∧
                  (b15 = true → ∃ p23, pickS p14 (.bool true) undef = some p23 ∧ ∃ b24, p23 = .bool b24 ∧
                           (b24 = true → ∃ p31, pickS p23 (.bool true) undef = some p31 ∧ Q ((((((((((((((((((((((((((((((((T.set (T.get 0) 26).set p1 27).set p2 28).set p2 29).set undef 30).set undef 31).set p6 32).set p6 33).set undef 34).set undef 35).set p10 36).set p10 37).set (T.get 7) 38).set p13 39).set p14 40).set p14 41).set undef 42).set undef 43).set undef 44).set undef 45).set undef 46).set undef 47).set undef 48).set p23 49).set p23 50).set undef 51).set undef 52).set undef 53).set undef 54).set undef 55).set undef 56).set p31 57) S1) ∧
                           (b24 = false → CallM Try.prog O 34 [(T.get 6), (T.get 7)] S1 fun p28 S28 => CallM Try.prog O 37 [(T.get 4), p28] S28 fun p29 S29 => ∃ p30, aunary .not p29 = some p30 ∧ ∃ p31, pickS p23 (.bool true) p30 = some p31 ∧ Q ((((((((((((((((((((((((((((((((T.set (T.get 0) 26).set p1 27).set p2 28).set p2 29).set undef 30).set undef 31).set p6 32).set p6 33).set undef 34).set undef 35).set p10 36).set p10 37).set (T.get 7) 38).set p13 39).set p14 40).set p14 41).set undef 42).set undef 43).set undef 44).set undef 45).set undef 46).set undef 47).set undef 48).set p23 49).set p23 50).set (T.get 4) 51).set (T.get 6) 52).set (T.get 7) 53).set p28 54).set p29 55).set p30 56).set p31 57) S29)) ∧
                  (b15 = false → CallM Try.prog O 28 [(T.get 0)] S1 fun p18 S18 => ∃ p19, abin Try.prog .sub 3 (.tmp 44) (.const (.int .i64 1)) p18 (.int .i64 1) = some p19 ∧ ∃ p20, abin Try.prog .quo 3 (.tmp 45) (.const (.int .i64 2)) p19 (.int .i64 2) = some p20 ∧ ∃ p21, abin Try.prog .mul 3 (.tmp 46) (.const (.int .i64 256)) p20 (.int .i64 256) = some p21 ∧ ∃ p22, abin Try.prog .gtr 3 (.tmp 42) (.tmp 47) (T.get 7) p21 = some p22 ∧ ∃ p23, pickS p14 (.bool true) p22 = some p23 ∧ ∃ b24, p23 = .bool b24 ∧
                           (b24 = true → ∃ p31, pickS p23 (.bool true) undef = some p31 ∧ Q ((((((((((((((((((((((((((((((((T.set (T.get 0) 26).set p1 27).set p2 28).set p2 29).set undef 30).set undef 31).set p6 32).set p6 33).set undef 34).set undef 35).set p10 36).set p10 37).set (T.get 7) 38).set p13 39).set p14 40).set p14 41).set (T.get 7) 42).set (T.get 0) 43).set p18 44).set p19 45).set p20 46).set p21 47).set p22 48).set p23 49).set p23 50).set undef 51).set undef 52).set undef 53).set undef 54).set undef 55).set undef 56).set p31 57) S18) ∧
                           (b24 = false → CallM Try.prog O 34 [(T.get 6), (T.get 7)] S18 fun p28 S28 => CallM Try.prog O 37 [(T.get 4), p28] S28 fun p29 S29 => ∃ p30, aunary .not p29 = some p30 ∧ ∃ p31, pickS p23 (.bool true) p30 = some p31 ∧ Q ((((((((((((((((((((((((((((((((T.set (T.get 0) 26).set p1 27).set p2 28).set p2 29).set undef 30).set undef 31).set p6 32).set p6 33).set undef 34).set undef 35).set p10 36).set p10 37).set (T.get 7) 38).set p13 39).set p14 40).set p14 41).set (T.get 7) 42).set (T.get 0) 43).set p18 44).set p19 45).set p20 46).set p21 47).set p22 48).set p23 49).set p23 50).set (T.get 4) 51).set (T.get 6) 52).set (T.get 7) 53).set p28 54).set p29 55).set p30 56).set p31 57) S29)))) ∧
          (b7 = false → ∃ p9, abin Try.prog .gtr 3 (.tmp 34) (.const (.int .i64 1)) (T.get 6) (.int .i64 1) = some p9 ∧ ∃ p10, pickS p6 (.bool true) p9 = some p10 ∧ ∃ b11, p10 = .bool b11 ∧
              (b11 = true → ∃ p14, pickS p10 (.bool true) undef = some p14 ∧ ∃ b15, p14 = .bool b15 ∧
                  (b15 = true → ∃ p23, pickS p14 (.bool true) undef = some p23 ∧ ∃ b24, p23 = .bool b24 ∧
                           (b24 = true → ∃ p31, pickS p23 (.bool true) undef = some p31 ∧ Q ((((((((((((((((((((((((((((((((T.set (T.get 0) 26).set p1 27).set p2 28).set p2 29).set undef 30).set undef 31).set p6 32).set p6 33).set (T.get 6) 34).set p9 35).set p10 36).set p10 37).set undef 38).set undef 39).set p14 40).set p14 41).set undef 42).set undef 43).set undef 44).set undef 45).set undef 46).set undef 47).set undef 48).set p23 49).set p23 50).set undef 51).set undef 52).set undef 53).set undef 54).set undef 55).set undef 56).set p31 57) S1) ∧
                           (b24 = false → CallM Try.prog O 34 [(T.get 6), (T.get 7)] S1 fun p28 S28 => CallM Try.prog O 37 [(T.get 4), p28] S28 fun p29 S29 => ∃ p30, aunary .not p29 = some p30 ∧ ∃ p31, pickS p23 (.bool true) p30 = some p31 ∧ Q ((((((((((((((((((((((((((((((((T.set (T.get 0) 26).set p1 27).set p2 28).set p2 29).set undef 30).set undef 31).set p6 32).set p6 33).set (T.get 6) 34).set p9 35).set p10 36).set p10 37).set undef 38).set undef 39).set p14 40).set p14 41).set undef 42).set undef 43).set undef 44).set undef 45).set undef 46).set undef 47).set undef 48).set p23 49).set p23 50).set (T.get 4) 51).set (T.get 6) 52).set (T.get 7) 53).set p28 54).set p29 55).set p30 56).set p31 57) S29)) ∧
                  (b15 = false → CallM Try.prog O 28 [(T.get 0)] S1 fun p18 S18 => ∃ p19, abin Try.prog .sub 3 (.tmp 44) (.const (.int .i64 1)) p18 (.int .i64 1) = some p19 ∧ ∃ p20, abin Try.prog .quo 3 (.tmp 45) (.const (.int .i64 2)) p19 (.int .i64 2) = some p20 ∧ ∃ p21, abin Try.prog .mul 3 (.tmp 46) (.const (.int .i64 256)) p20 (.int .i64 256) = some p21 ∧ ∃ p22, abin Try.prog .gtr 3 (.tmp 42) (.tmp 47) (T.get 7) p21 = some p22 ∧ ∃ p23, pickS p14 (.bool true) p22 = some p23 ∧ ∃ b24, p23 = .bool b24 ∧
                           (b24 = true → ∃ p31, pickS p23 (.bool true) undef = some p31 ∧ Q ((((((((((((((((((((((((((((((((T.set (T.get 0) 26).set p1 27).set p2 28).set p2 29).set undef 30).set undef 31).set p6 32).set p6 33).set (T.get 6) 34).set p9 35).set p10 36).set p10 37).set undef 38).set undef 39).set p14 40).set p14 41).set (T.get 7) 42).set (T.get 0) 43).set p18 44).set p19 45).set p20 46).set p21 47).set p22 48).set p23 49).set p23 50).set undef 51).set undef 52).set undef 53).set undef 54).set undef 55).set undef 56).set p31 57) S18) ∧
                           (b24 = false → CallM Try.prog O 34 [(T.get 6), (T.get 7)] S18 fun p28 S28 => CallM Try.prog O 37 [(T.get 4), p28] S28 fun p29 S29 => ∃ p30, aunary .not p29 = some p30 ∧ ∃ p31, pickS p23 (.bool true) p30 = some p31 ∧ Q ((((((((((((((((((((((((((((((((T.set (T.get 0) 26).set p1 27).set p2 28).set p2 29).set undef 30).set undef 31).set p6 32).set p6 33).set (T.get 6) 34).set p9 35).set p10 36).set p10 37).set undef 38).set undef 39).set p14 40).set p14 41).set (T.get 7) 42).set (T.get 0) 43).set p18 44).set p19 45).set p20 46).set p21 47).set p22 48).set p23 49).set p23 50).set (T.get 4) 51).set (T.get 6) 52).set (T.get 7) 53).set p28 54).set p29 55).set p30 56).set p31 57) S29))) ∧
              (b11 = false → ∃ p13, abin Try.prog .lss 3 (.tmp 38) (.const (.int .i64 8)) (T.get 7) (.int .i64 8) = some p13 ∧ ∃ p14, pickS p10 (.bool true) p13 = some p14 ∧ ∃ b15, p14 = .bool b15 ∧
                  (b15 = true → ∃ p23, pickS p14 (.bool true) undef = some p23 ∧ ∃ b24, p23 = .bool b24 ∧
                           (b24 = true → ∃ p31, pickS p23 (.bool true) undef = some p31 ∧ Q ((((((((((((((((((((((((((((((((T.set (T.get 0) 26).set p1 27).set p2 28).set p2 29).set undef 30).set undef 31).set p6 32).set p6 33).set (T.get 6) 34).set p9 35).set p10 36).set p10 37).set (T.get 7) 38).set p13 39).set p14 40).set p14 41).set undef 42).set undef 43).set undef 44).set undef 45).set undef 46).set undef 47).set undef 48).set p23 49).set p23 50).set undef 51).set undef 52).set undef 53).set undef 54).set undef 55).set undef 56).set p31 57) S1) ∧
                           (b24 = false → CallM Try.prog O 34 [(T.get 6), (T.get 7)] S1 fun p28 S28 => CallM Try.prog O 37 [(T.get 4), p28] S28 fun p29 S29 => ∃ p30, aunary .not p29 = some p30 ∧ ∃ p31, pickS p23 (.bool true) p30 = some p31 ∧ Q ((((((((((((((((((((((((((((((((T.set (T.get 0) 26).set p1 27).set p2 28).set p2 29).set undef 30).set undef 31).set p6 32).set p6 33).set (T.get 6) 34).set p9 35).set p10 36).set p10 37).set (T.get 7) 38).set p13 39).set p14 40).set p14 41).set undef 42).set undef 43).set undef 44).set undef 45).set undef 46).set undef 47).set undef 48).set p23 49).set p23 50).set (T.get 4) 51).set (T.get 6) 52).set (T.get 7) 53).set p28 54).set p29 55).set p30 56).set p31 57) S29)) ∧
                  (b15 = false → CallM Try.prog O 28 [(T.get 0)] S1 fun p18 S18 => ∃ p19, abin Try.prog .sub 3 (.tmp 44) (.const (.int .i64 1)) p18 (.int .i64 1) = some p19 ∧ ∃ p20, abin Try.prog .quo 3 (.tmp 45) (.const (.int .i64 2)) p19 (.int .i64 2) = some p20 ∧ ∃ p21, abin Try.prog .mul 3 (.tmp 46) (.const (.int .i64 256)) p20 (.int .i64 256) = some p21 ∧ ∃ p22, abin Try.prog .gtr 3 (.tmp 42) (.tmp 47) (T.get 7) p21 = some p22 ∧ ∃ p23, pickS p14 (.bool true) p22 = some p23 ∧ ∃ b24, p23 = .bool b24 ∧
                           (b24 = true → ∃ p31, pickS p23 (.bool true) undef = some p31 ∧ Q ((((((((((((((((((((((((((((((((T.set (T.get 0) 26).set p1 27).set p2 28).set p2 29).set undef 30).set undef 31).set p6 32).set p6 33).set (T.get 6) 34).set p9 35).set p10 36).set p10 37).set (T.get 7) 38).set p13 39).set p14 40).set p14 41).set (T.get 7) 42).set (T.get 0) 43).set p18 44).set p19 45).set p20 46).set p21 47).set p22 48).set p23 49).set p23 50).set undef 51).set undef 52).set undef 53).set undef 54).set undef 55).set undef 56).set p31 57) S18) ∧
                           (b24 = false → CallM Try.prog O 34 [(T.get 6), (T.get 7)] S18 fun p28 S28 => CallM Try.prog O 37 [(T.get 4), p28] S28 fun p29 S29 => ∃ p30, aunary .not p29 = some p30 ∧ ∃ p31, pickS p23 (.bool true) p30 = some p31 ∧ Q ((((((((((((((((((((((((((((((((T.set (T.get 0) 26).set p1 27).set p2 28).set p2 29).set undef 30).set undef 31).set p6 32).set p6 33).set (T.get 6) 34).set p9 35).set p10 36).set p10 37).set (T.get 7) 38).set p13 39).set p14 40).set p14 41).set (T.get 7) 42).set (T.get 0) 43).set p18 44).set p19 45).set p20 46).set p21 47).set p22 48).set p23 49).set p23 50).set (T.get 4) 51).set (T.get 6) 52).set (T.get 7) 53).set p28 54).set p29 55).set p30 56).set p31 57) S29))))) ∧
      (b3 = false → ∃ p5, abin Try.prog .lss 3 (.tmp 30) (.const (.int .i64 0)) (T.get 6) (.int .i64 0) = some p5 ∧ ∃ p6, pickS p2 (.bool true) p5 = some p6 ∧ ∃ b7, p6 = .bool b7 ∧
          (b7 = true → ∃ p10, pickS p6 (.bool true) undef = some p10 ∧ ∃ b11, p10 = .bool b11 ∧
              (b11 = true → ∃ p14, pickS p10 (.bool true) undef = some p14 ∧ ∃ b15, p14 = .bool b15 ∧
                  (b15 = true → ∃ p23, pickS p14 (.bool true) undef = some p23 ∧ ∃ b24, p23 = .bool b24 ∧
                           (b24 = true → ∃ p31, pickS p23 (.bool true) undef = some p31 ∧ Q ((((((((((((((((((((((((((((((((T.set (T.get 0) 26).set p1 27).set p2 28).set p2 29).set (T.get 6) 30).set p5 31).set p6 32).set p6 33).set undef 34).set undef 35).set p10 36).set p10 37).set undef 38).set undef 39).set p14 40).set p14 41).set undef 42).set undef 43).set undef 44).set undef 45).set undef 46).set undef 47).set undef 48).set p23 49).set p23 50).set undef 51).set undef 52).set undef 53).set undef 54).set undef 55).set undef 56).set p31 57) S1) ∧
                           (b24 = false → CallM Try.prog O 34 [(T.get 6), (T.get 7)] S1 fun p28 S28 => CallM Try.prog O 37 [(T.get 4), p28] S28 fun p29 S29 => ∃ p30, aunary .not p29 = some p30 ∧ ∃ p31, pickS p23 (.bool true) p30 = some p31 ∧ Q ((((((((((((((((((((((((((((((((T.set (T.get 0) 26).set p1 27).set p2 28).set p2 29).set (T.get 6) 30).set p5 31).set p6 32).set p6 33).set undef 34).set undef 35).set p10 36).set p10 37).set undef 38).set undef 39).set p14 40).set p14 41).set undef 42).set undef 43).set undef 44).set undef 45).set undef 46).set undef 47).set undef 48).set p23 49).set p23 50).set (T.get 4) 51).set (T.get 6) 52).set (T.get 7) 53).set p28 54).set p29 55).set p30 56).set p31 57) S29)) ∧
                  (b15 = false → CallM Try.prog O 28 [(T.get 0)] S1 fun p18 S18 => ∃ p19, abin Try.prog .sub 3 (.tmp 44) (.const (.int .i64 1)) p18 (.int .i64 1) = some p19 ∧ ∃ p20, abin Try.prog .quo 3 (.tmp 45) (.const (.int .i64 2)) p19 (.int .i64 2) = some p20 ∧ ∃ p21, abin Try.prog .mul 3 (.tmp 46) (.const (.int .i64 256)) p20 (.int .i64 256) = some p21 ∧ ∃ p22, abin Try.prog .gtr 3 (.tmp 42) (.tmp 47) (T.get 7) p21 = some p22 ∧ ∃ p23, pickS p14 (.bool true) p22 = some p23 ∧ ∃ b24, p23 = .bool b24 ∧
                           (b24 = true → ∃ p31, pickS p23 (.bool true) undef = some p31 ∧ Q ((((((((((((((((((((((((((((((((T.set (T.get 0) 26).set p1 27).set p2 28).set p2 29).set (T.get 6) 30).set p5 31).set p6 32).set p6 33).set undef 34).set undef 35).set p10 36).set p10 37).set undef 38).set undef 39).set p14 40).set p14 41).set (T.get 7) 42).set (T.get 0) 43).set p18 44).set p19 45).set p20 46).set p21 47).set p22 48).set p23 49).set p23 50).set undef 51).set undef 52).set undef 53).set undef 54).set undef 55).set undef 56).set p31 57) S18) ∧
                           (b24 = false → CallM Try.prog O 34 [(T.get 6), (T.get 7)] S18 fun p28 S28 => CallM Try.prog O 37 [(T.get 4), p28] S28 fun p29 S29 => ∃ p30, aunary .not p29 = some p30 ∧ ∃ p31, pickS p23 (.bool true) p30 = some p31 ∧ Q ((((((((((((((((((((((((((((((((T.set (T.get 0) 26).set p1 27).set p2 28).set p2 29).set (T.get 6) 30).set p5 31).set p6 32).set p6 33).set undef 34).set undef 35).set p10 36).set p10 37).set undef 38).set undef 39).set p14 40).set p14 41).set (T.get 7) 42).set (T.get 0) 43).set p18 44).set p19 45).set p20 46).set p21 47).set p22 48).set p23 49).set p23 50).set (T.get 4) 51).set (T.get 6) 52).set (T.get 7) 53).set p28 54).set p29 55).set p30 56).set p31 57) S29))) ∧
              (b11 = false → ∃ p13, abin Try.prog .lss 3 (.tmp 38) (.const (.int .i64 8)) (T.get 7) (.int .i64 8) = some p13 ∧ ∃ p14, pickS p10 (.bool true) p13 = some p14 ∧ ∃ b15, p14 = .bool b15 ∧
                  (b15 = true → ∃ p23, pickS p14 (.bool true) undef = some p23 ∧ ∃ b24, p23 = .bool b24 ∧
                           (b24 = true → ∃ p31, pickS p23 (.bool true) undef = some p31 ∧ Q ((((((((((((((((((((((((((((((((T.set (T.get 0) 26).set p1 27).set p2 28).set p2 29).set (T.get 6) 30).set p5 31).set p6 32).set p6 33).set undef 34).set undef 35).set p10 36).set p10 37).set (T.get 7) 38).set p13 39).set p14 40).set p14 41).set undef 42).set undef 43).set undef 44).set undef 45).set undef 46).set undef 47).set undef 48).set p23 49).set p23 50).set undef 51).set undef 52).set undef 53).set undef 54).set undef 55).set undef 56).set p31 57) S1) ∧
                           (b24 = false → CallM Try.prog O 34 [(T.get 6), (T.get 7)] S1 fun p28 S28 => CallM Try.prog O 37 [(T.get 4), p28] S28 fun p29 S29 => ∃ p30, aunary .not p29 = some p30 ∧ ∃ p31, pickS p23 (.bool true) p30 = some p31 ∧ Q ((((((((((((((((((((((((((((((((T.set (T.get 0) 26).set p1 27).set p2 28).set p2 29).set (T.get 6) 30).set p5 31).set p6 32).set p6 33).set undef 34).set undef 35).set p10 36).set p10 37).set (T.get 7) 38).set p13 39).set p14 40).set p14 41).set undef 42).set undef 43).set undef 44).set undef 45).set undef 46).set undef 47).set undef 48).set p23 49).set p23 50).set (T.get 4) 51).set (T.get 6) 52).set (T.get 7) 53).set p28 54).set p29 55).set p30 56).set p31 57) S29)) ∧
                  (b15 = false → CallM Try.prog O 28 [(T.get 0)] S1 fun p18 S18 => ∃ p19, abin Try.prog .sub 3 (.tmp 44) (.const (.int .i64 1)) p18 (.int .i64 1) = some p19 ∧ ∃ p20, abin Try.prog .quo 3 (.tmp 45) (.const (.int .i64 2)) p19 (.int .i64 2) = some p20 ∧ ∃ p21, abin Try.prog .mul 3 (.tmp 46) (.const (.int .i64 256)) p20 (.int .i64 256) = some p21 ∧ ∃ p22, abin Try.prog .gtr 3 (.tmp 42) (.tmp 47) (T.get 7) p21 = some p22 ∧ ∃ p23, pickS p14 (.bool true) p22 = some p23 ∧ ∃ b24, p23 = .bool b24 ∧
                           (b24 = true → ∃ p31, pickS p23 (.bool true) undef = some p31 ∧ Q ((((((((((((((((((((((((((((((((T.set (T.get 0) 26).set p1 27).set p2 28).set p2 29).set (T.get 6) 30).set p5 31).set p6 32).set p6 33).set undef 34).set undef 35).set p10 36).set p10 37).set (T.get 7) 38).set p13 39).set p14 40).set p14 41).set (T.get 7) 42).set (T.get 0) 43).set p18 44).set p19 45).set p20 46).set p21 47).set p22 48).set p23 49).set p23 50).set undef 51).set undef 52).set undef 53).set undef 54).set undef 55).set undef 56).set p31 57) S18) ∧
                           (b24 = false → CallM Try.prog O 34 [(T.get 6), (T.get 7)] S18 fun p28 S28 => CallM Try.prog O 37 [(T.get 4), p28] S28 fun p29 S29 => ∃ p30, aunary .not p29 = some p30 ∧ ∃ p31, pickS p23 (.bool true) p30 = some p31 ∧ Q ((((((((((((((((((((((((((((((((T.set (T.get 0) 26).set p1 27).set p2 28).set p2 29).set (T.get 6) 30).set p5 31).set p6 32).set p6 33).set undef 34).set undef 35).set p10 36).set p10 37).set (T.get 7) 38).set p13 39).set p14 40).set p14 41).set (T.get 7) 42).set (T.get 0) 43).set p18 44).set p19 45).set p20 46).set p21 47).set p22 48).set p23 49).set p23 50).set (T.get 4) 51).set (T.get 6) 52).set (T.get 7) 53).set p28 54).set p29 55).set p30 56).set p31 57) S29)))) ∧
          (b7 = false → ∃ p9, abin Try.prog .gtr 3 (.tmp 34) (.const (.int .i64 1)) (T.get 6) (.int .i64 1) = some p9 ∧ ∃ p10, pickS p6 (.bool true) p9 = some p10 ∧ ∃ b11, p10 = .bool b11 ∧
              (b11 = true → ∃ p14, pickS p10 (.bool true) undef = some p14 ∧ ∃ b15, p14 = .bool b15 ∧
                  (b15 = true → ∃ p23, pickS p14 (.bool true) undef = some p23 ∧ ∃ b24, p23 = .bool b24 ∧
                           (b24 = true → ∃ p31, pickS p23 (.bool true) undef = some p31 ∧ Q ((((((((((((((((((((((((((((((((T.set (T.get 0) 26).set p1 27).set p2 28).set p2 29).set (T.get 6) 30).set p5 31).set p6 32).set p6 33).set (T.get 6) 34).set p9 35).set p10 36).set p10 37).set undef 38).set undef 39).set p14 40).set p14 41).set undef 42).set undef 43).set undef 44).set undef 45).set undef 46).set undef 47).set undef 48).set p23 49).set p23 50).set undef 51).set undef 52).set undef 53).set undef 54).set undef 55).set undef 56).set p31 57) S1) ∧
                           (b24 = false → CallM Try.prog O 34 [(T.get 6), (T.get 7)] S1 fun p28 S28 => CallM Try.prog O 37 [(T.get 4), p28] S28 fun p29 S29 => ∃ p30, aunary .not p29 = some p30 ∧ ∃ p31, pickS p23 (.bool true) p30 = some p31 ∧ Q ((((((((((((((((((((((((((((((((T.set (T.get 0) 26).set p1 27).set p2 28).set p2 29).set (T.get 6) 30).set p5 31).set p6 32).set p6 33).set (T.get 6) 34).set p9 35).set p10 36).set p10 37).set undef 38).set undef 39).set p14 40).set p14 41).set undef 42).set undef 43).set undef 44).set undef 45).set undef 46).set undef 47).set undef 48).set p23 49).set p23 50).set (T.get 4) 51).set (T.get 6) 52).set (T.get 7) 53).set p28 54).set p29 55).set p30 56).set p31 57) S29)) ∧
                  (b15 = false → CallM Try.prog O 28 [(T.get 0)] S1 fun p18 S18 => ∃ p19, abin Try.prog .sub 3 (.tmp 44) (.const (.int .i64 1)) p18 (.int .i64 1) = some p19 ∧ ∃ p20, abin Try.prog .quo 3 (.tmp 45) (.const (.int .i64 2)) p19 (.int .i64 2) = some p20 ∧ ∃ p21, abin Try.prog .mul 3 (.tmp 46) (.const (.int .i64 256)) p20 (.int .i64 256) = some p21 ∧ ∃ p22, abin Try.prog .gtr 3 (.tmp 42) (.tmp 47) (T.get 7) p21 = some p22 ∧ ∃ p23, pickS p14 (.bool true) p22 = some p23 ∧ ∃ b24, p23 = .bool b24 ∧
                           (b24 = true → ∃ p31, pickS p23 (.bool true) undef = some p31 ∧ Q ((((((((((((((((((((((((((((((((T.set (T.get 0) 26).set p1 27).set p2 28).set p2 29).set (T.get 6) 30).set p5 31).set p6 32).set p6 33).set (T.get 6) 34).set p9 35).set p10 36).set p10 37).set undef 38).set undef 39).set p14 40).set p14 41).set (T.get 7) 42).set (T.get 0) 43).set p18 44).set p19 45).set p20 46).set p21 47).set p22 48).set p23 49).set p23 50).set undef 51).set undef 52).set undef 53).set undef 54).set undef 55).set undef 56).set p31 57) S18) ∧
                           (b24 = false → CallM Try.prog O 34 [(T.get 6), (T.get 7)] S18 fun p28 S28 => CallM Try.prog O 37 [(T.get 4), p28] S28 fun p29 S29 => ∃ p30, aunary .not p29 = some p30 ∧ ∃ p31, pickS p23 (.bool true) p30 = some p31 ∧ Q ((((((((((((((((((((((((((((((((T.set (T.get 0) 26).set p1 27).set p2 28).set p2 29).set (T.get 6) 30).set p5 31).set p6 32).set p6 33).set (T.get 6) 34).set p9 35).set p10 36).set p10 37).set undef 38).set undef 39).set p14 40).set p14 41).set (T.get 7) 42).set (T.get 0) 43).set p18 44).set p19 45).set p20 46).set p21 47).set p22 48).set p23 49).set p23 50).set (T.get 4) 51).set (T.get 6) 52).set (T.get 7) 53).set p28 54).set p29 55).set p30 56).set p31 57) S29))) ∧
              (b11 = false → ∃ p13, abin Try.prog .lss 3 (.tmp 38) (.const (.int .i64 8)) (T.get 7) (.int .i64 8) = some p13 ∧ ∃ p14, pickS p10 (.bool true) p13 = some p14 ∧ ∃ b15, p14 = .bool b15 ∧
                  (b15 = true → ∃ p23, pickS p14 (.bool true) undef = some p23 ∧ ∃ b24, p23 = .bool b24 ∧
                           (b24 = true → ∃ p31, pickS p23 (.bool true) undef = some p31 ∧ Q ((((((((((((((((((((((((((((((((T.set (T.get 0) 26).set p1 27).set p2 28).set p2 29).set (T.get 6) 30).set p5 31).set p6 32).set p6 33).set (T.get 6) 34).set p9 35).set p10 36).set p10 37).set (T.get 7) 38).set p13 39).set p14 40).set p14 41).set undef 42).set undef 43).set undef 44).set undef 45).set undef 46).set undef 47).set undef 48).set p23 49).set p23 50).set undef 51).set undef 52).set undef 53).set undef 54).set undef 55).set undef 56).set p31 57) S1) ∧
                           (b24 = false → CallM Try.prog O 34 [(T.get 6), (T.get 7)] S1 fun p28 S28 => CallM Try.prog O 37 [(T.get 4), p28] S28 fun p29 S29 => ∃ p30, aunary .not p29 = some p30 ∧ ∃ p31, pickS p23 (.bool true) p30 = some p31 ∧ Q ((((((((((((((((((((((((((((((((T.set (T.get 0) 26).set p1 27).set p2 28).set p2 29).set (T.get 6) 30).set p5 31).set p6 32).set p6 33).set (T.get 6) 34).set p9 35).set p10 36).set p10 37).set (T.get 7) 38).set p13 39).set p14 40).set p14 41).set undef 42).set undef 43).set undef 44).set undef 45).set undef 46).set undef 47).set undef 48).set p23 49).set p23 50).set (T.get 4) 51).set (T.get 6) 52).set (T.get 7) 53).set p28 54).set p29 55).set p30 56).set p31 57) S29)) ∧
                  (b15 = false → CallM Try.prog O 28 [(T.get 0)] S1 fun p18 S18 => ∃ p19, abin Try.prog .sub 3 (.tmp 44) (.const (.int .i64 1)) p18 (.int .i64 1) = some p19 ∧ ∃ p20, abin Try.prog .quo 3 (.tmp 45) (.const (.int .i64 2)) p19 (.int .i64 2) = some p20 ∧ ∃ p21, abin Try.prog .mul 3 (.tmp 46) (.const (.int .i64 256)) p20 (.int .i64 256) = some p21 ∧ ∃ p22, abin Try.prog .gtr 3 (.tmp 42) (.tmp 47) (T.get 7) p21 = some p22 ∧ ∃ p23, pickS p14 (.bool true) p22 = some p23 ∧ ∃ b24, p23 = .bool b24 ∧
                           (b24 = true → ∃ p31, pickS p23 (.bool true) undef = some p31 ∧ Q ((((((((((((((((((((((((((((((((T.set (T.get 0) 26).set p1 27).set p2 28).set p2 29).set (T.get 6) 30).set p5 31).set p6 32).set p6 33).set (T.get 6) 34).set p9 35).set p10 36).set p10 37).set (T.get 7) 38).set p13 39).set p14 40).set p14 41).set (T.get 7) 42).set (T.get 0) 43).set p18 44).set p19 45).set p20 46).set p21 47).set p22 48).set p23 49).set p23 50).set undef 51).set undef 52).set undef 53).set undef 54).set undef 55).set undef 56).set p31 57) S18) ∧
                           (b24 = false → CallM Try.prog O 34 [(T.get 6), (T.get 7)] S18 fun p28 S28 => CallM Try.prog O 37 [(T.get 4), p28] S28 fun p29 S29 => ∃ p30, aunary .not p29 = some p30 ∧ ∃ p31, pickS p23 (.bool true) p30 = some p31 ∧ Q ((((((((((((((((((((((((((((((((T.set (T.get 0) 26).set p1 27).set p2 28).set p2 29).set (T.get 6) 30).set p5 31).set p6 32).set p6 33).set (T.get 6) 34).set p9 35).set p10 36).set p10 37).set (T.get 7) 38).set p13 39).set p14 40).set p14 41).set (T.get 7) 42).set (T.get 0) 43).set p18 44).set p19 45).set p20 46).set p21 47).set p22 48).set p23 49).set p23 50).set (T.get 4) 51).set (T.get 6) 52).set (T.get 7) 53).set p28 54).set p29 55).set p30 56).set p31 57) S29)))))) := by kernel_rfl
theorem reg10_7 {O : Known} {T : FT} {S : MS} {Q : FT → MS → Prop} : mOps Try.prog O 97 (ro 10 7).toList (ro 10 7).toList [] T S Q =
  (CallM Try.prog O 38 [(T.get 0), (T.get 6), (T.get 7)] S fun p3 S3 => ∃ p5, aextract p3 0 = some p5 ∧ ∃ p6, aextract p3 1 = some p6 ∧ Q (((((((((T.set (T.get 0) 59).set (T.get 6) 60).set (T.get 7) 61).set p3 62).set p3 58).set p5 63).set p6 64).set p5 8).set p6 5) S3) := by kernel_rfl
theorem reg10_8 {O : Known} {T : FT} {S : MS} {Q : FT → MS → Prop} : mOps Try.prog O 97 (ro 10 8).toList (ro 10 8).toList [] T S Q =
  (∃ p1, abin Try.prog .neq 24 (.tmp 65) (.const (.int .i64 0)) (T.get 5) (.int .i64 0) = some p1 ∧ Q ((T.set (T.get 5) 65).set p1 66) S) := by kernel_rfl
theorem reg10_10 {O : Known} {T : FT} {S : MS} {Q : FT → MS → Prop} : mOps Try.prog O 97 (ro 10 10).toList (ro 10 10).toList [] T S Q =
  (∃ p5, abin Try.prog .quo 3 (.tmp 72) (.const (.int .i64 256)) (T.get 7) (.int .i64 256) = some p5 ∧ ∃ p6, abin Try.prog .mul 3 (.tmp 73) (.const (.int .i64 256)) p5 (.int .i64 256) = some p6 ∧ ∃ p7, slS 1 S (T.get 8) (some p6) none none = some p7 ∧ ∃ p8, bdS (fun i => [(0, 1), (1, 1), (2, 1), (3, 1), (4, 1), (5, 1), (6, 1)][i]?) [.pointer none, .int .i64 0, .int .i64 0, .slice none 0 0, .slice none 0 0, .slice none 0 0, .bool false] [(0, (T.get 0)), (1, (T.get 6)), (2, (T.get 7)), (5, p7)] = some p8 ∧ ∃ S11, stS 1 ((S.fresh (Value.cells p8).toList 0).fresh [.pointer none] 0) (ptrTo (S.fresh (Value.cells p8).toList 0).n) (ptrTo S.n) = some S11 ∧ Q (((((((((((T.set (T.get 0) 68).set (T.get 6) 69).set (T.get 7) 70).set (T.get 8) 71).set (T.get 7) 72).set p5 73).set p6 74).set p7 75).set p8 76).set (ptrTo S.n) 77).set (ptrTo (S.fresh (Value.cells p8).toList 0).n) 9) S11) := by kernel_rfl
theorem reg10_11 {O : Known} {T : FT} {S : MS} {Q : FT → MS → Prop} : mOps Try.prog O 97 (ro 10 11).toList (ro 10 11).toList [] T S Q =
  (∃ S1, stS 1 (S.fresh [.bool false] 0) (ptrTo S.n) (.bool true) = some S1 ∧ Q (T.set (ptrTo S.n) 10) S1) := by kernel_rfl
theorem reg10_12 {O : Known} {T : FT} {S : MS} {Q : FT → MS → Prop} : mOps Try.prog O 97 (ro 10 12).toList (ro 10 12).toList [] T S Q =
  (CallM Try.prog O 39 [(T.get 8)] S fun p1 S1 => Q ((T.set (T.get 8) 78).set p1 79) S1) := by kernel_rfl
theorem reg10_13 {O : Known} {T : FT} {S : MS} {Q : FT → MS → Prop} : mOps Try.prog O 97 (ro 10 13).toList (ro 10 13).toList [] T S Q =
  (Q (T.set (T.get 80) 11) S) := by kernel_rfl
theorem reg10_14 {O : Known} {T : FT} {S : MS} {Q : FT → MS → Prop} : mOps Try.prog O 97 (ro 10 14).toList (ro 10 14).toList [] T S Q =
  (∃ p0, ldS none S (T.get 10) = some p0 ∧ Q (T.set p0 81) S) := by kernel_rfl
theorem reg10_15 {O : Known} {T : FT} {S : MS} {Q : FT → MS → Prop} : mOps Try.prog O 97 (ro 10 15).toList (ro 10 15).toList [] T S Q =
  (∃ p0, ldS none S (T.get 9) = some p0 ∧ ∃ p2, nilS p0 = some p2 ∧ ∃ p3, faS 3 p2 = some p3 ∧ ∃ S4, stS 1 S p3 (T.get 11) = some S4 ∧ ∃ S5, stS 1 S4 (T.get 10) (.bool false) = some S5 ∧ Q ((((T.set p0 82).set (T.get 11) 83).set p2 84).set p3 85) S5) := by kernel_rfl
theorem reg10_16 {O : Known} {T : FT} {S : MS} {Q : FT → MS → Prop} : mDraw Try.prog O 97 (ro 10 16).toList T S Q =
  (∃ p1, ldS none S (T.get 9) = some p1 ∧ ∃ p2, nilS p1 = some p2 ∧ ∃ p3, faS 4 p2 = some p3 ∧ ∃ p4, ldS none S p3 = some p4 ∧ ∃ p6 S6, bsS S 1 1 [.slice none 0 0] [(0, (T.get 11))] = some (p6, S6) ∧ ∃ p7 S7, apS false 1 24 [.slice none 0 0] S6 [p4, p6] = some (p7, S7) ∧ ∃ p0, ((ldS none S7 (T.get 9)).bind fun v => (ldS none S (T.get 9)).bind fun w => if veq v w then some v else none) = some p0 ∧ ∃ p8, nilS p0 = some p8 ∧ ∃ p9, faS 4 p8 = some p9 ∧ ∃ S10, stS 1 S7 p9 p7 = some S10 ∧ Q ((((((((((T.set p1 87).set p2 88).set p3 89).set p4 90).set (T.get 11) 91).set p6 92).set p7 93).set p0 86).set p8 94).set p9 95) S10) := by kernel_rfl
theorem reg10_17 {O : Known} {T : FT} {S : MS} {Q : FT → MS → Prop} : mOps Try.prog O 97 (ro 10 17).toList (ro 10 17).toList [] T S Q =
  (∃ p0, ldS none S (T.get 9) = some p0 ∧ Q (((T.set p0 96).set p0 2).set (.int .i64 0) 3) S) := by kernel_rfl
/-! ### 11: (*windlass/journal.Journal).Append -/
theorem body11 : (Try.prog.funcs[11]?).bind (·.body) = some (.seq (.region 0 (ro 11 0) false) (.seq (.block 0 (.seq (.region 1 (ro 11 1) false) (.cond (.tmp 9) (.seq (.region 2 (ro 11 2) false) .ret) (.seq (.region 3 (ro 11 3) false) (.cond (.tmp 14) (.seq (.region 4 (ro 11 4) false) .ret) (.seq (.region 5 (ro 11 5) false) (.cond (.tmp 18) (.seq (.region 6 (ro 11 6) false) .ret) .skip))))))) (.seq (.region 7 (ro 11 7) false) (.seq (.seq (.region 8 (ro 11 8) true) (.seq (.region 9 (ro 11 9) false) (.cond (.tmp 57) (.seq (.region 10 (ro 11 10) false) .ret) .skip))) (.seq (.region 11 (ro 11 11) true) (.seq (.seq (.region 12 (ro 11 12) true) (.seq (.region 13 (ro 11 13) false) (.cond (.tmp 81) (.seq (.region 14 (ro 11 14) false) .ret) .skip))) (.seq (.region 15 (ro 11 15) false) (.seq (.region 16 (ro 11 16) false) (.seq (.region 17 (ro 11 17) true) (.seq (.region 18 (ro 11 18) false) .ret)))))))))) := by kernel_rfl
theorem res11 : (Try.prog.funcs[11]?).map (·.results.toList) = some [.tmp 4] := by kernel_rfl
theorem is11 : fnIsB Try.prog 11 111 = true := by kernel_rfl
theorem reg11_0 {O : Known} {T : FT} {S : MS} {Q : FT → MS → Prop} : mOps Try.prog O 111 (ro 11 0).toList (ro 11 0).toList [] T S Q =
  (Q (T.set (.int .i64 0) 4) S) := by kernel_rfl
theorem reg11_1 {O : Known} {T : FT} {S : MS} {Q : FT → MS → Prop} : mOps Try.prog O 111 (ro 11 1).toList (ro 11 1).toList [] T S Q =
  (∃ p1, nilS (T.get 0) = some p1 ∧ ∃ p2, faS 6 p1 = some p2 ∧ ∃ p3, ldS none S p2 = some p3 ∧ Q (((((T.set (T.get 0) 10).set p1 11).set p2 12).set p3 13).set p3 9) S) := by kernel_rfl
theorem reg11_2 {O : Known} {T : FT} {S : MS} {Q : FT → MS → Prop} : mOps Try.prog O 111 (ro 11 2).toList (ro 11 2).toList [] T S Q =
  (Q (T.set (.int .i64 12) 4) S) := by kernel_rfl
theorem reg11_3 {O : Known} {T : FT} {S : MS} {Q : FT → MS → Prop} : mOps Try.prog O 111 (ro 11 3).toList (ro 11 3).toList [] T S Q =
  (∃ p1, lenSl (T.get 1) = some p1 ∧ ∃ p2, abin Try.prog .gtr 3 (.tmp 16) (.const (.int .i64 65536)) p1 (.int .i64 65536) = some p2 ∧ Q ((((T.set (T.get 1) 15).set p1 16).set p2 17).set p2 14) S) := by kernel_rfl
theorem reg11_4 {O : Known} {T : FT} {S : MS} {Q : FT → MS → Prop} : mOps Try.prog O 111 (ro 11 4).toList (ro 11 4).toList [] T S Q =
  (Q (T.set (.int .i64 193) 4) S) := by kernel_rfl
theorem reg11_5 {O : Known} {T : FT} {S : MS} {Q : FT → MS → Prop} : mOps Try.prog O 111 (ro 11 5).toList (ro 11 5).toList [] T S Q =
  (CallM Try.prog O 21 [(T.get 1)] S fun p1 S1 => CallM Try.prog O 14 [(T.get 0)] S1 fun p3 S3 => CallM Try.prog O 27 [(T.get 0)] S3 fun p5 S5 => ∃ p6, abin Try.prog .sub 3 (.tmp 22) (.tmp 24) p3 p5 = some p6 ∧ ∃ p7, abin Try.prog .gtr 3 (.tmp 20) (.tmp 25) p1 p6 = some p7 ∧ Q (((((((((T.set (T.get 1) 19).set p1 20).set (T.get 0) 21).set p3 22).set (T.get 0) 23).set p5 24).set p6 25).set p7 26).set p7 18) S5) := by kernel_rfl
theorem reg11_6 {O : Known} {T : FT} {S : MS} {Q : FT → MS → Prop} : mOps Try.prog O 111 (ro 11 6).toList (ro 11 6).toList [] T S Q =
  (Q (T.set (.int .i64 192) 4) S) := by kernel_rfl
theorem reg11_7 {O : Known} {T : FT} {S : MS} {Q : FT → MS → Prop} : mOps Try.prog O 111 (ro 11 7).toList (ro 11 7).toList [] T S Q =
  (∃ p1, nilS (T.get 0) = some p1 ∧ ∃ p2, faS 5 p1 = some p2 ∧ ∃ p3, ldS none S p2 = some p3 ∧ CallM Try.prog O 40 [p3] S fun p4 S4 => CallM Try.prog O 31 [(T.get 1)] S4 fun p6 S6 => ∃ p7 S7, apS false 1 1 [.int .u8 0] S6 [p4, p6] = some (p7, S7) ∧ Q (((((((((T.set (T.get 0) 27).set p1 28).set p2 29).set p3 30).set p4 31).set (T.get 1) 32).set p6 33).set p7 34).set p7 5) S7) := by kernel_rfl
theorem reg11_8 {O : Known} {T : FT} {S : MS} {Q : FT → MS → Prop} : mDraw Try.prog O 111 (ro 11 8).toList T S Q =
  (∃ p5, nilS (T.get 0) = some p5 ∧ ∃ p6, faS 0 p5 = some p6 ∧ ∃ p7, ldS none S p6 = some p7 ∧ ∃ p9, nilS (T.get 0) = some p9 ∧ ∃ p10, faS 1 p9 = some p10 ∧ ∃ p11, ldS none S p10 = some p11 ∧ CallM Try.prog O 33 [p7, p11] S fun p12 S12 => ∃ p1, nilS (T.get 0) = some p1 ∧ ∃ p2, faS 0 p1 = some p2 ∧ ∃ p3, ((ldS none S12 p2).bind fun v => (ldS none S p2).bind fun w => if veq v w then some v else none) = some p3 ∧ ∃ p14, nilS (T.get 0) = some p14 ∧ ∃ p15, faS 2 p14 = some p15 ∧ ∃ p16, ((ldS none S12 p15).bind fun v => (ldS none S p15).bind fun w => if veq v w then some v else none) = some p16 ∧ ∃ p17, abin Try.prog .quo 3 (.tmp 51) (.const (.int .i64 256)) p16 (.int .i64 256) = some p17 ∧ ∃ p18, abin Try.prog .add 3 (.tmp 47) (.tmp 52) p12 p17 = some p18 ∧ CallM Try.prog O 32 [p3, p18, (T.get 5)] S12 fun p20 S20 => Q ((((((((((((((((((((((T.set (T.get 0) 39).set p5 40).set p6 41).set p7 42).set (T.get 0) 43).set p9 44).set p10 45).set p11 46).set p12 47).set (T.get 0) 35).set p1 36).set p2 37).set p3 38).set (T.get 0) 48).set p14 49).set p15 50).set p16 51).set p17 52).set p18 53).set (T.get 5) 54).set p20 55).set p20 6) S20) := by kernel_rfl
theorem reg11_9 {O : Known} {T : FT} {S : MS} {Q : FT → MS → Prop} : mOps Try.prog O 111 (ro 11 9).toList (ro 11 9).toList [] T S Q =
  (∃ p1, abin Try.prog .neq 24 (.tmp 56) (.const (.int .i64 0)) (T.get 6) (.int .i64 0) = some p1 ∧ Q ((T.set (T.get 6) 56).set p1 57) S) := by kernel_rfl
theorem reg11_10 {O : Known} {T : FT} {S : MS} {Q : FT → MS → Prop} : mOps Try.prog O 111 (ro 11 10).toList (ro 11 10).toList [] T S Q =
  (CallM Try.prog O 41 [(T.get 0), (T.get 6)] S fun p2 S2 => Q ((((T.set (T.get 0) 58).set (T.get 6) 59).set p2 60).set p2 4) S2) := by kernel_rfl
theorem reg11_11 {O : Known} {T : FT} {S : MS} {Q : FT → MS → Prop} : mDraw Try.prog O 111 (ro 11 11).toList T S Q =
  (CallM Try.prog O 31 [(T.get 1)] S fun p5 S5 => ∃ p1, nilS (T.get 0) = some p1 ∧ ∃ p2, faS 2 p1 = some p2 ∧ ∃ p3, ((ldS none S5 p2).bind fun v => (ldS none S p2).bind fun w => if veq v w then some v else none) = some p3 ∧ ∃ p6, lenSl p5 = some p6 ∧ ∃ p7, abin Try.prog .add 3 (.tmp 64) (.tmp 67) p3 p6 = some p7 ∧ Q (((((((((T.set (T.get 1) 65).set p5 66).set (T.get 0) 61).set p1 62).set p2 63).set p3 64).set p6 67).set p7 68).set p7 7) S5) := by kernel_rfl
theorem reg11_12 {O : Known} {T : FT} {S : MS} {Q : FT → MS → Prop} : mDraw Try.prog O 111 (ro 11 12).toList T S Q =
  (∃ p5, nilS (T.get 0) = some p5 ∧ ∃ p6, faS 1 p5 = some p6 ∧ ∃ p7, ldS none S p6 = some p7 ∧ CallM Try.prog O 34 [p7, (T.get 7)] S fun p9 S9 => ∃ p1, nilS (T.get 0) = some p1 ∧ ∃ p2, faS 0 p1 = some p2 ∧ ∃ p3, ((ldS none S9 p2).bind fun v => (ldS none S p2).bind fun w => if veq v w then some v else none) = some p3 ∧ CallM Try.prog O 30 [p3, (.int .i64 0), p9] S9 fun p10 S10 => Q ((((((((((((T.set (T.get 0) 73).set p5 74).set p6 75).set p7 76).set (T.get 7) 77).set p9 78).set (T.get 0) 69).set p1 70).set p2 71).set p3 72).set p10 79).set p10 8) S10) := by kernel_rfl
theorem reg11_13 {O : Known} {T : FT} {S : MS} {Q : FT → MS → Prop} : mOps Try.prog O 111 (ro 11 13).toList (ro 11 13).toList [] T S Q =
  (∃ p1, abin Try.prog .neq 24 (.tmp 80) (.const (.int .i64 0)) (T.get 8) (.int .i64 0) = some p1 ∧ Q ((T.set (T.get 8) 80).set p1 81) S) := by kernel_rfl
theorem reg11_14 {O : Known} {T : FT} {S : MS} {Q : FT → MS → Prop} : mOps Try.prog O 111 (ro 11 14).toList (ro 11 14).toList [] T S Q =
  (CallM Try.prog O 41 [(T.get 0), (T.get 8)] S fun p2 S2 => Q ((((T.set (T.get 0) 82).set (T.get 8) 83).set p2 84).set p2 4) S2) := by kernel_rfl
theorem reg11_15 {O : Known} {T : FT} {S : MS} {Q : FT → MS → Prop} : mOps Try.prog O 111 (ro 11 15).toList (ro 11 15).toList [] T S Q =
  (∃ p3, lenSl (T.get 5) = some p3 ∧ ∃ p5, abin Try.prog .rem 3 (.tmp 89) (.const (.int .i64 256)) (T.get 7) (.int .i64 256) = some p5 ∧ ∃ p6, abin Try.prog .sub 3 (.tmp 88) (.tmp 90) p3 p5 = some p6 ∧ ∃ p7, slS 1 S (T.get 5) (some p6) none none = some p7 ∧ CallM Try.prog O 40 [p7] S fun p8 S8 => ∃ p9, nilS (T.get 0) = some p9 ∧ ∃ p10, faS 5 p9 = some p10 ∧ ∃ S11, stS 1 S8 p10 p8 = some S11 ∧ Q (((((((((((T.set (T.get 0) 85).set (T.get 5) 86).set (T.get 5) 87).set p3 88).set (T.get 7) 89).set p5 90).set p6 91).set p7 92).set p8 93).set p9 94).set p10 95) S11) := by kernel_rfl
theorem reg11_16 {O : Known} {T : FT} {S : MS} {Q : FT → MS → Prop} : mOps Try.prog O 111 (ro 11 16).toList (ro 11 16).toList [] T S Q =
  (∃ p2, nilS (T.get 0) = some p2 ∧ ∃ p3, faS 2 p2 = some p3 ∧ ∃ S4, stS 1 S p3 (T.get 7) = some S4 ∧ Q ((((T.set (T.get 0) 96).set (T.get 7) 97).set p2 98).set p3 99) S4) := by kernel_rfl
theorem reg11_17 {O : Known} {T : FT} {S : MS} {Q : FT → MS → Prop} : mDraw Try.prog O 111 (ro 11 17).toList T S Q =
  (CallM Try.prog O 40 [(T.get 1)] S fun p6 S6 => ∃ p2, nilS (T.get 0) = some p2 ∧ ∃ p3, faS 4 p2 = some p3 ∧ ∃ p4, ((ldS none S6 p3).bind fun v => (ldS none S p3).bind fun w => if veq v w then some v else none) = some p4 ∧ ∃ p7 S7, bsS S6 1 1 [.slice none 0 0] [(0, p6)] = some (p7, S7) ∧ ∃ p8 S8, apS false 1 24 [.slice none 0 0] S7 [p4, p7] = some (p8, S8) ∧ ∃ p9, nilS (T.get 0) = some p9 ∧ ∃ p10, faS 4 p9 = some p10 ∧ ∃ S11, stS 1 S8 p10 p8 = some S11 ∧ Q (((((((((((T.set (T.get 1) 105).set p6 106).set (T.get 0) 101).set p2 102).set p3 103).set p4 104).set p7 107).set p8 108).set (T.get 0) 100).set p9 109).set p10 110) S11) := by kernel_rfl
theorem reg11_18 {O : Known} {T : FT} {S : MS} {Q : FT → MS → Prop} : mOps Try.prog O 111 (ro 11 18).toList (ro 11 18).toList [] T S Q =
  (Q (T.set (.int .i64 0) 4) S) := by kernel_rfl
/-! ### 12: (*windlass/journal.Journal).Snapshot -/
theorem body12 : (Try.prog.funcs[12]?).bind (·.body) = some (.seq (.region 0 (ro 12 0) false) (.seq (.block 0 (.seq (.region 1 (ro 12 1) false) (.cond (.tmp 9) (.seq (.region 2 (ro 12 2) false) .ret) (.seq (.region 3 (ro 12 3) false) (.cond (.tmp 14) (.seq (.region 4 (ro 12 4) false) .ret) .skip))))) (.seq (.region 5 (ro 12 5) true) (.seq (.seq (.region 6 (ro 12 6) true) (.seq (.region 7 (ro 12 7) false) (.cond (.tmp 40) (.seq (.region 8 (ro 12 8) false) .ret) .skip))) (.seq (.seq (.region 9 (ro 12 9) true) (.seq (.region 10 (ro 12 10) false) (.cond (.tmp 54) (.seq (.region 11 (ro 12 11) false) .ret) .skip))) (.seq (.region 12 (ro 12 12) false) (.seq (.region 13 (ro 12 13) false) (.seq (.region 14 (ro 12 14) false) .ret)))))))) := by kernel_rfl
theorem res12 : (Try.prog.funcs[12]?).map (·.results.toList) = some [.tmp 4] := by kernel_rfl
theorem is12 : fnIsB Try.prog 12 85 = true := by kernel_rfl
theorem reg12_0 {O : Known} {T : FT} {S : MS} {Q : FT → MS → Prop} : mOps Try.prog O 85 (ro 12 0).toList (ro 12 0).toList [] T S Q =
  (Q (T.set (.int .i64 0) 4) S) := by kernel_rfl
theorem reg12_1 {O : Known} {T : FT} {S : MS} {Q : FT → MS → Prop} : mOps Try.prog O 85 (ro 12 1).toList (ro 12 1).toList [] T S Q =
  (∃ p1, nilS (T.get 0) = some p1 ∧ ∃ p2, faS 6 p1 = some p2 ∧ ∃ p3, ldS none S p2 = some p3 ∧ Q (((((T.set (T.get 0) 10).set p1 11).set p2 12).set p3 13).set p3 9) S) := by kernel_rfl
theorem reg12_2 {O : Known} {T : FT} {S : MS} {Q : FT → MS → Prop} : mOps Try.prog O 85 (ro 12 2).toList (ro 12 2).toList [] T S Q =
  (Q (T.set (.int .i64 12) 4) S) := by kernel_rfl
theorem reg12_3 {O : Known} {T : FT} {S : MS} {Q : FT → MS → Prop} : mOps Try.prog O 85 (ro 12 3).toList (ro 12 3).toList [] T S Q =
  (CallM Try.prog O 21 [(T.get 1)] S fun p1 S1 => CallM Try.prog O 14 [(T.get 0)] S1 fun p3 S3 => ∃ p4, abin Try.prog .gtr 3 (.tmp 16) (.tmp 18) p1 p3 = some p4 ∧ Q ((((((T.set (T.get 1) 15).set p1 16).set (T.get 0) 17).set p3 18).set p4 19).set p4 14) S3) := by kernel_rfl
theorem reg12_4 {O : Known} {T : FT} {S : MS} {Q : FT → MS → Prop} : mOps Try.prog O 85 (ro 12 4).toList (ro 12 4).toList [] T S Q =
  (Q (T.set (.int .i64 192) 4) S) := by kernel_rfl
theorem reg12_5 {O : Known} {T : FT} {S : MS} {Q : FT → MS → Prop} : mDraw Try.prog O 85 (ro 12 5).toList T S Q =
  (CallM Try.prog O 31 [(T.get 1)] S fun p6 S6 => ∃ p1, nilS (T.get 0) = some p1 ∧ ∃ p2, faS 1 p1 = some p2 ∧ ∃ p3, ((ldS none S6 p2).bind fun v => (ldS none S p2).bind fun w => if veq v w then some v else none) = some p3 ∧ ∃ p4, abin Try.prog .sub 3 (.const (.int .i64 1)) (.tmp 23) (.int .i64 1) p3 = some p4 ∧ Q (((((((((T.set (T.get 1) 25).set p6 26).set (T.get 0) 20).set p1 21).set p2 22).set p3 23).set p4 24).set p4 5).set p6 6) S6) := by kernel_rfl
theorem reg12_6 {O : Known} {T : FT} {S : MS} {Q : FT → MS → Prop} : mDraw Try.prog O 85 (ro 12 6).toList T S Q =
  (∃ p5, nilS (T.get 0) = some p5 ∧ ∃ p6, faS 0 p5 = some p6 ∧ ∃ p7, ldS none S p6 = some p7 ∧ CallM Try.prog O 33 [p7, (T.get 5)] S fun p9 S9 => ∃ p1, nilS (T.get 0) = some p1 ∧ ∃ p2, faS 0 p1 = some p2 ∧ ∃ p3, ((ldS none S9 p2).bind fun v => (ldS none S p2).bind fun w => if veq v w then some v else none) = some p3 ∧ CallM Try.prog O 32 [p3, p9, (T.get 6)] S9 fun p11 S11 => Q (((((((((((((T.set (T.get 0) 31).set p5 32).set p6 33).set p7 34).set (T.get 5) 35).set p9 36).set (T.get 0) 27).set p1 28).set p2 29).set p3 30).set (T.get 6) 37).set p11 38).set p11 7) S11) := by kernel_rfl
theorem reg12_7 {O : Known} {T : FT} {S : MS} {Q : FT → MS → Prop} : mOps Try.prog O 85 (ro 12 7).toList (ro 12 7).toList [] T S Q =
  (∃ p1, abin Try.prog .neq 24 (.tmp 39) (.const (.int .i64 0)) (T.get 7) (.int .i64 0) = some p1 ∧ Q ((T.set (T.get 7) 39).set p1 40) S) := by kernel_rfl
theorem reg12_8 {O : Known} {T : FT} {S : MS} {Q : FT → MS → Prop} : mOps Try.prog O 85 (ro 12 8).toList (ro 12 8).toList [] T S Q =
  (CallM Try.prog O 41 [(T.get 0), (T.get 7)] S fun p2 S2 => Q ((((T.set (T.get 0) 41).set (T.get 7) 42).set p2 43).set p2 4) S2) := by kernel_rfl
theorem reg12_9 {O : Known} {T : FT} {S : MS} {Q : FT → MS → Prop} : mDraw Try.prog O 85 (ro 12 9).toList T S Q =
  (∃ p6, lenSl (T.get 6) = some p6 ∧ CallM Try.prog O 34 [(T.get 5), p6] S fun p7 S7 => ∃ p1, nilS (T.get 0) = some p1 ∧ ∃ p2, faS 0 p1 = some p2 ∧ ∃ p3, ((ldS none S7 p2).bind fun v => (ldS none S p2).bind fun w => if veq v w then some v else none) = some p3 ∧ CallM Try.prog O 30 [p3, (.int .i64 0), p7] S7 fun p8 S8 => Q ((((((((((T.set (T.get 5) 48).set (T.get 6) 49).set p6 50).set p7 51).set (T.get 0) 44).set p1 45).set p2 46).set p3 47).set p8 52).set p8 8) S8) := by kernel_rfl
theorem reg12_10 {O : Known} {T : FT} {S : MS} {Q : FT → MS → Prop} : mOps Try.prog O 85 (ro 12 10).toList (ro 12 10).toList [] T S Q =
  (∃ p1, abin Try.prog .neq 24 (.tmp 53) (.const (.int .i64 0)) (T.get 8) (.int .i64 0) = some p1 ∧ Q ((T.set (T.get 8) 53).set p1 54) S) := by kernel_rfl
theorem reg12_11 {O : Known} {T : FT} {S : MS} {Q : FT → MS → Prop} : mOps Try.prog O 85 (ro 12 11).toList (ro 12 11).toList [] T S Q =
  (CallM Try.prog O 41 [(T.get 0), (T.get 8)] S fun p2 S2 => Q ((((T.set (T.get 0) 55).set (T.get 8) 56).set p2 57).set p2 4) S2) := by kernel_rfl
theorem reg12_12 {O : Known} {T : FT} {S : MS} {Q : FT → MS → Prop} : mOps Try.prog O 85 (ro 12 12).toList (ro 12 12).toList [] T S Q =
  (∃ p5, lenSl (T.get 6) = some p5 ∧ ∃ p8, lenSl (T.get 6) = some p8 ∧ ∃ p9, abin Try.prog .quo 3 (.tmp 66) (.const (.int .i64 256)) p8 (.int .i64 256) = some p9 ∧ ∃ p10, abin Try.prog .mul 3 (.tmp 67) (.const (.int .i64 256)) p9 (.int .i64 256) = some p10 ∧ ∃ p11, slS 1 S (T.get 6) (some p10) none none = some p11 ∧ CallM Try.prog O 40 [p11] S fun p12 S12 => ∃ p13, nilS (T.get 0) = some p13 ∧ ∃ p14, faS 1 p13 = some p14 ∧ ∃ S15, stS 1 S12 p14 (T.get 5) = some S15 ∧ ∃ p16, nilS (T.get 0) = some p16 ∧ ∃ p17, faS 2 p16 = some p17 ∧ ∃ S18, stS 1 S15 p17 p5 = some S18 ∧ ∃ p19, nilS (T.get 0) = some p19 ∧ ∃ p20, faS 5 p19 = some p20 ∧ ∃ S21, stS 1 S18 p20 p12 = some S21 ∧ Q (((((((((((((((((((T.set (T.get 0) 58).set (T.get 0) 59).set (T.get 0) 60).set (T.get 5) 61).set (T.get 6) 62).set p5 63).set (T.get 6) 64).set (T.get 6) 65).set p8 66).set p9 67).set p10 68).set p11 69).set p12 70).set p13 71).set p14 72).set p16 73).set p17 74).set p19 75).set p20 76) S21) := by kernel_rfl
theorem reg12_13 {O : Known} {T : FT} {S : MS} {Q : FT → MS → Prop} : mOps Try.prog O 85 (ro 12 13).toList (ro 12 13).toList [] T S Q =
  (CallM Try.prog O 40 [(T.get 1)] S fun p3 S3 => ∃ p4, nilS (T.get 0) = some p4 ∧ ∃ p5, faS 3 p4 = some p5 ∧ ∃ S6, stS 1 S3 p5 p3 = some S6 ∧ ∃ p7, nilS (T.get 0) = some p7 ∧ ∃ p8, faS 4 p7 = some p8 ∧ ∃ S9, stS 1 S6 p8 (.slice none 0 0) = some S9 ∧ Q ((((((((T.set (T.get 0) 77).set (T.get 0) 78).set (T.get 1) 79).set p3 80).set p4 81).set p5 82).set p7 83).set p8 84) S9) := by kernel_rfl
theorem reg12_14 {O : Known} {T : FT} {S : MS} {Q : FT → MS → Prop} : mOps Try.prog O 85 (ro 12 14).toList (ro 12 14).toList [] T S Q =
  (Q (T.set (.int .i64 0) 4) S) := by kernel_rfl
/-! ### 13: (*windlass/journal.Journal).Records -/
noncomputable def blk13_1 : Code := .block 1 (.seq (.region 4 (ro 13 4) false) (.region 5 (ro 13 5) false))
noncomputable def blk13_0 : Code := .block 0 (.loop (.seq (.region 3 (ro 13 3) false) (.seq (.cond (.tmp 12) .skip (.exit 0)) (.seq blk13_1 (.region 6 (ro 13 6) false)))))
theorem body13 : (Try.prog.funcs[13]?).bind (·.body) = some (.seq (.region 0 (ro 13 0) false) (.seq (.region 1 (ro 13 1) false) (.seq (.seq (.region 2 (ro 13 2) false) blk13_0) (.seq (.region 7 (ro 13 7) false) .ret)))) := by kernel_rfl
theorem res13 : (Try.prog.funcs[13]?).map (·.results.toList) = some [.tmp 2] := by kernel_rfl
theorem is13 : fnIsB Try.prog 13 22 = true := by kernel_rfl
theorem reg13_0 {O : Known} {T : FT} {S : MS} {Q : FT → MS → Prop} : mOps Try.prog O 22 (ro 13 0).toList (ro 13 0).toList [] T S Q =
  (Q (T.set (.slice none 0 0) 2) S) := by kernel_rfl
theorem reg13_1 {O : Known} {T : FT} {S : MS} {Q : FT → MS → Prop} : mOps Try.prog O 22 (ro 13 1).toList (ro 13 1).toList [] T S Q =
  (Q (T.set (.slice none 0 0) 3) S) := by kernel_rfl
theorem reg13_2 {O : Known} {T : FT} {S : MS} {Q : FT → MS → Prop} : mOps Try.prog O 22 (ro 13 2).toList (ro 13 2).toList [] T S Q =
  (∃ p1, nilS (T.get 0) = some p1 ∧ ∃ p2, faS 4 p1 = some p2 ∧ ∃ p3, ldS none S p2 = some p3 ∧ ∃ p4, lenSl p3 = some p4 ∧ Q ((((((T.set (T.get 0) 6).set p1 7).set p2 8).set p3 9).set p4 10).set (.int .i64 0) 11) S) := by kernel_rfl
theorem reg13_3 {O : Known} {T : FT} {S : MS} {Q : FT → MS → Prop} : mOps Try.prog O 22 (ro 13 3).toList (ro 13 3).toList [] T S Q =
  (∃ p0, abin Try.prog .lss 3 (.tmp 11) (.tmp 10) (T.get 11) (T.get 10) = some p0 ∧ Q (T.set p0 12) S) := by kernel_rfl
theorem reg13_4 {O : Known} {T : FT} {S : MS} {Q : FT → MS → Prop} : mOps Try.prog O 22 (ro 13 4).toList (ro 13 4).toList [] T S Q =
  (∃ p0, iaSS 1 (T.get 9) (T.get 11) = some p0 ∧ ∃ p1, ldS none S p0 = some p1 ∧ Q (((T.set p0 13).set p1 14).set p1 5) S) := by kernel_rfl
theorem reg13_5 {O : Known} {T : FT} {S : MS} {Q : FT → MS → Prop} : mOps Try.prog O 22 (ro 13 5).toList (ro 13 5).toList [] T S Q =
  (CallM Try.prog O 40 [(T.get 5)] S fun p2 S2 => ∃ p3 S3, bsS S2 1 1 [.slice none 0 0] [(0, p2)] = some (p3, S3) ∧ ∃ p4 S4, apS false 1 24 [.slice none 0 0] S3 [(T.get 3), p3] = some (p4, S4) ∧ Q ((((((T.set (T.get 3) 15).set (T.get 5) 16).set p2 17).set p3 18).set p4 19).set p4 3) S4) := by kernel_rfl
theorem reg13_6 {O : Known} {T : FT} {S : MS} {Q : FT → MS → Prop} : mOps Try.prog O 22 (ro 13 6).toList (ro 13 6).toList [] T S Q =
  (∃ p0, abin Try.prog .add 3 (.tmp 11) (.const (.int .i64 1)) (T.get 11) (.int .i64 1) = some p0 ∧ Q ((T.set p0 20).set p0 11) S) := by kernel_rfl
theorem reg13_7 {O : Known} {T : FT} {S : MS} {Q : FT → MS → Prop} : mOps Try.prog O 22 (ro 13 7).toList (ro 13 7).toList [] T S Q =
  (Q ((T.set (T.get 3) 21).set (T.get 3) 2) S) := by kernel_rfl
/-! ### 14: (*windlass/journal.Journal).Capacity -/
theorem body14 : (Try.prog.funcs[14]?).bind (·.body) = some (.seq (.region 0 (ro 14 0) false) (.seq (.region 1 (ro 14 1) false) .ret)) := by kernel_rfl
theorem res14 : (Try.prog.funcs[14]?).map (·.results.toList) = some [.tmp 2] := by kernel_rfl
theorem is14 : fnIsB Try.prog 14 8 = true := by kernel_rfl
theorem reg14_0 {O : Known} {T : FT} {S : MS} {Q : FT → MS → Prop} : mOps Try.prog O 8 (ro 14 0).toList (ro 14 0).toList [] T S Q =
  (Q (T.set (.int .i64 0) 2) S) := by kernel_rfl
theorem reg14_1 {O : Known} {T : FT} {S : MS} {Q : FT → MS → Prop} : mOps Try.prog O 8 (ro 14 1).toList (ro 14 1).toList [] T S Q =
  (∃ p1, nilS (T.get 0) = some p1 ∧ ∃ p2, faS 0 p1 = some p2 ∧ ∃ p3, ldS none S p2 = some p3 ∧ CallM Try.prog O 29 [p3] S fun p4 S4 => Q ((((((T.set (T.get 0) 3).set p1 4).set p2 5).set p3 6).set p4 7).set p4 2) S4) := by kernel_rfl
/-! ### 15: windlass/windlasslaw19.few -/
noncomputable def blk15_1 : Code := .block 1 (.region 5 (ro 15 5) false)
noncomputable def blk15_0 : Code := .block 0 (.loop (.seq (.seq (.region 3 (ro 15 3) false) (.cond (.tmp 8) .skip (.exit 0))) (.seq blk15_1 (.region 4 (ro 15 4) false))))
theorem body15 : (Try.prog.funcs[15]?).bind (·.body) = some (.seq (.region 0 (ro 15 0) false) (.seq (.region 1 (ro 15 1) false) (.seq (.seq (.region 2 (ro 15 2) false) blk15_0) (.seq (.region 6 (ro 15 6) false) .ret)))) := by kernel_rfl
theorem res15 : (Try.prog.funcs[15]?).map (·.results.toList) = some [.tmp 2] := by kernel_rfl
theorem is15 : fnIsB Try.prog 15 27 = true := by kernel_rfl
theorem reg15_0 {O : Known} {T : FT} {S : MS} {Q : FT → MS → Prop} : mOps Try.prog O 27 (ro 15 0).toList (ro 15 0).toList [] T S Q =
  (Q (T.set (.bool false) 2) S) := by kernel_rfl
theorem reg15_1 {O : Known} {T : FT} {S : MS} {Q : FT → MS → Prop} : mOps Try.prog O 27 (ro 15 1).toList (ro 15 1).toList [] T S Q =
  (Q (T.set (.int .i64 0) 3) S) := by kernel_rfl
theorem reg15_2 {O : Known} {T : FT} {S : MS} {Q : FT → MS → Prop} : mOps Try.prog O 27 (ro 15 2).toList (ro 15 2).toList [] T S Q =
  (Q (T.set (.int .i64 0) 4) S) := by kernel_rfl
theorem reg15_3 {O : Known} {T : FT} {S : MS} {Q : FT → MS → Prop} : mOps Try.prog O 27 (ro 15 3).toList (ro 15 3).toList [] T S Q =
  (∃ p2, lenSl (T.get 0) = some p2 ∧ ∃ p3, abin Try.prog .lss 3 (.tmp 5) (.tmp 7) (T.get 4) p2 = some p3 ∧ Q ((((T.set (T.get 4) 5).set (T.get 0) 6).set p2 7).set p3 8) S) := by kernel_rfl
theorem reg15_5 {O : Known} {T : FT} {S : MS} {Q : FT → MS → Prop} : mOps Try.prog O 27 (ro 15 5).toList (ro 15 5).toList [] T S Q =
  (∃ p3, iaSS 3 (T.get 0) (T.get 4) = some p3 ∧ ∃ p4, faS 2 p3 = some p4 ∧ ∃ p5, ldS none S p4 = some p5 ∧ ∃ p6, lenSl p5 = some p6 ∧ ∃ p7, aminmax false [p6, (.int .i64 5000)] = some p7 ∧ ∃ p8, abin Try.prog .add 3 (.tmp 11) (.tmp 18) (T.get 3) p7 = some p8 ∧ Q ((((((((((T.set (T.get 3) 11).set (T.get 0) 12).set (T.get 4) 13).set p3 14).set p4 15).set p5 16).set p6 17).set p7 18).set p8 19).set p8 3) S) := by kernel_rfl
theorem reg15_4 {O : Known} {T : FT} {S : MS} {Q : FT → MS → Prop} : mOps Try.prog O 27 (ro 15 4).toList (ro 15 4).toList [] T S Q =
  (∃ p1, abin Try.prog .add 3 (.tmp 9) (.const (.int .i64 1)) (T.get 4) (.int .i64 1) = some p1 ∧ Q (((T.set (T.get 4) 9).set p1 10).set p1 4) S) := by kernel_rfl
theorem reg15_6 {O : Known} {T : FT} {S : MS} {Q : FT → MS → Prop} : mOps Try.prog O 27 (ro 15 6).toList (ro 15 6).toList [] T S Q =
  (∃ p1, lenSl (T.get 0) = some p1 ∧ ∃ p2, abin Try.prog .leq 3 (.tmp 21) (.const (.int .i64 50)) p1 (.int .i64 50) = some p2 ∧ ∃ b3, p2 = .bool b3 ∧
      (b3 = true → ∃ p5, abin Try.prog .leq 3 (.tmp 24) (.const (.int .i64 20000)) (T.get 3) (.int .i64 20000) = some p5 ∧ ∃ p6, pickS p2 p5 (.bool false) = some p6 ∧ Q ((((((((T.set (T.get 0) 20).set p1 21).set p2 22).set p2 23).set (T.get 3) 24).set p5 25).set p6 26).set p6 2) S) ∧
      (b3 = false → ∃ p6, pickS p2 undef (.bool false) = some p6 ∧ Q ((((((((T.set (T.get 0) 20).set p1 21).set p2 22).set p2 23).set undef 24).set undef 25).set p6 26).set p6 2) S)) := by kernel_rfl
/-! ### 17: windlass/windlasslaw19.weight -/
theorem body17 : (Try.prog.funcs[17]?).bind (·.body) = some (.seq (.region 0 (ro 17 0) false) (.seq (.region 1 (ro 17 1) false) (.seq (.seq (.region 2 (ro 17 2) false) (.block 0 (.loop (.seq (.seq (.region 3 (ro 17 3) false) (.cond (.tmp 13) .skip (.exit 0))) (.seq (.block 1 (.region 5 (ro 17 5) false)) (.region 4 (ro 17 4) false)))))) (.seq (.region 6 (ro 17 6) false) .ret)))) := by kernel_rfl
theorem res17 : (Try.prog.funcs[17]?).map (·.results.toList) = some [.tmp 4] := by kernel_rfl
theorem is17 : fnIsB Try.prog 17 25 = true := by kernel_rfl
theorem reg17_0 {O : Known} {T : FT} {S : MS} {Q : FT → MS → Prop} : mOps Try.prog O 25 (ro 17 0).toList (ro 17 0).toList [] T S Q =
  (Q (T.set (.int .i64 0) 4) S) := by kernel_rfl
theorem reg17_1 {O : Known} {T : FT} {S : MS} {Q : FT → MS → Prop} : mOps Try.prog O 25 (ro 17 1).toList (ro 17 1).toList [] T S Q =
  (∃ p1, lenSl (T.get 0) = some p1 ∧ ∃ p2, abin Try.prog .add 3 (.tmp 8) (.const (.int .i64 8)) p1 (.int .i64 8) = some p2 ∧ Q ((((T.set (T.get 0) 7).set p1 8).set p2 9).set p2 5) S) := by kernel_rfl
theorem reg17_2 {O : Known} {T : FT} {S : MS} {Q : FT → MS → Prop} : mOps Try.prog O 25 (ro 17 2).toList (ro 17 2).toList [] T S Q =
  (Q (T.set (.int .i64 0) 6) S) := by kernel_rfl
theorem reg17_3 {O : Known} {T : FT} {S : MS} {Q : FT → MS → Prop} : mOps Try.prog O 25 (ro 17 3).toList (ro 17 3).toList [] T S Q =
  (∃ p2, lenSl (T.get 1) = some p2 ∧ ∃ p3, abin Try.prog .lss 3 (.tmp 10) (.tmp 12) (T.get 6) p2 = some p3 ∧ Q ((((T.set (T.get 6) 10).set (T.get 1) 11).set p2 12).set p3 13) S) := by kernel_rfl
theorem reg17_5 {O : Known} {T : FT} {S : MS} {Q : FT → MS → Prop} : mOps Try.prog O 25 (ro 17 5).toList (ro 17 5).toList [] T S Q =
  (∃ p3, iaSS 1 (T.get 1) (T.get 6) = some p3 ∧ ∃ p4, ldS none S p3 = some p4 ∧ ∃ p5, lenSl p4 = some p5 ∧ ∃ p6, abin Try.prog .add 3 (.tmp 16) (.tmp 21) (T.get 5) p5 = some p6 ∧ ∃ p7, abin Try.prog .add 3 (.tmp 22) (.const (.int .i64 8)) p6 (.int .i64 8) = some p7 ∧ Q (((((((((T.set (T.get 5) 16).set (T.get 1) 17).set (T.get 6) 18).set p3 19).set p4 20).set p5 21).set p6 22).set p7 23).set p7 5) S) := by kernel_rfl
theorem reg17_4 {O : Known} {T : FT} {S : MS} {Q : FT → MS → Prop} : mOps Try.prog O 25 (ro 17 4).toList (ro 17 4).toList [] T S Q =
  (∃ p1, abin Try.prog .add 3 (.tmp 14) (.const (.int .i64 1)) (T.get 6) (.int .i64 1) = some p1 ∧ Q (((T.set (T.get 6) 14).set p1 15).set p1 6) S) := by kernel_rfl
theorem reg17_6 {O : Known} {T : FT} {S : MS} {Q : FT → MS → Prop} : mOps Try.prog O 25 (ro 17 6).toList (ro 17 6).toList [] T S Q =
  (Q ((T.set (T.get 5) 24).set (T.get 5) 4) S) := by kernel_rfl
/-! ### 20: windlass/windlasslaw19.alike -/
theorem body20 : (Try.prog.funcs[20]?).bind (·.body) = some (.seq (.region 0 (ro 20 0) false) (.seq (.region 1 (ro 20 1) false) .ret)) := by kernel_rfl
theorem res20 : (Try.prog.funcs[20]?).map (·.results.toList) = some [.tmp 6] := by kernel_rfl
theorem is20 : fnIsB Try.prog 20 25 = true := by kernel_rfl
theorem reg20_0 {O : Known} {T : FT} {S : MS} {Q : FT → MS → Prop} : mOps Try.prog O 25 (ro 20 0).toList (ro 20 0).toList [] T S Q =
  (Q (T.set (.bool false) 6) S) := by kernel_rfl
theorem reg20_1 {O : Known} {T : FT} {S : MS} {Q : FT → MS → Prop} : mOps Try.prog O 25 (ro 20 1).toList (ro 20 1).toList [] T S Q =
  (CallM Try.prog O 25 [(T.get 0)] S fun p1 S1 => CallM Try.prog O 24 [p1, (T.get 1)] S1 fun p3 S3 => ∃ b4, p3 = .bool b4 ∧
       (b4 = true → CallM Try.prog O 13 [(T.get 0)] S3 fun p6 S6 => CallM Try.prog O 26 [p6, (T.get 2)] S6 fun p8 S8 => ∃ p9, pickS p3 p8 (.bool false) = some p9 ∧ ∃ b10, p9 = .bool b10 ∧
             (b10 = true → CallM Try.prog O 27 [(T.get 0)] S8 fun p12 S12 => CallM Try.prog O 17 [(T.get 1), (T.get 2)] S12 fun p15 S15 => ∃ p16, abin Try.prog .eql 3 (.tmp 19) (.tmp 22) p12 p15 = some p16 ∧ ∃ p17, pickS p9 p16 (.bool false) = some p17 ∧ Q (((((((((((((((((((T.set (T.get 0) 7).set p1 8).set (T.get 1) 9).set p3 10).set p3 11).set (T.get 0) 12).set p6 13).set (T.get 2) 14).set p8 15).set p9 16).set p9 17).set (T.get 0) 18).set p12 19).set (T.get 1) 20).set (T.get 2) 21).set p15 22).set p16 23).set p17 24).set p17 6) S15) ∧
             (b10 = false → ∃ p17, pickS p9 undef (.bool false) = some p17 ∧ Q (((((((((((((((((((T.set (T.get 0) 7).set p1 8).set (T.get 1) 9).set p3 10).set p3 11).set (T.get 0) 12).set p6 13).set (T.get 2) 14).set p8 15).set p9 16).set p9 17).set undef 18).set undef 19).set undef 20).set undef 21).set undef 22).set undef 23).set p17 24).set p17 6) S8)) ∧
       (b4 = false → ∃ p9, pickS p3 undef (.bool false) = some p9 ∧ ∃ b10, p9 = .bool b10 ∧
             (b10 = true → CallM Try.prog O 27 [(T.get 0)] S3 fun p12 S12 => CallM Try.prog O 17 [(T.get 1), (T.get 2)] S12 fun p15 S15 => ∃ p16, abin Try.prog .eql 3 (.tmp 19) (.tmp 22) p12 p15 = some p16 ∧ ∃ p17, pickS p9 p16 (.bool false) = some p17 ∧ Q (((((((((((((((((((T.set (T.get 0) 7).set p1 8).set (T.get 1) 9).set p3 10).set p3 11).set undef 12).set undef 13).set undef 14).set undef 15).set p9 16).set p9 17).set (T.get 0) 18).set p12 19).set (T.get 1) 20).set (T.get 2) 21).set p15 22).set p16 23).set p17 24).set p17 6) S15) ∧
             (b10 = false → ∃ p17, pickS p9 undef (.bool false) = some p17 ∧ Q (((((((((((((((((((T.set (T.get 0) 7).set p1 8).set (T.get 1) 9).set p3 10).set p3 11).set undef 12).set undef 13).set undef 14).set undef 15).set p9 16).set p9 17).set undef 18).set undef 19).set undef 20).set undef 21).set undef 22).set undef 23).set p17 24).set p17 6) S3))) := by kernel_rfl
/-! ### 21: windlass/journal.Weight -/
theorem body21 : (Try.prog.funcs[21]?).bind (·.body) = some (.seq (.region 0 (ro 21 0) false) (.seq (.region 1 (ro 21 1) false) .ret)) := by kernel_rfl
theorem res21 : (Try.prog.funcs[21]?).map (·.results.toList) = some [.tmp 2] := by kernel_rfl
theorem is21 : fnIsB Try.prog 21 6 = true := by kernel_rfl
theorem reg21_0 {O : Known} {T : FT} {S : MS} {Q : FT → MS → Prop} : mOps Try.prog O 6 (ro 21 0).toList (ro 21 0).toList [] T S Q =
  (Q (T.set (.int .i64 0) 2) S) := by kernel_rfl
theorem reg21_1 {O : Known} {T : FT} {S : MS} {Q : FT → MS → Prop} : mOps Try.prog O 6 (ro 21 1).toList (ro 21 1).toList [] T S Q =
  (∃ p1, lenSl (T.get 0) = some p1 ∧ ∃ p2, abin Try.prog .add 3 (.tmp 4) (.const (.int .i64 8)) p1 (.int .i64 8) = some p2 ∧ Q ((((T.set (T.get 0) 3).set p1 4).set p2 5).set p2 2) S) := by kernel_rfl
/-! ### 25: (*windlass/journal.Journal).Base -/
theorem body25 : (Try.prog.funcs[25]?).bind (·.body) = some (.seq (.region 0 (ro 25 0) false) (.seq (.region 1 (ro 25 1) false) .ret)) := by kernel_rfl
theorem res25 : (Try.prog.funcs[25]?).map (·.results.toList) = some [.tmp 2] := by kernel_rfl
theorem is25 : fnIsB Try.prog 25 8 = true := by kernel_rfl
theorem reg25_0 {O : Known} {T : FT} {S : MS} {Q : FT → MS → Prop} : mOps Try.prog O 8 (ro 25 0).toList (ro 25 0).toList [] T S Q =
  (Q (T.set (.slice none 0 0) 2) S) := by kernel_rfl
theorem reg25_1 {O : Known} {T : FT} {S : MS} {Q : FT → MS → Prop} : mOps Try.prog O 8 (ro 25 1).toList (ro 25 1).toList [] T S Q =
  (∃ p1, nilS (T.get 0) = some p1 ∧ ∃ p2, faS 3 p1 = some p2 ∧ ∃ p3, ldS none S p2 = some p3 ∧ CallM Try.prog O 40 [p3] S fun p4 S4 => Q ((((((T.set (T.get 0) 3).set p1 4).set p2 5).set p3 6).set p4 7).set p4 2) S4) := by kernel_rfl
/-! ### 26: windlass/windlasshelp.Lists -/
noncomputable def blk26_1 : Code := .block 1 (.seq (.region 6 (ro 26 6) true) (.cond (.tmp 27) (.seq (.region 7 (ro 26 7) false) .ret) .skip))
noncomputable def blk26_0 : Code := .block 0 (.loop (.seq (.seq (.region 4 (ro 26 4) false) (.cond (.tmp 14) .skip (.exit 0))) (.seq blk26_1 (.region 5 (ro 26 5) false))))
theorem body26 : (Try.prog.funcs[26]?).bind (·.body) = some (.seq (.region 0 (ro 26 0) false) (.seq (.seq (.region 1 (ro 26 1) false) (.cond (.tmp 10) (.seq (.region 2 (ro 26 2) false) .ret) .skip)) (.seq (.seq (.region 3 (ro 26 3) false) blk26_0) (.seq (.region 8 (ro 26 8) false) .ret)))) := by kernel_rfl
theorem res26 : (Try.prog.funcs[26]?).map (·.results.toList) = some [.tmp 4] := by kernel_rfl
theorem is26 : fnIsB Try.prog 26 28 = true := by kernel_rfl
theorem reg26_0 {O : Known} {T : FT} {S : MS} {Q : FT → MS → Prop} : mOps Try.prog O 28 (ro 26 0).toList (ro 26 0).toList [] T S Q =
  (Q (T.set (.bool false) 4) S) := by kernel_rfl
theorem reg26_1 {O : Known} {T : FT} {S : MS} {Q : FT → MS → Prop} : mOps Try.prog O 28 (ro 26 1).toList (ro 26 1).toList [] T S Q =
  (∃ p1, lenSl (T.get 0) = some p1 ∧ ∃ p3, lenSl (T.get 1) = some p3 ∧ ∃ p4, abin Try.prog .neq 3 (.tmp 7) (.tmp 9) p1 p3 = some p4 ∧ Q (((((T.set (T.get 0) 6).set p1 7).set (T.get 1) 8).set p3 9).set p4 10) S) := by kernel_rfl
theorem reg26_2 {O : Known} {T : FT} {S : MS} {Q : FT → MS → Prop} : mOps Try.prog O 28 (ro 26 2).toList (ro 26 2).toList [] T S Q =
  (Q (T.set (.bool false) 4) S) := by kernel_rfl
theorem reg26_3 {O : Known} {T : FT} {S : MS} {Q : FT → MS → Prop} : mOps Try.prog O 28 (ro 26 3).toList (ro 26 3).toList [] T S Q =
  (Q (T.set (.int .i64 0) 5) S) := by kernel_rfl
theorem reg26_4 {O : Known} {T : FT} {S : MS} {Q : FT → MS → Prop} : mOps Try.prog O 28 (ro 26 4).toList (ro 26 4).toList [] T S Q =
  (∃ p2, lenSl (T.get 0) = some p2 ∧ ∃ p3, abin Try.prog .lss 3 (.tmp 11) (.tmp 13) (T.get 5) p2 = some p3 ∧ Q ((((T.set (T.get 5) 11).set (T.get 0) 12).set p2 13).set p3 14) S) := by kernel_rfl
theorem reg26_6 {O : Known} {T : FT} {S : MS} {Q : FT → MS → Prop} : mDraw Try.prog O 28 (ro 26 6).toList T S Q =
  (∃ p2, iaSS 1 (T.get 0) (T.get 5) = some p2 ∧ ∃ p3, ldS none S p2 = some p3 ∧ ∃ p4, strS S p3 = some p4 ∧ ∃ p7, iaSS 1 (T.get 1) (T.get 5) = some p7 ∧ ∃ p8, ldS none S p7 = some p8 ∧ ∃ p9, strS S p8 = some p9 ∧ ∃ p10, abin Try.prog .neq 9 (.tmp 21) (.tmp 26) p4 p9 = some p10 ∧ Q (((((((((((T.set (T.get 0) 17).set (T.get 5) 18).set p2 19).set p3 20).set p4 21).set (T.get 1) 22).set (T.get 5) 23).set p7 24).set p8 25).set p9 26).set p10 27) S) := by kernel_rfl
theorem reg26_7 {O : Known} {T : FT} {S : MS} {Q : FT → MS → Prop} : mOps Try.prog O 28 (ro 26 7).toList (ro 26 7).toList [] T S Q =
  (Q (T.set (.bool false) 4) S) := by kernel_rfl
theorem reg26_5 {O : Known} {T : FT} {S : MS} {Q : FT → MS → Prop} : mOps Try.prog O 28 (ro 26 5).toList (ro 26 5).toList [] T S Q =
  (∃ p1, abin Try.prog .add 3 (.tmp 15) (.const (.int .i64 1)) (T.get 5) (.int .i64 1) = some p1 ∧ Q (((T.set (T.get 5) 15).set p1 16).set p1 5) S) := by kernel_rfl
theorem reg26_8 {O : Known} {T : FT} {S : MS} {Q : FT → MS → Prop} : mOps Try.prog O 28 (ro 26 8).toList (ro 26 8).toList [] T S Q =
  (Q (T.set (.bool true) 4) S) := by kernel_rfl
/-! ### 27: (*windlass/journal.Journal).Live -/
noncomputable def blk27_1 : Code := .block 1 (.seq (.region 4 (ro 27 4) false) (.region 5 (ro 27 5) false))
noncomputable def blk27_0 : Code := .block 0 (.loop (.seq (.region 3 (ro 27 3) false) (.seq (.cond (.tmp 17) .skip (.exit 0)) (.seq blk27_1 (.region 6 (ro 27 6) false)))))
theorem body27 : (Try.prog.funcs[27]?).bind (·.body) = some (.seq (.region 0 (ro 27 0) false) (.seq (.region 1 (ro 27 1) false) (.seq (.seq (.region 2 (ro 27 2) false) blk27_0) (.seq (.region 7 (ro 27 7) false) .ret)))) := by kernel_rfl
theorem res27 : (Try.prog.funcs[27]?).map (·.results.toList) = some [.tmp 2] := by kernel_rfl
theorem is27 : fnIsB Try.prog 27 26 = true := by kernel_rfl
theorem reg27_0 {O : Known} {T : FT} {S : MS} {Q : FT → MS → Prop} : mOps Try.prog O 26 (ro 27 0).toList (ro 27 0).toList [] T S Q =
  (Q (T.set (.int .i64 0) 2) S) := by kernel_rfl
theorem reg27_1 {O : Known} {T : FT} {S : MS} {Q : FT → MS → Prop} : mOps Try.prog O 26 (ro 27 1).toList (ro 27 1).toList [] T S Q =
  (∃ p1, nilS (T.get 0) = some p1 ∧ ∃ p2, faS 3 p1 = some p2 ∧ ∃ p3, ldS none S p2 = some p3 ∧ CallM Try.prog O 21 [p3] S fun p4 S4 => Q ((((((T.set (T.get 0) 6).set p1 7).set p2 8).set p3 9).set p4 10).set p4 3) S4) := by kernel_rfl
theorem reg27_2 {O : Known} {T : FT} {S : MS} {Q : FT → MS → Prop} : mOps Try.prog O 26 (ro 27 2).toList (ro 27 2).toList [] T S Q =
  (∃ p1, nilS (T.get 0) = some p1 ∧ ∃ p2, faS 4 p1 = some p2 ∧ ∃ p3, ldS none S p2 = some p3 ∧ ∃ p4, lenSl p3 = some p4 ∧ Q ((((((T.set (T.get 0) 11).set p1 12).set p2 13).set p3 14).set p4 15).set (.int .i64 0) 16) S) := by kernel_rfl
theorem reg27_3 {O : Known} {T : FT} {S : MS} {Q : FT → MS → Prop} : mOps Try.prog O 26 (ro 27 3).toList (ro 27 3).toList [] T S Q =
  (∃ p0, abin Try.prog .lss 3 (.tmp 16) (.tmp 15) (T.get 16) (T.get 15) = some p0 ∧ Q (T.set p0 17) S) := by kernel_rfl
theorem reg27_4 {O : Known} {T : FT} {S : MS} {Q : FT → MS → Prop} : mOps Try.prog O 26 (ro 27 4).toList (ro 27 4).toList [] T S Q =
  (∃ p0, iaSS 1 (T.get 14) (T.get 16) = some p0 ∧ ∃ p1, ldS none S p0 = some p1 ∧ Q (((T.set p0 18).set p1 19).set p1 5) S) := by kernel_rfl
theorem reg27_5 {O : Known} {T : FT} {S : MS} {Q : FT → MS → Prop} : mOps Try.prog O 26 (ro 27 5).toList (ro 27 5).toList [] T S Q =
  (CallM Try.prog O 21 [(T.get 5)] S fun p2 S2 => ∃ p3, abin Try.prog .add 3 (.tmp 20) (.tmp 22) (T.get 3) p2 = some p3 ∧ Q (((((T.set (T.get 3) 20).set (T.get 5) 21).set p2 22).set p3 23).set p3 3) S2) := by kernel_rfl
theorem reg27_6 {O : Known} {T : FT} {S : MS} {Q : FT → MS → Prop} : mOps Try.prog O 26 (ro 27 6).toList (ro 27 6).toList [] T S Q =
  (∃ p0, abin Try.prog .add 3 (.tmp 16) (.const (.int .i64 1)) (T.get 16) (.int .i64 1) = some p0 ∧ Q ((T.set p0 24).set p0 16) S) := by kernel_rfl
theorem reg27_7 {O : Known} {T : FT} {S : MS} {Q : FT → MS → Prop} : mOps Try.prog O 26 (ro 27 7).toList (ro 27 7).toList [] T S Q =
  (Q ((T.set (T.get 3) 25).set (T.get 3) 2) S) := by kernel_rfl
/-! ### 29: windlass/journal.capacity -/
theorem body29 : (Try.prog.funcs[29]?).bind (·.body) = some (.seq (.region 0 (ro 29 0) false) (.seq (.region 1 (ro 29 1) false) .ret)) := by kernel_rfl
theorem res29 : (Try.prog.funcs[29]?).map (·.results.toList) = some [.tmp 2] := by kernel_rfl
theorem is29 : fnIsB Try.prog 29 6 = true := by kernel_rfl
theorem reg29_0 {O : Known} {T : FT} {S : MS} {Q : FT → MS → Prop} : mOps Try.prog O 6 (ro 29 0).toList (ro 29 0).toList [] T S Q =
  (Q (T.set (.int .i64 0) 2) S) := by kernel_rfl
theorem reg29_1 {O : Known} {T : FT} {S : MS} {Q : FT → MS → Prop} : mOps Try.prog O 6 (ro 29 1).toList (ro 29 1).toList [] T S Q =
  (CallM Try.prog O 28 [(T.get 0)] S fun p1 S1 => ∃ p2, abin Try.prog .mul 3 (.const (.int .i64 32)) (.tmp 4) (.int .i64 32) p1 = some p2 ∧ Q ((((T.set (T.get 0) 3).set p1 4).set p2 5).set p2 2) S1) := by kernel_rfl
/-! ### 31: windlass/journal.laid -/
theorem body31 : (Try.prog.funcs[31]?).bind (·.body) = some (.seq (.region 0 (ro 31 0) false) (.seq (.region 1 (ro 31 1) false) .ret)) := by kernel_rfl
theorem res31 : (Try.prog.funcs[31]?).map (·.results.toList) = some [.tmp 2] := by kernel_rfl
theorem is31 : fnIsB Try.prog 31 8 = true := by kernel_rfl
theorem reg31_0 {O : Known} {T : FT} {S : MS} {Q : FT → MS → Prop} : mOps Try.prog O 8 (ro 31 0).toList (ro 31 0).toList [] T S Q =
  (Q (T.set (.slice none 0 0) 2) S) := by kernel_rfl
theorem reg31_1 {O : Known} {T : FT} {S : MS} {Q : FT → MS → Prop} : mOps Try.prog O 8 (ro 31 1).toList (ro 31 1).toList [] T S Q =
  (∃ p1, lenSl (T.get 0) = some p1 ∧ CallM Try.prog O 43 [p1] S fun p2 S2 => ∃ p4 S4, apS false 1 1 [.int .u8 0] S2 [p2, (T.get 0)] = some (p4, S4) ∧ Q ((((((T.set (T.get 0) 3).set p1 4).set p2 5).set (T.get 0) 6).set p4 7).set p4 2) S4) := by kernel_rfl
/-! ### 32: windlass/journal.writes -/
noncomputable def blk32_1 : Code := .block 1 (.seq (.region 4 (ro 32 4) false) (.seq (.region 5 (ro 32 5) false) (.cond (.tmp 21) (.seq (.region 6 (ro 32 6) false) .ret) .skip)))
noncomputable def blk32_0 : Code := .block 0 (.rangeFunc (.tmp 11) #[12, 13] (.seq (.region 2 (ro 32 2) false) (.region 3 (ro 32 3) false)) blk32_1)
theorem body32 : (Try.prog.funcs[32]?).bind (·.body) = some (.seq (.region 0 (ro 32 0) false) (.seq (.seq (.region 1 (ro 32 1) false) blk32_0) (.seq (.region 7 (ro 32 7) false) .ret))) := by kernel_rfl
theorem res32 : (Try.prog.funcs[32]?).map (·.results.toList) = some [.cell 6 24] := by kernel_rfl
theorem is32 : fnIsB Try.prog 32 23 = true := by kernel_rfl
theorem reg32_0 {O : Known} {T : FT} {S : MS} {Q : FT → MS → Prop} : mOps Try.prog O 23 (ro 32 0).toList (ro 32 0).toList [] T S Q =
  (Q (((T.set (ptrTo S.n) 3).set (ptrTo (S.fresh (Value.cells (T.get 0)).toList 0).n) 4).set (ptrTo ((S.fresh (Value.cells (T.get 0)).toList 0).fresh (Value.cells (T.get 1)).toList 0).n) 6) (((S.fresh (Value.cells (T.get 0)).toList 0).fresh (Value.cells (T.get 1)).toList 0).fresh [.int .i64 0] 0)) := by kernel_rfl
theorem reg32_1 {O : Known} {T : FT} {S : MS} {Q : FT → MS → Prop} : mOps Try.prog O 23 (ro 32 1).toList (ro 32 1).toList [] T S Q =
  (CallM Try.prog O 44 [(T.get 2)] S fun p1 S1 => Q ((T.set (T.get 2) 10).set p1 11) S1) := by kernel_rfl
theorem reg32_2 {O : Known} {T : FT} {S : MS} {Q : FT → MS → Prop} : mOps Try.prog O 23 (ro 32 2).toList (ro 32 2).toList [] T S Q =
  (Q (T.set (T.get 12) 7) S) := by kernel_rfl
theorem reg32_3 {O : Known} {T : FT} {S : MS} {Q : FT → MS → Prop} : mOps Try.prog O 23 (ro 32 3).toList (ro 32 3).toList [] T S Q =
  (Q (T.set (T.get 13) 8) S) := by kernel_rfl
theorem reg32_4 {O : Known} {T : FT} {S : MS} {Q : FT → MS → Prop} : mOps Try.prog O 23 (ro 32 4).toList (ro 32 4).toList [] T S Q =
  (∃ p0, ldS none S (T.get 3) = some p0 ∧ ∃ p1, ldS none S (T.get 4) = some p1 ∧ ∃ p3, abin Try.prog .add 3 (.tmp 15) (.tmp 16) p1 (T.get 7) = some p3 ∧ CallM Try.prog O 30 [p0, p3, (T.get 8)] S fun p5 S5 => Q (((((((T.set p0 14).set p1 15).set (T.get 7) 16).set p3 17).set (T.get 8) 18).set p5 19).set p5 9) S5) := by kernel_rfl
theorem reg32_5 {O : Known} {T : FT} {S : MS} {Q : FT → MS → Prop} : mOps Try.prog O 23 (ro 32 5).toList (ro 32 5).toList [] T S Q =
  (∃ p1, abin Try.prog .neq 24 (.tmp 20) (.const (.int .i64 0)) (T.get 9) (.int .i64 0) = some p1 ∧ Q ((T.set (T.get 9) 20).set p1 21) S) := by kernel_rfl
theorem reg32_6 {O : Known} {T : FT} {S : MS} {Q : FT → MS → Prop} : mOps Try.prog O 23 (ro 32 6).toList (ro 32 6).toList [] T S Q =
  (∃ S1, stS 1 S (T.get 6) (T.get 9) = some S1 ∧ Q (T.set (T.get 9) 22) S1) := by kernel_rfl
theorem reg32_7 {O : Known} {T : FT} {S : MS} {Q : FT → MS → Prop} : mOps Try.prog O 23 (ro 32 7).toList (ro 32 7).toList [] T S Q =
  (∃ S0, stS 1 S (T.get 6) (.int .i64 0) = some S0 ∧ Q T S0) := by kernel_rfl
/-! ### 33: windlass/journal.place -/
theorem body33 : (Try.prog.funcs[33]?).bind (·.body) = some (.seq (.region 0 (ro 33 0) false) (.seq (.region 1 (ro 33 1) false) .ret)) := by kernel_rfl
theorem res33 : (Try.prog.funcs[33]?).map (·.results.toList) = some [.tmp 4] := by kernel_rfl
theorem is33 : fnIsB Try.prog 33 12 = true := by kernel_rfl
theorem reg33_0 {O : Known} {T : FT} {S : MS} {Q : FT → MS → Prop} : mOps Try.prog O 12 (ro 33 0).toList (ro 33 0).toList [] T S Q =
  (Q (T.set (.int .i64 0) 4) S) := by kernel_rfl
theorem reg33_1 {O : Known} {T : FT} {S : MS} {Q : FT → MS → Prop} : mOps Try.prog O 12 (ro 33 1).toList (ro 33 1).toList [] T S Q =
  (CallM Try.prog O 28 [(T.get 0)] S fun p2 S2 => ∃ p3, abin Try.prog .sub 3 (.tmp 7) (.const (.int .i64 1)) p2 (.int .i64 1) = some p3 ∧ ∃ p4, abin Try.prog .quo 3 (.tmp 8) (.const (.int .i64 2)) p3 (.int .i64 2) = some p4 ∧ ∃ p5, abin Try.prog .mul 3 (.tmp 5) (.tmp 9) (T.get 1) p4 = some p5 ∧ ∃ p6, abin Try.prog .add 3 (.const (.int .i64 1)) (.tmp 10) (.int .i64 1) p5 = some p6 ∧ Q ((((((((T.set (T.get 1) 5).set (T.get 0) 6).set p2 7).set p3 8).set p4 9).set p5 10).set p6 11).set p6 4) S2) := by kernel_rfl
/-! ### 34: windlass/journal.head -/
theorem body34 : (Try.prog.funcs[34]?).bind (·.body) = some (.seq (.region 0 (ro 34 0) false) (.seq (.region 1 (ro 34 1) false) (.seq (.region 2 (ro 34 2) false) .ret))) := by kernel_rfl
theorem res34 : (Try.prog.funcs[34]?).map (·.results.toList) = some [.tmp 4] := by kernel_rfl
theorem is34 : fnIsB Try.prog 34 18 = true := by kernel_rfl
theorem reg34_0 {O : Known} {T : FT} {S : MS} {Q : FT → MS → Prop} : mOps Try.prog O 18 (ro 34 0).toList (ro 34 0).toList [] T S Q =
  (Q (T.set (.slice none 0 0) 4) S) := by kernel_rfl
theorem reg34_1 {O : Known} {T : FT} {S : MS} {Q : FT → MS → Prop} : mOps Try.prog O 18 (ro 34 1).toList (ro 34 1).toList [] T S Q =
  (CallM Try.prog O 43 [(.int .i64 2003398244)] S fun p0 S0 => CallM Try.prog O 43 [(T.get 0)] S0 fun p2 S2 => ∃ p3 S3, apS false 1 1 [.int .u8 0] S2 [p0, p2] = some (p3, S3) ∧ CallM Try.prog O 43 [(T.get 1)] S3 fun p5 S5 => ∃ p6 S6, apS false 1 1 [.int .u8 0] S5 [p3, p5] = some (p6, S6) ∧ Q ((((((((T.set p0 6).set (T.get 0) 7).set p2 8).set p3 9).set (T.get 1) 10).set p5 11).set p6 12).set p6 5) S6) := by kernel_rfl
theorem reg34_2 {O : Known} {T : FT} {S : MS} {Q : FT → MS → Prop} : mOps Try.prog O 18 (ro 34 2).toList (ro 34 2).toList [] T S Q =
  (∃ p2, lenSl (T.get 5) = some p2 ∧ ∃ p3, abin Try.prog .sub 3 (.const (.int .i64 256)) (.tmp 15) (.int .i64 256) p2 = some p3 ∧ ∃ p4 S4, apS true 1 1 [.int .u8 0] S [(T.get 5), p3] = some (p4, S4) ∧ Q ((((((T.set (T.get 5) 13).set (T.get 5) 14).set p2 15).set p3 16).set p4 17).set p4 4) S4) := by kernel_rfl
/-! ### 36: windlass/journal.read -/
noncomputable def blk36_1 : Code := .block 1 (.seq (.region 4 (ro 36 4) false) (.region 5 (ro 36 5) false))
noncomputable def blk36_0 : Code := .block 0 (.loop (.seq (.region 3 (ro 36 3) false) (.seq (.cond (.tmp 6) .skip (.exit 0)) (.seq blk36_1 (.region 6 (ro 36 6) false)))))
theorem body36 : (Try.prog.funcs[36]?).bind (·.body) = some (.seq (.region 0 (ro 36 0) false) (.seq (.region 1 (ro 36 1) false) (.seq (.seq (.region 2 (ro 36 2) false) blk36_0) (.seq (.region 7 (ro 36 7) false) .ret)))) := by kernel_rfl
theorem res36 : (Try.prog.funcs[36]?).map (·.results.toList) = some [.tmp 2] := by kernel_rfl
theorem is36 : fnIsB Try.prog 36 20 = true := by kernel_rfl
theorem reg36_0 {O : Known} {T : FT} {S : MS} {Q : FT → MS → Prop} : mOps Try.prog O 20 (ro 36 0).toList (ro 36 0).toList [] T S Q =
  (Q (T.set (.int .i64 0) 2) S) := by kernel_rfl
theorem reg36_1 {O : Known} {T : FT} {S : MS} {Q : FT → MS → Prop} : mOps Try.prog O 20 (ro 36 1).toList (ro 36 1).toList [] T S Q =
  (Q (T.set (.int .i64 0) 3) S) := by kernel_rfl
theorem reg36_2 {O : Known} {T : FT} {S : MS} {Q : FT → MS → Prop} : mOps Try.prog O 20 (ro 36 2).toList (ro 36 2).toList [] T S Q =
  (Q (T.set (.int .i64 0) 5) S) := by kernel_rfl
theorem reg36_3 {O : Known} {T : FT} {S : MS} {Q : FT → MS → Prop} : mOps Try.prog O 20 (ro 36 3).toList (ro 36 3).toList [] T S Q =
  (∃ p0, abin Try.prog .lss 3 (.tmp 5) (.const (.int .i64 8)) (T.get 5) (.int .i64 8) = some p0 ∧ Q (T.set p0 6) S) := by kernel_rfl
theorem reg36_4 {O : Known} {T : FT} {S : MS} {Q : FT → MS → Prop} : mOps Try.prog O 20 (ro 36 4).toList (ro 36 4).toList [] T S Q =
  (Q ((T.set (T.get 5) 7).set (T.get 5) 4) S) := by kernel_rfl
theorem reg36_5 {O : Known} {T : FT} {S : MS} {Q : FT → MS → Prop} : mOps Try.prog O 20 (ro 36 5).toList (ro 36 5).toList [] T S Q =
  (∃ p3, iaSS 1 (T.get 0) (T.get 4) = some p3 ∧ ∃ p4, ldS none S p3 = some p4 ∧ ∃ p5, cvInt .i64 p4 = some p5 ∧ ∃ p7, abin Try.prog .mul 3 (.const (.int .i64 8)) (.tmp 14) (.int .i64 8) (T.get 4) = some p7 ∧ ∃ p8, abin Try.prog .shl 3 (.tmp 13) (.tmp 15) p5 p7 = some p8 ∧ ∃ p9, abin Try.prog .or 3 (.tmp 8) (.tmp 16) (T.get 3) p8 = some p9 ∧ Q (((((((((((T.set (T.get 3) 8).set (T.get 0) 9).set (T.get 4) 10).set p3 11).set p4 12).set p5 13).set (T.get 4) 14).set p7 15).set p8 16).set p9 17).set p9 3) S) := by kernel_rfl
theorem reg36_6 {O : Known} {T : FT} {S : MS} {Q : FT → MS → Prop} : mOps Try.prog O 20 (ro 36 6).toList (ro 36 6).toList [] T S Q =
  (∃ p0, abin Try.prog .add 3 (.tmp 5) (.const (.int .i64 1)) (T.get 5) (.int .i64 1) = some p0 ∧ Q ((T.set p0 18).set p0 5) S) := by kernel_rfl
theorem reg36_7 {O : Known} {T : FT} {S : MS} {Q : FT → MS → Prop} : mOps Try.prog O 20 (ro 36 7).toList (ro 36 7).toList [] T S Q =
  (Q ((T.set (T.get 3) 19).set (T.get 3) 2) S) := by kernel_rfl
/-! ### 37: bytes.Equal -/
theorem body37 : (Try.prog.funcs[37]?).bind (·.body) = some (.seq (.region 0 (ro 37 0) false) (.seq (.region 1 (ro 37 1) false) .ret)) := by kernel_rfl
theorem res37 : (Try.prog.funcs[37]?).map (·.results.toList) = some [.tmp 4] := by kernel_rfl
theorem is37 : fnIsB Try.prog 37 10 = true := by kernel_rfl
theorem reg37_0 {O : Known} {T : FT} {S : MS} {Q : FT → MS → Prop} : mOps Try.prog O 10 (ro 37 0).toList (ro 37 0).toList [] T S Q =
  (Q (T.set (.bool false) 4) S) := by kernel_rfl
theorem reg37_1 {O : Known} {T : FT} {S : MS} {Q : FT → MS → Prop} : mOps Try.prog O 10 (ro 37 1).toList (ro 37 1).toList [] T S Q =
  (∃ p1, strS S (T.get 0) = some p1 ∧ ∃ p3, strS S (T.get 1) = some p3 ∧ ∃ p4, abin Try.prog .eql 9 (.tmp 6) (.tmp 8) p1 p3 = some p4 ∧ Q ((((((T.set (T.get 0) 5).set p1 6).set (T.get 1) 7).set p3 8).set p4 9).set p4 4) S) := by kernel_rfl
/-! ### 38: windlass/journal.bytesOf -/
noncomputable def blk38_1 : Code := .block 1 (.seq (.region 5 (ro 38 5) false) (.seq (.seq (.region 6 (ro 38 6) false) (.cond (.tmp 28) (.seq (.region 7 (ro 38 7) false) .ret) .skip)) (.region 8 (ro 38 8) false)))
noncomputable def blk38_0 : Code := .block 0 (.loop (.seq (.seq (.region 3 (ro 38 3) false) (.cond (.tmp 18) .skip (.exit 0))) (.seq blk38_1 (.region 4 (ro 38 4) false))))
theorem body38 : (Try.prog.funcs[38]?).bind (·.body) = some (.seq (.region 0 (ro 38 0) false) (.seq (.region 1 (ro 38 1) false) (.seq (.seq (.region 2 (ro 38 2) false) blk38_0) (.seq (.region 9 (ro 38 9) false) .ret)))) := by kernel_rfl
theorem res38 : (Try.prog.funcs[38]?).map (·.results.toList) = some [.tmp 6, .tmp 7] := by kernel_rfl
theorem is38 : fnIsB Try.prog 38 37 = true := by kernel_rfl
theorem reg38_0 {O : Known} {T : FT} {S : MS} {Q : FT → MS → Prop} : mOps Try.prog O 37 (ro 38 0).toList (ro 38 0).toList [] T S Q =
  (Q ((T.set (.slice none 0 0) 6).set (.int .i64 0) 7) S) := by kernel_rfl
theorem reg38_1 {O : Known} {T : FT} {S : MS} {Q : FT → MS → Prop} : mOps Try.prog O 37 (ro 38 1).toList (ro 38 1).toList [] T S Q =
  (Q (T.set (.slice none 0 0) 8) S) := by kernel_rfl
theorem reg38_2 {O : Known} {T : FT} {S : MS} {Q : FT → MS → Prop} : mOps Try.prog O 37 (ro 38 2).toList (ro 38 2).toList [] T S Q =
  (CallM Try.prog O 33 [(T.get 0), (T.get 1)] S fun p2 S2 => Q ((((T.set (T.get 0) 12).set (T.get 1) 13).set p2 14).set p2 9) S2) := by kernel_rfl
theorem reg38_3 {O : Known} {T : FT} {S : MS} {Q : FT → MS → Prop} : mOps Try.prog O 37 (ro 38 3).toList (ro 38 3).toList [] T S Q =
  (∃ p1, lenSl (T.get 8) = some p1 ∧ ∃ p3, abin Try.prog .lss 3 (.tmp 16) (.tmp 17) p1 (T.get 2) = some p3 ∧ Q ((((T.set (T.get 8) 15).set p1 16).set (T.get 2) 17).set p3 18) S) := by kernel_rfl
theorem reg38_5 {O : Known} {T : FT} {S : MS} {Q : FT → MS → Prop} : mOps Try.prog O 37 (ro 38 5).toList (ro 38 5).toList [] T S Q =
  (CallM Try.prog O 35 [(T.get 0), (T.get 9)] S fun p2 S2 => ∃ p4, aextract p2 0 = some p4 ∧ ∃ p5, aextract p2 1 = some p5 ∧ Q ((((((((T.set (T.get 0) 22).set (T.get 9) 23).set p2 24).set p2 21).set p4 25).set p5 26).set p4 10).set p5 11) S2) := by kernel_rfl
theorem reg38_6 {O : Known} {T : FT} {S : MS} {Q : FT → MS → Prop} : mOps Try.prog O 37 (ro 38 6).toList (ro 38 6).toList [] T S Q =
  (∃ p1, abin Try.prog .neq 24 (.tmp 27) (.const (.int .i64 0)) (T.get 11) (.int .i64 0) = some p1 ∧ Q ((T.set (T.get 11) 27).set p1 28) S) := by kernel_rfl
theorem reg38_8 {O : Known} {T : FT} {S : MS} {Q : FT → MS → Prop} : mOps Try.prog O 37 (ro 38 8).toList (ro 38 8).toList [] T S Q =
  (∃ p2 S2, apS false 1 1 [.int .u8 0] S [(T.get 8), (T.get 10)] = some (p2, S2) ∧ Q ((((T.set (T.get 8) 30).set (T.get 10) 31).set p2 32).set p2 8) S2) := by kernel_rfl
theorem reg38_4 {O : Known} {T : FT} {S : MS} {Q : FT → MS → Prop} : mOps Try.prog O 37 (ro 38 4).toList (ro 38 4).toList [] T S Q =
  (∃ p1, abin Try.prog .add 3 (.tmp 19) (.const (.int .i64 1)) (T.get 9) (.int .i64 1) = some p1 ∧ Q (((T.set (T.get 9) 19).set p1 20).set p1 9) S) := by kernel_rfl
theorem reg38_9 {O : Known} {T : FT} {S : MS} {Q : FT → MS → Prop} : mOps Try.prog O 37 (ro 38 9).toList (ro 38 9).toList [] T S Q =
  (∃ p3, slS 1 S (T.get 8) none (some (T.get 2)) (some (T.get 2)) = some p3 ∧ Q ((((((T.set (T.get 8) 33).set (T.get 2) 34).set (T.get 2) 35).set p3 36).set p3 6).set (.int .i64 0) 7) S) := by kernel_rfl
/-! ### 39: windlass/journal.parts -/
theorem body39 : (Try.prog.funcs[39]?).bind (·.body) = some (.seq (.region 0 (ro 39 0) false) (.seq (.region 1 (ro 39 1) false) .ret)) := by kernel_rfl
theorem res39 : (Try.prog.funcs[39]?).map (·.results.toList) = some [.tmp 2] := by kernel_rfl
theorem is39 : fnIsB Try.prog 39 4 = true := by kernel_rfl
theorem reg39_0 {O : Known} {T : FT} {S : MS} {Q : FT → MS → Prop} : mOps Try.prog O 4 (ro 39 0).toList (ro 39 0).toList [] T S Q =
  (Q ((T.set (ptrTo S.n) 1).set (.nilFunc) 2) (S.fresh (Value.cells (T.get 0)).toList 0)) := by kernel_rfl
theorem reg39_1 {O : Known} {T : FT} {S : MS} {Q : FT → MS → Prop} : mOps Try.prog O 4 (ro 39 1).toList (ro 39 1).toList [] T S Q =
  (Q ((T.set (.func (.func 45) (Array.mk []) (Array.mk [(T.get 1)])) 3).set (.func (.func 45) (Array.mk []) (Array.mk [(T.get 1)])) 2) S) := by kernel_rfl
/-! ### 40: bytes.Clone -/
theorem body40 : (Try.prog.funcs[40]?).bind (·.body) = some (.seq (.region 0 (ro 40 0) false) (.seq (.seq (.region 1 (ro 40 1) false) (.cond (.tmp 4) (.seq (.region 2 (ro 40 2) false) .ret) .skip)) (.seq (.region 3 (ro 40 3) false) .ret))) := by kernel_rfl
theorem res40 : (Try.prog.funcs[40]?).map (·.results.toList) = some [.tmp 2] := by kernel_rfl
theorem is40 : fnIsB Try.prog 40 8 = true := by kernel_rfl
theorem reg40_0 {O : Known} {T : FT} {S : MS} {Q : FT → MS → Prop} : mOps Try.prog O 8 (ro 40 0).toList (ro 40 0).toList [] T S Q =
  (Q (T.set (.slice none 0 0) 2) S) := by kernel_rfl
theorem reg40_1 {O : Known} {T : FT} {S : MS} {Q : FT → MS → Prop} : mOps Try.prog O 8 (ro 40 1).toList (ro 40 1).toList [] T S Q =
  (∃ p1, abin Try.prog .eql 32 (.tmp 3) (.const (.slice none 0 0)) (T.get 0) (.slice none 0 0) = some p1 ∧ Q ((T.set (T.get 0) 3).set p1 4) S) := by kernel_rfl
theorem reg40_2 {O : Known} {T : FT} {S : MS} {Q : FT → MS → Prop} : mOps Try.prog O 8 (ro 40 2).toList (ro 40 2).toList [] T S Q =
  (Q (T.set (.slice none 0 0) 2) S) := by kernel_rfl
theorem reg40_3 {O : Known} {T : FT} {S : MS} {Q : FT → MS → Prop} : mOps Try.prog O 8 (ro 40 3).toList (ro 40 3).toList [] T S Q =
  (∃ p0 S0, bsS S 0 1 [] [] = some (p0, S0) ∧ ∃ p2 S2, apS false 1 1 [.int .u8 0] S0 [p0, (T.get 0)] = some (p2, S2) ∧ Q ((((T.set p0 5).set (T.get 0) 6).set p2 7).set p2 2) S2) := by kernel_rfl
/-! ### 41: (*windlass/journal.Journal).dies -/
theorem body41 : (Try.prog.funcs[41]?).bind (·.body) = some (.seq (.region 0 (ro 41 0) false) (.seq (.region 1 (ro 41 1) false) (.seq (.region 2 (ro 41 2) false) .ret))) := by kernel_rfl
theorem res41 : (Try.prog.funcs[41]?).map (·.results.toList) = some [.tmp 4] := by kernel_rfl
theorem is41 : fnIsB Try.prog 41 17 = true := by kernel_rfl
theorem reg41_0 {O : Known} {T : FT} {S : MS} {Q : FT → MS → Prop} : mOps Try.prog O 17 (ro 41 0).toList (ro 41 0).toList [] T S Q =
  (Q (T.set (.int .i64 0) 4) S) := by kernel_rfl
theorem reg41_1 {O : Known} {T : FT} {S : MS} {Q : FT → MS → Prop} : mOps Try.prog O 17 (ro 41 1).toList (ro 41 1).toList [] T S Q =
  (∃ p2, nilS (T.get 0) = some p2 ∧ ∃ p3, faS 6 p2 = some p3 ∧ ∃ p4, ldS none S p3 = some p4 ∧ ∃ b5, p4 = .bool b5 ∧
        (b5 = true → ∃ p8, pickS p4 (.bool true) undef = some p8 ∧ ∃ p9, nilS (T.get 0) = some p9 ∧ ∃ p10, faS 6 p9 = some p10 ∧ ∃ S11, stS 1 S p10 p8 = some S11 ∧ Q (((((((((((T.set (T.get 0) 5).set (T.get 0) 6).set p2 7).set p3 8).set p4 9).set p4 10).set undef 11).set undef 12).set p8 13).set p9 14).set p10 15) S11) ∧
        (b5 = false → ∃ p7, abin Try.prog .neq 24 (.tmp 11) (.const (.int .i64 0)) (T.get 1) (.int .i64 0) = some p7 ∧ ∃ p8, pickS p4 (.bool true) p7 = some p8 ∧ ∃ p9, nilS (T.get 0) = some p9 ∧ ∃ p10, faS 6 p9 = some p10 ∧ ∃ S11, stS 1 S p10 p8 = some S11 ∧ Q (((((((((((T.set (T.get 0) 5).set (T.get 0) 6).set p2 7).set p3 8).set p4 9).set p4 10).set (T.get 1) 11).set p7 12).set p8 13).set p9 14).set p10 15) S11)) := by kernel_rfl
theorem reg41_2 {O : Known} {T : FT} {S : MS} {Q : FT → MS → Prop} : mOps Try.prog O 17 (ro 41 2).toList (ro 41 2).toList [] T S Q =
  (Q ((T.set (T.get 1) 16).set (T.get 1) 4) S) := by kernel_rfl
/-! ### 43: windlass/journal.number -/
noncomputable def blk43_1 : Code := .block 1 (.seq (.region 4 (ro 43 4) false) (.region 5 (ro 43 5) false))
noncomputable def blk43_0 : Code := .block 0 (.loop (.seq (.region 3 (ro 43 3) false) (.seq (.cond (.tmp 7) .skip (.exit 0)) (.seq blk43_1 (.region 6 (ro 43 6) false)))))
theorem body43 : (Try.prog.funcs[43]?).bind (·.body) = some (.seq (.region 0 (ro 43 0) false) (.seq (.region 1 (ro 43 1) false) (.seq (.seq (.region 2 (ro 43 2) false) blk43_0) (.seq (.region 7 (ro 43 7) false) .ret)))) := by kernel_rfl
theorem res43 : (Try.prog.funcs[43]?).map (·.results.toList) = some [.tmp 2] := by kernel_rfl
theorem is43 : fnIsB Try.prog 43 19 = true := by kernel_rfl
theorem reg43_0 {O : Known} {T : FT} {S : MS} {Q : FT → MS → Prop} : mOps Try.prog O 19 (ro 43 0).toList (ro 43 0).toList [] T S Q =
  (Q (T.set (.slice none 0 0) 2) S) := by kernel_rfl
theorem reg43_1 {O : Known} {T : FT} {S : MS} {Q : FT → MS → Prop} : mOps Try.prog O 19 (ro 43 1).toList (ro 43 1).toList [] T S Q =
  (∃ p0 S0, msS S 1 1 [.int .u8 0] (.int .i64 8) (.int .i64 8) = some (p0, S0) ∧ Q ((T.set p0 5).set p0 3) S0) := by kernel_rfl
theorem reg43_2 {O : Known} {T : FT} {S : MS} {Q : FT → MS → Prop} : mOps Try.prog O 19 (ro 43 2).toList (ro 43 2).toList [] T S Q =
  (Q (T.set (.int .i64 0) 6) S) := by kernel_rfl
theorem reg43_3 {O : Known} {T : FT} {S : MS} {Q : FT → MS → Prop} : mOps Try.prog O 19 (ro 43 3).toList (ro 43 3).toList [] T S Q =
  (∃ p0, abin Try.prog .lss 3 (.tmp 6) (.const (.int .i64 8)) (T.get 6) (.int .i64 8) = some p0 ∧ Q (T.set p0 7) S) := by kernel_rfl
theorem reg43_4 {O : Known} {T : FT} {S : MS} {Q : FT → MS → Prop} : mOps Try.prog O 19 (ro 43 4).toList (ro 43 4).toList [] T S Q =
  (Q ((T.set (T.get 6) 8).set (T.get 6) 4) S) := by kernel_rfl
theorem reg43_5 {O : Known} {T : FT} {S : MS} {Q : FT → MS → Prop} : mOps Try.prog O 19 (ro 43 5).toList (ro 43 5).toList [] T S Q =
  (∃ p4, abin Try.prog .mul 3 (.const (.int .i64 8)) (.tmp 12) (.int .i64 8) (T.get 4) = some p4 ∧ ∃ p5, abin Try.prog .shr 3 (.tmp 11) (.tmp 13) (T.get 0) p4 = some p5 ∧ ∃ p6, cvInt .u8 p5 = some p6 ∧ ∃ p7, iaSS 1 (T.get 3) (T.get 4) = some p7 ∧ ∃ S8, stS 1 S p7 p6 = some S8 ∧ Q ((((((((T.set (T.get 3) 9).set (T.get 4) 10).set (T.get 0) 11).set (T.get 4) 12).set p4 13).set p5 14).set p6 15).set p7 16) S8) := by kernel_rfl
theorem reg43_6 {O : Known} {T : FT} {S : MS} {Q : FT → MS → Prop} : mOps Try.prog O 19 (ro 43 6).toList (ro 43 6).toList [] T S Q =
  (∃ p0, abin Try.prog .add 3 (.tmp 6) (.const (.int .i64 1)) (T.get 6) (.int .i64 1) = some p0 ∧ Q ((T.set p0 17).set p0 6) S) := by kernel_rfl
theorem reg43_7 {O : Known} {T : FT} {S : MS} {Q : FT → MS → Prop} : mOps Try.prog O 19 (ro 43 7).toList (ro 43 7).toList [] T S Q =
  (Q ((T.set (T.get 3) 18).set (T.get 3) 2) S) := by kernel_rfl
/-! ### 44: windlass/journal.pieces -/
theorem body44 : (Try.prog.funcs[44]?).bind (·.body) = some (.seq (.region 0 (ro 44 0) false) (.seq (.region 1 (ro 44 1) false) .ret)) := by kernel_rfl
theorem res44 : (Try.prog.funcs[44]?).map (·.results.toList) = some [.tmp 2] := by kernel_rfl
theorem is44 : fnIsB Try.prog 44 4 = true := by kernel_rfl
theorem reg44_0 {O : Known} {T : FT} {S : MS} {Q : FT → MS → Prop} : mOps Try.prog O 4 (ro 44 0).toList (ro 44 0).toList [] T S Q =
  (Q ((T.set (ptrTo S.n) 1).set (.nilFunc) 2) (S.fresh (Value.cells (T.get 0)).toList 0)) := by kernel_rfl
theorem reg44_1 {O : Known} {T : FT} {S : MS} {Q : FT → MS → Prop} : mOps Try.prog O 4 (ro 44 1).toList (ro 44 1).toList [] T S Q =
  (Q ((T.set (.func (.func 47) (Array.mk []) (Array.mk [(T.get 1)])) 3).set (.func (.func 47) (Array.mk []) (Array.mk [(T.get 1)])) 2) S) := by kernel_rfl
/-! ### 45: windlass/journal.parts$1 -/
noncomputable def blk45_1 : Code := .block 1 (.seq (.region 1 (ro 45 1) false) (.seq (.seq (.region 2 (ro 45 2) false) (.cond (.tmp 29) .ret .skip)) (.region 3 (ro 45 3) false)))
noncomputable def blk45_0 : Code := .block 0 (.loop (.seq (.seq (.region 0 (ro 45 0) false) (.cond (.tmp 6) .skip (.exit 0))) blk45_1))
theorem body45 : (Try.prog.funcs[45]?).bind (·.body) = some blk45_0 := by kernel_rfl
theorem res45 : (Try.prog.funcs[45]?).map (·.results.toList) = some [] := by kernel_rfl
theorem is45 : fnIsB Try.prog 45 34 = true := by kernel_rfl
theorem reg45_0 {O : Known} {T : FT} {S : MS} {Q : FT → MS → Prop} : mOps Try.prog O 34 (ro 45 0).toList (ro 45 0).toList [] T S Q =
  (∃ p0, ldS none S (T.get 1) = some p0 ∧ ∃ p1, lenSl p0 = some p1 ∧ ∃ p2, abin Try.prog .geq 3 (.tmp 5) (.const (.int .i64 8)) p1 (.int .i64 8) = some p2 ∧ Q (((T.set p0 4).set p1 5).set p2 6) S) := by kernel_rfl
theorem reg45_1 {O : Known} {T : FT} {S : MS} {Q : FT → MS → Prop} : mOps Try.prog O 34 (ro 45 1).toList (ro 45 1).toList [] T S Q =
  (∃ p0, ldS none S (T.get 1) = some p0 ∧ ∃ p1, slS 1 S p0 none (some (.int .i64 8)) none = some p1 ∧ CallM Try.prog O 36 [p1] S fun p2 S2 => Q ((((T.set p0 7).set p1 8).set p2 9).set p2 3) S2) := by kernel_rfl
theorem reg45_2 {O : Known} {T : FT} {S : MS} {Q : FT → MS → Prop} : mOps Try.prog O 34 (ro 45 2).toList (ro 45 2).toList [] T S Q =
  (∃ p1, abin Try.prog .lss 3 (.tmp 10) (.const (.int .i64 0)) (T.get 3) (.int .i64 0) = some p1 ∧ ∃ b2, p1 = .bool b2 ∧
     (b2 = true → ∃ p8, pickS p1 (.bool true) undef = some p8 ∧ ∃ b9, p8 = .bool b9 ∧
            (b9 = true → ∃ p19, pickS p8 (.bool true) undef = some p19 ∧ Q ((((((((((((((((((((T.set (T.get 3) 10).set p1 11).set p1 12).set undef 13).set undef 14).set undef 15).set undef 16).set undef 17).set p8 18).set p8 19).set undef 20).set undef 21).set undef 22).set undef 23).set undef 24).set undef 25).set undef 26).set undef 27).set undef 28).set p19 29) S) ∧
            (b9 = false → ∃ p11, ldS none S (T.get 1) = some p11 ∧ ∃ p13, abin Try.prog .add 3 (.const (.int .i64 8)) (.tmp 22) (.int .i64 8) (T.get 3) = some p13 ∧ ∃ p15, abin Try.prog .add 3 (.const (.int .i64 8)) (.tmp 24) (.int .i64 8) (T.get 3) = some p15 ∧ ∃ p16, slS 1 S p11 (some (.int .i64 8)) (some p13) (some p15) = some p16 ∧ CallV Try.prog O (T.get 0) [p16] S fun p17 S17 => ∃ p18, aunary .not p17 = some p18 ∧ ∃ p19, pickS p8 (.bool true) p18 = some p19 ∧ Q ((((((((((((((((((((T.set (T.get 3) 10).set p1 11).set p1 12).set undef 13).set undef 14).set undef 15).set undef 16).set undef 17).set p8 18).set p8 19).set (T.get 0) 20).set p11 21).set (T.get 3) 22).set p13 23).set (T.get 3) 24).set p15 25).set p16 26).set p17 27).set p18 28).set p19 29) S17)) ∧
     (b2 = false → ∃ p4, ldS none S (T.get 1) = some p4 ∧ ∃ p5, lenSl p4 = some p5 ∧ ∃ p6, abin Try.prog .sub 3 (.tmp 15) (.const (.int .i64 8)) p5 (.int .i64 8) = some p6 ∧ ∃ p7, abin Try.prog .gtr 3 (.tmp 13) (.tmp 16) (T.get 3) p6 = some p7 ∧ ∃ p8, pickS p1 (.bool true) p7 = some p8 ∧ ∃ b9, p8 = .bool b9 ∧
            (b9 = true → ∃ p19, pickS p8 (.bool true) undef = some p19 ∧ Q ((((((((((((((((((((T.set (T.get 3) 10).set p1 11).set p1 12).set (T.get 3) 13).set p4 14).set p5 15).set p6 16).set p7 17).set p8 18).set p8 19).set undef 20).set undef 21).set undef 22).set undef 23).set undef 24).set undef 25).set undef 26).set undef 27).set undef 28).set p19 29) S) ∧
            (b9 = false → ∃ p11, ldS none S (T.get 1) = some p11 ∧ ∃ p13, abin Try.prog .add 3 (.const (.int .i64 8)) (.tmp 22) (.int .i64 8) (T.get 3) = some p13 ∧ ∃ p15, abin Try.prog .add 3 (.const (.int .i64 8)) (.tmp 24) (.int .i64 8) (T.get 3) = some p15 ∧ ∃ p16, slS 1 S p11 (some (.int .i64 8)) (some p13) (some p15) = some p16 ∧ CallV Try.prog O (T.get 0) [p16] S fun p17 S17 => ∃ p18, aunary .not p17 = some p18 ∧ ∃ p19, pickS p8 (.bool true) p18 = some p19 ∧ Q ((((((((((((((((((((T.set (T.get 3) 10).set p1 11).set p1 12).set (T.get 3) 13).set p4 14).set p5 15).set p6 16).set p7 17).set p8 18).set p8 19).set (T.get 0) 20).set p11 21).set (T.get 3) 22).set p13 23).set (T.get 3) 24).set p15 25).set p16 26).set p17 27).set p18 28).set p19 29) S17))) := by kernel_rfl
theorem reg45_3 {O : Known} {T : FT} {S : MS} {Q : FT → MS → Prop} : mOps Try.prog O 34 (ro 45 3).toList (ro 45 3).toList [] T S Q =
  (∃ p0, ldS none S (T.get 1) = some p0 ∧ ∃ p2, abin Try.prog .add 3 (.const (.int .i64 8)) (.tmp 31) (.int .i64 8) (T.get 3) = some p2 ∧ ∃ p3, slS 1 S p0 (some p2) none none = some p3 ∧ ∃ S4, stS 1 S (T.get 1) p3 = some S4 ∧ Q ((((T.set p0 30).set (T.get 3) 31).set p2 32).set p3 33) S4) := by kernel_rfl
/-! ### 47: windlass/journal.pieces$1 -/
noncomputable def blk47_1 : Code := .block 1 (.seq (.region 3 (ro 47 3) false) (.seq (.region 4 (ro 47 4) false) (.seq (.region 5 (ro 47 5) false) (.cond (.tmp 23) .ret .skip))))
noncomputable def blk47_0 : Code := .block 0 (.loop (.seq (.seq (.region 1 (ro 47 1) false) (.cond (.tmp 9) .skip (.exit 0))) (.seq blk47_1 (.region 2 (ro 47 2) false))))
theorem body47 : (Try.prog.funcs[47]?).bind (·.body) = some (.seq (.region 0 (ro 47 0) false) blk47_0) := by kernel_rfl
theorem res47 : (Try.prog.funcs[47]?).map (·.results.toList) = some [] := by kernel_rfl
theorem is47 : fnIsB Try.prog 47 24 = true := by kernel_rfl
theorem reg47_0 {O : Known} {T : FT} {S : MS} {Q : FT → MS → Prop} : mOps Try.prog O 24 (ro 47 0).toList (ro 47 0).toList [] T S Q =
  (Q (T.set (.int .i64 0) 3) S) := by kernel_rfl
theorem reg47_1 {O : Known} {T : FT} {S : MS} {Q : FT → MS → Prop} : mOps Try.prog O 24 (ro 47 1).toList (ro 47 1).toList [] T S Q =
  (∃ p1, abin Try.prog .mul 3 (.tmp 5) (.const (.int .i64 256)) (T.get 3) (.int .i64 256) = some p1 ∧ ∃ p2, ldS none S (T.get 1) = some p2 ∧ ∃ p3, lenSl p2 = some p3 ∧ ∃ p4, abin Try.prog .lss 3 (.tmp 6) (.tmp 8) p1 p3 = some p4 ∧ Q (((((T.set (T.get 3) 5).set p1 6).set p2 7).set p3 8).set p4 9) S) := by kernel_rfl
theorem reg47_3 {O : Known} {T : FT} {S : MS} {Q : FT → MS → Prop} : mOps Try.prog O 24 (ro 47 3).toList (ro 47 3).toList [] T S Q =
  (∃ p0 S0, msS S 1 1 [.int .u8 0] (.int .i64 256) (.int .i64 256) = some (p0, S0) ∧ Q ((T.set p0 12).set p0 4) S0) := by kernel_rfl
theorem reg47_4 {O : Known} {T : FT} {S : MS} {Q : FT → MS → Prop} : mOps Try.prog O 24 (ro 47 4).toList (ro 47 4).toList [] T S Q =
  (∃ p1, ldS none S (T.get 1) = some p1 ∧ ∃ p3, abin Try.prog .mul 3 (.tmp 15) (.const (.int .i64 256)) (T.get 3) (.int .i64 256) = some p3 ∧ ∃ p4, slS 1 S p1 (some p3) none none = some p4 ∧ ∃ p5 S5, cpS 1 S [(T.get 4), p4] = some (p5, S5) ∧ Q ((((((T.set (T.get 4) 13).set p1 14).set (T.get 3) 15).set p3 16).set p4 17).set p5 18) S5) := by kernel_rfl
theorem reg47_5 {O : Known} {T : FT} {S : MS} {Q : FT → MS → Prop} : mOps Try.prog O 24 (ro 47 5).toList (ro 47 5).toList [] T S Q =
  (CallV Try.prog O (T.get 0) [(T.get 3), (T.get 4)] S fun p3 S3 => ∃ p4, aunary .not p3 = some p4 ∧ Q (((((T.set (T.get 0) 19).set (T.get 3) 20).set (T.get 4) 21).set p3 22).set p4 23) S3) := by kernel_rfl
theorem reg47_2 {O : Known} {T : FT} {S : MS} {Q : FT → MS → Prop} : mOps Try.prog O 24 (ro 47 2).toList (ro 47 2).toList [] T S Q =
  (∃ p1, abin Try.prog .add 3 (.tmp 10) (.const (.int .i64 1)) (T.get 3) (.int .i64 1) = some p1 ∧ Q (((T.set (T.get 3) 10).set p1 11).set p1 3) S) := by kernel_rfl
end Go.Proofs.Ytmfmbadfgnhonaa

