/-
  The code of this seat as the machine reads it: shapes, and what each row of operations comes to. Nothing is asked.
-/
import Derived.Test.YtgkdmnfmfcdfmaaProg
import Derived.Test.YtgkdmnfmfcdfmaaAg3
import Derived.KernelRfl
set_option linter.all false
namespace Go.Proofs.Ytgkdmnfmfcdfmaa
open Go Go.Ag
set_option linter.unusedVariables false
set_option maxRecDepth 100000
noncomputable def ro (f id : Nat) : Array Oper := roP Try.prog f id
/-! ### 13: windlass/windlasshelp.Flags -/
/-! ### 28: windlass/flow.in -/
theorem body28 : (Try.prog.funcs[28]?).bind (·.body) = some (.seq (.region 0 (ro 28 0) false) (.seq (.region 1 (ro 28 1) false) .ret)) := by kernel_rfl
theorem res28 : (Try.prog.funcs[28]?).map (·.results.toList) = some [.tmp 4] := by kernel_rfl
theorem is28 : fnIsB Try.prog 28 12 = true := by kernel_rfl
theorem reg28_0 {O : Known} {T : FT} {S : MS} {Q : FT → MS → Prop} : mOps Try.prog O 12 (ro 28 0).toList (ro 28 0).toList [] T S Q =
  (Q (T.set (.bool false) 4) S) := by kernel_rfl
theorem reg28_1 {O : Known} {T : FT} {S : MS} {Q : FT → MS → Prop} : mOps Try.prog O 12 (ro 28 1).toList (ro 28 1).toList [] T S Q =
  (∃ p1, abin Try.prog .geq 3 (.tmp 5) (.const (.int .i64 0)) (T.get 0) (.int .i64 0) = some p1 ∧ ∃ b2, p1 = .bool b2 ∧
     (b2 = true → ∃ p5, abin Try.prog .lss 3 (.tmp 8) (.tmp 9) (T.get 0) (T.get 1) = some p5 ∧ ∃ p6, pickS p1 p5 (.bool false) = some p6 ∧ Q ((((((((T.set (T.get 0) 5).set p1 6).set p1 7).set (T.get 0) 8).set (T.get 1) 9).set p5 10).set p6 11).set p6 4) S) ∧
     (b2 = false → ∃ p6, pickS p1 undef (.bool false) = some p6 ∧ Q ((((((((T.set (T.get 0) 5).set p1 6).set p1 7).set undef 8).set undef 9).set undef 10).set p6 11).set p6 4) S)) := by kernel_rfl
/-! ### 29: windlass/flow.Steps$1 -/
theorem body29 : (Try.prog.funcs[29]?).bind (·.body) = some (.seq (.region 0 (ro 29 0) false) (.seq (.region 1 (ro 29 1) false) .ret)) := by kernel_rfl
theorem res29 : (Try.prog.funcs[29]?).map (·.results.toList) = some [.tmp 3] := by kernel_rfl
theorem is29 : fnIsB Try.prog 29 7 = true := by kernel_rfl
theorem reg29_0 {O : Known} {T : FT} {S : MS} {Q : FT → MS → Prop} : mOps Try.prog O 7 (ro 29 0).toList (ro 29 0).toList [] T S Q =
  (Q (T.set (.slice none 0 0) 3) S) := by kernel_rfl
theorem reg29_1 {O : Known} {T : FT} {S : MS} {Q : FT → MS → Prop} : mOps Try.prog O 7 (ro 29 1).toList (ro 29 1).toList [] T S Q =
  (∃ p0, ldS (some 2) S (T.get 1) = some p0 ∧ CallM Try.prog O 30 [p0, (T.get 0)] S fun p2 S2 => Q ((((T.set p0 4).set (T.get 0) 5).set p2 6).set p2 3) S2) := by kernel_rfl
/-! ### 30: windlass/flow.Then -/
theorem body30 : (Try.prog.funcs[30]?).bind (·.body) = some (.seq (.region 0 (ro 30 0) false) (.seq (.region 1 (ro 30 1) false) (.seq (.region 2 (ro 30 2) false) (.seq (.seq (.region 3 (ro 30 3) false) (.cond (.tmp 19) (.region 4 (ro 30 4) false) .skip)) (.seq (.seq (.region 5 (ro 30 5) false) (.cond (.tmp 40) (.region 6 (ro 30 6) false) .skip)) (.seq (.region 7 (ro 30 7) false) .ret)))))) := by kernel_rfl
theorem res30 : (Try.prog.funcs[30]?).map (·.results.toList) = some [.tmp 4] := by kernel_rfl
theorem is30 : fnIsB Try.prog 30 47 = true := by kernel_rfl
theorem reg30_0 {O : Known} {T : FT} {S : MS} {Q : FT → MS → Prop} : mOps Try.prog O 47 (ro 30 0).toList (ro 30 0).toList [] T S Q =
  (Q ((T.set (ptrTo S.n) 2).set (.slice none 0 0) 4) (S.fresh (Value.cells (T.get 0)).toList 0)) := by kernel_rfl
theorem reg30_1 {O : Known} {T : FT} {S : MS} {Q : FT → MS → Prop} : mOps Try.prog O 47 (ro 30 1).toList (ro 30 1).toList [] T S Q =
  (Q (T.set (.slice none 0 0) 5) S) := by kernel_rfl
theorem reg30_2 {O : Known} {T : FT} {S : MS} {Q : FT → MS → Prop} : mOps Try.prog O 47 (ro 30 2).toList (ro 30 2).toList [] T S Q =
  (∃ p0, faS 1 (T.get 2) = some p0 ∧ ∃ p1, ldS none S p0 = some p1 ∧ ∃ p3, iaSS 5 p1 (T.get 1) = some p3 ∧ ∃ p4, ldS (some 5) S p3 = some p4 ∧ ∃ S6, stS 5 (S.fresh [.int .i64 0, .int .i64 0, .int .i64 0, .int .i64 0, .int .i64 0] 0) (ptrTo S.n) p4 = some S6 ∧ Q ((((((T.set p0 7).set p1 8).set (T.get 1) 9).set p3 10).set p4 11).set (ptrTo S.n) 6) S6) := by kernel_rfl
theorem reg30_3 {O : Known} {T : FT} {S : MS} {Q : FT → MS → Prop} : mOps Try.prog O 47 (ro 30 3).toList (ro 30 3).toList [] T S Q =
  (∃ p0, faS 0 (T.get 6) = some p0 ∧ ∃ p1, ldS none S p0 = some p1 ∧ ∃ p2, abin Try.prog .eql 3 (.tmp 13) (.const (.int .i64 38)) p1 (.int .i64 38) = some p2 ∧ ∃ b3, p2 = .bool b3 ∧
      (b3 = true → ∃ p7, pickS p2 (.bool true) undef = some p7 ∧ Q ((((((((T.set p0 12).set p1 13).set p2 14).set p2 15).set undef 16).set undef 17).set undef 18).set p7 19) S) ∧
      (b3 = false → ∃ p4, faS 0 (T.get 6) = some p4 ∧ ∃ p5, ldS none S p4 = some p5 ∧ ∃ p6, abin Try.prog .eql 3 (.tmp 17) (.const (.int .i64 39)) p5 (.int .i64 39) = some p6 ∧ ∃ p7, pickS p2 (.bool true) p6 = some p7 ∧ Q ((((((((T.set p0 12).set p1 13).set p2 14).set p2 15).set p4 16).set p5 17).set p6 18).set p7 19) S)) := by kernel_rfl
theorem reg30_4 {O : Known} {T : FT} {S : MS} {Q : FT → MS → Prop} : mOps Try.prog O 47 (ro 30 4).toList (ro 30 4).toList [] T S Q =
  (∃ p1, faS 4 (T.get 6) = some p1 ∧ ∃ p2, ldS none S p1 = some p2 ∧ ∃ p3 S3, bsS S 1 1 [.int .i64 0] [(0, p2)] = some (p3, S3) ∧ ∃ p4 S4, apS false 1 8 [.int .i64 0] S3 [(T.get 5), p3] = some (p4, S4) ∧ Q ((((((T.set (T.get 5) 20).set p1 21).set p2 22).set p3 23).set p4 24).set p4 5) S4) := by kernel_rfl
theorem reg30_5 {O : Known} {T : FT} {S : MS} {Q : FT → MS → Prop} : mOps Try.prog O 47 (ro 30 5).toList (ro 30 5).toList [] T S Q =
  (∃ p0, faS 0 (T.get 6) = some p0 ∧ ∃ p1, ldS none S p0 = some p1 ∧ ∃ p2, abin Try.prog .neq 3 (.tmp 26) (.const (.int .i64 38)) p1 (.int .i64 38) = some p2 ∧ ∃ b3, p2 = .bool b3 ∧
      (b3 = true → ∃ p4, faS 0 (T.get 6) = some p4 ∧ ∃ p5, ldS none S p4 = some p5 ∧ ∃ p6, abin Try.prog .neq 3 (.tmp 30) (.const (.int .i64 40)) p5 (.int .i64 40) = some p6 ∧ ∃ p7, pickS p2 p6 (.bool false) = some p7 ∧ ∃ b8, p7 = .bool b8 ∧
           (b8 = true → ∃ p10, abin Try.prog .add 3 (.tmp 34) (.const (.int .i64 1)) (T.get 1) (.int .i64 1) = some p10 ∧ ∃ p11, faS 1 (T.get 2) = some p11 ∧ ∃ p12, ldS none S p11 = some p12 ∧ ∃ p13, lenSl p12 = some p13 ∧ ∃ p14, abin Try.prog .lss 3 (.tmp 35) (.tmp 38) p10 p13 = some p14 ∧ ∃ p15, pickS p7 p14 (.bool false) = some p15 ∧ Q ((((((((((((((((T.set p0 25).set p1 26).set p2 27).set p2 28).set p4 29).set p5 30).set p6 31).set p7 32).set p7 33).set (T.get 1) 34).set p10 35).set p11 36).set p12 37).set p13 38).set p14 39).set p15 40) S) ∧
           (b8 = false → ∃ p15, pickS p7 undef (.bool false) = some p15 ∧ Q ((((((((((((((((T.set p0 25).set p1 26).set p2 27).set p2 28).set p4 29).set p5 30).set p6 31).set p7 32).set p7 33).set undef 34).set undef 35).set undef 36).set undef 37).set undef 38).set undef 39).set p15 40) S)) ∧
      (b3 = false → ∃ p7, pickS p2 undef (.bool false) = some p7 ∧ ∃ b8, p7 = .bool b8 ∧
           (b8 = true → ∃ p10, abin Try.prog .add 3 (.tmp 34) (.const (.int .i64 1)) (T.get 1) (.int .i64 1) = some p10 ∧ ∃ p11, faS 1 (T.get 2) = some p11 ∧ ∃ p12, ldS none S p11 = some p12 ∧ ∃ p13, lenSl p12 = some p13 ∧ ∃ p14, abin Try.prog .lss 3 (.tmp 35) (.tmp 38) p10 p13 = some p14 ∧ ∃ p15, pickS p7 p14 (.bool false) = some p15 ∧ Q ((((((((((((((((T.set p0 25).set p1 26).set p2 27).set p2 28).set undef 29).set undef 30).set undef 31).set p7 32).set p7 33).set (T.get 1) 34).set p10 35).set p11 36).set p12 37).set p13 38).set p14 39).set p15 40) S) ∧
           (b8 = false → ∃ p15, pickS p7 undef (.bool false) = some p15 ∧ Q ((((((((((((((((T.set p0 25).set p1 26).set p2 27).set p2 28).set undef 29).set undef 30).set undef 31).set p7 32).set p7 33).set undef 34).set undef 35).set undef 36).set undef 37).set undef 38).set undef 39).set p15 40) S))) := by kernel_rfl
theorem reg30_6 {O : Known} {T : FT} {S : MS} {Q : FT → MS → Prop} : mOps Try.prog O 47 (ro 30 6).toList (ro 30 6).toList [] T S Q =
  (∃ p2, abin Try.prog .add 3 (.tmp 42) (.const (.int .i64 1)) (T.get 1) (.int .i64 1) = some p2 ∧ ∃ p3 S3, bsS S 1 1 [.int .i64 0] [(0, p2)] = some (p3, S3) ∧ ∃ p4 S4, apS false 1 8 [.int .i64 0] S3 [(T.get 5), p3] = some (p4, S4) ∧ Q ((((((T.set (T.get 5) 41).set (T.get 1) 42).set p2 43).set p3 44).set p4 45).set p4 5) S4) := by kernel_rfl
theorem reg30_7 {O : Known} {T : FT} {S : MS} {Q : FT → MS → Prop} : mOps Try.prog O 47 (ro 30 7).toList (ro 30 7).toList [] T S Q =
  (Q ((T.set (T.get 5) 46).set (T.get 5) 4) S) := by kernel_rfl
/-! ### 25: windlass/flow.walk -/
theorem body25 : (Try.prog.funcs[25]?).bind (·.body) = some (.seq (.region 0 (ro 25 0) false) (.seq (.region 1 (ro 25 1) false) .ret)) := by kernel_rfl
theorem res25 : (Try.prog.funcs[25]?).map (·.results.toList) = some [.tmp 4] := by kernel_rfl
theorem is25 : fnIsB Try.prog 25 6 = true := by kernel_rfl
theorem reg25_0 {O : Known} {T : FT} {S : MS} {Q : FT → MS → Prop} : mOps Try.prog O 6 (ro 25 0).toList (ro 25 0).toList [] T S Q =
  (Q (((T.set (ptrTo S.n) 2).set (ptrTo (S.fresh (Value.cells (T.get 0)).toList 0).n) 3).set (.nilFunc) 4) ((S.fresh (Value.cells (T.get 0)).toList 0).fresh (Value.cells (T.get 1)).toList 0)) := by kernel_rfl
theorem reg25_1 {O : Known} {T : FT} {S : MS} {Q : FT → MS → Prop} : mOps Try.prog O 6 (ro 25 1).toList (ro 25 1).toList [] T S Q =
  (Q ((T.set (.func (.func 39) (Array.mk []) (Array.mk [(T.get 2), (T.get 3)])) 5).set (.func (.func 39) (Array.mk []) (Array.mk [(T.get 2), (T.get 3)])) 4) S) := by kernel_rfl
/-! ### 4: windlass/windlasslaw10.FlowSteps -/
/-! ### 15: windlass/windlassref10.Steps -/
/-! ### 14: windlass/flow.Steps -/
noncomputable def blk14_1 : Code := .block 1 (.seq (.region 5 (ro 14 5) false) (.seq (.region 6 (ro 14 6) false) (.cond (.tmp 35) (.seq (.region 7 (ro 14 7) false) .ret) .skip)))
noncomputable def blk14_0 : Code := .block 0 (.loop (.seq (.region 4 (ro 14 4) false) (.seq (.cond (.tmp 16) .skip (.exit 0)) (.seq blk14_1 (.region 8 (ro 14 8) false)))))
noncomputable def blk14_3 : Code := .block 3 (.region 12 (ro 14 12) false)
noncomputable def blk14_2 : Code := .block 2 (.rangeFunc (.tmp 45) #[46] (.region 11 (ro 14 11) false) blk14_3)
theorem body14 : (Try.prog.funcs[14]?).bind (·.body) = some (.seq (.region 0 (ro 14 0) false) (.seq (.seq (.region 1 (ro 14 1) false) (.cond (.tmp 11) (.seq (.region 2 (ro 14 2) false) .ret) .skip)) (.seq (.seq (.region 3 (ro 14 3) false) blk14_0) (.seq (.region 9 (ro 14 9) false) (.seq (.seq (.region 10 (ro 14 10) false) blk14_2) (.seq (.region 13 (ro 14 13) false) .ret)))))) := by kernel_rfl
theorem res14 : (Try.prog.funcs[14]?).map (·.results.toList) = some [.tmp 2, .tmp 3] := by kernel_rfl
theorem is14 : fnIsB Try.prog 14 51 = true := by kernel_rfl
theorem reg14_0 {O : Known} {T : FT} {S : MS} {Q : FT → MS → Prop} : mOps Try.prog O 51 (ro 14 0).toList (ro 14 0).toList [] T S Q =
  (Q (((T.set (ptrTo S.n) 1).set (.slice none 0 0) 2).set (.int .i64 0) 3) (S.fresh (Value.cells (T.get 0)).toList 0)) := by kernel_rfl
theorem reg14_1 {O : Known} {T : FT} {S : MS} {Q : FT → MS → Prop} : mOps Try.prog O 51 (ro 14 1).toList (ro 14 1).toList [] T S Q =
  (∃ p0, faS 1 (T.get 1) = some p0 ∧ ∃ p1, ldS none S p0 = some p1 ∧ ∃ p2, lenSl p1 = some p2 ∧ ∃ p3, abin Try.prog .eql 3 (.tmp 10) (.const (.int .i64 0)) p2 (.int .i64 0) = some p3 ∧ Q ((((T.set p0 8).set p1 9).set p2 10).set p3 11) S) := by kernel_rfl
theorem reg14_2 {O : Known} {T : FT} {S : MS} {Q : FT → MS → Prop} : mOps Try.prog O 51 (ro 14 2).toList (ro 14 2).toList [] T S Q =
  (Q ((T.set (.slice none 0 0) 2).set (.int .i64 100) 3) S) := by kernel_rfl
theorem reg14_3 {O : Known} {T : FT} {S : MS} {Q : FT → MS → Prop} : mOps Try.prog O 51 (ro 14 3).toList (ro 14 3).toList [] T S Q =
  (∃ p0, faS 1 (T.get 1) = some p0 ∧ ∃ p1, ldS none S p0 = some p1 ∧ ∃ p2, lenSl p1 = some p2 ∧ Q ((((T.set p0 12).set p1 13).set p2 14).set (.int .i64 0) 15) S) := by kernel_rfl
theorem reg14_4 {O : Known} {T : FT} {S : MS} {Q : FT → MS → Prop} : mOps Try.prog O 51 (ro 14 4).toList (ro 14 4).toList [] T S Q =
  (∃ p0, abin Try.prog .lss 3 (.tmp 15) (.tmp 14) (T.get 15) (T.get 14) = some p0 ∧ Q (T.set p0 16) S) := by kernel_rfl
theorem reg14_5 {O : Known} {T : FT} {S : MS} {Q : FT → MS → Prop} : mOps Try.prog O 51 (ro 14 5).toList (ro 14 5).toList [] T S Q =
  (∃ p0, iaSS 5 (T.get 13) (T.get 15) = some p0 ∧ ∃ p1, ldS (some 5) S p0 = some p1 ∧ ∃ S3, stS 5 (S.fresh [.int .i64 0, .int .i64 0, .int .i64 0, .int .i64 0, .int .i64 0] 0) (ptrTo S.n) p1 = some S3 ∧ Q (((T.set p0 17).set p1 18).set (ptrTo S.n) 5) S3) := by kernel_rfl
theorem reg14_6 {O : Known} {T : FT} {S : MS} {Q : FT → MS → Prop} : mOps Try.prog O 51 (ro 14 6).toList (ro 14 6).toList [] T S Q =
  (∃ p0, faS 0 (T.get 5) = some p0 ∧ ∃ p1, ldS none S p0 = some p1 ∧ ∃ p2, abin Try.prog .eql 3 (.tmp 20) (.const (.int .i64 38)) p1 (.int .i64 38) = some p2 ∧ ∃ b3, p2 = .bool b3 ∧
      (b3 = true → ∃ p7, pickS p2 (.bool true) undef = some p7 ∧ ∃ b8, p7 = .bool b8 ∧
           (b8 = true → ∃ p9, faS 4 (T.get 5) = some p9 ∧ ∃ p10, ldS none S p9 = some p10 ∧ ∃ p11, faS 1 (T.get 1) = some p11 ∧ ∃ p12, ldS none S p11 = some p12 ∧ ∃ p13, lenSl p12 = some p13 ∧ CallM Try.prog O 28 [p10, p13] S fun p14 S14 => ∃ p15, aunary .not p14 = some p15 ∧ ∃ p16, pickS p7 p15 (.bool false) = some p16 ∧ Q (((((((((((((((((T.set p0 19).set p1 20).set p2 21).set p2 22).set undef 23).set undef 24).set undef 25).set p7 26).set p7 27).set p9 28).set p10 29).set p11 30).set p12 31).set p13 32).set p14 33).set p15 34).set p16 35) S14) ∧
           (b8 = false → ∃ p16, pickS p7 undef (.bool false) = some p16 ∧ Q (((((((((((((((((T.set p0 19).set p1 20).set p2 21).set p2 22).set undef 23).set undef 24).set undef 25).set p7 26).set p7 27).set undef 28).set undef 29).set undef 30).set undef 31).set undef 32).set undef 33).set undef 34).set p16 35) S)) ∧
      (b3 = false → ∃ p4, faS 0 (T.get 5) = some p4 ∧ ∃ p5, ldS none S p4 = some p5 ∧ ∃ p6, abin Try.prog .eql 3 (.tmp 24) (.const (.int .i64 39)) p5 (.int .i64 39) = some p6 ∧ ∃ p7, pickS p2 (.bool true) p6 = some p7 ∧ ∃ b8, p7 = .bool b8 ∧
           (b8 = true → ∃ p9, faS 4 (T.get 5) = some p9 ∧ ∃ p10, ldS none S p9 = some p10 ∧ ∃ p11, faS 1 (T.get 1) = some p11 ∧ ∃ p12, ldS none S p11 = some p12 ∧ ∃ p13, lenSl p12 = some p13 ∧ CallM Try.prog O 28 [p10, p13] S fun p14 S14 => ∃ p15, aunary .not p14 = some p15 ∧ ∃ p16, pickS p7 p15 (.bool false) = some p16 ∧ Q (((((((((((((((((T.set p0 19).set p1 20).set p2 21).set p2 22).set p4 23).set p5 24).set p6 25).set p7 26).set p7 27).set p9 28).set p10 29).set p11 30).set p12 31).set p13 32).set p14 33).set p15 34).set p16 35) S14) ∧
           (b8 = false → ∃ p16, pickS p7 undef (.bool false) = some p16 ∧ Q (((((((((((((((((T.set p0 19).set p1 20).set p2 21).set p2 22).set p4 23).set p5 24).set p6 25).set p7 26).set p7 27).set undef 28).set undef 29).set undef 30).set undef 31).set undef 32).set undef 33).set undef 34).set p16 35) S))) := by kernel_rfl
theorem reg14_7 {O : Known} {T : FT} {S : MS} {Q : FT → MS → Prop} : mOps Try.prog O 51 (ro 14 7).toList (ro 14 7).toList [] T S Q =
  (Q ((T.set (.slice none 0 0) 2).set (.int .i64 100) 3) S) := by kernel_rfl
theorem reg14_8 {O : Known} {T : FT} {S : MS} {Q : FT → MS → Prop} : mOps Try.prog O 51 (ro 14 8).toList (ro 14 8).toList [] T S Q =
  (∃ p0, abin Try.prog .add 3 (.tmp 15) (.const (.int .i64 1)) (T.get 15) (.int .i64 1) = some p0 ∧ Q ((T.set p0 36).set p0 15) S) := by kernel_rfl
theorem reg14_9 {O : Known} {T : FT} {S : MS} {Q : FT → MS → Prop} : mOps Try.prog O 51 (ro 14 9).toList (ro 14 9).toList [] T S Q =
  (∃ p0, faS 1 (T.get 1) = some p0 ∧ ∃ p1, ldS none S p0 = some p1 ∧ ∃ p2, lenSl p1 = some p2 ∧ ∃ p3 S3, msS S 1 1 [.bool false] p2 p2 = some (p3, S3) ∧ ∃ S5, stS 1 (S3.fresh [.slice none 0 0] 0) (ptrTo S3.n) p3 = some S5 ∧ Q (((((T.set p0 37).set p1 38).set p2 39).set p3 40).set (ptrTo S3.n) 6) S5) := by kernel_rfl
theorem reg14_10 {O : Known} {T : FT} {S : MS} {Q : FT → MS → Prop} : mOps Try.prog O 51 (ro 14 10).toList (ro 14 10).toList [] T S Q =
  (∃ p0, faS 1 (T.get 1) = some p0 ∧ ∃ p1, ldS none S p0 = some p1 ∧ ∃ p2, lenSl p1 = some p2 ∧ CallM Try.prog O 25 [p2, (.func (.func 29) (Array.mk []) (Array.mk [(T.get 1)]))] S fun p4 S4 => Q (((((T.set p0 41).set p1 42).set p2 43).set (.func (.func 29) (Array.mk []) (Array.mk [(T.get 1)])) 44).set p4 45) S4) := by kernel_rfl
theorem reg14_11 {O : Known} {T : FT} {S : MS} {Q : FT → MS → Prop} : mOps Try.prog O 51 (ro 14 11).toList (ro 14 11).toList [] T S Q =
  (Q (T.set (T.get 46) 7) S) := by kernel_rfl
theorem reg14_12 {O : Known} {T : FT} {S : MS} {Q : FT → MS → Prop} : mOps Try.prog O 51 (ro 14 12).toList (ro 14 12).toList [] T S Q =
  (∃ p0, ldS none S (T.get 6) = some p0 ∧ ∃ p2, iaSS 1 p0 (T.get 7) = some p2 ∧ ∃ S3, stS 1 S p2 (.bool true) = some S3 ∧ Q (((T.set p0 47).set (T.get 7) 48).set p2 49) S3) := by kernel_rfl
theorem reg14_13 {O : Known} {T : FT} {S : MS} {Q : FT → MS → Prop} : mOps Try.prog O 51 (ro 14 13).toList (ro 14 13).toList [] T S Q =
  (∃ p0, ldS none S (T.get 6) = some p0 ∧ Q (((T.set p0 50).set p0 2).set (.int .i64 0) 3) S) := by kernel_rfl
/-! ### 39: windlass/flow.walk$1 -/
noncomputable def blk39_1 : Code := .block 1 (.seq (.region 3 (ro 39 3) false) (.seq (.region 4 (ro 39 4) false) (.seq (.seq (.region 5 (ro 39 5) false) (.cond (.tmp 27) (.exit 1) .skip)) (.seq (.region 6 (ro 39 6) false) (.seq (.seq (.region 7 (ro 39 7) false) (.cond (.tmp 34) .ret .skip)) (.region 8 (ro 39 8) false))))))
noncomputable def blk39_0 : Code := .block 0 (.loop (.seq (.seq (.region 2 (ro 39 2) false) (.cond (.tmp 12) .skip (.exit 0))) blk39_1))
theorem body39 : (Try.prog.funcs[39]?).bind (·.body) = some (.scope (.seq (.region 0 (ro 39 0) false) (.seq (.region 1 (ro 39 1) false) (.seq (.label 0) blk39_0)))) := by kernel_rfl
theorem res39 : (Try.prog.funcs[39]?).map (·.results.toList) = some [] := by kernel_rfl
theorem is39 : fnIsB Try.prog 39 40 = true := by kernel_rfl
theorem reg39_0 {O : Known} {T : FT} {S : MS} {Q : FT → MS → Prop} : mOps Try.prog O 40 (ro 39 0).toList (ro 39 0).toList [] T S Q =
  (∃ p0, ldS none S (T.get 1) = some p0 ∧ ∃ p1 S1, msS S 1 1 [.bool false] p0 p0 = some (p1, S1) ∧ Q (((T.set p0 7).set p1 8).set p1 4) S1) := by kernel_rfl
theorem reg39_1 {O : Known} {T : FT} {S : MS} {Q : FT → MS → Prop} : mOps Try.prog O 40 (ro 39 1).toList (ro 39 1).toList [] T S Q =
  (∃ p0 S0, bsS S 1 1 [.int .i64 0] [(0, (.int .i64 0))] = some (p0, S0) ∧ Q ((T.set p0 9).set p0 5) S0) := by kernel_rfl
theorem reg39_2 {O : Known} {T : FT} {S : MS} {Q : FT → MS → Prop} : mOps Try.prog O 40 (ro 39 2).toList (ro 39 2).toList [] T S Q =
  (∃ p1, lenSl (T.get 5) = some p1 ∧ ∃ p2, abin Try.prog .gtr 3 (.tmp 11) (.const (.int .i64 0)) p1 (.int .i64 0) = some p2 ∧ Q (((T.set (T.get 5) 10).set p1 11).set p2 12) S) := by kernel_rfl
theorem reg39_3 {O : Known} {T : FT} {S : MS} {Q : FT → MS → Prop} : mOps Try.prog O 40 (ro 39 3).toList (ro 39 3).toList [] T S Q =
  (∃ p2, lenSl (T.get 5) = some p2 ∧ ∃ p3, abin Try.prog .sub 3 (.tmp 15) (.const (.int .i64 1)) p2 (.int .i64 1) = some p3 ∧ ∃ p4, iaSS 1 (T.get 5) p3 = some p4 ∧ ∃ p5, ldS none S p4 = some p5 ∧ Q (((((((T.set (T.get 5) 13).set (T.get 5) 14).set p2 15).set p3 16).set p4 17).set p5 18).set p5 6) S) := by kernel_rfl
theorem reg39_4 {O : Known} {T : FT} {S : MS} {Q : FT → MS → Prop} : mOps Try.prog O 40 (ro 39 4).toList (ro 39 4).toList [] T S Q =
  (∃ p2, lenSl (T.get 5) = some p2 ∧ ∃ p3, abin Try.prog .sub 3 (.tmp 21) (.const (.int .i64 1)) p2 (.int .i64 1) = some p3 ∧ ∃ p4, slS 1 S (T.get 5) none (some p3) none = some p4 ∧ Q ((((((T.set (T.get 5) 19).set (T.get 5) 20).set p2 21).set p3 22).set p4 23).set p4 5) S) := by kernel_rfl
theorem reg39_5 {O : Known} {T : FT} {S : MS} {Q : FT → MS → Prop} : mOps Try.prog O 40 (ro 39 5).toList (ro 39 5).toList [] T S Q =
  (∃ p2, iaSS 1 (T.get 4) (T.get 6) = some p2 ∧ ∃ p3, ldS none S p2 = some p3 ∧ Q ((((T.set (T.get 4) 24).set (T.get 6) 25).set p2 26).set p3 27) S) := by kernel_rfl
theorem reg39_6 {O : Known} {T : FT} {S : MS} {Q : FT → MS → Prop} : mOps Try.prog O 40 (ro 39 6).toList (ro 39 6).toList [] T S Q =
  (∃ p2, iaSS 1 (T.get 4) (T.get 6) = some p2 ∧ ∃ S3, stS 1 S p2 (.bool true) = some S3 ∧ Q (((T.set (T.get 4) 28).set (T.get 6) 29).set p2 30) S3) := by kernel_rfl
theorem reg39_7 {O : Known} {T : FT} {S : MS} {Q : FT → MS → Prop} : mOps Try.prog O 40 (ro 39 7).toList (ro 39 7).toList [] T S Q =
  (CallV Try.prog O (T.get 0) [(T.get 6)] S fun p2 S2 => ∃ p3, aunary .not p2 = some p3 ∧ Q ((((T.set (T.get 0) 31).set (T.get 6) 32).set p2 33).set p3 34) S2) := by kernel_rfl
theorem reg39_8 {O : Known} {T : FT} {S : MS} {Q : FT → MS → Prop} : mOps Try.prog O 40 (ro 39 8).toList (ro 39 8).toList [] T S Q =
  (∃ p1, ldS none S (T.get 2) = some p1 ∧ CallV Try.prog O p1 [(T.get 6)] S fun p3 S3 => ∃ p4 S4, apS false 1 8 [.int .i64 0] S3 [(T.get 5), p3] = some (p4, S4) ∧ Q ((((((T.set (T.get 5) 35).set p1 36).set (T.get 6) 37).set p3 38).set p4 39).set p4 5) S4) := by kernel_rfl
end Go.Proofs.Ytgkdmnfmfcdfmaa

