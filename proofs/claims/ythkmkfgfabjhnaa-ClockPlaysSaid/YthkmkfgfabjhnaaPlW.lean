/-
  The walk through both clocks' code: what its functions do to memory, part PlW. Nothing is asked.
-/
import Derived.Test.YthkmkfgfabjhnaaProg
import Derived.Test.YthkmkfgfabjhnaaAg3
import Derived.KernelRfl
set_option linter.all false
namespace Go.Proofs.Ythkmkfgfabjhnaa
open Go Go.Ag
set_option linter.unusedVariables false
set_option maxRecDepth 100000
noncomputable def ro (f id : Nat) : Array Oper := roP Try.prog f id
/-! ### 3: windlass/windlasslaw22.ClockOnce -/
/-! ### 7: windlass/clock.New -/
theorem body7 : (Try.prog.funcs[7]?).bind (·.body) = some (.seq (.region 0 (ro 7 0) false) (.seq (.region 1 (ro 7 1) false) (.seq (.seq (.region 2 (ro 7 2) false) (.cond (.tmp 23) (.region 3 (ro 7 3) false) .skip)) (.seq (.seq (.region 4 (ro 7 4) false) (.cond (.tmp 32) (.region 5 (ro 7 5) false) .skip)) (.seq (.region 6 (ro 7 6) false) (.seq (.region 7 (ro 7 7) false) .ret)))))) := by kernel_rfl
theorem res7 : (Try.prog.funcs[7]?).map (·.results.toList) = some [.tmp 6] := by kernel_rfl
theorem is7 : fnIsB Try.prog 7 42 = true := by kernel_rfl
theorem reg7_0 {O : Known} {T : FT} {S : MS} {Q : FT → MS → Prop} : mOps Try.prog O 42 (ro 7 0).toList (ro 7 0).toList [] T S Q =
  (Q (T.set (.pointer none) 6) S) := by kernel_rfl
theorem reg7_1 {O : Known} {T : FT} {S : MS} {Q : FT → MS → Prop} : mOps Try.prog O 42 (ro 7 1).toList (ro 7 1).toList [] T S Q =
  (∃ p4, lenSl (T.get 2) = some p4 ∧ ∃ p5, aminmax false [p4, (.int .i64 12)] = some p5 ∧ ∃ p6, slS 4 S (T.get 2) none (some p5) none = some p6 ∧ CallM Try.prog O 19 [p6] S fun p7 S7 => ∃ p8, bdS (fun i => [(0, 1), (1, 1), (2, 1)][i]?) [.int .i64 0, .int .i64 0, .slice none 0 0] [(0, (T.get 0)), (1, (T.get 1)), (2, p7)] = some p8 ∧ Q (((((((((((T.set (T.get 0) 8).set (T.get 1) 9).set (T.get 2) 10).set (T.get 2) 11).set p4 12).set p5 13).set p6 14).set p7 15).set p8 16).set (ptrTo S7.n) 17).set (ptrTo S7.n) 7) (S7.fresh (Value.cells p8).toList 0)) := by kernel_rfl
theorem reg7_2 {O : Known} {T : FT} {S : MS} {Q : FT → MS → Prop} : mOps Try.prog O 42 (ro 7 2).toList (ro 7 2).toList [] T S Q =
  (∃ p1, abin Try.prog .lss 3 (.tmp 18) (.const (.int .i64 0)) (T.get 0) (.int .i64 0) = some p1 ∧ ∃ b2, p1 = .bool b2 ∧
     (b2 = true → ∃ p5, pickS p1 (.bool true) undef = some p5 ∧ Q ((((((T.set (T.get 0) 18).set p1 19).set p1 20).set undef 21).set undef 22).set p5 23) S) ∧
     (b2 = false → ∃ p4, abin Try.prog .gtr 3 (.tmp 21) (.const (.int .i64 1099511627776)) (T.get 0) (.int .i64 1099511627776) = some p4 ∧ ∃ p5, pickS p1 (.bool true) p4 = some p5 ∧ Q ((((((T.set (T.get 0) 18).set p1 19).set p1 20).set (T.get 0) 21).set p4 22).set p5 23) S)) := by kernel_rfl
theorem reg7_3 {O : Known} {T : FT} {S : MS} {Q : FT → MS → Prop} : mOps Try.prog O 42 (ro 7 3).toList (ro 7 3).toList [] T S Q =
  (∃ p1, nilS (T.get 7) = some p1 ∧ ∃ p2, faS 0 p1 = some p2 ∧ ∃ S3, stS 1 S p2 (.int .i64 0) = some S3 ∧ Q (((T.set (T.get 7) 24).set p1 25).set p2 26) S3) := by kernel_rfl
theorem reg7_4 {O : Known} {T : FT} {S : MS} {Q : FT → MS → Prop} : mOps Try.prog O 42 (ro 7 4).toList (ro 7 4).toList [] T S Q =
  (∃ p1, abin Try.prog .lss 3 (.tmp 27) (.const (.int .i64 1)) (T.get 1) (.int .i64 1) = some p1 ∧ ∃ b2, p1 = .bool b2 ∧
     (b2 = true → ∃ p5, pickS p1 (.bool true) undef = some p5 ∧ Q ((((((T.set (T.get 1) 27).set p1 28).set p1 29).set undef 30).set undef 31).set p5 32) S) ∧
     (b2 = false → ∃ p4, abin Try.prog .gtr 3 (.tmp 30) (.const (.int .i64 1099511627776)) (T.get 1) (.int .i64 1099511627776) = some p4 ∧ ∃ p5, pickS p1 (.bool true) p4 = some p5 ∧ Q ((((((T.set (T.get 1) 27).set p1 28).set p1 29).set (T.get 1) 30).set p4 31).set p5 32) S)) := by kernel_rfl
theorem reg7_5 {O : Known} {T : FT} {S : MS} {Q : FT → MS → Prop} : mOps Try.prog O 42 (ro 7 5).toList (ro 7 5).toList [] T S Q =
  (∃ p1, nilS (T.get 7) = some p1 ∧ ∃ p2, faS 1 p1 = some p2 ∧ ∃ S3, stS 1 S p2 (.int .i64 1) = some S3 ∧ Q (((T.set (T.get 7) 33).set p1 34).set p2 35) S3) := by kernel_rfl
theorem reg7_6 {O : Known} {T : FT} {S : MS} {Q : FT → MS → Prop} : mOps Try.prog O 42 (ro 7 6).toList (ro 7 6).toList [] T S Q =
  (∃ p1, nilS (T.get 7) = some p1 ∧ ∃ p2, faS 2 p1 = some p2 ∧ ∃ p3, ldS none S p2 = some p3 ∧ CallM Try.prog O 20 [p3, (.func (.func 21) #[] #[])] S fun p4 S4 => Q (((((T.set (T.get 7) 36).set p1 37).set p2 38).set p3 39).set p4 40) S4) := by kernel_rfl
theorem reg7_7 {O : Known} {T : FT} {S : MS} {Q : FT → MS → Prop} : mOps Try.prog O 42 (ro 7 7).toList (ro 7 7).toList [] T S Q =
  (Q ((T.set (T.get 7) 41).set (T.get 7) 6) S) := by kernel_rfl
/-! ### 8: (*windlass/clock.Clock).Set -/
theorem body8 : (Try.prog.funcs[8]?).bind (·.body) = some (.seq (.region 0 (ro 8 0) false) (.seq (.block 0 (.seq (.region 1 (ro 8 1) false) (.cond (.tmp 6) (.seq (.region 2 (ro 8 2) false) .ret) (.seq (.region 3 (ro 8 3) false) (.cond (.tmp 15) (.seq (.region 4 (ro 8 4) false) .ret) .skip))))) (.seq (.region 5 (ro 8 5) true) (.seq (.region 6 (ro 8 6) false) (.seq (.region 7 (ro 8 7) false) (.seq (.region 8 (ro 8 8) false) .ret)))))) := by kernel_rfl
theorem res8 : (Try.prog.funcs[8]?).map (·.results.toList) = some [.tmp 4, .tmp 5] := by kernel_rfl
theorem is8 : fnIsB Try.prog 8 62 = true := by kernel_rfl
theorem reg8_0 {O : Known} {T : FT} {S : MS} {Q : FT → MS → Prop} : mOps Try.prog O 62 (ro 8 0).toList (ro 8 0).toList [] T S Q =
  (Q (((T.set (ptrTo S.n) 3).set (.int .i64 0) 4).set (.int .i64 0) 5) (S.fresh (Value.cells (T.get 1)).toList 0)) := by kernel_rfl
theorem reg8_1 {O : Known} {T : FT} {S : MS} {Q : FT → MS → Prop} : mOps Try.prog O 62 (ro 8 1).toList (ro 8 1).toList [] T S Q =
  (∃ p0, faS 0 (T.get 3) = some p0 ∧ ∃ p1, ldS none S p0 = some p1 ∧ ∃ p2, abin Try.prog .lss 3 (.tmp 8) (.const (.int .i64 1)) p1 (.int .i64 1) = some p2 ∧ ∃ b3, p2 = .bool b3 ∧
      (b3 = true → ∃ p7, pickS p2 (.bool true) undef = some p7 ∧ Q (((((((((T.set p0 7).set p1 8).set p2 9).set p2 10).set undef 11).set undef 12).set undef 13).set p7 14).set p7 6) S) ∧
      (b3 = false → ∃ p4, faS 0 (T.get 3) = some p4 ∧ ∃ p5, ldS none S p4 = some p5 ∧ ∃ p6, abin Try.prog .gtr 3 (.tmp 12) (.const (.int .i64 1000)) p5 (.int .i64 1000) = some p6 ∧ ∃ p7, pickS p2 (.bool true) p6 = some p7 ∧ Q (((((((((T.set p0 7).set p1 8).set p2 9).set p2 10).set p4 11).set p5 12).set p6 13).set p7 14).set p7 6) S)) := by kernel_rfl
theorem reg8_2 {O : Known} {T : FT} {S : MS} {Q : FT → MS → Prop} : mOps Try.prog O 62 (ro 8 2).toList (ro 8 2).toList [] T S Q =
  (Q ((T.set (.int .i64 0) 4).set (.int .i64 221) 5) S) := by kernel_rfl
theorem reg8_3 {O : Known} {T : FT} {S : MS} {Q : FT → MS → Prop} : mOps Try.prog O 62 (ro 8 3).toList (ro 8 3).toList [] T S Q =
  (∃ p1, nilS (T.get 0) = some p1 ∧ ∃ p2, faS 2 p1 = some p2 ∧ ∃ p3, ldS none S p2 = some p3 ∧ ∃ p4, lenSl p3 = some p4 ∧ ∃ p5, abin Try.prog .geq 3 (.tmp 20) (.const (.int .i64 12)) p4 (.int .i64 12) = some p5 ∧ Q (((((((T.set (T.get 0) 16).set p1 17).set p2 18).set p3 19).set p4 20).set p5 21).set p5 15) S) := by kernel_rfl
theorem reg8_4 {O : Known} {T : FT} {S : MS} {Q : FT → MS → Prop} : mOps Try.prog O 62 (ro 8 4).toList (ro 8 4).toList [] T S Q =
  (Q ((T.set (.int .i64 0) 4).set (.int .i64 220) 5) S) := by kernel_rfl
theorem reg8_5 {O : Known} {T : FT} {S : MS} {Q : FT → MS → Prop} : mDraw Try.prog O 62 (ro 8 5).toList T S Q =
  (∃ p2, nilS (T.get 0) = some p2 ∧ ∃ p3, faS 2 p2 = some p3 ∧ ∃ p4, ldS none S p3 = some p4 ∧ ∃ p6, nilS (T.get 0) = some p6 ∧ ∃ p7, faS 0 p6 = some p7 ∧ ∃ p8, ldS none S p7 = some p8 ∧ ∃ p9, faS 0 (T.get 3) = some p9 ∧ ∃ p10, ldS none S p9 = some p10 ∧ ∃ p11, abin Try.prog .add 3 (.tmp 30) (.tmp 32) p8 p10 = some p11 ∧ ∃ p13, nilS (T.get 0) = some p13 ∧ ∃ p14, faS 1 p13 = some p14 ∧ ∃ p15, ldS none S p14 = some p15 ∧ ∃ p16, faS 1 (T.get 3) = some p16 ∧ ∃ p17, ldS (some 2) S p16 = some p17 ∧ ∃ p18, bdS (fun i => [(0, 1), (1, 1), (2, 2)][i]?) [.int .i64 0, .int .i64 0, .string ⟨⟨[]⟩⟩, .slice none 0 0] [(0, p11), (1, p15), (2, p17)] = some p18 ∧ ∃ p19 S19, bsS S 1 4 [.int .i64 0, .int .i64 0, .string ⟨⟨[]⟩⟩, .slice none 0 0] [(0, p18)] = some (p19, S19) ∧ ∃ p20 S20, apS false 4 56 [.int .i64 0, .int .i64 0, .string ⟨⟨[]⟩⟩, .slice none 0 0] S19 [p4, p19] = some (p20, S20) ∧ ∃ p21, nilS (T.get 0) = some p21 ∧ ∃ p22, faS 2 p21 = some p22 ∧ ∃ S23, stS 1 S20 p22 p20 = some S23 ∧ Q (((((((((((((((((((((((T.set (T.get 0) 23).set p2 24).set p3 25).set p4 26).set (T.get 0) 27).set p6 28).set p7 29).set p8 30).set p9 31).set p10 32).set p11 33).set (T.get 0) 34).set p13 35).set p14 36).set p15 37).set p16 38).set p17 39).set p18 40).set p19 41).set p20 42).set (T.get 0) 22).set p21 43).set p22 44) S23) := by kernel_rfl
theorem reg8_6 {O : Known} {T : FT} {S : MS} {Q : FT → MS → Prop} : mOps Try.prog O 62 (ro 8 6).toList (ro 8 6).toList [] T S Q =
  (∃ p1, nilS (T.get 0) = some p1 ∧ ∃ p2, faS 2 p1 = some p2 ∧ ∃ p3, ldS none S p2 = some p3 ∧ CallM Try.prog O 20 [p3, (.func (.func 21) #[] #[])] S fun p4 S4 => Q (((((T.set (T.get 0) 45).set p1 46).set p2 47).set p3 48).set p4 49) S4) := by kernel_rfl
theorem reg8_7 {O : Known} {T : FT} {S : MS} {Q : FT → MS → Prop} : mOps Try.prog O 62 (ro 8 7).toList (ro 8 7).toList [] T S Q =
  (∃ p1, nilS (T.get 0) = some p1 ∧ ∃ p2, faS 1 p1 = some p2 ∧ ∃ p3, ldS none S p2 = some p3 ∧ ∃ p4, abin Try.prog .add 3 (.tmp 53) (.const (.int .i64 1)) p3 (.int .i64 1) = some p4 ∧ ∃ p5, nilS (T.get 0) = some p5 ∧ ∃ p6, faS 1 p5 = some p6 ∧ ∃ S7, stS 1 S p6 p4 = some S7 ∧ Q (((((((T.set (T.get 0) 50).set p1 51).set p2 52).set p3 53).set p4 54).set p5 55).set p6 56) S7) := by kernel_rfl
theorem reg8_8 {O : Known} {T : FT} {S : MS} {Q : FT → MS → Prop} : mOps Try.prog O 62 (ro 8 8).toList (ro 8 8).toList [] T S Q =
  (∃ p1, nilS (T.get 0) = some p1 ∧ ∃ p2, faS 1 p1 = some p2 ∧ ∃ p3, ldS none S p2 = some p3 ∧ ∃ p4, abin Try.prog .sub 3 (.tmp 60) (.const (.int .i64 1)) p3 (.int .i64 1) = some p4 ∧ Q (((((((T.set (T.get 0) 57).set p1 58).set p2 59).set p3 60).set p4 61).set p4 4).set (.int .i64 0) 5) S) := by kernel_rfl
/-! ### 9: (*windlass/clock.Clock).Tick -/
theorem body9 : (Try.prog.funcs[9]?).bind (·.body) = some (.seq (.region 0 (ro 9 0) false) (.seq (.region 1 (ro 9 1) false) (.seq (.region 2 (ro 9 2) false) (.seq (.region 3 (ro 9 3) false) (.seq (.region 4 (ro 9 4) false) .ret))))) := by kernel_rfl
theorem res9 : (Try.prog.funcs[9]?).map (·.results.toList) = some [.tmp 2] := by kernel_rfl
theorem is9 : fnIsB Try.prog 9 29 = true := by kernel_rfl
theorem reg9_0 {O : Known} {T : FT} {S : MS} {Q : FT → MS → Prop} : mOps Try.prog O 29 (ro 9 0).toList (ro 9 0).toList [] T S Q =
  (Q (T.set (.slice none 0 0) 2) S) := by kernel_rfl
theorem reg9_1 {O : Known} {T : FT} {S : MS} {Q : FT → MS → Prop} : mOps Try.prog O 29 (ro 9 1).toList (ro 9 1).toList [] T S Q =
  (∃ p1, nilS (T.get 0) = some p1 ∧ ∃ p2, faS 0 p1 = some p2 ∧ ∃ p3, ldS none S p2 = some p3 ∧ ∃ p4, abin Try.prog .add 3 (.tmp 7) (.const (.int .i64 1)) p3 (.int .i64 1) = some p4 ∧ ∃ p5, nilS (T.get 0) = some p5 ∧ ∃ p6, faS 0 p5 = some p6 ∧ ∃ S7, stS 1 S p6 p4 = some S7 ∧ Q (((((((T.set (T.get 0) 4).set p1 5).set p2 6).set p3 7).set p4 8).set p5 9).set p6 10) S7) := by kernel_rfl
theorem reg9_2 {O : Known} {T : FT} {S : MS} {Q : FT → MS → Prop} : mOps Try.prog O 29 (ro 9 2).toList (ro 9 2).toList [] T S Q =
  (∃ p2, nilS (T.get 0) = some p2 ∧ ∃ p3, faS 0 p2 = some p3 ∧ ∃ p4, ldS none S p3 = some p4 ∧ CallM Try.prog O 23 [(T.get 0), p4] S fun p5 S5 => CallM Try.prog O 22 [p5] S5 fun p6 S6 => Q ((((((((T.set (T.get 0) 11).set (T.get 0) 12).set p2 13).set p3 14).set p4 15).set p5 16).set p6 17).set p6 3) S6) := by kernel_rfl
theorem reg9_3 {O : Known} {T : FT} {S : MS} {Q : FT → MS → Prop} : mOps Try.prog O 29 (ro 9 3).toList (ro 9 3).toList [] T S Q =
  (∃ p2, nilS (T.get 0) = some p2 ∧ ∃ p3, faS 2 p2 = some p3 ∧ ∃ p4, ldS none S p3 = some p4 ∧ ∃ p6, lenSl (T.get 3) = some p6 ∧ CallM Try.prog O 24 [p4, (.int .i64 0), p6] S fun p7 S7 => ∃ p8, nilS (T.get 0) = some p8 ∧ ∃ p9, faS 2 p8 = some p9 ∧ ∃ S10, stS 1 S7 p9 p7 = some S10 ∧ Q ((((((((((T.set (T.get 0) 18).set (T.get 0) 19).set p2 20).set p3 21).set p4 22).set (T.get 3) 23).set p6 24).set p7 25).set p8 26).set p9 27) S10) := by kernel_rfl
theorem reg9_4 {O : Known} {T : FT} {S : MS} {Q : FT → MS → Prop} : mOps Try.prog O 29 (ro 9 4).toList (ro 9 4).toList [] T S Q =
  (Q ((T.set (T.get 3) 28).set (T.get 3) 2) S) := by kernel_rfl
/-! ### 10: (*windlass/clock.Clock).Now -/
theorem body10 : (Try.prog.funcs[10]?).bind (·.body) = some (.seq (.region 0 (ro 10 0) false) (.seq (.region 1 (ro 10 1) false) .ret)) := by kernel_rfl
theorem res10 : (Try.prog.funcs[10]?).map (·.results.toList) = some [.tmp 2] := by kernel_rfl
theorem is10 : fnIsB Try.prog 10 7 = true := by kernel_rfl
theorem reg10_0 {O : Known} {T : FT} {S : MS} {Q : FT → MS → Prop} : mOps Try.prog O 7 (ro 10 0).toList (ro 10 0).toList [] T S Q =
  (Q (T.set (.int .i64 0) 2) S) := by kernel_rfl
theorem reg10_1 {O : Known} {T : FT} {S : MS} {Q : FT → MS → Prop} : mOps Try.prog O 7 (ro 10 1).toList (ro 10 1).toList [] T S Q =
  (∃ p1, nilS (T.get 0) = some p1 ∧ ∃ p2, faS 0 p1 = some p2 ∧ ∃ p3, ldS none S p2 = some p3 ∧ Q (((((T.set (T.get 0) 3).set p1 4).set p2 5).set p3 6).set p3 2) S) := by kernel_rfl
/-! ### 17: (*windlass/clock.Clock).Next -/
theorem body17 : (Try.prog.funcs[17]?).bind (·.body) = some (.seq (.region 0 (ro 17 0) false) (.seq (.region 1 (ro 17 1) false) .ret)) := by kernel_rfl
theorem res17 : (Try.prog.funcs[17]?).map (·.results.toList) = some [.tmp 2] := by kernel_rfl
theorem is17 : fnIsB Try.prog 17 7 = true := by kernel_rfl
theorem reg17_0 {O : Known} {T : FT} {S : MS} {Q : FT → MS → Prop} : mOps Try.prog O 7 (ro 17 0).toList (ro 17 0).toList [] T S Q =
  (Q (T.set (.int .i64 0) 2) S) := by kernel_rfl
theorem reg17_1 {O : Known} {T : FT} {S : MS} {Q : FT → MS → Prop} : mOps Try.prog O 7 (ro 17 1).toList (ro 17 1).toList [] T S Q =
  (∃ p1, nilS (T.get 0) = some p1 ∧ ∃ p2, faS 1 p1 = some p2 ∧ ∃ p3, ldS none S p2 = some p3 ∧ Q (((((T.set (T.get 0) 3).set p1 4).set p2 5).set p3 6).set p3 2) S) := by kernel_rfl
/-! ### 19: slices.Clone[[]windlass/api.Timer,windlass/api.Timer] -/
theorem body19 : (Try.prog.funcs[19]?).bind (·.body) = some (.seq (.region 0 (ro 19 0) false) (.seq (.seq (.region 1 (ro 19 1) false) (.cond (.tmp 4) (.seq (.region 2 (ro 19 2) false) .ret) .skip)) (.seq (.region 3 (ro 19 3) false) .ret))) := by kernel_rfl
theorem res19 : (Try.prog.funcs[19]?).map (·.results.toList) = some [.tmp 2] := by kernel_rfl
theorem is19 : fnIsB Try.prog 19 8 = true := by kernel_rfl
theorem reg19_0 {O : Known} {T : FT} {S : MS} {Q : FT → MS → Prop} : mOps Try.prog O 8 (ro 19 0).toList (ro 19 0).toList [] T S Q =
  (Q (T.set (.slice none 0 0) 2) S) := by kernel_rfl
theorem reg19_1 {O : Known} {T : FT} {S : MS} {Q : FT → MS → Prop} : mOps Try.prog O 8 (ro 19 1).toList (ro 19 1).toList [] T S Q =
  (∃ p1, abin Try.prog .eql 35 (.tmp 3) (.const (.slice none 0 0)) (T.get 0) (.slice none 0 0) = some p1 ∧ Q ((T.set (T.get 0) 3).set p1 4) S) := by kernel_rfl
theorem reg19_2 {O : Known} {T : FT} {S : MS} {Q : FT → MS → Prop} : mOps Try.prog O 8 (ro 19 2).toList (ro 19 2).toList [] T S Q =
  (Q (T.set (.slice none 0 0) 2) S) := by kernel_rfl
theorem reg19_3 {O : Known} {T : FT} {S : MS} {Q : FT → MS → Prop} : mOps Try.prog O 8 (ro 19 3).toList (ro 19 3).toList [] T S Q =
  (∃ p0 S0, bsS S 0 4 [] [] = some (p0, S0) ∧ ∃ p2 S2, apS false 4 56 [.int .i64 0, .int .i64 0, .string ⟨⟨[]⟩⟩, .slice none 0 0] S0 [p0, (T.get 0)] = some (p2, S2) ∧ Q ((((T.set p0 5).set (T.get 0) 6).set p2 7).set p2 2) S2) := by kernel_rfl
/-! ### 20: slices.SortStableFunc[[]windlass/api.Timer,windlass/api.Timer] -/
theorem body20 : (Try.prog.funcs[20]?).bind (·.body) = some (.region 0 (ro 20 0) false) := by kernel_rfl
theorem res20 : (Try.prog.funcs[20]?).map (·.results.toList) = some [] := by kernel_rfl
theorem is20 : fnIsB Try.prog 20 9 = true := by kernel_rfl
theorem reg20_0 {O : Known} {T : FT} {S : MS} {Q : FT → MS → Prop} : mOps Try.prog O 9 (ro 20 0).toList (ro 20 0).toList [] T S Q =
  (∃ p2, lenSl (T.get 0) = some p2 ∧ CallM Try.prog O 27 [(T.get 0), p2, (T.get 1)] S fun p4 S4 => Q (((((T.set (T.get 0) 4).set (T.get 0) 5).set p2 6).set (T.get 1) 7).set p4 8) S4) := by kernel_rfl
/-! ### 21: windlass/clock.order -/
theorem body21 : (Try.prog.funcs[21]?).bind (·.body) = some (.seq (.region 0 (ro 21 0) false) (.seq (.region 1 (ro 21 1) true) .ret)) := by kernel_rfl
theorem res21 : (Try.prog.funcs[21]?).map (·.results.toList) = some [.tmp 4] := by kernel_rfl
theorem is21 : fnIsB Try.prog 21 17 = true := by kernel_rfl
theorem reg21_0 {O : Known} {T : FT} {S : MS} {Q : FT → MS → Prop} : mOps Try.prog O 17 (ro 21 0).toList (ro 21 0).toList [] T S Q =
  (Q (((T.set (ptrTo S.n) 2).set (ptrTo (S.fresh (Value.cells (T.get 0)).toList 0).n) 3).set (.int .i64 0) 4) ((S.fresh (Value.cells (T.get 0)).toList 0).fresh (Value.cells (T.get 1)).toList 0)) := by kernel_rfl
theorem reg21_1 {O : Known} {T : FT} {S : MS} {Q : FT → MS → Prop} : mDraw Try.prog O 17 (ro 21 1).toList T S Q =
  (∃ p0, faS 0 (T.get 2) = some p0 ∧ ∃ p1, ldS none S p0 = some p1 ∧ ∃ p2, faS 0 (T.get 3) = some p2 ∧ ∃ p3, ldS none S p2 = some p3 ∧ CallM Try.prog O 29 [p1, p3] S fun p4 S4 => ∃ p5, faS 1 (T.get 2) = some p5 ∧ ∃ p6, ((ldS none S4 p5).bind fun v => (ldS none S p5).bind fun w => if veq v w then some v else none) = some p6 ∧ ∃ p7, faS 1 (T.get 3) = some p7 ∧ ∃ p8, ((ldS none S4 p7).bind fun v => (ldS none S p7).bind fun w => if veq v w then some v else none) = some p8 ∧ CallM Try.prog O 29 [p6, p8] S4 fun p9 S9 => ∃ p10 S10, bsS S9 2 1 [.int .i64 0, .int .i64 0] [(0, p4), (1, p9)] = some (p10, S10) ∧ CallM Try.prog O 28 [p10] S10 fun p11 S11 => Q (((((((((((((T.set p0 5).set p1 6).set p2 7).set p3 8).set p4 9).set p5 10).set p6 11).set p7 12).set p8 13).set p9 14).set p10 15).set p11 16).set p11 4) S11) := by kernel_rfl
/-! ### 22: slices.Collect[windlass/api.Timer] -/
theorem body22 : (Try.prog.funcs[22]?).bind (·.body) = some (.seq (.region 0 (ro 22 0) false) (.seq (.region 1 (ro 22 1) false) .ret)) := by kernel_rfl
theorem res22 : (Try.prog.funcs[22]?).map (·.results.toList) = some [.tmp 2] := by kernel_rfl
theorem is22 : fnIsB Try.prog 22 5 = true := by kernel_rfl
theorem reg22_0 {O : Known} {T : FT} {S : MS} {Q : FT → MS → Prop} : mOps Try.prog O 5 (ro 22 0).toList (ro 22 0).toList [] T S Q =
  (Q (T.set (.slice none 0 0) 2) S) := by kernel_rfl
theorem reg22_1 {O : Known} {T : FT} {S : MS} {Q : FT → MS → Prop} : mOps Try.prog O 5 (ro 22 1).toList (ro 22 1).toList [] T S Q =
  (CallM Try.prog O 30 [(.slice none 0 0), (T.get 0)] S fun p1 S1 => Q (((T.set (T.get 0) 3).set p1 4).set p1 2) S1) := by kernel_rfl
/-! ### 23: (*windlass/clock.Clock).due -/
theorem body23 : (Try.prog.funcs[23]?).bind (·.body) = some (.seq (.region 0 (ro 23 0) false) (.seq (.region 1 (ro 23 1) false) .ret)) := by kernel_rfl
theorem res23 : (Try.prog.funcs[23]?).map (·.results.toList) = some [.tmp 4] := by kernel_rfl
theorem is23 : fnIsB Try.prog 23 6 = true := by kernel_rfl
theorem reg23_0 {O : Known} {T : FT} {S : MS} {Q : FT → MS → Prop} : mOps Try.prog O 6 (ro 23 0).toList (ro 23 0).toList [] T S Q =
  (Q (((T.set (ptrTo S.n) 2).set (ptrTo (S.fresh (Value.cells (T.get 0)).toList 0).n) 3).set (.nilFunc) 4) ((S.fresh (Value.cells (T.get 0)).toList 0).fresh (Value.cells (T.get 1)).toList 0)) := by kernel_rfl
theorem reg23_1 {O : Known} {T : FT} {S : MS} {Q : FT → MS → Prop} : mOps Try.prog O 6 (ro 23 1).toList (ro 23 1).toList [] T S Q =
  (Q ((T.set (.func (.func 31) (Array.mk []) (Array.mk [(T.get 2), (T.get 3)])) 5).set (.func (.func 31) (Array.mk []) (Array.mk [(T.get 2), (T.get 3)])) 4) S) := by kernel_rfl
/-! ### 24: slices.Delete[[]windlass/api.Timer,windlass/api.Timer] -/
theorem body24 : (Try.prog.funcs[24]?).bind (·.body) = some (.seq (.region 0 (ro 24 0) false) (.seq (.region 1 (ro 24 1) false) (.seq (.seq (.region 2 (ro 24 2) false) (.cond (.tmp 16) (.seq (.region 3 (ro 24 3) false) .ret) .skip)) (.seq (.region 4 (ro 24 4) false) (.seq (.region 5 (ro 24 5) true) (.seq (.region 6 (ro 24 6) false) (.seq (.region 7 (ro 24 7) false) .ret))))))) := by kernel_rfl
theorem res24 : (Try.prog.funcs[24]?).map (·.results.toList) = some [.tmp 6] := by kernel_rfl
theorem is24 : fnIsB Try.prog 24 33 = true := by kernel_rfl
theorem reg24_0 {O : Known} {T : FT} {S : MS} {Q : FT → MS → Prop} : mOps Try.prog O 33 (ro 24 0).toList (ro 24 0).toList [] T S Q =
  (Q (T.set (.slice none 0 0) 6) S) := by kernel_rfl
theorem reg24_1 {O : Known} {T : FT} {S : MS} {Q : FT → MS → Prop} : mOps Try.prog O 33 (ro 24 1).toList (ro 24 1).toList [] T S Q =
  (∃ p4, lenSl (T.get 0) = some p4 ∧ ∃ p5, slS 4 S (T.get 0) (some (T.get 1)) (some (T.get 2)) (some p4) = some p5 ∧ Q ((((((T.set (T.get 0) 8).set (T.get 1) 9).set (T.get 2) 10).set (T.get 0) 11).set p4 12).set p5 13) S) := by kernel_rfl
theorem reg24_2 {O : Known} {T : FT} {S : MS} {Q : FT → MS → Prop} : mOps Try.prog O 33 (ro 24 2).toList (ro 24 2).toList [] T S Q =
  (∃ p2, abin Try.prog .eql 3 (.tmp 14) (.tmp 15) (T.get 1) (T.get 2) = some p2 ∧ Q (((T.set (T.get 1) 14).set (T.get 2) 15).set p2 16) S) := by kernel_rfl
theorem reg24_3 {O : Known} {T : FT} {S : MS} {Q : FT → MS → Prop} : mOps Try.prog O 33 (ro 24 3).toList (ro 24 3).toList [] T S Q =
  (Q ((T.set (T.get 0) 17).set (T.get 0) 6) S) := by kernel_rfl
theorem reg24_4 {O : Known} {T : FT} {S : MS} {Q : FT → MS → Prop} : mOps Try.prog O 33 (ro 24 4).toList (ro 24 4).toList [] T S Q =
  (∃ p1, lenSl (T.get 0) = some p1 ∧ Q (((T.set (T.get 0) 18).set p1 19).set p1 7) S) := by kernel_rfl
theorem reg24_5 {O : Known} {T : FT} {S : MS} {Q : FT → MS → Prop} : mDraw Try.prog O 33 (ro 24 5).toList T S Q =
  (∃ p2, slS 4 S (T.get 0) none (some (T.get 1)) none = some p2 ∧ ∃ p5, slS 4 S (T.get 0) (some (T.get 2)) none none = some p5 ∧ ∃ p6 S6, apS false 4 56 [.int .i64 0, .int .i64 0, .string ⟨⟨[]⟩⟩, .slice none 0 0] S [p2, p5] = some (p6, S6) ∧ Q ((((((((T.set (T.get 0) 20).set (T.get 1) 21).set p2 22).set (T.get 0) 23).set (T.get 2) 24).set p5 25).set p6 26).set p6 0) S6) := by kernel_rfl
theorem reg24_6 {O : Known} {T : FT} {S : MS} {Q : FT → MS → Prop} : mOps Try.prog O 33 (ro 24 6).toList (ro 24 6).toList [] T S Q =
  (∃ p2, lenSl (T.get 0) = some p2 ∧ ∃ p4, slS 4 S (T.get 0) (some p2) (some (T.get 7)) none = some p4 ∧ ∃ p5 S5, clS [.int .i64 0, .int .i64 0, .string ⟨⟨[]⟩⟩, .slice none 0 0] S [p4] = some (p5, S5) ∧ Q (((((T.set (T.get 0) 27).set (T.get 0) 28).set p2 29).set (T.get 7) 30).set p4 31) S5) := by kernel_rfl
theorem reg24_7 {O : Known} {T : FT} {S : MS} {Q : FT → MS → Prop} : mOps Try.prog O 33 (ro 24 7).toList (ro 24 7).toList [] T S Q =
  (Q ((T.set (T.get 0) 32).set (T.get 0) 6) S) := by kernel_rfl
/-! ### 27: slices.stableCmpFunc[windlass/api.Timer] -/
noncomputable def blk27_1 : Code := .block 1 (.seq (.region 3 (ro 27 3) false) (.seq (.region 4 (ro 27 4) false) (.region 5 (ro 27 5) false)))
noncomputable def blk27_0 : Code := .block 0 (.loop (.seq (.seq (.region 2 (ro 27 2) false) (.cond (.tmp 13) .skip (.exit 0))) blk27_1))
noncomputable def blk27_5 : Code := .block 5 (.seq (.region 10 (ro 27 10) false) (.seq (.region 11 (ro 27 11) false) (.region 12 (ro 27 12) false)))
noncomputable def blk27_4 : Code := .block 4 (.loop (.seq (.seq (.region 9 (ro 27 9) false) (.cond (.tmp 35) .skip (.exit 4))) blk27_5))
noncomputable def blk27_3 : Code := .block 3 (.seq (.region 8 (ro 27 8) false) (.seq blk27_4 (.seq (.seq (.region 13 (ro 27 13) false) (.seq (.region 14 (ro 27 14) false) (.cond (.tmp 54) (.region 15 (ro 27 15) false) .skip))) (.region 16 (ro 27 16) false))))
noncomputable def blk27_2 : Code := .block 2 (.loop (.seq (.seq (.region 7 (ro 27 7) false) (.cond (.tmp 30) .skip (.exit 2))) blk27_3))
theorem body27 : (Try.prog.funcs[27]?).bind (·.body) = some (.seq (.region 0 (ro 27 0) false) (.seq (.region 1 (ro 27 1) false) (.seq blk27_0 (.seq (.region 6 (ro 27 6) false) blk27_2)))) := by kernel_rfl
theorem res27 : (Try.prog.funcs[27]?).map (·.results.toList) = some [] := by kernel_rfl
theorem is27 : fnIsB Try.prog 27 63 = true := by kernel_rfl
theorem reg27_0 {O : Known} {T : FT} {S : MS} {Q : FT → MS → Prop} : mOps Try.prog O 63 (ro 27 0).toList (ro 27 0).toList [] T S Q =
  (Q (T.set (.int .i64 20) 6) S) := by kernel_rfl
theorem reg27_1 {O : Known} {T : FT} {S : MS} {Q : FT → MS → Prop} : mOps Try.prog O 63 (ro 27 1).toList (ro 27 1).toList [] T S Q =
  (Q (((T.set (T.get 6) 10).set (.int .i64 0) 7).set (T.get 6) 8) S) := by kernel_rfl
theorem reg27_2 {O : Known} {T : FT} {S : MS} {Q : FT → MS → Prop} : mOps Try.prog O 63 (ro 27 2).toList (ro 27 2).toList [] T S Q =
  (∃ p2, abin Try.prog .leq 3 (.tmp 11) (.tmp 12) (T.get 8) (T.get 1) = some p2 ∧ Q (((T.set (T.get 8) 11).set (T.get 1) 12).set p2 13) S) := by kernel_rfl
theorem reg27_6 {O : Known} {T : FT} {S : MS} {Q : FT → MS → Prop} : mOps Try.prog O 63 (ro 27 6).toList (ro 27 6).toList [] T S Q =
  (CallM Try.prog O 34 [(T.get 0), (T.get 7), (T.get 1), (T.get 2)] S fun p4 S4 => Q (((((T.set (T.get 0) 23).set (T.get 7) 24).set (T.get 1) 25).set (T.get 2) 26).set p4 27) S4) := by kernel_rfl
theorem reg27_7 {O : Known} {T : FT} {S : MS} {Q : FT → MS → Prop} : mOps Try.prog O 63 (ro 27 7).toList (ro 27 7).toList [] T S Q =
  (∃ p2, abin Try.prog .lss 3 (.tmp 28) (.tmp 29) (T.get 6) (T.get 1) = some p2 ∧ Q (((T.set (T.get 6) 28).set (T.get 1) 29).set p2 30) S) := by kernel_rfl
/-! ### 28: cmp.Or[int] -/
noncomputable def blk28_1 : Code := .block 1 (.seq (.region 4 (ro 28 4) false) (.seq (.region 5 (ro 28 5) false) (.cond (.tmp 14) (.seq (.region 6 (ro 28 6) false) .ret) .skip)))
noncomputable def blk28_0 : Code := .block 0 (.loop (.seq (.region 3 (ro 28 3) false) (.seq (.cond (.tmp 9) .skip (.exit 0)) (.seq blk28_1 (.region 7 (ro 28 7) false)))))
theorem body28 : (Try.prog.funcs[28]?).bind (·.body) = some (.seq (.region 0 (ro 28 0) false) (.seq (.region 1 (ro 28 1) false) (.seq (.seq (.region 2 (ro 28 2) false) blk28_0) (.seq (.region 8 (ro 28 8) false) .ret)))) := by kernel_rfl
theorem res28 : (Try.prog.funcs[28]?).map (·.results.toList) = some [.tmp 2] := by kernel_rfl
theorem is28 : fnIsB Try.prog 28 18 = true := by kernel_rfl
theorem reg28_0 {O : Known} {T : FT} {S : MS} {Q : FT → MS → Prop} : mOps Try.prog O 18 (ro 28 0).toList (ro 28 0).toList [] T S Q =
  (Q (T.set (.int .i64 0) 2) S) := by kernel_rfl
theorem reg28_1 {O : Known} {T : FT} {S : MS} {Q : FT → MS → Prop} : mOps Try.prog O 18 (ro 28 1).toList (ro 28 1).toList [] T S Q =
  (Q (T.set (.int .i64 0) 3) S) := by kernel_rfl
theorem reg28_2 {O : Known} {T : FT} {S : MS} {Q : FT → MS → Prop} : mOps Try.prog O 18 (ro 28 2).toList (ro 28 2).toList [] T S Q =
  (∃ p1, lenSl (T.get 0) = some p1 ∧ Q (((T.set (T.get 0) 6).set p1 7).set (.int .i64 0) 8) S) := by kernel_rfl
theorem reg28_3 {O : Known} {T : FT} {S : MS} {Q : FT → MS → Prop} : mOps Try.prog O 18 (ro 28 3).toList (ro 28 3).toList [] T S Q =
  (∃ p0, abin Try.prog .lss 3 (.tmp 8) (.tmp 7) (T.get 8) (T.get 7) = some p0 ∧ Q (T.set p0 9) S) := by kernel_rfl
theorem reg28_4 {O : Known} {T : FT} {S : MS} {Q : FT → MS → Prop} : mOps Try.prog O 18 (ro 28 4).toList (ro 28 4).toList [] T S Q =
  (∃ p0, iaSS 1 (T.get 6) (T.get 8) = some p0 ∧ ∃ p1, ldS none S p0 = some p1 ∧ Q (((T.set p0 10).set p1 11).set p1 5) S) := by kernel_rfl
theorem reg28_5 {O : Known} {T : FT} {S : MS} {Q : FT → MS → Prop} : mOps Try.prog O 18 (ro 28 5).toList (ro 28 5).toList [] T S Q =
  (∃ p2, abin Try.prog .neq 3 (.tmp 12) (.tmp 13) (T.get 5) (T.get 3) = some p2 ∧ Q (((T.set (T.get 5) 12).set (T.get 3) 13).set p2 14) S) := by kernel_rfl
theorem reg28_6 {O : Known} {T : FT} {S : MS} {Q : FT → MS → Prop} : mOps Try.prog O 18 (ro 28 6).toList (ro 28 6).toList [] T S Q =
  (Q ((T.set (T.get 5) 15).set (T.get 5) 2) S) := by kernel_rfl
theorem reg28_7 {O : Known} {T : FT} {S : MS} {Q : FT → MS → Prop} : mOps Try.prog O 18 (ro 28 7).toList (ro 28 7).toList [] T S Q =
  (∃ p0, abin Try.prog .add 3 (.tmp 8) (.const (.int .i64 1)) (T.get 8) (.int .i64 1) = some p0 ∧ Q ((T.set p0 16).set p0 8) S) := by kernel_rfl
theorem reg28_8 {O : Known} {T : FT} {S : MS} {Q : FT → MS → Prop} : mOps Try.prog O 18 (ro 28 8).toList (ro 28 8).toList [] T S Q =
  (Q ((T.set (T.get 3) 17).set (T.get 3) 2) S) := by kernel_rfl
/-! ### 29: cmp.Compare[int] -/
theorem body29 : (Try.prog.funcs[29]?).bind (·.body) = some (.seq (.region 0 (ro 29 0) false) (.seq (.region 1 (ro 29 1) false) (.seq (.region 2 (ro 29 2) false) (.seq (.seq (.region 3 (ro 29 3) false) (.cond (.tmp 11) (.seq (.seq (.region 4 (ro 29 4) false) (.cond (.tmp 12) (.seq (.region 5 (ro 29 5) false) .ret) .skip)) (.seq (.region 6 (ro 29 6) false) .ret)) .skip)) (.seq (.seq (.region 7 (ro 29 7) false) (.cond (.tmp 13) (.seq (.region 8 (ro 29 8) false) .ret) .skip)) (.seq (.seq (.region 9 (ro 29 9) false) (.cond (.tmp 16) (.seq (.region 10 (ro 29 10) false) .ret) .skip)) (.seq (.seq (.region 11 (ro 29 11) false) (.cond (.tmp 19) (.seq (.region 12 (ro 29 12) false) .ret) .skip)) (.seq (.region 13 (ro 29 13) false) .ret)))))))) := by kernel_rfl
theorem res29 : (Try.prog.funcs[29]?).map (·.results.toList) = some [.tmp 4] := by kernel_rfl
theorem is29 : fnIsB Try.prog 29 20 = true := by kernel_rfl
theorem reg29_0 {O : Known} {T : FT} {S : MS} {Q : FT → MS → Prop} : mOps Try.prog O 20 (ro 29 0).toList (ro 29 0).toList [] T S Q =
  (Q (T.set (.int .i64 0) 4) S) := by kernel_rfl
theorem reg29_1 {O : Known} {T : FT} {S : MS} {Q : FT → MS → Prop} : mOps Try.prog O 20 (ro 29 1).toList (ro 29 1).toList [] T S Q =
  (CallM Try.prog O 36 [(T.get 0)] S fun p1 S1 => Q (((T.set (T.get 0) 7).set p1 8).set p1 5) S1) := by kernel_rfl
theorem reg29_2 {O : Known} {T : FT} {S : MS} {Q : FT → MS → Prop} : mOps Try.prog O 20 (ro 29 2).toList (ro 29 2).toList [] T S Q =
  (CallM Try.prog O 36 [(T.get 1)] S fun p1 S1 => Q (((T.set (T.get 1) 9).set p1 10).set p1 6) S1) := by kernel_rfl
theorem reg29_3 {O : Known} {T : FT} {S : MS} {Q : FT → MS → Prop} : mOps Try.prog O 20 (ro 29 3).toList (ro 29 3).toList [] T S Q =
  (Q (T.set (T.get 5) 11) S) := by kernel_rfl
theorem reg29_7 {O : Known} {T : FT} {S : MS} {Q : FT → MS → Prop} : mOps Try.prog O 20 (ro 29 7).toList (ro 29 7).toList [] T S Q =
  (Q (T.set (T.get 6) 13) S) := by kernel_rfl
theorem reg29_9 {O : Known} {T : FT} {S : MS} {Q : FT → MS → Prop} : mOps Try.prog O 20 (ro 29 9).toList (ro 29 9).toList [] T S Q =
  (∃ p2, abin Try.prog .lss 3 (.tmp 14) (.tmp 15) (T.get 0) (T.get 1) = some p2 ∧ Q (((T.set (T.get 0) 14).set (T.get 1) 15).set p2 16) S) := by kernel_rfl
theorem reg29_10 {O : Known} {T : FT} {S : MS} {Q : FT → MS → Prop} : mOps Try.prog O 20 (ro 29 10).toList (ro 29 10).toList [] T S Q =
  (Q (T.set (.int .i64 (-1)) 4) S) := by kernel_rfl
theorem reg29_11 {O : Known} {T : FT} {S : MS} {Q : FT → MS → Prop} : mOps Try.prog O 20 (ro 29 11).toList (ro 29 11).toList [] T S Q =
  (∃ p2, abin Try.prog .gtr 3 (.tmp 17) (.tmp 18) (T.get 0) (T.get 1) = some p2 ∧ Q (((T.set (T.get 0) 17).set (T.get 1) 18).set p2 19) S) := by kernel_rfl
theorem reg29_12 {O : Known} {T : FT} {S : MS} {Q : FT → MS → Prop} : mOps Try.prog O 20 (ro 29 12).toList (ro 29 12).toList [] T S Q =
  (Q (T.set (.int .i64 1) 4) S) := by kernel_rfl
theorem reg29_13 {O : Known} {T : FT} {S : MS} {Q : FT → MS → Prop} : mOps Try.prog O 20 (ro 29 13).toList (ro 29 13).toList [] T S Q =
  (Q (T.set (.int .i64 0) 4) S) := by kernel_rfl
/-! ### 30: slices.AppendSeq[[]windlass/api.Timer,windlass/api.Timer] -/
noncomputable def blk30_1 : Code := .block 1 (.region 3 (ro 30 3) false)
noncomputable def blk30_0 : Code := .block 0 (.rangeFunc (.tmp 6) #[7] (.region 2 (ro 30 2) false) blk30_1)
theorem body30 : (Try.prog.funcs[30]?).bind (·.body) = some (.seq (.region 0 (ro 30 0) false) (.seq (.seq (.region 1 (ro 30 1) false) blk30_0) (.seq (.region 4 (ro 30 4) false) .ret))) := by kernel_rfl
theorem res30 : (Try.prog.funcs[30]?).map (·.results.toList) = some [.tmp 4] := by kernel_rfl
theorem is30 : fnIsB Try.prog 30 13 = true := by kernel_rfl
theorem reg30_0 {O : Known} {T : FT} {S : MS} {Q : FT → MS → Prop} : mOps Try.prog O 13 (ro 30 0).toList (ro 30 0).toList [] T S Q =
  (Q ((T.set (ptrTo S.n) 2).set (.slice none 0 0) 4) (S.fresh (Value.cells (T.get 0)).toList 0)) := by kernel_rfl
theorem reg30_1 {O : Known} {T : FT} {S : MS} {Q : FT → MS → Prop} : mOps Try.prog O 13 (ro 30 1).toList (ro 30 1).toList [] T S Q =
  (Q (T.set (T.get 1) 6) S) := by kernel_rfl
theorem reg30_2 {O : Known} {T : FT} {S : MS} {Q : FT → MS → Prop} : mOps Try.prog O 13 (ro 30 2).toList (ro 30 2).toList [] T S Q =
  (∃ S1, stS 4 (S.fresh [.int .i64 0, .int .i64 0, .string ⟨⟨[]⟩⟩, .slice none 0 0] 0) (ptrTo S.n) (T.get 7) = some S1 ∧ Q (T.set (ptrTo S.n) 5) S1) := by kernel_rfl
theorem reg30_3 {O : Known} {T : FT} {S : MS} {Q : FT → MS → Prop} : mOps Try.prog O 13 (ro 30 3).toList (ro 30 3).toList [] T S Q =
  (∃ p0, ldS none S (T.get 2) = some p0 ∧ ∃ p1, ldS (some 4) S (T.get 5) = some p1 ∧ ∃ p2 S2, bsS S 1 4 [.int .i64 0, .int .i64 0, .string ⟨⟨[]⟩⟩, .slice none 0 0] [(0, p1)] = some (p2, S2) ∧ ∃ p3 S3, apS false 4 56 [.int .i64 0, .int .i64 0, .string ⟨⟨[]⟩⟩, .slice none 0 0] S2 [p0, p2] = some (p3, S3) ∧ ∃ S4, stS 1 S3 (T.get 2) p3 = some S4 ∧ Q ((((T.set p0 8).set p1 9).set p2 10).set p3 11) S4) := by kernel_rfl
theorem reg30_4 {O : Known} {T : FT} {S : MS} {Q : FT → MS → Prop} : mOps Try.prog O 13 (ro 30 4).toList (ro 30 4).toList [] T S Q =
  (∃ p0, ldS none S (T.get 2) = some p0 ∧ Q ((T.set p0 12).set p0 4) S) := by kernel_rfl
/-! ### 31: (*windlass/clock.Clock).due$1 -/
noncomputable def blk31_1 : Code := .block 1 (.seq (.region 2 (ro 31 2) false) (.seq (.region 3 (ro 31 3) false) (.cond (.tmp 24) (.exit 0) .skip)))
noncomputable def blk31_0 : Code := .block 0 (.loop (.seq (.region 1 (ro 31 1) false) (.seq (.cond (.tmp 12) .skip (.exit 0)) (.seq blk31_1 (.region 4 (ro 31 4) false)))))
theorem body31 : (Try.prog.funcs[31]?).bind (·.body) = some (.scope (.seq (.label 0) (.seq (.region 0 (ro 31 0) false) blk31_0))) := by kernel_rfl
theorem res31 : (Try.prog.funcs[31]?).map (·.results.toList) = some [] := by kernel_rfl
theorem is31 : fnIsB Try.prog 31 26 = true := by kernel_rfl
theorem reg31_0 {O : Known} {T : FT} {S : MS} {Q : FT → MS → Prop} : mOps Try.prog O 26 (ro 31 0).toList (ro 31 0).toList [] T S Q =
  (∃ p0, ldS none S (T.get 1) = some p0 ∧ ∃ p1, nilS p0 = some p1 ∧ ∃ p2, faS 2 p1 = some p2 ∧ ∃ p3, ldS none S p2 = some p3 ∧ ∃ p4, lenSl p3 = some p4 ∧ Q ((((((T.set p0 6).set p1 7).set p2 8).set p3 9).set p4 10).set (.int .i64 0) 11) S) := by kernel_rfl
theorem reg31_1 {O : Known} {T : FT} {S : MS} {Q : FT → MS → Prop} : mOps Try.prog O 26 (ro 31 1).toList (ro 31 1).toList [] T S Q =
  (∃ p0, abin Try.prog .lss 3 (.tmp 11) (.tmp 10) (T.get 11) (T.get 10) = some p0 ∧ Q (T.set p0 12) S) := by kernel_rfl
theorem reg31_2 {O : Known} {T : FT} {S : MS} {Q : FT → MS → Prop} : mOps Try.prog O 26 (ro 31 2).toList (ro 31 2).toList [] T S Q =
  (∃ p0, iaSS 4 (T.get 9) (T.get 11) = some p0 ∧ ∃ p1, ldS (some 4) S p0 = some p1 ∧ ∃ S3, stS 4 (S.fresh [.int .i64 0, .int .i64 0, .string ⟨⟨[]⟩⟩, .slice none 0 0] 0) (ptrTo S.n) p1 = some S3 ∧ Q (((T.set p0 13).set p1 14).set (ptrTo S.n) 5) S3) := by kernel_rfl
theorem reg31_3 {O : Known} {T : FT} {S : MS} {Q : FT → MS → Prop} : mOps Try.prog O 26 (ro 31 3).toList (ro 31 3).toList [] T S Q =
  (∃ p0, faS 0 (T.get 5) = some p0 ∧ ∃ p1, ldS none S p0 = some p1 ∧ ∃ p2, ldS none S (T.get 2) = some p2 ∧ ∃ p3, abin Try.prog .gtr 3 (.tmp 16) (.tmp 17) p1 p2 = some p3 ∧ ∃ b4, p3 = .bool b4 ∧
       (b4 = true → ∃ p9, pickS p3 (.bool true) undef = some p9 ∧ Q ((((((((((T.set p0 15).set p1 16).set p2 17).set p3 18).set p3 19).set undef 20).set undef 21).set undef 22).set undef 23).set p9 24) S) ∧
       (b4 = false → ∃ p6, ldS (some 4) S (T.get 5) = some p6 ∧ CallV Try.prog O (T.get 0) [p6] S fun p7 S7 => ∃ p8, aunary .not p7 = some p8 ∧ ∃ p9, pickS p3 (.bool true) p8 = some p9 ∧ Q ((((((((((T.set p0 15).set p1 16).set p2 17).set p3 18).set p3 19).set (T.get 0) 20).set p6 21).set p7 22).set p8 23).set p9 24) S7)) := by kernel_rfl
theorem reg31_4 {O : Known} {T : FT} {S : MS} {Q : FT → MS → Prop} : mOps Try.prog O 26 (ro 31 4).toList (ro 31 4).toList [] T S Q =
  (∃ p0, abin Try.prog .add 3 (.tmp 11) (.const (.int .i64 1)) (T.get 11) (.int .i64 1) = some p0 ∧ Q ((T.set p0 25).set p0 11) S) := by kernel_rfl
/-! ### 34: slices.insertionSortCmpFunc[windlass/api.Timer] -/
noncomputable def blk34_3 : Code := .block 3 (.region 6 (ro 34 6) true)
noncomputable def blk34_2 : Code := .block 2 (.loop (.seq (.seq (.region 4 (ro 34 4) true) (.cond (.tmp 34) .skip (.exit 2))) (.seq blk34_3 (.region 5 (ro 34 5) false))))
noncomputable def blk34_1 : Code := .block 1 (.seq (.region 3 (ro 34 3) false) blk34_2)
noncomputable def blk34_0 : Code := .block 0 (.loop (.seq (.seq (.region 1 (ro 34 1) false) (.cond (.tmp 14) .skip (.exit 0))) (.seq blk34_1 (.region 2 (ro 34 2) false))))
theorem body34 : (Try.prog.funcs[34]?).bind (·.body) = some (.seq (.region 0 (ro 34 0) false) blk34_0) := by kernel_rfl
theorem res34 : (Try.prog.funcs[34]?).map (·.results.toList) = some [] := by kernel_rfl
theorem is34 : fnIsB Try.prog 34 53 = true := by kernel_rfl
theorem reg34_0 {O : Known} {T : FT} {S : MS} {Q : FT → MS → Prop} : mOps Try.prog O 53 (ro 34 0).toList (ro 34 0).toList [] T S Q =
  (∃ p1, abin Try.prog .add 3 (.tmp 10) (.const (.int .i64 1)) (T.get 1) (.int .i64 1) = some p1 ∧ Q (((T.set (T.get 1) 10).set p1 11).set p1 8) S) := by kernel_rfl
theorem reg34_1 {O : Known} {T : FT} {S : MS} {Q : FT → MS → Prop} : mOps Try.prog O 53 (ro 34 1).toList (ro 34 1).toList [] T S Q =
  (∃ p2, abin Try.prog .lss 3 (.tmp 12) (.tmp 13) (T.get 8) (T.get 2) = some p2 ∧ Q (((T.set (T.get 8) 12).set (T.get 2) 13).set p2 14) S) := by kernel_rfl
theorem reg34_3 {O : Known} {T : FT} {S : MS} {Q : FT → MS → Prop} : mOps Try.prog O 53 (ro 34 3).toList (ro 34 3).toList [] T S Q =
  (Q ((T.set (T.get 8) 17).set (T.get 8) 9) S) := by kernel_rfl
theorem reg34_4 {O : Known} {T : FT} {S : MS} {Q : FT → MS → Prop} : mDraw Try.prog O 53 (ro 34 4).toList T S Q =
  (∃ p2, abin Try.prog .gtr 3 (.tmp 18) (.tmp 19) (T.get 9) (T.get 1) = some p2 ∧ ∃ b3, p2 = .bool b3 ∧
      (b3 = true → ∃ p7, iaSS 4 (T.get 0) (T.get 9) = some p7 ∧ ∃ p8, ldS (some 4) S p7 = some p8 ∧ ∃ p11, abin Try.prog .sub 3 (.tmp 28) (.const (.int .i64 1)) (T.get 9) (.int .i64 1) = some p11 ∧ ∃ p12, iaSS 4 (T.get 0) p11 = some p12 ∧ ∃ p13, ldS (some 4) S p12 = some p13 ∧ CallV Try.prog O (T.get 3) [p8, p13] S fun p14 S14 => ∃ p15, abin Try.prog .lss 3 (.tmp 32) (.const (.int .i64 0)) p14 (.int .i64 0) = some p15 ∧ ∃ p16, pickS p2 p15 (.bool false) = some p16 ∧ Q (((((((((((((((((T.set (T.get 9) 18).set (T.get 1) 19).set p2 20).set p2 21).set (T.get 3) 22).set (T.get 0) 23).set (T.get 9) 24).set p7 25).set p8 26).set (T.get 0) 27).set (T.get 9) 28).set p11 29).set p12 30).set p13 31).set p14 32).set p15 33).set p16 34) S14) ∧
      (b3 = false → ∃ p16, pickS p2 undef (.bool false) = some p16 ∧ Q (((((((((((((((((T.set (T.get 9) 18).set (T.get 1) 19).set p2 20).set p2 21).set undef 22).set undef 23).set undef 24).set undef 25).set undef 26).set undef 27).set undef 28).set undef 29).set undef 30).set undef 31).set undef 32).set undef 33).set p16 34) S)) := by kernel_rfl
theorem reg34_6 {O : Known} {T : FT} {S : MS} {Q : FT → MS → Prop} : mDraw Try.prog O 53 (ro 34 6).toList T S Q =
  (∃ p7, abin Try.prog .sub 3 (.tmp 43) (.const (.int .i64 1)) (T.get 9) (.int .i64 1) = some p7 ∧ ∃ p8, iaSS 4 (T.get 0) p7 = some p8 ∧ ∃ p9, ldS (some 4) S p8 = some p9 ∧ ∃ p12, iaSS 4 (T.get 0) (T.get 9) = some p12 ∧ ∃ p13, ldS (some 4) S p12 = some p13 ∧ ∃ p14, iaSS 4 (T.get 0) (T.get 9) = some p14 ∧ ∃ S15, stS 4 S p14 p9 = some S15 ∧ ∃ p4, abin Try.prog .sub 3 (.tmp 40) (.const (.int .i64 1)) (T.get 9) (.int .i64 1) = some p4 ∧ ∃ p16, iaSS 4 (T.get 0) p4 = some p16 ∧ ∃ S17, stS 4 S15 p16 p13 = some S17 ∧ Q ((((((((((((((((T.set (T.get 0) 37).set (T.get 9) 38).set (T.get 0) 42).set (T.get 9) 43).set p7 44).set p8 45).set p9 46).set (T.get 0) 47).set (T.get 9) 48).set p12 49).set p13 50).set p14 51).set (T.get 0) 39).set (T.get 9) 40).set p4 41).set p16 52) S17) := by kernel_rfl
theorem reg34_5 {O : Known} {T : FT} {S : MS} {Q : FT → MS → Prop} : mOps Try.prog O 53 (ro 34 5).toList (ro 34 5).toList [] T S Q =
  (∃ p1, abin Try.prog .sub 3 (.tmp 35) (.const (.int .i64 1)) (T.get 9) (.int .i64 1) = some p1 ∧ Q (((T.set (T.get 9) 35).set p1 36).set p1 9) S) := by kernel_rfl
theorem reg34_2 {O : Known} {T : FT} {S : MS} {Q : FT → MS → Prop} : mOps Try.prog O 53 (ro 34 2).toList (ro 34 2).toList [] T S Q =
  (∃ p1, abin Try.prog .add 3 (.tmp 15) (.const (.int .i64 1)) (T.get 8) (.int .i64 1) = some p1 ∧ Q (((T.set (T.get 8) 15).set p1 16).set p1 8) S) := by kernel_rfl
/-! ### 36: cmp.isNaN[int] -/
theorem body36 : (Try.prog.funcs[36]?).bind (·.body) = some (.seq (.region 0 (ro 36 0) false) (.seq (.region 1 (ro 36 1) false) .ret)) := by kernel_rfl
theorem res36 : (Try.prog.funcs[36]?).map (·.results.toList) = some [.tmp 2] := by kernel_rfl
theorem is36 : fnIsB Try.prog 36 6 = true := by kernel_rfl
theorem reg36_0 {O : Known} {T : FT} {S : MS} {Q : FT → MS → Prop} : mOps Try.prog O 6 (ro 36 0).toList (ro 36 0).toList [] T S Q =
  (Q (T.set (.bool false) 2) S) := by kernel_rfl
theorem reg36_1 {O : Known} {T : FT} {S : MS} {Q : FT → MS → Prop} : mOps Try.prog O 6 (ro 36 1).toList (ro 36 1).toList [] T S Q =
  (∃ p2, abin Try.prog .neq 3 (.tmp 3) (.tmp 4) (T.get 0) (T.get 0) = some p2 ∧ Q ((((T.set (T.get 0) 3).set (T.get 0) 4).set p2 5).set p2 2) S) := by kernel_rfl
end Go.Proofs.Ythkmkfgfabjhnaa

