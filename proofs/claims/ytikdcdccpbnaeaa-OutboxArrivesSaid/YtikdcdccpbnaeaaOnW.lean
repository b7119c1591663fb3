/-
  The walk through the outbox's code: what its functions do to memory, part OnW. Nothing is asked.
-/
import Derived.Test.YtikdcdccpbnaeaaProg
import Derived.Test.YtikdcdccpbnaeaaAg4
import Derived.KernelRfl
set_option linter.all false
namespace Go.Proofs.Ytikdcdccpbnaeaa
open Go Go.Ag
set_option linter.unusedVariables false
set_option maxRecDepth 100000
noncomputable def ro (f id : Nat) : Array Oper := roP Try.prog f id
/-! ### 3: windlass/windlasslaw21.OutboxArrives -/
theorem body3 : (Try.prog.funcs[3]?).bind (·.body) = some (.seq (.region 0 (ro 3 0) false) (.seq (.seq (.region 1 (ro 3 1) false) (.cond (.tmp 16) (.seq (.region 2 (ro 3 2) false) .ret) .skip)) (.seq (.seq (.region 3 (ro 3 3) false) (.cond (.tmp 24) (.seq (.region 4 (ro 3 4) false) .ret) .skip)) (.seq (.region 5 (ro 3 5) false) (.seq (.seq (.region 6 (ro 3 6) false) (.block 0 (.loop (.seq (.seq (.region 7 (ro 3 7) false) (.cond (.tmp 30) .skip (.exit 0))) (.seq (.block 1 (.seq (.region 9 (ro 3 9) false) (.cond (.tmp 49) (.seq (.region 10 (ro 3 10) false) .ret) .skip))) (.region 8 (ro 3 8) false)))))) (.seq (.region 11 (ro 3 11) false) (.seq (.seq (.region 12 (ro 3 12) false) (.block 2 (.loop (.seq (.seq (.region 13 (ro 3 13) false) (.cond (.tmp 59) .skip (.exit 2))) (.seq (.block 3 (.seq (.region 15 (ro 3 15) false) (.seq (.seq (.region 16 (ro 3 16) false) (.cond (.tmp 66) (.exit 2) .skip)) (.seq (.seq (.region 17 (ro 3 17) false) (.cond (.tmp 79) (.region 18 (ro 3 18) false) .skip)) (.seq (.region 19 (ro 3 19) false) (.cond (.tmp 94) (.seq (.region 20 (ro 3 20) false) .ret) .skip)))))) (.region 14 (ro 3 14) false)))))) (.seq (.region 21 (ro 3 21) false) (.seq (.seq (.region 22 (ro 3 22) false) (.block 4 (.loop (.seq (.seq (.region 23 (ro 3 23) false) (.cond (.tmp 100) .skip (.exit 4))) (.seq (.block 5 (.seq (.region 25 (ro 3 25) false) (.cond (.tmp 108) (.region 26 (ro 3 26) false) .skip))) (.region 24 (ro 3 24) false)))))) (.seq (.seq (.region 27 (ro 3 27) false) (.cond (.tmp 134) (.seq (.region 28 (ro 3 28) false) .ret) .skip)) (.seq (.region 29 (ro 3 29) false) (.seq (.seq (.region 30 (ro 3 30) false) (.block 6 (.loop (.seq (.seq (.region 31 (ro 3 31) false) (.cond (.tmp 140) .skip (.exit 6))) (.seq (.block 7 (.seq (.region 33 (ro 3 33) true) (.cond (.tmp 154) (.seq (.region 34 (ro 3 34) false) .ret) .skip))) (.region 32 (ro 3 32) false)))))) (.seq (.region 35 (ro 3 35) false) .ret))))))))))))) := by kernel_rfl
theorem res3 : (Try.prog.funcs[3]?).map (·.results.toList) = some [.tmp 4] := by kernel_rfl
theorem is3 : fnIsB Try.prog 3 160 = true := by kernel_rfl
theorem reg3_0 {O : Hook} {T : FT} {S : MS} {Q : FT → MS → Prop} : mOps Try.prog O 160 (ro 3 0).toList (ro 3 0).toList [] T S Q =
  (Q (T.set (.bool false) 4) S) := by kernel_rfl
theorem reg3_1 {O : Hook} {T : FT} {S : MS} {Q : FT → MS → Prop} : mOps Try.prog O 160 (ro 3 1).toList (ro 3 1).toList [] T S Q =
  (CallM Try.prog O 5 [] S fun p0 S0 => ∃ p1, aunary .not p0 = some p1 ∧ Q ((T.set p0 15).set p1 16) S0) := by kernel_rfl
theorem reg3_3 {O : Hook} {T : FT} {S : MS} {Q : FT → MS → Prop} : mOps Try.prog O 160 (ro 3 3).toList (ro 3 3).toList [] T S Q =
  (∃ p1, lenSl (T.get 0) = some p1 ∧ ∃ p2, abin Try.prog .gtr 3 (.tmp 18) (.const (.int .i64 40)) p1 (.int .i64 40) = some p2 ∧ ∃ b3, p2 = .bool b3 ∧
      (b3 = true → ∃ p7, pickS p2 (.bool true) undef = some p7 ∧ Q ((((((((T.set (T.get 0) 17).set p1 18).set p2 19).set p2 20).set undef 21).set undef 22).set undef 23).set p7 24) S) ∧
      (b3 = false → ∃ p5, lenSl (T.get 1) = some p5 ∧ ∃ p6, abin Try.prog .gtr 3 (.tmp 22) (.const (.int .i64 120)) p5 (.int .i64 120) = some p6 ∧ ∃ p7, pickS p2 (.bool true) p6 = some p7 ∧ Q ((((((((T.set (T.get 0) 17).set p1 18).set p2 19).set p2 20).set (T.get 1) 21).set p5 22).set p6 23).set p7 24) S)) := by kernel_rfl
theorem reg3_4 {O : Hook} {T : FT} {S : MS} {Q : FT → MS → Prop} : mOps Try.prog O 160 (ro 3 4).toList (ro 3 4).toList [] T S Q =
  (Q (T.set (.bool true) 4) S) := by kernel_rfl
theorem reg3_5 {O : Hook} {T : FT} {S : MS} {Q : FT → MS → Prop} : mOps Try.prog O 160 (ro 3 5).toList (ro 3 5).toList [] T S Q =
  (CallM Try.prog O 6 [(.int .i64 1), (.slice none 0 0)] S fun p0 S0 => CallM Try.prog O 7 [] S0 fun p1 S1 => Q ((((T.set p0 25).set p1 26).set p0 5).set p1 6) S1) := by kernel_rfl
theorem reg3_6 {O : Hook} {T : FT} {S : MS} {Q : FT → MS → Prop} : mOps Try.prog O 160 (ro 3 6).toList (ro 3 6).toList [] T S Q =
  (Q (T.set (.int .i64 0) 7) S) := by kernel_rfl
theorem reg3_7 {O : Hook} {T : FT} {S : MS} {Q : FT → MS → Prop} : mOps Try.prog O 160 (ro 3 7).toList (ro 3 7).toList [] T S Q =
  (∃ p2, lenSl (T.get 0) = some p2 ∧ ∃ p3, abin Try.prog .lss 3 (.tmp 27) (.tmp 29) (T.get 7) p2 = some p3 ∧ Q ((((T.set (T.get 7) 27).set (T.get 0) 28).set p2 29).set p3 30) S) := by kernel_rfl
theorem reg3_9 {O : Hook} {T : FT} {S : MS} {Q : FT → MS → Prop} : mOps Try.prog O 160 (ro 3 9).toList (ro 3 9).toList [] T S Q =
  (∃ p2, iaSS 1 (T.get 0) (T.get 7) = some p2 ∧ ∃ p3, ldS none S p2 = some p3 ∧ ∃ p4, lenStr p3 = some p4 ∧ ∃ p5, abin Try.prog .gtr 3 (.tmp 37) (.const (.int .i64 100)) p4 (.int .i64 100) = some p5 ∧ ∃ b6, p5 = .bool b6 ∧
         (b6 = true → ∃ p16, pickS p5 (.bool true) undef = some p16 ∧ Q (((((((((((((((((T.set (T.get 0) 33).set (T.get 7) 34).set p2 35).set p3 36).set p4 37).set p5 38).set p5 39).set undef 40).set undef 41).set undef 42).set undef 43).set undef 44).set undef 45).set undef 46).set undef 47).set undef 48).set p16 49) S) ∧
         (b6 = false → ∃ p10, iaSS 1 (T.get 0) (T.get 7) = some p10 ∧ ∃ p11, ldS none S p10 = some p11 ∧ CallM Try.prog O 8 [(T.get 5), p11] S fun p12 S12 => ∃ p14, abin Try.prog .add 3 (.tmp 46) (.const (.int .i64 1)) (T.get 7) (.int .i64 1) = some p14 ∧ ∃ p15, abin Try.prog .neq 3 (.tmp 45) (.tmp 47) p12 p14 = some p15 ∧ ∃ p16, pickS p5 (.bool true) p15 = some p16 ∧ Q (((((((((((((((((T.set (T.get 0) 33).set (T.get 7) 34).set p2 35).set p3 36).set p4 37).set p5 38).set p5 39).set (T.get 5) 40).set (T.get 0) 41).set (T.get 7) 42).set p10 43).set p11 44).set p12 45).set (T.get 7) 46).set p14 47).set p15 48).set p16 49) S12)) := by kernel_rfl
theorem reg3_10 {O : Hook} {T : FT} {S : MS} {Q : FT → MS → Prop} : mOps Try.prog O 160 (ro 3 10).toList (ro 3 10).toList [] T S Q =
  (∃ p2, iaSS 1 (T.get 0) (T.get 7) = some p2 ∧ ∃ p3, ldS none S p2 = some p3 ∧ ∃ p4, lenStr p3 = some p4 ∧ ∃ p5, abin Try.prog .gtr 3 (.tmp 54) (.const (.int .i64 100)) p4 (.int .i64 100) = some p5 ∧ Q (((((((T.set (T.get 0) 50).set (T.get 7) 51).set p2 52).set p3 53).set p4 54).set p5 55).set p5 4) S) := by kernel_rfl
theorem reg3_8 {O : Hook} {T : FT} {S : MS} {Q : FT → MS → Prop} : mOps Try.prog O 160 (ro 3 8).toList (ro 3 8).toList [] T S Q =
  (∃ p1, abin Try.prog .add 3 (.tmp 31) (.const (.int .i64 1)) (T.get 7) (.int .i64 1) = some p1 ∧ Q (((T.set (T.get 7) 31).set p1 32).set p1 7) S) := by kernel_rfl
theorem reg3_11 {O : Hook} {T : FT} {S : MS} {Q : FT → MS → Prop} : mOps Try.prog O 160 (ro 3 11).toList (ro 3 11).toList [] T S Q =
  (Q (T.set (.int .i64 0) 8) S) := by kernel_rfl
theorem reg3_12 {O : Hook} {T : FT} {S : MS} {Q : FT → MS → Prop} : mOps Try.prog O 160 (ro 3 12).toList (ro 3 12).toList [] T S Q =
  (Q (T.set (.int .i64 0) 9) S) := by kernel_rfl
theorem reg3_13 {O : Hook} {T : FT} {S : MS} {Q : FT → MS → Prop} : mOps Try.prog O 160 (ro 3 13).toList (ro 3 13).toList [] T S Q =
  (∃ p2, lenSl (T.get 1) = some p2 ∧ ∃ p3, abin Try.prog .lss 3 (.tmp 56) (.tmp 58) (T.get 9) p2 = some p3 ∧ Q ((((T.set (T.get 9) 56).set (T.get 1) 57).set p2 58).set p3 59) S) := by kernel_rfl
theorem reg3_15 {O : Hook} {T : FT} {S : MS} {Q : FT → MS → Prop} : mOps Try.prog O 160 (ro 3 15).toList (ro 3 15).toList [] T S Q =
  (CallM Try.prog O 9 [(T.get 5)] S fun p1 S1 => Q (((T.set (T.get 5) 62).set p1 63).set p1 10) S1) := by kernel_rfl
theorem reg3_16 {O : Hook} {T : FT} {S : MS} {Q : FT → MS → Prop} : mOps Try.prog O 160 (ro 3 16).toList (ro 3 16).toList [] T S Q =
  (∃ p1, lenSl (T.get 10) = some p1 ∧ ∃ p2, abin Try.prog .eql 3 (.tmp 65) (.const (.int .i64 0)) p1 (.int .i64 0) = some p2 ∧ Q (((T.set (T.get 10) 64).set p1 65).set p2 66) S) := by kernel_rfl
theorem reg3_17 {O : Hook} {T : FT} {S : MS} {Q : FT → MS → Prop} : mOps Try.prog O 160 (ro 3 17).toList (ro 3 17).toList [] T S Q =
  (∃ p4, iaSS 1 (T.get 1) (T.get 9) = some p4 ∧ ∃ p5, ldS none S p4 = some p5 ∧ ∃ p6, cvInt .i64 p5 = some p6 ∧ ∃ p8, lenSl (T.get 10) = some p8 ∧ ∃ p9, abin Try.prog .rem 3 (.tmp 73) (.tmp 75) p6 p8 = some p9 ∧ ∃ p10, iaSS 2 (T.get 10) p9 = some p10 ∧ ∃ p11, ldS (some 2) S p10 = some p11 ∧ CallM Try.prog O 10 [(T.get 6), p11] S fun p12 S12 => Q (((((((((((((T.set (T.get 6) 67).set (T.get 10) 68).set (T.get 1) 69).set (T.get 9) 70).set p4 71).set p5 72).set p6 73).set (T.get 10) 74).set p8 75).set p9 76).set p10 77).set p11 78).set p12 79) S12) := by kernel_rfl
theorem reg3_18 {O : Hook} {T : FT} {S : MS} {Q : FT → MS → Prop} : mOps Try.prog O 160 (ro 3 18).toList (ro 3 18).toList [] T S Q =
  (∃ p1, abin Try.prog .add 3 (.tmp 80) (.const (.int .i64 1)) (T.get 8) (.int .i64 1) = some p1 ∧ Q (((T.set (T.get 8) 80).set p1 81).set p1 8) S) := by kernel_rfl
theorem reg3_19 {O : Hook} {T : FT} {S : MS} {Q : FT → MS → Prop} : mOps Try.prog O 160 (ro 3 19).toList (ro 3 19).toList [] T S Q =
  (∃ p2, iaSS 1 (T.get 1) (T.get 9) = some p2 ∧ ∃ p3, ldS none S p2 = some p3 ∧ ∃ p4, abin Try.prog .rem 5 (.tmp 85) (.const (.int .u8 5)) p3 (.int .u8 5) = some p4 ∧ ∃ p5, abin Try.prog .eql 5 (.tmp 86) (.const (.int .u8 0)) p4 (.int .u8 0) = some p5 ∧ ∃ b6, p5 = .bool b6 ∧
         (b6 = true → CallM Try.prog O 12 [(T.get 6)] S fun p9 S9 => CallM Try.prog O 11 [(T.get 5), p9] S9 fun p10 S10 => ∃ p11, abin Try.prog .neq 35 (.tmp 92) (.const (.int .i64 0)) p10 (.int .i64 0) = some p11 ∧ ∃ p12, pickS p5 p11 (.bool false) = some p12 ∧ Q (((((((((((((T.set (T.get 1) 82).set (T.get 9) 83).set p2 84).set p3 85).set p4 86).set p5 87).set p5 88).set (T.get 5) 89).set (T.get 6) 90).set p9 91).set p10 92).set p11 93).set p12 94) S10) ∧
         (b6 = false → ∃ p12, pickS p5 undef (.bool false) = some p12 ∧ Q (((((((((((((T.set (T.get 1) 82).set (T.get 9) 83).set p2 84).set p3 85).set p4 86).set p5 87).set p5 88).set undef 89).set undef 90).set undef 91).set undef 92).set undef 93).set p12 94) S)) := by kernel_rfl
theorem reg3_14 {O : Hook} {T : FT} {S : MS} {Q : FT → MS → Prop} : mOps Try.prog O 160 (ro 3 14).toList (ro 3 14).toList [] T S Q =
  (∃ p1, abin Try.prog .add 3 (.tmp 60) (.const (.int .i64 1)) (T.get 9) (.int .i64 1) = some p1 ∧ Q (((T.set (T.get 9) 60).set p1 61).set p1 9) S) := by kernel_rfl
theorem reg3_21 {O : Hook} {T : FT} {S : MS} {Q : FT → MS → Prop} : mOps Try.prog O 160 (ro 3 21).toList (ro 3 21).toList [] T S Q =
  (CallM Try.prog O 9 [(T.get 5)] S fun p1 S1 => Q (((T.set (T.get 5) 95).set p1 96).set p1 11) S1) := by kernel_rfl
theorem reg3_22 {O : Hook} {T : FT} {S : MS} {Q : FT → MS → Prop} : mOps Try.prog O 160 (ro 3 22).toList (ro 3 22).toList [] T S Q =
  (Q (T.set (.int .i64 0) 12) S) := by kernel_rfl
theorem reg3_23 {O : Hook} {T : FT} {S : MS} {Q : FT → MS → Prop} : mOps Try.prog O 160 (ro 3 23).toList (ro 3 23).toList [] T S Q =
  (∃ p2, lenSl (T.get 11) = some p2 ∧ ∃ p3, abin Try.prog .lss 3 (.tmp 97) (.tmp 99) (T.get 12) p2 = some p3 ∧ Q ((((T.set (T.get 12) 97).set (T.get 11) 98).set p2 99).set p3 100) S) := by kernel_rfl
theorem reg3_25 {O : Hook} {T : FT} {S : MS} {Q : FT → MS → Prop} : mOps Try.prog O 160 (ro 3 25).toList (ro 3 25).toList [] T S Q =
  (∃ p3, iaSS 2 (T.get 11) (T.get 12) = some p3 ∧ ∃ p4, ldS (some 2) S p3 = some p4 ∧ CallM Try.prog O 10 [(T.get 6), p4] S fun p5 S5 => Q ((((((T.set (T.get 6) 103).set (T.get 11) 104).set (T.get 12) 105).set p3 106).set p4 107).set p5 108) S5) := by kernel_rfl
theorem reg3_26 {O : Hook} {T : FT} {S : MS} {Q : FT → MS → Prop} : mOps Try.prog O 160 (ro 3 26).toList (ro 3 26).toList [] T S Q =
  (∃ p1, abin Try.prog .add 3 (.tmp 109) (.const (.int .i64 1)) (T.get 8) (.int .i64 1) = some p1 ∧ Q (((T.set (T.get 8) 109).set p1 110).set p1 8) S) := by kernel_rfl
theorem reg3_24 {O : Hook} {T : FT} {S : MS} {Q : FT → MS → Prop} : mOps Try.prog O 160 (ro 3 24).toList (ro 3 24).toList [] T S Q =
  (∃ p1, abin Try.prog .add 3 (.tmp 101) (.const (.int .i64 1)) (T.get 12) (.int .i64 1) = some p1 ∧ Q (((T.set (T.get 12) 101).set p1 102).set p1 12) S) := by kernel_rfl
theorem reg3_27 {O : Hook} {T : FT} {S : MS} {Q : FT → MS → Prop} : mOps Try.prog O 160 (ro 3 27).toList (ro 3 27).toList [] T S Q =
  (CallM Try.prog O 12 [(T.get 6)] S fun p2 S2 => CallM Try.prog O 11 [(T.get 5), p2] S2 fun p3 S3 => ∃ p4, abin Try.prog .neq 35 (.tmp 114) (.const (.int .i64 0)) p3 (.int .i64 0) = some p4 ∧ ∃ b5, p4 = .bool b5 ∧
        (b5 = true → ∃ p10, pickS p4 (.bool true) undef = some p10 ∧ ∃ b11, p10 = .bool b11 ∧
              (b11 = true → ∃ p16, pickS p10 (.bool true) undef = some p16 ∧ ∃ b17, p16 = .bool b17 ∧
                    (b17 = true → ∃ p23, pickS p16 (.bool true) undef = some p23 ∧ Q ((((((((((((((((((((((((T.set (T.get 5) 111).set (T.get 6) 112).set p2 113).set p3 114).set p4 115).set p4 116).set undef 117).set undef 118).set undef 119).set undef 120).set p10 121).set p10 122).set undef 123).set undef 124).set undef 125).set undef 126).set p16 127).set p16 128).set undef 129).set undef 130).set undef 131).set undef 132).set undef 133).set p23 134) S3) ∧
                    (b17 = false → CallM Try.prog O 12 [(T.get 6)] S3 fun p19 S19 => ∃ p21, lenSl (T.get 0) = some p21 ∧ ∃ p22, abin Try.prog .neq 3 (.tmp 130) (.tmp 132) p19 p21 = some p22 ∧ ∃ p23, pickS p16 (.bool true) p22 = some p23 ∧ Q ((((((((((((((((((((((((T.set (T.get 5) 111).set (T.get 6) 112).set p2 113).set p3 114).set p4 115).set p4 116).set undef 117).set undef 118).set undef 119).set undef 120).set p10 121).set p10 122).set undef 123).set undef 124).set undef 125).set undef 126).set p16 127).set p16 128).set (T.get 6) 129).set p19 130).set (T.get 0) 131).set p21 132).set p22 133).set p23 134) S19)) ∧
              (b11 = false → ∃ p14, lenSl (T.get 0) = some p14 ∧ ∃ p15, abin Try.prog .neq 3 (.tmp 123) (.tmp 125) (T.get 8) p14 = some p15 ∧ ∃ p16, pickS p10 (.bool true) p15 = some p16 ∧ ∃ b17, p16 = .bool b17 ∧
                    (b17 = true → ∃ p23, pickS p16 (.bool true) undef = some p23 ∧ Q ((((((((((((((((((((((((T.set (T.get 5) 111).set (T.get 6) 112).set p2 113).set p3 114).set p4 115).set p4 116).set undef 117).set undef 118).set undef 119).set undef 120).set p10 121).set p10 122).set (T.get 8) 123).set (T.get 0) 124).set p14 125).set p15 126).set p16 127).set p16 128).set undef 129).set undef 130).set undef 131).set undef 132).set undef 133).set p23 134) S3) ∧
                    (b17 = false → CallM Try.prog O 12 [(T.get 6)] S3 fun p19 S19 => ∃ p21, lenSl (T.get 0) = some p21 ∧ ∃ p22, abin Try.prog .neq 3 (.tmp 130) (.tmp 132) p19 p21 = some p22 ∧ ∃ p23, pickS p16 (.bool true) p22 = some p23 ∧ Q ((((((((((((((((((((((((T.set (T.get 5) 111).set (T.get 6) 112).set p2 113).set p3 114).set p4 115).set p4 116).set undef 117).set undef 118).set undef 119).set undef 120).set p10 121).set p10 122).set (T.get 8) 123).set (T.get 0) 124).set p14 125).set p15 126).set p16 127).set p16 128).set (T.get 6) 129).set p19 130).set (T.get 0) 131).set p21 132).set p22 133).set p23 134) S19))) ∧
        (b5 = false → CallM Try.prog O 9 [(T.get 5)] S3 fun p7 S7 => ∃ p8, lenSl p7 = some p8 ∧ ∃ p9, abin Try.prog .neq 3 (.tmp 119) (.const (.int .i64 0)) p8 (.int .i64 0) = some p9 ∧ ∃ p10, pickS p4 (.bool true) p9 = some p10 ∧ ∃ b11, p10 = .bool b11 ∧
              (b11 = true → ∃ p16, pickS p10 (.bool true) undef = some p16 ∧ ∃ b17, p16 = .bool b17 ∧
                    (b17 = true → ∃ p23, pickS p16 (.bool true) undef = some p23 ∧ Q ((((((((((((((((((((((((T.set (T.get 5) 111).set (T.get 6) 112).set p2 113).set p3 114).set p4 115).set p4 116).set (T.get 5) 117).set p7 118).set p8 119).set p9 120).set p10 121).set p10 122).set undef 123).set undef 124).set undef 125).set undef 126).set p16 127).set p16 128).set undef 129).set undef 130).set undef 131).set undef 132).set undef 133).set p23 134) S7) ∧
                    (b17 = false → CallM Try.prog O 12 [(T.get 6)] S7 fun p19 S19 => ∃ p21, lenSl (T.get 0) = some p21 ∧ ∃ p22, abin Try.prog .neq 3 (.tmp 130) (.tmp 132) p19 p21 = some p22 ∧ ∃ p23, pickS p16 (.bool true) p22 = some p23 ∧ Q ((((((((((((((((((((((((T.set (T.get 5) 111).set (T.get 6) 112).set p2 113).set p3 114).set p4 115).set p4 116).set (T.get 5) 117).set p7 118).set p8 119).set p9 120).set p10 121).set p10 122).set undef 123).set undef 124).set undef 125).set undef 126).set p16 127).set p16 128).set (T.get 6) 129).set p19 130).set (T.get 0) 131).set p21 132).set p22 133).set p23 134) S19)) ∧
              (b11 = false → ∃ p14, lenSl (T.get 0) = some p14 ∧ ∃ p15, abin Try.prog .neq 3 (.tmp 123) (.tmp 125) (T.get 8) p14 = some p15 ∧ ∃ p16, pickS p10 (.bool true) p15 = some p16 ∧ ∃ b17, p16 = .bool b17 ∧
                    (b17 = true → ∃ p23, pickS p16 (.bool true) undef = some p23 ∧ Q ((((((((((((((((((((((((T.set (T.get 5) 111).set (T.get 6) 112).set p2 113).set p3 114).set p4 115).set p4 116).set (T.get 5) 117).set p7 118).set p8 119).set p9 120).set p10 121).set p10 122).set (T.get 8) 123).set (T.get 0) 124).set p14 125).set p15 126).set p16 127).set p16 128).set undef 129).set undef 130).set undef 131).set undef 132).set undef 133).set p23 134) S7) ∧
                    (b17 = false → CallM Try.prog O 12 [(T.get 6)] S7 fun p19 S19 => ∃ p21, lenSl (T.get 0) = some p21 ∧ ∃ p22, abin Try.prog .neq 3 (.tmp 130) (.tmp 132) p19 p21 = some p22 ∧ ∃ p23, pickS p16 (.bool true) p22 = some p23 ∧ Q ((((((((((((((((((((((((T.set (T.get 5) 111).set (T.get 6) 112).set p2 113).set p3 114).set p4 115).set p4 116).set (T.get 5) 117).set p7 118).set p8 119).set p9 120).set p10 121).set p10 122).set (T.get 8) 123).set (T.get 0) 124).set p14 125).set p15 126).set p16 127).set p16 128).set (T.get 6) 129).set p19 130).set (T.get 0) 131).set p21 132).set p22 133).set p23 134) S19)))) := by kernel_rfl
theorem reg3_29 {O : Hook} {T : FT} {S : MS} {Q : FT → MS → Prop} : mOps Try.prog O 160 (ro 3 29).toList (ro 3 29).toList [] T S Q =
  (CallM Try.prog O 13 [(T.get 6)] S fun p1 S1 => Q (((T.set (T.get 6) 135).set p1 136).set p1 13) S1) := by kernel_rfl
theorem reg3_30 {O : Hook} {T : FT} {S : MS} {Q : FT → MS → Prop} : mOps Try.prog O 160 (ro 3 30).toList (ro 3 30).toList [] T S Q =
  (Q (T.set (.int .i64 0) 14) S) := by kernel_rfl
theorem reg3_31 {O : Hook} {T : FT} {S : MS} {Q : FT → MS → Prop} : mOps Try.prog O 160 (ro 3 31).toList (ro 3 31).toList [] T S Q =
  (∃ p2, lenSl (T.get 13) = some p2 ∧ ∃ p3, abin Try.prog .lss 3 (.tmp 137) (.tmp 139) (T.get 14) p2 = some p3 ∧ Q ((((T.set (T.get 14) 137).set (T.get 13) 138).set p2 139).set p3 140) S) := by kernel_rfl
theorem reg3_33 {O : Hook} {T : FT} {S : MS} {Q : FT → MS → Prop} : mDraw Try.prog O 160 (ro 3 33).toList T S Q =
  (∃ p2, iaSS 2 (T.get 13) (T.get 14) = some p2 ∧ ∃ p3, ldS (some 2) S p2 = some p3 ∧ ∃ p5, abin Try.prog .add 3 (.tmp 147) (.const (.int .i64 1)) (T.get 14) (.int .i64 1) = some p5 ∧ ∃ p8, iaSS 1 (T.get 0) (T.get 14) = some p8 ∧ ∃ p9, ldS none S p8 = some p9 ∧ ∃ p10, bdS (fun i => [(0, 1), (1, 1)][i]?) [.int .i64 0, .string ⟨⟨[]⟩⟩] [(0, p5), (1, p9)] = some p10 ∧ ∃ p11, abin Try.prog .neq 34 (.tmp 146) (.tmp 153) p3 p10 = some p11 ∧ Q ((((((((((((T.set (T.get 13) 143).set (T.get 14) 144).set p2 145).set p3 146).set (T.get 14) 147).set p5 148).set (T.get 0) 149).set (T.get 14) 150).set p8 151).set p9 152).set p10 153).set p11 154) S) := by kernel_rfl
theorem reg3_32 {O : Hook} {T : FT} {S : MS} {Q : FT → MS → Prop} : mOps Try.prog O 160 (ro 3 32).toList (ro 3 32).toList [] T S Q =
  (∃ p1, abin Try.prog .add 3 (.tmp 141) (.const (.int .i64 1)) (T.get 14) (.int .i64 1) = some p1 ∧ Q (((T.set (T.get 14) 141).set p1 142).set p1 14) S) := by kernel_rfl
theorem reg3_35 {O : Hook} {T : FT} {S : MS} {Q : FT → MS → Prop} : mOps Try.prog O 160 (ro 3 35).toList (ro 3 35).toList [] T S Q =
  (∃ p1, lenSl (T.get 13) = some p1 ∧ ∃ p3, lenSl (T.get 0) = some p3 ∧ ∃ p4, abin Try.prog .eql 3 (.tmp 156) (.tmp 158) p1 p3 = some p4 ∧ Q ((((((T.set (T.get 13) 155).set p1 156).set (T.get 0) 157).set p3 158).set p4 159).set p4 4) S) := by kernel_rfl
/-! ### 4: windlass/windlasslaw21.OutboxLast -/
/-! ### 6: windlass/outbox.New -/
noncomputable def blk6_1 : Code := .block 1 (.seq (.region 7 (ro 6 7) false) (.seq (.region 8 (ro 6 8) true) (.cond (.tmp 36) (.region 9 (ro 6 9) true) .skip)))
noncomputable def blk6_0 : Code := .block 0 (.loop (.seq (.region 6 (ro 6 6) false) (.seq (.cond (.tmp 21) .skip (.exit 0)) (.seq blk6_1 (.region 10 (ro 6 10) false)))))
theorem body6 : (Try.prog.funcs[6]?).bind (·.body) = some (.seq (.region 0 (ro 6 0) false) (.seq (.seq (.region 1 (ro 6 1) false) (.cond (.tmp 14) (.region 2 (ro 6 2) false) .skip)) (.seq (.region 3 (ro 6 3) false) (.seq (.region 4 (ro 6 4) false) (.seq (.seq (.region 5 (ro 6 5) false) blk6_0) (.seq (.region 11 (ro 6 11) false) .ret)))))) := by kernel_rfl
theorem res6 : (Try.prog.funcs[6]?).map (·.results.toList) = some [.tmp 4] := by kernel_rfl
theorem is6 : fnIsB Try.prog 6 51 = true := by kernel_rfl
theorem reg6_0 {O : Hook} {T : FT} {S : MS} {Q : FT → MS → Prop} : mOps Try.prog O 51 (ro 6 0).toList (ro 6 0).toList [] T S Q =
  (Q (T.set (.pointer none) 4) S) := by kernel_rfl
theorem reg6_1 {O : Hook} {T : FT} {S : MS} {Q : FT → MS → Prop} : mOps Try.prog O 51 (ro 6 1).toList (ro 6 1).toList [] T S Q =
  (∃ p1, abin Try.prog .lss 3 (.tmp 9) (.const (.int .i64 1)) (T.get 0) (.int .i64 1) = some p1 ∧ ∃ b2, p1 = .bool b2 ∧
     (b2 = true → ∃ p5, pickS p1 (.bool true) undef = some p5 ∧ Q ((((((T.set (T.get 0) 9).set p1 10).set p1 11).set undef 12).set undef 13).set p5 14) S) ∧
     (b2 = false → ∃ p4, abin Try.prog .gtr 3 (.tmp 12) (.const (.int .i64 1099511627776)) (T.get 0) (.int .i64 1099511627776) = some p4 ∧ ∃ p5, pickS p1 (.bool true) p4 = some p5 ∧ Q ((((((T.set (T.get 0) 9).set p1 10).set p1 11).set (T.get 0) 12).set p4 13).set p5 14) S)) := by kernel_rfl
theorem reg6_3 {O : Hook} {T : FT} {S : MS} {Q : FT → MS → Prop} : mOps Try.prog O 51 (ro 6 3).toList (ro 6 3).toList [] T S Q =
  (∃ p1, bdS (fun i => [(0, 1), (1, 1)][i]?) [.int .i64 0, .slice none 0 0] [(0, (T.get 0))] = some p1 ∧ Q ((((T.set (T.get 0) 15).set p1 16).set (ptrTo S.n) 17).set (ptrTo S.n) 5) (S.fresh (Value.cells p1).toList 0)) := by kernel_rfl
theorem reg6_4 {O : Hook} {T : FT} {S : MS} {Q : FT → MS → Prop} : mOps Try.prog O 51 (ro 6 4).toList (ro 6 4).toList [] T S Q =
  (Q (T.set (.int .i64 0) 6) S) := by kernel_rfl
theorem reg6_5 {O : Hook} {T : FT} {S : MS} {Q : FT → MS → Prop} : mOps Try.prog O 51 (ro 6 5).toList (ro 6 5).toList [] T S Q =
  (∃ p1, lenSl (T.get 1) = some p1 ∧ Q (((T.set (T.get 1) 18).set p1 19).set (.int .i64 0) 20) S) := by kernel_rfl
theorem reg6_6 {O : Hook} {T : FT} {S : MS} {Q : FT → MS → Prop} : mOps Try.prog O 51 (ro 6 6).toList (ro 6 6).toList [] T S Q =
  (∃ p0, abin Try.prog .lss 3 (.tmp 20) (.tmp 19) (T.get 20) (T.get 19) = some p0 ∧ Q (T.set p0 21) S) := by kernel_rfl
theorem reg6_11 {O : Hook} {T : FT} {S : MS} {Q : FT → MS → Prop} : mOps Try.prog O 51 (ro 6 11).toList (ro 6 11).toList [] T S Q =
  (Q ((T.set (T.get 5) 50).set (T.get 5) 4) S) := by kernel_rfl
/-! ### 7: windlass/outbox.NewReceiver -/
theorem body7 : (Try.prog.funcs[7]?).bind (·.body) = some (.seq (.region 0 (ro 7 0) false) (.seq (.region 1 (ro 7 1) false) .ret)) := by kernel_rfl
theorem res7 : (Try.prog.funcs[7]?).map (·.results.toList) = some [.tmp 0] := by kernel_rfl
theorem is7 : fnIsB Try.prog 7 4 = true := by kernel_rfl
theorem reg7_0 {O : Hook} {T : FT} {S : MS} {Q : FT → MS → Prop} : mOps Try.prog O 4 (ro 7 0).toList (ro 7 0).toList [] T S Q =
  (Q (T.set (.pointer none) 0) S) := by kernel_rfl
theorem reg7_1 {O : Hook} {T : FT} {S : MS} {Q : FT → MS → Prop} : mOps Try.prog O 4 (ro 7 1).toList (ro 7 1).toList [] T S Q =
  (∃ p0 S0, mmakeMap S none = some (p0, S0) ∧ ∃ p1, bdS (fun i => [(0, 1)][i]?) [.map none] [(0, p0)] = some p1 ∧ Q ((((T.set p0 1).set p1 2).set (ptrTo S0.n) 3).set (ptrTo S0.n) 0) (S0.fresh (Value.cells p1).toList 0)) := by kernel_rfl
/-! ### 8: (*windlass/outbox.Box).Add -/
theorem body8 : (Try.prog.funcs[8]?).bind (·.body) = some (.seq (.region 0 (ro 8 0) false) (.seq (.region 1 (ro 8 1) true) (.seq (.region 2 (ro 8 2) false) (.seq (.region 3 (ro 8 3) false) .ret)))) := by kernel_rfl
theorem res8 : (Try.prog.funcs[8]?).map (·.results.toList) = some [.tmp 4] := by kernel_rfl
theorem is8 : fnIsB Try.prog 8 32 = true := by kernel_rfl
theorem reg8_0 {O : Hook} {T : FT} {S : MS} {Q : FT → MS → Prop} : mOps Try.prog O 32 (ro 8 0).toList (ro 8 0).toList [] T S Q =
  (Q (T.set (.int .i64 0) 4) S) := by kernel_rfl
theorem reg8_1 {O : Hook} {T : FT} {S : MS} {Q : FT → MS → Prop} : mDraw Try.prog O 32 (ro 8 1).toList T S Q =
  (∃ p2, nilS (T.get 0) = some p2 ∧ ∃ p3, faS 1 p2 = some p3 ∧ ∃ p4, ldS none S p3 = some p4 ∧ ∃ p6, nilS (T.get 0) = some p6 ∧ ∃ p7, faS 0 p6 = some p7 ∧ ∃ p8, ldS none S p7 = some p8 ∧ ∃ p10, bdS (fun i => [(0, 1), (1, 1)][i]?) [.int .i64 0, .string ⟨⟨[]⟩⟩] [(0, p8), (1, (T.get 1))] = some p10 ∧ ∃ p11 S11, bsS S 1 2 [.int .i64 0, .string ⟨⟨[]⟩⟩] [(0, p10)] = some (p11, S11) ∧ ∃ p12 S12, apS false 2 24 [.int .i64 0, .string ⟨⟨[]⟩⟩] S11 [p4, p11] = some (p12, S12) ∧ ∃ p13, nilS (T.get 0) = some p13 ∧ ∃ p14, faS 1 p13 = some p14 ∧ ∃ S15, stS 1 S12 p14 p12 = some S15 ∧ Q (((((((((((((((T.set (T.get 0) 6).set p2 7).set p3 8).set p4 9).set (T.get 0) 10).set p6 11).set p7 12).set p8 13).set (T.get 1) 14).set p10 15).set p11 16).set p12 17).set (T.get 0) 5).set p13 18).set p14 19) S15) := by kernel_rfl
theorem reg8_2 {O : Hook} {T : FT} {S : MS} {Q : FT → MS → Prop} : mOps Try.prog O 32 (ro 8 2).toList (ro 8 2).toList [] T S Q =
  (∃ p1, nilS (T.get 0) = some p1 ∧ ∃ p2, faS 0 p1 = some p2 ∧ ∃ p3, ldS none S p2 = some p3 ∧ ∃ p4, abin Try.prog .add 3 (.tmp 23) (.const (.int .i64 1)) p3 (.int .i64 1) = some p4 ∧ ∃ p5, nilS (T.get 0) = some p5 ∧ ∃ p6, faS 0 p5 = some p6 ∧ ∃ S7, stS 1 S p6 p4 = some S7 ∧ Q (((((((T.set (T.get 0) 20).set p1 21).set p2 22).set p3 23).set p4 24).set p5 25).set p6 26) S7) := by kernel_rfl
theorem reg8_3 {O : Hook} {T : FT} {S : MS} {Q : FT → MS → Prop} : mOps Try.prog O 32 (ro 8 3).toList (ro 8 3).toList [] T S Q =
  (∃ p1, nilS (T.get 0) = some p1 ∧ ∃ p2, faS 0 p1 = some p2 ∧ ∃ p3, ldS none S p2 = some p3 ∧ ∃ p4, abin Try.prog .sub 3 (.tmp 30) (.const (.int .i64 1)) p3 (.int .i64 1) = some p4 ∧ Q ((((((T.set (T.get 0) 27).set p1 28).set p2 29).set p3 30).set p4 31).set p4 4) S) := by kernel_rfl
/-! ### 9: (*windlass/outbox.Box).Wait -/
noncomputable def blk9_1 : Code := .block 1 (.region 4 (ro 9 4) false)
noncomputable def blk9_0 : Code := .block 0 (.rangeFunc (.tmp 6) #[7] (.region 3 (ro 9 3) false) blk9_1)
theorem body9 : (Try.prog.funcs[9]?).bind (·.body) = some (.seq (.region 0 (ro 9 0) false) (.seq (.region 1 (ro 9 1) false) (.seq (.seq (.region 2 (ro 9 2) false) blk9_0) (.seq (.region 5 (ro 9 5) false) .ret)))) := by kernel_rfl
theorem res9 : (Try.prog.funcs[9]?).map (·.results.toList) = some [.tmp 2] := by kernel_rfl
theorem is9 : fnIsB Try.prog 9 13 = true := by kernel_rfl
theorem reg9_0 {O : Hook} {T : FT} {S : MS} {Q : FT → MS → Prop} : mOps Try.prog O 13 (ro 9 0).toList (ro 9 0).toList [] T S Q =
  (Q (T.set (.slice none 0 0) 2) S) := by kernel_rfl
theorem reg9_1 {O : Hook} {T : FT} {S : MS} {Q : FT → MS → Prop} : mOps Try.prog O 13 (ro 9 1).toList (ro 9 1).toList [] T S Q =
  (Q (T.set (ptrTo S.n) 3) (S.fresh [.slice none 0 0] 0)) := by kernel_rfl
theorem reg9_2 {O : Hook} {T : FT} {S : MS} {Q : FT → MS → Prop} : mOps Try.prog O 13 (ro 9 2).toList (ro 9 2).toList [] T S Q =
  (CallM Try.prog O 14 [(T.get 0), (.int .i64 0)] S fun p1 S1 => Q ((T.set (T.get 0) 5).set p1 6) S1) := by kernel_rfl
theorem reg9_3 {O : Hook} {T : FT} {S : MS} {Q : FT → MS → Prop} : mOps Try.prog O 13 (ro 9 3).toList (ro 9 3).toList [] T S Q =
  (∃ S1, stS 2 (S.fresh [.int .i64 0, .string ⟨⟨[]⟩⟩] 0) (ptrTo S.n) (T.get 7) = some S1 ∧ Q (T.set (ptrTo S.n) 4) S1) := by kernel_rfl
theorem reg9_4 {O : Hook} {T : FT} {S : MS} {Q : FT → MS → Prop} : mOps Try.prog O 13 (ro 9 4).toList (ro 9 4).toList [] T S Q =
  (∃ p0, ldS none S (T.get 3) = some p0 ∧ ∃ p1, ldS (some 2) S (T.get 4) = some p1 ∧ ∃ p2 S2, bsS S 1 2 [.int .i64 0, .string ⟨⟨[]⟩⟩] [(0, p1)] = some (p2, S2) ∧ ∃ p3 S3, apS false 2 24 [.int .i64 0, .string ⟨⟨[]⟩⟩] S2 [p0, p2] = some (p3, S3) ∧ ∃ S4, stS 1 S3 (T.get 3) p3 = some S4 ∧ Q ((((T.set p0 8).set p1 9).set p2 10).set p3 11) S4) := by kernel_rfl
theorem reg9_5 {O : Hook} {T : FT} {S : MS} {Q : FT → MS → Prop} : mOps Try.prog O 13 (ro 9 5).toList (ro 9 5).toList [] T S Q =
  (∃ p0, ldS none S (T.get 3) = some p0 ∧ Q ((T.set p0 12).set p0 2) S) := by kernel_rfl
/-! ### 10: (*windlass/outbox.Receiver).Take -/
theorem body10 : (Try.prog.funcs[10]?).bind (·.body) = some (.seq (.region 0 (ro 10 0) false) (.seq (.seq (.region 1 (ro 10 1) true) (.seq (.region 2 (ro 10 2) false) (.cond (.tmp 22) (.seq (.region 3 (ro 10 3) false) .ret) .skip))) (.seq (.region 4 (ro 10 4) true) (.seq (.region 5 (ro 10 5) false) .ret)))) := by kernel_rfl
theorem res10 : (Try.prog.funcs[10]?).map (·.results.toList) = some [.tmp 4] := by kernel_rfl
theorem is10 : fnIsB Try.prog 10 31 = true := by kernel_rfl
theorem reg10_0 {O : Hook} {T : FT} {S : MS} {Q : FT → MS → Prop} : mOps Try.prog O 31 (ro 10 0).toList (ro 10 0).toList [] T S Q =
  (Q ((T.set (ptrTo S.n) 3).set (.bool false) 4) (S.fresh (Value.cells (T.get 1)).toList 0)) := by kernel_rfl
theorem reg10_1 {O : Hook} {T : FT} {S : MS} {Q : FT → MS → Prop} : mDraw Try.prog O 31 (ro 10 1).toList T S Q =
  (∃ p1, nilS (T.get 0) = some p1 ∧ ∃ p2, faS 0 p1 = some p2 ∧ ∃ p3, ldS none S p2 = some p3 ∧ ∃ p4, faS 0 (T.get 3) = some p4 ∧ ∃ p5, ldS none S p4 = some p5 ∧ ∃ p6, lkS Try.prog 3 (.string ⟨⟨[]⟩⟩) S p3 p5 true = some p6 ∧ ∃ p8, aextract p6 0 = some p8 ∧ ∃ p9, aextract p6 1 = some p9 ∧ Q ((((((((((((T.set (T.get 0) 8).set p1 9).set p2 10).set p3 11).set p4 12).set p5 13).set p6 14).set p6 7).set p8 15).set p9 16).set p8 5).set p9 6) S) := by kernel_rfl
theorem reg10_2 {O : Hook} {T : FT} {S : MS} {Q : FT → MS → Prop} : mOps Try.prog O 31 (ro 10 2).toList (ro 10 2).toList [] T S Q =
  (∃ b1, (T.get 6) = .bool b1 ∧
    (b1 = true → ∃ p5, pickS (T.get 6) (.bool true) undef = some p5 ∧ Q ((((((T.set (T.get 6) 17).set (T.get 6) 18).set undef 19).set undef 20).set undef 21).set p5 22) S) ∧
    (b1 = false → ∃ p2, faS 0 (T.get 3) = some p2 ∧ ∃ p3, ldS none S p2 = some p3 ∧ ∃ p4, abin Try.prog .lss 3 (.tmp 20) (.const (.int .i64 1)) p3 (.int .i64 1) = some p4 ∧ ∃ p5, pickS (T.get 6) (.bool true) p4 = some p5 ∧ Q ((((((T.set (T.get 6) 17).set (T.get 6) 18).set p2 19).set p3 20).set p4 21).set p5 22) S)) := by kernel_rfl
theorem reg10_3 {O : Hook} {T : FT} {S : MS} {Q : FT → MS → Prop} : mOps Try.prog O 31 (ro 10 3).toList (ro 10 3).toList [] T S Q =
  (Q (T.set (.bool false) 4) S) := by kernel_rfl
theorem reg10_4 {O : Hook} {T : FT} {S : MS} {Q : FT → MS → Prop} : mDraw Try.prog O 31 (ro 10 4).toList T S Q =
  (∃ p1, nilS (T.get 0) = some p1 ∧ ∃ p2, faS 0 p1 = some p2 ∧ ∃ p3, ldS none S p2 = some p3 ∧ ∃ p4, faS 0 (T.get 3) = some p4 ∧ ∃ p5, ldS none S p4 = some p5 ∧ ∃ p6, faS 1 (T.get 3) = some p6 ∧ ∃ p7, ldS none S p6 = some p7 ∧ ∃ p8 S8, ((muS Try.prog 3 S p3 p5 p7).map fun S1 => (undef, S1)) = some (p8, S8) ∧ Q ((((((((T.set (T.get 0) 23).set p1 24).set p2 25).set p3 26).set p4 27).set p5 28).set p6 29).set p7 30) S8) := by kernel_rfl
theorem reg10_5 {O : Hook} {T : FT} {S : MS} {Q : FT → MS → Prop} : mOps Try.prog O 31 (ro 10 5).toList (ro 10 5).toList [] T S Q =
  (Q (T.set (.bool true) 4) S) := by kernel_rfl
/-! ### 11: (*windlass/outbox.Box).Ack -/
theorem body11 : (Try.prog.funcs[11]?).bind (·.body) = some (.seq (.region 0 (ro 11 0) false) (.seq (.seq (.region 1 (ro 11 1) false) (.cond (.tmp 14) (.seq (.region 2 (ro 11 2) false) .ret) .skip)) (.seq (.region 3 (ro 11 3) false) (.seq (.region 4 (ro 11 4) false) .ret)))) := by kernel_rfl
theorem res11 : (Try.prog.funcs[11]?).map (·.results.toList) = some [.tmp 4] := by kernel_rfl
theorem is11 : fnIsB Try.prog 11 22 = true := by kernel_rfl
theorem reg11_0 {O : Hook} {T : FT} {S : MS} {Q : FT → MS → Prop} : mOps Try.prog O 22 (ro 11 0).toList (ro 11 0).toList [] T S Q =
  (Q (T.set (.int .i64 0) 4) S) := by kernel_rfl
theorem reg11_1 {O : Hook} {T : FT} {S : MS} {Q : FT → MS → Prop} : mOps Try.prog O 22 (ro 11 1).toList (ro 11 1).toList [] T S Q =
  (∃ p1, abin Try.prog .lss 3 (.tmp 5) (.const (.int .i64 0)) (T.get 1) (.int .i64 0) = some p1 ∧ ∃ b2, p1 = .bool b2 ∧
     (b2 = true → ∃ p9, pickS p1 (.bool true) undef = some p9 ∧ Q ((((((((((T.set (T.get 1) 5).set p1 6).set p1 7).set undef 8).set undef 9).set undef 10).set undef 11).set undef 12).set undef 13).set p9 14) S) ∧
     (b2 = false → ∃ p5, nilS (T.get 0) = some p5 ∧ ∃ p6, faS 0 p5 = some p6 ∧ ∃ p7, ldS none S p6 = some p7 ∧ ∃ p8, abin Try.prog .geq 3 (.tmp 8) (.tmp 12) (T.get 1) p7 = some p8 ∧ ∃ p9, pickS p1 (.bool true) p8 = some p9 ∧ Q ((((((((((T.set (T.get 1) 5).set p1 6).set p1 7).set (T.get 1) 8).set (T.get 0) 9).set p5 10).set p6 11).set p7 12).set p8 13).set p9 14) S)) := by kernel_rfl
theorem reg11_3 {O : Hook} {T : FT} {S : MS} {Q : FT → MS → Prop} : mOps Try.prog O 22 (ro 11 3).toList (ro 11 3).toList [] T S Q =
  (CallM Try.prog O 14 [(T.get 0), (T.get 1)] S fun p3 S3 => CallM Try.prog O 15 [p3] S3 fun p4 S4 => ∃ p5, nilS (T.get 0) = some p5 ∧ ∃ p6, faS 1 p5 = some p6 ∧ ∃ S7, stS 1 S4 p6 p4 = some S7 ∧ Q (((((((T.set (T.get 0) 15).set (T.get 0) 16).set (T.get 1) 17).set p3 18).set p4 19).set p5 20).set p6 21) S7) := by kernel_rfl
theorem reg11_4 {O : Hook} {T : FT} {S : MS} {Q : FT → MS → Prop} : mOps Try.prog O 22 (ro 11 4).toList (ro 11 4).toList [] T S Q =
  (Q (T.set (.int .i64 0) 4) S) := by kernel_rfl
/-! ### 12: (*windlass/outbox.Receiver).Last -/
noncomputable def blk12_1 : Code := .block 1 (.seq (.seq (.region 2 (ro 12 2) false) (.seq (.region 3 (ro 12 3) false) (.cond (.tmp 17) (.seq (.region 4 (ro 12 4) false) .ret) .skip))) (.region 5 (ro 12 5) false))
noncomputable def blk12_0 : Code := .block 0 (.loop blk12_1)
theorem body12 : (Try.prog.funcs[12]?).bind (·.body) = some (.seq (.region 0 (ro 12 0) false) (.seq (.region 1 (ro 12 1) false) blk12_0)) := by kernel_rfl
theorem res12 : (Try.prog.funcs[12]?).map (·.results.toList) = some [.tmp 2] := by kernel_rfl
theorem is12 : fnIsB Try.prog 12 21 = true := by kernel_rfl
theorem reg12_0 {O : Hook} {T : FT} {S : MS} {Q : FT → MS → Prop} : mOps Try.prog O 21 (ro 12 0).toList (ro 12 0).toList [] T S Q =
  (Q (T.set (.int .i64 0) 2) S) := by kernel_rfl
theorem reg12_1 {O : Hook} {T : FT} {S : MS} {Q : FT → MS → Prop} : mOps Try.prog O 21 (ro 12 1).toList (ro 12 1).toList [] T S Q =
  (Q (T.set (.int .i64 0) 3) S) := by kernel_rfl
theorem reg12_2 {O : Hook} {T : FT} {S : MS} {Q : FT → MS → Prop} : mOps Try.prog O 21 (ro 12 2).toList (ro 12 2).toList [] T S Q =
  (∃ p1, nilS (T.get 0) = some p1 ∧ ∃ p2, faS 0 p1 = some p2 ∧ ∃ p3, ldS none S p2 = some p3 ∧ ∃ p5, abin Try.prog .add 3 (.tmp 11) (.const (.int .i64 1)) (T.get 3) (.int .i64 1) = some p5 ∧ ∃ p6, lkS Try.prog 3 (.string ⟨⟨[]⟩⟩) S p3 p5 true = some p6 ∧ ∃ p8, aextract p6 0 = some p8 ∧ ∃ p9, aextract p6 1 = some p9 ∧ Q ((((((((((((T.set (T.get 0) 7).set p1 8).set p2 9).set p3 10).set (T.get 3) 11).set p5 12).set p6 13).set p6 6).set p8 14).set p9 15).set p8 4).set p9 5) S) := by kernel_rfl
theorem reg12_3 {O : Hook} {T : FT} {S : MS} {Q : FT → MS → Prop} : mOps Try.prog O 21 (ro 12 3).toList (ro 12 3).toList [] T S Q =
  (∃ p1, aunary .not (T.get 5) = some p1 ∧ Q ((T.set (T.get 5) 16).set p1 17) S) := by kernel_rfl
theorem reg12_4 {O : Hook} {T : FT} {S : MS} {Q : FT → MS → Prop} : mOps Try.prog O 21 (ro 12 4).toList (ro 12 4).toList [] T S Q =
  (Q ((T.set (T.get 3) 18).set (T.get 3) 2) S) := by kernel_rfl
theorem reg12_5 {O : Hook} {T : FT} {S : MS} {Q : FT → MS → Prop} : mOps Try.prog O 21 (ro 12 5).toList (ro 12 5).toList [] T S Q =
  (∃ p1, abin Try.prog .add 3 (.tmp 19) (.const (.int .i64 1)) (T.get 3) (.int .i64 1) = some p1 ∧ Q (((T.set (T.get 3) 19).set p1 20).set p1 3) S) := by kernel_rfl
/-! ### 13: (*windlass/outbox.Receiver).Got -/
noncomputable def blk13_1 : Code := .block 1 (.seq (.region 4 (ro 13 4) false) (.region 5 (ro 13 5) false))
noncomputable def blk13_0 : Code := .block 0 (.loop (.seq (.region 3 (ro 13 3) false) (.seq (.cond (.tmp 14) .skip (.exit 0)) (.seq blk13_1 (.region 6 (ro 13 6) false)))))
theorem body13 : (Try.prog.funcs[13]?).bind (·.body) = some (.seq (.region 0 (ro 13 0) false) (.seq (.region 1 (ro 13 1) false) (.seq (.seq (.region 2 (ro 13 2) false) blk13_0) (.seq (.region 7 (ro 13 7) false) .ret)))) := by kernel_rfl
theorem res13 : (Try.prog.funcs[13]?).map (·.results.toList) = some [.tmp 2] := by kernel_rfl
theorem is13 : fnIsB Try.prog 13 30 = true := by kernel_rfl
theorem reg13_0 {O : Hook} {T : FT} {S : MS} {Q : FT → MS → Prop} : mOps Try.prog O 30 (ro 13 0).toList (ro 13 0).toList [] T S Q =
  (Q (T.set (.slice none 0 0) 2) S) := by kernel_rfl
theorem reg13_1 {O : Hook} {T : FT} {S : MS} {Q : FT → MS → Prop} : mOps Try.prog O 30 (ro 13 1).toList (ro 13 1).toList [] T S Q =
  (Q (T.set (.slice none 0 0) 3) S) := by kernel_rfl
theorem reg13_2 {O : Hook} {T : FT} {S : MS} {Q : FT → MS → Prop} : mOps Try.prog O 30 (ro 13 2).toList (ro 13 2).toList [] T S Q =
  (∃ p1, nilS (T.get 0) = some p1 ∧ ∃ p2, faS 0 p1 = some p2 ∧ ∃ p3, ldS none S p2 = some p3 ∧ CallM Try.prog O 17 [p3] S fun p4 S4 => CallM Try.prog O 16 [p4] S4 fun p5 S5 => ∃ p6, lenSl p5 = some p6 ∧ Q ((((((((T.set (T.get 0) 6).set p1 7).set p2 8).set p3 9).set p4 10).set p5 11).set p6 12).set (.int .i64 0) 13) S5) := by kernel_rfl
theorem reg13_3 {O : Hook} {T : FT} {S : MS} {Q : FT → MS → Prop} : mOps Try.prog O 30 (ro 13 3).toList (ro 13 3).toList [] T S Q =
  (∃ p0, abin Try.prog .lss 3 (.tmp 13) (.tmp 12) (T.get 13) (T.get 12) = some p0 ∧ Q (T.set p0 14) S) := by kernel_rfl
theorem reg13_4 {O : Hook} {T : FT} {S : MS} {Q : FT → MS → Prop} : mOps Try.prog O 30 (ro 13 4).toList (ro 13 4).toList [] T S Q =
  (∃ p0, iaSS 1 (T.get 11) (T.get 13) = some p0 ∧ ∃ p1, ldS none S p0 = some p1 ∧ Q (((T.set p0 15).set p1 16).set p1 5) S) := by kernel_rfl
theorem reg13_5 {O : Hook} {T : FT} {S : MS} {Q : FT → MS → Prop} : mOps Try.prog O 30 (ro 13 5).toList (ro 13 5).toList [] T S Q =
  (∃ p3, nilS (T.get 0) = some p3 ∧ ∃ p4, faS 0 p3 = some p4 ∧ ∃ p5, ldS none S p4 = some p5 ∧ ∃ p7, lkS Try.prog 3 (.string ⟨⟨[]⟩⟩) S p5 (T.get 5) false = some p7 ∧ ∃ p8, bdS (fun i => [(0, 1), (1, 1)][i]?) [.int .i64 0, .string ⟨⟨[]⟩⟩] [(0, (T.get 5)), (1, p7)] = some p8 ∧ ∃ p9 S9, bsS S 1 2 [.int .i64 0, .string ⟨⟨[]⟩⟩] [(0, p8)] = some (p9, S9) ∧ ∃ p10 S10, apS false 2 24 [.int .i64 0, .string ⟨⟨[]⟩⟩] S9 [(T.get 3), p9] = some (p10, S10) ∧ Q ((((((((((((T.set (T.get 3) 17).set (T.get 5) 18).set (T.get 0) 19).set p3 20).set p4 21).set p5 22).set (T.get 5) 23).set p7 24).set p8 25).set p9 26).set p10 27).set p10 3) S10) := by kernel_rfl
theorem reg13_6 {O : Hook} {T : FT} {S : MS} {Q : FT → MS → Prop} : mOps Try.prog O 30 (ro 13 6).toList (ro 13 6).toList [] T S Q =
  (∃ p0, abin Try.prog .add 3 (.tmp 13) (.const (.int .i64 1)) (T.get 13) (.int .i64 1) = some p0 ∧ Q ((T.set p0 28).set p0 13) S) := by kernel_rfl
theorem reg13_7 {O : Hook} {T : FT} {S : MS} {Q : FT → MS → Prop} : mOps Try.prog O 30 (ro 13 7).toList (ro 13 7).toList [] T S Q =
  (Q ((T.set (T.get 3) 29).set (T.get 3) 2) S) := by kernel_rfl
/-! ### 14: (*windlass/outbox.Box).above -/
theorem body14 : (Try.prog.funcs[14]?).bind (·.body) = some (.seq (.region 0 (ro 14 0) false) (.seq (.region 1 (ro 14 1) false) .ret)) := by kernel_rfl
theorem res14 : (Try.prog.funcs[14]?).map (·.results.toList) = some [.tmp 4] := by kernel_rfl
theorem is14 : fnIsB Try.prog 14 6 = true := by kernel_rfl
theorem reg14_0 {O : Hook} {T : FT} {S : MS} {Q : FT → MS → Prop} : mOps Try.prog O 6 (ro 14 0).toList (ro 14 0).toList [] T S Q =
  (Q (((T.set (ptrTo S.n) 2).set (ptrTo (S.fresh (Value.cells (T.get 0)).toList 0).n) 3).set (.nilFunc) 4) ((S.fresh (Value.cells (T.get 0)).toList 0).fresh (Value.cells (T.get 1)).toList 0)) := by kernel_rfl
theorem reg14_1 {O : Hook} {T : FT} {S : MS} {Q : FT → MS → Prop} : mOps Try.prog O 6 (ro 14 1).toList (ro 14 1).toList [] T S Q =
  (Q ((T.set (.func (.func 18) (Array.mk []) (Array.mk [(T.get 2), (T.get 3)])) 5).set (.func (.func 18) (Array.mk []) (Array.mk [(T.get 2), (T.get 3)])) 4) S) := by kernel_rfl
/-! ### 15: slices.Collect[windlass/api.Emission] -/
theorem body15 : (Try.prog.funcs[15]?).bind (·.body) = some (.seq (.region 0 (ro 15 0) false) (.seq (.region 1 (ro 15 1) false) .ret)) := by kernel_rfl
theorem res15 : (Try.prog.funcs[15]?).map (·.results.toList) = some [.tmp 2] := by kernel_rfl
theorem is15 : fnIsB Try.prog 15 5 = true := by kernel_rfl
theorem reg15_0 {O : Hook} {T : FT} {S : MS} {Q : FT → MS → Prop} : mOps Try.prog O 5 (ro 15 0).toList (ro 15 0).toList [] T S Q =
  (Q (T.set (.slice none 0 0) 2) S) := by kernel_rfl
theorem reg15_1 {O : Hook} {T : FT} {S : MS} {Q : FT → MS → Prop} : mOps Try.prog O 5 (ro 15 1).toList (ro 15 1).toList [] T S Q =
  (CallM Try.prog O 19 [(.slice none 0 0), (T.get 0)] S fun p1 S1 => Q (((T.set (T.get 0) 3).set p1 4).set p1 2) S1) := by kernel_rfl
/-! ### 17: maps.Keys[map[int]string,int,string] -/
theorem body17 : (Try.prog.funcs[17]?).bind (·.body) = some (.seq (.region 0 (ro 17 0) false) (.seq (.region 1 (ro 17 1) false) .ret)) := by kernel_rfl
theorem res17 : (Try.prog.funcs[17]?).map (·.results.toList) = some [.tmp 2] := by kernel_rfl
theorem is17 : fnIsB Try.prog 17 4 = true := by kernel_rfl
theorem reg17_0 {O : Hook} {T : FT} {S : MS} {Q : FT → MS → Prop} : mOps Try.prog O 4 (ro 17 0).toList (ro 17 0).toList [] T S Q =
  (Q ((T.set (ptrTo S.n) 1).set (.nilFunc) 2) (S.fresh (Value.cells (T.get 0)).toList 0)) := by kernel_rfl
theorem reg17_1 {O : Hook} {T : FT} {S : MS} {Q : FT → MS → Prop} : mOps Try.prog O 4 (ro 17 1).toList (ro 17 1).toList [] T S Q =
  (Q ((T.set (.func (.func 22) (Array.mk []) (Array.mk [(T.get 1)])) 3).set (.func (.func 22) (Array.mk []) (Array.mk [(T.get 1)])) 2) S) := by kernel_rfl
/-! ### 18: (*windlass/outbox.Box).above$1 -/
noncomputable def blk18_1 : Code := .block 1 (.seq (.region 2 (ro 18 2) false) (.seq (.region 3 (ro 18 3) false) (.cond (.tmp 24) .ret .skip)))
noncomputable def blk18_0 : Code := .block 0 (.loop (.seq (.region 1 (ro 18 1) false) (.seq (.cond (.tmp 12) .skip (.exit 0)) (.seq blk18_1 (.region 4 (ro 18 4) false)))))
theorem body18 : (Try.prog.funcs[18]?).bind (·.body) = some (.seq (.region 0 (ro 18 0) false) blk18_0) := by kernel_rfl
theorem res18 : (Try.prog.funcs[18]?).map (·.results.toList) = some [] := by kernel_rfl
theorem is18 : fnIsB Try.prog 18 26 = true := by kernel_rfl
theorem reg18_0 {O : Hook} {T : FT} {S : MS} {Q : FT → MS → Prop} : mOps Try.prog O 26 (ro 18 0).toList (ro 18 0).toList [] T S Q =
  (∃ p0, ldS none S (T.get 1) = some p0 ∧ ∃ p1, nilS p0 = some p1 ∧ ∃ p2, faS 1 p1 = some p2 ∧ ∃ p3, ldS none S p2 = some p3 ∧ ∃ p4, lenSl p3 = some p4 ∧ Q ((((((T.set p0 6).set p1 7).set p2 8).set p3 9).set p4 10).set (.int .i64 0) 11) S) := by kernel_rfl
theorem reg18_1 {O : Hook} {T : FT} {S : MS} {Q : FT → MS → Prop} : mOps Try.prog O 26 (ro 18 1).toList (ro 18 1).toList [] T S Q =
  (∃ p0, abin Try.prog .lss 3 (.tmp 11) (.tmp 10) (T.get 11) (T.get 10) = some p0 ∧ Q (T.set p0 12) S) := by kernel_rfl
theorem reg18_2 {O : Hook} {T : FT} {S : MS} {Q : FT → MS → Prop} : mOps Try.prog O 26 (ro 18 2).toList (ro 18 2).toList [] T S Q =
  (∃ p0, iaSS 2 (T.get 9) (T.get 11) = some p0 ∧ ∃ p1, ldS (some 2) S p0 = some p1 ∧ ∃ S3, stS 2 (S.fresh [.int .i64 0, .string ⟨⟨[]⟩⟩] 0) (ptrTo S.n) p1 = some S3 ∧ Q (((T.set p0 13).set p1 14).set (ptrTo S.n) 5) S3) := by kernel_rfl
theorem reg18_3 {O : Hook} {T : FT} {S : MS} {Q : FT → MS → Prop} : mOps Try.prog O 26 (ro 18 3).toList (ro 18 3).toList [] T S Q =
  (∃ p0, faS 0 (T.get 5) = some p0 ∧ ∃ p1, ldS none S p0 = some p1 ∧ ∃ p2, ldS none S (T.get 2) = some p2 ∧ ∃ p3, abin Try.prog .gtr 3 (.tmp 16) (.tmp 17) p1 p2 = some p3 ∧ ∃ b4, p3 = .bool b4 ∧
       (b4 = true → ∃ p6, ldS (some 2) S (T.get 5) = some p6 ∧ CallV Try.prog O (T.get 0) [p6] S fun p7 S7 => ∃ p8, aunary .not p7 = some p8 ∧ ∃ p9, pickS p3 p8 (.bool false) = some p9 ∧ Q ((((((((((T.set p0 15).set p1 16).set p2 17).set p3 18).set p3 19).set (T.get 0) 20).set p6 21).set p7 22).set p8 23).set p9 24) S7) ∧
       (b4 = false → ∃ p9, pickS p3 undef (.bool false) = some p9 ∧ Q ((((((((((T.set p0 15).set p1 16).set p2 17).set p3 18).set p3 19).set undef 20).set undef 21).set undef 22).set undef 23).set p9 24) S)) := by kernel_rfl
theorem reg18_4 {O : Hook} {T : FT} {S : MS} {Q : FT → MS → Prop} : mOps Try.prog O 26 (ro 18 4).toList (ro 18 4).toList [] T S Q =
  (∃ p0, abin Try.prog .add 3 (.tmp 11) (.const (.int .i64 1)) (T.get 11) (.int .i64 1) = some p0 ∧ Q ((T.set p0 25).set p0 11) S) := by kernel_rfl
/-! ### 19: slices.AppendSeq[[]windlass/api.Emission,windlass/api.Emission] -/
noncomputable def blk19_1 : Code := .block 1 (.region 3 (ro 19 3) false)
noncomputable def blk19_0 : Code := .block 0 (.rangeFunc (.tmp 6) #[7] (.region 2 (ro 19 2) false) blk19_1)
theorem body19 : (Try.prog.funcs[19]?).bind (·.body) = some (.seq (.region 0 (ro 19 0) false) (.seq (.seq (.region 1 (ro 19 1) false) blk19_0) (.seq (.region 4 (ro 19 4) false) .ret))) := by kernel_rfl
theorem res19 : (Try.prog.funcs[19]?).map (·.results.toList) = some [.tmp 4] := by kernel_rfl
theorem is19 : fnIsB Try.prog 19 13 = true := by kernel_rfl
theorem reg19_0 {O : Hook} {T : FT} {S : MS} {Q : FT → MS → Prop} : mOps Try.prog O 13 (ro 19 0).toList (ro 19 0).toList [] T S Q =
  (Q ((T.set (ptrTo S.n) 2).set (.slice none 0 0) 4) (S.fresh (Value.cells (T.get 0)).toList 0)) := by kernel_rfl
theorem reg19_1 {O : Hook} {T : FT} {S : MS} {Q : FT → MS → Prop} : mOps Try.prog O 13 (ro 19 1).toList (ro 19 1).toList [] T S Q =
  (Q (T.set (T.get 1) 6) S) := by kernel_rfl
theorem reg19_2 {O : Hook} {T : FT} {S : MS} {Q : FT → MS → Prop} : mOps Try.prog O 13 (ro 19 2).toList (ro 19 2).toList [] T S Q =
  (∃ S1, stS 2 (S.fresh [.int .i64 0, .string ⟨⟨[]⟩⟩] 0) (ptrTo S.n) (T.get 7) = some S1 ∧ Q (T.set (ptrTo S.n) 5) S1) := by kernel_rfl
theorem reg19_3 {O : Hook} {T : FT} {S : MS} {Q : FT → MS → Prop} : mOps Try.prog O 13 (ro 19 3).toList (ro 19 3).toList [] T S Q =
  (∃ p0, ldS none S (T.get 2) = some p0 ∧ ∃ p1, ldS (some 2) S (T.get 5) = some p1 ∧ ∃ p2 S2, bsS S 1 2 [.int .i64 0, .string ⟨⟨[]⟩⟩] [(0, p1)] = some (p2, S2) ∧ ∃ p3 S3, apS false 2 24 [.int .i64 0, .string ⟨⟨[]⟩⟩] S2 [p0, p2] = some (p3, S3) ∧ ∃ S4, stS 1 S3 (T.get 2) p3 = some S4 ∧ Q ((((T.set p0 8).set p1 9).set p2 10).set p3 11) S4) := by kernel_rfl
theorem reg19_4 {O : Hook} {T : FT} {S : MS} {Q : FT → MS → Prop} : mOps Try.prog O 13 (ro 19 4).toList (ro 19 4).toList [] T S Q =
  (∃ p0, ldS none S (T.get 2) = some p0 ∧ Q ((T.set p0 12).set p0 4) S) := by kernel_rfl
end Go.Proofs.Ytikdcdccpbnaeaa

