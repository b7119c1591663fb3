/-
  The walk through the journal's code: what its functions do to memory, part MoV. Nothing is asked.
-/
import Derived.Test.YtmfmbadfgnhonaaMoW
set_option linter.all false
namespace Go.Proofs.Ytmfmbadfgnhonaa
open Go Go.Ag
set_option linter.unusedVariables false
set_option maxRecDepth 100000
/-! ### 6: windlass/windlasslaw19.JournalMoments -/
noncomputable def blk6_3 : Code := .block 3 (.seq (.region 29 (ro 6 29) false) (.seq (.seq (.region 30 (ro 6 30) false) (.cond (.tmp 116) (.seq (.region 31 (ro 6 31) false) .ret) .skip)) (.seq (.region 32 (ro 6 32) false) (.seq (.seq (.region 33 (ro 6 33) false) (.cond (.tmp 127) (.seq (.region 34 (ro 6 34) false) .ret) .skip)) (.seq (.region 35 (ro 6 35) false) (.seq (.region 36 (ro 6 36) false) (.seq (.region 37 (ro 6 37) false) (.cond (.tmp 159) (.seq (.region 38 (ro 6 38) false) .ret) .skip))))))))
noncomputable def blk6_2 : Code := .block 2 (.loop (.seq (.seq (.region 27 (ro 6 27) false) (.cond (.tmp 106) .skip (.exit 2))) (.seq blk6_3 (.region 28 (ro 6 28) false))))
noncomputable def blk6_1 : Code := .block 1 (.seq (.seq (.region 16 (ro 6 16) false) (.cond (.tmp 62) (.seq (.region 17 (ro 6 17) false) .ret) .skip)) (.seq (.region 18 (ro 6 18) false) (.seq (.region 19 (ro 6 19) true) (.seq (.seq (.region 20 (ro 6 20) false) (.cond (.tmp 83) (.seq (.region 21 (ro 6 21) false) (.region 22 (ro 6 22) false)) (.region 23 (ro 6 23) false))) (.seq (.seq (.region 24 (ro 6 24) false) (.cond (.tmp 101) (.seq (.region 25 (ro 6 25) false) .ret) .skip)) (.seq (.seq (.region 26 (ro 6 26) false) blk6_2) (.region 39 (ro 6 39) false)))))))
noncomputable def blk6_0 : Code := .block 0 (.loop (.seq (.seq (.region 14 (ro 6 14) false) (.cond (.tmp 54) .skip (.exit 0))) (.seq blk6_1 (.region 15 (ro 6 15) false))))
theorem body6 : (Try.prog.funcs[6]?).bind (·.body) = some (.seq (.region 0 (ro 6 0) false) (.seq (.seq (.region 1 (ro 6 1) false) (.cond (.tmp 21) (.seq (.region 2 (ro 6 2) false) .ret) .skip)) (.seq (.seq (.region 3 (ro 6 3) false) (.cond (.tmp 24) (.seq (.region 4 (ro 6 4) false) .ret) .skip)) (.seq (.region 5 (ro 6 5) false) (.seq (.seq (.region 6 (ro 6 6) false) (.cond (.tmp 37) (.seq (.region 7 (ro 6 7) false) .ret) .skip)) (.seq (.region 8 (ro 6 8) false) (.seq (.seq (.region 9 (ro 6 9) false) (.cond (.tmp 48) (.seq (.region 10 (ro 6 10) false) .ret) .skip)) (.seq (.region 11 (ro 6 11) false) (.seq (.region 12 (ro 6 12) false) (.seq (.seq (.region 13 (ro 6 13) false) blk6_0) (.seq (.region 40 (ro 6 40) false) .ret))))))))))) := by kernel_rfl
theorem res6 : (Try.prog.funcs[6]?).map (·.results.toList) = some [.tmp 4] := by kernel_rfl
theorem is6 : fnIsB Try.prog 6 162 = true := by kernel_rfl
theorem reg6_0 {O : Known} {T : FT} {S : MS} {Q : FT → MS → Prop} : mOps Try.prog O 162 (ro 6 0).toList (ro 6 0).toList [] T S Q =
  (Q (T.set (.bool false) 4) S) := by kernel_rfl
theorem reg6_1 {O : Known} {T : FT} {S : MS} {Q : FT → MS → Prop} : mOps Try.prog O 162 (ro 6 1).toList (ro 6 1).toList [] T S Q =
  (CallM Try.prog O 7 [] S fun p0 S0 => ∃ p1, aunary .not p0 = some p1 ∧ Q ((T.set p0 20).set p1 21) S0) := by kernel_rfl
theorem reg6_3 {O : Known} {T : FT} {S : MS} {Q : FT → MS → Prop} : mOps Try.prog O 162 (ro 6 3).toList (ro 6 3).toList [] T S Q =
  (∃ p1, lenSl (T.get 0) = some p1 ∧ ∃ p2, abin Try.prog .gtr 3 (.tmp 23) (.const (.int .i64 12)) p1 (.int .i64 12) = some p2 ∧ Q (((T.set (T.get 0) 22).set p1 23).set p2 24) S) := by kernel_rfl
theorem reg6_4 {O : Known} {T : FT} {S : MS} {Q : FT → MS → Prop} : mOps Try.prog O 162 (ro 6 4).toList (ro 6 4).toList [] T S Q =
  (Q (T.set (.bool true) 4) S) := by kernel_rfl
theorem reg6_5 {O : Known} {T : FT} {S : MS} {Q : FT → MS → Prop} : mOps Try.prog O 162 (ro 6 5).toList (ro 6 5).toList [] T S Q =
  (CallM Try.prog O 8 [(.int .i64 80)] S fun p0 S0 => ∃ p2, aextract p0 0 = some p2 ∧ ∃ p3, aextract p0 1 = some p3 ∧ Q ((((((T.set p0 26).set p0 25).set p2 27).set p3 28).set p2 5).set p3 6) S0) := by kernel_rfl
theorem reg6_6 {O : Known} {T : FT} {S : MS} {Q : FT → MS → Prop} : mOps Try.prog O 162 (ro 6 6).toList (ro 6 6).toList [] T S Q =
  (∃ p1, abin Try.prog .neq 24 (.tmp 29) (.const (.int .i64 0)) (T.get 6) (.int .i64 0) = some p1 ∧ ∃ b2, p1 = .bool b2 ∧
     (b2 = true → ∃ p8, pickS p1 (.bool true) undef = some p8 ∧ Q (((((((((T.set (T.get 6) 29).set p1 30).set p1 31).set undef 32).set undef 33).set undef 34).set undef 35).set undef 36).set p8 37) S) ∧
     (b2 = false → ∃ p4 S4, bsS S 1 1 [.int .u8 0] [(0, (.int .u8 48))] = some (p4, S4) ∧ ∃ p5, sameS S4 p4 = some p5 ∧ CallM Try.prog O 9 [(T.get 5), p5] S4 fun p6 S6 => ∃ p7, abin Try.prog .neq 24 (.tmp 35) (.const (.int .i64 0)) p6 (.int .i64 0) = some p7 ∧ ∃ p8, pickS p1 (.bool true) p7 = some p8 ∧ Q (((((((((T.set (T.get 6) 29).set p1 30).set p1 31).set (T.get 5) 32).set p4 33).set p5 34).set p6 35).set p7 36).set p8 37) S6)) := by kernel_rfl
theorem reg6_8 {O : Known} {T : FT} {S : MS} {Q : FT → MS → Prop} : mOps Try.prog O 162 (ro 6 8).toList (ro 6 8).toList [] T S Q =
  (CallM Try.prog O 10 [(T.get 5)] S fun p1 S1 => ∃ p3, aextract p1 0 = some p3 ∧ ∃ p4, aextract p1 1 = some p4 ∧ Q (((((((T.set (T.get 5) 39).set p1 40).set p1 38).set p3 41).set p4 42).set p3 7).set p4 6) S1) := by kernel_rfl
theorem reg6_9 {O : Known} {T : FT} {S : MS} {Q : FT → MS → Prop} : mOps Try.prog O 162 (ro 6 9).toList (ro 6 9).toList [] T S Q =
  (∃ p1, abin Try.prog .neq 24 (.tmp 43) (.const (.int .i64 0)) (T.get 6) (.int .i64 0) = some p1 ∧ ∃ b2, p1 = .bool b2 ∧
     (b2 = true → ∃ p5, pickS p1 (.bool true) undef = some p5 ∧ Q ((((((T.set (T.get 6) 43).set p1 44).set p1 45).set undef 46).set undef 47).set p5 48) S) ∧
     (b2 = false → ∃ p4, abin Try.prog .eql 28 (.tmp 46) (.const (.pointer none)) (T.get 7) (.pointer none) = some p4 ∧ ∃ p5, pickS p1 (.bool true) p4 = some p5 ∧ Q ((((((T.set (T.get 6) 43).set p1 44).set p1 45).set (T.get 7) 46).set p4 47).set p5 48) S)) := by kernel_rfl
theorem reg6_11 {O : Known} {T : FT} {S : MS} {Q : FT → MS → Prop} : mOps Try.prog O 162 (ro 6 11).toList (ro 6 11).toList [] T S Q =
  (∃ p0 S0, bsS S 1 1 [.int .u8 0] [(0, (.int .u8 48))] = some (p0, S0) ∧ ∃ p1, sameS S0 p0 = some p1 ∧ Q (((T.set p0 49).set p1 50).set p1 8) S0) := by kernel_rfl
theorem reg6_12 {O : Known} {T : FT} {S : MS} {Q : FT → MS → Prop} : mOps Try.prog O 162 (ro 6 12).toList (ro 6 12).toList [] T S Q =
  (Q (T.set (.slice none 0 0) 9) S) := by kernel_rfl
theorem reg6_13 {O : Known} {T : FT} {S : MS} {Q : FT → MS → Prop} : mOps Try.prog O 162 (ro 6 13).toList (ro 6 13).toList [] T S Q =
  (Q (T.set (.int .i64 0) 10) S) := by kernel_rfl
theorem reg6_14 {O : Known} {T : FT} {S : MS} {Q : FT → MS → Prop} : mOps Try.prog O 162 (ro 6 14).toList (ro 6 14).toList [] T S Q =
  (∃ p2, lenSl (T.get 0) = some p2 ∧ ∃ p3, abin Try.prog .lss 3 (.tmp 51) (.tmp 53) (T.get 10) p2 = some p3 ∧ Q ((((T.set (T.get 10) 51).set (T.get 0) 52).set p2 53).set p3 54) S) := by kernel_rfl
theorem reg6_16 {O : Known} {T : FT} {S : MS} {Q : FT → MS → Prop} : mOps Try.prog O 162 (ro 6 16).toList (ro 6 16).toList [] T S Q =
  (∃ p2, iaSS 1 (T.get 0) (T.get 10) = some p2 ∧ ∃ p3, ldS none S p2 = some p3 ∧ ∃ p4, lenSl p3 = some p4 ∧ ∃ p5, abin Try.prog .gtr 3 (.tmp 61) (.const (.int .i64 100)) p4 (.int .i64 100) = some p5 ∧ Q ((((((T.set (T.get 0) 57).set (T.get 10) 58).set p2 59).set p3 60).set p4 61).set p5 62) S) := by kernel_rfl
theorem reg6_17 {O : Known} {T : FT} {S : MS} {Q : FT → MS → Prop} : mOps Try.prog O 162 (ro 6 17).toList (ro 6 17).toList [] T S Q =
  (Q (T.set (.bool true) 4) S) := by kernel_rfl
theorem reg6_18 {O : Known} {T : FT} {S : MS} {Q : FT → MS → Prop} : mOps Try.prog O 162 (ro 6 18).toList (ro 6 18).toList [] T S Q =
  (CallM Try.prog O 22 [(T.get 5)] S fun p1 S1 => Q (((T.set (T.get 5) 63).set p1 64).set p1 11) S1) := by kernel_rfl
theorem reg6_19 {O : Known} {T : FT} {S : MS} {Q : FT → MS → Prop} : mDraw Try.prog O 162 (ro 6 19).toList T S Q =
  (∃ p3, lenSl (T.get 9) = some p3 ∧ ∃ p5, lenSl (T.get 9) = some p5 ∧ ∃ p6, slS 1 S (T.get 9) none (some p3) (some p5) = some p6 ∧ ∃ p9, iaSS 1 (T.get 0) (T.get 10) = some p9 ∧ ∃ p10, ldS none S p9 = some p10 ∧ ∃ p11 S11, bsS S 1 1 [.slice none 0 0] [(0, p10)] = some (p11, S11) ∧ ∃ p12 S12, apS false 1 24 [.slice none 0 0] S11 [p6, p11] = some (p12, S12) ∧ Q (((((((((((((((T.set (T.get 9) 66).set (T.get 9) 67).set p3 68).set (T.get 9) 69).set p5 70).set p6 71).set (T.get 0) 72).set (T.get 10) 73).set p9 74).set p10 75).set p11 76).set p12 77).set (T.get 8) 65).set (T.get 8) 12).set p12 13) S12) := by kernel_rfl
theorem reg6_20 {O : Known} {T : FT} {S : MS} {Q : FT → MS → Prop} : mOps Try.prog O 162 (ro 6 20).toList (ro 6 20).toList [] T S Q =
  (∃ p1, abin Try.prog .rem 5 (.tmp 78) (.const (.int .u8 5)) (T.get 1) (.int .u8 5) = some p1 ∧ ∃ p2, cvInt .i64 p1 = some p2 ∧ ∃ p4, abin Try.prog .rem 3 (.tmp 81) (.const (.int .i64 5)) (T.get 10) (.int .i64 5) = some p4 ∧ ∃ p5, abin Try.prog .eql 3 (.tmp 80) (.tmp 82) p2 p4 = some p5 ∧ Q ((((((T.set (T.get 1) 78).set p1 79).set p2 80).set (T.get 10) 81).set p4 82).set p5 83) S) := by kernel_rfl
theorem reg6_21 {O : Known} {T : FT} {S : MS} {Q : FT → MS → Prop} : mOps Try.prog O 162 (ro 6 21).toList (ro 6 21).toList [] T S Q =
  (∃ p2, iaSS 1 (T.get 0) (T.get 10) = some p2 ∧ ∃ p3, ldS none S p2 = some p3 ∧ Q ((((((T.set (T.get 0) 84).set (T.get 10) 85).set p2 86).set p3 87).set p3 12).set (.slice none 0 0) 13) S) := by kernel_rfl
theorem reg6_22 {O : Known} {T : FT} {S : MS} {Q : FT → MS → Prop} : mOps Try.prog O 162 (ro 6 22).toList (ro 6 22).toList [] T S Q =
  (∃ p3, iaSS 1 (T.get 0) (T.get 10) = some p3 ∧ ∃ p4, ldS none S p3 = some p4 ∧ CallM Try.prog O 12 [(T.get 7), p4] S fun p5 S5 => Q (((((((T.set (T.get 7) 88).set (T.get 0) 89).set (T.get 10) 90).set p3 91).set p4 92).set p5 93).set p5 6) S5) := by kernel_rfl
theorem reg6_23 {O : Known} {T : FT} {S : MS} {Q : FT → MS → Prop} : mOps Try.prog O 162 (ro 6 23).toList (ro 6 23).toList [] T S Q =
  (∃ p3, iaSS 1 (T.get 0) (T.get 10) = some p3 ∧ ∃ p4, ldS none S p3 = some p4 ∧ CallM Try.prog O 11 [(T.get 7), p4] S fun p5 S5 => Q (((((((T.set (T.get 7) 94).set (T.get 0) 95).set (T.get 10) 96).set p3 97).set p4 98).set p5 99).set p5 6) S5) := by kernel_rfl
theorem reg6_24 {O : Known} {T : FT} {S : MS} {Q : FT → MS → Prop} : mOps Try.prog O 162 (ro 6 24).toList (ro 6 24).toList [] T S Q =
  (∃ p1, abin Try.prog .neq 24 (.tmp 100) (.const (.int .i64 0)) (T.get 6) (.int .i64 0) = some p1 ∧ Q ((T.set (T.get 6) 100).set p1 101) S) := by kernel_rfl
theorem reg6_26 {O : Known} {T : FT} {S : MS} {Q : FT → MS → Prop} : mOps Try.prog O 162 (ro 6 26).toList (ro 6 26).toList [] T S Q =
  (Q ((T.set (T.get 11) 102).set (T.get 11) 14) S) := by kernel_rfl
theorem reg6_27 {O : Known} {T : FT} {S : MS} {Q : FT → MS → Prop} : mOps Try.prog O 162 (ro 6 27).toList (ro 6 27).toList [] T S Q =
  (CallM Try.prog O 22 [(T.get 5)] S fun p2 S2 => ∃ p3, abin Try.prog .leq 3 (.tmp 103) (.tmp 105) (T.get 14) p2 = some p3 ∧ Q ((((T.set (T.get 14) 103).set (T.get 5) 104).set p2 105).set p3 106) S2) := by kernel_rfl
theorem reg6_29 {O : Known} {T : FT} {S : MS} {Q : FT → MS → Prop} : mOps Try.prog O 162 (ro 6 29).toList (ro 6 29).toList [] T S Q =
  (CallM Try.prog O 23 [(T.get 5), (T.get 14)] S fun p2 S2 => ∃ p4, aextract p2 0 = some p4 ∧ ∃ p5, aextract p2 1 = some p5 ∧ Q ((((((((T.set (T.get 5) 110).set (T.get 14) 111).set p2 112).set p2 109).set p4 113).set p5 114).set p4 15).set p5 16) S2) := by kernel_rfl
theorem reg6_30 {O : Known} {T : FT} {S : MS} {Q : FT → MS → Prop} : mOps Try.prog O 162 (ro 6 30).toList (ro 6 30).toList [] T S Q =
  (∃ p1, abin Try.prog .neq 24 (.tmp 115) (.const (.int .i64 0)) (T.get 16) (.int .i64 0) = some p1 ∧ Q ((T.set (T.get 16) 115).set p1 116) S) := by kernel_rfl
theorem reg6_32 {O : Known} {T : FT} {S : MS} {Q : FT → MS → Prop} : mOps Try.prog O 162 (ro 6 32).toList (ro 6 32).toList [] T S Q =
  (CallM Try.prog O 10 [(T.get 15)] S fun p1 S1 => ∃ p3, aextract p1 0 = some p3 ∧ ∃ p4, aextract p1 1 = some p4 ∧ Q (((((((T.set (T.get 15) 118).set p1 119).set p1 117).set p3 120).set p4 121).set p3 17).set p4 16) S1) := by kernel_rfl
theorem reg6_33 {O : Known} {T : FT} {S : MS} {Q : FT → MS → Prop} : mOps Try.prog O 162 (ro 6 33).toList (ro 6 33).toList [] T S Q =
  (∃ p1, abin Try.prog .neq 24 (.tmp 122) (.const (.int .i64 0)) (T.get 16) (.int .i64 0) = some p1 ∧ ∃ b2, p1 = .bool b2 ∧
     (b2 = true → ∃ p5, pickS p1 (.bool true) undef = some p5 ∧ Q ((((((T.set (T.get 16) 122).set p1 123).set p1 124).set undef 125).set undef 126).set p5 127) S) ∧
     (b2 = false → ∃ p4, abin Try.prog .eql 28 (.tmp 125) (.const (.pointer none)) (T.get 17) (.pointer none) = some p4 ∧ ∃ p5, pickS p1 (.bool true) p4 = some p5 ∧ Q ((((((T.set (T.get 16) 122).set p1 123).set p1 124).set (T.get 17) 125).set p4 126).set p5 127) S)) := by kernel_rfl
theorem reg6_35 {O : Known} {T : FT} {S : MS} {Q : FT → MS → Prop} : mOps Try.prog O 162 (ro 6 35).toList (ro 6 35).toList [] T S Q =
  (CallM Try.prog O 25 [(T.get 17)] S fun p1 S1 => CallM Try.prog O 24 [p1, (T.get 8)] S1 fun p3 S3 => ∃ b4, p3 = .bool b4 ∧
       (b4 = true → CallM Try.prog O 13 [(T.get 17)] S3 fun p6 S6 => CallM Try.prog O 26 [p6, (T.get 9)] S6 fun p8 S8 => ∃ p9, pickS p3 p8 (.bool false) = some p9 ∧ Q (((((((((((T.set (T.get 17) 128).set p1 129).set (T.get 8) 130).set p3 131).set p3 132).set (T.get 17) 133).set p6 134).set (T.get 9) 135).set p8 136).set p9 137).set p9 18) S8) ∧
       (b4 = false → ∃ p9, pickS p3 undef (.bool false) = some p9 ∧ Q (((((((((((T.set (T.get 17) 128).set p1 129).set (T.get 8) 130).set p3 131).set p3 132).set undef 133).set undef 134).set undef 135).set undef 136).set p9 137).set p9 18) S3)) := by kernel_rfl
theorem reg6_36 {O : Known} {T : FT} {S : MS} {Q : FT → MS → Prop} : mOps Try.prog O 162 (ro 6 36).toList (ro 6 36).toList [] T S Q =
  (CallM Try.prog O 25 [(T.get 17)] S fun p1 S1 => CallM Try.prog O 24 [p1, (T.get 12)] S1 fun p3 S3 => ∃ b4, p3 = .bool b4 ∧
       (b4 = true → CallM Try.prog O 13 [(T.get 17)] S3 fun p6 S6 => CallM Try.prog O 26 [p6, (T.get 13)] S6 fun p8 S8 => ∃ p9, pickS p3 p8 (.bool false) = some p9 ∧ Q (((((((((((T.set (T.get 17) 138).set p1 139).set (T.get 12) 140).set p3 141).set p3 142).set (T.get 17) 143).set p6 144).set (T.get 13) 145).set p8 146).set p9 147).set p9 19) S8) ∧
       (b4 = false → ∃ p9, pickS p3 undef (.bool false) = some p9 ∧ Q (((((((((((T.set (T.get 17) 138).set p1 139).set (T.get 12) 140).set p3 141).set p3 142).set undef 143).set undef 144).set undef 145).set undef 146).set p9 147).set p9 19) S3)) := by kernel_rfl
theorem reg6_37 {O : Known} {T : FT} {S : MS} {Q : FT → MS → Prop} : mOps2 Try.prog O 162 (ro 6 37).toList (ro 6 37).toList 0 [] [] T S Q =
  (∃ p1, aunary .not (T.get 19) = some p1 ∧ ∃ b2, p1 = .bool b2 ∧
     (b2 = true → ∃ p4, aunary .not (T.get 18) = some p4 ∧ ∃ b5, p4 = .bool b5 ∧
        (b5 = true → ∃ p10, pickS p4 (.bool true) undef = some p10 ∧ ∃ p11, pickS p1 p10 (.bool false) = some p11 ∧ Q ((((((((((((T.set (T.get 19) 148).set p1 149).set p1 150).set (T.get 18) 151).set p4 152).set p4 153).set undef 154).set undef 155).set undef 156).set undef 157).set p10 158).set p11 159) S) ∧
        (b5 = false → CallM Try.prog O 22 [(T.get 5)] S fun p8 S8 => ∃ p9, abin Try.prog .eql 3 (.tmp 154) (.tmp 156) (T.get 14) p8 = some p9 ∧ ∃ p10, pickS p4 (.bool true) p9 = some p10 ∧ ∃ p11, pickS p1 p10 (.bool false) = some p11 ∧ Q ((((((((((((T.set (T.get 19) 148).set p1 149).set p1 150).set (T.get 18) 151).set p4 152).set p4 153).set (T.get 14) 154).set (T.get 5) 155).set p8 156).set p9 157).set p10 158).set p11 159) S8)) ∧
     (b2 = false → ∃ p11, pickS p1 undef (.bool false) = some p11 ∧ Q ((((((((((((T.set (T.get 19) 148).set p1 149).set p1 150).set undef 151).set undef 152).set undef 153).set undef 154).set undef 155).set undef 156).set undef 157).set undef 158).set p11 159) S)) := by kernel_rfl
theorem reg6_28 {O : Known} {T : FT} {S : MS} {Q : FT → MS → Prop} : mOps Try.prog O 162 (ro 6 28).toList (ro 6 28).toList [] T S Q =
  (∃ p1, abin Try.prog .add 3 (.tmp 107) (.const (.int .i64 1)) (T.get 14) (.int .i64 1) = some p1 ∧ Q (((T.set (T.get 14) 107).set p1 108).set p1 14) S) := by kernel_rfl
theorem reg6_39 {O : Known} {T : FT} {S : MS} {Q : FT → MS → Prop} : mOps Try.prog O 162 (ro 6 39).toList (ro 6 39).toList [] T S Q =
  (Q ((((T.set (T.get 12) 160).set (T.get 13) 161).set (T.get 12) 8).set (T.get 13) 9) S) := by kernel_rfl
theorem reg6_15 {O : Known} {T : FT} {S : MS} {Q : FT → MS → Prop} : mOps Try.prog O 162 (ro 6 15).toList (ro 6 15).toList [] T S Q =
  (∃ p1, abin Try.prog .add 3 (.tmp 55) (.const (.int .i64 1)) (T.get 10) (.int .i64 1) = some p1 ∧ Q (((T.set (T.get 10) 55).set p1 56).set p1 10) S) := by kernel_rfl
theorem reg6_40 {O : Known} {T : FT} {S : MS} {Q : FT → MS → Prop} : mOps Try.prog O 162 (ro 6 40).toList (ro 6 40).toList [] T S Q =
  (Q (T.set (.bool true) 4) S) := by kernel_rfl
end Go.Proofs.Ytmfmbadfgnhonaa

