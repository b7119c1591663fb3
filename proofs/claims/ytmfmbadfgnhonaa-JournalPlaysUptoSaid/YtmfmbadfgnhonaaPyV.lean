/-
  The walk through the journal's code: what its functions do to memory, part PyV. Nothing is asked.
-/
import Derived.Test.YtmfmbadfgnhonaaPyW
set_option linter.all false
namespace Go.Proofs.Ytmfmbadfgnhonaa
open Go Go.Ag
set_option linter.unusedVariables false
set_option maxRecDepth 100000
/-! ### 4: windlass/windlasslaw19.JournalPlays -/
noncomputable def blk4_2 : Code := .block 2 (.seq (.seq (.region 30 (ro 4 30) false) (.cond (.tmp 107) .skip (.seq (.region 31 (ro 4 31) false) (.cond (.tmp 107) .skip (.seq (.region 32 (ro 4 32) false) (.cond (.tmp 107) .skip (.seq (.region 33 (ro 4 33) false) (.cond (.tmp 107) .skip (.region 34 (ro 4 34) false))))))))) (.cond (.tmp 107) (.seq (.region 35 (ro 4 35) false) (.seq (.region 36 (ro 4 36) true) (.seq (.region 37 (ro 4 37) false) (.cond (.tmp 129) (.region 38 (ro 4 38) false) (.seq (.region 39 (ro 4 39) false) (.cond (.tmp 134) (.region 40 (ro 4 40) false) .skip)))))) (.seq (.region 41 (ro 4 41) false) (.cond (.tmp 135) (.seq (.region 42 (ro 4 42) false) (.seq (.region 43 (ro 4 43) false) (.seq (.region 44 (ro 4 44) false) (.cond (.tmp 147) (.region 45 (ro 4 45) false) .skip)))) (.seq (.region 26 (ro 4 26) false) (.seq (.region 27 (ro 4 27) false) (.seq (.region 28 (ro 4 28) false) (.cond (.tmp 106) (.seq (.region 29 (ro 4 29) false) .ret) .skip))))))))
noncomputable def blk4_1 : Code := .block 1 (.seq (.region 19 (ro 4 19) false) (.seq (.seq (.region 20 (ro 4 20) false) (.cond (.tmp 82) (.region 21 (ro 4 21) false) .skip)) (.seq (.region 22 (ro 4 22) false) (.seq (.region 23 (ro 4 23) false) (.seq (.region 24 (ro 4 24) false) (.seq (.seq (.region 25 (ro 4 25) false) blk4_2) (.seq (.region 46 (ro 4 46) false) (.seq (.region 47 (ro 4 47) false) (.seq (.seq (.region 48 (ro 4 48) false) (.cond (.tmp 162) (.seq (.region 49 (ro 4 49) false) .ret) .skip)) (.seq (.seq (.region 50 (ro 4 50) false) (.cond (.tmp 164) (.region 51 (ro 4 51) false) .skip)) (.seq (.seq (.region 52 (ro 4 52) false) (.cond (.tmp 177) (.seq (.region 53 (ro 4 53) false) .ret) .skip)) (.seq (.seq (.region 54 (ro 4 54) false) (.cond (.tmp 183) (.seq (.region 55 (ro 4 55) false) (.seq (.region 56 (ro 4 56) false) (.seq (.seq (.region 57 (ro 4 57) false) (.cond (.tmp 202) (.seq (.region 58 (ro 4 58) false) .ret) .skip)) (.seq (.region 59 (ro 4 59) false) (.cond (.tmp 210) (.region 60 (ro 4 60) false) .skip))))) .skip)) (.seq (.region 61 (ro 4 61) false) (.seq (.region 62 (ro 4 62) false) (.cond (.tmp 219) (.seq (.region 63 (ro 4 63) false) .ret) .skip)))))))))))))))
noncomputable def blk4_0 : Code := .block 0 (.loop (.seq (.seq (.region 17 (ro 4 17) false) (.cond (.tmp 73) .skip (.exit 0))) (.seq blk4_1 (.region 18 (ro 4 18) false))))
theorem body4 : (Try.prog.funcs[4]?).bind (·.body) = some (.seq (.region 0 (ro 4 0) false) (.seq (.seq (.region 1 (ro 4 1) false) (.cond (.tmp 21) (.seq (.region 2 (ro 4 2) false) .ret) .skip)) (.seq (.seq (.region 3 (ro 4 3) false) (.cond (.tmp 37) (.seq (.region 4 (ro 4 4) false) .ret) .skip)) (.seq (.region 5 (ro 4 5) false) (.seq (.seq (.region 6 (ro 4 6) false) (.cond (.tmp 51) (.seq (.region 7 (ro 4 7) false) .ret) .skip)) (.seq (.region 8 (ro 4 8) false) (.seq (.seq (.region 9 (ro 4 9) false) (.cond (.tmp 62) (.seq (.region 10 (ro 4 10) false) .ret) .skip)) (.seq (.region 11 (ro 4 11) false) (.seq (.seq (.region 12 (ro 4 12) false) (.cond (.tmp 68) (.seq (.region 13 (ro 4 13) false) .ret) .skip)) (.seq (.region 14 (ro 4 14) false) (.seq (.region 15 (ro 4 15) false) (.seq (.seq (.region 16 (ro 4 16) false) blk4_0) (.seq (.region 64 (ro 4 64) false) (.seq (.region 65 (ro 4 65) false) .ret)))))))))))))) := by kernel_rfl
theorem res4 : (Try.prog.funcs[4]?).map (·.results.toList) = some [.tmp 6] := by kernel_rfl
theorem is4 : fnIsB Try.prog 4 237 = true := by kernel_rfl
theorem reg4_0 {O : Known} {T : FT} {S : MS} {Q : FT → MS → Prop} : mOps Try.prog O 237 (ro 4 0).toList (ro 4 0).toList [] T S Q =
  (Q (T.set (.bool false) 6) S) := by kernel_rfl
theorem reg4_1 {O : Known} {T : FT} {S : MS} {Q : FT → MS → Prop} : mOps Try.prog O 237 (ro 4 1).toList (ro 4 1).toList [] T S Q =
  (CallM Try.prog O 7 [] S fun p0 S0 => ∃ p1, aunary .not p0 = some p1 ∧ Q ((T.set p0 20).set p1 21) S0) := by kernel_rfl
theorem reg4_3 {O : Known} {T : FT} {S : MS} {Q : FT → MS → Prop} : mOps Try.prog O 237 (ro 4 3).toList (ro 4 3).toList [] T S Q =
  (CallM Try.prog O 15 [(T.get 2)] S fun p1 S1 => ∃ p2, aunary .not p1 = some p2 ∧ ∃ b3, p2 = .bool b3 ∧
      (b3 = true → ∃ p7, pickS p2 (.bool true) undef = some p7 ∧ ∃ b8, p7 = .bool b8 ∧
           (b8 = true → ∃ p11, pickS p7 (.bool true) undef = some p11 ∧ ∃ b12, p11 = .bool b12 ∧
               (b12 = true → ∃ p15, pickS p11 (.bool true) undef = some p15 ∧ Q ((((((((((((((((T.set (T.get 2) 22).set p1 23).set p2 24).set p2 25).set undef 26).set undef 27).set undef 28).set p7 29).set p7 30).set undef 31).set undef 32).set p11 33).set p11 34).set undef 35).set undef 36).set p15 37) S1) ∧
               (b12 = false → ∃ p14, abin Try.prog .gtr 3 (.tmp 35) (.const (.int .i64 200)) (T.get 0) (.int .i64 200) = some p14 ∧ ∃ p15, pickS p11 (.bool true) p14 = some p15 ∧ Q ((((((((((((((((T.set (T.get 2) 22).set p1 23).set p2 24).set p2 25).set undef 26).set undef 27).set undef 28).set p7 29).set p7 30).set undef 31).set undef 32).set p11 33).set p11 34).set (T.get 0) 35).set p14 36).set p15 37) S1)) ∧
           (b8 = false → ∃ p10, abin Try.prog .lss 3 (.tmp 31) (.const (.int .i64 64)) (T.get 0) (.int .i64 64) = some p10 ∧ ∃ p11, pickS p7 (.bool true) p10 = some p11 ∧ ∃ b12, p11 = .bool b12 ∧
               (b12 = true → ∃ p15, pickS p11 (.bool true) undef = some p15 ∧ Q ((((((((((((((((T.set (T.get 2) 22).set p1 23).set p2 24).set p2 25).set undef 26).set undef 27).set undef 28).set p7 29).set p7 30).set (T.get 0) 31).set p10 32).set p11 33).set p11 34).set undef 35).set undef 36).set p15 37) S1) ∧
               (b12 = false → ∃ p14, abin Try.prog .gtr 3 (.tmp 35) (.const (.int .i64 200)) (T.get 0) (.int .i64 200) = some p14 ∧ ∃ p15, pickS p11 (.bool true) p14 = some p15 ∧ Q ((((((((((((((((T.set (T.get 2) 22).set p1 23).set p2 24).set p2 25).set undef 26).set undef 27).set undef 28).set p7 29).set p7 30).set (T.get 0) 31).set p10 32).set p11 33).set p11 34).set (T.get 0) 35).set p14 36).set p15 37) S1))) ∧
      (b3 = false → ∃ p5, lenSl (T.get 1) = some p5 ∧ ∃ p6, abin Try.prog .gtr 3 (.tmp 27) (.const (.int .i64 1000)) p5 (.int .i64 1000) = some p6 ∧ ∃ p7, pickS p2 (.bool true) p6 = some p7 ∧ ∃ b8, p7 = .bool b8 ∧
           (b8 = true → ∃ p11, pickS p7 (.bool true) undef = some p11 ∧ ∃ b12, p11 = .bool b12 ∧
               (b12 = true → ∃ p15, pickS p11 (.bool true) undef = some p15 ∧ Q ((((((((((((((((T.set (T.get 2) 22).set p1 23).set p2 24).set p2 25).set (T.get 1) 26).set p5 27).set p6 28).set p7 29).set p7 30).set undef 31).set undef 32).set p11 33).set p11 34).set undef 35).set undef 36).set p15 37) S1) ∧
               (b12 = false → ∃ p14, abin Try.prog .gtr 3 (.tmp 35) (.const (.int .i64 200)) (T.get 0) (.int .i64 200) = some p14 ∧ ∃ p15, pickS p11 (.bool true) p14 = some p15 ∧ Q ((((((((((((((((T.set (T.get 2) 22).set p1 23).set p2 24).set p2 25).set (T.get 1) 26).set p5 27).set p6 28).set p7 29).set p7 30).set undef 31).set undef 32).set p11 33).set p11 34).set (T.get 0) 35).set p14 36).set p15 37) S1)) ∧
           (b8 = false → ∃ p10, abin Try.prog .lss 3 (.tmp 31) (.const (.int .i64 64)) (T.get 0) (.int .i64 64) = some p10 ∧ ∃ p11, pickS p7 (.bool true) p10 = some p11 ∧ ∃ b12, p11 = .bool b12 ∧
               (b12 = true → ∃ p15, pickS p11 (.bool true) undef = some p15 ∧ Q ((((((((((((((((T.set (T.get 2) 22).set p1 23).set p2 24).set p2 25).set (T.get 1) 26).set p5 27).set p6 28).set p7 29).set p7 30).set (T.get 0) 31).set p10 32).set p11 33).set p11 34).set undef 35).set undef 36).set p15 37) S1) ∧
               (b12 = false → ∃ p14, abin Try.prog .gtr 3 (.tmp 35) (.const (.int .i64 200)) (T.get 0) (.int .i64 200) = some p14 ∧ ∃ p15, pickS p11 (.bool true) p14 = some p15 ∧ Q ((((((((((((((((T.set (T.get 2) 22).set p1 23).set p2 24).set p2 25).set (T.get 1) 26).set p5 27).set p6 28).set p7 29).set p7 30).set (T.get 0) 31).set p10 32).set p11 33).set p11 34).set (T.get 0) 35).set p14 36).set p15 37) S1)))) := by kernel_rfl
theorem reg4_4 {O : Known} {T : FT} {S : MS} {Q : FT → MS → Prop} : mOps Try.prog O 237 (ro 4 4).toList (ro 4 4).toList [] T S Q =
  (Q (T.set (.bool true) 6) S) := by kernel_rfl
theorem reg4_5 {O : Known} {T : FT} {S : MS} {Q : FT → MS → Prop} : mOps Try.prog O 237 (ro 4 5).toList (ro 4 5).toList [] T S Q =
  (CallM Try.prog O 8 [(T.get 0)] S fun p1 S1 => ∃ p3, aextract p1 0 = some p3 ∧ ∃ p4, aextract p1 1 = some p4 ∧ Q (((((((T.set (T.get 0) 39).set p1 40).set p1 38).set p3 41).set p4 42).set p3 7).set p4 8) S1) := by kernel_rfl
theorem reg4_6 {O : Known} {T : FT} {S : MS} {Q : FT → MS → Prop} : mOps Try.prog O 237 (ro 4 6).toList (ro 4 6).toList [] T S Q =
  (∃ p1, abin Try.prog .neq 24 (.tmp 43) (.const (.int .i64 0)) (T.get 8) (.int .i64 0) = some p1 ∧ ∃ b2, p1 = .bool b2 ∧
     (b2 = true → ∃ p8, pickS p1 (.bool true) undef = some p8 ∧ Q (((((((((T.set (T.get 8) 43).set p1 44).set p1 45).set undef 46).set undef 47).set undef 48).set undef 49).set undef 50).set p8 51) S) ∧
     (b2 = false → ∃ p5 S5, apS false 1 1 [.int .u8 0] S [(.slice none 0 0), (T.get 1)] = some (p5, S5) ∧ CallM Try.prog O 9 [(T.get 7), p5] S5 fun p6 S6 => ∃ p7, abin Try.prog .neq 24 (.tmp 49) (.const (.int .i64 0)) p6 (.int .i64 0) = some p7 ∧ ∃ p8, pickS p1 (.bool true) p7 = some p8 ∧ Q (((((((((T.set (T.get 8) 43).set p1 44).set p1 45).set (T.get 7) 46).set (T.get 1) 47).set p5 48).set p6 49).set p7 50).set p8 51) S6)) := by kernel_rfl
theorem reg4_8 {O : Known} {T : FT} {S : MS} {Q : FT → MS → Prop} : mOps Try.prog O 237 (ro 4 8).toList (ro 4 8).toList [] T S Q =
  (CallM Try.prog O 10 [(T.get 7)] S fun p1 S1 => ∃ p3, aextract p1 0 = some p3 ∧ ∃ p4, aextract p1 1 = some p4 ∧ Q (((((((T.set (T.get 7) 53).set p1 54).set p1 52).set p3 55).set p4 56).set p3 9).set p4 8) S1) := by kernel_rfl
theorem reg4_9 {O : Known} {T : FT} {S : MS} {Q : FT → MS → Prop} : mOps Try.prog O 237 (ro 4 9).toList (ro 4 9).toList [] T S Q =
  (∃ p1, abin Try.prog .neq 24 (.tmp 57) (.const (.int .i64 0)) (T.get 8) (.int .i64 0) = some p1 ∧ ∃ b2, p1 = .bool b2 ∧
     (b2 = true → ∃ p5, pickS p1 (.bool true) undef = some p5 ∧ Q ((((((T.set (T.get 8) 57).set p1 58).set p1 59).set undef 60).set undef 61).set p5 62) S) ∧
     (b2 = false → ∃ p4, abin Try.prog .eql 28 (.tmp 60) (.const (.pointer none)) (T.get 9) (.pointer none) = some p4 ∧ ∃ p5, pickS p1 (.bool true) p4 = some p5 ∧ Q ((((((T.set (T.get 8) 57).set p1 58).set p1 59).set (T.get 9) 60).set p4 61).set p5 62) S)) := by kernel_rfl
theorem reg4_11 {O : Known} {T : FT} {S : MS} {Q : FT → MS → Prop} : mOps Try.prog O 237 (ro 4 11).toList (ro 4 11).toList [] T S Q =
  (CallM Try.prog O 14 [(T.get 9)] S fun p1 S1 => Q (((T.set (T.get 9) 63).set p1 64).set p1 10) S1) := by kernel_rfl
theorem reg4_12 {O : Known} {T : FT} {S : MS} {Q : FT → MS → Prop} : mOps Try.prog O 237 (ro 4 12).toList (ro 4 12).toList [] T S Q =
  (∃ p2, abin Try.prog .mul 3 (.const (.int .i64 32)) (.tmp 66) (.int .i64 32) (T.get 0) = some p2 ∧ ∃ p3, abin Try.prog .lss 3 (.tmp 65) (.tmp 67) (T.get 10) p2 = some p3 ∧ Q ((((T.set (T.get 10) 65).set (T.get 0) 66).set p2 67).set p3 68) S) := by kernel_rfl
theorem reg4_14 {O : Known} {T : FT} {S : MS} {Q : FT → MS → Prop} : mOps Try.prog O 237 (ro 4 14).toList (ro 4 14).toList [] T S Q =
  (Q ((T.set (T.get 1) 69).set (T.get 1) 11) S) := by kernel_rfl
theorem reg4_15 {O : Known} {T : FT} {S : MS} {Q : FT → MS → Prop} : mOps Try.prog O 237 (ro 4 15).toList (ro 4 15).toList [] T S Q =
  (Q (T.set (.slice none 0 0) 12) S) := by kernel_rfl
theorem reg4_16 {O : Known} {T : FT} {S : MS} {Q : FT → MS → Prop} : mOps Try.prog O 237 (ro 4 16).toList (ro 4 16).toList [] T S Q =
  (Q (T.set (.int .i64 0) 13) S) := by kernel_rfl
theorem reg4_17 {O : Known} {T : FT} {S : MS} {Q : FT → MS → Prop} : mOps Try.prog O 237 (ro 4 17).toList (ro 4 17).toList [] T S Q =
  (∃ p2, lenSl (T.get 2) = some p2 ∧ ∃ p3, abin Try.prog .lss 3 (.tmp 70) (.tmp 72) (T.get 13) p2 = some p3 ∧ Q ((((T.set (T.get 13) 70).set (T.get 2) 71).set p2 72).set p3 73) S) := by kernel_rfl
theorem reg4_19 {O : Known} {T : FT} {S : MS} {Q : FT → MS → Prop} : mOps Try.prog O 237 (ro 4 19).toList (ro 4 19).toList [] T S Q =
  (∃ p2, iaSS 3 (T.get 2) (T.get 13) = some p2 ∧ ∃ p3, ldS (some 3) S p2 = some p3 ∧ ∃ S5, stS 3 (S.fresh [.int .i64 0, .int .i64 0, .slice none 0 0] 0) (ptrTo S.n) p3 = some S5 ∧ Q (((((T.set (T.get 2) 76).set (T.get 13) 77).set p2 78).set p3 79).set (ptrTo S.n) 14) S5) := by kernel_rfl
theorem reg4_20 {O : Known} {T : FT} {S : MS} {Q : FT → MS → Prop} : mOps Try.prog O 237 (ro 4 20).toList (ro 4 20).toList [] T S Q =
  (∃ p0, faS 1 (T.get 14) = some p0 ∧ ∃ p1, ldS none S p0 = some p1 ∧ ∃ p2, abin Try.prog .geq 3 (.tmp 81) (.const (.int .i64 0)) p1 (.int .i64 0) = some p2 ∧ Q (((T.set p0 80).set p1 81).set p2 82) S) := by kernel_rfl
theorem reg4_21 {O : Known} {T : FT} {S : MS} {Q : FT → MS → Prop} : mOps Try.prog O 237 (ro 4 21).toList (ro 4 21).toList [] T S Q =
  (∃ p1, faS 1 (T.get 14) = some p1 ∧ ∃ p2, ldS none S p1 = some p2 ∧ CallM Try.prog O 16 [(T.get 7), p2] S fun p3 S3 => Q ((((T.set (T.get 7) 83).set p1 84).set p2 85).set p3 86) S3) := by kernel_rfl
theorem reg4_22 {O : Known} {T : FT} {S : MS} {Q : FT → MS → Prop} : mOps Try.prog O 237 (ro 4 22).toList (ro 4 22).toList [] T S Q =
  (∃ p0, faS 2 (T.get 14) = some p0 ∧ ∃ p1, ldS none S p0 = some p1 ∧ ∃ p2 S2, apS false 1 1 [.int .u8 0] S [(.slice none 0 0), p1] = some (p2, S2) ∧ Q ((((T.set p0 87).set p1 88).set p2 89).set p2 15) S2) := by kernel_rfl
theorem reg4_23 {O : Known} {T : FT} {S : MS} {Q : FT → MS → Prop} : mOps Try.prog O 237 (ro 4 23).toList (ro 4 23).toList [] T S Q =
  (Q ((((T.set (T.get 11) 90).set (T.get 12) 91).set (T.get 11) 16).set (T.get 12) 17) S) := by kernel_rfl
theorem reg4_24 {O : Known} {T : FT} {S : MS} {Q : FT → MS → Prop} : mOps Try.prog O 237 (ro 4 24).toList (ro 4 24).toList [] T S Q =
  (Q (T.set (.int .i64 0) 18) S) := by kernel_rfl
theorem reg4_25 {O : Known} {T : FT} {S : MS} {Q : FT → MS → Prop} : mOps Try.prog O 237 (ro 4 25).toList (ro 4 25).toList [] T S Q =
  (∃ p0, faS 0 (T.get 14) = some p0 ∧ ∃ p1, ldS none S p0 = some p1 ∧ Q ((T.set p0 92).set p1 93) S) := by kernel_rfl
theorem reg4_30 {O : Known} {T : FT} {S : MS} {Q : FT → MS → Prop} : mOps Try.prog O 237 (ro 4 30).toList (ro 4 30).toList [] T S Q =
  (∃ p0, abin Try.prog .eql 3 (.tmp 93) (.const (.int .i64 0)) (T.get 93) (.int .i64 0) = some p0 ∧ Q ((T.set p0 108).set p0 107) S) := by kernel_rfl
theorem reg4_31 {O : Known} {T : FT} {S : MS} {Q : FT → MS → Prop} : mOps Try.prog O 237 (ro 4 31).toList (ro 4 31).toList [] T S Q =
  (∃ p0, abin Try.prog .eql 3 (.tmp 93) (.const (.int .i64 1)) (T.get 93) (.int .i64 1) = some p0 ∧ Q ((T.set p0 109).set p0 107) S) := by kernel_rfl
theorem reg4_32 {O : Known} {T : FT} {S : MS} {Q : FT → MS → Prop} : mOps Try.prog O 237 (ro 4 32).toList (ro 4 32).toList [] T S Q =
  (∃ p0, abin Try.prog .eql 3 (.tmp 93) (.const (.int .i64 2)) (T.get 93) (.int .i64 2) = some p0 ∧ Q ((T.set p0 110).set p0 107) S) := by kernel_rfl
theorem reg4_33 {O : Known} {T : FT} {S : MS} {Q : FT → MS → Prop} : mOps Try.prog O 237 (ro 4 33).toList (ro 4 33).toList [] T S Q =
  (∃ p0, abin Try.prog .eql 3 (.tmp 93) (.const (.int .i64 3)) (T.get 93) (.int .i64 3) = some p0 ∧ Q ((T.set p0 111).set p0 107) S) := by kernel_rfl
theorem reg4_34 {O : Known} {T : FT} {S : MS} {Q : FT → MS → Prop} : mOps Try.prog O 237 (ro 4 34).toList (ro 4 34).toList [] T S Q =
  (∃ p0, abin Try.prog .eql 3 (.tmp 93) (.const (.int .i64 4)) (T.get 93) (.int .i64 4) = some p0 ∧ Q ((T.set p0 112).set p0 107) S) := by kernel_rfl
theorem reg4_35 {O : Known} {T : FT} {S : MS} {Q : FT → MS → Prop} : mOps Try.prog O 237 (ro 4 35).toList (ro 4 35).toList [] T S Q =
  (CallM Try.prog O 11 [(T.get 9), (T.get 15)] S fun p2 S2 => Q ((((T.set (T.get 9) 113).set (T.get 15) 114).set p2 115).set p2 8) S2) := by kernel_rfl
theorem reg4_36 {O : Known} {T : FT} {S : MS} {Q : FT → MS → Prop} : mDraw Try.prog O 237 (ro 4 36).toList T S Q =
  (∃ p2, lenSl (T.get 12) = some p2 ∧ ∃ p4, lenSl (T.get 12) = some p4 ∧ ∃ p5, slS 1 S (T.get 12) none (some p2) (some p4) = some p5 ∧ ∃ p6, faS 2 (T.get 14) = some p6 ∧ ∃ p7, ldS none S p6 = some p7 ∧ ∃ p8 S8, bsS S 1 1 [.slice none 0 0] [(0, p7)] = some (p8, S8) ∧ ∃ p9 S9, apS false 1 24 [.slice none 0 0] S8 [p5, p8] = some (p9, S9) ∧ Q (((((((((((T.set (T.get 12) 116).set (T.get 12) 117).set p2 118).set (T.get 12) 119).set p4 120).set p5 121).set p6 122).set p7 123).set p8 124).set p9 125).set p9 17) S9) := by kernel_rfl
theorem reg4_37 {O : Known} {T : FT} {S : MS} {Q : FT → MS → Prop} : mOps Try.prog O 237 (ro 4 37).toList (ro 4 37).toList [] T S Q =
  (∃ p0, faS 2 (T.get 14) = some p0 ∧ ∃ p1, ldS none S p0 = some p1 ∧ ∃ p2, lenSl p1 = some p2 ∧ ∃ p3, abin Try.prog .gtr 3 (.tmp 128) (.const (.int .i64 65536)) p2 (.int .i64 65536) = some p3 ∧ Q ((((T.set p0 126).set p1 127).set p2 128).set p3 129) S) := by kernel_rfl
theorem reg4_38 {O : Known} {T : FT} {S : MS} {Q : FT → MS → Prop} : mOps Try.prog O 237 (ro 4 38).toList (ro 4 38).toList [] T S Q =
  (Q (T.set (.int .i64 193) 18) S) := by kernel_rfl
theorem reg4_39 {O : Known} {T : FT} {S : MS} {Q : FT → MS → Prop} : mOps Try.prog O 237 (ro 4 39).toList (ro 4 39).toList [] T S Q =
  (CallM Try.prog O 17 [(T.get 11), (T.get 17)] S fun p2 S2 => ∃ p4, abin Try.prog .gtr 3 (.tmp 132) (.tmp 133) p2 (T.get 10) = some p4 ∧ Q (((((T.set (T.get 11) 130).set (T.get 17) 131).set p2 132).set (T.get 10) 133).set p4 134) S2) := by kernel_rfl
theorem reg4_40 {O : Known} {T : FT} {S : MS} {Q : FT → MS → Prop} : mOps Try.prog O 237 (ro 4 40).toList (ro 4 40).toList [] T S Q =
  (Q (T.set (.int .i64 192) 18) S) := by kernel_rfl
theorem reg4_41 {O : Known} {T : FT} {S : MS} {Q : FT → MS → Prop} : mOps Try.prog O 237 (ro 4 41).toList (ro 4 41).toList [] T S Q =
  (∃ p0, abin Try.prog .eql 3 (.tmp 93) (.const (.int .i64 5)) (T.get 93) (.int .i64 5) = some p0 ∧ Q ((T.set p0 136).set p0 135) S) := by kernel_rfl
theorem reg4_42 {O : Known} {T : FT} {S : MS} {Q : FT → MS → Prop} : mOps Try.prog O 237 (ro 4 42).toList (ro 4 42).toList [] T S Q =
  (CallM Try.prog O 12 [(T.get 9), (T.get 15)] S fun p2 S2 => Q ((((T.set (T.get 9) 137).set (T.get 15) 138).set p2 139).set p2 8) S2) := by kernel_rfl
theorem reg4_43 {O : Known} {T : FT} {S : MS} {Q : FT → MS → Prop} : mOps Try.prog O 237 (ro 4 43).toList (ro 4 43).toList [] T S Q =
  (∃ p0, faS 2 (T.get 14) = some p0 ∧ ∃ p1, ldS none S p0 = some p1 ∧ Q ((((T.set p0 140).set p1 141).set p1 16).set (.slice none 0 0) 17) S) := by kernel_rfl
theorem reg4_44 {O : Known} {T : FT} {S : MS} {Q : FT → MS → Prop} : mOps Try.prog O 237 (ro 4 44).toList (ro 4 44).toList [] T S Q =
  (∃ p0, faS 2 (T.get 14) = some p0 ∧ ∃ p1, ldS none S p0 = some p1 ∧ ∃ p2, lenSl p1 = some p2 ∧ ∃ p3, abin Try.prog .add 3 (.tmp 144) (.const (.int .i64 8)) p2 (.int .i64 8) = some p3 ∧ ∃ p5, abin Try.prog .gtr 3 (.tmp 145) (.tmp 146) p3 (T.get 10) = some p5 ∧ Q ((((((T.set p0 142).set p1 143).set p2 144).set p3 145).set (T.get 10) 146).set p5 147) S) := by kernel_rfl
theorem reg4_45 {O : Known} {T : FT} {S : MS} {Q : FT → MS → Prop} : mOps Try.prog O 237 (ro 4 45).toList (ro 4 45).toList [] T S Q =
  (Q (T.set (.int .i64 192) 18) S) := by kernel_rfl
theorem reg4_26 {O : Known} {T : FT} {S : MS} {Q : FT → MS → Prop} : mOps Try.prog O 237 (ro 4 26).toList (ro 4 26).toList [] T S Q =
  (CallM Try.prog O 18 [(T.get 7)] S fun p1 S1 => Q ((T.set (T.get 7) 94).set p1 95) S1) := by kernel_rfl
theorem reg4_27 {O : Known} {T : FT} {S : MS} {Q : FT → MS → Prop} : mOps Try.prog O 237 (ro 4 27).toList (ro 4 27).toList [] T S Q =
  (CallM Try.prog O 10 [(T.get 7)] S fun p1 S1 => ∃ p3, aextract p1 0 = some p3 ∧ ∃ p4, aextract p1 1 = some p4 ∧ Q (((((((T.set (T.get 7) 97).set p1 98).set p1 96).set p3 99).set p4 100).set p3 9).set p4 8) S1) := by kernel_rfl
theorem reg4_28 {O : Known} {T : FT} {S : MS} {Q : FT → MS → Prop} : mOps Try.prog O 237 (ro 4 28).toList (ro 4 28).toList [] T S Q =
  (∃ p1, abin Try.prog .neq 24 (.tmp 101) (.const (.int .i64 0)) (T.get 8) (.int .i64 0) = some p1 ∧ ∃ b2, p1 = .bool b2 ∧
     (b2 = true → ∃ p5, pickS p1 (.bool true) undef = some p5 ∧ Q ((((((T.set (T.get 8) 101).set p1 102).set p1 103).set undef 104).set undef 105).set p5 106) S) ∧
     (b2 = false → ∃ p4, abin Try.prog .eql 28 (.tmp 104) (.const (.pointer none)) (T.get 9) (.pointer none) = some p4 ∧ ∃ p5, pickS p1 (.bool true) p4 = some p5 ∧ Q ((((((T.set (T.get 8) 101).set p1 102).set p1 103).set (T.get 9) 104).set p4 105).set p5 106) S)) := by kernel_rfl
theorem reg4_46 {O : Known} {T : FT} {S : MS} {Q : FT → MS → Prop} : mOps Try.prog O 237 (ro 4 46).toList (ro 4 46).toList [] T S Q =
  (CallM Try.prog O 19 [(T.get 15)] S fun p1 S1 => Q ((T.set (T.get 15) 148).set p1 149) S1) := by kernel_rfl
theorem reg4_47 {O : Known} {T : FT} {S : MS} {Q : FT → MS → Prop} : mOps Try.prog O 237 (ro 4 47).toList (ro 4 47).toList [] T S Q =
  (∃ p1, abin Try.prog .eql 24 (.tmp 150) (.const (.int .i64 0)) (T.get 18) (.int .i64 0) = some p1 ∧ ∃ b2, p1 = .bool b2 ∧
     (b2 = true → ∃ p4, abin Try.prog .eql 24 (.tmp 153) (.const (.int .i64 12)) (T.get 8) (.int .i64 12) = some p4 ∧ ∃ p5, pickS p1 p4 (.bool false) = some p5 ∧ Q (((((((T.set (T.get 18) 150).set p1 151).set p1 152).set (T.get 8) 153).set p4 154).set p5 155).set p5 19) S) ∧
     (b2 = false → ∃ p5, pickS p1 undef (.bool false) = some p5 ∧ Q (((((((T.set (T.get 18) 150).set p1 151).set p1 152).set undef 153).set undef 154).set p5 155).set p5 19) S)) := by kernel_rfl
theorem reg4_48 {O : Known} {T : FT} {S : MS} {Q : FT → MS → Prop} : mOps Try.prog O 237 (ro 4 48).toList (ro 4 48).toList [] T S Q =
  (∃ p2, abin Try.prog .neq 24 (.tmp 156) (.tmp 157) (T.get 8) (T.get 18) = some p2 ∧ ∃ b3, p2 = .bool b3 ∧
      (b3 = true → ∃ p5, aunary .not (T.get 19) = some p5 ∧ ∃ p6, pickS p2 p5 (.bool false) = some p6 ∧ Q (((((((T.set (T.get 8) 156).set (T.get 18) 157).set p2 158).set p2 159).set (T.get 19) 160).set p5 161).set p6 162) S) ∧
      (b3 = false → ∃ p6, pickS p2 undef (.bool false) = some p6 ∧ Q (((((((T.set (T.get 8) 156).set (T.get 18) 157).set p2 158).set p2 159).set undef 160).set undef 161).set p6 162) S)) := by kernel_rfl
theorem reg4_50 {O : Known} {T : FT} {S : MS} {Q : FT → MS → Prop} : mOps Try.prog O 237 (ro 4 50).toList (ro 4 50).toList [] T S Q =
  (∃ p1, abin Try.prog .eql 24 (.tmp 163) (.const (.int .i64 0)) (T.get 8) (.int .i64 0) = some p1 ∧ Q ((T.set (T.get 8) 163).set p1 164) S) := by kernel_rfl
theorem reg4_51 {O : Known} {T : FT} {S : MS} {Q : FT → MS → Prop} : mOps Try.prog O 237 (ro 4 51).toList (ro 4 51).toList [] T S Q =
  (Q ((((T.set (T.get 16) 165).set (T.get 17) 166).set (T.get 16) 11).set (T.get 17) 12) S) := by kernel_rfl
theorem reg4_52 {O : Known} {T : FT} {S : MS} {Q : FT → MS → Prop} : mOps2 Try.prog O 237 (ro 4 52).toList (ro 4 52).toList 0 [] [] T S Q =
  (∃ b1, (T.get 19) = .bool b1 ∧
    (b1 = true → CallM Try.prog O 11 [(T.get 9), (.slice none 0 0)] S fun p3 S3 => ∃ p4, abin Try.prog .eql 24 (.tmp 170) (.const (.int .i64 0)) p3 (.int .i64 0) = some p4 ∧ ∃ b5, p4 = .bool b5 ∧
        (b5 = true → ∃ p9, pickS p4 (.bool true) undef = some p9 ∧ ∃ p10, pickS (T.get 19) p9 (.bool false) = some p10 ∧ Q (((((((((((T.set (T.get 19) 167).set (T.get 19) 168).set (T.get 9) 169).set p3 170).set p4 171).set p4 172).set undef 173).set undef 174).set undef 175).set p9 176).set p10 177) S3) ∧
        (b5 = false → CallM Try.prog O 12 [(T.get 9), (.slice none 0 0)] S3 fun p7 S7 => ∃ p8, abin Try.prog .eql 24 (.tmp 174) (.const (.int .i64 0)) p7 (.int .i64 0) = some p8 ∧ ∃ p9, pickS p4 (.bool true) p8 = some p9 ∧ ∃ p10, pickS (T.get 19) p9 (.bool false) = some p10 ∧ Q (((((((((((T.set (T.get 19) 167).set (T.get 19) 168).set (T.get 9) 169).set p3 170).set p4 171).set p4 172).set (T.get 9) 173).set p7 174).set p8 175).set p9 176).set p10 177) S7)) ∧
    (b1 = false → ∃ p10, pickS (T.get 19) undef (.bool false) = some p10 ∧ Q (((((((((((T.set (T.get 19) 167).set (T.get 19) 168).set undef 169).set undef 170).set undef 171).set undef 172).set undef 173).set undef 174).set undef 175).set undef 176).set p10 177) S)) := by kernel_rfl
theorem reg4_54 {O : Known} {T : FT} {S : MS} {Q : FT → MS → Prop} : mOps Try.prog O 237 (ro 4 54).toList (ro 4 54).toList [] T S Q =
  (∃ b1, (T.get 19) = .bool b1 ∧
    (b1 = true → ∃ p5, pickS (T.get 19) (.bool true) undef = some p5 ∧ Q ((((((T.set (T.get 19) 178).set (T.get 19) 179).set undef 180).set undef 181).set undef 182).set p5 183) S) ∧
    (b1 = false → ∃ p2, faS 1 (T.get 14) = some p2 ∧ ∃ p3, ldS none S p2 = some p3 ∧ ∃ p4, abin Try.prog .eql 3 (.tmp 181) (.const (.int .i64 0)) p3 (.int .i64 0) = some p4 ∧ ∃ p5, pickS (T.get 19) (.bool true) p4 = some p5 ∧ Q ((((((T.set (T.get 19) 178).set (T.get 19) 179).set p2 180).set p3 181).set p4 182).set p5 183) S)) := by kernel_rfl
theorem reg4_55 {O : Known} {T : FT} {S : MS} {Q : FT → MS → Prop} : mOps Try.prog O 237 (ro 4 55).toList (ro 4 55).toList [] T S Q =
  (CallM Try.prog O 18 [(T.get 7)] S fun p1 S1 => Q ((T.set (T.get 7) 184).set p1 185) S1) := by kernel_rfl
theorem reg4_56 {O : Known} {T : FT} {S : MS} {Q : FT → MS → Prop} : mOps Try.prog O 237 (ro 4 56).toList (ro 4 56).toList [] T S Q =
  (CallM Try.prog O 10 [(T.get 7)] S fun p1 S1 => ∃ p3, aextract p1 0 = some p3 ∧ ∃ p4, aextract p1 1 = some p4 ∧ Q (((((((T.set (T.get 7) 187).set p1 188).set p1 186).set p3 189).set p4 190).set p3 9).set p4 8) S1) := by kernel_rfl
theorem reg4_57 {O : Known} {T : FT} {S : MS} {Q : FT → MS → Prop} : mOps Try.prog O 237 (ro 4 57).toList (ro 4 57).toList [] T S Q =
  (∃ p1, abin Try.prog .neq 24 (.tmp 191) (.const (.int .i64 0)) (T.get 8) (.int .i64 0) = some p1 ∧ ∃ b2, p1 = .bool b2 ∧
     (b2 = true → ∃ p5, pickS p1 (.bool true) undef = some p5 ∧ ∃ b6, p5 = .bool b6 ∧
         (b6 = true → ∃ p11, pickS p5 (.bool true) undef = some p11 ∧ Q ((((((((((((T.set (T.get 8) 191).set p1 192).set p1 193).set undef 194).set undef 195).set p5 196).set p5 197).set undef 198).set undef 199).set undef 200).set undef 201).set p11 202) S) ∧
         (b6 = false → CallM Try.prog O 14 [(T.get 9)] S fun p8 S8 => ∃ p10, abin Try.prog .neq 3 (.tmp 199) (.tmp 200) p8 (T.get 10) = some p10 ∧ ∃ p11, pickS p5 (.bool true) p10 = some p11 ∧ Q ((((((((((((T.set (T.get 8) 191).set p1 192).set p1 193).set undef 194).set undef 195).set p5 196).set p5 197).set (T.get 9) 198).set p8 199).set (T.get 10) 200).set p10 201).set p11 202) S8)) ∧
     (b2 = false → ∃ p4, abin Try.prog .eql 28 (.tmp 194) (.const (.pointer none)) (T.get 9) (.pointer none) = some p4 ∧ ∃ p5, pickS p1 (.bool true) p4 = some p5 ∧ ∃ b6, p5 = .bool b6 ∧
         (b6 = true → ∃ p11, pickS p5 (.bool true) undef = some p11 ∧ Q ((((((((((((T.set (T.get 8) 191).set p1 192).set p1 193).set (T.get 9) 194).set p4 195).set p5 196).set p5 197).set undef 198).set undef 199).set undef 200).set undef 201).set p11 202) S) ∧
         (b6 = false → CallM Try.prog O 14 [(T.get 9)] S fun p8 S8 => ∃ p10, abin Try.prog .neq 3 (.tmp 199) (.tmp 200) p8 (T.get 10) = some p10 ∧ ∃ p11, pickS p5 (.bool true) p10 = some p11 ∧ Q ((((((((((((T.set (T.get 8) 191).set p1 192).set p1 193).set (T.get 9) 194).set p4 195).set p5 196).set p5 197).set (T.get 9) 198).set p8 199).set (T.get 10) 200).set p10 201).set p11 202) S8))) := by kernel_rfl
theorem reg4_59 {O : Known} {T : FT} {S : MS} {Q : FT → MS → Prop} : mOps Try.prog O 237 (ro 4 59).toList (ro 4 59).toList [] T S Q =
  (∃ b1, (T.get 19) = .bool b1 ∧
    (b1 = true → CallM Try.prog O 20 [(T.get 9), (T.get 11), (T.get 12)] S fun p5 S5 => ∃ p6, aunary .not p5 = some p6 ∧ ∃ p7, pickS (T.get 19) p6 (.bool false) = some p7 ∧ Q ((((((((T.set (T.get 19) 203).set (T.get 19) 204).set (T.get 9) 205).set (T.get 11) 206).set (T.get 12) 207).set p5 208).set p6 209).set p7 210) S5) ∧
    (b1 = false → ∃ p7, pickS (T.get 19) undef (.bool false) = some p7 ∧ Q ((((((((T.set (T.get 19) 203).set (T.get 19) 204).set undef 205).set undef 206).set undef 207).set undef 208).set undef 209).set p7 210) S)) := by kernel_rfl
theorem reg4_61 {O : Known} {T : FT} {S : MS} {Q : FT → MS → Prop} : mOps Try.prog O 237 (ro 4 61).toList (ro 4 61).toList [] T S Q =
  (CallM Try.prog O 18 [(T.get 7)] S fun p1 S1 => Q ((T.set (T.get 7) 213).set p1 214) S1) := by kernel_rfl
theorem reg4_62 {O : Known} {T : FT} {S : MS} {Q : FT → MS → Prop} : mOps Try.prog O 237 (ro 4 62).toList (ro 4 62).toList [] T S Q =
  (CallM Try.prog O 20 [(T.get 9), (T.get 11), (T.get 12)] S fun p3 S3 => ∃ p4, aunary .not p3 = some p4 ∧ Q (((((T.set (T.get 9) 215).set (T.get 11) 216).set (T.get 12) 217).set p3 218).set p4 219) S3) := by kernel_rfl
theorem reg4_18 {O : Known} {T : FT} {S : MS} {Q : FT → MS → Prop} : mOps Try.prog O 237 (ro 4 18).toList (ro 4 18).toList [] T S Q =
  (∃ p1, abin Try.prog .add 3 (.tmp 74) (.const (.int .i64 1)) (T.get 13) (.int .i64 1) = some p1 ∧ Q (((T.set (T.get 13) 74).set p1 75).set p1 13) S) := by kernel_rfl
theorem reg4_64 {O : Known} {T : FT} {S : MS} {Q : FT → MS → Prop} : mOps Try.prog O 237 (ro 4 64).toList (ro 4 64).toList [] T S Q =
  (CallM Try.prog O 10 [(T.get 7)] S fun p1 S1 => ∃ p3, aextract p1 0 = some p3 ∧ ∃ p4, aextract p1 1 = some p4 ∧ Q (((((((T.set (T.get 7) 221).set p1 222).set p1 220).set p3 223).set p4 224).set p3 9).set p4 8) S1) := by kernel_rfl
theorem reg4_65 {O : Known} {T : FT} {S : MS} {Q : FT → MS → Prop} : mOps Try.prog O 237 (ro 4 65).toList (ro 4 65).toList [] T S Q =
  (∃ p1, abin Try.prog .eql 24 (.tmp 225) (.const (.int .i64 0)) (T.get 8) (.int .i64 0) = some p1 ∧ ∃ b2, p1 = .bool b2 ∧
     (b2 = true → ∃ p4, abin Try.prog .neq 28 (.tmp 228) (.const (.pointer none)) (T.get 9) (.pointer none) = some p4 ∧ ∃ p5, pickS p1 p4 (.bool false) = some p5 ∧ ∃ b6, p5 = .bool b6 ∧
         (b6 = true → CallM Try.prog O 20 [(T.get 9), (T.get 11), (T.get 12)] S fun p10 S10 => ∃ p11, pickS p5 p10 (.bool false) = some p11 ∧ Q (((((((((((((T.set (T.get 8) 225).set p1 226).set p1 227).set (T.get 9) 228).set p4 229).set p5 230).set p5 231).set (T.get 9) 232).set (T.get 11) 233).set (T.get 12) 234).set p10 235).set p11 236).set p11 6) S10) ∧
         (b6 = false → ∃ p11, pickS p5 undef (.bool false) = some p11 ∧ Q (((((((((((((T.set (T.get 8) 225).set p1 226).set p1 227).set (T.get 9) 228).set p4 229).set p5 230).set p5 231).set undef 232).set undef 233).set undef 234).set undef 235).set p11 236).set p11 6) S)) ∧
     (b2 = false → ∃ p5, pickS p1 undef (.bool false) = some p5 ∧ ∃ b6, p5 = .bool b6 ∧
         (b6 = true → CallM Try.prog O 20 [(T.get 9), (T.get 11), (T.get 12)] S fun p10 S10 => ∃ p11, pickS p5 p10 (.bool false) = some p11 ∧ Q (((((((((((((T.set (T.get 8) 225).set p1 226).set p1 227).set undef 228).set undef 229).set p5 230).set p5 231).set (T.get 9) 232).set (T.get 11) 233).set (T.get 12) 234).set p10 235).set p11 236).set p11 6) S10) ∧
         (b6 = false → ∃ p11, pickS p5 undef (.bool false) = some p11 ∧ Q (((((((((((((T.set (T.get 8) 225).set p1 226).set p1 227).set undef 228).set undef 229).set p5 230).set p5 231).set undef 232).set undef 233).set undef 234).set undef 235).set p11 236).set p11 6) S))) := by kernel_rfl
end Go.Proofs.Ytmfmbadfgnhonaa

