/-
  The law TypesOperators holds: whatever the numbers, it tells true, and leaves all that there was as it was. Nothing is asked.
-/
import Derived.Test.YtpioabhlihabfaaGreatRows
import Derived.WalkKit
import Derived.ProofKit
import Derived.OpenShut
import Derived.Test.YtpioabhlihabfaaGreatOpersC1
import Derived.Test.YtpioabhlihabfaaGreatOpersC2
import Derived.Test.YtpioabhlihabfaaGreatOpersC3
import Derived.Test.YtpioabhlihabfaaGreatOpersC4
import Derived.Test.YtpioabhlihabfaaGreatOpersC5
import Derived.Test.YtpioabhlihabfaaGreatOpersC6
import Derived.Test.YtpioabhlihabfaaGreatOpersC7
import Derived.Test.YtpioabhlihabfaaGreatOpersC8
namespace Go.Proofs.YtpioabhlihabfaaGreat.typesOperators
open Go Go.Ag Go.ChangeShapes Go.WideShapes Go.ChangeAt Go.RowKit
set_option linter.unusedVariables false
set_option maxRecDepth 100000

theorem own : ownKnob Tryz.prog.godebug = none := by kernel_rfl

theorem tells_eq (args : List Value) : tells args = tellsTrue ((fnG Tryz.prog tab 3).f (Km Tryz.prog tab [(8, .bool true)] [57, 67, 68, 69, 78, 81, 93] 200 300) args ⟨.nil, Tryz.prog.globals.size⟩) := by
  unfold tells calls
  rw [start]
theorem and_left {a b : Bool} (h : (a && b) = true) : a = true := by rw [Bool.and_eq_true] at h; exact h.1
theorem and_right {a b : Bool} (h : (a && b) = true) : b = true := by rw [Bool.and_eq_true] at h; exact h.2
theorem cases (x0 : Nat) (x1 : Nat) (x2 : Nat) (h0 : x0 < 17) (h1 : x1 < 4) (h2 : x2 < 4) : tells [.int .i64 (.ofNat x0), .int .i64 (.ofNat x1), .int .i64 (.ofNat x2)] = true :=
  match x0, x1, x2, h0, h1, h2 with
  | 0, 0, 0, _, _, _ => (and_left c0)
  | 0, 0, 1, _, _, _ => (and_left (and_right c0))
  | 0, 0, 2, _, _, _ => (and_left (and_right (and_right c0)))
  | 0, 0, 3, _, _, _ => (and_right (and_right (and_right c0)))
  | 0, 1, 0, _, _, _ => (and_left c1)
  | 0, 1, 1, _, _, _ => (and_left (and_right c1))
  | 0, 1, 2, _, _, _ => (and_left (and_right (and_right c1)))
  | 0, 1, 3, _, _, _ => (and_right (and_right (and_right c1)))
  | 0, 2, 0, _, _, _ => (and_left c2)
  | 0, 2, 1, _, _, _ => (and_left (and_right c2))
  | 0, 2, 2, _, _, _ => (and_left (and_right (and_right c2)))
  | 0, 2, 3, _, _, _ => (and_right (and_right (and_right c2)))
  | 0, 3, 0, _, _, _ => (and_left c3)
  | 0, 3, 1, _, _, _ => (and_left (and_right c3))
  | 0, 3, 2, _, _, _ => (and_left (and_right (and_right c3)))
  | 0, 3, 3, _, _, _ => (and_right (and_right (and_right c3)))
  | 1, 0, 0, _, _, _ => (and_left c4)
  | 1, 0, 1, _, _, _ => (and_left (and_right c4))
  | 1, 0, 2, _, _, _ => (and_left (and_right (and_right c4)))
  | 1, 0, 3, _, _, _ => (and_right (and_right (and_right c4)))
  | 1, 1, 0, _, _, _ => (and_left c5)
  | 1, 1, 1, _, _, _ => (and_left (and_right c5))
  | 1, 1, 2, _, _, _ => (and_left (and_right (and_right c5)))
  | 1, 1, 3, _, _, _ => (and_right (and_right (and_right c5)))
  | 1, 2, 0, _, _, _ => (and_left c6)
  | 1, 2, 1, _, _, _ => (and_left (and_right c6))
  | 1, 2, 2, _, _, _ => (and_left (and_right (and_right c6)))
  | 1, 2, 3, _, _, _ => (and_right (and_right (and_right c6)))
  | 1, 3, 0, _, _, _ => (and_left c7)
  | 1, 3, 1, _, _, _ => (and_left (and_right c7))
  | 1, 3, 2, _, _, _ => (and_left (and_right (and_right c7)))
  | 1, 3, 3, _, _, _ => (and_right (and_right (and_right c7)))
  | 2, 0, 0, _, _, _ => (and_left c8)
  | 2, 0, 1, _, _, _ => (and_left (and_right c8))
  | 2, 0, 2, _, _, _ => (and_left (and_right (and_right c8)))
  | 2, 0, 3, _, _, _ => (and_right (and_right (and_right c8)))
  | 2, 1, 0, _, _, _ => (and_left c9)
  | 2, 1, 1, _, _, _ => (and_left (and_right c9))
  | 2, 1, 2, _, _, _ => (and_left (and_right (and_right c9)))
  | 2, 1, 3, _, _, _ => (and_right (and_right (and_right c9)))
  | 2, 2, 0, _, _, _ => (and_left c10)
  | 2, 2, 1, _, _, _ => (and_left (and_right c10))
  | 2, 2, 2, _, _, _ => (and_left (and_right (and_right c10)))
  | 2, 2, 3, _, _, _ => (and_right (and_right (and_right c10)))
  | 2, 3, 0, _, _, _ => (and_left c11)
  | 2, 3, 1, _, _, _ => (and_left (and_right c11))
  | 2, 3, 2, _, _, _ => (and_left (and_right (and_right c11)))
  | 2, 3, 3, _, _, _ => (and_right (and_right (and_right c11)))
  | 3, 0, 0, _, _, _ => (and_left c12)
  | 3, 0, 1, _, _, _ => (and_left (and_right c12))
  | 3, 0, 2, _, _, _ => (and_left (and_right (and_right c12)))
  | 3, 0, 3, _, _, _ => (and_right (and_right (and_right c12)))
  | 3, 1, 0, _, _, _ => (and_left c13)
  | 3, 1, 1, _, _, _ => (and_left (and_right c13))
  | 3, 1, 2, _, _, _ => (and_left (and_right (and_right c13)))
  | 3, 1, 3, _, _, _ => (and_right (and_right (and_right c13)))
  | 3, 2, 0, _, _, _ => (and_left c14)
  | 3, 2, 1, _, _, _ => (and_left (and_right c14))
  | 3, 2, 2, _, _, _ => (and_left (and_right (and_right c14)))
  | 3, 2, 3, _, _, _ => (and_right (and_right (and_right c14)))
  | 3, 3, 0, _, _, _ => (and_left c15)
  | 3, 3, 1, _, _, _ => (and_left (and_right c15))
  | 3, 3, 2, _, _, _ => (and_left (and_right (and_right c15)))
  | 3, 3, 3, _, _, _ => (and_right (and_right (and_right c15)))
  | 4, 0, 0, _, _, _ => (and_left c16)
  | 4, 0, 1, _, _, _ => (and_left (and_right c16))
  | 4, 0, 2, _, _, _ => (and_left (and_right (and_right c16)))
  | 4, 0, 3, _, _, _ => (and_right (and_right (and_right c16)))
  | 4, 1, 0, _, _, _ => (and_left c17)
  | 4, 1, 1, _, _, _ => (and_left (and_right c17))
  | 4, 1, 2, _, _, _ => (and_left (and_right (and_right c17)))
  | 4, 1, 3, _, _, _ => (and_right (and_right (and_right c17)))
  | 4, 2, 0, _, _, _ => (and_left c18)
  | 4, 2, 1, _, _, _ => (and_left (and_right c18))
  | 4, 2, 2, _, _, _ => (and_left (and_right (and_right c18)))
  | 4, 2, 3, _, _, _ => (and_right (and_right (and_right c18)))
  | 4, 3, 0, _, _, _ => (and_left c19)
  | 4, 3, 1, _, _, _ => (and_left (and_right c19))
  | 4, 3, 2, _, _, _ => (and_left (and_right (and_right c19)))
  | 4, 3, 3, _, _, _ => (and_right (and_right (and_right c19)))
  | 5, 0, 0, _, _, _ => (and_left c20)
  | 5, 0, 1, _, _, _ => (and_left (and_right c20))
  | 5, 0, 2, _, _, _ => (and_left (and_right (and_right c20)))
  | 5, 0, 3, _, _, _ => (and_right (and_right (and_right c20)))
  | 5, 1, 0, _, _, _ => (and_left c21)
  | 5, 1, 1, _, _, _ => (and_left (and_right c21))
  | 5, 1, 2, _, _, _ => (and_left (and_right (and_right c21)))
  | 5, 1, 3, _, _, _ => (and_right (and_right (and_right c21)))
  | 5, 2, 0, _, _, _ => (and_left c22)
  | 5, 2, 1, _, _, _ => (and_left (and_right c22))
  | 5, 2, 2, _, _, _ => (and_left (and_right (and_right c22)))
  | 5, 2, 3, _, _, _ => (and_right (and_right (and_right c22)))
  | 5, 3, 0, _, _, _ => (and_left c23)
  | 5, 3, 1, _, _, _ => (and_left (and_right c23))
  | 5, 3, 2, _, _, _ => (and_left (and_right (and_right c23)))
  | 5, 3, 3, _, _, _ => (and_right (and_right (and_right c23)))
  | 6, 0, 0, _, _, _ => (and_left c24)
  | 6, 0, 1, _, _, _ => (and_left (and_right c24))
  | 6, 0, 2, _, _, _ => (and_left (and_right (and_right c24)))
  | 6, 0, 3, _, _, _ => (and_right (and_right (and_right c24)))
  | 6, 1, 0, _, _, _ => (and_left c25)
  | 6, 1, 1, _, _, _ => (and_left (and_right c25))
  | 6, 1, 2, _, _, _ => (and_left (and_right (and_right c25)))
  | 6, 1, 3, _, _, _ => (and_right (and_right (and_right c25)))
  | 6, 2, 0, _, _, _ => (and_left c26)
  | 6, 2, 1, _, _, _ => (and_left (and_right c26))
  | 6, 2, 2, _, _, _ => (and_left (and_right (and_right c26)))
  | 6, 2, 3, _, _, _ => (and_right (and_right (and_right c26)))
  | 6, 3, 0, _, _, _ => (and_left c27)
  | 6, 3, 1, _, _, _ => (and_left (and_right c27))
  | 6, 3, 2, _, _, _ => (and_left (and_right (and_right c27)))
  | 6, 3, 3, _, _, _ => (and_right (and_right (and_right c27)))
  | 7, 0, 0, _, _, _ => (and_left c28)
  | 7, 0, 1, _, _, _ => (and_left (and_right c28))
  | 7, 0, 2, _, _, _ => (and_left (and_right (and_right c28)))
  | 7, 0, 3, _, _, _ => (and_right (and_right (and_right c28)))
  | 7, 1, 0, _, _, _ => (and_left c29)
  | 7, 1, 1, _, _, _ => (and_left (and_right c29))
  | 7, 1, 2, _, _, _ => (and_left (and_right (and_right c29)))
  | 7, 1, 3, _, _, _ => (and_right (and_right (and_right c29)))
  | 7, 2, 0, _, _, _ => (and_left c30)
  | 7, 2, 1, _, _, _ => (and_left (and_right c30))
  | 7, 2, 2, _, _, _ => (and_left (and_right (and_right c30)))
  | 7, 2, 3, _, _, _ => (and_right (and_right (and_right c30)))
  | 7, 3, 0, _, _, _ => (and_left c31)
  | 7, 3, 1, _, _, _ => (and_left (and_right c31))
  | 7, 3, 2, _, _, _ => (and_left (and_right (and_right c31)))
  | 7, 3, 3, _, _, _ => (and_right (and_right (and_right c31)))
  | 8, 0, 0, _, _, _ => (and_left c32)
  | 8, 0, 1, _, _, _ => (and_left (and_right c32))
  | 8, 0, 2, _, _, _ => (and_left (and_right (and_right c32)))
  | 8, 0, 3, _, _, _ => (and_right (and_right (and_right c32)))
  | 8, 1, 0, _, _, _ => (and_left c33)
  | 8, 1, 1, _, _, _ => (and_left (and_right c33))
  | 8, 1, 2, _, _, _ => (and_left (and_right (and_right c33)))
  | 8, 1, 3, _, _, _ => (and_right (and_right (and_right c33)))
  | 8, 2, 0, _, _, _ => (and_left c34)
  | 8, 2, 1, _, _, _ => (and_left (and_right c34))
  | 8, 2, 2, _, _, _ => (and_left (and_right (and_right c34)))
  | 8, 2, 3, _, _, _ => (and_right (and_right (and_right c34)))
  | 8, 3, 0, _, _, _ => (and_left c35)
  | 8, 3, 1, _, _, _ => (and_left (and_right c35))
  | 8, 3, 2, _, _, _ => (and_left (and_right (and_right c35)))
  | 8, 3, 3, _, _, _ => (and_right (and_right (and_right c35)))
  | 9, 0, 0, _, _, _ => (and_left c36)
  | 9, 0, 1, _, _, _ => (and_left (and_right c36))
  | 9, 0, 2, _, _, _ => (and_left (and_right (and_right c36)))
  | 9, 0, 3, _, _, _ => (and_right (and_right (and_right c36)))
  | 9, 1, 0, _, _, _ => (and_left c37)
  | 9, 1, 1, _, _, _ => (and_left (and_right c37))
  | 9, 1, 2, _, _, _ => (and_left (and_right (and_right c37)))
  | 9, 1, 3, _, _, _ => (and_right (and_right (and_right c37)))
  | 9, 2, 0, _, _, _ => (and_left c38)
  | 9, 2, 1, _, _, _ => (and_left (and_right c38))
  | 9, 2, 2, _, _, _ => (and_left (and_right (and_right c38)))
  | 9, 2, 3, _, _, _ => (and_right (and_right (and_right c38)))
  | 9, 3, 0, _, _, _ => (and_left c39)
  | 9, 3, 1, _, _, _ => (and_left (and_right c39))
  | 9, 3, 2, _, _, _ => (and_left (and_right (and_right c39)))
  | 9, 3, 3, _, _, _ => (and_right (and_right (and_right c39)))
  | 10, 0, 0, _, _, _ => (and_left c40)
  | 10, 0, 1, _, _, _ => (and_left (and_right c40))
  | 10, 0, 2, _, _, _ => (and_left (and_right (and_right c40)))
  | 10, 0, 3, _, _, _ => (and_right (and_right (and_right c40)))
  | 10, 1, 0, _, _, _ => (and_left c41)
  | 10, 1, 1, _, _, _ => (and_left (and_right c41))
  | 10, 1, 2, _, _, _ => (and_left (and_right (and_right c41)))
  | 10, 1, 3, _, _, _ => (and_right (and_right (and_right c41)))
  | 10, 2, 0, _, _, _ => (and_left c42)
  | 10, 2, 1, _, _, _ => (and_left (and_right c42))
  | 10, 2, 2, _, _, _ => (and_left (and_right (and_right c42)))
  | 10, 2, 3, _, _, _ => (and_right (and_right (and_right c42)))
  | 10, 3, 0, _, _, _ => (and_left c43)
  | 10, 3, 1, _, _, _ => (and_left (and_right c43))
  | 10, 3, 2, _, _, _ => (and_left (and_right (and_right c43)))
  | 10, 3, 3, _, _, _ => (and_right (and_right (and_right c43)))
  | 11, 0, 0, _, _, _ => (and_left c44)
  | 11, 0, 1, _, _, _ => (and_left (and_right c44))
  | 11, 0, 2, _, _, _ => (and_left (and_right (and_right c44)))
  | 11, 0, 3, _, _, _ => (and_right (and_right (and_right c44)))
  | 11, 1, 0, _, _, _ => (and_left c45)
  | 11, 1, 1, _, _, _ => (and_left (and_right c45))
  | 11, 1, 2, _, _, _ => (and_left (and_right (and_right c45)))
  | 11, 1, 3, _, _, _ => (and_right (and_right (and_right c45)))
  | 11, 2, 0, _, _, _ => (and_left c46)
  | 11, 2, 1, _, _, _ => (and_left (and_right c46))
  | 11, 2, 2, _, _, _ => (and_left (and_right (and_right c46)))
  | 11, 2, 3, _, _, _ => (and_right (and_right (and_right c46)))
  | 11, 3, 0, _, _, _ => (and_left c47)
  | 11, 3, 1, _, _, _ => (and_left (and_right c47))
  | 11, 3, 2, _, _, _ => (and_left (and_right (and_right c47)))
  | 11, 3, 3, _, _, _ => (and_right (and_right (and_right c47)))
  | 12, 0, 0, _, _, _ => (and_left c48)
  | 12, 0, 1, _, _, _ => (and_left (and_right c48))
  | 12, 0, 2, _, _, _ => (and_left (and_right (and_right c48)))
  | 12, 0, 3, _, _, _ => (and_right (and_right (and_right c48)))
  | 12, 1, 0, _, _, _ => (and_left c49)
  | 12, 1, 1, _, _, _ => (and_left (and_right c49))
  | 12, 1, 2, _, _, _ => (and_left (and_right (and_right c49)))
  | 12, 1, 3, _, _, _ => (and_right (and_right (and_right c49)))
  | 12, 2, 0, _, _, _ => (and_left c50)
  | 12, 2, 1, _, _, _ => (and_left (and_right c50))
  | 12, 2, 2, _, _, _ => (and_left (and_right (and_right c50)))
  | 12, 2, 3, _, _, _ => (and_right (and_right (and_right c50)))
  | 12, 3, 0, _, _, _ => (and_left c51)
  | 12, 3, 1, _, _, _ => (and_left (and_right c51))
  | 12, 3, 2, _, _, _ => (and_left (and_right (and_right c51)))
  | 12, 3, 3, _, _, _ => (and_right (and_right (and_right c51)))
  | 13, 0, 0, _, _, _ => (and_left c52)
  | 13, 0, 1, _, _, _ => (and_left (and_right c52))
  | 13, 0, 2, _, _, _ => (and_left (and_right (and_right c52)))
  | 13, 0, 3, _, _, _ => (and_right (and_right (and_right c52)))
  | 13, 1, 0, _, _, _ => (and_left c53)
  | 13, 1, 1, _, _, _ => (and_left (and_right c53))
  | 13, 1, 2, _, _, _ => (and_left (and_right (and_right c53)))
  | 13, 1, 3, _, _, _ => (and_right (and_right (and_right c53)))
  | 13, 2, 0, _, _, _ => (and_left c54)
  | 13, 2, 1, _, _, _ => (and_left (and_right c54))
  | 13, 2, 2, _, _, _ => (and_left (and_right (and_right c54)))
  | 13, 2, 3, _, _, _ => (and_right (and_right (and_right c54)))
  | 13, 3, 0, _, _, _ => (and_left c55)
  | 13, 3, 1, _, _, _ => (and_left (and_right c55))
  | 13, 3, 2, _, _, _ => (and_left (and_right (and_right c55)))
  | 13, 3, 3, _, _, _ => (and_right (and_right (and_right c55)))
  | 14, 0, 0, _, _, _ => (and_left c56)
  | 14, 0, 1, _, _, _ => (and_left (and_right c56))
  | 14, 0, 2, _, _, _ => (and_left (and_right (and_right c56)))
  | 14, 0, 3, _, _, _ => (and_right (and_right (and_right c56)))
  | 14, 1, 0, _, _, _ => (and_left c57)
  | 14, 1, 1, _, _, _ => (and_left (and_right c57))
  | 14, 1, 2, _, _, _ => (and_left (and_right (and_right c57)))
  | 14, 1, 3, _, _, _ => (and_right (and_right (and_right c57)))
  | 14, 2, 0, _, _, _ => (and_left c58)
  | 14, 2, 1, _, _, _ => (and_left (and_right c58))
  | 14, 2, 2, _, _, _ => (and_left (and_right (and_right c58)))
  | 14, 2, 3, _, _, _ => (and_right (and_right (and_right c58)))
  | 14, 3, 0, _, _, _ => (and_left c59)
  | 14, 3, 1, _, _, _ => (and_left (and_right c59))
  | 14, 3, 2, _, _, _ => (and_left (and_right (and_right c59)))
  | 14, 3, 3, _, _, _ => (and_right (and_right (and_right c59)))
  | 15, 0, 0, _, _, _ => (and_left c60)
  | 15, 0, 1, _, _, _ => (and_left (and_right c60))
  | 15, 0, 2, _, _, _ => (and_left (and_right (and_right c60)))
  | 15, 0, 3, _, _, _ => (and_right (and_right (and_right c60)))
  | 15, 1, 0, _, _, _ => (and_left c61)
  | 15, 1, 1, _, _, _ => (and_left (and_right c61))
  | 15, 1, 2, _, _, _ => (and_left (and_right (and_right c61)))
  | 15, 1, 3, _, _, _ => (and_right (and_right (and_right c61)))
  | 15, 2, 0, _, _, _ => (and_left c62)
  | 15, 2, 1, _, _, _ => (and_left (and_right c62))
  | 15, 2, 2, _, _, _ => (and_left (and_right (and_right c62)))
  | 15, 2, 3, _, _, _ => (and_right (and_right (and_right c62)))
  | 15, 3, 0, _, _, _ => (and_left c63)
  | 15, 3, 1, _, _, _ => (and_left (and_right c63))
  | 15, 3, 2, _, _, _ => (and_left (and_right (and_right c63)))
  | 15, 3, 3, _, _, _ => (and_right (and_right (and_right c63)))
  | 16, 0, 0, _, _, _ => (and_left c64)
  | 16, 0, 1, _, _, _ => (and_left (and_right c64))
  | 16, 0, 2, _, _, _ => (and_left (and_right (and_right c64)))
  | 16, 0, 3, _, _, _ => (and_right (and_right (and_right c64)))
  | 16, 1, 0, _, _, _ => (and_left c65)
  | 16, 1, 1, _, _, _ => (and_left (and_right c65))
  | 16, 1, 2, _, _, _ => (and_left (and_right (and_right c65)))
  | 16, 1, 3, _, _, _ => (and_right (and_right (and_right c65)))
  | 16, 2, 0, _, _, _ => (and_left c66)
  | 16, 2, 1, _, _, _ => (and_left (and_right c66))
  | 16, 2, 2, _, _, _ => (and_left (and_right (and_right c66)))
  | 16, 2, 3, _, _, _ => (and_right (and_right (and_right c66)))
  | 16, 3, 0, _, _, _ => (and_left c67)
  | 16, 3, 1, _, _, _ => (and_left (and_right c67))
  | 16, 3, 2, _, _, _ => (and_left (and_right (and_right c67)))
  | 16, 3, 3, _, _, _ => (and_right (and_right (and_right c67)))
  | n + 17, _, _, h, _, _ => absurd h (by omega)
  | _, n + 4, _, _, h, _ => absurd h (by omega)
  | _, _, n + 4, _, _, h => absurd h (by omega)
def parts : Desc := [(0, 17, 0), (1, 4, 0), (2, 4, 0), (20, 17, 0), (21, 17, 1), (22, 17, 2), (24, 4, 0), (25, 4, 1), (26, 4, 2), (28, 4, 0), (29, 4, 1), (30, 4, 2)]
theorem partsOk : okFn Tryz.prog (modParts parts) 3 = true := by kernel_rfl
theorem walk (a0 : Int) (a1 : Int) (a2 : Int) (w0 : (Lit.int .i64 a0).wf = true) (w1 : (Lit.int .i64 a1).wf = true) (w2 : (Lit.int .i64 a2).wf = true) (w : World) :
    Calls Tryz.prog 3 #[.int .i64 a0, .int .i64 a1, .int .i64 a2] w fun e w' => e = .returned (.bool true) ∧ Kept w w' := by
  have h := cases ((a0 % ((17 : Nat) : Int)).toNat) ((a1 % ((4 : Nat) : Int)).toNat) ((a2 % ((4 : Nat) : Int)).toNat) (by have h1 := Int.emod_nonneg a0 (b := ((17 : Nat) : Int)) (by decide); have h2 := Int.emod_lt_of_pos a0 (b := ((17 : Nat) : Int)) (by decide); omega) (by have h1 := Int.emod_nonneg a1 (b := ((4 : Nat) : Int)) (by decide); have h2 := Int.emod_lt_of_pos a1 (b := ((4 : Nat) : Int)) (by decide); omega) (by have h1 := Int.emod_nonneg a2 (b := ((4 : Nat) : Int)) (by decide); have h2 := Int.emod_lt_of_pos a2 (b := ((4 : Nat) : Int)) (by decide); omega)
  have hk : Knows Tryz.prog 3 [.int .i64 a0, .int .i64 a1, .int .i64 a2] (.bool true) := by
    refine quick_part (args := [.int .i64 (.ofNat ((a0 % ((17 : Nat) : Int)).toNat)), .int .i64 (.ofNat ((a1 % ((4 : Nat) : Int)).toNat)), .int .i64 (.ofNat ((a2 % ((4 : Nat) : Int)).toNat))]) (pl := [57, 67, 68, 69, 78, 81, 93]) (m0 := 200) (m := 300) mix tabs knownOk (modSp_ok _ parts) (by rw [tells_eq] at h; exact h) rfl rfl partsOk rfl (fun t => ?_) rfl
    match t with
    | 0 => exact vpart_int rfl (by decide)
    | 1 => exact vpart_int rfl (by decide)
    | 2 => exact vpart_int rfl (by decide)
    | n + 3 => exact .inl rfl
  exact (hk.calls w).mono fun e w' h => ⟨h.1, h.2.1⟩

/-! ### THE ROW's STEP: WRITTEN OUT: LEAVE IT -/
set_option maxRecDepth 100000 in
theorem lifted (os : Os) (started : os.Started) (H : Type) (enc : TypeId × Value → H) :
    ReturnsInHanded {} Tryz.checked os 3 .any (Rows.typesOperatorsSpec.pre6 enc Tryz.prog Tryz.f3 Rows.typesOperatorsRow.domain false) (Rows.typesOperatorsSpec.post enc Tryz.prog Tryz.f3 false true false false) := by
  refine returnsInHanded_of_change (C := Tryz.checked) own started (by kernel_rfl) Tryz.func3
    (ChangeSpec.witness6 (enc := enc) (C := Tryz.checked) false ⟨#[], #[.int .i64 0, .int .i64 0, .int .i64 0], []⟩ 8 (by kernel_rfl) (by kernel_rfl) (by kernel_rfl) (by kernel_rfl)) ?_
  intro W base args ds gs before hval0 hW hcnd _
  have hval : ∀ (j : Nat) t v, Tryz.f3.params[j]? = some t → args[j]? = some v → Value.okWide Tryz.prog W .any base t v := hval0
  have hW' := hW
  obtain ⟨p, q, hA0, hV, rfl, hfz, hnd⟩ := hW
  have hA : DataW.TrodAll enc Tryz.prog W 0 (fun _ => true) true Tryz.f3.params.toList args.toList ds p := hA0
  rw [Tryz.params3] at hA hval
  obtain ⟨v0, vs0, d0, ds0, p0, q0, hargs, rfl, rfl, h0, r0⟩ := trodAll_cons hA
  obtain ⟨v1, vs1, d1, ds1, p1, q1, rfl, rfl, rfl, h1, r1⟩ := trodAll_cons r0
  obtain ⟨v2, vs2, d2, ds2, p2, q2, rfl, rfl, rfl, h2, r2⟩ := trodAll_cons r1
  obtain ⟨rfl, rfl, rfl⟩ := trodAll_nil r2
  obtain rfl : args = #[v0, v1, v2] := by cases args; simp_all
  obtain ⟨rfl, rfl⟩ := trodVars_none hV
  obtain ⟨a0, rfl, rfl, rfl, w0⟩ := open_int Tryz.underlying3 (hval 0 3 v0 rfl rfl) h0
  obtain ⟨a1, rfl, rfl, rfl, w1⟩ := open_int Tryz.underlying3 (hval 1 3 v1 rfl rfl) h1
  obtain ⟨a2, rfl, rfl, rfl, w2⟩ := open_int Tryz.underlying3 (hval 2 3 v2 rfl rfl) h2
  clear hA0 hval0
  simp only [List.append_nil] at hW'
  refine (walk a0 a1 a2 w0 w1 w2 W).mono fun e W' ⟨he, hg⟩ => ?_
  subst he
  exact ⟨_, rfl, post_of_kept (pa := []) (pv := []) hW' (fun _ _ _ => (trodAll_cons_mk (shut_bool Tryz.underlying4 _) trodAll_mk0)) (fun sp _ => (trodAll_cons_mk (shut_int Tryz.underlying3 w0) (trodAll_cons_mk (shut_int Tryz.underlying3 w1) (trodAll_cons_mk (shut_int Tryz.underlying3 w2) trodAll_mk0)))) (fun _ _ => rfl) rfl
    hg (ok_one (by kernel_rfl) rfl (okWide_bool_mk Tryz.underlying4 _))⟩

theorem over : Rows.typesOperatorsRow.holds Tryz.pinned (OpenSpec.ofChange Rows.typesOperatorsSpec) :=
  OpenClaim.holds_of_wide 3 Tryz.f3 rfl rfl rfl rfl rfl rfl rfl ⟨rfl, rfl, rfl, rfl, rfl⟩ rfl rfl rfl rfl rfl (by kernel_rfl) Tryz.func3 (by kernel_rfl)
    (of_decide_eq_true (by kernel_rfl)) (by unfold Func.isWrapper; first | (rw [if_pos (by decide +kernel)]; kernel_rfl) | (rw [if_neg (by decide +kernel)]; exact ⟨rfl, rfl⟩))
    (fun os started H enc _ => lifted os started H enc)

/-- ████ THE STATEMENT ████ -/
theorem proved : Rows.TypesOperatorsSaid :=
  over
#print axioms proved
end Go.Proofs.YtpioabhlihabfaaGreat.typesOperators
