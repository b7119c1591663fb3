/-
  The law TypesMany holds: whatever the numbers, it tells true, and leaves all that there was as it was. Nothing is asked.
-/
import Derived.Test.YtpioabhlihabfaaGreatRows
import Derived.WalkKit
import Derived.ProofKit
import Derived.OpenShut
import Derived.Test.YtpioabhlihabfaaGreatManyC1
import Derived.Test.YtpioabhlihabfaaGreatManyC2
import Derived.Test.YtpioabhlihabfaaGreatManyC3
import Derived.Test.YtpioabhlihabfaaGreatManyC4
import Derived.Test.YtpioabhlihabfaaGreatManyC5
import Derived.Test.YtpioabhlihabfaaGreatManyC6
import Derived.Test.YtpioabhlihabfaaGreatManyC7
import Derived.Test.YtpioabhlihabfaaGreatManyC8
import Derived.Test.YtpioabhlihabfaaGreatManyC9
import Derived.Test.YtpioabhlihabfaaGreatManyC10
import Derived.Test.YtpioabhlihabfaaGreatManyC11
import Derived.Test.YtpioabhlihabfaaGreatManyC12
import Derived.Test.YtpioabhlihabfaaGreatManyC13
import Derived.Test.YtpioabhlihabfaaGreatManyC14
import Derived.Test.YtpioabhlihabfaaGreatManyC15
namespace Go.Proofs.YtpioabhlihabfaaGreat.typesMany
open Go Go.Ag Go.ChangeShapes Go.WideShapes Go.ChangeAt Go.RowKit
set_option linter.unusedVariables false
set_option maxRecDepth 100000

theorem own : ownKnob Tryz.prog.godebug = none := by kernel_rfl

theorem tells_eq (args : List Value) : tells args = tellsTrue ((fnG Tryz.prog tab 7).f (Km Tryz.prog tab [(8, .bool true)] [57, 67, 68, 69, 78, 81, 93] 200 300) args ⟨.nil, Tryz.prog.globals.size⟩) := by
  unfold tells calls
  rw [start]
theorem and_left {a b : Bool} (h : (a && b) = true) : a = true := by rw [Bool.and_eq_true] at h; exact h.1
theorem and_right {a b : Bool} (h : (a && b) = true) : b = true := by rw [Bool.and_eq_true] at h; exact h.2
theorem cases (x0 : Nat) (x1 : Nat) (x2 : Nat) (h0 : x0 < 13) (h1 : x1 < 13) (h2 : x2 < 2) : tells [.int .u8 (.ofNat x0), .int .u8 (.ofNat x1), .int .u8 (.ofNat x2)] = true :=
  match x0, x1, x2, h0, h1, h2 with
  | 0, 0, 0, _, _, _ => (and_left c0)
  | 0, 0, 1, _, _, _ => (and_left (and_right c0))
  | 0, 1, 0, _, _, _ => (and_left (and_right (and_right c0)))
  | 0, 1, 1, _, _, _ => (and_right (and_right (and_right c0)))
  | 0, 2, 0, _, _, _ => (and_left c1)
  | 0, 2, 1, _, _, _ => (and_left (and_right c1))
  | 0, 3, 0, _, _, _ => (and_left (and_right (and_right c1)))
  | 0, 3, 1, _, _, _ => (and_right (and_right (and_right c1)))
  | 0, 4, 0, _, _, _ => (and_left c2)
  | 0, 4, 1, _, _, _ => (and_left (and_right c2))
  | 0, 5, 0, _, _, _ => (and_left (and_right (and_right c2)))
  | 0, 5, 1, _, _, _ => (and_right (and_right (and_right c2)))
  | 0, 6, 0, _, _, _ => (and_left c3)
  | 0, 6, 1, _, _, _ => (and_left (and_right c3))
  | 0, 7, 0, _, _, _ => (and_left (and_right (and_right c3)))
  | 0, 7, 1, _, _, _ => (and_right (and_right (and_right c3)))
  | 0, 8, 0, _, _, _ => (and_left c4)
  | 0, 8, 1, _, _, _ => (and_left (and_right c4))
  | 0, 9, 0, _, _, _ => (and_left (and_right (and_right c4)))
  | 0, 9, 1, _, _, _ => (and_right (and_right (and_right c4)))
  | 0, 10, 0, _, _, _ => (and_left c5)
  | 0, 10, 1, _, _, _ => (and_left (and_right c5))
  | 0, 11, 0, _, _, _ => (and_left (and_right (and_right c5)))
  | 0, 11, 1, _, _, _ => (and_right (and_right (and_right c5)))
  | 0, 12, 0, _, _, _ => (and_left c6)
  | 0, 12, 1, _, _, _ => (and_left (and_right c6))
  | 1, 0, 0, _, _, _ => (and_left (and_right (and_right c6)))
  | 1, 0, 1, _, _, _ => (and_right (and_right (and_right c6)))
  | 1, 1, 0, _, _, _ => (and_left c7)
  | 1, 1, 1, _, _, _ => (and_left (and_right c7))
  | 1, 2, 0, _, _, _ => (and_left (and_right (and_right c7)))
  | 1, 2, 1, _, _, _ => (and_right (and_right (and_right c7)))
  | 1, 3, 0, _, _, _ => (and_left c8)
  | 1, 3, 1, _, _, _ => (and_left (and_right c8))
  | 1, 4, 0, _, _, _ => (and_left (and_right (and_right c8)))
  | 1, 4, 1, _, _, _ => (and_right (and_right (and_right c8)))
  | 1, 5, 0, _, _, _ => (and_left c9)
  | 1, 5, 1, _, _, _ => (and_left (and_right c9))
  | 1, 6, 0, _, _, _ => (and_left (and_right (and_right c9)))
  | 1, 6, 1, _, _, _ => (and_right (and_right (and_right c9)))
  | 1, 7, 0, _, _, _ => (and_left c10)
  | 1, 7, 1, _, _, _ => (and_left (and_right c10))
  | 1, 8, 0, _, _, _ => (and_left (and_right (and_right c10)))
  | 1, 8, 1, _, _, _ => (and_right (and_right (and_right c10)))
  | 1, 9, 0, _, _, _ => (and_left c11)
  | 1, 9, 1, _, _, _ => (and_left (and_right c11))
  | 1, 10, 0, _, _, _ => (and_left (and_right (and_right c11)))
  | 1, 10, 1, _, _, _ => (and_right (and_right (and_right c11)))
  | 1, 11, 0, _, _, _ => (and_left c12)
  | 1, 11, 1, _, _, _ => (and_left (and_right c12))
  | 1, 12, 0, _, _, _ => (and_left (and_right (and_right c12)))
  | 1, 12, 1, _, _, _ => (and_right (and_right (and_right c12)))
  | 2, 0, 0, _, _, _ => (and_left c13)
  | 2, 0, 1, _, _, _ => (and_left (and_right c13))
  | 2, 1, 0, _, _, _ => (and_left (and_right (and_right c13)))
  | 2, 1, 1, _, _, _ => (and_right (and_right (and_right c13)))
  | 2, 2, 0, _, _, _ => (and_left c14)
  | 2, 2, 1, _, _, _ => (and_left (and_right c14))
  | 2, 3, 0, _, _, _ => (and_left (and_right (and_right c14)))
  | 2, 3, 1, _, _, _ => (and_right (and_right (and_right c14)))
  | 2, 4, 0, _, _, _ => (and_left c15)
  | 2, 4, 1, _, _, _ => (and_left (and_right c15))
  | 2, 5, 0, _, _, _ => (and_left (and_right (and_right c15)))
  | 2, 5, 1, _, _, _ => (and_right (and_right (and_right c15)))
  | 2, 6, 0, _, _, _ => (and_left c16)
  | 2, 6, 1, _, _, _ => (and_left (and_right c16))
  | 2, 7, 0, _, _, _ => (and_left (and_right (and_right c16)))
  | 2, 7, 1, _, _, _ => (and_right (and_right (and_right c16)))
  | 2, 8, 0, _, _, _ => (and_left c17)
  | 2, 8, 1, _, _, _ => (and_left (and_right c17))
  | 2, 9, 0, _, _, _ => (and_left (and_right (and_right c17)))
  | 2, 9, 1, _, _, _ => (and_right (and_right (and_right c17)))
  | 2, 10, 0, _, _, _ => (and_left c18)
  | 2, 10, 1, _, _, _ => (and_left (and_right c18))
  | 2, 11, 0, _, _, _ => (and_left (and_right (and_right c18)))
  | 2, 11, 1, _, _, _ => (and_right (and_right (and_right c18)))
  | 2, 12, 0, _, _, _ => (and_left c19)
  | 2, 12, 1, _, _, _ => (and_left (and_right c19))
  | 3, 0, 0, _, _, _ => (and_left (and_right (and_right c19)))
  | 3, 0, 1, _, _, _ => (and_right (and_right (and_right c19)))
  | 3, 1, 0, _, _, _ => (and_left c20)
  | 3, 1, 1, _, _, _ => (and_left (and_right c20))
  | 3, 2, 0, _, _, _ => (and_left (and_right (and_right c20)))
  | 3, 2, 1, _, _, _ => (and_right (and_right (and_right c20)))
  | 3, 3, 0, _, _, _ => (and_left c21)
  | 3, 3, 1, _, _, _ => (and_left (and_right c21))
  | 3, 4, 0, _, _, _ => (and_left (and_right (and_right c21)))
  | 3, 4, 1, _, _, _ => (and_right (and_right (and_right c21)))
  | 3, 5, 0, _, _, _ => (and_left c22)
  | 3, 5, 1, _, _, _ => (and_left (and_right c22))
  | 3, 6, 0, _, _, _ => (and_left (and_right (and_right c22)))
  | 3, 6, 1, _, _, _ => (and_right (and_right (and_right c22)))
  | 3, 7, 0, _, _, _ => (and_left c23)
  | 3, 7, 1, _, _, _ => (and_left (and_right c23))
  | 3, 8, 0, _, _, _ => (and_left (and_right (and_right c23)))
  | 3, 8, 1, _, _, _ => (and_right (and_right (and_right c23)))
  | 3, 9, 0, _, _, _ => (and_left c24)
  | 3, 9, 1, _, _, _ => (and_left (and_right c24))
  | 3, 10, 0, _, _, _ => (and_left (and_right (and_right c24)))
  | 3, 10, 1, _, _, _ => (and_right (and_right (and_right c24)))
  | 3, 11, 0, _, _, _ => (and_left c25)
  | 3, 11, 1, _, _, _ => (and_left (and_right c25))
  | 3, 12, 0, _, _, _ => (and_left (and_right (and_right c25)))
  | 3, 12, 1, _, _, _ => (and_right (and_right (and_right c25)))
  | 4, 0, 0, _, _, _ => (and_left c26)
  | 4, 0, 1, _, _, _ => (and_left (and_right c26))
  | 4, 1, 0, _, _, _ => (and_left (and_right (and_right c26)))
  | 4, 1, 1, _, _, _ => (and_right (and_right (and_right c26)))
  | 4, 2, 0, _, _, _ => (and_left c27)
  | 4, 2, 1, _, _, _ => (and_left (and_right c27))
  | 4, 3, 0, _, _, _ => (and_left (and_right (and_right c27)))
  | 4, 3, 1, _, _, _ => (and_right (and_right (and_right c27)))
  | 4, 4, 0, _, _, _ => (and_left c28)
  | 4, 4, 1, _, _, _ => (and_left (and_right c28))
  | 4, 5, 0, _, _, _ => (and_left (and_right (and_right c28)))
  | 4, 5, 1, _, _, _ => (and_right (and_right (and_right c28)))
  | 4, 6, 0, _, _, _ => (and_left c29)
  | 4, 6, 1, _, _, _ => (and_left (and_right c29))
  | 4, 7, 0, _, _, _ => (and_left (and_right (and_right c29)))
  | 4, 7, 1, _, _, _ => (and_right (and_right (and_right c29)))
  | 4, 8, 0, _, _, _ => (and_left c30)
  | 4, 8, 1, _, _, _ => (and_left (and_right c30))
  | 4, 9, 0, _, _, _ => (and_left (and_right (and_right c30)))
  | 4, 9, 1, _, _, _ => (and_right (and_right (and_right c30)))
  | 4, 10, 0, _, _, _ => (and_left c31)
  | 4, 10, 1, _, _, _ => (and_left (and_right c31))
  | 4, 11, 0, _, _, _ => (and_left (and_right (and_right c31)))
  | 4, 11, 1, _, _, _ => (and_right (and_right (and_right c31)))
  | 4, 12, 0, _, _, _ => (and_left c32)
  | 4, 12, 1, _, _, _ => (and_left (and_right c32))
  | 5, 0, 0, _, _, _ => (and_left (and_right (and_right c32)))
  | 5, 0, 1, _, _, _ => (and_right (and_right (and_right c32)))
  | 5, 1, 0, _, _, _ => (and_left c33)
  | 5, 1, 1, _, _, _ => (and_left (and_right c33))
  | 5, 2, 0, _, _, _ => (and_left (and_right (and_right c33)))
  | 5, 2, 1, _, _, _ => (and_right (and_right (and_right c33)))
  | 5, 3, 0, _, _, _ => (and_left c34)
  | 5, 3, 1, _, _, _ => (and_left (and_right c34))
  | 5, 4, 0, _, _, _ => (and_left (and_right (and_right c34)))
  | 5, 4, 1, _, _, _ => (and_right (and_right (and_right c34)))
  | 5, 5, 0, _, _, _ => (and_left c35)
  | 5, 5, 1, _, _, _ => (and_left (and_right c35))
  | 5, 6, 0, _, _, _ => (and_left (and_right (and_right c35)))
  | 5, 6, 1, _, _, _ => (and_right (and_right (and_right c35)))
  | 5, 7, 0, _, _, _ => (and_left c36)
  | 5, 7, 1, _, _, _ => (and_left (and_right c36))
  | 5, 8, 0, _, _, _ => (and_left (and_right (and_right c36)))
  | 5, 8, 1, _, _, _ => (and_right (and_right (and_right c36)))
  | 5, 9, 0, _, _, _ => (and_left c37)
  | 5, 9, 1, _, _, _ => (and_left (and_right c37))
  | 5, 10, 0, _, _, _ => (and_left (and_right (and_right c37)))
  | 5, 10, 1, _, _, _ => (and_right (and_right (and_right c37)))
  | 5, 11, 0, _, _, _ => (and_left c38)
  | 5, 11, 1, _, _, _ => (and_left (and_right c38))
  | 5, 12, 0, _, _, _ => (and_left (and_right (and_right c38)))
  | 5, 12, 1, _, _, _ => (and_right (and_right (and_right c38)))
  | 6, 0, 0, _, _, _ => (and_left c39)
  | 6, 0, 1, _, _, _ => (and_left (and_right c39))
  | 6, 1, 0, _, _, _ => (and_left (and_right (and_right c39)))
  | 6, 1, 1, _, _, _ => (and_right (and_right (and_right c39)))
  | 6, 2, 0, _, _, _ => (and_left c40)
  | 6, 2, 1, _, _, _ => (and_left (and_right c40))
  | 6, 3, 0, _, _, _ => (and_left (and_right (and_right c40)))
  | 6, 3, 1, _, _, _ => (and_right (and_right (and_right c40)))
  | 6, 4, 0, _, _, _ => (and_left c41)
  | 6, 4, 1, _, _, _ => (and_left (and_right c41))
  | 6, 5, 0, _, _, _ => (and_left (and_right (and_right c41)))
  | 6, 5, 1, _, _, _ => (and_right (and_right (and_right c41)))
  | 6, 6, 0, _, _, _ => (and_left c42)
  | 6, 6, 1, _, _, _ => (and_left (and_right c42))
  | 6, 7, 0, _, _, _ => (and_left (and_right (and_right c42)))
  | 6, 7, 1, _, _, _ => (and_right (and_right (and_right c42)))
  | 6, 8, 0, _, _, _ => (and_left c43)
  | 6, 8, 1, _, _, _ => (and_left (and_right c43))
  | 6, 9, 0, _, _, _ => (and_left (and_right (and_right c43)))
  | 6, 9, 1, _, _, _ => (and_right (and_right (and_right c43)))
  | 6, 10, 0, _, _, _ => (and_left c44)
  | 6, 10, 1, _, _, _ => (and_left (and_right c44))
  | 6, 11, 0, _, _, _ => (and_left (and_right (and_right c44)))
  | 6, 11, 1, _, _, _ => (and_right (and_right (and_right c44)))
  | 6, 12, 0, _, _, _ => (and_left c45)
  | 6, 12, 1, _, _, _ => (and_left (and_right c45))
  | 7, 0, 0, _, _, _ => (and_left (and_right (and_right c45)))
  | 7, 0, 1, _, _, _ => (and_right (and_right (and_right c45)))
  | 7, 1, 0, _, _, _ => (and_left c46)
  | 7, 1, 1, _, _, _ => (and_left (and_right c46))
  | 7, 2, 0, _, _, _ => (and_left (and_right (and_right c46)))
  | 7, 2, 1, _, _, _ => (and_right (and_right (and_right c46)))
  | 7, 3, 0, _, _, _ => (and_left c47)
  | 7, 3, 1, _, _, _ => (and_left (and_right c47))
  | 7, 4, 0, _, _, _ => (and_left (and_right (and_right c47)))
  | 7, 4, 1, _, _, _ => (and_right (and_right (and_right c47)))
  | 7, 5, 0, _, _, _ => (and_left c48)
  | 7, 5, 1, _, _, _ => (and_left (and_right c48))
  | 7, 6, 0, _, _, _ => (and_left (and_right (and_right c48)))
  | 7, 6, 1, _, _, _ => (and_right (and_right (and_right c48)))
  | 7, 7, 0, _, _, _ => (and_left c49)
  | 7, 7, 1, _, _, _ => (and_left (and_right c49))
  | 7, 8, 0, _, _, _ => (and_left (and_right (and_right c49)))
  | 7, 8, 1, _, _, _ => (and_right (and_right (and_right c49)))
  | 7, 9, 0, _, _, _ => (and_left c50)
  | 7, 9, 1, _, _, _ => (and_left (and_right c50))
  | 7, 10, 0, _, _, _ => (and_left (and_right (and_right c50)))
  | 7, 10, 1, _, _, _ => (and_right (and_right (and_right c50)))
  | 7, 11, 0, _, _, _ => (and_left c51)
  | 7, 11, 1, _, _, _ => (and_left (and_right c51))
  | 7, 12, 0, _, _, _ => (and_left (and_right (and_right c51)))
  | 7, 12, 1, _, _, _ => (and_right (and_right (and_right c51)))
  | 8, 0, 0, _, _, _ => (and_left c52)
  | 8, 0, 1, _, _, _ => (and_left (and_right c52))
  | 8, 1, 0, _, _, _ => (and_left (and_right (and_right c52)))
  | 8, 1, 1, _, _, _ => (and_right (and_right (and_right c52)))
  | 8, 2, 0, _, _, _ => (and_left c53)
  | 8, 2, 1, _, _, _ => (and_left (and_right c53))
  | 8, 3, 0, _, _, _ => (and_left (and_right (and_right c53)))
  | 8, 3, 1, _, _, _ => (and_right (and_right (and_right c53)))
  | 8, 4, 0, _, _, _ => (and_left c54)
  | 8, 4, 1, _, _, _ => (and_left (and_right c54))
  | 8, 5, 0, _, _, _ => (and_left (and_right (and_right c54)))
  | 8, 5, 1, _, _, _ => (and_right (and_right (and_right c54)))
  | 8, 6, 0, _, _, _ => (and_left c55)
  | 8, 6, 1, _, _, _ => (and_left (and_right c55))
  | 8, 7, 0, _, _, _ => (and_left (and_right (and_right c55)))
  | 8, 7, 1, _, _, _ => (and_right (and_right (and_right c55)))
  | 8, 8, 0, _, _, _ => (and_left c56)
  | 8, 8, 1, _, _, _ => (and_left (and_right c56))
  | 8, 9, 0, _, _, _ => (and_left (and_right (and_right c56)))
  | 8, 9, 1, _, _, _ => (and_right (and_right (and_right c56)))
  | 8, 10, 0, _, _, _ => (and_left c57)
  | 8, 10, 1, _, _, _ => (and_left (and_right c57))
  | 8, 11, 0, _, _, _ => (and_left (and_right (and_right c57)))
  | 8, 11, 1, _, _, _ => (and_right (and_right (and_right c57)))
  | 8, 12, 0, _, _, _ => (and_left c58)
  | 8, 12, 1, _, _, _ => (and_left (and_right c58))
  | 9, 0, 0, _, _, _ => (and_left (and_right (and_right c58)))
  | 9, 0, 1, _, _, _ => (and_right (and_right (and_right c58)))
  | 9, 1, 0, _, _, _ => (and_left c59)
  | 9, 1, 1, _, _, _ => (and_left (and_right c59))
  | 9, 2, 0, _, _, _ => (and_left (and_right (and_right c59)))
  | 9, 2, 1, _, _, _ => (and_right (and_right (and_right c59)))
  | 9, 3, 0, _, _, _ => (and_left c60)
  | 9, 3, 1, _, _, _ => (and_left (and_right c60))
  | 9, 4, 0, _, _, _ => (and_left (and_right (and_right c60)))
  | 9, 4, 1, _, _, _ => (and_right (and_right (and_right c60)))
  | 9, 5, 0, _, _, _ => (and_left c61)
  | 9, 5, 1, _, _, _ => (and_left (and_right c61))
  | 9, 6, 0, _, _, _ => (and_left (and_right (and_right c61)))
  | 9, 6, 1, _, _, _ => (and_right (and_right (and_right c61)))
  | 9, 7, 0, _, _, _ => (and_left c62)
  | 9, 7, 1, _, _, _ => (and_left (and_right c62))
  | 9, 8, 0, _, _, _ => (and_left (and_right (and_right c62)))
  | 9, 8, 1, _, _, _ => (and_right (and_right (and_right c62)))
  | 9, 9, 0, _, _, _ => (and_left c63)
  | 9, 9, 1, _, _, _ => (and_left (and_right c63))
  | 9, 10, 0, _, _, _ => (and_left (and_right (and_right c63)))
  | 9, 10, 1, _, _, _ => (and_right (and_right (and_right c63)))
  | 9, 11, 0, _, _, _ => (and_left c64)
  | 9, 11, 1, _, _, _ => (and_left (and_right c64))
  | 9, 12, 0, _, _, _ => (and_left (and_right (and_right c64)))
  | 9, 12, 1, _, _, _ => (and_right (and_right (and_right c64)))
  | 10, 0, 0, _, _, _ => (and_left c65)
  | 10, 0, 1, _, _, _ => (and_left (and_right c65))
  | 10, 1, 0, _, _, _ => (and_left (and_right (and_right c65)))
  | 10, 1, 1, _, _, _ => (and_right (and_right (and_right c65)))
  | 10, 2, 0, _, _, _ => (and_left c66)
  | 10, 2, 1, _, _, _ => (and_left (and_right c66))
  | 10, 3, 0, _, _, _ => (and_left (and_right (and_right c66)))
  | 10, 3, 1, _, _, _ => (and_right (and_right (and_right c66)))
  | 10, 4, 0, _, _, _ => (and_left c67)
  | 10, 4, 1, _, _, _ => (and_left (and_right c67))
  | 10, 5, 0, _, _, _ => (and_left (and_right (and_right c67)))
  | 10, 5, 1, _, _, _ => (and_right (and_right (and_right c67)))
  | 10, 6, 0, _, _, _ => (and_left c68)
  | 10, 6, 1, _, _, _ => (and_left (and_right c68))
  | 10, 7, 0, _, _, _ => (and_left (and_right (and_right c68)))
  | 10, 7, 1, _, _, _ => (and_right (and_right (and_right c68)))
  | 10, 8, 0, _, _, _ => (and_left c69)
  | 10, 8, 1, _, _, _ => (and_left (and_right c69))
  | 10, 9, 0, _, _, _ => (and_left (and_right (and_right c69)))
  | 10, 9, 1, _, _, _ => (and_right (and_right (and_right c69)))
  | 10, 10, 0, _, _, _ => (and_left c70)
  | 10, 10, 1, _, _, _ => (and_left (and_right c70))
  | 10, 11, 0, _, _, _ => (and_left (and_right (and_right c70)))
  | 10, 11, 1, _, _, _ => (and_right (and_right (and_right c70)))
  | 10, 12, 0, _, _, _ => (and_left c71)
  | 10, 12, 1, _, _, _ => (and_left (and_right c71))
  | 11, 0, 0, _, _, _ => (and_left (and_right (and_right c71)))
  | 11, 0, 1, _, _, _ => (and_right (and_right (and_right c71)))
  | 11, 1, 0, _, _, _ => (and_left c72)
  | 11, 1, 1, _, _, _ => (and_left (and_right c72))
  | 11, 2, 0, _, _, _ => (and_left (and_right (and_right c72)))
  | 11, 2, 1, _, _, _ => (and_right (and_right (and_right c72)))
  | 11, 3, 0, _, _, _ => (and_left c73)
  | 11, 3, 1, _, _, _ => (and_left (and_right c73))
  | 11, 4, 0, _, _, _ => (and_left (and_right (and_right c73)))
  | 11, 4, 1, _, _, _ => (and_right (and_right (and_right c73)))
  | 11, 5, 0, _, _, _ => (and_left c74)
  | 11, 5, 1, _, _, _ => (and_left (and_right c74))
  | 11, 6, 0, _, _, _ => (and_left (and_right (and_right c74)))
  | 11, 6, 1, _, _, _ => (and_right (and_right (and_right c74)))
  | 11, 7, 0, _, _, _ => (and_left c75)
  | 11, 7, 1, _, _, _ => (and_left (and_right c75))
  | 11, 8, 0, _, _, _ => (and_left (and_right (and_right c75)))
  | 11, 8, 1, _, _, _ => (and_right (and_right (and_right c75)))
  | 11, 9, 0, _, _, _ => (and_left c76)
  | 11, 9, 1, _, _, _ => (and_left (and_right c76))
  | 11, 10, 0, _, _, _ => (and_left (and_right (and_right c76)))
  | 11, 10, 1, _, _, _ => (and_right (and_right (and_right c76)))
  | 11, 11, 0, _, _, _ => (and_left c77)
  | 11, 11, 1, _, _, _ => (and_left (and_right c77))
  | 11, 12, 0, _, _, _ => (and_left (and_right (and_right c77)))
  | 11, 12, 1, _, _, _ => (and_right (and_right (and_right c77)))
  | 12, 0, 0, _, _, _ => (and_left c78)
  | 12, 0, 1, _, _, _ => (and_left (and_right c78))
  | 12, 1, 0, _, _, _ => (and_left (and_right (and_right c78)))
  | 12, 1, 1, _, _, _ => (and_right (and_right (and_right c78)))
  | 12, 2, 0, _, _, _ => (and_left c79)
  | 12, 2, 1, _, _, _ => (and_left (and_right c79))
  | 12, 3, 0, _, _, _ => (and_left (and_right (and_right c79)))
  | 12, 3, 1, _, _, _ => (and_right (and_right (and_right c79)))
  | 12, 4, 0, _, _, _ => (and_left c80)
  | 12, 4, 1, _, _, _ => (and_left (and_right c80))
  | 12, 5, 0, _, _, _ => (and_left (and_right (and_right c80)))
  | 12, 5, 1, _, _, _ => (and_right (and_right (and_right c80)))
  | 12, 6, 0, _, _, _ => (and_left c81)
  | 12, 6, 1, _, _, _ => (and_left (and_right c81))
  | 12, 7, 0, _, _, _ => (and_left (and_right (and_right c81)))
  | 12, 7, 1, _, _, _ => (and_right (and_right (and_right c81)))
  | 12, 8, 0, _, _, _ => (and_left c82)
  | 12, 8, 1, _, _, _ => (and_left (and_right c82))
  | 12, 9, 0, _, _, _ => (and_left (and_right (and_right c82)))
  | 12, 9, 1, _, _, _ => (and_right (and_right (and_right c82)))
  | 12, 10, 0, _, _, _ => (and_left c83)
  | 12, 10, 1, _, _, _ => (and_left (and_right c83))
  | 12, 11, 0, _, _, _ => (and_left (and_right (and_right c83)))
  | 12, 11, 1, _, _, _ => (and_right (and_right (and_right c83)))
  | 12, 12, 0, _, _, _ => (and_left c84)
  | 12, 12, 1, _, _, _ => (and_right c84)
  | n + 13, _, _, h, _, _ => absurd h (by omega)
  | _, n + 13, _, _, h, _ => absurd h (by omega)
  | _, _, n + 2, _, _, h => absurd h (by omega)
def parts : Desc := [(0, 13, 2), (1, 13, 2), (2, 2, 2), (21, 13, 2), (24, 13, 2), (62, 2, 2)]
theorem partsOk : okFn Tryz.prog (modParts parts) 7 = true := by kernel_rfl
theorem walk (a0 : Int) (a1 : Int) (a2 : Int) (w0 : (Lit.int .u8 a0).wf = true) (w1 : (Lit.int .u8 a1).wf = true) (w2 : (Lit.int .u8 a2).wf = true) (w : World) :
    Calls Tryz.prog 7 #[.int .u8 a0, .int .u8 a1, .int .u8 a2] w fun e w' => e = .returned (.bool true) ∧ Kept w w' := by
  have p0 : 0 ≤ a0 := by have h := w0; simp [Lit.wf, IntKind.min, IntKind.max, IntKind.signed, IntKind.bits] at h; omega
  have p1 : 0 ≤ a1 := by have h := w1; simp [Lit.wf, IntKind.min, IntKind.max, IntKind.signed, IntKind.bits] at h; omega
  have p2 : 0 ≤ a2 := by have h := w2; simp [Lit.wf, IntKind.min, IntKind.max, IntKind.signed, IntKind.bits] at h; omega
  have h := cases (a0.toNat % 13) (a1.toNat % 13) (a2.toNat % 2) (Nat.mod_lt _ (by decide)) (Nat.mod_lt _ (by decide)) (Nat.mod_lt _ (by decide))
  have hk : Knows Tryz.prog 7 [.int .u8 a0, .int .u8 a1, .int .u8 a2] (.bool true) := by
    refine quick_part (args := [.int .u8 (.ofNat (a0.toNat % 13)), .int .u8 (.ofNat (a1.toNat % 13)), .int .u8 (.ofNat (a2.toNat % 2))]) (pl := [57, 67, 68, 69, 78, 81, 93]) (m0 := 200) (m := 300) mix tabs knownOk (modSp_ok _ parts) (by rw [tells_eq] at h; exact h) rfl rfl partsOk rfl (fun t => ?_) rfl
    match t with
    | 0 => exact vpart_nat rfl p0
    | 1 => exact vpart_nat rfl p1
    | 2 => exact vpart_nat rfl p2
    | n + 3 => exact .inl rfl
  exact (hk.calls w).mono fun e w' h => ⟨h.1, h.2.1⟩

/-! ### THE ROW's STEP: WRITTEN OUT: LEAVE IT -/
set_option maxRecDepth 100000 in
theorem lifted (os : Os) (started : os.Started) (H : Type) (enc : TypeId × Value → H) :
    ReturnsInHanded {} Tryz.checked os 7 .any (Rows.typesManySpec.pre6 enc Tryz.prog Tryz.f7 Rows.typesManyRow.domain false) (Rows.typesManySpec.post enc Tryz.prog Tryz.f7 false true false false) := by
  refine returnsInHanded_of_change (C := Tryz.checked) own started (by kernel_rfl) Tryz.func7
    (ChangeSpec.witness6 (enc := enc) (C := Tryz.checked) false ⟨#[], #[.int .u8 0, .int .u8 0, .int .u8 0], []⟩ 8 (by kernel_rfl) (by kernel_rfl) (by kernel_rfl) (by kernel_rfl)) ?_
  intro W base args ds gs before hval0 hW hcnd _
  have hval : ∀ (j : Nat) t v, Tryz.f7.params[j]? = some t → args[j]? = some v → Value.okWide Tryz.prog W .any base t v := hval0
  have hW' := hW
  obtain ⟨p, q, hA0, hV, rfl, hfz, hnd⟩ := hW
  have hA : DataW.TrodAll enc Tryz.prog W 0 (fun _ => true) true Tryz.f7.params.toList args.toList ds p := hA0
  rw [Tryz.params7] at hA hval
  obtain ⟨v0, vs0, d0, ds0, p0, q0, hargs, rfl, rfl, h0, r0⟩ := trodAll_cons hA
  obtain ⟨v1, vs1, d1, ds1, p1, q1, rfl, rfl, rfl, h1, r1⟩ := trodAll_cons r0
  obtain ⟨v2, vs2, d2, ds2, p2, q2, rfl, rfl, rfl, h2, r2⟩ := trodAll_cons r1
  obtain ⟨rfl, rfl, rfl⟩ := trodAll_nil r2
  obtain rfl : args = #[v0, v1, v2] := by cases args; simp_all
  obtain ⟨rfl, rfl⟩ := trodVars_none hV
  obtain ⟨a0, rfl, rfl, rfl, w0⟩ := open_int Tryz.underlying5 (hval 0 5 v0 rfl rfl) h0
  obtain ⟨a1, rfl, rfl, rfl, w1⟩ := open_int Tryz.underlying5 (hval 1 5 v1 rfl rfl) h1
  obtain ⟨a2, rfl, rfl, rfl, w2⟩ := open_int Tryz.underlying5 (hval 2 5 v2 rfl rfl) h2
  clear hA0 hval0
  simp only [List.append_nil] at hW'
  refine (walk a0 a1 a2 w0 w1 w2 W).mono fun e W' ⟨he, hg⟩ => ?_
  subst he
  exact ⟨_, rfl, post_of_kept (pa := []) (pv := []) hW' (fun _ _ _ => (trodAll_cons_mk (shut_bool Tryz.underlying4 _) trodAll_mk0)) (fun sp _ => (trodAll_cons_mk (shut_int Tryz.underlying5 w0) (trodAll_cons_mk (shut_int Tryz.underlying5 w1) (trodAll_cons_mk (shut_int Tryz.underlying5 w2) trodAll_mk0)))) (fun _ _ => rfl) rfl
    hg (ok_one (by kernel_rfl) rfl (okWide_bool_mk Tryz.underlying4 _))⟩

theorem over : Rows.typesManyRow.holds Tryz.pinned (OpenSpec.ofChange Rows.typesManySpec) :=
  OpenClaim.holds_of_wide 7 Tryz.f7 rfl rfl rfl rfl rfl rfl rfl ⟨rfl, rfl, rfl, rfl, rfl⟩ rfl rfl rfl rfl rfl (by kernel_rfl) Tryz.func7 (by kernel_rfl)
    (of_decide_eq_true (by kernel_rfl)) (by unfold Func.isWrapper; first | (rw [if_pos (by decide +kernel)]; kernel_rfl) | (rw [if_neg (by decide +kernel)]; exact ⟨rfl, rfl⟩))
    (fun os started H enc _ => lifted os started H enc)

/-- ████ THE STATEMENT ████ -/
theorem proved : Rows.TypesManySaid :=
  over
#print axioms proved
end Go.Proofs.YtpioabhlihabfaaGreat.typesMany
