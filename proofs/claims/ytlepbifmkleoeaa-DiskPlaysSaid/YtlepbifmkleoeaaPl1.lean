/-
  The walk through the disk's code, part 1: what its functions do to memory. Nothing is asked.
-/
import Derived.Test.YtlepbifmkleoeaaPlW
set_option linter.all false
namespace Go.Proofs.Ytlepbifmkleoeaa
open Go Go.Ag
set_option linter.unusedVariables false
set_option maxRecDepth 100000

def O : Known := fun f args => if f = 4 ∧ args = [] then some (.bool true) else none
theorem O_none {f : FuncId} {args : List Value} (h : f ≠ 4) : O f args = none := by unfold O; rw [if_neg (fun e => h e.1)]

/-- a disk's struct -/
def diskL (made now writes : Value) (halt : Int) (cut : Bool) : List Value := [made, now, writes, .int .i64 halt, .bool cut]

theorem writes13 {S : MS} {d : Nat} {made now : Value} {wa : Option Addr} {wn wc : Nat} {halt : Int} {cut : Bool} {es : Nat} {Q : Value → MS → Prop}
    (h : S.m d = some (.cells (diskL made now (.slice wa wn wc) halt cut) es)) (hq : Q (.int .i64 wn) S) : CallM Try.prog O 13 [.pointer (some ⟨d, 0, none⟩)] S Q := by
  refine callM_body (fnIs is13 body13 res13) (O_none (by decide)) (by simp) ?_
  refine m_seq (m_reg ?_)
  rw [reg13_0]
  refine m_seq (m_reg ?_)
  rw [reg13_1]
  simp [FT.get_set, FT.setL, faS_ptr, nilS_ptr, ldS_ptr, list_of h, list_cells, partS_none, diskL, lenSl_of]
  refine m_ret ?_
  simp [resM, FT.get_set, oneOrTuple]
  exact hq
end Go.Proofs.Ytlepbifmkleoeaa
