/-
  No cell of these rows narrows 'for every input' (looked for: loops, veiled, ifaces, maps, wideKeys, modest, calm, conditions, laid).
  DERIVED. THE GIVEN ROWS OF THIS SEAT. 4 by the template 'for every input the law returns true; each argument reads behind the call as it read before'; 0 by the template 'total and deterministic' (their statements: YtgkdmnfmfcdfmaaTotals.lean).
  GIVEN WITH THE SEED: the statements are not yours to turn. If you find one false, say at which input.
  Laid BY PROGRAM, IN A SANDBOX (cutbox-rows.mjs): the forced cells as the released guide's own fill.sh prints them over the translation 33f29be7c99c668f… (all of the seat's roots in one cut). By AI agents, Wed Nov 11 2026. No macro, syntax, notation, axiom, sorry.
-/
import Derived.Test.YtgkdmnfmfcdfmaaChecked
import GoSem.Claim
import GoSem.ClaimJoined
import GoSem.ClaimMapViews
import Derived.JoinedTies
import Derived.KernelRfl
namespace Go.Proofs.Ytgkdmnfmfcdfmaa
/- THE CELL 'sum', in the pinned program and in every row, IS THE sha256 OF THE DUMP (.gsa) THAT YtgkdmnfmfcdfmaaProg.lean LOADS. Nothing in Lean hashes anything: it is a label: what it is worth is what the hold of that sum in a sandbox is worth. -/
noncomputable def Try.pinned : Pinned := { name := "ytgkdmnfmfcdfmaa", sum := "33f29be7c99c668fa90f11d9bc31517e62746294ebe26c0472c7ecd0b58a0d3d", checked := Try.checked }
namespace Rows
def none {H : Type} : Left H := { results := [], args := [] }

/-- 'windlasslaw10.FlowLays': WHATEVER THE INPUT: true; the input reads as it did. -/
def flowLaysSpec : ChangeSpec := { name := "flowLays", fn := fun _ => fun
  | [d] => { results := [.lit (.bool true)], args := [d] }
  | _ => none }
def flowLaysRow : OpenClaim := { program := "ytgkdmnfmfcdfmaa", sum := "33f29be7c99c668fa90f11d9bc31517e62746294ebe26c0472c7ecd0b58a0d3d", func := "windlass/windlasslaw10.FlowLays", spec := "flowLays", unfollowed := true, recurses := true, apart := false }
def FlowLaysSaid : Prop := flowLaysRow.holds Try.pinned (OpenSpec.ofChange flowLaysSpec)

/-- ITS FALSE NEIGHBOUR: 'it returns false'. Refute it at one input. -/
def flowLaysWrong : ChangeSpec := { name := "flowLays", fn := fun _ => fun
  | [d] => { results := [.lit (.bool false)], args := [d] }
  | _ => none }
def FlowLaysWrongFalsely : Prop := flowLaysRow.holds Try.pinned (OpenSpec.ofChange flowLaysWrong)

/-- 'windlasslaw10.FlowSteps': WHATEVER THE INPUT: true; the input reads as it did. -/
def flowStepsSpec : ChangeSpec := { name := "flowSteps", fn := fun _ => fun
  | [d] => { results := [.lit (.bool true)], args := [d] }
  | _ => none }
def flowStepsRow : OpenClaim := { program := "ytgkdmnfmfcdfmaa", sum := "33f29be7c99c668fa90f11d9bc31517e62746294ebe26c0472c7ecd0b58a0d3d", func := "windlass/windlasslaw10.FlowSteps", spec := "flowSteps", unfollowed := true, recurses := true, apart := false }
def FlowStepsSaid : Prop := flowStepsRow.holds Try.pinned (OpenSpec.ofChange flowStepsSpec)

/-- ITS FALSE NEIGHBOUR: 'it returns false'. Refute it at one input. -/
def flowStepsWrong : ChangeSpec := { name := "flowSteps", fn := fun _ => fun
  | [d] => { results := [.lit (.bool false)], args := [d] }
  | _ => none }
def FlowStepsWrongFalsely : Prop := flowStepsRow.holds Try.pinned (OpenSpec.ofChange flowStepsWrong)

/-- 'windlasslaw10.FlowRows': WHATEVER THE INPUT: true; the input reads as it did. -/
def flowRowsSpec : ChangeSpec := { name := "flowRows", fn := fun _ => fun
  | [d1, d2] => { results := [.lit (.bool true)], args := [d1, d2] }
  | _ => none }
def flowRowsRow : OpenClaim := { program := "ytgkdmnfmfcdfmaa", sum := "33f29be7c99c668fa90f11d9bc31517e62746294ebe26c0472c7ecd0b58a0d3d", func := "windlass/windlasslaw10.FlowRows", spec := "flowRows", unfollowed := true, recurses := true, apart := false }
def FlowRowsSaid : Prop := flowRowsRow.holds Try.pinned (OpenSpec.ofChange flowRowsSpec)

/-- ITS FALSE NEIGHBOUR: 'it returns false'. Refute it at one input. -/
def flowRowsWrong : ChangeSpec := { name := "flowRows", fn := fun _ => fun
  | [d1, d2] => { results := [.lit (.bool false)], args := [d1, d2] }
  | _ => none }
def FlowRowsWrongFalsely : Prop := flowRowsRow.holds Try.pinned (OpenSpec.ofChange flowRowsWrong)

/-- 'windlasslaw10.FlowUnits': WHATEVER THE INPUT: true; the input reads as it did. -/
def flowUnitsSpec : ChangeSpec := { name := "flowUnits", fn := fun _ => fun
  | [d] => { results := [.lit (.bool true)], args := [d] }
  | _ => none }
def flowUnitsRow : OpenClaim := { program := "ytgkdmnfmfcdfmaa", sum := "33f29be7c99c668fa90f11d9bc31517e62746294ebe26c0472c7ecd0b58a0d3d", func := "windlass/windlasslaw10.FlowUnits", spec := "flowUnits", unfollowed := true, recurses := true, apart := false }
def FlowUnitsSaid : Prop := flowUnitsRow.holds Try.pinned (OpenSpec.ofChange flowUnitsSpec)

/-- ITS FALSE NEIGHBOUR: 'it returns false'. Refute it at one input. -/
def flowUnitsWrong : ChangeSpec := { name := "flowUnits", fn := fun _ => fun
  | [d] => { results := [.lit (.bool false)], args := [d] }
  | _ => none }
def FlowUnitsWrongFalsely : Prop := flowUnitsRow.holds Try.pinned (OpenSpec.ofChange flowUnitsWrong)

/- THE SECOND FORM. 'bulk': how many values and letters a reading holds, each counted each time it is reached (what is shared counts as often as it is met; a slice's spare places count too). A statement '..UptoSaid' is the law's where the arguments, and the package variables that the reading takes, are together of bulk at most 1048576: NARROWER than '..Said'. Prove '..Said' where nothing that the law and all that it calls make is longer than what came in: it says more and counts as full. Else prove '..UptoSaid'. A law counts once. -/
mutual
def uptoBulk {H : Type} : DataW H → Nat
  | .lit (.string bytes) => bytes.length + 1
  | .lit _ => 1
  | .nil => 1
  | .ptr d => uptoBulk d + 1
  | .slice elems spare => uptoBulkAll elems + uptoBulkAll spare + 1
  | .agg parts => uptoBulkAll parts + 1
  | .iface _ d => uptoBulk d + 1
  | .map entries => uptoBulkEntries entries + 1
  | .held _ => 1
def uptoBulkAll {H : Type} : List (DataW H) → Nat
  | [] => 0
  | d :: r => uptoBulk d + uptoBulkAll r
def uptoBulkEntries {H : Type} : List (Lit × DataW H) → Nat
  | [] => 0
  | x :: r => uptoBulkEntry x + uptoBulkEntries r
def uptoBulkEntry {H : Type} : Lit × DataW H → Nat
  | (.string bytes, d) => bytes.length + uptoBulk d + 1
  | (_, d) => uptoBulk d + 1
 end
def uptoSmall : (H : Type) → List (DataW H) → Bool := fun _ ds => decide (uptoBulkAll ds ≤ 1048576)
def OpenSpec.upto (s : _root_.Go.ChangeSpec) : _root_.Go.OpenSpec := { _root_.Go.OpenSpec.ofChange s with cond := some uptoSmall }

/-- 'windlasslaw10.FlowLays', WHERE WHAT IT READS IS OF BULK AT MOST 1048576: true; the input reads as it did. -/
def flowLaysUptoRow : OpenClaim := { program := "ytgkdmnfmfcdfmaa", sum := "33f29be7c99c668fa90f11d9bc31517e62746294ebe26c0472c7ecd0b58a0d3d", func := "windlass/windlasslaw10.FlowLays", spec := "flowLays", unfollowed := true, recurses := true, apart := false, narrowed := true }
def FlowLaysUptoSaid : Prop := flowLaysUptoRow.holds Try.pinned (OpenSpec.upto flowLaysSpec)

/-- 'windlasslaw10.FlowSteps', WHERE WHAT IT READS IS OF BULK AT MOST 1048576: true; the input reads as it did. -/
def flowStepsUptoRow : OpenClaim := { program := "ytgkdmnfmfcdfmaa", sum := "33f29be7c99c668fa90f11d9bc31517e62746294ebe26c0472c7ecd0b58a0d3d", func := "windlass/windlasslaw10.FlowSteps", spec := "flowSteps", unfollowed := true, recurses := true, apart := false, narrowed := true }
def FlowStepsUptoSaid : Prop := flowStepsUptoRow.holds Try.pinned (OpenSpec.upto flowStepsSpec)

/-- 'windlasslaw10.FlowRows', WHERE WHAT IT READS IS OF BULK AT MOST 1048576: true; the input reads as it did. -/
def flowRowsUptoRow : OpenClaim := { program := "ytgkdmnfmfcdfmaa", sum := "33f29be7c99c668fa90f11d9bc31517e62746294ebe26c0472c7ecd0b58a0d3d", func := "windlass/windlasslaw10.FlowRows", spec := "flowRows", unfollowed := true, recurses := true, apart := false, narrowed := true }
def FlowRowsUptoSaid : Prop := flowRowsUptoRow.holds Try.pinned (OpenSpec.upto flowRowsSpec)

/-- 'windlasslaw10.FlowUnits', WHERE WHAT IT READS IS OF BULK AT MOST 1048576: true; the input reads as it did. -/
def flowUnitsUptoRow : OpenClaim := { program := "ytgkdmnfmfcdfmaa", sum := "33f29be7c99c668fa90f11d9bc31517e62746294ebe26c0472c7ecd0b58a0d3d", func := "windlass/windlasslaw10.FlowUnits", spec := "flowUnits", unfollowed := true, recurses := true, apart := false, narrowed := true }
def FlowUnitsUptoSaid : Prop := flowUnitsUptoRow.holds Try.pinned (OpenSpec.upto flowUnitsSpec)

end Rows
end Go.Proofs.Ytgkdmnfmfcdfmaa
