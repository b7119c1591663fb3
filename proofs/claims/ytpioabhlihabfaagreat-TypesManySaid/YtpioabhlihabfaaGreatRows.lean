/-
  No cell of these rows narrows 'for every input' (looked for: loops, veiled, ifaces, maps, wideKeys, modest, calm, conditions, laid).
  DERIVED. THE GIVEN ROWS OF THIS SEAT. 5 by the template 'for every input the law returns true; each argument reads behind the call as it read before'; 0 by the template 'total and deterministic' (their statements: YtpioabhlihabfaaGreatTotals.lean).
  GIVEN WITH THE SEED: the statements are not yours to turn. If you find one false, say at which input.
  Laid BY PROGRAM, IN A SANDBOX (cutbox-rows.mjs): the forced cells as the released guide's own fill.sh prints them over the translation 3357c4c290b7a240… (all of the seat's roots in one cut). By AI agents, Wed Nov 11 2026. No macro, syntax, notation, axiom, sorry.
-/
import Derived.Test.YtpioabhlihabfaaGreatChecked
import GoSem.Claim
import GoSem.ClaimJoined
import GoSem.ClaimMapViews
import Derived.JoinedTies
import Derived.KernelRfl
namespace Go.Proofs.YtpioabhlihabfaaGreat
/- THE CELL 'sum', in the pinned program and in every row, IS THE sha256 OF THE DUMP (.gsa) THAT YtpioabhlihabfaaGreatProg.lean LOADS. Nothing in Lean hashes anything: it is a label: what it is worth is what the hold of that sum in a sandbox is worth. -/
noncomputable def Tryz.pinned : Pinned := { name := "ytpioabhlihabfaagreat", sum := "3357c4c290b7a2401d5275c98298043d8661962458e304986a508221f44c4689", checked := Tryz.checked }
namespace Rows
def none {H : Type} : Left H := { results := [], args := [] }

/-- 'windlasslaw8.TypesOperators': WHATEVER THE INPUT: true; the input reads as it did. -/
def typesOperatorsSpec : ChangeSpec := { name := "typesOperators", fn := fun _ => fun
  | [d1, d2, d3] => { results := [.lit (.bool true)], args := [d1, d2, d3] }
  | _ => none }
def typesOperatorsRow : OpenClaim := { program := "ytpioabhlihabfaagreat", sum := "3357c4c290b7a2401d5275c98298043d8661962458e304986a508221f44c4689", func := "windlass/windlasslaw8.TypesOperators", spec := "typesOperators", unfollowed := true, recurses := true, apart := false }
def TypesOperatorsSaid : Prop := typesOperatorsRow.holds Tryz.pinned (OpenSpec.ofChange typesOperatorsSpec)

/-- ITS FALSE NEIGHBOUR: 'it returns false'. Refute it at one input. -/
def typesOperatorsWrong : ChangeSpec := { name := "typesOperators", fn := fun _ => fun
  | [d1, d2, d3] => { results := [.lit (.bool false)], args := [d1, d2, d3] }
  | _ => none }
def TypesOperatorsWrongFalsely : Prop := typesOperatorsRow.holds Tryz.pinned (OpenSpec.ofChange typesOperatorsWrong)

/-- 'windlasslaw8.TypesLoops': WHATEVER THE INPUT: true; the input reads as it did. -/
def typesLoopsSpec : ChangeSpec := { name := "typesLoops", fn := fun _ => fun
  | [d1, d2, d3] => { results := [.lit (.bool true)], args := [d1, d2, d3] }
  | _ => none }
def typesLoopsRow : OpenClaim := { program := "ytpioabhlihabfaagreat", sum := "3357c4c290b7a2401d5275c98298043d8661962458e304986a508221f44c4689", func := "windlass/windlasslaw8.TypesLoops", spec := "typesLoops", unfollowed := true, recurses := true, apart := false }
def TypesLoopsSaid : Prop := typesLoopsRow.holds Tryz.pinned (OpenSpec.ofChange typesLoopsSpec)

/-- ITS FALSE NEIGHBOUR: 'it returns false'. Refute it at one input. -/
def typesLoopsWrong : ChangeSpec := { name := "typesLoops", fn := fun _ => fun
  | [d1, d2, d3] => { results := [.lit (.bool false)], args := [d1, d2, d3] }
  | _ => none }
def TypesLoopsWrongFalsely : Prop := typesLoopsRow.holds Tryz.pinned (OpenSpec.ofChange typesLoopsWrong)

/-- 'windlasslaw8.TypesScopes': WHATEVER THE INPUT: true; the input reads as it did. -/
def typesScopesSpec : ChangeSpec := { name := "typesScopes", fn := fun _ => fun
  | [d1, d2, d3] => { results := [.lit (.bool true)], args := [d1, d2, d3] }
  | _ => none }
def typesScopesRow : OpenClaim := { program := "ytpioabhlihabfaagreat", sum := "3357c4c290b7a2401d5275c98298043d8661962458e304986a508221f44c4689", func := "windlass/windlasslaw8.TypesScopes", spec := "typesScopes", unfollowed := true, recurses := true, apart := false }
def TypesScopesSaid : Prop := typesScopesRow.holds Tryz.pinned (OpenSpec.ofChange typesScopesSpec)

/-- ITS FALSE NEIGHBOUR: 'it returns false'. Refute it at one input. -/
def typesScopesWrong : ChangeSpec := { name := "typesScopes", fn := fun _ => fun
  | [d1, d2, d3] => { results := [.lit (.bool false)], args := [d1, d2, d3] }
  | _ => none }
def TypesScopesWrongFalsely : Prop := typesScopesRow.holds Tryz.pinned (OpenSpec.ofChange typesScopesWrong)

/-- 'windlasslaw8.TypesEnds': WHATEVER THE INPUT: true; the input reads as it did. -/
def typesEndsSpec : ChangeSpec := { name := "typesEnds", fn := fun _ => fun
  | [d] => { results := [.lit (.bool true)], args := [d] }
  | _ => none }
def typesEndsRow : OpenClaim := { program := "ytpioabhlihabfaagreat", sum := "3357c4c290b7a2401d5275c98298043d8661962458e304986a508221f44c4689", func := "windlass/windlasslaw8.TypesEnds", spec := "typesEnds", unfollowed := true, recurses := true, apart := false }
def TypesEndsSaid : Prop := typesEndsRow.holds Tryz.pinned (OpenSpec.ofChange typesEndsSpec)

/-- ITS FALSE NEIGHBOUR: 'it returns false'. Refute it at one input. -/
def typesEndsWrong : ChangeSpec := { name := "typesEnds", fn := fun _ => fun
  | [d] => { results := [.lit (.bool false)], args := [d] }
  | _ => none }
def TypesEndsWrongFalsely : Prop := typesEndsRow.holds Tryz.pinned (OpenSpec.ofChange typesEndsWrong)

/-- 'windlasslaw8.TypesMany': WHATEVER THE INPUT: true; the input reads as it did. -/
def typesManySpec : ChangeSpec := { name := "typesMany", fn := fun _ => fun
  | [d1, d2, d3] => { results := [.lit (.bool true)], args := [d1, d2, d3] }
  | _ => none }
def typesManyRow : OpenClaim := { program := "ytpioabhlihabfaagreat", sum := "3357c4c290b7a2401d5275c98298043d8661962458e304986a508221f44c4689", func := "windlass/windlasslaw8.TypesMany", spec := "typesMany", unfollowed := true, recurses := true, apart := false }
def TypesManySaid : Prop := typesManyRow.holds Tryz.pinned (OpenSpec.ofChange typesManySpec)

/-- ITS FALSE NEIGHBOUR: 'it returns false'. Refute it at one input. -/
def typesManyWrong : ChangeSpec := { name := "typesMany", fn := fun _ => fun
  | [d1, d2, d3] => { results := [.lit (.bool false)], args := [d1, d2, d3] }
  | _ => none }
def TypesManyWrongFalsely : Prop := typesManyRow.holds Tryz.pinned (OpenSpec.ofChange typesManyWrong)

/- THE SECOND FORM. 'bulk': how many values and letters a reading holds, each counted each time it is reached (what is shared counts as often as it is met; a slice's spare places count too). A statement '..UptoSaid' is the law's where the arguments, and the package variables that the reading takes, are together of bulk at most 1048576: NARROWER than '..Said'. Prove '..Said' where nothing that the law and all that it calls make is longer than what came in: it says more and counts as full. Else prove '..UptoSaid'. A law counts once. -/
mutual
def uptoBulk {H : Type} : DataW H → Nat
  | .lit (.string bytes) => bytes.length + 1
  | .lit _ => 1
  | .nil => 1
  | .ptr d => uptoBulk d + 1
  | .slice elems spare => uptoBulkAll elems + uptoBulkAll spare + 1
  | .agg parts => uptoBulkAll parts + 1
  | .iface _ d => uptoBulk d + 1
  | .map entries => uptoBulkEntries entries + 1
  | .held _ => 1
def uptoBulkAll {H : Type} : List (DataW H) → Nat
  | [] => 0
  | d :: r => uptoBulk d + uptoBulkAll r
def uptoBulkEntries {H : Type} : List (Lit × DataW H) → Nat
  | [] => 0
  | x :: r => uptoBulkEntry x + uptoBulkEntries r
def uptoBulkEntry {H : Type} : Lit × DataW H → Nat
  | (.string bytes, d) => bytes.length + uptoBulk d + 1
  | (_, d) => uptoBulk d + 1
 end
def uptoSmall : (H : Type) → List (DataW H) → Bool := fun _ ds => decide (uptoBulkAll ds ≤ 1048576)
def OpenSpec.upto (s : _root_.Go.ChangeSpec) : _root_.Go.OpenSpec := { _root_.Go.OpenSpec.ofChange s with cond := some uptoSmall }

/-- 'windlasslaw8.TypesOperators', WHERE WHAT IT READS IS OF BULK AT MOST 1048576: true; the input reads as it did. -/
def typesOperatorsUptoRow : OpenClaim := { program := "ytpioabhlihabfaagreat", sum := "3357c4c290b7a2401d5275c98298043d8661962458e304986a508221f44c4689", func := "windlass/windlasslaw8.TypesOperators", spec := "typesOperators", unfollowed := true, recurses := true, apart := false, narrowed := true }
def TypesOperatorsUptoSaid : Prop := typesOperatorsUptoRow.holds Tryz.pinned (OpenSpec.upto typesOperatorsSpec)

/-- 'windlasslaw8.TypesLoops', WHERE WHAT IT READS IS OF BULK AT MOST 1048576: true; the input reads as it did. -/
def typesLoopsUptoRow : OpenClaim := { program := "ytpioabhlihabfaagreat", sum := "3357c4c290b7a2401d5275c98298043d8661962458e304986a508221f44c4689", func := "windlass/windlasslaw8.TypesLoops", spec := "typesLoops", unfollowed := true, recurses := true, apart := false, narrowed := true }
def TypesLoopsUptoSaid : Prop := typesLoopsUptoRow.holds Tryz.pinned (OpenSpec.upto typesLoopsSpec)

/-- 'windlasslaw8.TypesScopes', WHERE WHAT IT READS IS OF BULK AT MOST 1048576: true; the input reads as it did. -/
def typesScopesUptoRow : OpenClaim := { program := "ytpioabhlihabfaagreat", sum := "3357c4c290b7a2401d5275c98298043d8661962458e304986a508221f44c4689", func := "windlass/windlasslaw8.TypesScopes", spec := "typesScopes", unfollowed := true, recurses := true, apart := false, narrowed := true }
def TypesScopesUptoSaid : Prop := typesScopesUptoRow.holds Tryz.pinned (OpenSpec.upto typesScopesSpec)

/-- 'windlasslaw8.TypesEnds', WHERE WHAT IT READS IS OF BULK AT MOST 1048576: true; the input reads as it did. -/
def typesEndsUptoRow : OpenClaim := { program := "ytpioabhlihabfaagreat", sum := "3357c4c290b7a2401d5275c98298043d8661962458e304986a508221f44c4689", func := "windlass/windlasslaw8.TypesEnds", spec := "typesEnds", unfollowed := true, recurses := true, apart := false, narrowed := true }
def TypesEndsUptoSaid : Prop := typesEndsUptoRow.holds Tryz.pinned (OpenSpec.upto typesEndsSpec)

/-- 'windlasslaw8.TypesMany', WHERE WHAT IT READS IS OF BULK AT MOST 1048576: true; the input reads as it did. -/
def typesManyUptoRow : OpenClaim := { program := "ytpioabhlihabfaagreat", sum := "3357c4c290b7a2401d5275c98298043d8661962458e304986a508221f44c4689", func := "windlass/windlasslaw8.TypesMany", spec := "typesMany", unfollowed := true, recurses := true, apart := false, narrowed := true }
def TypesManyUptoSaid : Prop := typesManyUptoRow.holds Tryz.pinned (OpenSpec.upto typesManySpec)

end Rows
end Go.Proofs.YtpioabhlihabfaaGreat
