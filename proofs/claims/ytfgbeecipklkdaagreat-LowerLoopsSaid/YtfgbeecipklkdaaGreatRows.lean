/-
  No cell of these rows narrows 'for every input' (looked for: loops, veiled, ifaces, maps, wideKeys, modest, calm, conditions, laid).
  DERIVED. THE GIVEN ROWS OF THIS SEAT. 3 by the template 'for every input the law returns true; each argument reads behind the call as it read before'; 0 by the template 'total and deterministic' (their statements: YtfgbeecipklkdaaGreatTotals.lean).
  GIVEN WITH THE SEED: the statements are not yours to turn. If you find one false, say at which input.
  Laid BY PROGRAM, IN A SANDBOX (cutbox-rows.mjs): the forced cells as the released guide's own fill.sh prints them over the translation decf8e65d074b496… (all of the seat's roots in one cut). By AI agents, Wed Nov 11 2026. No macro, syntax, notation, axiom, sorry.
-/
import Derived.Test.YtfgbeecipklkdaaGreatChecked
import GoSem.Claim
import GoSem.ClaimJoined
import GoSem.ClaimMapViews
import Derived.JoinedTies
import Derived.KernelRfl
namespace Go.Proofs.YtfgbeecipklkdaaGreat
/- THE CELL 'sum', in the pinned program and in every row, IS THE sha256 OF THE DUMP (.gsa) THAT YtfgbeecipklkdaaGreatProg.lean LOADS. Nothing in Lean hashes anything: it is a label: what it is worth is what the hold of that sum in a sandbox is worth. -/
noncomputable def Tryz.pinned : Pinned := { name := "ytfgbeecipklkdaagreat", sum := "decf8e65d074b496b5861ff616297f9584a51676f0403cebf6e37dcd9a692cc6", checked := Tryz.checked }
namespace Rows
def none {H : Type} : Left H := { results := [], args := [] }

/-- 'windlasslaw13.LowerLoops': WHATEVER THE INPUT: true; the input reads as it did. -/
def lowerLoopsSpec : ChangeSpec := { name := "lowerLoops", fn := fun _ => fun
  | [d1, d2, d3, d4] => { results := [.lit (.bool true)], args := [d1, d2, d3, d4] }
  | _ => none }
def lowerLoopsRow : OpenClaim := { program := "ytfgbeecipklkdaagreat", sum := "decf8e65d074b496b5861ff616297f9584a51676f0403cebf6e37dcd9a692cc6", func := "windlass/windlasslaw13.LowerLoops", spec := "lowerLoops", unfollowed := true, recurses := true, apart := false }
def LowerLoopsSaid : Prop := lowerLoopsRow.holds Tryz.pinned (OpenSpec.ofChange lowerLoopsSpec)

/-- ITS FALSE NEIGHBOUR: 'it returns false'. Refute it at one input. -/
def lowerLoopsWrong : ChangeSpec := { name := "lowerLoops", fn := fun _ => fun
  | [d1, d2, d3, d4] => { results := [.lit (.bool false)], args := [d1, d2, d3, d4] }
  | _ => none }
def LowerLoopsWrongFalsely : Prop := lowerLoopsRow.holds Tryz.pinned (OpenSpec.ofChange lowerLoopsWrong)

/-- 'windlasslaw13.LowerBegins': WHATEVER THE INPUT: true; the input reads as it did. -/
def lowerBeginsSpec : ChangeSpec := { name := "lowerBegins", fn := fun _ => fun
  | [d1, d2, d3] => { results := [.lit (.bool true)], args := [d1, d2, d3] }
  | _ => none }
def lowerBeginsRow : OpenClaim := { program := "ytfgbeecipklkdaagreat", sum := "decf8e65d074b496b5861ff616297f9584a51676f0403cebf6e37dcd9a692cc6", func := "windlass/windlasslaw13.LowerBegins", spec := "lowerBegins", unfollowed := true, recurses := true, apart := false }
def LowerBeginsSaid : Prop := lowerBeginsRow.holds Tryz.pinned (OpenSpec.ofChange lowerBeginsSpec)

/-- ITS FALSE NEIGHBOUR: 'it returns false'. Refute it at one input. -/
def lowerBeginsWrong : ChangeSpec := { name := "lowerBegins", fn := fun _ => fun
  | [d1, d2, d3] => { results := [.lit (.bool false)], args := [d1, d2, d3] }
  | _ => none }
def LowerBeginsWrongFalsely : Prop := lowerBeginsRow.holds Tryz.pinned (OpenSpec.ofChange lowerBeginsWrong)

/-- 'windlasslaw16.InlineSmall': WHATEVER THE INPUT: true; the input reads as it did. -/
def inlineSmallSpec : ChangeSpec := { name := "inlineSmall", fn := fun _ => fun
  | [d1, d2] => { results := [.lit (.bool true)], args := [d1, d2] }
  | _ => none }
def inlineSmallRow : OpenClaim := { program := "ytfgbeecipklkdaagreat", sum := "decf8e65d074b496b5861ff616297f9584a51676f0403cebf6e37dcd9a692cc6", func := "windlass/windlasslaw16.InlineSmall", spec := "inlineSmall", unfollowed := true, recurses := true, apart := false }
def InlineSmallSaid : Prop := inlineSmallRow.holds Tryz.pinned (OpenSpec.ofChange inlineSmallSpec)

/-- ITS FALSE NEIGHBOUR: 'it returns false'. Refute it at one input. -/
def inlineSmallWrong : ChangeSpec := { name := "inlineSmall", fn := fun _ => fun
  | [d1, d2] => { results := [.lit (.bool false)], args := [d1, d2] }
  | _ => none }
def InlineSmallWrongFalsely : Prop := inlineSmallRow.holds Tryz.pinned (OpenSpec.ofChange inlineSmallWrong)

/- THE SECOND FORM. 'bulk': how many values and letters a reading holds, each counted each time it is reached (what is shared counts as often as it is met; a slice's spare places count too). A statement '..UptoSaid' is the law's where the arguments, and the package variables that the reading takes, are together of bulk at most 1048576: NARROWER than '..Said'. Prove '..Said' where nothing that the law and all that it calls make is longer than what came in: it says more and counts as full. Else prove '..UptoSaid'. A law counts once. -/
mutual
def uptoBulk {H : Type} : DataW H → Nat
  | .lit (.string bytes) => bytes.length + 1
  | .lit _ => 1
  | .nil => 1
  | .ptr d => uptoBulk d + 1
  | .slice elems spare => uptoBulkAll elems + uptoBulkAll spare + 1
  | .agg parts => uptoBulkAll parts + 1
  | .iface _ d => uptoBulk d + 1
  | .map entries => uptoBulkEntries entries + 1
  | .held _ => 1
def uptoBulkAll {H : Type} : List (DataW H) → Nat
  | [] => 0
  | d :: r => uptoBulk d + uptoBulkAll r
def uptoBulkEntries {H : Type} : List (Lit × DataW H) → Nat
  | [] => 0
  | x :: r => uptoBulkEntry x + uptoBulkEntries r
def uptoBulkEntry {H : Type} : Lit × DataW H → Nat
  | (.string bytes, d) => bytes.length + uptoBulk d + 1
  | (_, d) => uptoBulk d + 1
 end
def uptoSmall : (H : Type) → List (DataW H) → Bool := fun _ ds => decide (uptoBulkAll ds ≤ 1048576)
def OpenSpec.upto (s : _root_.Go.ChangeSpec) : _root_.Go.OpenSpec := { _root_.Go.OpenSpec.ofChange s with cond := some uptoSmall }

/-- 'windlasslaw13.LowerLoops', WHERE WHAT IT READS IS OF BULK AT MOST 1048576: true; the input reads as it did. -/
def lowerLoopsUptoRow : OpenClaim := { program := "ytfgbeecipklkdaagreat", sum := "decf8e65d074b496b5861ff616297f9584a51676f0403cebf6e37dcd9a692cc6", func := "windlass/windlasslaw13.LowerLoops", spec := "lowerLoops", unfollowed := true, recurses := true, apart := false, narrowed := true }
def LowerLoopsUptoSaid : Prop := lowerLoopsUptoRow.holds Tryz.pinned (OpenSpec.upto lowerLoopsSpec)

/-- 'windlasslaw13.LowerBegins', WHERE WHAT IT READS IS OF BULK AT MOST 1048576: true; the input reads as it did. -/
def lowerBeginsUptoRow : OpenClaim := { program := "ytfgbeecipklkdaagreat", sum := "decf8e65d074b496b5861ff616297f9584a51676f0403cebf6e37dcd9a692cc6", func := "windlass/windlasslaw13.LowerBegins", spec := "lowerBegins", unfollowed := true, recurses := true, apart := false, narrowed := true }
def LowerBeginsUptoSaid : Prop := lowerBeginsUptoRow.holds Tryz.pinned (OpenSpec.upto lowerBeginsSpec)

/-- 'windlasslaw16.InlineSmall', WHERE WHAT IT READS IS OF BULK AT MOST 1048576: true; the input reads as it did. -/
def inlineSmallUptoRow : OpenClaim := { program := "ytfgbeecipklkdaagreat", sum := "decf8e65d074b496b5861ff616297f9584a51676f0403cebf6e37dcd9a692cc6", func := "windlass/windlasslaw16.InlineSmall", spec := "inlineSmall", unfollowed := true, recurses := true, apart := false, narrowed := true }
def InlineSmallUptoSaid : Prop := inlineSmallUptoRow.holds Tryz.pinned (OpenSpec.upto inlineSmallSpec)

end Rows
end Go.Proofs.YtfgbeecipklkdaaGreat
