/-
  No cell of these rows narrows 'for every input' (looked for: loops, veiled, ifaces, maps, wideKeys, modest, calm, conditions, laid).
  DERIVED. THE GIVEN ROWS OF THIS SEAT. 2 by the template 'for every input the law returns true; each argument reads behind the call as it read before'; 0 by the template 'total and deterministic' (their statements: YtikdcdccpbnaeaaTotals.lean).
  GIVEN WITH THE SEED: the statements are not yours to turn. If you find one false, say at which input.
  Laid BY PROGRAM, IN A SANDBOX (cutbox-rows.mjs): the forced cells as the released guide's own fill.sh prints them over the translation f5b907bff94a5dd4… (all of the seat's roots in one cut). By AI agents, Wed Nov 11 2026. No macro, syntax, notation, axiom, sorry.
-/
import Derived.Test.YtikdcdccpbnaeaaChecked
import GoSem.Claim
import GoSem.ClaimJoined
import GoSem.ClaimMapViews
import Derived.JoinedTies
import Derived.KernelRfl
namespace Go.Proofs.Ytikdcdccpbnaeaa
/- THE CELL 'sum', in the pinned program and in every row, IS THE sha256 OF THE DUMP (.gsa) THAT YtikdcdccpbnaeaaProg.lean LOADS. Nothing in Lean hashes anything: it is a label: what it is worth is what the hold of that sum in a sandbox is worth. -/
noncomputable def Try.pinned : Pinned := { name := "ytikdcdccpbnaeaa", sum := "f5b907bff94a5dd4ec98d5a9664ed17606ec8fe0e68db6a40944efad5a8f9417", checked := Try.checked }
namespace Rows
def none {H : Type} : Left H := { results := [], args := [] }

/-- 'windlasslaw21.OutboxArrives': WHATEVER THE INPUT: true; the input reads as it did. -/
def outboxArrivesSpec : ChangeSpec := { name := "outboxArrives", fn := fun _ => fun
  | [d1, d2] => { results := [.lit (.bool true)], args := [d1, d2] }
  | _ => none }
def outboxArrivesRow : OpenClaim := { program := "ytikdcdccpbnaeaa", sum := "f5b907bff94a5dd4ec98d5a9664ed17606ec8fe0e68db6a40944efad5a8f9417", func := "windlass/windlasslaw21.OutboxArrives", spec := "outboxArrives", unfollowed := true, recurses := true, apart := false }
def OutboxArrivesSaid : Prop := outboxArrivesRow.holds Try.pinned (OpenSpec.ofChange outboxArrivesSpec)

/-- ITS FALSE NEIGHBOUR: 'it returns false'. Refute it at one input. -/
def outboxArrivesWrong : ChangeSpec := { name := "outboxArrives", fn := fun _ => fun
  | [d1, d2] => { results := [.lit (.bool false)], args := [d1, d2] }
  | _ => none }
def OutboxArrivesWrongFalsely : Prop := outboxArrivesRow.holds Try.pinned (OpenSpec.ofChange outboxArrivesWrong)

/-- 'windlasslaw21.OutboxLast': WHATEVER THE INPUT: true; the input reads as it did. -/
def outboxLastSpec : ChangeSpec := { name := "outboxLast", fn := fun _ => fun
  | [d] => { results := [.lit (.bool true)], args := [d] }
  | _ => none }
def outboxLastRow : OpenClaim := { program := "ytikdcdccpbnaeaa", sum := "f5b907bff94a5dd4ec98d5a9664ed17606ec8fe0e68db6a40944efad5a8f9417", func := "windlass/windlasslaw21.OutboxLast", spec := "outboxLast", unfollowed := true, recurses := true, apart := false }
def OutboxLastSaid : Prop := outboxLastRow.holds Try.pinned (OpenSpec.ofChange outboxLastSpec)

/-- ITS FALSE NEIGHBOUR: 'it returns false'. Refute it at one input. -/
def outboxLastWrong : ChangeSpec := { name := "outboxLast", fn := fun _ => fun
  | [d] => { results := [.lit (.bool false)], args := [d] }
  | _ => none }
def OutboxLastWrongFalsely : Prop := outboxLastRow.holds Try.pinned (OpenSpec.ofChange outboxLastWrong)

/- THE SECOND FORM. 'bulk': how many values and letters a reading holds, each counted each time it is reached (what is shared counts as often as it is met; a slice's spare places count too). A statement '..UptoSaid' is the law's where the arguments, and the package variables that the reading takes, are together of bulk at most 1048576: NARROWER than '..Said'. Prove '..Said' where nothing that the law and all that it calls make is longer than what came in: it says more and counts as full. Else prove '..UptoSaid'. A law counts once. -/
mutual
def uptoBulk {H : Type} : DataW H → Nat
  | .lit (.string bytes) => bytes.length + 1
  | .lit _ => 1
  | .nil => 1
  | .ptr d => uptoBulk d + 1
  | .slice elems spare => uptoBulkAll elems + uptoBulkAll spare + 1
  | .agg parts => uptoBulkAll parts + 1
  | .iface _ d => uptoBulk d + 1
  | .map entries => uptoBulkEntries entries + 1
  | .held _ => 1
def uptoBulkAll {H : Type} : List (DataW H) → Nat
  | [] => 0
  | d :: r => uptoBulk d + uptoBulkAll r
def uptoBulkEntries {H : Type} : List (Lit × DataW H) → Nat
  | [] => 0
  | x :: r => uptoBulkEntry x + uptoBulkEntries r
def uptoBulkEntry {H : Type} : Lit × DataW H → Nat
  | (.string bytes, d) => bytes.length + uptoBulk d + 1
  | (_, d) => uptoBulk d + 1
 end
def uptoSmall : (H : Type) → List (DataW H) → Bool := fun _ ds => decide (uptoBulkAll ds ≤ 1048576)
def OpenSpec.upto (s : _root_.Go.ChangeSpec) : _root_.Go.OpenSpec := { _root_.Go.OpenSpec.ofChange s with cond := some uptoSmall }

/-- 'windlasslaw21.OutboxArrives', WHERE WHAT IT READS IS OF BULK AT MOST 1048576: true; the input reads as it did. -/
def outboxArrivesUptoRow : OpenClaim := { program := "ytikdcdccpbnaeaa", sum := "f5b907bff94a5dd4ec98d5a9664ed17606ec8fe0e68db6a40944efad5a8f9417", func := "windlass/windlasslaw21.OutboxArrives", spec := "outboxArrives", unfollowed := true, recurses := true, apart := false, narrowed := true }
def OutboxArrivesUptoSaid : Prop := outboxArrivesUptoRow.holds Try.pinned (OpenSpec.upto outboxArrivesSpec)

/-- 'windlasslaw21.OutboxLast', WHERE WHAT IT READS IS OF BULK AT MOST 1048576: true; the input reads as it did. -/
def outboxLastUptoRow : OpenClaim := { program := "ytikdcdccpbnaeaa", sum := "f5b907bff94a5dd4ec98d5a9664ed17606ec8fe0e68db6a40944efad5a8f9417", func := "windlass/windlasslaw21.OutboxLast", spec := "outboxLast", unfollowed := true, recurses := true, apart := false, narrowed := true }
def OutboxLastUptoSaid : Prop := outboxLastUptoRow.holds Try.pinned (OpenSpec.upto outboxLastSpec)

end Rows
end Go.Proofs.Ytikdcdccpbnaeaa
