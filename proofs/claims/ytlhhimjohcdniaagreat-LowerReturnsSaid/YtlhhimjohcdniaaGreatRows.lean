/-
  No cell of these rows narrows 'for every input' (looked for: loops, veiled, ifaces, maps, wideKeys, modest, calm, conditions, laid).
  DERIVED. THE GIVEN ROWS OF THIS SEAT. 5 by the template 'for every input the law returns true; each argument reads behind the call as it read before'; 0 by the template 'total and deterministic' (their statements: YtlhhimjohcdniaaGreatTotals.lean).
  GIVEN WITH THE SEED: the statements are not yours to turn. If you find one false, say at which input.
  Laid BY PROGRAM, IN A SANDBOX (cutbox-rows.mjs): the forced cells as the released guide's own fill.sh prints them over the translation 85d0be5fd582e4b8… (all of the seat's roots in one cut). By AI agents, Wed Nov 11 2026. No macro, syntax, notation, axiom, sorry.
-/
import Derived.Test.YtlhhimjohcdniaaGreatChecked
import GoSem.Claim
import GoSem.ClaimJoined
import GoSem.ClaimMapViews
import Derived.JoinedTies
import Derived.KernelRfl
namespace Go.Proofs.YtlhhimjohcdniaaGreat
/- THE CELL 'sum', in the pinned program and in every row, IS THE sha256 OF THE DUMP (.gsa) THAT YtlhhimjohcdniaaGreatProg.lean LOADS. Nothing in Lean hashes anything: it is a label: what it is worth is what the hold of that sum in a sandbox is worth. -/
noncomputable def Tryz.pinned : Pinned := { name := "ytlhhimjohcdniaagreat", sum := "85d0be5fd582e4b8fe035bc6ff84b16585100b786983095fa52a05417c546e69", checked := Tryz.checked }
namespace Rows
def none {H : Type} : Left H := { results := [], args := [] }

/-- 'windlasslaw13.LowerCalls': WHATEVER THE INPUT: true; the input reads as it did. -/
def lowerCallsSpec : ChangeSpec := { name := "lowerCalls", fn := fun _ => fun
  | [d] => { results := [.lit (.bool true)], args := [d] }
  | _ => none }
def lowerCallsRow : OpenClaim := { program := "ytlhhimjohcdniaagreat", sum := "85d0be5fd582e4b8fe035bc6ff84b16585100b786983095fa52a05417c546e69", func := "windlass/windlasslaw13.LowerCalls", spec := "lowerCalls", unfollowed := true, recurses := true, apart := false }
def LowerCallsSaid : Prop := lowerCallsRow.holds Tryz.pinned (OpenSpec.ofChange lowerCallsSpec)

/-- ITS FALSE NEIGHBOUR: 'it returns false'. Refute it at one input. -/
def lowerCallsWrong : ChangeSpec := { name := "lowerCalls", fn := fun _ => fun
  | [d] => { results := [.lit (.bool false)], args := [d] }
  | _ => none }
def LowerCallsWrongFalsely : Prop := lowerCallsRow.holds Tryz.pinned (OpenSpec.ofChange lowerCallsWrong)

/-- 'windlasslaw13.LowerOrder': WHATEVER THE INPUT: true; the input reads as it did. -/
def lowerOrderSpec : ChangeSpec := { name := "lowerOrder", fn := fun _ => fun
  | [d1, d2] => { results := [.lit (.bool true)], args := [d1, d2] }
  | _ => none }
def lowerOrderRow : OpenClaim := { program := "ytlhhimjohcdniaagreat", sum := "85d0be5fd582e4b8fe035bc6ff84b16585100b786983095fa52a05417c546e69", func := "windlass/windlasslaw13.LowerOrder", spec := "lowerOrder", unfollowed := true, recurses := true, apart := false }
def LowerOrderSaid : Prop := lowerOrderRow.holds Tryz.pinned (OpenSpec.ofChange lowerOrderSpec)

/-- ITS FALSE NEIGHBOUR: 'it returns false'. Refute it at one input. -/
def lowerOrderWrong : ChangeSpec := { name := "lowerOrder", fn := fun _ => fun
  | [d1, d2] => { results := [.lit (.bool false)], args := [d1, d2] }
  | _ => none }
def LowerOrderWrongFalsely : Prop := lowerOrderRow.holds Tryz.pinned (OpenSpec.ofChange lowerOrderWrong)

/-- 'windlasslaw13.LowerTells': WHATEVER THE INPUT: true; the input reads as it did. -/
def lowerTellsSpec : ChangeSpec := { name := "lowerTells", fn := fun _ => fun
  | [d1, d2, d3] => { results := [.lit (.bool true)], args := [d1, d2, d3] }
  | _ => none }
def lowerTellsRow : OpenClaim := { program := "ytlhhimjohcdniaagreat", sum := "85d0be5fd582e4b8fe035bc6ff84b16585100b786983095fa52a05417c546e69", func := "windlass/windlasslaw13.LowerTells", spec := "lowerTells", unfollowed := true, recurses := true, apart := false }
def LowerTellsSaid : Prop := lowerTellsRow.holds Tryz.pinned (OpenSpec.ofChange lowerTellsSpec)

/-- ITS FALSE NEIGHBOUR: 'it returns false'. Refute it at one input. -/
def lowerTellsWrong : ChangeSpec := { name := "lowerTells", fn := fun _ => fun
  | [d1, d2, d3] => { results := [.lit (.bool false)], args := [d1, d2, d3] }
  | _ => none }
def LowerTellsWrongFalsely : Prop := lowerTellsRow.holds Tryz.pinned (OpenSpec.ofChange lowerTellsWrong)

/-- 'windlasslaw13.LowerReturns': WHATEVER THE INPUT: true; the input reads as it did. -/
def lowerReturnsSpec : ChangeSpec := { name := "lowerReturns", fn := fun _ => fun
  | [d1, d2] => { results := [.lit (.bool true)], args := [d1, d2] }
  | _ => none }
def lowerReturnsRow : OpenClaim := { program := "ytlhhimjohcdniaagreat", sum := "85d0be5fd582e4b8fe035bc6ff84b16585100b786983095fa52a05417c546e69", func := "windlass/windlasslaw13.LowerReturns", spec := "lowerReturns", unfollowed := true, recurses := true, apart := false }
def LowerReturnsSaid : Prop := lowerReturnsRow.holds Tryz.pinned (OpenSpec.ofChange lowerReturnsSpec)

/-- ITS FALSE NEIGHBOUR: 'it returns false'. Refute it at one input. -/
def lowerReturnsWrong : ChangeSpec := { name := "lowerReturns", fn := fun _ => fun
  | [d1, d2] => { results := [.lit (.bool false)], args := [d1, d2] }
  | _ => none }
def LowerReturnsWrongFalsely : Prop := lowerReturnsRow.holds Tryz.pinned (OpenSpec.ofChange lowerReturnsWrong)

/-- 'windlasslaw16.InlineDepth': WHATEVER THE INPUT: true; the input reads as it did. -/
def inlineDepthSpec : ChangeSpec := { name := "inlineDepth", fn := fun _ => fun
  | [d] => { results := [.lit (.bool true)], args := [d] }
  | _ => none }
def inlineDepthRow : OpenClaim := { program := "ytlhhimjohcdniaagreat", sum := "85d0be5fd582e4b8fe035bc6ff84b16585100b786983095fa52a05417c546e69", func := "windlass/windlasslaw16.InlineDepth", spec := "inlineDepth", unfollowed := true, recurses := true, apart := false }
def InlineDepthSaid : Prop := inlineDepthRow.holds Tryz.pinned (OpenSpec.ofChange inlineDepthSpec)

/-- ITS FALSE NEIGHBOUR: 'it returns false'. Refute it at one input. -/
def inlineDepthWrong : ChangeSpec := { name := "inlineDepth", fn := fun _ => fun
  | [d] => { results := [.lit (.bool false)], args := [d] }
  | _ => none }
def InlineDepthWrongFalsely : Prop := inlineDepthRow.holds Tryz.pinned (OpenSpec.ofChange inlineDepthWrong)

/- THE SECOND FORM. 'bulk': how many values and letters a reading holds, each counted each time it is reached (what is shared counts as often as it is met; a slice's spare places count too). A statement '..UptoSaid' is the law's where the arguments, and the package variables that the reading takes, are together of bulk at most 1048576: NARROWER than '..Said'. Prove '..Said' where nothing that the law and all that it calls make is longer than what came in: it says more and counts as full. Else prove '..UptoSaid'. A law counts once. -/
mutual
def uptoBulk {H : Type} : DataW H → Nat
  | .lit (.string bytes) => bytes.length + 1
  | .lit _ => 1
  | .nil => 1
  | .ptr d => uptoBulk d + 1
  | .slice elems spare => uptoBulkAll elems + uptoBulkAll spare + 1
  | .agg parts => uptoBulkAll parts + 1
  | .iface _ d => uptoBulk d + 1
  | .map entries => uptoBulkEntries entries + 1
  | .held _ => 1
def uptoBulkAll {H : Type} : List (DataW H) → Nat
  | [] => 0
  | d :: r => uptoBulk d + uptoBulkAll r
def uptoBulkEntries {H : Type} : List (Lit × DataW H) → Nat
  | [] => 0
  | x :: r => uptoBulkEntry x + uptoBulkEntries r
def uptoBulkEntry {H : Type} : Lit × DataW H → Nat
  | (.string bytes, d) => bytes.length + uptoBulk d + 1
  | (_, d) => uptoBulk d + 1
 end
def uptoSmall : (H : Type) → List (DataW H) → Bool := fun _ ds => decide (uptoBulkAll ds ≤ 1048576)
def OpenSpec.upto (s : _root_.Go.ChangeSpec) : _root_.Go.OpenSpec := { _root_.Go.OpenSpec.ofChange s with cond := some uptoSmall }

/-- 'windlasslaw13.LowerCalls', WHERE WHAT IT READS IS OF BULK AT MOST 1048576: true; the input reads as it did. -/
def lowerCallsUptoRow : OpenClaim := { program := "ytlhhimjohcdniaagreat", sum := "85d0be5fd582e4b8fe035bc6ff84b16585100b786983095fa52a05417c546e69", func := "windlass/windlasslaw13.LowerCalls", spec := "lowerCalls", unfollowed := true, recurses := true, apart := false, narrowed := true }
def LowerCallsUptoSaid : Prop := lowerCallsUptoRow.holds Tryz.pinned (OpenSpec.upto lowerCallsSpec)

/-- 'windlasslaw13.LowerOrder', WHERE WHAT IT READS IS OF BULK AT MOST 1048576: true; the input reads as it did. -/
def lowerOrderUptoRow : OpenClaim := { program := "ytlhhimjohcdniaagreat", sum := "85d0be5fd582e4b8fe035bc6ff84b16585100b786983095fa52a05417c546e69", func := "windlass/windlasslaw13.LowerOrder", spec := "lowerOrder", unfollowed := true, recurses := true, apart := false, narrowed := true }
def LowerOrderUptoSaid : Prop := lowerOrderUptoRow.holds Tryz.pinned (OpenSpec.upto lowerOrderSpec)

/-- 'windlasslaw13.LowerTells', WHERE WHAT IT READS IS OF BULK AT MOST 1048576: true; the input reads as it did. -/
def lowerTellsUptoRow : OpenClaim := { program := "ytlhhimjohcdniaagreat", sum := "85d0be5fd582e4b8fe035bc6ff84b16585100b786983095fa52a05417c546e69", func := "windlass/windlasslaw13.LowerTells", spec := "lowerTells", unfollowed := true, recurses := true, apart := false, narrowed := true }
def LowerTellsUptoSaid : Prop := lowerTellsUptoRow.holds Tryz.pinned (OpenSpec.upto lowerTellsSpec)

/-- 'windlasslaw13.LowerReturns', WHERE WHAT IT READS IS OF BULK AT MOST 1048576: true; the input reads as it did. -/
def lowerReturnsUptoRow : OpenClaim := { program := "ytlhhimjohcdniaagreat", sum := "85d0be5fd582e4b8fe035bc6ff84b16585100b786983095fa52a05417c546e69", func := "windlass/windlasslaw13.LowerReturns", spec := "lowerReturns", unfollowed := true, recurses := true, apart := false, narrowed := true }
def LowerReturnsUptoSaid : Prop := lowerReturnsUptoRow.holds Tryz.pinned (OpenSpec.upto lowerReturnsSpec)

/-- 'windlasslaw16.InlineDepth', WHERE WHAT IT READS IS OF BULK AT MOST 1048576: true; the input reads as it did. -/
def inlineDepthUptoRow : OpenClaim := { program := "ytlhhimjohcdniaagreat", sum := "85d0be5fd582e4b8fe035bc6ff84b16585100b786983095fa52a05417c546e69", func := "windlass/windlasslaw16.InlineDepth", spec := "inlineDepth", unfollowed := true, recurses := true, apart := false, narrowed := true }
def InlineDepthUptoSaid : Prop := inlineDepthUptoRow.holds Tryz.pinned (OpenSpec.upto inlineDepthSpec)

end Rows
end Go.Proofs.YtlhhimjohcdniaaGreat
