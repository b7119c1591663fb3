/-
  No cell of these rows narrows 'for every input' (looked for: loops, veiled, ifaces, maps, wideKeys, modest, calm, conditions, laid).
  DERIVED. THE GIVEN ROWS OF THIS SEAT. 4 by the template 'for every input the law returns true; each argument reads behind the call as it read before'; 0 by the template 'total and deterministic' (their statements: YtmfmbadfgnhonaaTotals.lean).
  GIVEN WITH THE SEED: the statements are not yours to turn. If you find one false, say at which input.
  Laid BY PROGRAM, IN A SANDBOX (cutbox-rows.mjs): the forced cells as the released guide's own fill.sh prints them over the translation 0e6490a5fdce1e05… (all of the seat's roots in one cut). By AI agents, Wed Nov 11 2026. No macro, syntax, notation, axiom, sorry.
-/
import Derived.Test.YtmfmbadfgnhonaaChecked
import GoSem.Claim
import GoSem.ClaimJoined
import GoSem.ClaimMapViews
import Derived.JoinedTies
import Derived.KernelRfl
namespace Go.Proofs.Ytmfmbadfgnhonaa
/- THE CELL 'sum', in the pinned program and in every row, IS THE sha256 OF THE DUMP (.gsa) THAT YtmfmbadfgnhonaaProg.lean LOADS. Nothing in Lean hashes anything: it is a label: what it is worth is what the hold of that sum in a sandbox is worth. -/
noncomputable def Try.pinned : Pinned := { name := "ytmfmbadfgnhonaa", sum := "0e6490a5fdce1e059df17d7843c0b6e73a8b6c7f977ab6bed3113b7b09334955", checked := Try.checked }
namespace Rows
def none {H : Type} : Left H := { results := [], args := [] }

/-- 'windlasslaw19.JournalRounds': WHATEVER THE INPUT: true; the input reads as it did. -/
def journalRoundsSpec : ChangeSpec := { name := "journalRounds", fn := fun _ => fun
  | [d1, d2, d3] => { results := [.lit (.bool true)], args := [d1, d2, d3] }
  | _ => none }
def journalRoundsRow : OpenClaim := { program := "ytmfmbadfgnhonaa", sum := "0e6490a5fdce1e059df17d7843c0b6e73a8b6c7f977ab6bed3113b7b09334955", func := "windlass/windlasslaw19.JournalRounds", spec := "journalRounds", unfollowed := true, recurses := true, apart := false }
def JournalRoundsSaid : Prop := journalRoundsRow.holds Try.pinned (OpenSpec.ofChange journalRoundsSpec)

/-- ITS FALSE NEIGHBOUR: 'it returns false'. Refute it at one input. -/
def journalRoundsWrong : ChangeSpec := { name := "journalRounds", fn := fun _ => fun
  | [d1, d2, d3] => { results := [.lit (.bool false)], args := [d1, d2, d3] }
  | _ => none }
def JournalRoundsWrongFalsely : Prop := journalRoundsRow.holds Try.pinned (OpenSpec.ofChange journalRoundsWrong)

/-- 'windlasslaw19.JournalPlays': WHATEVER THE INPUT: true; the input reads as it did. -/
def journalPlaysSpec : ChangeSpec := { name := "journalPlays", fn := fun _ => fun
  | [d1, d2, d3] => { results := [.lit (.bool true)], args := [d1, d2, d3] }
  | _ => none }
def journalPlaysRow : OpenClaim := { program := "ytmfmbadfgnhonaa", sum := "0e6490a5fdce1e059df17d7843c0b6e73a8b6c7f977ab6bed3113b7b09334955", func := "windlass/windlasslaw19.JournalPlays", spec := "journalPlays", unfollowed := true, recurses := true, apart := false }
def JournalPlaysSaid : Prop := journalPlaysRow.holds Try.pinned (OpenSpec.ofChange journalPlaysSpec)

/-- ITS FALSE NEIGHBOUR: 'it returns false'. Refute it at one input. -/
def journalPlaysWrong : ChangeSpec := { name := "journalPlays", fn := fun _ => fun
  | [d1, d2, d3] => { results := [.lit (.bool false)], args := [d1, d2, d3] }
  | _ => none }
def JournalPlaysWrongFalsely : Prop := journalPlaysRow.holds Try.pinned (OpenSpec.ofChange journalPlaysWrong)

/-- 'windlasslaw19.JournalFormats': WHATEVER THE INPUT: true; the input reads as it did. -/
def journalFormatsSpec : ChangeSpec := { name := "journalFormats", fn := fun _ => fun
  | [d1, d2, d3, d4] => { results := [.lit (.bool true)], args := [d1, d2, d3, d4] }
  | _ => none }
def journalFormatsRow : OpenClaim := { program := "ytmfmbadfgnhonaa", sum := "0e6490a5fdce1e059df17d7843c0b6e73a8b6c7f977ab6bed3113b7b09334955", func := "windlass/windlasslaw19.JournalFormats", spec := "journalFormats", unfollowed := true, recurses := true, apart := false }
def JournalFormatsSaid : Prop := journalFormatsRow.holds Try.pinned (OpenSpec.ofChange journalFormatsSpec)

/-- ITS FALSE NEIGHBOUR: 'it returns false'. Refute it at one input. -/
def journalFormatsWrong : ChangeSpec := { name := "journalFormats", fn := fun _ => fun
  | [d1, d2, d3, d4] => { results := [.lit (.bool false)], args := [d1, d2, d3, d4] }
  | _ => none }
def JournalFormatsWrongFalsely : Prop := journalFormatsRow.holds Try.pinned (OpenSpec.ofChange journalFormatsWrong)

/-- 'windlasslaw19.JournalMoments': WHATEVER THE INPUT: true; the input reads as it did. -/
def journalMomentsSpec : ChangeSpec := { name := "journalMoments", fn := fun _ => fun
  | [d1, d2] => { results := [.lit (.bool true)], args := [d1, d2] }
  | _ => none }
def journalMomentsRow : OpenClaim := { program := "ytmfmbadfgnhonaa", sum := "0e6490a5fdce1e059df17d7843c0b6e73a8b6c7f977ab6bed3113b7b09334955", func := "windlass/windlasslaw19.JournalMoments", spec := "journalMoments", unfollowed := true, recurses := true, apart := false }
def JournalMomentsSaid : Prop := journalMomentsRow.holds Try.pinned (OpenSpec.ofChange journalMomentsSpec)

/-- ITS FALSE NEIGHBOUR: 'it returns false'. Refute it at one input. -/
def journalMomentsWrong : ChangeSpec := { name := "journalMoments", fn := fun _ => fun
  | [d1, d2] => { results := [.lit (.bool false)], args := [d1, d2] }
  | _ => none }
def JournalMomentsWrongFalsely : Prop := journalMomentsRow.holds Try.pinned (OpenSpec.ofChange journalMomentsWrong)

/- THE SECOND FORM. 'bulk': how many values and letters a reading holds, each counted each time it is reached (what is shared counts as often as it is met; a slice's spare places count too). A statement '..UptoSaid' is the law's where the arguments, and the package variables that the reading takes, are together of bulk at most 1048576: NARROWER than '..Said'. Prove '..Said' where nothing that the law and all that it calls make is longer than what came in: it says more and counts as full. Else prove '..UptoSaid'. A law counts once. -/
mutual
def uptoBulk {H : Type} : DataW H → Nat
  | .lit (.string bytes) => bytes.length + 1
  | .lit _ => 1
  | .nil => 1
  | .ptr d => uptoBulk d + 1
  | .slice elems spare => uptoBulkAll elems + uptoBulkAll spare + 1
  | .agg parts => uptoBulkAll parts + 1
  | .iface _ d => uptoBulk d + 1
  | .map entries => uptoBulkEntries entries + 1
  | .held _ => 1
def uptoBulkAll {H : Type} : List (DataW H) → Nat
  | [] => 0
  | d :: r => uptoBulk d + uptoBulkAll r
def uptoBulkEntries {H : Type} : List (Lit × DataW H) → Nat
  | [] => 0
  | x :: r => uptoBulkEntry x + uptoBulkEntries r
def uptoBulkEntry {H : Type} : Lit × DataW H → Nat
  | (.string bytes, d) => bytes.length + uptoBulk d + 1
  | (_, d) => uptoBulk d + 1
 end
def uptoSmall : (H : Type) → List (DataW H) → Bool := fun _ ds => decide (uptoBulkAll ds ≤ 1048576)
def OpenSpec.upto (s : _root_.Go.ChangeSpec) : _root_.Go.OpenSpec := { _root_.Go.OpenSpec.ofChange s with cond := some uptoSmall }

/-- 'windlasslaw19.JournalRounds', WHERE WHAT IT READS IS OF BULK AT MOST 1048576: true; the input reads as it did. -/
def journalRoundsUptoRow : OpenClaim := { program := "ytmfmbadfgnhonaa", sum := "0e6490a5fdce1e059df17d7843c0b6e73a8b6c7f977ab6bed3113b7b09334955", func := "windlass/windlasslaw19.JournalRounds", spec := "journalRounds", unfollowed := true, recurses := true, apart := false, narrowed := true }
def JournalRoundsUptoSaid : Prop := journalRoundsUptoRow.holds Try.pinned (OpenSpec.upto journalRoundsSpec)

/-- 'windlasslaw19.JournalPlays', WHERE WHAT IT READS IS OF BULK AT MOST 1048576: true; the input reads as it did. -/
def journalPlaysUptoRow : OpenClaim := { program := "ytmfmbadfgnhonaa", sum := "0e6490a5fdce1e059df17d7843c0b6e73a8b6c7f977ab6bed3113b7b09334955", func := "windlass/windlasslaw19.JournalPlays", spec := "journalPlays", unfollowed := true, recurses := true, apart := false, narrowed := true }
def JournalPlaysUptoSaid : Prop := journalPlaysUptoRow.holds Try.pinned (OpenSpec.upto journalPlaysSpec)

/-- 'windlasslaw19.JournalFormats', WHERE WHAT IT READS IS OF BULK AT MOST 1048576: true; the input reads as it did. -/
def journalFormatsUptoRow : OpenClaim := { program := "ytmfmbadfgnhonaa", sum := "0e6490a5fdce1e059df17d7843c0b6e73a8b6c7f977ab6bed3113b7b09334955", func := "windlass/windlasslaw19.JournalFormats", spec := "journalFormats", unfollowed := true, recurses := true, apart := false, narrowed := true }
def JournalFormatsUptoSaid : Prop := journalFormatsUptoRow.holds Try.pinned (OpenSpec.upto journalFormatsSpec)

/-- 'windlasslaw19.JournalMoments', WHERE WHAT IT READS IS OF BULK AT MOST 1048576: true; the input reads as it did. -/
def journalMomentsUptoRow : OpenClaim := { program := "ytmfmbadfgnhonaa", sum := "0e6490a5fdce1e059df17d7843c0b6e73a8b6c7f977ab6bed3113b7b09334955", func := "windlass/windlasslaw19.JournalMoments", spec := "journalMoments", unfollowed := true, recurses := true, apart := false, narrowed := true }
def JournalMomentsUptoSaid : Prop := journalMomentsUptoRow.holds Try.pinned (OpenSpec.upto journalMomentsSpec)

end Rows
end Go.Proofs.Ytmfmbadfgnhonaa
