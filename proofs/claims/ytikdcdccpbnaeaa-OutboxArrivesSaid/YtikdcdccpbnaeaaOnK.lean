/-
  The walk through the outbox's code: what its functions do to memory, part OnK. Nothing is asked.
-/
import Derived.Test.YtikdcdccpbnaeaaOnW
set_option linter.all false
namespace Go.Proofs.Ytikdcdccpbnaeaa
open Go Go.Ag
set_option maxRecDepth 100000
noncomputable def tellsB (r : Option (Value × AState)) : Bool := Option.rec (motive := fun _ => Bool) false (fun p => Prod.rec (motive := fun _ => Bool) (fun v _ => match v with | .bool b => b | _ => false) p) r
theorem tellsB_some {r : Option (Value × AState)} (h : tellsB r = true) : ∃ A', r = some (.bool true, A') := by
  cases r with
  | none => cases h
  | some p =>
    obtain ⟨v, A'⟩ := p
    cases v <;> first | (simp only [tellsB] at h; cases h; exact ⟨A', rfl⟩) | cases h
theorem mix : Try.prog.follows .mixedOrders = true := by kernel_rfl
theorem knownRun : tellsB ((runK Try.prog (fun _ _ => none) 2000).call 5 [] ⟨.nil, Try.prog.globals.size + 1⟩) = true := by kernel_rfl
theorem known5 : Knows Try.prog 5 [] (.bool true) := by
  obtain ⟨A', h⟩ := tellsB_some knownRun
  exact knows mix (known_none Try.prog) h rfl rfl
end Go.Proofs.Ytikdcdccpbnaeaa

