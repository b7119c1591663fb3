/-
  The law OutboxArrives holds: whatever the texts and whatever is sent in what order, it tells true, and leaves all that there was as it was. Nothing is asked.
-/
import Derived.Test.YtikdcdccpbnaeaaRows
import Derived.WalkKit
import Derived.ProofKit
import Derived.OpenShut
import Derived.SizedLaws
import Derived.WideKeyArgs
import Derived.Test.YtikdcdccpbnaeaaBn7
import Derived.Test.YtikdcdccpbnaeaaOnK
namespace Go.Proofs.Ytikdcdccpbnaeaa.outboxArrives
open Go Go.Ag Go.ChangeShapes Go.WideShapes Go.ChangeAt Go.RowKit
set_option linter.unusedVariables false
set_option maxRecDepth 100000

theorem own : ownKnob Try.prog.godebug = none := by kernel_rfl
theorem knownOk : HookOk Try.prog O := O_ok known5
theorem simple : simpleTs Try.prog [3, 4, 5, 9, 22, 23] = true := by kernel_rfl
theorem laid : laidOutB Try.prog = true := by kernel_rfl
theorem same_of {W W' : World} (h : Kept W W') {p : MemPlace} (hp : p.block < W.heap.size) : W.sameAt W' p := by
  cases p with
  | cell b o => exact World.cell?_of_block (w := W) (h.rows b hp)
  | map b => exact h.rows b hp

/-! ### THE ROW's STEP -/
set_option maxRecDepth 100000 in
theorem lifted (os : Os) (started : os.Started) (H : Type) (enc : TypeId × Value → H) :
    ReturnsInHanded {} Try.checked os 3 .any (Rows.outboxArrivesSpec.pre6 enc Try.prog Try.f3 Rows.outboxArrivesRow.domain false) (Rows.outboxArrivesSpec.post enc Try.prog Try.f3 false true false false) := by
  refine returnsInHanded_of_change_sized (C := Try.checked) own started (by kernel_rfl) Try.func3
    (ChangeSpec.witness6 (enc := enc) (C := Try.checked) false ⟨#[], #[.slice none 0 0, .slice none 0 0], []⟩ 8 (by kernel_rfl) (by kernel_rfl) (by kernel_rfl) (by kernel_rfl)) ?_
  intro W base args ds gs before hval0 hW hcnd hsz0 _
  have hval : ∀ (j : Nat) t v, Try.f3.params[j]? = some t → args[j]? = some v → Value.okWide Try.prog W .any base t v := hval0
  have hW' := hW
  obtain ⟨p, q, hA0, hV, rfl, hfz, hnd⟩ := hW
  have hA : DataW.TrodAll enc Try.prog W 0 (fun _ => true) true Try.f3.params.toList args.toList ds p := hA0
  obtain ⟨rfl, rfl⟩ := trodVars_none hV
  have hsz : (DataW.weightsEach Try.prog [22, 23] ds).all (· ≤ reachBytes) = true := by
    have e : Try.f3.params.toList ++ Rows.outboxArrivesSpec.plain.varTypes Try.prog = [22, 23] := by rw [Try.params3]; rfl
    have h := hsz0
    rw [List.append_nil] at h
    exact e ▸ h
  rw [Try.params3] at hA hval
  have hcall := callsM_args (L := [3, 4, 5, 9, 22, 23]) mix knownOk simple (by decide) hA hsz (fun j t v ht hv => hval j t v (by simpa using ht) hv) (f := 3) (fun S vs h => run3 ds vs h)
  obtain ⟨v0, vs0, d0, ds0, p0, q0, hargs, rfl, rfl, h0, r0⟩ := trodAll_cons hA
  obtain ⟨v1, vs1, d1, ds1, p1, q1, rfl, rfl, rfl, h1, r1⟩ := trodAll_cons r0
  obtain ⟨rfl, rfl, rfl⟩ := trodAll_nil r1
  obtain rfl : args = #[v0, v1] := by cases args; simp_all
  refine hcall.mono fun e W' ⟨he, hk⟩ => ?_
  subst he
  have hlt : ∀ x ∈ (p0 ++ (p1 ++ [])) ++ [], x.block < W.heap.size := fun x hx => hW'.lt x hx
  refine ⟨_, rfl, post_of_kept (pa := (p0 ++ (p1 ++ []))) (pv := []) hW' (fun _ _ _ => (trodAll_cons_mk (shut_bool Try.underlying4 _) trodAll_mk0)) (fun sp hs => ?_) (fun _ _ => rfl) rfl
    hk (ok_one (by kernel_rfl) rfl (okWide_bool_mk Try.underlying4 _))⟩
  exact (trodAll_cons_mk (WideElems.Trod_stays laid (by kernel_rfl) (of_decide_eq_true (by kernel_rfl)) h0 (fun x hx => same_of hk (hlt x (by simp [hx]))) (fun x hx => hs x (by simp [hx]))) (trodAll_cons_mk (WideElems.Trod_stays laid (by kernel_rfl) (of_decide_eq_true (by kernel_rfl)) h1 (fun x hx => same_of hk (hlt x (by simp [hx]))) (fun x hx => hs x (by simp [hx]))) trodAll_mk0))

theorem over : Rows.outboxArrivesRow.holds Try.pinned (OpenSpec.ofChange Rows.outboxArrivesSpec) :=
  OpenClaim.holds_of_wide 3 Try.f3 rfl rfl rfl rfl rfl rfl rfl ⟨rfl, rfl, rfl, rfl, rfl⟩ rfl rfl rfl rfl rfl (by kernel_rfl) Try.func3 (by kernel_rfl)
    (of_decide_eq_true (by kernel_rfl)) (by unfold Func.isWrapper; first | (rw [if_pos (by decide +kernel)]; kernel_rfl) | (rw [if_neg (by decide +kernel)]; exact ⟨rfl, rfl⟩))
    (fun os started H enc _ => lifted os started H enc)

/-- ████ THE STATEMENT ████ -/
theorem proved : Rows.OutboxArrivesSaid :=
  over
#print axioms proved
end Go.Proofs.Ytikdcdccpbnaeaa.outboxArrives
