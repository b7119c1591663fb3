/-
  The law LowerCalls holds: whatever the input, it tells true, and leaves all that there was as it was. Nothing is asked.
-/
import Derived.Test.YtlhhimjohcdniaaGreatRows
import Derived.WalkKit
import Derived.ProofKit
import Derived.OpenShut
import Derived.Test.YtlhhimjohcdniaaGreatCallsC0
import Derived.Test.YtlhhimjohcdniaaGreatCallsC1
import Derived.Test.YtlhhimjohcdniaaGreatCallsC2
import Derived.Test.YtlhhimjohcdniaaGreatCallsC3
import Derived.Test.YtlhhimjohcdniaaGreatCallsC4
import Derived.Test.YtlhhimjohcdniaaGreatCallsC5
namespace Go.Proofs.YtlhhimjohcdniaaGreat.lowerCalls
open Go Go.Ag Go.ChangeShapes Go.WideShapes Go.ChangeAt Go.RowKit
set_option linter.unusedVariables false
set_option maxRecDepth 100000

theorem own : ownKnob Tryz.prog.godebug = none := by kernel_rfl

theorem calls_eq (X : List Use) : calls X = Kx Tryz.prog tab gl2 [91, 93] X 200 300 := rfl
noncomputable def ask (K : FF) (args : List Value) (A : AState) : Bool := tellsTrue ((fnG Tryz.prog tab 3).f K args A)
theorem tells_ask (X : List Use) (args : List Value) : tells X args = ask (calls X) args nothing := rfl
theorem ask_eq (X : List Use) (args : List Value) : ask (calls X) args nothing = ask (Kx Tryz.prog tab gl2 [91, 93] X 200 300) args ⟨.nil, Tryz.prog.globals.size⟩ := by rw [calls_eq, start]
theorem knowsX {X : List Use} (hX : UsesOk Tryz.prog X) {args : List Value} (h : tells X args = true) (hp : args.all plainV = true) : Knows Tryz.prog 3 args (.bool true) :=
  quickX_true (pl := [91, 93]) (m0 := 200) (m := 300) mix tabs gl2Ok hX (((tells_ask X args).trans (ask_eq X args)).symm.trans h) hp
theorem cases (n : Nat) (h : n < 41) : ∃ X, UsesOk Tryz.prog X ∧ tells X [.int .i64 (.ofNat n)] = true :=
  match n, h with
  | 0, _ => ⟨_, x0Ok, c0⟩
  | 1, _ => ⟨_, x0Ok, c1⟩
  | 2, _ => ⟨_, x0Ok, c2⟩
  | 3, _ => ⟨_, x0Ok, c3⟩
  | 4, _ => ⟨_, x0Ok, c4⟩
  | 5, _ => ⟨_, x0Ok, c5⟩
  | 6, _ => ⟨_, x0Ok, c6⟩
  | 7, _ => ⟨_, x0Ok, c7⟩
  | 8, _ => ⟨_, x0Ok, c8⟩
  | 9, _ => ⟨_, x0Ok, c9⟩
  | 10, _ => ⟨_, x0Ok, c10⟩
  | 11, _ => ⟨_, x0Ok, c11⟩
  | 12, _ => ⟨_, x0Ok, c12⟩
  | 13, _ => ⟨_, x0Ok, c13⟩
  | 14, _ => ⟨_, x0Ok, c14⟩
  | 15, _ => ⟨_, x0Ok, c15⟩
  | 16, _ => ⟨_, x0Ok, c16⟩
  | 17, _ => ⟨_, x0Ok, c17⟩
  | 18, _ => ⟨_, x0Ok, c18⟩
  | 19, _ => ⟨_, x0Ok, c19⟩
  | 20, _ => ⟨_, x0Ok, c20⟩
  | 21, _ => ⟨_, x0Ok, c21⟩
  | 22, _ => ⟨_, x0Ok, c22⟩
  | 23, _ => ⟨_, x0Ok, c23⟩
  | 24, _ => ⟨_, x0Ok, c24⟩
  | 25, _ => ⟨_, x0Ok, c25⟩
  | 26, _ => ⟨_, x0Ok, c26⟩
  | 27, _ => ⟨_, x0Ok, c27⟩
  | 28, _ => ⟨_, x0Ok, c28⟩
  | 29, _ => ⟨_, x0Ok, c29⟩
  | 30, _ => ⟨_, x0Ok, c30⟩
  | 31, _ => ⟨_, x0Ok, c31⟩
  | 32, _ => ⟨_, x0Ok, c32⟩
  | 33, _ => ⟨_, x0Ok, c33⟩
  | 34, _ => ⟨_, x0Ok, c34⟩
  | 35, _ => ⟨_, x0Ok, c35⟩
  | 36, _ => ⟨_, x0Ok, c36⟩
  | 37, _ => ⟨_, x0Ok, c37⟩
  | 38, _ => ⟨_, x0Ok, c38⟩
  | 39, _ => ⟨_, x0Ok, c39⟩
  | 40, _ => ⟨_, x0Ok, c40⟩
  | n + 41, h => absurd h (by omega)
theorem neg0 : tells [] [.int .i64 (.negSucc 0)] = true := by kernel_rfl
theorem neg1 (n : Nat) : tells [] [.int .i64 (.negSucc (n + 1))] = true := by kernel_rfl
theorem big (n : Nat) : tells [] [.int .i64 (.ofNat (n + 41))] = true := by kernel_rfl
theorem walk (a0 : Int) (w0 : (Lit.int .i64 a0).wf = true) (w : World) :
    Calls Tryz.prog 3 #[.int .i64 a0] w fun e w' => e = .returned (.bool true) ∧ Kept w w' := by
  have hk : Knows Tryz.prog 3 [.int .i64 a0] (.bool true) := by
    cases a0 with
    | negSucc n =>
      cases n with
      | zero => exact knowsX (usesOk_nil _) neg0 rfl
      | succ n => exact knowsX (usesOk_nil _) (neg1 n) rfl
    | ofNat n =>
      by_cases h : n < 41
      · obtain ⟨X, hX, h⟩ := cases n h
        exact knowsX hX h rfl
      · obtain ⟨m, rfl⟩ : ∃ m, n = m + 41 := ⟨n - 41, by omega⟩
        exact knowsX (usesOk_nil _) (big m) rfl
  exact (hk.calls w).mono fun e w' h => ⟨h.1, h.2.1⟩

/-! ### THE ROW's STEP: WRITTEN OUT: LEAVE IT -/
set_option maxRecDepth 100000 in
theorem lifted (os : Os) (started : os.Started) (H : Type) (enc : TypeId × Value → H) :
    ReturnsInHanded {} Tryz.checked os 3 .any (Rows.lowerCallsSpec.pre6 enc Tryz.prog Tryz.f3 Rows.lowerCallsRow.domain false) (Rows.lowerCallsSpec.post enc Tryz.prog Tryz.f3 false true false false) := by
  refine returnsInHanded_of_change (C := Tryz.checked) own started (by kernel_rfl) Tryz.func3
    (ChangeSpec.witness6 (enc := enc) (C := Tryz.checked) false ⟨#[], #[.int .i64 0], []⟩ 8 (by kernel_rfl) (by kernel_rfl) (by kernel_rfl) (by kernel_rfl)) ?_
  intro W base args ds gs before hval0 hW hcnd _
  have hval : ∀ (j : Nat) t v, Tryz.f3.params[j]? = some t → args[j]? = some v → Value.okWide Tryz.prog W .any base t v := hval0
  have hW' := hW
  obtain ⟨p, q, hA0, hV, rfl, hfz, hnd⟩ := hW
  have hA : DataW.TrodAll enc Tryz.prog W 0 (fun _ => true) true Tryz.f3.params.toList args.toList ds p := hA0
  rw [Tryz.params3] at hA hval
  obtain ⟨v0, vs0, d0, ds0, p0, q0, hargs, rfl, rfl, h0, r0⟩ := trodAll_cons hA
  obtain ⟨rfl, rfl, rfl⟩ := trodAll_nil r0
  obtain rfl : args = #[v0] := by cases args; simp_all
  obtain ⟨rfl, rfl⟩ := trodVars_none hV
  obtain ⟨a0, rfl, rfl, rfl, w0⟩ := open_int Tryz.underlying2 (hval 0 2 v0 rfl rfl) h0
  clear hA0 hval0
  simp only [List.append_nil] at hW'
  refine (walk a0 w0 W).mono fun e W' ⟨he, hg⟩ => ?_
  subst he
  exact ⟨_, rfl, post_of_kept (pa := []) (pv := []) hW' (fun _ _ _ => (trodAll_cons_mk (shut_bool Tryz.underlying4 _) trodAll_mk0)) (fun sp _ => (trodAll_cons_mk (shut_int Tryz.underlying2 w0) trodAll_mk0)) (fun _ _ => rfl) rfl
    hg (ok_one (by kernel_rfl) rfl (okWide_bool_mk Tryz.underlying4 _))⟩

theorem fact0 : laidOutB Tryz.pinned.checked.prog = true := by kernel_rfl
theorem fact1 : mapsRowed Tryz.pinned.checked.prog = true := by kernel_rfl
theorem fact2 : (Tryz.pinned.checked.prog.stops == []) = true := by kernel_rfl
theorem fact3 : (Tryz.pinned.checked.prog.stopKnobs == []) = true := by kernel_rfl
theorem fact4 : (Rows.lowerCallsRow.inPlace == Tryz.pinned.checked.prog.inPlace 3) = true := by kernel_rfl
theorem fact5 : (Rows.lowerCallsRow.unfollowed == Tryz.pinned.checked.prog.unfollowed 3) = true := by kernel_rfl
theorem fact6 : (Rows.lowerCallsRow.recurses == Tryz.pinned.checked.prog.recurses 3) = true := by kernel_rfl
theorem fact7 : (Rows.lowerCallsRow.named == Tryz.pinned.checked.prog.varsNamed 3) = true := by kernel_rfl
theorem fact8 : (Rows.lowerCallsRow.plainKeys == Tryz.pinned.checked.prog.plainKeys) = true := by kernel_rfl
theorem fact9 : Tryz.pinned.checked.prog.stopsHeard = true := by kernel_rfl
theorem fact10 : Tryz.pinned.checked.prog.mayEnter = true := by kernel_rfl
theorem fact11 : (Rows.lowerCallsRow.lifted == Tryz.pinned.checked.prog.liftsFinal) = true := by kernel_rfl
theorem fact12 : (Tryz.pinned.checked.prog.make == some Rows.lowerCallsRow.make) = true := by kernel_rfl
theorem factNamed : Tryz.pinned.checked.prog.funcNamed Rows.lowerCallsRow.func = some 3 := by kernel_rfl
theorem factInst : Tryz.f3.isInstance Tryz.pinned.checked.prog Rows.lowerCallsRow.origin Rows.lowerCallsRow.targs := of_decide_eq_true (by kernel_rfl)
theorem factWrap : Tryz.f3.isWrapper Tryz.pinned.checked.prog Rows.lowerCallsRow.wrapper Rows.lowerCallsRow.mainSum := by unfold Func.isWrapper; first | (rw [if_pos (by decide +kernel)]; kernel_rfl) | (rw [if_neg (by decide +kernel)]; exact ⟨rfl, rfl⟩)
theorem facts : joinedFacts Tryz.pinned.checked.prog 3 Tryz.f3 Rows.lowerCallsSpec Rows.lowerCallsRow = true := by
  unfold joinedFacts
  rw [fact0, fact1, fact2, fact3, fact4, fact5, fact6, fact7, fact8, fact9, fact10, fact11, fact12]
  kernel_rfl

theorem over : Rows.lowerCallsRow.holds Tryz.pinned (OpenSpec.ofChange Rows.lowerCallsSpec) :=
  OpenClaim.holds_of_wide 3 Tryz.f3 rfl rfl rfl rfl rfl rfl rfl ⟨rfl, rfl, rfl, rfl, rfl⟩ rfl rfl rfl rfl rfl factNamed Tryz.func3 facts
    factInst factWrap
    (fun os started H enc _ => lifted os started H enc)

/-- ████ THE STATEMENT ████ -/
theorem proved : Rows.LowerCallsSaid :=
  over
#print axioms proved
end Go.Proofs.YtlhhimjohcdniaaGreat.lowerCalls
