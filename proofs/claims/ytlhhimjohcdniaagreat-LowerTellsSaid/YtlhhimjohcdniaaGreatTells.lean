/-
  The law LowerTells holds: whatever the input, it tells true, and leaves all that there was as it was. Nothing is asked.
-/
import Derived.Test.YtlhhimjohcdniaaGreatRows
import Derived.WalkKit
import Derived.ProofKit
import Derived.OpenShut
import Derived.Test.YtlhhimjohcdniaaGreatTellsC0
namespace Go.Proofs.YtlhhimjohcdniaaGreat.lowerTells
open Go Go.Ag Go.ChangeShapes Go.WideShapes Go.ChangeAt Go.RowKit
set_option linter.unusedVariables false
set_option maxRecDepth 100000

theorem own : ownKnob Tryz.prog.godebug = none := by kernel_rfl

theorem calls_eq (X : List Use) : calls X = Kx Tryz.prog tab gl2 [91, 93] X 200 300 := rfl
noncomputable def ask (K : FF) (args : List Value) (A : AState) : Bool := tellsTrue ((fnG Tryz.prog tab 5).f K args A)
theorem tells_ask (X : List Use) (args : List Value) : tells X args = ask (calls X) args nothing := rfl
theorem ask_eq (X : List Use) (args : List Value) : ask (calls X) args nothing = ask (Kx Tryz.prog tab gl2 [91, 93] X 200 300) args ⟨.nil, Tryz.prog.globals.size⟩ := by rw [calls_eq, start]
theorem knowsX {X : List Use} (hX : UsesOk Tryz.prog X) {args : List Value} (h : tells X args = true) (hp : args.all plainV = true) : Knows Tryz.prog 5 args (.bool true) :=
  quickX_true (pl := [91, 93]) (m0 := 200) (m := 300) mix tabs gl2Ok hX (((tells_ask X args).trans (ask_eq X args)).symm.trans h) hp
theorem cases (x0 : Bool) (x1 : Bool) (x2 : Bool) : ∃ X, UsesOk Tryz.prog X ∧ tells X [.bool x0, .bool x1, .bool x2] = true :=
  match x0, x1, x2 with
  | false, false, false => ⟨_, x0Ok, c0⟩
  | false, false, true => ⟨_, x1Ok, c1⟩
  | false, true, false => ⟨_, x2Ok, c2⟩
  | false, true, true => ⟨_, x3Ok, c3⟩
  | true, false, false => ⟨_, x4Ok, c4⟩
  | true, false, true => ⟨_, x5Ok, c5⟩
  | true, true, false => ⟨_, x6Ok, c6⟩
  | true, true, true => ⟨_, x7Ok, c7⟩
def parts : Desc := []
theorem partsOk : okFn Tryz.prog (modParts parts) 5 = true := by kernel_rfl
theorem walk (a0 : Bool) (a1 : Bool) (a2 : Bool) (w : World) :
    Calls Tryz.prog 5 #[.bool a0, .bool a1, .bool a2] w fun e w' => e = .returned (.bool true) ∧ Kept w w' := by
  obtain ⟨X, hX, h⟩ := cases a0 a1 a2
  have hk : Knows Tryz.prog 5 [.bool a0, .bool a1, .bool a2] (.bool true) := by
    refine quickX_part (args := [.bool a0, .bool a1, .bool a2]) (pl := [91, 93]) (m0 := 200) (m := 300) mix tabs gl2Ok hX (modSp_ok _ parts) (((tells_ask X _).trans (ask_eq X _)).symm.trans h) partsOk rfl (fun t => ?_) rfl
    match t with
    | 0 => exact .inl rfl
    | 1 => exact .inl rfl
    | 2 => exact .inl rfl
    | n + 3 => exact .inl rfl
  exact (hk.calls w).mono fun e w' h => ⟨h.1, h.2.1⟩

/-! ### THE ROW's STEP: WRITTEN OUT: LEAVE IT -/
set_option maxRecDepth 100000 in
theorem lifted (os : Os) (started : os.Started) (H : Type) (enc : TypeId × Value → H) :
    ReturnsInHanded {} Tryz.checked os 5 .any (Rows.lowerTellsSpec.pre6 enc Tryz.prog Tryz.f5 Rows.lowerTellsRow.domain false) (Rows.lowerTellsSpec.post enc Tryz.prog Tryz.f5 false true false false) := by
  refine returnsInHanded_of_change (C := Tryz.checked) own started (by kernel_rfl) Tryz.func5
    (ChangeSpec.witness6 (enc := enc) (C := Tryz.checked) false ⟨#[], #[.bool false, .bool false, .bool false], []⟩ 8 (by kernel_rfl) (by kernel_rfl) (by kernel_rfl) (by kernel_rfl)) ?_
  intro W base args ds gs before hval0 hW hcnd _
  have hval : ∀ (j : Nat) t v, Tryz.f5.params[j]? = some t → args[j]? = some v → Value.okWide Tryz.prog W .any base t v := hval0
  have hW' := hW
  obtain ⟨p, q, hA0, hV, rfl, hfz, hnd⟩ := hW
  have hA : DataW.TrodAll enc Tryz.prog W 0 (fun _ => true) true Tryz.f5.params.toList args.toList ds p := hA0
  rw [Tryz.params5] at hA hval
  obtain ⟨v0, vs0, d0, ds0, p0, q0, hargs, rfl, rfl, h0, r0⟩ := trodAll_cons hA
  obtain ⟨v1, vs1, d1, ds1, p1, q1, rfl, rfl, rfl, h1, r1⟩ := trodAll_cons r0
  obtain ⟨v2, vs2, d2, ds2, p2, q2, rfl, rfl, rfl, h2, r2⟩ := trodAll_cons r1
  obtain ⟨rfl, rfl, rfl⟩ := trodAll_nil r2
  obtain rfl : args = #[v0, v1, v2] := by cases args; simp_all
  obtain ⟨rfl, rfl⟩ := trodVars_none hV
  obtain ⟨a0, rfl, rfl, rfl⟩ := open_bool Tryz.underlying4 (hval 0 4 v0 rfl rfl) h0
  obtain ⟨a1, rfl, rfl, rfl⟩ := open_bool Tryz.underlying4 (hval 1 4 v1 rfl rfl) h1
  obtain ⟨a2, rfl, rfl, rfl⟩ := open_bool Tryz.underlying4 (hval 2 4 v2 rfl rfl) h2
  clear hA0 hval0
  simp only [List.append_nil] at hW'
  refine (walk a0 a1 a2 W).mono fun e W' ⟨he, hg⟩ => ?_
  subst he
  exact ⟨_, rfl, post_of_kept (pa := []) (pv := []) hW' (fun _ _ _ => (trodAll_cons_mk (shut_bool Tryz.underlying4 _) trodAll_mk0)) (fun sp _ => (trodAll_cons_mk (shut_bool Tryz.underlying4 _) (trodAll_cons_mk (shut_bool Tryz.underlying4 _) (trodAll_cons_mk (shut_bool Tryz.underlying4 _) trodAll_mk0)))) (fun _ _ => rfl) rfl
    hg (ok_one (by kernel_rfl) rfl (okWide_bool_mk Tryz.underlying4 _))⟩

theorem fact0 : laidOutB Tryz.pinned.checked.prog = true := by kernel_rfl
theorem fact1 : mapsRowed Tryz.pinned.checked.prog = true := by kernel_rfl
theorem fact2 : (Tryz.pinned.checked.prog.stops == []) = true := by kernel_rfl
theorem fact3 : (Tryz.pinned.checked.prog.stopKnobs == []) = true := by kernel_rfl
theorem fact4 : (Rows.lowerTellsRow.inPlace == Tryz.pinned.checked.prog.inPlace 5) = true := by kernel_rfl
theorem fact5 : (Rows.lowerTellsRow.unfollowed == Tryz.pinned.checked.prog.unfollowed 5) = true := by kernel_rfl
theorem fact6 : (Rows.lowerTellsRow.recurses == Tryz.pinned.checked.prog.recurses 5) = true := by kernel_rfl
theorem fact7 : (Rows.lowerTellsRow.named == Tryz.pinned.checked.prog.varsNamed 5) = true := by kernel_rfl
theorem fact8 : (Rows.lowerTellsRow.plainKeys == Tryz.pinned.checked.prog.plainKeys) = true := by kernel_rfl
theorem fact9 : Tryz.pinned.checked.prog.stopsHeard = true := by kernel_rfl
theorem fact10 : Tryz.pinned.checked.prog.mayEnter = true := by kernel_rfl
theorem fact11 : (Rows.lowerTellsRow.lifted == Tryz.pinned.checked.prog.liftsFinal) = true := by kernel_rfl
theorem fact12 : (Tryz.pinned.checked.prog.make == some Rows.lowerTellsRow.make) = true := by kernel_rfl
theorem factNamed : Tryz.pinned.checked.prog.funcNamed Rows.lowerTellsRow.func = some 5 := by kernel_rfl
theorem factInst : Tryz.f5.isInstance Tryz.pinned.checked.prog Rows.lowerTellsRow.origin Rows.lowerTellsRow.targs := of_decide_eq_true (by kernel_rfl)
theorem factWrap : Tryz.f5.isWrapper Tryz.pinned.checked.prog Rows.lowerTellsRow.wrapper Rows.lowerTellsRow.mainSum := by unfold Func.isWrapper; first | (rw [if_pos (by decide +kernel)]; kernel_rfl) | (rw [if_neg (by decide +kernel)]; exact ⟨rfl, rfl⟩)
theorem facts : joinedFacts Tryz.pinned.checked.prog 5 Tryz.f5 Rows.lowerTellsSpec Rows.lowerTellsRow = true := by
  unfold joinedFacts
  rw [fact0, fact1, fact2, fact3, fact4, fact5, fact6, fact7, fact8, fact9, fact10, fact11, fact12]
  kernel_rfl

theorem over : Rows.lowerTellsRow.holds Tryz.pinned (OpenSpec.ofChange Rows.lowerTellsSpec) :=
  OpenClaim.holds_of_wide 5 Tryz.f5 rfl rfl rfl rfl rfl rfl rfl ⟨rfl, rfl, rfl, rfl, rfl⟩ rfl rfl rfl rfl rfl factNamed Tryz.func5 facts
    factInst factWrap
    (fun os started H enc _ => lifted os started H enc)

/-- ████ THE STATEMENT ████ -/
theorem proved : Rows.LowerTellsSaid :=
  over
#print axioms proved
end Go.Proofs.YtlhhimjohcdniaaGreat.lowerTells
