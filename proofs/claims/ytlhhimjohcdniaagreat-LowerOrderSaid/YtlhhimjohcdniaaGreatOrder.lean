/-
  The law LowerOrder holds: whatever the input, it tells true, and leaves all that there was as it was. Nothing is asked.
-/
import Derived.Test.YtlhhimjohcdniaaGreatRows
import Derived.WalkKit
import Derived.ProofKit
import Derived.OpenShut
import Derived.Test.YtlhhimjohcdniaaGreatOrderC0
import Derived.Test.YtlhhimjohcdniaaGreatOrderC1
import Derived.Test.YtlhhimjohcdniaaGreatOrderC2
import Derived.Test.YtlhhimjohcdniaaGreatOrderC3
import Derived.Test.YtlhhimjohcdniaaGreatOrderC4
namespace Go.Proofs.YtlhhimjohcdniaaGreat.lowerOrder
open Go Go.Ag Go.ChangeShapes Go.WideShapes Go.ChangeAt Go.RowKit
set_option linter.unusedVariables false
set_option maxRecDepth 100000

theorem own : ownKnob Tryz.prog.godebug = none := by kernel_rfl

theorem calls_eq (X : List Use) : calls X = Kx Tryz.prog tab gl2 [91, 93] X 200 300 := rfl
noncomputable def ask (K : FF) (args : List Value) (A : AState) : Bool := tellsTrue ((fnG Tryz.prog tab 4).f K args A)
theorem tells_ask (X : List Use) (args : List Value) : tells X args = ask (calls X) args nothing := rfl
theorem ask_eq (X : List Use) (args : List Value) : ask (calls X) args nothing = ask (Kx Tryz.prog tab gl2 [91, 93] X 200 300) args ⟨.nil, Tryz.prog.globals.size⟩ := by rw [calls_eq, start]
theorem knowsX {X : List Use} (hX : UsesOk Tryz.prog X) {args : List Value} (h : tells X args = true) (hp : args.all plainV = true) : Knows Tryz.prog 4 args (.bool true) :=
  quickX_true (pl := [91, 93]) (m0 := 200) (m := 300) mix tabs gl2Ok hX (((tells_ask X args).trans (ask_eq X args)).symm.trans h) hp
theorem cases (x0 : Nat) (x1 : Nat) (h0 : x0 < 5) (h1 : x1 < 5) : ∃ X, UsesOk Tryz.prog X ∧ tells X [.int .u8 (.ofNat x0), .int .u8 (.ofNat x1)] = true :=
  match x0, x1, h0, h1 with
  | 0, 0, _, _ => ⟨_, x0Ok, c0⟩
  | 0, 1, _, _ => ⟨_, x1Ok, c1⟩
  | 0, 2, _, _ => ⟨_, x2Ok, c2⟩
  | 0, 3, _, _ => ⟨_, x3Ok, c3⟩
  | 0, 4, _, _ => ⟨_, x4Ok, c4⟩
  | 1, 0, _, _ => ⟨_, x5Ok, c5⟩
  | 1, 1, _, _ => ⟨_, x6Ok, c6⟩
  | 1, 2, _, _ => ⟨_, x7Ok, c7⟩
  | 1, 3, _, _ => ⟨_, x8Ok, c8⟩
  | 1, 4, _, _ => ⟨_, x9Ok, c9⟩
  | 2, 0, _, _ => ⟨_, x10Ok, c10⟩
  | 2, 1, _, _ => ⟨_, x11Ok, c11⟩
  | 2, 2, _, _ => ⟨_, x12Ok, c12⟩
  | 2, 3, _, _ => ⟨_, x13Ok, c13⟩
  | 2, 4, _, _ => ⟨_, x14Ok, c14⟩
  | 3, 0, _, _ => ⟨_, x15Ok, c15⟩
  | 3, 1, _, _ => ⟨_, x16Ok, c16⟩
  | 3, 2, _, _ => ⟨_, x17Ok, c17⟩
  | 3, 3, _, _ => ⟨_, x18Ok, c18⟩
  | 3, 4, _, _ => ⟨_, x19Ok, c19⟩
  | 4, 0, _, _ => ⟨_, x20Ok, c20⟩
  | 4, 1, _, _ => ⟨_, x21Ok, c21⟩
  | 4, 2, _, _ => ⟨_, x22Ok, c22⟩
  | 4, 3, _, _ => ⟨_, x23Ok, c23⟩
  | 4, 4, _, _ => ⟨_, x24Ok, c24⟩
  | n + 5, _, h, _ => absurd h (by omega)
  | _, n + 5, _, h => absurd h (by omega)
def parts : Desc := [(0, 5, 2), (1, 5, 2), (17, 5, 2), (21, 5, 2)]
theorem partsOk : okFn Tryz.prog (modParts parts) 4 = true := by kernel_rfl
theorem walk (a0 : Int) (a1 : Int) (w0 : (Lit.int .u8 a0).wf = true) (w1 : (Lit.int .u8 a1).wf = true) (w : World) :
    Calls Tryz.prog 4 #[.int .u8 a0, .int .u8 a1] w fun e w' => e = .returned (.bool true) ∧ Kept w w' := by
  have p0 : 0 ≤ a0 := by have h := w0; simp [Lit.wf, IntKind.min, IntKind.max, IntKind.signed, IntKind.bits] at h; omega
  have p1 : 0 ≤ a1 := by have h := w1; simp [Lit.wf, IntKind.min, IntKind.max, IntKind.signed, IntKind.bits] at h; omega
  obtain ⟨X, hX, h⟩ := cases (a0.toNat % 5) (a1.toNat % 5) (Nat.mod_lt _ (by decide)) (Nat.mod_lt _ (by decide))
  have hk : Knows Tryz.prog 4 [.int .u8 a0, .int .u8 a1] (.bool true) := by
    refine quickX_part (args := [.int .u8 (.ofNat (a0.toNat % 5)), .int .u8 (.ofNat (a1.toNat % 5))]) (pl := [91, 93]) (m0 := 200) (m := 300) mix tabs gl2Ok hX (modSp_ok _ parts) (((tells_ask X _).trans (ask_eq X _)).symm.trans h) partsOk rfl (fun t => ?_) rfl
    match t with
    | 0 => exact vpart_nat rfl p0
    | 1 => exact vpart_nat rfl p1
    | n + 2 => exact .inl rfl
  exact (hk.calls w).mono fun e w' h => ⟨h.1, h.2.1⟩

/-! ### THE ROW's STEP: WRITTEN OUT: LEAVE IT -/
set_option maxRecDepth 100000 in
theorem lifted (os : Os) (started : os.Started) (H : Type) (enc : TypeId × Value → H) :
    ReturnsInHanded {} Tryz.checked os 4 .any (Rows.lowerOrderSpec.pre6 enc Tryz.prog Tryz.f4 Rows.lowerOrderRow.domain false) (Rows.lowerOrderSpec.post enc Tryz.prog Tryz.f4 false true false false) := by
  refine returnsInHanded_of_change (C := Tryz.checked) own started (by kernel_rfl) Tryz.func4
    (ChangeSpec.witness6 (enc := enc) (C := Tryz.checked) false ⟨#[], #[.int .u8 0, .int .u8 0], []⟩ 8 (by kernel_rfl) (by kernel_rfl) (by kernel_rfl) (by kernel_rfl)) ?_
  intro W base args ds gs before hval0 hW hcnd _
  have hval : ∀ (j : Nat) t v, Tryz.f4.params[j]? = some t → args[j]? = some v → Value.okWide Tryz.prog W .any base t v := hval0
  have hW' := hW
  obtain ⟨p, q, hA0, hV, rfl, hfz, hnd⟩ := hW
  have hA : DataW.TrodAll enc Tryz.prog W 0 (fun _ => true) true Tryz.f4.params.toList args.toList ds p := hA0
  rw [Tryz.params4] at hA hval
  obtain ⟨v0, vs0, d0, ds0, p0, q0, hargs, rfl, rfl, h0, r0⟩ := trodAll_cons hA
  obtain ⟨v1, vs1, d1, ds1, p1, q1, rfl, rfl, rfl, h1, r1⟩ := trodAll_cons r0
  obtain ⟨rfl, rfl, rfl⟩ := trodAll_nil r1
  obtain rfl : args = #[v0, v1] := by cases args; simp_all
  obtain ⟨rfl, rfl⟩ := trodVars_none hV
  obtain ⟨a0, rfl, rfl, rfl, w0⟩ := open_int Tryz.underlying5 (hval 0 5 v0 rfl rfl) h0
  obtain ⟨a1, rfl, rfl, rfl, w1⟩ := open_int Tryz.underlying5 (hval 1 5 v1 rfl rfl) h1
  clear hA0 hval0
  simp only [List.append_nil] at hW'
  refine (walk a0 a1 w0 w1 W).mono fun e W' ⟨he, hg⟩ => ?_
  subst he
  exact ⟨_, rfl, post_of_kept (pa := []) (pv := []) hW' (fun _ _ _ => (trodAll_cons_mk (shut_bool Tryz.underlying4 _) trodAll_mk0)) (fun sp _ => (trodAll_cons_mk (shut_int Tryz.underlying5 w0) (trodAll_cons_mk (shut_int Tryz.underlying5 w1) trodAll_mk0))) (fun _ _ => rfl) rfl
    hg (ok_one (by kernel_rfl) rfl (okWide_bool_mk Tryz.underlying4 _))⟩

theorem fact0 : laidOutB Tryz.pinned.checked.prog = true := by kernel_rfl
theorem fact1 : mapsRowed Tryz.pinned.checked.prog = true := by kernel_rfl
theorem fact2 : (Tryz.pinned.checked.prog.stops == []) = true := by kernel_rfl
theorem fact3 : (Tryz.pinned.checked.prog.stopKnobs == []) = true := by kernel_rfl
theorem fact4 : (Rows.lowerOrderRow.inPlace == Tryz.pinned.checked.prog.inPlace 4) = true := by kernel_rfl
theorem fact5 : (Rows.lowerOrderRow.unfollowed == Tryz.pinned.checked.prog.unfollowed 4) = true := by kernel_rfl
theorem fact6 : (Rows.lowerOrderRow.recurses == Tryz.pinned.checked.prog.recurses 4) = true := by kernel_rfl
theorem fact7 : (Rows.lowerOrderRow.named == Tryz.pinned.checked.prog.varsNamed 4) = true := by kernel_rfl
theorem fact8 : (Rows.lowerOrderRow.plainKeys == Tryz.pinned.checked.prog.plainKeys) = true := by kernel_rfl
theorem fact9 : Tryz.pinned.checked.prog.stopsHeard = true := by kernel_rfl
theorem fact10 : Tryz.pinned.checked.prog.mayEnter = true := by kernel_rfl
theorem fact11 : (Rows.lowerOrderRow.lifted == Tryz.pinned.checked.prog.liftsFinal) = true := by kernel_rfl
theorem fact12 : (Tryz.pinned.checked.prog.make == some Rows.lowerOrderRow.make) = true := by kernel_rfl
theorem factNamed : Tryz.pinned.checked.prog.funcNamed Rows.lowerOrderRow.func = some 4 := by kernel_rfl
theorem factInst : Tryz.f4.isInstance Tryz.pinned.checked.prog Rows.lowerOrderRow.origin Rows.lowerOrderRow.targs := of_decide_eq_true (by kernel_rfl)
theorem factWrap : Tryz.f4.isWrapper Tryz.pinned.checked.prog Rows.lowerOrderRow.wrapper Rows.lowerOrderRow.mainSum := by unfold Func.isWrapper; first | (rw [if_pos (by decide +kernel)]; kernel_rfl) | (rw [if_neg (by decide +kernel)]; exact ⟨rfl, rfl⟩)
theorem facts : joinedFacts Tryz.pinned.checked.prog 4 Tryz.f4 Rows.lowerOrderSpec Rows.lowerOrderRow = true := by
  unfold joinedFacts
  rw [fact0, fact1, fact2, fact3, fact4, fact5, fact6, fact7, fact8, fact9, fact10, fact11, fact12]
  kernel_rfl

theorem over : Rows.lowerOrderRow.holds Tryz.pinned (OpenSpec.ofChange Rows.lowerOrderSpec) :=
  OpenClaim.holds_of_wide 4 Tryz.f4 rfl rfl rfl rfl rfl rfl rfl ⟨rfl, rfl, rfl, rfl, rfl⟩ rfl rfl rfl rfl rfl factNamed Tryz.func4 facts
    factInst factWrap
    (fun os started H enc _ => lifted os started H enc)

/-- ████ THE STATEMENT ████ -/
theorem proved : Rows.LowerOrderSaid :=
  over
#print axioms proved
end Go.Proofs.YtlhhimjohcdniaaGreat.lowerOrder
