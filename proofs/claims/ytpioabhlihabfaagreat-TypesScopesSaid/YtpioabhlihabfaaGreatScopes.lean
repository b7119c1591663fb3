/-
  The law TypesScopes holds: whatever the numbers, it tells true, and leaves all that there was as it was. Nothing is asked.
-/
import Derived.Test.YtpioabhlihabfaaGreatRows
import Derived.WalkKit
import Derived.ProofKit
import Derived.OpenShut
import Derived.Test.YtpioabhlihabfaaGreatScopesC1
import Derived.Test.YtpioabhlihabfaaGreatScopesC2
namespace Go.Proofs.YtpioabhlihabfaaGreat.typesScopes
open Go Go.Ag Go.ChangeShapes Go.WideShapes Go.ChangeAt Go.RowKit
set_option linter.unusedVariables false
set_option maxRecDepth 100000

theorem own : ownKnob Tryz.prog.godebug = none := by kernel_rfl

theorem tells_eq (args : List Value) : tells args = tellsTrue ((fnG Tryz.prog tab 5).f (Km Tryz.prog tab [(8, .bool true)] [57, 67, 68, 69, 78, 81, 93] 200 300) args ⟨.nil, Tryz.prog.globals.size⟩) := by
  unfold tells calls
  rw [start]
theorem and_left {a b : Bool} (h : (a && b) = true) : a = true := by rw [Bool.and_eq_true] at h; exact h.1
theorem and_right {a b : Bool} (h : (a && b) = true) : b = true := by rw [Bool.and_eq_true] at h; exact h.2
theorem cases (x0 : Nat) (x1 : Nat) (x2 : Nat) (h0 : x0 < 3) (h1 : x1 < 3) (h2 : x2 < 3) : tells [.int .u8 (.ofNat x0), .int .u8 (.ofNat x1), .int .u8 (.ofNat x2)] = true :=
  match x0, x1, x2, h0, h1, h2 with
  | 0, 0, 0, _, _, _ => (and_left c0)
  | 0, 0, 1, _, _, _ => (and_left (and_right c0))
  | 0, 0, 2, _, _, _ => (and_right (and_right c0))
  | 0, 1, 0, _, _, _ => (and_left c1)
  | 0, 1, 1, _, _, _ => (and_left (and_right c1))
  | 0, 1, 2, _, _, _ => (and_right (and_right c1))
  | 0, 2, 0, _, _, _ => (and_left c2)
  | 0, 2, 1, _, _, _ => (and_left (and_right c2))
  | 0, 2, 2, _, _, _ => (and_right (and_right c2))
  | 1, 0, 0, _, _, _ => (and_left c3)
  | 1, 0, 1, _, _, _ => (and_left (and_right c3))
  | 1, 0, 2, _, _, _ => (and_right (and_right c3))
  | 1, 1, 0, _, _, _ => (and_left c4)
  | 1, 1, 1, _, _, _ => (and_left (and_right c4))
  | 1, 1, 2, _, _, _ => (and_right (and_right c4))
  | 1, 2, 0, _, _, _ => (and_left c5)
  | 1, 2, 1, _, _, _ => (and_left (and_right c5))
  | 1, 2, 2, _, _, _ => (and_right (and_right c5))
  | 2, 0, 0, _, _, _ => (and_left c6)
  | 2, 0, 1, _, _, _ => (and_left (and_right c6))
  | 2, 0, 2, _, _, _ => (and_right (and_right c6))
  | 2, 1, 0, _, _, _ => (and_left c7)
  | 2, 1, 1, _, _, _ => (and_left (and_right c7))
  | 2, 1, 2, _, _, _ => (and_right (and_right c7))
  | 2, 2, 0, _, _, _ => (and_left c8)
  | 2, 2, 1, _, _, _ => (and_left (and_right c8))
  | 2, 2, 2, _, _, _ => (and_right (and_right c8))
  | n + 3, _, _, h, _, _ => absurd h (by omega)
  | _, n + 3, _, _, h, _ => absurd h (by omega)
  | _, _, n + 3, _, _, h => absurd h (by omega)
def parts : Desc := [(0, 3, 2), (1, 3, 2), (2, 3, 2), (23, 3, 2), (27, 3, 2), (31, 3, 2)]
theorem partsOk : okFn Tryz.prog (modParts parts) 5 = true := by kernel_rfl
theorem walk (a0 : Int) (a1 : Int) (a2 : Int) (w0 : (Lit.int .u8 a0).wf = true) (w1 : (Lit.int .u8 a1).wf = true) (w2 : (Lit.int .u8 a2).wf = true) (w : World) :
    Calls Tryz.prog 5 #[.int .u8 a0, .int .u8 a1, .int .u8 a2] w fun e w' => e = .returned (.bool true) ∧ Kept w w' := by
  have p0 : 0 ≤ a0 := by have h := w0; simp [Lit.wf, IntKind.min, IntKind.max, IntKind.signed, IntKind.bits] at h; omega
  have p1 : 0 ≤ a1 := by have h := w1; simp [Lit.wf, IntKind.min, IntKind.max, IntKind.signed, IntKind.bits] at h; omega
  have p2 : 0 ≤ a2 := by have h := w2; simp [Lit.wf, IntKind.min, IntKind.max, IntKind.signed, IntKind.bits] at h; omega
  have h := cases (a0.toNat % 3) (a1.toNat % 3) (a2.toNat % 3) (Nat.mod_lt _ (by decide)) (Nat.mod_lt _ (by decide)) (Nat.mod_lt _ (by decide))
  have hk : Knows Tryz.prog 5 [.int .u8 a0, .int .u8 a1, .int .u8 a2] (.bool true) := by
    refine quick_part (args := [.int .u8 (.ofNat (a0.toNat % 3)), .int .u8 (.ofNat (a1.toNat % 3)), .int .u8 (.ofNat (a2.toNat % 3))]) (pl := [57, 67, 68, 69, 78, 81, 93]) (m0 := 200) (m := 300) mix tabs knownOk (modSp_ok _ parts) (by rw [tells_eq] at h; exact h) rfl rfl partsOk rfl (fun t => ?_) rfl
    match t with
    | 0 => exact vpart_nat rfl p0
    | 1 => exact vpart_nat rfl p1
    | 2 => exact vpart_nat rfl p2
    | n + 3 => exact .inl rfl
  exact (hk.calls w).mono fun e w' h => ⟨h.1, h.2.1⟩

/-! ### THE ROW's STEP: WRITTEN OUT: LEAVE IT -/
set_option maxRecDepth 100000 in
theorem lifted (os : Os) (started : os.Started) (H : Type) (enc : TypeId × Value → H) :
    ReturnsInHanded {} Tryz.checked os 5 .any (Rows.typesScopesSpec.pre6 enc Tryz.prog Tryz.f5 Rows.typesScopesRow.domain false) (Rows.typesScopesSpec.post enc Tryz.prog Tryz.f5 false true false false) := by
  refine returnsInHanded_of_change (C := Tryz.checked) own started (by kernel_rfl) Tryz.func5
    (ChangeSpec.witness6 (enc := enc) (C := Tryz.checked) false ⟨#[], #[.int .u8 0, .int .u8 0, .int .u8 0], []⟩ 8 (by kernel_rfl) (by kernel_rfl) (by kernel_rfl) (by kernel_rfl)) ?_
  intro W base args ds gs before hval0 hW hcnd _
  have hval : ∀ (j : Nat) t v, Tryz.f5.params[j]? = some t → args[j]? = some v → Value.okWide Tryz.prog W .any base t v := hval0
  have hW' := hW
  obtain ⟨p, q, hA0, hV, rfl, hfz, hnd⟩ := hW
  have hA : DataW.TrodAll enc Tryz.prog W 0 (fun _ => true) true Tryz.f5.params.toList args.toList ds p := hA0
  rw [Tryz.params5] at hA hval
  obtain ⟨v0, vs0, d0, ds0, p0, q0, hargs, rfl, rfl, h0, r0⟩ := trodAll_cons hA
  obtain ⟨v1, vs1, d1, ds1, p1, q1, rfl, rfl, rfl, h1, r1⟩ := trodAll_cons r0
  obtain ⟨v2, vs2, d2, ds2, p2, q2, rfl, rfl, rfl, h2, r2⟩ := trodAll_cons r1
  obtain ⟨rfl, rfl, rfl⟩ := trodAll_nil r2
  obtain rfl : args = #[v0, v1, v2] := by cases args; simp_all
  obtain ⟨rfl, rfl⟩ := trodVars_none hV
  obtain ⟨a0, rfl, rfl, rfl, w0⟩ := open_int Tryz.underlying5 (hval 0 5 v0 rfl rfl) h0
  obtain ⟨a1, rfl, rfl, rfl, w1⟩ := open_int Tryz.underlying5 (hval 1 5 v1 rfl rfl) h1
  obtain ⟨a2, rfl, rfl, rfl, w2⟩ := open_int Tryz.underlying5 (hval 2 5 v2 rfl rfl) h2
  clear hA0 hval0
  simp only [List.append_nil] at hW'
  refine (walk a0 a1 a2 w0 w1 w2 W).mono fun e W' ⟨he, hg⟩ => ?_
  subst he
  exact ⟨_, rfl, post_of_kept (pa := []) (pv := []) hW' (fun _ _ _ => (trodAll_cons_mk (shut_bool Tryz.underlying4 _) trodAll_mk0)) (fun sp _ => (trodAll_cons_mk (shut_int Tryz.underlying5 w0) (trodAll_cons_mk (shut_int Tryz.underlying5 w1) (trodAll_cons_mk (shut_int Tryz.underlying5 w2) trodAll_mk0)))) (fun _ _ => rfl) rfl
    hg (ok_one (by kernel_rfl) rfl (okWide_bool_mk Tryz.underlying4 _))⟩

theorem over : Rows.typesScopesRow.holds Tryz.pinned (OpenSpec.ofChange Rows.typesScopesSpec) :=
  OpenClaim.holds_of_wide 5 Tryz.f5 rfl rfl rfl rfl rfl rfl rfl ⟨rfl, rfl, rfl, rfl, rfl⟩ rfl rfl rfl rfl rfl (by kernel_rfl) Tryz.func5 (by kernel_rfl)
    (of_decide_eq_true (by kernel_rfl)) (by unfold Func.isWrapper; first | (rw [if_pos (by decide +kernel)]; kernel_rfl) | (rw [if_neg (by decide +kernel)]; exact ⟨rfl, rfl⟩))
    (fun os started H enc _ => lifted os started H enc)

/-- ████ THE STATEMENT ████ -/
theorem proved : Rows.TypesScopesSaid :=
  over
#print axioms proved
end Go.Proofs.YtpioabhlihabfaaGreat.typesScopes
