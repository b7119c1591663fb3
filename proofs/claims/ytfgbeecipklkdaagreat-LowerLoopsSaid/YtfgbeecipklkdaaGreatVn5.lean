/-
  The walk through LowerLoops: what its functions do to memory, part Vn5. Nothing is asked.
-/
import Derived.Test.YtfgbeecipklkdaaGreatVn4
import Derived.KernelRfl
set_option linter.all false
namespace Go.Proofs.YtfgbeecipklkdaaGreat
open Go Go.Ag
set_option linter.unusedVariables false
set_option maxRecDepth 100000

/-- instructions as plain data -/
inductive Ins where
  | charge
  | int (d : Nat) (n : Int)
  | move (d a : Nat)
  | put (a b : Nat)
  | jump (k : Nat)
  | unl (a k : Nat)
  | ret
  | eq (d a b : Nat)
  | lt (d a b : Nat)
  | add (d a b : Nat)

def Ins.is (ints : List Int) (op : MOp) : Ins → Prop
  | .charge => op.c = 35
  | .int d n => op.c = 1 ∧ op.d = d ∧ ∃ k : Nat, op.k = k ∧ ints[k]? = some n
  | .move d a => op.c = 4 ∧ op.d = d ∧ op.a = a
  | .put a b => op.c = 28 ∧ op.k = 0 ∧ op.a = a ∧ op.b = b
  | .jump k => op.c = 38 ∧ op.k = k
  | .unl a k => op.c = 39 ∧ op.a = a ∧ op.k = k
  | .ret => op.c = 40 ∧ op.a < 0
  | .eq d a b => op.c = 14 ∧ op.d = d ∧ op.a = a ∧ op.b = b
  | .lt d a b => op.c = 16 ∧ op.d = d ∧ op.a = a ∧ op.b = b
  | .add d a b => op.c = 5 ∧ op.d = d ∧ op.a = a ∧ op.b = b

/-- one instruction, whose number is already counted; none: it is not known what happens; some none: the end -/
def stepP (s : PS) : Ins → Option (Option PS)
  | .charge => if 0 ≤ s.fu ∧ s.fu < 400 then some (some { s with fu := s.fu + 1 }) else none
  | .int d n => if d < s.regs.length then some (some { s with regs := s.regs.set d (1, n) }) else none
  | .move d a => (s.regs[a]?).bind fun e => if d < s.regs.length then some (some { s with regs := s.regs.set d e }) else none
  | .put a b => (s.regs[a]?).bind fun x => (s.regs[b]?).bind fun y => if x.1 = 1 ∧ y.1 = 1 ∧ s.mp.length < 24 ∧ isAt s.mp (idx s.mp x.2) x.2 = false then some (some { s with mp := putL s.mp x.2 y.2 }) else none
  | .jump k => some (some { s with pc := k })
  | .unl a k => (s.regs[a]?).bind fun e => some (some { s with pc := if e.2 = 1 then s.pc else k })
  | .ret => some none
  | .eq d a b => (s.regs[a]?).bind fun x => (s.regs[b]?).bind fun y => if d < s.regs.length then some (some { s with regs := s.regs.set d (3, if (cmpI x.1 x.2 y.1 y.2 == 0) = true then 1 else 0) }) else none
  | .lt d a b => (s.regs[a]?).bind fun x => (s.regs[b]?).bind fun y => if d < s.regs.length then some (some { s with regs := s.regs.set d (3, if decide (cmpI x.1 x.2 y.1 y.2 < 0) = true then 1 else 0) }) else none
  | .add d a b => (s.regs[a]?).bind fun x => (s.regs[b]?).bind fun y => if d < s.regs.length ∧ x.1 = 1 ∧ y.1 = 1 ∧ (0 ≤ x.2 ∧ x.2 ≤ 1000000) ∧ (0 ≤ y.2 ∧ y.2 ≤ 1000000) then some (some { s with regs := s.regs.set d (1, x.2 + y.2) }) else none
def runP (code : List Ins) : Nat → PS → Option PS
  | 0, _ => none
  | n + 1, s => (code[s.pc]?).bind fun i => (stepP { s with pc := s.pc + 1 } i).bind fun r => match r with
    | none => some { s with pc := s.pc + 1 }
    | some s' => runP code n s'

theorem ins82 {O : Hook} (hO : Fr O) {E : Env} (ok : EnvOk E) {s : PS} {op : MOp} {i : Ins} (hi : i.is E.ints op) {r : Option PS} (hr : stepP s i = some r) {T : FT} {S : MS} (h : AtOp E s op T S) {Q : AExit → FT → MS → Prop}
    (hq : ∀ s', r = some s' → ∀ T' S', MM E s' S' → MT E s' T' → Q .normal T' S')
    (he : r = none → ∀ T' S', MEnd E s S' → T'.get 6 = .pointer (some ⟨E.S0.n + 1, 0, none⟩) → T'.get 7 = .bool false → S'.m (E.S0.n + 1) = some (.cells zN 0) → Q .ret T' S') : MWp Tryz.prog O 555 blk82_2 T S Q := by
  cases i with
  | charge =>
    simp only [stepP] at hr
    split at hr
    · rename_i c; cases hr
      exact op_charge hO ok hi c.1 c.2 h (hq _ rfl)
    · cases hr
  | int d n =>
    simp only [stepP] at hr
    obtain ⟨h1, h2, k, h3, h4⟩ := hi
    split at hr
    · rename_i c; cases hr
      exact op_int hO ok h1 h2 h3 c h4 h (hq _ rfl)
    · cases hr
  | move d a =>
    simp only [stepP] at hr
    obtain ⟨h1, h2, h3⟩ := hi
    obtain ⟨e, he', hr⟩ := Option.bind_eq_some_iff.1 hr
    split at hr
    · rename_i c; cases hr
      exact op_move hO ok h1 h2 h3 c he' h (hq _ rfl)
    · cases hr
  | put a b =>
    simp only [stepP] at hr
    obtain ⟨h1, h2, h3, h4⟩ := hi
    obtain ⟨x, hx, hr⟩ := Option.bind_eq_some_iff.1 hr
    obtain ⟨y, hy, hr⟩ := Option.bind_eq_some_iff.1 hr
    split at hr
    · rename_i c; cases hr
      obtain ⟨c1, c2, c3, c4⟩ := c
      obtain ⟨x1, x2⟩ := x
      obtain ⟨y1, y2⟩ := y
      simp only at c1 c2
      subst c1; subst c2
      exact op_put hO ok h1 h2 h3 h4 hx hy c3 c4 h (hq _ rfl)
    · cases hr
  | jump k =>
    simp only [stepP] at hr
    cases hr
    exact op_jump hO ok hi.1 hi.2 h (hq _ rfl)
  | unl a k =>
    simp only [stepP] at hr
    obtain ⟨h1, h2, h3⟩ := hi
    obtain ⟨e, he', hr⟩ := Option.bind_eq_some_iff.1 hr
    cases hr
    exact op_unless hO ok h1 h2 h3 he' h (hq _ rfl)
  | ret =>
    simp only [stepP] at hr
    cases hr
    exact op_ret hO ok hi.1 hi.2 h (he rfl)
  | eq d a b =>
    simp only [stepP] at hr
    obtain ⟨h1, h2, h3, h4⟩ := hi
    obtain ⟨x, hx, hr⟩ := Option.bind_eq_some_iff.1 hr
    obtain ⟨y, hy, hr⟩ := Option.bind_eq_some_iff.1 hr
    split at hr
    · rename_i c; cases hr
      exact op_eq hO ok h1 h2 h3 h4 c hx hy h (hq _ rfl)
    · cases hr
  | lt d a b =>
    simp only [stepP] at hr
    obtain ⟨h1, h2, h3, h4⟩ := hi
    obtain ⟨x, hx, hr⟩ := Option.bind_eq_some_iff.1 hr
    obtain ⟨y, hy, hr⟩ := Option.bind_eq_some_iff.1 hr
    split at hr
    · rename_i c; cases hr
      exact op_lt hO ok h1 h2 h3 h4 c hx hy h (hq _ rfl)
    · cases hr
  | add d a b =>
    simp only [stepP] at hr
    obtain ⟨h1, h2, h3, h4⟩ := hi
    obtain ⟨x, hx, hr⟩ := Option.bind_eq_some_iff.1 hr
    obtain ⟨y, hy, hr⟩ := Option.bind_eq_some_iff.1 hr
    split at hr
    · rename_i c; cases hr
      exact op_add hO ok h1 h2 h3 h4 c.1 hx hy c.2.1 c.2.2.1 c.2.2.2.1 c.2.2.2.2 h (hq _ rfl)
    · cases hr

/-- the plain instructions are the code's -/
def CodeIs (E : Env) (code : List Ins) : Prop := ∀ (i : Nat) ins, code[i]? = some ins → ∃ op, E.code[i]? = some op ∧ ins.is E.ints op

theorem loop82 {O : Hook} (hO : Fr O) {E : Env} (ok : EnvOk E) {code : List Ins} (hcode : CodeIs E code) {n : Nat} {s s' : PS} (hr : runP code n s = some s') {T : FT} {S : MS} (mm : MM E s S) (mt : MT E s T) :
    MWp Tryz.prog O 555 blk82_0 T S fun x T' S' => x = .ret ∧ MEnd E s' S' ∧ T'.get 6 = .pointer (some ⟨E.S0.n + 1, 0, none⟩) ∧ T'.get 7 = .bool false ∧ S'.m (E.S0.n + 1) = some (.cells zN 0) := by
  refine m_block (m_loop (fun m T S => ∃ s, runP code m s = some s' ∧ MM E s S ∧ MT E s T) n ⟨s, hr, mm, mt⟩ ?_)
  clear hr mm mt s
  rintro m T S ⟨s, hr, mm, mt⟩
  cases m with
  | zero => cases hr
  | succ m =>
    unfold runP at hr
    obtain ⟨i, hi, hr⟩ := Option.bind_eq_some_iff.1 hr
    obtain ⟨r, hs, hr⟩ := Option.bind_eq_some_iff.1 hr
    obtain ⟨op, hop, his⟩ := hcode _ _ hi
    refine pro82 hO ok hop mm mt fun T' S' hat => ?_
    refine ins82 hO ok his hs hat (fun s2 e T2 S2 mm2 mt2 => ?_) (fun e T2 S2 hend g6 g7 gc => ?_)
    · subst e
      exact ⟨m, Nat.lt_succ_self _, s2, hr, mm2, mt2⟩
    · subst e
      cases hr
      exact ⟨rfl, hend, g6, g7, gc⟩

theorem m_wf_post {P : Program} {O : Hook} {n : Nat} {c : Code} {T : FT} {S : MS} {Q : AExit → FT → MS → Prop} (h : MWp P O n c T S fun x T' S' => S'.WF → Q x T' S') : MWp P O n c T S Q := fun A hA => by
  obtain ⟨x, T', A', S', h1, h2, h3⟩ := h A hA
  exact ⟨x, T', A', S', h1, h2, h3 h2.wf⟩
theorem zeros_lP (n : Nat) : zeros zN n = (List.replicate n ((0, 0) : En)).flatMap lP := by
  induction n with
  | zero => rfl
  | succ n ih =>
    unfold zeros at ih ⊢
    rw [List.replicate_succ, List.replicate_succ, List.flatten_cons, List.flatMap_cons, ih]; rfl

/-- the run, from its call -/
theorem run82 {O : Hook} (hO : Fr O) {E : Env} (ok : EnvOk E) {code : List Ins} (hcode : CodeIs E code) {rn : Nat} (hrn : E.rn = rn) (hrs : rn ≤ 1000) {args : List En} {ab ac : Nat} (hab : E.S0.list ab = some (args.flatMap lP)) (hal : args.length ≤ rn) (ha0 : args.length ≠ 0) (habn : ab < E.S0.n)
    (mach : ∃ st row most : Int, E.S0.m E.mb = some (.cells (mL E st row most) 0)) {fu : Int} {mp : List En} (world : ∃ mv, IsW E.S0 E.wb E.pr mv E.dp E.em fu ∧ IsSt E.S0 mv mp) (wf : E.S0.WF)
    {n : Nat} {s' : PS} (hr : runP code n ⟨0, args ++ List.replicate (rn - args.length) (0, 0), fu, mp⟩ = some s') {Q : Value → MS → Prop}
    (hq : ∀ S', S'.WF → MEnd E s' S' → Q (.tuple #[vN 0 0, .bool false]) S') :
    CallM Tryz.prog O 82 [.pointer (some ⟨E.mb, 0, none⟩), .agg #[.int .i64 E.rn, E.ops], .slice (some ⟨ab, 0, none⟩) args.length ac] E.S0 Q := by
  refine callM_body (fnIs is82 body82 res82) (hO.at rfl _) (by simp) ?_
  refine m_seq (m_reg ?_)
  rw [reg82_0]
  have hc : (Value.cells (.agg #[.int .i64 E.rn, E.ops])).toList = [.int .i64 E.rn, E.ops] := rfl
  simp (decide := true) only [FT.get_set, FT.setL, faS_ptr, nilS_ptr, pickS_bool, lenSl_of, cvInt_of, aminmax_max, abin_add, abin_sub, abin_eql, abin_neq, abin_lss, abin_leq, abin_gtr, abin_geq, aunary_not, Option.some.injEq, exists_eq_left', if_true, if_false, Nat.zero_add, Nat.add_zero, ptrTo, hc, fresh_n]
  have o2 : Old E.S0 ((E.S0.fresh [.int .i64 E.rn, E.ops] 0).fresh zN 0) := (old_fresh _ _ _).trans (old_fresh _ _ _)
  have l1 : ((E.S0.fresh [.int .i64 E.rn, E.ops] 0).fresh zN 0).m E.S0.n = some (.cells [.int .i64 E.rn, E.ops] 0) := (fresh_old _ _ _ (by rw [fresh_n]; omega)).trans (fresh_at E.S0 _ _)
  have l2 : ((E.S0.fresh [.int .i64 E.rn, E.ops] 0).fresh zN 0).m (E.S0.n + 1) = some (.cells zN 0) := fresh_at (E.S0.fresh [.int .i64 E.rn, E.ops] 0) _ _
  have n2 : ((E.S0.fresh [.int .i64 E.rn, E.ops] 0).fresh zN 0).n = E.S0.n + 2 := rfl
  have ez : ([.int .i64 0, .int .i64 0, .string ⟨⟨[]⟩⟩, .int .i64 0, .slice none 0 0] : List Value) = zN := rfl
  rw [ez]
  generalize (E.S0.fresh [.int .i64 E.rn, E.ops] 0).fresh zN 0 = S2 at o2 l1 l2 n2
  refine m_seq (m_reg ?_)
  rw [reg82_1]
  have lr : ldS none S2 (.pointer (some ⟨E.S0.n, 0, none⟩)) = some (.int .i64 (rn : Int)) := by rw [ldS_ptr, list_of l1, ← hrn]; rfl
  simp (decide := true) only [FT.get_set, FT.setL, faS_ptr, nilS_ptr, pickS_bool, lenSl_of, cvInt_of, aminmax_max, abin_add, abin_sub, abin_eql, abin_neq, abin_lss, abin_leq, abin_gtr, abin_geq, aunary_not, Option.some.injEq, exists_eq_left', if_true, if_false, Nat.zero_add, Nat.add_zero, ptrTo, lr, ez]
  refine ⟨_, _, msS_of S2 5 64 zN .i64 .i64 (n := rn) (by omega) (by omega), ?_⟩
  rw [zeros_lP, n2]
  have g3 : (S2.fresh ((List.replicate rn ((0, 0) : En)).flatMap lP) 5).m (E.S0.n + 2) = some (.cells ((List.replicate rn ((0, 0) : En)).flatMap lP) 5) := by rw [← n2]; exact fresh_at _ _ _
  have o3 : Old S2 (S2.fresh ((List.replicate rn ((0, 0) : En)).flatMap lP) 5) := old_fresh _ _ _
  have n3 : (S2.fresh ((List.replicate rn ((0, 0) : En)).flatMap lP) 5).n = E.S0.n + 3 := by rw [fresh_n, n2]
  generalize S2.fresh ((List.replicate rn ((0, 0) : En)).flatMap lP) 5 = S3 at g3 o3 n3
  refine m_seq (m_reg ?_)
  rw [reg82_2]
  simp (decide := true) only [FT.get_set, FT.setL, faS_ptr, nilS_ptr, pickS_bool, lenSl_of, cvInt_of, aminmax_max, abin_add, abin_sub, abin_eql, abin_neq, abin_lss, abin_leq, abin_gtr, abin_geq, aunary_not, Option.some.injEq, exists_eq_left', if_true, if_false, Nat.zero_add, Nat.add_zero, ptrTo]
  have hab3 : S3.list ab = some (args.flatMap lP) := by unfold MS.list; rw [o3.2 _ (by omega), o2.2 _ habn]; exact hab
  have hmin : Nat.min args.length rn = args.length := Nat.min_eq_left hal
  have hf : firstCellsM S3 5 args.length (.slice (some ⟨ab, 0, none⟩) args.length ac) = some (args.flatMap lP) := by
    rw [first_of hab3 (Nat.le_refl _) ha0 (by rw [fm_len lP_len]; omega), List.drop_zero, List.take_of_length_le (by rw [fm_len lP_len]; omega)]
  have hcp := cpS_of (dcap := rn) (off := 0) g3 (x := .slice (some ⟨ab, 0, none⟩) args.length ac) rfl hmin ha0 hf (by
      rw [List.all_eq_true]; intro v hv
      obtain ⟨a, _, ha⟩ := List.mem_flatMap.1 hv
      exact List.all_eq_true.1 (lP_one a) v ha) (by rw [fm_len lP_len, fm_len lP_len, List.length_replicate]; omega)
  refine ⟨_, _, hcp, ?_⟩
  have hsp : spliceL ((List.replicate rn ((0, 0) : En)).flatMap lP) (args.flatMap lP) 0 = (args ++ List.replicate (rn - args.length) ((0, 0) : En)).flatMap lP := by
    unfold spliceL
    rw [List.take_zero, List.nil_append, Nat.zero_add, fm_len lP_len, fm_drop lP_len, List.drop_replicate, List.flatMap_append]
  rw [hsp]
  have g4 : (S3.set (E.S0.n + 2) (.cells ((args ++ List.replicate (rn - args.length) ((0, 0) : En)).flatMap lP) 5)).m (E.S0.n + 2) = some (.cells ((args ++ List.replicate (rn - args.length) ((0, 0) : En)).flatMap lP) 5) := by rw [set_m, if_pos rfl]
  have k4 : ∀ y, y ≠ E.S0.n + 2 → (S3.set (E.S0.n + 2) (.cells ((args ++ List.replicate (rn - args.length) ((0, 0) : En)).flatMap lP) 5)).m y = S3.m y := fun y hy => by rw [set_m, if_neg hy]
  have n4 : (S3.set (E.S0.n + 2) (.cells ((args ++ List.replicate (rn - args.length) ((0, 0) : En)).flatMap lP) 5)).n = E.S0.n + 3 := n3
  generalize S3.set (E.S0.n + 2) (.cells ((args ++ List.replicate (rn - args.length) ((0, 0) : En)).flatMap lP) 5) = S4 at g4 k4 n4
  refine m_seq (m_reg ?_)
  rw [reg82_3]
  have o4 : Old E.S0 S4 := ⟨by omega, fun y hy => by rw [k4 y (by omega), o3.2 y (by omega), o2.2 y hy]⟩
  have h1 := ok.mbn
  have h2 := ok.wbn
  have hlen : (args ++ List.replicate (rn - args.length) ((0, 0) : En)).length = rn := by rw [List.length_append, List.length_replicate]; omega
  obtain ⟨st, row, most, hm⟩ := mach
  obtain ⟨mv, hw, hs⟩ := world
  refine m_wf_post (MWp.mono (loop82 hO ok hcode hr ⟨by omega, fun y hy a b => o4.2 y hy, (k4 _ (by omega)).trans ((o3.2 _ (by omega)).trans l1), (k4 _ (by omega)).trans ((o3.2 _ (by omega)).trans l2), g4, ⟨st, row, most, (o4.2 _ h1).trans hm⟩, mv, ⟨hw.l4, (o4.2 _ h2).trans hw.m⟩, hs.old wf o4⟩
    ⟨by simp [SV], by simp [SV], by simp [SV], by simp [SV], by simp [SV, hlen], by simp [SV]⟩) ?_)
  rintro _ T' S' ⟨rfl, hend, g6, g7, gc⟩ wf'
  refine ⟨trivial, [vN 0 0, .bool false], ?_, hq S' wf' hend⟩
  rw [res_cell5 g6 gc rfl, res_tmp, res_nil, g7]
  rfl
end Go.Proofs.YtfgbeecipklkdaaGreat
namespace Go.Proofs.YtfgbeecipklkdaaGreat
open Go Go.Ag
set_option linter.unusedVariables false
set_option maxRecDepth 100000

theorem cmp_self (a : Int) : (cmpI 1 a 1 a == 0) = true := by rw [cmp_eq]; simp

/-- Same of two states that are alike -/
theorem same13 {O : Hook} (hO : Fr O) {m1 m2 : Value} {l : List En} {S : MS} (wf : S.WF) (h1 : IsSt S m1 l) (h2 : IsSt S m2 l) (hlen : l.length ≤ 1000) {Q : Value → MS → Prop} (hq : ∀ S', Old S S' → Q (.bool true) S') : CallM Tryz.prog O 13 [.agg #[m1], .agg #[m2]] S Q := by
  refine callM_body (fnIs is13 body13 res13) (hO.at rfl _) (by simp) ?_
  refine m_seq (m_reg ?_)
  rw [reg13_0]
  have hc1 : (Value.cells (.agg #[m1])).toList = [m1] := rfl
  have hc2 : (Value.cells (.agg #[m2])).toList = [m2] := rfl
  simp (decide := true) only [FT.get_set, FT.setL, faS_ptr, nilS_ptr, pickS_bool, cvInt_of, aminmax_max, abin_add, abin_sub, abin_eql, abin_neq, abin_lss, abin_leq, abin_gtr, abin_geq, aunary_not, Option.some.injEq, exists_eq_left', if_true, if_false, Nat.zero_add, Nat.add_zero, ptrTo, Value.bool.injEq, true_implies, false_implies, Bool.true_eq_false, Bool.false_eq_true, true_and, and_true, hc1, hc2, fresh_n]
  have o2 : Old S ((S.fresh [m1] 0).fresh [m2] 0) := (old_fresh _ _ _).trans (old_fresh _ _ _)
  have wf2 := wf_fresh' (wf_fresh' wf [m1] 0) [m2] 0
  have k1 : ((S.fresh [m1] 0).fresh [m2] 0).m S.n = some (.cells [m1] 0) := (fresh_old _ _ _ (by rw [fresh_n]; omega)).trans (fresh_at S _ _)
  have k2 : ((S.fresh [m1] 0).fresh [m2] 0).m (S.n + 1) = some (.cells [m2] 0) := fresh_at (S.fresh [m1] 0) _ _
  have g1 := h1.old wf o2
  have g2 := h2.old wf o2
  generalize (S.fresh [m1] 0).fresh [m2] 0 = S2 at o2 wf2 k1 k2 g1 g2
  obtain ⟨b1, c1, v1, j1, rfl, hb1, hbn1, hl1⟩ := g1.ex
  obtain ⟨b2, c2, v2, j2, rfl, hb2, hbn2, hl2⟩ := g2.ex
  have n1 := wf2 _ _ k1
  have n2 := wf2 _ _ k2
  have ia1 : iaSS 1 (.slice (some ⟨b1, 0, none⟩) 1 c1) (.int .i64 0) = some (.pointer (some ⟨b1, 0, none⟩)) := rfl
  have ia2 : iaSS 1 (.slice (some ⟨b2, 0, none⟩) 1 c2) (.int .i64 0) = some (.pointer (some ⟨b2, 0, none⟩)) := rfl
  have ln1 : Go.Ag.lenSl (.slice (some ⟨b1, 0, none⟩) 1 c1) = some (.int .i64 1) := rfl
  have ln2 : Go.Ag.lenSl (.slice (some ⟨b2, 0, none⟩) 1 c2) = some (.int .i64 1) := rfl
  have r1 : ∀ S', Old S2 S' → ldS none S' (.pointer (some ⟨S.n, 0, none⟩)) = some (.slice (some ⟨b1, 0, none⟩) 1 c1) := fun S' f => by rw [ldS_ptr, list_of ((f.2 _ n1).trans k1)]; rfl
  have r2 : ∀ S', Old S2 S' → ldS none S' (.pointer (some ⟨S.n + 1, 0, none⟩)) = some (.slice (some ⟨b2, 0, none⟩) 1 c2) := fun S' f => by rw [ldS_ptr, list_of ((f.2 _ n2).trans k2)]; rfl
  have q1 : ∀ S', Old S2 S' → ldS none S' (.pointer (some ⟨b1, 0, none⟩)) = some v1 := fun S' f => by
    rw [ldS_ptr]; unfold MS.list; rw [f.2 _ hbn1]; unfold MS.list at hb1; rw [hb1]; rfl
  have q2 : ∀ S', Old S2 S' → ldS none S' (.pointer (some ⟨b2, 0, none⟩)) = some v2 := fun S' f => by
    rw [ldS_ptr]; unfold MS.list; rw [f.2 _ hbn2]; unfold MS.list at hb2; rw [hb2]; rfl
  have f2 : Old S2 S2 := Old.refl _
  refine m_seq (m_seq (m_reg ?_))
  rw [reg13_1]
  simp (decide := true) only [FT.get_set, FT.setL, faS_ptr, nilS_ptr, pickS_bool, cvInt_of, aminmax_max, abin_add, abin_sub, abin_eql, abin_neq, abin_lss, abin_leq, abin_gtr, abin_geq, aunary_not, Option.some.injEq, exists_eq_left', if_true, if_false, Nat.zero_add, Nat.add_zero, ptrTo, Value.bool.injEq, true_implies, false_implies, Bool.true_eq_false, Bool.false_eq_true, true_and, and_true, r1 S2 f2, r2 S2 f2, ln1, ln2]
  refine m_cond (t := false) (by simp [evalT, SV]) (fun h => by cases h) (fun _ => m_skip ?_)
  refine m_seq (m_seq (m_reg ?_))
  rw [reg13_3]
  refine m_block (m_loop (fun m T S' => Old S2 S' ∧ ∃ i : Nat, i + m = 1 ∧ T.get 2 = .pointer (some ⟨S.n, 0, none⟩) ∧ T.get 3 = .pointer (some ⟨S.n + 1, 0, none⟩) ∧ T.get 5 = .int .i64 (i : Int)) 1 ⟨f2, 0, rfl, by simp [SV], by simp [SV], by simp [SV]⟩ ?_)
  rintro m T S3 ⟨o3, i, him, t2, t3, t5⟩
  refine m_seq (m_seq (m_reg ?_))
  rw [reg13_4]
  simp (decide := true) only [FT.get_set, FT.setL, faS_ptr, nilS_ptr, pickS_bool, cvInt_of, aminmax_max, abin_add, abin_sub, abin_eql, abin_neq, abin_lss, abin_leq, abin_gtr, abin_geq, aunary_not, Option.some.injEq, exists_eq_left', if_true, if_false, Nat.zero_add, Nat.add_zero, ptrTo, Value.bool.injEq, true_implies, false_implies, Bool.true_eq_false, Bool.false_eq_true, true_and, and_true, t2, t5, r1 S3 o3, ln1]
  by_cases hi : i = 0
  · subst hi
    refine m_cond (t := true) (by simp [evalT, SV]) (fun _ => m_skip ?_) (fun h => by cases h)
    have lenv1 : ∀ S', Old S2 S' → Go.Ag.lenSl v1 = some (.int .i64 (l.length : Int)) := fun S' f => (SlE.old hl1 wf2 f).lenSl
    have lv1 := hl1.lenSl
    have lv2 := hl2.lenSl
    refine m_seq (m_block (m_seq (m_seq (m_draw ?_))))
    rw [reg13_6]
    simp (decide := true) only [FT.get_set, FT.setL, faS_ptr, nilS_ptr, pickS_bool, cvInt_of, aminmax_max, abin_add, abin_sub, abin_eql, abin_neq, abin_lss, abin_leq, abin_gtr, abin_geq, aunary_not, Option.some.injEq, exists_eq_left', if_true, if_false, Nat.zero_add, Nat.add_zero, ptrTo, Value.bool.injEq, true_implies, false_implies, Bool.true_eq_false, Bool.false_eq_true, true_and, and_true, t2, t3, t5, r1 S3 o3, r2 S3 o3, Int.cast_ofNat_Int, ia1, ia2, q1 S3 o3, q2 S3 o3, lv1, lv2]
    refine m_cond (t := false) (by simp [evalT, SV]) (fun h => by cases h) (fun _ => m_skip ?_)
    refine m_seq (m_reg ?_)
    rw [reg13_8]
    refine m_block (m_loop (fun m T S' => Old S2 S' ∧ ∃ j : Nat, j + m = l.length ∧ T.get 2 = .pointer (some ⟨S.n, 0, none⟩) ∧ T.get 3 = .pointer (some ⟨S.n + 1, 0, none⟩) ∧ T.get 5 = .int .i64 0 ∧ T.get 6 = .int .i64 (j : Int)) l.length ⟨o3, 0, by omega, by simp [SV, t2], by simp [SV, t3], by simp [SV, t5], by simp [SV]⟩ ?_)
    rintro m' T4 S4 ⟨o4, j, hjm, u2, u3, u5, u6⟩
    refine m_seq (m_seq (m_reg ?_))
    rw [reg13_9]
    simp (decide := true) only [FT.get_set, FT.setL, faS_ptr, nilS_ptr, pickS_bool, cvInt_of, aminmax_max, abin_add, abin_sub, abin_eql, abin_neq, abin_lss, abin_leq, abin_gtr, abin_geq, aunary_not, Option.some.injEq, exists_eq_left', if_true, if_false, Nat.zero_add, Nat.add_zero, ptrTo, Value.bool.injEq, true_implies, false_implies, Bool.true_eq_false, Bool.false_eq_true, true_and, and_true, u2, u5, u6, r1 S4 o4, ia1, q1 S4 o4, lv1]
    by_cases hj : j < l.length
    · have hx : l[j]? = some l[j] := List.getElem?_eq_getElem hj
      have hl14 := SlE.old hl1 wf2 o4
      have hl24 := SlE.old hl2 wf2 o4
      obtain ⟨x1, i11, i12, i13⟩ := SlE.key hl14 hx
      obtain ⟨x2, i21, i22, i23⟩ := SlE.key hl24 hx
      refine m_cond (t := true) (by simp [evalT, SV]; try omega) (fun _ => m_skip ?_) (fun h => by cases h)
      refine m_seq (m_block (m_seq (m_draw ?_)))
      rw [reg13_11]
      simp (decide := true) only [FT.get_set, FT.setL, faS_ptr, nilS_ptr, pickS_bool, cvInt_of, aminmax_max, abin_add, abin_sub, abin_eql, abin_neq, abin_lss, abin_leq, abin_gtr, abin_geq, aunary_not, Option.some.injEq, exists_eq_left', if_true, if_false, Nat.zero_add, Nat.add_zero, ptrTo, Value.bool.injEq, true_implies, false_implies, Bool.true_eq_false, Bool.false_eq_true, true_and, and_true, u2, u3, u5, u6, r1 S4 o4, r2 S4 o4, ia1, ia2, q1 S4 o4, q2 S4 o4, i11, i21]
      refine ⟨_, i12, _, i22, ?_⟩
      refine same34 hO fun S5 f5 => ?_
      have o5 := o4.trans f5
      obtain ⟨y1, k11, k12, k13⟩ := SlE.key (SlE.old hl1 wf2 o5) hx
      obtain ⟨y2, k21, k22, k23⟩ := SlE.key (SlE.old hl2 wf2 o5) hx
      rw [k11] at i11
      rw [k21] at i21
      cases i11
      cases i21
      simp (decide := true) only [FT.get_set, FT.setL, faS_ptr, nilS_ptr, pickS_bool, cvInt_of, aminmax_max, abin_add, abin_sub, abin_eql, abin_neq, abin_lss, abin_leq, abin_gtr, abin_geq, aunary_not, Option.some.injEq, exists_eq_left', if_true, if_false, Nat.zero_add, Nat.add_zero, ptrTo, Value.bool.injEq, true_implies, false_implies, Bool.true_eq_false, Bool.false_eq_true, true_and, and_true, cmp_self, Bool.not_true, u2, u3, u5, u6, r1 S5 o5, r2 S5 o5, ia1, ia2, q1 S5 o5, q2 S5 o5, k11, k21, k13, k23]
      refine same34 hO fun S6 f6 => ?_
      simp (decide := true) only [FT.get_set, FT.setL, faS_ptr, nilS_ptr, pickS_bool, cvInt_of, aminmax_max, abin_add, abin_sub, abin_eql, abin_neq, abin_lss, abin_leq, abin_gtr, abin_geq, aunary_not, Option.some.injEq, exists_eq_left', if_true, if_false, Nat.zero_add, Nat.add_zero, ptrTo, Value.bool.injEq, true_implies, false_implies, Bool.true_eq_false, Bool.false_eq_true, true_and, and_true, cmp_self, Bool.not_true]
      refine m_cond (t := false) (by simp [evalT, SV]) (fun h => by cases h) (fun _ => m_skip ?_)
      simp only
      refine m_reg ?_
      rw [reg13_10]
      have w1 : IntKind.i64.wrap ((j : Int) + 1) = ((j + 1 : Nat) : Int) := by rw [wrap_i64 (by omega) (by omega)]; rfl
      simp (decide := true) only [FT.get_set, FT.setL, faS_ptr, nilS_ptr, pickS_bool, cvInt_of, aminmax_max, abin_add, abin_sub, abin_eql, abin_neq, abin_lss, abin_leq, abin_gtr, abin_geq, aunary_not, Option.some.injEq, exists_eq_left', if_true, if_false, Nat.zero_add, Nat.add_zero, ptrTo, Value.bool.injEq, true_implies, false_implies, Bool.true_eq_false, Bool.false_eq_true, true_and, and_true, u6, w1]
      exact ⟨m' - 1, by omega, o5.trans f6, j + 1, by omega, by simp [SV, u2], by simp [SV, u3], by simp [SV, u5], by simp [SV]⟩
    · refine m_cond (t := false) (by simp [evalT, SV]; try omega) (fun h => by cases h) (fun _ => m_exit ?_)
      simp only [if_true]
      refine m_reg ?_
      rw [reg13_5]
      have w1 : IntKind.i64.wrap ((0 : Int) + 1) = ((0 + 1 : Nat) : Int) := by rw [wrap_i64 (by omega) (by omega)]; rfl
      simp (decide := true) only [FT.get_set, FT.setL, faS_ptr, nilS_ptr, pickS_bool, cvInt_of, aminmax_max, abin_add, abin_sub, abin_eql, abin_neq, abin_lss, abin_leq, abin_gtr, abin_geq, aunary_not, Option.some.injEq, exists_eq_left', if_true, if_false, Nat.zero_add, Nat.add_zero, ptrTo, Value.bool.injEq, true_implies, false_implies, Bool.true_eq_false, Bool.false_eq_true, true_and, and_true, u5, w1]
      exact ⟨0, by omega, o4, 1, rfl, by simp [SV, u2], by simp [SV, u3], by simp [SV]⟩
  · have hi1 : i = 1 := by omega
    subst hi1
    refine m_cond (t := false) (by simp [evalT, SV]) (fun h => by cases h) (fun _ => m_exit ?_)
    simp only [if_true]
    refine m_seq (m_reg ?_)
    rw [reg13_13]
    refine m_ret ?_
    refine ⟨trivial, [.bool true], ?_, hq _ (o2.trans o3)⟩
    rw [res_tmp, res_nil]; simp [SV]
end Go.Proofs.YtfgbeecipklkdaaGreat
namespace Go.Proofs.YtfgbeecipklkdaaGreat
open Go Go.Ag
set_option linter.unusedVariables false
set_option maxRecDepth 100000
variable {O : Hook} {T : FT} {S : MS} {Q : FT → MS → Prop}
/-! ### 151: windlass/windlassref3.IsType -/
theorem body151 : (Tryz.prog.funcs[151]?).bind (·.body) = some (.seq (.region 0 (ro 151 0) false) (.seq (.seq (.region 1 (ro 151 1) false) (.cond (.tmp 7) (.seq (.region 2 (ro 151 2) false) .ret) .skip)) (.seq (.region 3 (ro 151 3) false) .ret))) := by kernel_rfl
theorem res151 : (Tryz.prog.funcs[151]?).map (·.results.toList) = some [.tmp 4] := by kernel_rfl
theorem is151 : fnIsB Tryz.prog 151 32 = true := by kernel_rfl
theorem reg151_0 : mOps Tryz.prog O 32 (ro 151 0).toList (ro 151 0).toList [] T S Q =
  (Q (((T.set (ptrTo S.n) 2).set (ptrTo (S.fresh (Value.cells (T.get 0)).toList 0).n) 3).set (.bool false) 4) ((S.fresh (Value.cells (T.get 0)).toList 0).fresh (Value.cells (T.get 1)).toList 0)) := by kernel_rfl
theorem reg151_1 : mOps Tryz.prog O 32 (ro 151 1).toList (ro 151 1).toList [] T S Q =
  (∃ p0, faS 0 (T.get 3) = some p0 ∧ ∃ p1, ldS none S p0 = some p1 ∧ ∃ p2, abin Tryz.prog .eql 3 (.tmp 6) (.const (.int .i64 4)) p1 (.int .i64 4) = some p2 ∧ Q (((T.set p0 5).set p1 6).set p2 7) S) := by kernel_rfl
theorem reg151_3 : mOps Tryz.prog O 32 (ro 151 3).toList (ro 151 3).toList [] T S Q =
  (∃ p0, faS 0 (T.get 3) = some p0 ∧ ∃ p1, ldS none S p0 = some p1 ∧ ∃ p2, abin Tryz.prog .geq 3 (.tmp 20) (.const (.int .i64 1)) p1 (.int .i64 1) = some p2 ∧ ∃ b3, p2 = .bool b3 ∧
      (b3 = true → ∃ p4, faS 0 (T.get 3) = some p4 ∧ ∃ p5, ldS none S p4 = some p5 ∧ ∃ p6, abin Tryz.prog .leq 3 (.tmp 24) (.const (.int .i64 3)) p5 (.int .i64 3) = some p6 ∧ ∃ p7, pickS p2 p6 (.bool false) = some p7 ∧ ∃ b8, p7 = .bool b8 ∧
           (b8 = true → ∃ p9, faS 1 (T.get 3) = some p9 ∧ ∃ p10, ldS none S p9 = some p10 ∧ ∃ p11, abin Tryz.prog .eql 3 (.tmp 29) (.const (.int .i64 0)) p10 (.int .i64 0) = some p11 ∧ ∃ p12, pickS p7 p11 (.bool false) = some p12 ∧ Q ((((((((((((((T.set p0 19).set p1 20).set p2 21).set p2 22).set p4 23).set p5 24).set p6 25).set p7 26).set p7 27).set p9 28).set p10 29).set p11 30).set p12 31).set p12 4) S) ∧
           (b8 = false → ∃ p12, pickS p7 undef (.bool false) = some p12 ∧ Q ((((((((((((((T.set p0 19).set p1 20).set p2 21).set p2 22).set p4 23).set p5 24).set p6 25).set p7 26).set p7 27).set undef 28).set undef 29).set undef 30).set p12 31).set p12 4) S)) ∧
      (b3 = false → ∃ p7, pickS p2 undef (.bool false) = some p7 ∧ ∃ b8, p7 = .bool b8 ∧
           (b8 = true → ∃ p9, faS 1 (T.get 3) = some p9 ∧ ∃ p10, ldS none S p9 = some p10 ∧ ∃ p11, abin Tryz.prog .eql 3 (.tmp 29) (.const (.int .i64 0)) p10 (.int .i64 0) = some p11 ∧ ∃ p12, pickS p7 p11 (.bool false) = some p12 ∧ Q ((((((((((((((T.set p0 19).set p1 20).set p2 21).set p2 22).set undef 23).set undef 24).set undef 25).set p7 26).set p7 27).set p9 28).set p10 29).set p11 30).set p12 31).set p12 4) S) ∧
           (b8 = false → ∃ p12, pickS p7 undef (.bool false) = some p12 ∧ Q ((((((((((((((T.set p0 19).set p1 20).set p2 21).set p2 22).set undef 23).set undef 24).set undef 25).set p7 26).set p7 27).set undef 28).set undef 29).set undef 30).set p12 31).set p12 4) S))) := by kernel_rfl
/-! ### 302: windlass/windlassref2.Plain -/
noncomputable def blk302_2 : Code := .block 2 (.seq (.region 15 (ro 302 15) false) (.cond (.tmp 104) (.seq (.region 16 (ro 302 16) false) .ret) .skip))
noncomputable def blk302_1 : Code := .block 1 (.loop (.seq (.seq (.region 13 (ro 302 13) false) (.cond (.tmp 86) .skip (.exit 1))) (.seq blk302_2 (.region 14 (ro 302 14) false))))
noncomputable def blk302_0 : Code := .block 0 (.seq (.region 3 (ro 302 3) false) (.cond (.tmp 16) (.seq (.region 4 (ro 302 4) false) .ret) (.seq (.region 5 (ro 302 5) false) (.cond (.tmp 24) (.seq (.region 6 (ro 302 6) false) .ret) (.seq (.region 7 (ro 302 7) false) (.cond (.tmp 38) (.seq (.region 8 (ro 302 8) false) .ret) (.seq (.region 9 (ro 302 9) false) (.cond (.tmp 56) (.seq (.seq (.region 10 (ro 302 10) false) (.cond (.tmp 81) (.seq (.region 11 (ro 302 11) false) .ret) .skip)) (.seq (.seq (.region 12 (ro 302 12) false) blk302_1) (.seq (.region 17 (ro 302 17) false) .ret))) .skip))))))))
theorem body302 : (Tryz.prog.funcs[302]?).bind (·.body) = some (.seq (.region 0 (ro 302 0) false) (.seq (.region 1 (ro 302 1) false) (.seq (.seq (.region 2 (ro 302 2) false) blk302_0) (.seq (.region 18 (ro 302 18) false) .ret)))) := by kernel_rfl
theorem res302 : (Tryz.prog.funcs[302]?).map (·.results.toList) = some [.tmp 2] := by kernel_rfl
theorem is302 : fnIsB Tryz.prog 302 105 = true := by kernel_rfl
theorem reg302_0 : mOps Tryz.prog O 105 (ro 302 0).toList (ro 302 0).toList [] T S Q =
  (Q ((T.set (ptrTo S.n) 1).set (.bool false) 2) (S.fresh (Value.cells (T.get 0)).toList 0)) := by kernel_rfl
theorem reg302_1 : mOps Tryz.prog O 105 (ro 302 1).toList (ro 302 1).toList [] T S Q =
  (∃ p0, faS 3 (T.get 1) = some p0 ∧ ∃ p1, ldS none S p0 = some p1 ∧ ∃ p2, abin Tryz.prog .eql 3 (.tmp 6) (.const (.int .i64 0)) p1 (.int .i64 0) = some p2 ∧ ∃ b3, p2 = .bool b3 ∧
      (b3 = true → ∃ p4, faS 4 (T.get 1) = some p4 ∧ ∃ p5, ldS none S p4 = some p5 ∧ ∃ p6, lenSl p5 = some p6 ∧ ∃ p7, abin Tryz.prog .eql 3 (.tmp 11) (.const (.int .i64 0)) p6 (.int .i64 0) = some p7 ∧ ∃ p8, pickS p2 p7 (.bool false) = some p8 ∧ Q ((((((((((T.set p0 5).set p1 6).set p2 7).set p2 8).set p4 9).set p5 10).set p6 11).set p7 12).set p8 13).set p8 3) S) ∧
      (b3 = false → ∃ p8, pickS p2 undef (.bool false) = some p8 ∧ Q ((((((((((T.set p0 5).set p1 6).set p2 7).set p2 8).set undef 9).set undef 10).set undef 11).set undef 12).set p8 13).set p8 3) S)) := by kernel_rfl
theorem reg302_2 : mOps Tryz.prog O 105 (ro 302 2).toList (ro 302 2).toList [] T S Q =
  (∃ p0, faS 0 (T.get 1) = some p0 ∧ ∃ p1, ldS none S p0 = some p1 ∧ Q ((T.set p0 14).set p1 15) S) := by kernel_rfl
theorem reg302_3 : mOps Tryz.prog O 105 (ro 302 3).toList (ro 302 3).toList [] T S Q =
  (∃ p0, abin Tryz.prog .eql 3 (.tmp 15) (.const (.int .i64 1)) (T.get 15) (.int .i64 1) = some p0 ∧ Q ((T.set p0 17).set p0 16) S) := by kernel_rfl
theorem reg302_4 : mOps Tryz.prog O 105 (ro 302 4).toList (ro 302 4).toList [] T S Q =
  (∃ b1, (T.get 3) = .bool b1 ∧
    (b1 = true → ∃ p2, faS 2 (T.get 1) = some p2 ∧ ∃ p3, ldS none S p2 = some p3 ∧ ∃ p4, abin Tryz.prog .eql 9 (.tmp 21) (.const (.string ⟨⟨[]⟩⟩)) p3 (.string ⟨⟨[]⟩⟩) = some p4 ∧ ∃ p5, pickS (T.get 3) p4 (.bool false) = some p5 ∧ Q (((((((T.set (T.get 3) 18).set (T.get 3) 19).set p2 20).set p3 21).set p4 22).set p5 23).set p5 2) S) ∧
    (b1 = false → ∃ p5, pickS (T.get 3) undef (.bool false) = some p5 ∧ Q (((((((T.set (T.get 3) 18).set (T.get 3) 19).set undef 20).set undef 21).set undef 22).set p5 23).set p5 2) S)) := by kernel_rfl
/-! ### 154: windlass/windlassref4.Is -/
noncomputable def blk154_3 : Code := .block 3 (.seq (.region 12 (ro 154 12) true) (.cond (.tmp 89) (.seq (.region 13 (ro 154 13) false) .ret) .skip))
noncomputable def blk154_2 : Code := .block 2 (.loop (.seq (.seq (.region 10 (ro 154 10) false) (.cond (.tmp 38) .skip (.exit 2))) (.seq blk154_3 (.region 11 (ro 154 11) false))))
noncomputable def blk154_1 : Code := .block 1 (.seq (.region 6 (ro 154 6) false) (.seq (.seq (.region 7 (ro 154 7) false) (.cond (.tmp 34) (.seq (.region 8 (ro 154 8) false) .ret) .skip)) (.seq (.region 9 (ro 154 9) false) blk154_2)))
noncomputable def blk154_0 : Code := .block 0 (.loop (.seq (.seq (.region 4 (ro 154 4) false) (.cond (.tmp 24) .skip (.exit 0))) (.seq blk154_1 (.region 5 (ro 154 5) false))))
theorem body154 : (Tryz.prog.funcs[154]?).bind (·.body) = some (.seq (.region 0 (ro 154 0) false) (.seq (.seq (.region 1 (ro 154 1) false) (.cond (.tmp 19) (.seq (.region 2 (ro 154 2) false) .ret) .skip)) (.seq (.seq (.region 3 (ro 154 3) false) blk154_0) (.seq (.region 14 (ro 154 14) false) .ret)))) := by kernel_rfl
theorem res154 : (Tryz.prog.funcs[154]?).map (·.results.toList) = some [.tmp 4] := by kernel_rfl
theorem is154 : fnIsB Tryz.prog 154 90 = true := by kernel_rfl
theorem reg154_0 : mOps Tryz.prog O 90 (ro 154 0).toList (ro 154 0).toList [] T S Q =
  (Q (((T.set (ptrTo S.n) 2).set (ptrTo (S.fresh (Value.cells (T.get 0)).toList 0).n) 3).set (.bool false) 4) ((S.fresh (Value.cells (T.get 0)).toList 0).fresh (Value.cells (T.get 1)).toList 0)) := by kernel_rfl
theorem reg154_1 : mOps Tryz.prog O 90 (ro 154 1).toList (ro 154 1).toList [] T S Q =
  (∃ p0, ldS (some 4) S (T.get 2) = some p0 ∧ CallM Tryz.prog O 79 [p0] S fun p1 S1 => ∃ p2, aunary .not p1 = some p2 ∧ ∃ b3, p2 = .bool b3 ∧
      (b3 = true → ∃ p11, pickS p2 (.bool true) undef = some p11 ∧ Q ((((((((((((T.set p0 8).set p1 9).set p2 10).set p2 11).set undef 12).set undef 13).set undef 14).set undef 15).set undef 16).set undef 17).set undef 18).set p11 19) S1) ∧
      (b3 = false → ∃ p4, faS 0 (T.get 3) = some p4 ∧ ∃ p5, ldS none S1 p4 = some p5 ∧ ∃ p6, lenSl p5 = some p6 ∧ ∃ p7, faS 1 (T.get 2) = some p7 ∧ ∃ p8, ldS none S1 p7 = some p8 ∧ ∃ p9, lenSl p8 = some p9 ∧ ∃ p10, abin Tryz.prog .neq 3 (.tmp 14) (.tmp 17) p6 p9 = some p10 ∧ ∃ p11, pickS p2 (.bool true) p10 = some p11 ∧ Q ((((((((((((T.set p0 8).set p1 9).set p2 10).set p2 11).set p4 12).set p5 13).set p6 14).set p7 15).set p8 16).set p9 17).set p10 18).set p11 19) S1)) := by kernel_rfl
theorem reg154_3 : mOps Tryz.prog O 90 (ro 154 3).toList (ro 154 3).toList [] T S Q =
  (Q (T.set (.int .i64 0) 5) S) := by kernel_rfl
theorem reg154_4 : mOps Tryz.prog O 90 (ro 154 4).toList (ro 154 4).toList [] T S Q =
  (∃ p1, faS 0 (T.get 3) = some p1 ∧ ∃ p2, ldS none S p1 = some p2 ∧ ∃ p3, lenSl p2 = some p3 ∧ ∃ p4, abin Tryz.prog .lss 3 (.tmp 20) (.tmp 23) (T.get 5) p3 = some p4 ∧ Q (((((T.set (T.get 5) 20).set p1 21).set p2 22).set p3 23).set p4 24) S) := by kernel_rfl
theorem reg154_6 : mOps Tryz.prog O 90 (ro 154 6).toList (ro 154 6).toList [] T S Q =
  (∃ p0, faS 0 (T.get 3) = some p0 ∧ ∃ p1, ldS none S p0 = some p1 ∧ ∃ p3, iaSS 1 p1 (T.get 5) = some p3 ∧ ∃ p4, ldS none S p3 = some p4 ∧ Q ((((((T.set p0 27).set p1 28).set (T.get 5) 29).set p3 30).set p4 31).set p4 6) S) := by kernel_rfl
theorem reg154_7 : mOps Tryz.prog O 90 (ro 154 7).toList (ro 154 7).toList [] T S Q =
  (∃ p1, lenSl (T.get 6) = some p1 ∧ ∃ p2, abin Tryz.prog .gtr 3 (.tmp 33) (.const (.int .i64 24)) p1 (.int .i64 24) = some p2 ∧ Q (((T.set (T.get 6) 32).set p1 33).set p2 34) S) := by kernel_rfl
theorem reg154_9 : mOps Tryz.prog O 90 (ro 154 9).toList (ro 154 9).toList [] T S Q =
  (Q (T.set (.int .i64 0) 7) S) := by kernel_rfl
theorem reg154_10 : mOps Tryz.prog O 90 (ro 154 10).toList (ro 154 10).toList [] T S Q =
  (∃ p2, lenSl (T.get 6) = some p2 ∧ ∃ p3, abin Tryz.prog .lss 3 (.tmp 35) (.tmp 37) (T.get 7) p2 = some p3 ∧ Q ((((T.set (T.get 7) 35).set (T.get 6) 36).set p2 37).set p3 38) S) := by kernel_rfl
theorem reg154_5 : mOps Tryz.prog O 90 (ro 154 5).toList (ro 154 5).toList [] T S Q =
  (∃ p1, abin Tryz.prog .add 3 (.tmp 25) (.const (.int .i64 1)) (T.get 5) (.int .i64 1) = some p1 ∧ Q (((T.set (T.get 5) 25).set p1 26).set p1 5) S) := by kernel_rfl
theorem reg154_14 : mOps Tryz.prog O 90 (ro 154 14).toList (ro 154 14).toList [] T S Q =
  (Q (T.set (.bool true) 4) S) := by kernel_rfl
end Go.Proofs.YtfgbeecipklkdaaGreat
namespace Go.Proofs.YtfgbeecipklkdaaGreat
open Go Go.Ag
set_option linter.unusedVariables false
set_option maxRecDepth 100000

theorem es_eql : abin Tryz.prog .eql 9 (.tmp 21) (.const es) es es = some (.bool true) := by rw [abin_str_eql]; simp
/-- Plain of a number -/
theorem plain302 {O : Hook} (hO : Fr O) {n : Int} {S : MS} {Q : Value → MS → Prop} (hq : ∀ S', Old S S' → Q (.bool true) S') : CallM Tryz.prog O 302 [vN 1 n] S Q := by
  refine callM_body (fnIs is302 body302 res302) (hO.at rfl _) (by simp) ?_
  refine m_seq (m_reg ?_)
  rw [reg302_0]
  simp (decide := true) only [FT.get_set, FT.setL, faS_ptr, nilS_ptr, pickS_bool, cvInt_of, aminmax_max, abin_add, abin_sub, abin_eql, abin_neq, abin_lss, abin_leq, abin_gtr, abin_geq, aunary_not, Option.some.injEq, exists_eq_left', if_true, if_false, Nat.zero_add, Nat.add_zero, ptrTo, Value.bool.injEq, true_implies, false_implies, Bool.true_eq_false, Bool.false_eq_true, true_and, and_true, lenSl_of, vN_cells, fresh_n]
  have o2 : Old S (S.fresh (lN 1 n) 0) := old_fresh _ _ _
  have k1 : (S.fresh (lN 1 n) 0).list S.n = some (lN 1 n) := by rw [list_of (fresh_at _ _ _), list_cells]
  generalize S.fresh (lN 1 n) 0 = S2 at o2 k1
  have r0 : ldS none S2 (.pointer (some ⟨S.n, 0, none⟩)) = some (.int .i64 1) := by rw [ldS_ptr, k1]; rfl
  have r2 : ldS none S2 (.pointer (some ⟨S.n, 2, none⟩)) = some es := by rw [ldS_ptr, k1]; rfl
  have r3 : ldS none S2 (.pointer (some ⟨S.n, 3, none⟩)) = some (.int .i64 0) := by rw [ldS_ptr, k1]; rfl
  have r4 : ldS none S2 (.pointer (some ⟨S.n, 4, none⟩)) = some (.slice none 0 0) := by rw [ldS_ptr, k1]; rfl
  refine m_seq (m_reg ?_)
  rw [reg302_1]
  simp (decide := true) only [FT.get_set, FT.setL, faS_ptr, nilS_ptr, pickS_bool, cvInt_of, aminmax_max, abin_add, abin_sub, abin_eql, abin_neq, abin_lss, abin_leq, abin_gtr, abin_geq, aunary_not, Option.some.injEq, exists_eq_left', if_true, if_false, Nat.zero_add, Nat.add_zero, ptrTo, Value.bool.injEq, true_implies, false_implies, Bool.true_eq_false, Bool.false_eq_true, true_and, and_true, lenSl_of, r3, r4, Int.cast_ofNat_Int]
  refine m_seq (m_seq (m_reg ?_))
  rw [reg302_2]
  simp (decide := true) only [FT.get_set, FT.setL, faS_ptr, nilS_ptr, pickS_bool, cvInt_of, aminmax_max, abin_add, abin_sub, abin_eql, abin_neq, abin_lss, abin_leq, abin_gtr, abin_geq, aunary_not, Option.some.injEq, exists_eq_left', if_true, if_false, Nat.zero_add, Nat.add_zero, ptrTo, Value.bool.injEq, true_implies, false_implies, Bool.true_eq_false, Bool.false_eq_true, true_and, and_true, lenSl_of, r0]
  refine m_block (m_seq (m_reg ?_))
  rw [reg302_3]
  simp (decide := true) only [FT.get_set, FT.setL, faS_ptr, nilS_ptr, pickS_bool, cvInt_of, aminmax_max, abin_add, abin_sub, abin_eql, abin_neq, abin_lss, abin_leq, abin_gtr, abin_geq, aunary_not, Option.some.injEq, exists_eq_left', if_true, if_false, Nat.zero_add, Nat.add_zero, ptrTo, Value.bool.injEq, true_implies, false_implies, Bool.true_eq_false, Bool.false_eq_true, true_and, and_true, lenSl_of]
  refine m_cond (t := true) (by simp [evalT, SV]) (fun _ => m_seq (m_reg ?_)) (fun h => by cases h)
  rw [reg302_4]
  simp (decide := true) only [FT.get_set, FT.setL, faS_ptr, nilS_ptr, pickS_bool, cvInt_of, aminmax_max, abin_add, abin_sub, abin_eql, abin_neq, abin_lss, abin_leq, abin_gtr, abin_geq, aunary_not, Option.some.injEq, exists_eq_left', if_true, if_false, Nat.zero_add, Nat.add_zero, ptrTo, Value.bool.injEq, true_implies, false_implies, Bool.true_eq_false, Bool.false_eq_true, true_and, and_true, lenSl_of, r2, es_eql]
  refine m_ret ?_
  refine ⟨trivial, [.bool true], ?_, hq _ o2⟩
  rw [res_tmp, res_nil]; simp [SV]

/-- IsType of a number's type -/
theorem isType151 {O : Hook} (hO : O 151 = fun _ _ => none) {pc : Array Value} {S : MS} {Q : Value → MS → Prop} (hq : ∀ S', Old S S' → Q (.bool true) S') : CallM Tryz.prog O 151 [.agg pc, .agg #[.int .i64 1, .int .i64 0]] S Q := by
  refine callM_body (fnIs is151 body151 res151) (by rw [hO]) (by simp) ?_
  refine m_seq (m_reg ?_)
  rw [reg151_0]
  have hc : (Value.cells (.agg #[.int .i64 1, .int .i64 0])).toList = [.int .i64 1, .int .i64 0] := rfl
  simp (decide := true) only [FT.get_set, FT.setL, faS_ptr, nilS_ptr, pickS_bool, cvInt_of, aminmax_max, abin_add, abin_sub, abin_eql, abin_neq, abin_lss, abin_leq, abin_gtr, abin_geq, aunary_not, Option.some.injEq, exists_eq_left', if_true, if_false, Nat.zero_add, Nat.add_zero, ptrTo, Value.bool.injEq, true_implies, false_implies, Bool.true_eq_false, Bool.false_eq_true, true_and, and_true, lenSl_of, hc, fresh_n]
  have o2 : Old S ((S.fresh (Value.cells (.agg pc)).toList 0).fresh [.int .i64 1, .int .i64 0] 0) := (old_fresh _ _ _).trans (old_fresh _ _ _)
  have k1 : ((S.fresh (Value.cells (.agg pc)).toList 0).fresh [.int .i64 1, .int .i64 0] 0).list (S.n + 1) = some [.int .i64 1, .int .i64 0] := by
    have := fresh_at (S.fresh (Value.cells (.agg pc)).toList 0) [.int .i64 1, .int .i64 0] 0
    rw [fresh_n] at this
    rw [list_of this, list_cells]
  generalize (S.fresh (Value.cells (.agg pc)).toList 0).fresh [.int .i64 1, .int .i64 0] 0 = S2 at o2 k1
  have r0 : ldS none S2 (.pointer (some ⟨S.n + 1, 0, none⟩)) = some (.int .i64 1) := by rw [ldS_ptr, k1]; rfl
  have r1 : ldS none S2 (.pointer (some ⟨S.n + 1, 1, none⟩)) = some (.int .i64 0) := by rw [ldS_ptr, k1]; rfl
  refine m_seq (m_seq (m_reg ?_))
  rw [reg151_1]
  simp (decide := true) only [FT.get_set, FT.setL, faS_ptr, nilS_ptr, pickS_bool, cvInt_of, aminmax_max, abin_add, abin_sub, abin_eql, abin_neq, abin_lss, abin_leq, abin_gtr, abin_geq, aunary_not, Option.some.injEq, exists_eq_left', if_true, if_false, Nat.zero_add, Nat.add_zero, ptrTo, Value.bool.injEq, true_implies, false_implies, Bool.true_eq_false, Bool.false_eq_true, true_and, and_true, lenSl_of, r0]
  refine m_cond (t := false) (by simp [evalT, SV]) (fun h => by cases h) (fun _ => m_skip ?_)
  refine m_seq (m_reg ?_)
  rw [reg151_3]
  simp (decide := true) only [FT.get_set, FT.setL, faS_ptr, nilS_ptr, pickS_bool, cvInt_of, aminmax_max, abin_add, abin_sub, abin_eql, abin_neq, abin_lss, abin_leq, abin_gtr, abin_geq, aunary_not, Option.some.injEq, exists_eq_left', if_true, if_false, Nat.zero_add, Nat.add_zero, ptrTo, Value.bool.injEq, true_implies, false_implies, Bool.true_eq_false, Bool.false_eq_true, true_and, and_true, lenSl_of, r0, r1]
  refine m_ret ?_
  refine ⟨trivial, [.bool true], ?_, hq _ o2⟩
  rw [res_tmp, res_nil]; simp [SV]

/-- Is of a number -/
theorem is240n {O : Hook} (hO : Fr O) (hO2 : O 151 = fun _ _ => none) {pc : Array Value} (hpc : pc.size = 4) {n : Int} {S : MS} {Q : Value → MS → Prop} (hq : ∀ S', Old S S' → Q (.bool true) S') : CallM Tryz.prog O 240 [.agg pc, .agg #[.int .i64 1, .int .i64 0], vN 1 n] S Q := by
  refine callM_wf fun wf => ?_
  refine callM_body (fnIs is240 body240 res240) (hO.at rfl _) (by simp) ?_
  refine m_seq (m_reg ?_)
  rw [reg240_0]
  have hc : (Value.cells (.agg #[.int .i64 1, .int .i64 0])).toList = [.int .i64 1, .int .i64 0] := rfl
  have hcp : (Value.cells (.agg pc)).toList = pc.toList := rfl
  simp (decide := true) only [FT.get_set, FT.setL, faS_ptr, nilS_ptr, pickS_bool, cvInt_of, aminmax_max, abin_add, abin_sub, abin_eql, abin_neq, abin_lss, abin_leq, abin_gtr, abin_geq, aunary_not, Option.some.injEq, exists_eq_left', if_true, if_false, Nat.zero_add, Nat.add_zero, ptrTo, Value.bool.injEq, true_implies, false_implies, Bool.true_eq_false, Bool.false_eq_true, true_and, and_true, lenSl_of, hc, hcp, vN_cells, fresh_n]
  have F := fun (A : MS) (l : List Value) (x : Nat) (h : x ≠ A.n) => fresh_old A l 0 h
  have o2 : Old S (((S.fresh pc.toList 0).fresh [.int .i64 1, .int .i64 0] 0).fresh (lN 1 n) 0) := (old_fresh _ _ _).trans ((old_fresh _ _ _).trans (old_fresh _ _ _))
  have wf2 := wf_fresh' (wf_fresh' (wf_fresh' wf pc.toList 0) [.int .i64 1, .int .i64 0] 0) (lN 1 n) 0
  have k0 : (((S.fresh pc.toList 0).fresh [.int .i64 1, .int .i64 0] 0).fresh (lN 1 n) 0).m S.n = some (.cells pc.toList 0) := by
    rw [F _ _ _ (by simp only [fresh_n]; omega), F _ _ _ (by simp only [fresh_n]; omega), fresh_at]
  have k1 : (((S.fresh pc.toList 0).fresh [.int .i64 1, .int .i64 0] 0).fresh (lN 1 n) 0).m (S.n + 1) = some (.cells [.int .i64 1, .int .i64 0] 0) := by
    rw [F _ _ _ (by simp only [fresh_n]; omega)]
    exact fresh_at (S.fresh pc.toList 0) _ _
  have k2 : (((S.fresh pc.toList 0).fresh [.int .i64 1, .int .i64 0] 0).fresh (lN 1 n) 0).m (S.n + 2) = some (.cells (lN 1 n) 0) := fresh_at ((S.fresh pc.toList 0).fresh [.int .i64 1, .int .i64 0] 0) _ _
  generalize ((S.fresh pc.toList 0).fresh [.int .i64 1, .int .i64 0] 0).fresh (lN 1 n) 0 = S2 at o2 k0 k1 k2 wf2
  have n0 := wf2 _ _ k0
  have n1 := wf2 _ _ k1
  have n2 := wf2 _ _ k2
  have q0 : ldS (some 4) S2 (.pointer (some ⟨S.n, 0, none⟩)) = some (.agg pc) := by
    rw [ldS_ptr, list_of k0, list_cells]
    show partS (some 4) _ 0 = _
    rw [partS_some _ _ _ (by simp [hpc]), List.drop_zero, List.take_of_length_le (by simp [hpc])]
  have q1 : ldS (some 2) S2 (.pointer (some ⟨S.n + 1, 0, none⟩)) = some (.agg #[.int .i64 1, .int .i64 0]) := by rw [ldS_ptr, list_of k1]; rfl
  have q2 : ∀ S', Old S2 S' → ldS (some 5) S' (.pointer (some ⟨S.n + 2, 0, none⟩)) = some (vN 1 n) := fun S' f => by rw [ldS_ptr, list_of ((f.2 _ n2).trans k2)]; rfl
  have r1 : ∀ S', Old S2 S' → ldS none S' (.pointer (some ⟨S.n + 1, 0, none⟩)) = some (.int .i64 1) := fun S' f => by rw [ldS_ptr, list_of ((f.2 _ n1).trans k1)]; rfl
  have r2 : ∀ S', Old S2 S' → ldS none S' (.pointer (some ⟨S.n + 2, 0, none⟩)) = some (.int .i64 1) := fun S' f => by rw [ldS_ptr, list_of ((f.2 _ n2).trans k2)]; rfl
  refine m_seq (m_seq (m_reg ?_))
  rw [reg240_1]
  simp (decide := true) only [FT.get_set, FT.setL, faS_ptr, nilS_ptr, pickS_bool, cvInt_of, aminmax_max, abin_add, abin_sub, abin_eql, abin_neq, abin_lss, abin_leq, abin_gtr, abin_geq, aunary_not, Option.some.injEq, exists_eq_left', if_true, if_false, Nat.zero_add, Nat.add_zero, ptrTo, Value.bool.injEq, true_implies, false_implies, Bool.true_eq_false, Bool.false_eq_true, true_and, and_true, lenSl_of, q0, q1]
  refine isType151 hO2 fun S3 f3 => ?_
  simp (decide := true) only [FT.get_set, FT.setL, faS_ptr, nilS_ptr, pickS_bool, cvInt_of, aminmax_max, abin_add, abin_sub, abin_eql, abin_neq, abin_lss, abin_leq, abin_gtr, abin_geq, aunary_not, Option.some.injEq, exists_eq_left', if_true, if_false, Nat.zero_add, Nat.add_zero, ptrTo, Value.bool.injEq, true_implies, false_implies, Bool.true_eq_false, Bool.false_eq_true, true_and, and_true, lenSl_of, Bool.not_true, q2 S3 f3]
  refine plain302 hO fun S4 f4 => ?_
  have f34 := f3.trans f4
  simp (decide := true) only [FT.get_set, FT.setL, faS_ptr, nilS_ptr, pickS_bool, cvInt_of, aminmax_max, abin_add, abin_sub, abin_eql, abin_neq, abin_lss, abin_leq, abin_gtr, abin_geq, aunary_not, Option.some.injEq, exists_eq_left', if_true, if_false, Nat.zero_add, Nat.add_zero, ptrTo, Value.bool.injEq, true_implies, false_implies, Bool.true_eq_false, Bool.false_eq_true, true_and, and_true, lenSl_of, Bool.not_true, r1 S4 f34, r2 S4 f34]
  refine m_cond (t := false) (by simp [evalT, SV]) (fun h => by cases h) (fun _ => m_skip ?_)
  refine m_seq (m_seq (m_reg ?_))
  rw [reg240_3]
  simp (decide := true) only [FT.get_set, FT.setL, faS_ptr, nilS_ptr, pickS_bool, cvInt_of, aminmax_max, abin_add, abin_sub, abin_eql, abin_neq, abin_lss, abin_leq, abin_gtr, abin_geq, aunary_not, Option.some.injEq, exists_eq_left', if_true, if_false, Nat.zero_add, Nat.add_zero, ptrTo, Value.bool.injEq, true_implies, false_implies, Bool.true_eq_false, Bool.false_eq_true, true_and, and_true, lenSl_of, r1 S4 f34]
  refine m_cond (t := true) (by simp [evalT, SV]) (fun _ => m_seq (m_reg ?_)) (fun h => by cases h)
  rw [reg240_4]
  refine m_ret ?_
  refine ⟨trivial, [.bool true], ?_, hq _ (o2.trans f34)⟩
  rw [res_tmp, res_nil]; simp [SV]

/-- Finish of a run that was not trapped -/
theorem agg55 : aggT Tryz.prog 55 = some (some 7) := by kernel_rfl
theorem finish31 {O : Hook} (hO : Fr O) {wb : Nat} {pr : List Value} {mv em sv : Value} {dp fu : Int} {S : MS} (wf : S.WF) (hw : IsW S wb pr mv dp em fu) (hone : oneCell mv = true ∧ oneCell em = true) {Q : Value → MS → Prop}
    (hq : ∀ S', Old S S' → Q (.agg #[.int .i64 0, .int .i64 0, mv, em, .slice none 0 0, .slice none 0 0, .int .i64 fu]) S') : CallM Tryz.prog O 31 [.pointer (some ⟨wb, 0, none⟩), .agg #[sv]] S Q := by
  refine callM_body (fnIs is31 body31 res31) (hO.at rfl _) (by simp) ?_
  refine m_seq (m_reg ?_)
  rw [reg31_0]
  have hc : (Value.cells (.agg #[sv])).toList = [sv] := rfl
  simp (decide := true) only [FT.get_set, FT.setL, faS_ptr, nilS_ptr, pickS_bool, cvInt_of, aminmax_max, abin_add, abin_sub, abin_eql, abin_neq, abin_lss, abin_leq, abin_gtr, abin_geq, aunary_not, Option.some.injEq, exists_eq_left', if_true, if_false, Nat.zero_add, Nat.add_zero, ptrTo, Value.bool.injEq, true_implies, false_implies, Bool.true_eq_false, Bool.false_eq_true, true_and, and_true, lenSl_of, hc, fresh_n]
  have hwn := wf _ _ hw.m
  have o2 : Old S ((S.fresh [sv] 0).fresh [.int .i64 0, .int .i64 0, .slice none 0 0, .slice none 0 0, .slice none 0 0, .slice none 0 0, .int .i64 0] 0) := (old_fresh _ _ _).trans (old_fresh _ _ _)
  have k4 : ((S.fresh [sv] 0).fresh [.int .i64 0, .int .i64 0, .slice none 0 0, .slice none 0 0, .slice none 0 0, .slice none 0 0, .int .i64 0] 0).m (S.n + 1) = some (.cells [.int .i64 0, .int .i64 0, .slice none 0 0, .slice none 0 0, .slice none 0 0, .slice none 0 0, .int .i64 0] 0) := fresh_at (S.fresh [sv] 0) _ _
  have n2 : ((S.fresh [sv] 0).fresh [.int .i64 0, .int .i64 0, .slice none 0 0, .slice none 0 0, .slice none 0 0, .slice none 0 0, .int .i64 0] 0).n = S.n + 2 := rfl
  generalize (S.fresh [sv] 0).fresh [.int .i64 0, .int .i64 0, .slice none 0 0, .slice none 0 0, .slice none 0 0, .slice none 0 0, .int .i64 0] 0 = S2 at o2 k4 n2
  have w2 : S2.m wb = some (.cells (wL pr mv dp em fu) 0) := (o2.2 _ hwn).trans hw.m
  have rd : ∀ (S' : MS) (i : Nat), S'.m wb = some (.cells (wL pr mv dp em fu) 0) → ldS none S' (.pointer (some ⟨wb, 4 + i, none⟩)) = [mv, .slice none 0 0, .int .i64 0, .int .i64 dp, .int .i64 0, .int .i64 0, .slice none 0 0, em, .slice none 0 0, .slice none 0 0, .int .i64 fu, .int .i64 0, .bool false][i]? := fun S' i h => by
    rw [ldS_ptr, list_of h, list_cells]; exact wL_at hw.l4 i
  have rd7 : ldS (some 7) S2 (.pointer (some ⟨wb, 8, none⟩)) = some (.agg #[.int .i64 0, .int .i64 0, .slice none 0 0, em, .slice none 0 0, .slice none 0 0, .int .i64 fu]) := by
    rw [ldS_ptr, list_of w2, list_cells]
    show partS (some 7) _ 8 = _
    rw [partS_some _ _ _ (by rw [wL_len hw.l4]; omega)]
    have e : ∀ X : List Value, (pr ++ X).drop 8 = X.drop 4 := fun X => by rw [List.drop_append, hw.l4, List.drop_of_length_le (by rw [hw.l4]; omega)]; rfl
    unfold wL
    rw [e]
    rfl
  refine m_seq (m_reg ?_)
  rw [reg31_1]
  simp (decide := true) only [FT.get_set, FT.setL, faS_ptr, nilS_ptr, pickS_bool, cvInt_of, aminmax_max, abin_add, abin_sub, abin_eql, abin_neq, abin_lss, abin_leq, abin_gtr, abin_geq, aunary_not, Option.some.injEq, exists_eq_left', if_true, if_false, Nat.zero_add, Nat.add_zero, ptrTo, Value.bool.injEq, true_implies, false_implies, Bool.true_eq_false, Bool.false_eq_true, true_and, and_true, lenSl_of, rd7]
  obtain ⟨S3, e3, g3, n3, k3⟩ := st_all (n := 7) (cs := #[.int .i64 0, .int .i64 0, .slice none 0 0, em, .slice none 0 0, .slice none 0 0, .int .i64 fu]) (fresh_at S2 [.int .i64 0, .int .i64 0, .slice none 0 0, .slice none 0 0, .slice none 0 0, .slice none 0 0, .int .i64 0] 0) rfl rfl (by simp only [List.all_cons, List.all_nil, hone.1, hone.2]; rfl)
  refine ⟨S3, e3, ?_⟩
  have o3 : Old S2 S3 := ⟨by rw [n3]; exact Nat.le_succ _, fun y hy => by rw [k3 y (by omega)]; exact fresh_old _ _ _ (by omega)⟩
  have w3 : S3.m wb = some (.cells (wL pr mv dp em fu) 0) := (o3.2 _ (by omega)).trans w2
  refine m_seq (m_reg ?_)
  rw [reg31_2]
  have t15 : ldS none S3 (.pointer (some ⟨wb, 15, none⟩)) = some (.int .i64 0) := rd S3 11 w3
  simp (decide := true) only [FT.get_set, FT.setL, faS_ptr, nilS_ptr, pickS_bool, cvInt_of, aminmax_max, abin_add, abin_sub, abin_eql, abin_neq, abin_lss, abin_leq, abin_gtr, abin_geq, aunary_not, Option.some.injEq, exists_eq_left', if_true, if_false, Nat.zero_add, Nat.add_zero, ptrTo, Value.bool.injEq, true_implies, false_implies, Bool.true_eq_false, Bool.false_eq_true, true_and, and_true, lenSl_of, t15]
  obtain ⟨S4, e4, g4, n4, k4'⟩ := st_one (v := .int .i64 0) g3 (off := 1) (by simp) rfl rfl
  refine ⟨S4, e4, ?_⟩
  have w4 : S4.m wb = some (.cells (wL pr mv dp em fu) 0) := (k4' _ (by omega)).trans w3
  refine m_seq (m_seq (m_reg ?_))
  rw [reg31_3]
  have t15' : ldS none S4 (.pointer (some ⟨wb, 15, none⟩)) = some (.int .i64 0) := rd S4 11 w4
  have t16 : ldS none S4 (.pointer (some ⟨wb, 16, none⟩)) = some (.bool false) := rd S4 12 w4
  simp (decide := true) only [FT.get_set, FT.setL, faS_ptr, nilS_ptr, pickS_bool, cvInt_of, aminmax_max, abin_add, abin_sub, abin_eql, abin_neq, abin_lss, abin_leq, abin_gtr, abin_geq, aunary_not, Option.some.injEq, exists_eq_left', if_true, if_false, Nat.zero_add, Nat.add_zero, ptrTo, Value.bool.injEq, true_implies, false_implies, Bool.true_eq_false, Bool.false_eq_true, true_and, and_true, lenSl_of, t15', t16, Bool.not_false]
  refine m_cond (t := true) (by simp [evalT, SV]) (fun _ => ?_) (fun h => by cases h)
  refine m_seq (m_reg ?_)
  rw [reg31_4]
  have t4 : ldS (some 1) S4 (.pointer (some ⟨wb, 4, none⟩)) = some (.agg #[mv]) := by
    rw [ldS_ptr, list_of w4, list_cells]
    show partS (some 1) _ 4 = _
    rw [partS_some _ _ _ (by rw [wL_len hw.l4]; omega)]
    unfold wL
    rw [List.drop_append_of_le_length (by rw [hw.l4]; exact Nat.le_refl _), List.drop_of_length_le (by rw [hw.l4]; exact Nat.le_refl _)]
    rfl
  simp (decide := true) only [FT.get_set, FT.setL, faS_ptr, nilS_ptr, pickS_bool, cvInt_of, aminmax_max, abin_add, abin_sub, abin_eql, abin_neq, abin_lss, abin_leq, abin_gtr, abin_geq, aunary_not, Option.some.injEq, exists_eq_left', if_true, if_false, Nat.zero_add, Nat.add_zero, ptrTo, Value.bool.injEq, true_implies, false_implies, Bool.true_eq_false, Bool.false_eq_true, true_and, and_true, lenSl_of, t4]
  obtain ⟨S5, e5, g5, n5, k5⟩ := st_agg1 (v := mv) (off := 2) g4 (by simp) hone.1
  refine ⟨S5, e5, ?_⟩
  refine m_seq (m_reg ?_)
  rw [reg31_5]
  have t5 : ldS (some 7) S5 (.pointer (some ⟨S2.n, 0, none⟩)) = some (.agg #[.int .i64 0, .int .i64 0, mv, em, .slice none 0 0, .slice none 0 0, .int .i64 fu]) := by rw [ldS_ptr, list_of g5]; rfl
  simp (decide := true) only [FT.get_set, FT.setL, faS_ptr, nilS_ptr, pickS_bool, cvInt_of, aminmax_max, abin_add, abin_sub, abin_eql, abin_neq, abin_lss, abin_leq, abin_gtr, abin_geq, aunary_not, Option.some.injEq, exists_eq_left', if_true, if_false, Nat.zero_add, Nat.add_zero, ptrTo, Value.bool.injEq, true_implies, false_implies, Bool.true_eq_false, Bool.false_eq_true, true_and, and_true, lenSl_of, t5]
  have k45 : S5.m (S.n + 1) = some (.cells [.int .i64 0, .int .i64 0, .slice none 0 0, .slice none 0 0, .slice none 0 0, .slice none 0 0, .int .i64 0] 0) := by
    rw [k5 _ (by omega), k4' _ (by omega), o3.2 _ (by omega)]; exact k4
  obtain ⟨S6, e6, g6, n6, k6⟩ := st_all (n := 7) (cs := #[.int .i64 0, .int .i64 0, mv, em, .slice none 0 0, .slice none 0 0, .int .i64 fu]) k45 rfl rfl (by simp only [List.all_cons, List.all_nil, hone.1, hone.2]; rfl)
  refine ⟨S6, e6, m_ret ?_⟩
  refine ⟨trivial, [.agg #[.int .i64 0, .int .i64 0, mv, em, .slice none 0 0, .slice none 0 0, .int .i64 fu]], ?_, hq S6 ⟨?_, fun y hy => ?_⟩⟩
  · have hT : ∀ (T : FT), T.get 4 = .pointer (some ⟨S.n + 1, 0, none⟩) → resM Tryz.prog T S6 [.cell 4 55] = some [.agg #[.int .i64 0, .int .i64 0, mv, em, .slice none 0 0, .slice none 0 0, .int .i64 fu]] := fun T h => by
      have e : mload Tryz.prog S6 55 (T.get 4) = some (.agg #[.int .i64 0, .int .i64 0, mv, em, .slice none 0 0, .slice none 0 0, .int .i64 fu]) := by
        unfold mload
        rw [agg55, h]
        show ldS (some 7) S6 _ = _
        rw [ldS_ptr, list_of g6]; rfl
      show (mload Tryz.prog S6 55 (T.get 4)).bind _ = _
      rw [e]; rfl
    exact hT _ (by simp [SV])
  · rw [n6, n5, n4, n3, fresh_n]; omega
  · rw [k6 _ (by omega), k5 _ (by omega), k4' _ (by omega), o3.2 _ (by omega)]; exact o2.2 y hy
end Go.Proofs.YtfgbeecipklkdaaGreat
namespace Go.Proofs.YtfgbeecipklkdaaGreat
open Go Go.Ag
set_option linter.unusedVariables false
set_option maxRecDepth 100000

/-- compiled code, as values -/
structure Cx where
  recs : Value
  mps : Value
  fns : Value
  evs : Value
  iv : Value
  tv : Value
  fv : Value
  ev : Value
  nargs : Nat
  rn : Nat
  ops : Value
  pv : Value
  code : List MOp
  ints : List Int
def Cx.p (X : Cx) : Array Value := #[X.recs, X.mps, X.fns, X.evs]
def Cx.c (X : Cx) : Array Value := #[X.recs, X.mps, X.fns, X.evs, X.iv, X.tv, X.fv, X.ev]
def Lw (B : Nat) (S0 S : MS) : Prop := ∀ y, y < B → S.m y = S0.m y
/-- a call that is known: what it tells, up to how much memory, and how much there is then -/
def Kc (O : Hook) (S0 : MS) (B : Nat) (f : Nat) (args : List Value) (v : Value) (n0 n1 : Nat) : Prop :=
  ∀ (S : MS) (Q : Value → MS → Prop), S.n ≤ n0 → Lw B S0 S → (∀ S', S'.n = n1 → Old S S' → Q v S') → CallM Tryz.prog O f args S Q
structure CxOk (O : Hook) (X : Cx) (S0 : MS) (B : Nat) : Prop where
  lm : lenSl X.mps = some (.int .i64 1)
  lp : lenSl X.pv = some (.int .i64 (X.nargs : Int))
  ev0 : ∃ be, iaSS 4 X.evs (.int .i64 0) = some (.pointer (some ⟨be, 0, none⟩)) ∧ ∀ S, Lw B S0 S → ldS none S (.pointer (some ⟨be, 1, none⟩)) = some X.pv
  pt : ∀ j : Nat, j < X.nargs → ∃ p, iaSS 2 X.pv (.int .i64 (j : Int)) = some p ∧ ∀ S, Lw B S0 S → ldS (some 2) S p = some (.agg #[.int .i64 1, .int .i64 0])
  cv : ∃ p, iaSS 2 X.ev (.int .i64 0) = some p ∧ ∀ S, Lw B S0 S → ldS (some 2) S p = some (.agg #[.int .i64 (X.rn : Int), X.ops])
  hops : ∀ (i : Nat) op, X.code[i]? = some op → ∃ p, iaSS 5 X.ops (.int .i64 (i : Int)) = some p ∧ ∀ S, Lw B S0 S → ldS (some 5) S p = some (.agg (opL op).toArray)
  hints : ∀ (i : Nat) n, X.ints[i]? = some n → ∃ p, iaSS 1 X.iv (.int .i64 (i : Int)) = some p ∧ ∀ S, Lw B S0 S → ldS none S p = some (.int .i64 n)
  small : X.code.length ≤ 1000
  nar : X.nargs ≤ 100
  rns : X.rn ≤ 1000
  k39 : Kc O S0 B 39 [.agg X.c] (.tuple #[.int .i64 0, .int .i64 0]) 20000 22289
  k79 : Kc O S0 B 79 [.agg X.p] (.bool true) 22291 22309
  k241 : Kc O S0 B 241 [.agg X.p, .int .i64 3, .string ⟨⟨[101]⟩⟩] (.int .i64 0) 22311 22312
  w151 : O 151 = fun _ _ => none
  w154 : O 154 = fun _ _ => none
theorem Lw.old {B : Nat} {S0 S S' : MS} (h : Lw B S0 S) (f : Old S S') (hB : B ≤ S.n) : Lw B S0 S' := fun y hy => (f.2 y (by omega)).trans (h y hy)

/-- Is of an empty state -/
theorem is154e {O : Hook} (hO : Fr O) {X : Cx} {S0 : MS} {B : Nat} (ok : CxOk O X S0 B) {mv : Value} {S : MS} (wf : S.WF) (hn : S.n ≤ 22289) (hB : B ≤ S.n) (lw : Lw B S0 S) (hs : IsSt S mv []) {Q : Value → MS → Prop} (hq : ∀ S', S'.n = 22309 → Old S S' → Q (.bool true) S') : CallM Tryz.prog O 154 [.agg X.p, .agg #[mv]] S Q := by
  refine callM_body (fnIs is154 body154 res154) (by rw [ok.w154]) (by simp) ?_
  refine m_seq (m_reg ?_)
  rw [reg154_0]
  have hc1 : (Value.cells (.agg X.p)).toList = [X.recs, X.mps, X.fns, X.evs] := rfl
  have hc2 : (Value.cells (.agg #[mv])).toList = [mv] := rfl
  simp (decide := true) only [FT.get_set, FT.setL, faS_ptr, nilS_ptr, pickS_bool, cvInt_of, aminmax_max, abin_add, abin_sub, abin_eql, abin_neq, abin_lss, abin_leq, abin_gtr, abin_geq, aunary_not, Option.some.injEq, exists_eq_left', if_true, if_false, Nat.zero_add, Nat.add_zero, ptrTo, Value.bool.injEq, true_implies, false_implies, Bool.true_eq_false, Bool.false_eq_true, true_and, and_true, hc1, hc2, fresh_n]
  have o2 : Old S ((S.fresh [X.recs, X.mps, X.fns, X.evs] 0).fresh [mv] 0) := (old_fresh _ _ _).trans (old_fresh _ _ _)
  have wf2 := wf_fresh' (wf_fresh' wf [X.recs, X.mps, X.fns, X.evs] 0) [mv] 0
  have k1 : ((S.fresh [X.recs, X.mps, X.fns, X.evs] 0).fresh [mv] 0).m S.n = some (.cells [X.recs, X.mps, X.fns, X.evs] 0) := (fresh_old _ _ _ (by rw [fresh_n]; omega)).trans (fresh_at S _ _)
  have k2 : ((S.fresh [X.recs, X.mps, X.fns, X.evs] 0).fresh [mv] 0).m (S.n + 1) = some (.cells [mv] 0) := fresh_at (S.fresh [X.recs, X.mps, X.fns, X.evs] 0) _ _
  have n2 : ((S.fresh [X.recs, X.mps, X.fns, X.evs] 0).fresh [mv] 0).n = S.n + 2 := rfl
  have hs2 := hs.old wf o2
  generalize (S.fresh [X.recs, X.mps, X.fns, X.evs] 0).fresh [mv] 0 = S2 at o2 wf2 k1 k2 n2 hs2
  obtain ⟨b, c, lv, junk, rfl, hb, hbn, hl⟩ := hs2.ex
  have lenv : lenSl lv = some (.int .i64 0) := hl.lenSl
  have ia : iaSS 1 (.slice (some ⟨b, 0, none⟩) 1 c) (.int .i64 0) = some (.pointer (some ⟨b, 0, none⟩)) := rfl
  have lnm : lenSl (.slice (some ⟨b, 0, none⟩) 1 c) = some (.int .i64 1) := rfl
  have q4 : ldS (some 4) S2 (.pointer (some ⟨S.n, 0, none⟩)) = some (.agg X.p) := by rw [ldS_ptr, list_of k1]; rfl
  refine m_seq (m_seq (m_reg ?_))
  rw [reg154_1]
  simp (decide := true) only [FT.get_set, FT.setL, faS_ptr, nilS_ptr, pickS_bool, cvInt_of, aminmax_max, abin_add, abin_sub, abin_eql, abin_neq, abin_lss, abin_leq, abin_gtr, abin_geq, aunary_not, Option.some.injEq, exists_eq_left', if_true, if_false, Nat.zero_add, Nat.add_zero, ptrTo, Value.bool.injEq, true_implies, false_implies, Bool.true_eq_false, Bool.false_eq_true, true_and, and_true, q4]
  refine ok.k79 _ _ (by omega) (lw.old o2 hB) fun S3 n3 o3 => ?_
  have r1 : ldS none S3 (.pointer (some ⟨S.n + 1, 0, none⟩)) = some (.slice (some ⟨b, 0, none⟩) 1 c) := by rw [ldS_ptr, list_of ((o3.2 _ (by omega)).trans k2)]; rfl
  have rm : ldS none S3 (.pointer (some ⟨S.n, 1, none⟩)) = some X.mps := by rw [ldS_ptr, list_of ((o3.2 _ (by omega)).trans k1)]; rfl
  have qv : ldS none S3 (.pointer (some ⟨b, 0, none⟩)) = some lv := by
    rw [ldS_ptr]; unfold MS.list; rw [o3.2 _ hbn]; unfold MS.list at hb; rw [hb]; rfl
  simp (decide := true) only [FT.get_set, FT.setL, faS_ptr, nilS_ptr, pickS_bool, cvInt_of, aminmax_max, abin_add, abin_sub, abin_eql, abin_neq, abin_lss, abin_leq, abin_gtr, abin_geq, aunary_not, Option.some.injEq, exists_eq_left', if_true, if_false, Nat.zero_add, Nat.add_zero, ptrTo, Value.bool.injEq, true_implies, false_implies, Bool.true_eq_false, Bool.false_eq_true, true_and, and_true, Bool.not_true, r1, rm, lnm, ok.lm]
  refine m_cond (t := false) (by simp [evalT, SV]) (fun h => by cases h) (fun _ => m_skip ?_)
  refine m_seq (m_seq (m_reg ?_))
  rw [reg154_3]
  refine m_block (m_loop (fun m T S' => S' = S3 ∧ ∃ i : Nat, i + m = 1 ∧ T.get 3 = .pointer (some ⟨S.n + 1, 0, none⟩) ∧ T.get 5 = .int .i64 (i : Int)) 1 ⟨rfl, 0, rfl, by simp [SV], by simp [SV]⟩ ?_)
  rintro m T S4 ⟨rfl, i, him, t3, t5⟩
  refine m_seq (m_seq (m_reg ?_))
  rw [reg154_4]
  simp (decide := true) only [FT.get_set, FT.setL, faS_ptr, nilS_ptr, pickS_bool, cvInt_of, aminmax_max, abin_add, abin_sub, abin_eql, abin_neq, abin_lss, abin_leq, abin_gtr, abin_geq, aunary_not, Option.some.injEq, exists_eq_left', if_true, if_false, Nat.zero_add, Nat.add_zero, ptrTo, Value.bool.injEq, true_implies, false_implies, Bool.true_eq_false, Bool.false_eq_true, true_and, and_true, t3, t5, r1, lnm]
  by_cases hi : i = 0
  · subst hi
    refine m_cond (t := true) (by simp [evalT, SV]) (fun _ => m_skip ?_) (fun h => by cases h)
    refine m_seq (m_block (m_seq (m_reg ?_)))
    rw [reg154_6]
    simp (decide := true) only [FT.get_set, FT.setL, faS_ptr, nilS_ptr, pickS_bool, cvInt_of, aminmax_max, abin_add, abin_sub, abin_eql, abin_neq, abin_lss, abin_leq, abin_gtr, abin_geq, aunary_not, Option.some.injEq, exists_eq_left', if_true, if_false, Nat.zero_add, Nat.add_zero, ptrTo, Value.bool.injEq, true_implies, false_implies, Bool.true_eq_false, Bool.false_eq_true, true_and, and_true, t3, t5, r1, Int.cast_ofNat_Int, ia, qv]
    refine m_seq (m_seq (m_reg ?_))
    rw [reg154_7]
    simp (decide := true) only [FT.get_set, FT.setL, faS_ptr, nilS_ptr, pickS_bool, cvInt_of, aminmax_max, abin_add, abin_sub, abin_eql, abin_neq, abin_lss, abin_leq, abin_gtr, abin_geq, aunary_not, Option.some.injEq, exists_eq_left', if_true, if_false, Nat.zero_add, Nat.add_zero, ptrTo, Value.bool.injEq, true_implies, false_implies, Bool.true_eq_false, Bool.false_eq_true, true_and, and_true, lenv]
    refine m_cond (t := false) (by simp [evalT, SV]) (fun h => by cases h) (fun _ => m_skip ?_)
    refine m_seq (m_reg ?_)
    rw [reg154_9]
    refine m_block (m_loop (fun m T S' => S' = S4 ∧ T.get 3 = .pointer (some ⟨S.n + 1, 0, none⟩) ∧ T.get 5 = .int .i64 0 ∧ T.get 6 = lv ∧ T.get 7 = .int .i64 0) 0 ⟨rfl, by simp [SV, t3], by simp [SV, t5], by simp [SV], by simp [SV]⟩ ?_)
    rintro m' T5 S5 ⟨rfl, u3, u5, u6, u7⟩
    refine m_seq (m_seq (m_reg ?_))
    rw [reg154_10]
    simp (decide := true) only [FT.get_set, FT.setL, faS_ptr, nilS_ptr, pickS_bool, cvInt_of, aminmax_max, abin_add, abin_sub, abin_eql, abin_neq, abin_lss, abin_leq, abin_gtr, abin_geq, aunary_not, Option.some.injEq, exists_eq_left', if_true, if_false, Nat.zero_add, Nat.add_zero, ptrTo, Value.bool.injEq, true_implies, false_implies, Bool.true_eq_false, Bool.false_eq_true, true_and, and_true, u6, u7, lenv]
    refine m_cond (t := false) (by simp [evalT, SV]) (fun h => by cases h) (fun _ => m_exit ?_)
    simp only [if_true]
    refine m_reg ?_
    rw [reg154_5]
    have w1 : IntKind.i64.wrap ((0 : Int) + 1) = ((0 + 1 : Nat) : Int) := by rw [wrap_i64 (by omega) (by omega)]; rfl
    simp (decide := true) only [FT.get_set, FT.setL, faS_ptr, nilS_ptr, pickS_bool, cvInt_of, aminmax_max, abin_add, abin_sub, abin_eql, abin_neq, abin_lss, abin_leq, abin_gtr, abin_geq, aunary_not, Option.some.injEq, exists_eq_left', if_true, if_false, Nat.zero_add, Nat.add_zero, ptrTo, Value.bool.injEq, true_implies, false_implies, Bool.true_eq_false, Bool.false_eq_true, true_and, and_true, u5, w1]
    exact ⟨0, by omega, 1, rfl, by simp [SV, u3], by simp [SV]⟩
  · have hi1 : i = 1 := by omega
    subst hi1
    refine m_cond (t := false) (by simp [evalT, SV]) (fun h => by cases h) (fun _ => m_exit ?_)
    simp only [if_true]
    refine m_seq (m_reg ?_)
    rw [reg154_14]
    refine m_ret ?_
    refine ⟨trivial, [.bool true], ?_, hq _ n3 (o2.trans o3)⟩
    rw [res_tmp, res_nil]; simp [SV]

/-- Fits -/
theorem fits155 {O : Hook} (hO : Fr O) {X : Cx} {S0 : MS} {B : Nat} (ok : CxOk O X S0 B) {ab ac : Nat} {nums : List Int} {S : MS} (wf : S.WF) (hn : S.n ≤ 22309) (hB : B ≤ S.n) (lw : Lw B S0 S) (hab : S.m ab = some (.cells ((nums.map fun n => ((1, n) : En)).flatMap lP) 5)) (hna : nums.length = X.nargs) {Q : Value → MS → Prop}
    (hq : ∀ S', Old S S' → Q (.tuple #[.int .i64 0, .bool true]) S') : CallM Tryz.prog O 155 [.agg X.p, .agg #[.string ⟨⟨[101]⟩⟩, .slice (some ⟨ab, 0, none⟩) X.nargs ac]] S Q := by
  have hnar := ok.nar
  refine callM_body (fnIs is155 body155 res155) (hO.at rfl _) (by simp) ?_
  refine m_seq (m_reg ?_)
  rw [reg155_0]
  have hc1 : (Value.cells (.agg X.p)).toList = [X.recs, X.mps, X.fns, X.evs] := rfl
  have hc2 : (Value.cells (.agg #[.string ⟨⟨[101]⟩⟩, .slice (some ⟨ab, 0, none⟩) X.nargs ac])).toList = [.string ⟨⟨[101]⟩⟩, .slice (some ⟨ab, 0, none⟩) X.nargs ac] := rfl
  simp (decide := true) only [FT.get_set, FT.setL, faS_ptr, nilS_ptr, pickS_bool, cvInt_of, aminmax_max, abin_add, abin_sub, abin_eql, abin_neq, abin_lss, abin_leq, abin_gtr, abin_geq, aunary_not, Option.some.injEq, exists_eq_left', if_true, if_false, Nat.zero_add, Nat.add_zero, ptrTo, Value.bool.injEq, true_implies, false_implies, Bool.true_eq_false, Bool.false_eq_true, true_and, and_true, hc1, hc2, fresh_n]
  have o2 : Old S ((S.fresh [X.recs, X.mps, X.fns, X.evs] 0).fresh [.string ⟨⟨[101]⟩⟩, .slice (some ⟨ab, 0, none⟩) X.nargs ac] 0) := (old_fresh _ _ _).trans (old_fresh _ _ _)
  have wf2 := wf_fresh' (wf_fresh' wf [X.recs, X.mps, X.fns, X.evs] 0) [.string ⟨⟨[101]⟩⟩, .slice (some ⟨ab, 0, none⟩) X.nargs ac] 0
  have k1 : ((S.fresh [X.recs, X.mps, X.fns, X.evs] 0).fresh [.string ⟨⟨[101]⟩⟩, .slice (some ⟨ab, 0, none⟩) X.nargs ac] 0).m S.n = some (.cells [X.recs, X.mps, X.fns, X.evs] 0) := (fresh_old _ _ _ (by rw [fresh_n]; omega)).trans (fresh_at S _ _)
  have k2 : ((S.fresh [X.recs, X.mps, X.fns, X.evs] 0).fresh [.string ⟨⟨[101]⟩⟩, .slice (some ⟨ab, 0, none⟩) X.nargs ac] 0).m (S.n + 1) = some (.cells [.string ⟨⟨[101]⟩⟩, .slice (some ⟨ab, 0, none⟩) X.nargs ac] 0) := fresh_at (S.fresh [X.recs, X.mps, X.fns, X.evs] 0) _ _
  have n2 : ((S.fresh [X.recs, X.mps, X.fns, X.evs] 0).fresh [.string ⟨⟨[101]⟩⟩, .slice (some ⟨ab, 0, none⟩) X.nargs ac] 0).n = S.n + 2 := rfl
  have abn := wf _ _ hab
  generalize (S.fresh [X.recs, X.mps, X.fns, X.evs] 0).fresh [.string ⟨⟨[101]⟩⟩, .slice (some ⟨ab, 0, none⟩) X.nargs ac] 0 = S2 at o2 wf2 k1 k2 n2
  have lw2 := lw.old o2 hB
  have q4 : ∀ S', Old S2 S' → ldS (some 4) S' (.pointer (some ⟨S.n, 0, none⟩)) = some (.agg X.p) := fun S' f => by rw [ldS_ptr, list_of ((f.2 _ (by omega)).trans k1)]; rfl
  have q3 : ∀ S', Old S2 S' → ldS none S' (.pointer (some ⟨S.n, 3, none⟩)) = some X.evs := fun S' f => by rw [ldS_ptr, list_of ((f.2 _ (by omega)).trans k1)]; rfl
  have r0 : ∀ S', Old S2 S' → ldS none S' (.pointer (some ⟨S.n + 1, 0, none⟩)) = some (.string ⟨⟨[101]⟩⟩) := fun S' f => by rw [ldS_ptr, list_of ((f.2 _ (by omega)).trans k2)]; rfl
  have r1 : ∀ S', Old S2 S' → ldS none S' (.pointer (some ⟨S.n + 1, 1, none⟩)) = some (.slice (some ⟨ab, 0, none⟩) X.nargs ac) := fun S' f => by rw [ldS_ptr, list_of ((f.2 _ (by omega)).trans k2)]; rfl
  have f2 := Old.refl S2
  refine m_seq (m_reg ?_)
  rw [reg155_1]
  simp (decide := true) only [FT.get_set, FT.setL, faS_ptr, nilS_ptr, pickS_bool, cvInt_of, aminmax_max, abin_add, abin_sub, abin_eql, abin_neq, abin_lss, abin_leq, abin_gtr, abin_geq, aunary_not, Option.some.injEq, exists_eq_left', if_true, if_false, Nat.zero_add, Nat.add_zero, ptrTo, Value.bool.injEq, true_implies, false_implies, Bool.true_eq_false, Bool.false_eq_true, true_and, and_true, q4 S2 f2, r0 S2 f2]
  refine ok.k241 _ _ (by omega) lw2 fun S3 n3 o3 => ?_
  obtain ⟨be, he1, he2⟩ := ok.ev0
  have lwO : ∀ S', Old S2 S' → Lw B S0 S' := fun S' f => lw2.old f (by omega)
  refine m_seq (m_seq (m_draw ?_))
  rw [reg155_2]
  have la : lenSl (.slice (some ⟨ab, 0, none⟩) X.nargs ac) = some (.int .i64 (X.nargs : Int)) := rfl
  have ne : ((X.nargs : Int) != (X.nargs : Int)) = false := by simp
  simp (decide := true) only [FT.get_set, FT.setL, faS_ptr, nilS_ptr, pickS_bool, cvInt_of, aminmax_max, abin_add, abin_sub, abin_eql, abin_neq, abin_lss, abin_leq, abin_gtr, abin_geq, aunary_not, Option.some.injEq, exists_eq_left', if_true, if_false, Nat.zero_add, Nat.add_zero, ptrTo, Value.bool.injEq, true_implies, false_implies, Bool.true_eq_false, Bool.false_eq_true, true_and, and_true, r1 S3 o3, q3 S3 o3, la, he1, he2 S3 (lwO S3 o3), ok.lp, ne]
  refine m_cond (t := false) (by simp [evalT, SV]) (fun h => by cases h) (fun _ => m_skip ?_)
  refine m_seq (m_seq (m_reg ?_))
  rw [reg155_4]
  refine m_block (m_loop (fun m T S' => Old S2 S' ∧ ∃ j : Nat, j + m = X.nargs ∧ T.get 2 = .pointer (some ⟨S.n, 0, none⟩) ∧ T.get 3 = .pointer (some ⟨S.n + 1, 0, none⟩) ∧ T.get 6 = .int .i64 0 ∧ T.get 7 = .int .i64 (j : Int)) X.nargs ⟨o3, 0, by omega, by simp [SV], by simp [SV], by simp [SV], by simp [SV]⟩ ?_)
  rintro m T S4 ⟨o4, j, hjm, t2, t3, t6, t7⟩
  refine m_seq (m_seq (m_reg ?_))
  rw [reg155_5]
  simp (decide := true) only [FT.get_set, FT.setL, faS_ptr, nilS_ptr, pickS_bool, cvInt_of, aminmax_max, abin_add, abin_sub, abin_eql, abin_neq, abin_lss, abin_leq, abin_gtr, abin_geq, aunary_not, Option.some.injEq, exists_eq_left', if_true, if_false, Nat.zero_add, Nat.add_zero, ptrTo, Value.bool.injEq, true_implies, false_implies, Bool.true_eq_false, Bool.false_eq_true, true_and, and_true, t3, t7, r1 S4 o4, la]
  by_cases hj : j < X.nargs
  · refine m_cond (t := true) (by simp [evalT, SV]; try omega) (fun _ => m_skip ?_) (fun h => by cases h)
    obtain ⟨p, hp1, hp2⟩ := ok.pt j hj
    have hx : (nums.map fun n => ((1, n) : En))[j]? = some (1, nums[j]'(by omega)) := by rw [List.getElem?_map, List.getElem?_eq_getElem (by omega)]; rfl
    have hab4 : S4.m ab = some (.cells ((nums.map fun n => ((1, n) : En)).flatMap lP) 5) := (o4.2 _ (by omega)).trans ((o2.2 _ abn).trans hab)
    have ld := fm_load lP_len hab4 hx
    have ia5 : iaSS 5 (.slice (some ⟨ab, 0, none⟩) X.nargs ac) (.int .i64 (j : Int)) = some (.pointer (some ⟨ab, j * 5, none⟩)) := by
      rw [iaSS_of (by omega) (by omega), Int.toNat_natCast, Nat.zero_add]
    have e5 : (Value.agg (lP (1, nums[j]'(by omega))).toArray) = vN 1 (nums[j]'(by omega)) := rfl
    rw [e5] at ld
    refine m_seq (m_block (m_seq (m_draw ?_)))
    rw [reg155_7]
    simp (decide := true) only [FT.get_set, FT.setL, faS_ptr, nilS_ptr, pickS_bool, cvInt_of, aminmax_max, abin_add, abin_sub, abin_eql, abin_neq, abin_lss, abin_leq, abin_gtr, abin_geq, aunary_not, Option.some.injEq, exists_eq_left', if_true, if_false, Nat.zero_add, Nat.add_zero, ptrTo, Value.bool.injEq, true_implies, false_implies, Bool.true_eq_false, Bool.false_eq_true, true_and, and_true, t2, t3, t6, t7, q4 S4 o4, q3 S4 o4, he1, he2 S4 (lwO S4 o4), hp1, hp2 S4 (lwO S4 o4), r1 S4 o4, ia5, ld]
    refine is240n hO ok.w151 rfl fun S5 f5 => ?_
    simp (decide := true) only [FT.get_set, FT.setL, faS_ptr, nilS_ptr, pickS_bool, cvInt_of, aminmax_max, abin_add, abin_sub, abin_eql, abin_neq, abin_lss, abin_leq, abin_gtr, abin_geq, aunary_not, Option.some.injEq, exists_eq_left', if_true, if_false, Nat.zero_add, Nat.add_zero, ptrTo, Value.bool.injEq, true_implies, false_implies, Bool.true_eq_false, Bool.false_eq_true, true_and, and_true, Bool.not_true]
    refine m_cond (t := false) (by simp [evalT, SV]) (fun h => by cases h) (fun _ => m_skip ?_)
    simp only
    refine m_reg ?_
    rw [reg155_6]
    have w1 : IntKind.i64.wrap ((j : Int) + 1) = ((j + 1 : Nat) : Int) := by rw [wrap_i64 (by omega) (by omega)]; rfl
    simp (decide := true) only [FT.get_set, FT.setL, faS_ptr, nilS_ptr, pickS_bool, cvInt_of, aminmax_max, abin_add, abin_sub, abin_eql, abin_neq, abin_lss, abin_leq, abin_gtr, abin_geq, aunary_not, Option.some.injEq, exists_eq_left', if_true, if_false, Nat.zero_add, Nat.add_zero, ptrTo, Value.bool.injEq, true_implies, false_implies, Bool.true_eq_false, Bool.false_eq_true, true_and, and_true, t7, w1]
    exact ⟨m - 1, by omega, o4.trans f5, j + 1, by omega, by simp [SV, t2], by simp [SV, t3], by simp [SV, t6], by simp [SV]⟩
  · refine m_cond (t := false) (by simp [evalT, SV]; try omega) (fun h => by cases h) (fun _ => m_exit ?_)
    simp only [if_true]
    refine m_seq (m_reg ?_)
    rw [reg155_9]
    refine m_ret ?_
    refine ⟨trivial, [.int .i64 0, .bool true], ?_, hq _ (o2.trans o4)⟩
    rw [res_tmp, res_tmp, res_nil]; simp [SV, t6]
end Go.Proofs.YtfgbeecipklkdaaGreat
namespace Go.Proofs.YtfgbeecipklkdaaGreat
open Go Go.Ag
set_option linter.unusedVariables false
set_option maxRecDepth 100000

def evV (X : Cx) (ab ac : Nat) : Value := .agg #[.string ⟨⟨[101]⟩⟩, .slice (some ⟨ab, 0, none⟩) X.nargs ac]
def argL (nums : List Int) : List Value := (nums.map fun n => ((1, n) : En)).flatMap lP

/-- three boxes -/
theorem box3 (S : MS) (wf : S.WF) (l0 l1 l2 : List Value) : ∃ S2, ((S.fresh l0 0).fresh l1 0).fresh l2 0 = S2 ∧ Old S S2 ∧ S2.WF ∧ S2.n = S.n + 3 ∧ S2.m S.n = some (.cells l0 0) ∧ S2.m (S.n + 1) = some (.cells l1 0) ∧ S2.m (S.n + 2) = some (.cells l2 0) := by
  refine ⟨_, rfl, (old_fresh _ _ _).trans ((old_fresh _ _ _).trans (old_fresh _ _ _)), wf_fresh' (wf_fresh' (wf_fresh' wf l0 0) l1 0) l2 0, rfl, ?_, ?_, fresh_at ((S.fresh l0 0).fresh l1 0) _ _⟩
  · rw [fresh_old _ _ _ (by simp only [fresh_n]; omega), fresh_old _ _ _ (by simp only [fresh_n]; omega), fresh_at]
  · rw [fresh_old _ _ _ (by simp only [fresh_n]; omega)]
    exact fresh_at (S.fresh l0 0) _ _

/-- Ready -/
theorem ready81 {O : Hook} (hO : Fr O) {X : Cx} {S0 : MS} {B : Nat} (ok : CxOk O X S0 B) {ab ac : Nat} {nums : List Int} {mv : Value} {S : MS} (wf : S.WF) (hn : S.n ≤ 19900) (hB : B ≤ S.n) (lw : Lw B S0 S) (hs : IsSt S mv []) (hab : S.m ab = some (.cells (argL nums) 5)) (hna : nums.length = X.nargs) {Q : Value → MS → Prop}
    (hq : ∀ S', Old S S' → Q (.tuple #[.int .i64 0, .int .i64 0]) S') : CallM Tryz.prog O 81 [.agg X.c, .agg #[mv], evV X ab ac] S Q := by
  refine callM_body (fnIs is81 body81 res81) (hO.at rfl _) (by simp) ?_
  refine m_seq (m_reg ?_)
  rw [reg81_0]
  have hc1 : (Value.cells (.agg X.c)).toList = [X.recs, X.mps, X.fns, X.evs, X.iv, X.tv, X.fv, X.ev] := rfl
  have hc2 : (Value.cells (.agg #[mv])).toList = [mv] := rfl
  have hc3 : (Value.cells (evV X ab ac)).toList = [.string ⟨⟨[101]⟩⟩, .slice (some ⟨ab, 0, none⟩) X.nargs ac] := rfl
  simp (decide := true) only [FT.get_set, FT.setL, faS_ptr, nilS_ptr, pickS_bool, cvInt_of, aminmax_max, abin_add, abin_sub, abin_eql, abin_neq, abin_lss, abin_leq, abin_gtr, abin_geq, aunary_not, Option.some.injEq, exists_eq_left', if_true, if_false, Nat.zero_add, Nat.add_zero, ptrTo, Value.bool.injEq, true_implies, false_implies, Bool.true_eq_false, Bool.false_eq_true, true_and, and_true, hc1, hc2, hc3, fresh_n]
  obtain ⟨S2, e2, o2, wf2, n2, k0, k1, k2⟩ := box3 S wf [X.recs, X.mps, X.fns, X.evs, X.iv, X.tv, X.fv, X.ev] [mv] [.string ⟨⟨[101]⟩⟩, .slice (some ⟨ab, 0, none⟩) X.nargs ac]
  rw [e2]
  have abn := wf _ _ hab
  have lw2 := lw.old o2 hB
  have q8 : ldS (some 8) S2 (.pointer (some ⟨S.n, 0, none⟩)) = some (.agg X.c) := by rw [ldS_ptr, list_of k0]; rfl
  have q4 : ∀ S', Old S2 S' → ldS (some 4) S' (.pointer (some ⟨S.n, 0, none⟩)) = some (.agg X.p) := fun S' f => by rw [ldS_ptr, list_of ((f.2 _ (by omega)).trans k0)]; rfl
  have q1 : ∀ S', Old S2 S' → ldS (some 1) S' (.pointer (some ⟨S.n + 1, 0, none⟩)) = some (.agg #[mv]) := fun S' f => by rw [ldS_ptr, list_of ((f.2 _ (by omega)).trans k1)]; rfl
  have q2 : ∀ S', Old S2 S' → ldS (some 2) S' (.pointer (some ⟨S.n + 2, 0, none⟩)) = some (evV X ab ac) := fun S' f => by rw [ldS_ptr, list_of ((f.2 _ (by omega)).trans k2)]; rfl
  refine m_seq (m_reg ?_)
  rw [reg81_1]
  simp (decide := true) only [FT.get_set, FT.setL, faS_ptr, nilS_ptr, pickS_bool, cvInt_of, aminmax_max, abin_add, abin_sub, abin_eql, abin_neq, abin_lss, abin_leq, abin_gtr, abin_geq, aunary_not, Option.some.injEq, exists_eq_left', if_true, if_false, Nat.zero_add, Nat.add_zero, ptrTo, Value.bool.injEq, true_implies, false_implies, Bool.true_eq_false, Bool.false_eq_true, true_and, and_true, q8]
  refine ok.k39 _ _ (by omega) lw2 fun S3 n3 o3 => ?_
  simp (decide := true) only [aextract, List.getElem?_cons_zero, List.getElem?_cons_succ, FT.get_set, FT.setL, faS_ptr, nilS_ptr, pickS_bool, cvInt_of, aminmax_max, abin_add, abin_sub, abin_eql, abin_neq, abin_lss, abin_leq, abin_gtr, abin_geq, aunary_not, Option.some.injEq, exists_eq_left', if_true, if_false, Nat.zero_add, Nat.add_zero, ptrTo, Value.bool.injEq, true_implies, false_implies, Bool.true_eq_false, Bool.false_eq_true, true_and, and_true]
  refine m_wf fun wf3 => ?_
  refine m_seq (m_seq (m_reg ?_))
  rw [reg81_2]
  simp (decide := true) only [FT.get_set, FT.setL, faS_ptr, nilS_ptr, pickS_bool, cvInt_of, aminmax_max, abin_add, abin_sub, abin_eql, abin_neq, abin_lss, abin_leq, abin_gtr, abin_geq, aunary_not, Option.some.injEq, exists_eq_left', if_true, if_false, Nat.zero_add, Nat.add_zero, ptrTo, Value.bool.injEq, true_implies, false_implies, Bool.true_eq_false, Bool.false_eq_true, true_and, and_true]
  refine m_cond (t := false) (by simp [evalT, SV]) (fun h => by cases h) (fun _ => m_skip ?_)
  have lw3 := lw2.old o3 (by omega)
  refine m_seq (m_seq (m_reg ?_))
  rw [reg81_4]
  simp (decide := true) only [FT.get_set, FT.setL, faS_ptr, nilS_ptr, pickS_bool, cvInt_of, aminmax_max, abin_add, abin_sub, abin_eql, abin_neq, abin_lss, abin_leq, abin_gtr, abin_geq, aunary_not, Option.some.injEq, exists_eq_left', if_true, if_false, Nat.zero_add, Nat.add_zero, ptrTo, Value.bool.injEq, true_implies, false_implies, Bool.true_eq_false, Bool.false_eq_true, true_and, and_true, q4 S3 o3, q1 S3 o3]
  refine is154e hO ok wf3 (by omega) (by omega) lw3 (hs.old wf (o2.trans o3)) fun S4 n4 o4 => ?_
  have o34 := o3.trans o4
  simp (decide := true) only [FT.get_set, FT.setL, faS_ptr, nilS_ptr, pickS_bool, cvInt_of, aminmax_max, abin_add, abin_sub, abin_eql, abin_neq, abin_lss, abin_leq, abin_gtr, abin_geq, aunary_not, Option.some.injEq, exists_eq_left', if_true, if_false, Nat.zero_add, Nat.add_zero, ptrTo, Value.bool.injEq, true_implies, false_implies, Bool.true_eq_false, Bool.false_eq_true, true_and, and_true, Bool.not_true]
  refine m_cond (t := false) (by simp [evalT, SV]) (fun h => by cases h) (fun _ => m_skip ?_)
  refine m_wf fun wf4 => ?_
  refine m_seq (m_reg ?_)
  rw [reg81_6]
  simp (decide := true) only [FT.get_set, FT.setL, faS_ptr, nilS_ptr, pickS_bool, cvInt_of, aminmax_max, abin_add, abin_sub, abin_eql, abin_neq, abin_lss, abin_leq, abin_gtr, abin_geq, aunary_not, Option.some.injEq, exists_eq_left', if_true, if_false, Nat.zero_add, Nat.add_zero, ptrTo, Value.bool.injEq, true_implies, false_implies, Bool.true_eq_false, Bool.false_eq_true, true_and, and_true, q4 S4 o34, q2 S4 o34]
  refine fits155 hO ok (nums := nums) wf4 (by omega) (by omega) (lw3.old o4 (by omega)) ?_ hna fun S5 o5 => ?_
  · exact (o34.2 _ (by omega)).trans ((o2.2 _ abn).trans hab)
  simp (decide := true) only [aextract, List.getElem?_cons_zero, List.getElem?_cons_succ, FT.get_set, FT.setL, faS_ptr, nilS_ptr, pickS_bool, cvInt_of, aminmax_max, abin_add, abin_sub, abin_eql, abin_neq, abin_lss, abin_leq, abin_gtr, abin_geq, aunary_not, Option.some.injEq, exists_eq_left', if_true, if_false, Nat.zero_add, Nat.add_zero, ptrTo, Value.bool.injEq, true_implies, false_implies, Bool.true_eq_false, Bool.false_eq_true, true_and, and_true]
  refine m_seq (m_seq (m_reg ?_))
  rw [reg81_7]
  simp (decide := true) only [FT.get_set, FT.setL, faS_ptr, nilS_ptr, pickS_bool, cvInt_of, aminmax_max, abin_add, abin_sub, abin_eql, abin_neq, abin_lss, abin_leq, abin_gtr, abin_geq, aunary_not, Option.some.injEq, exists_eq_left', if_true, if_false, Nat.zero_add, Nat.add_zero, ptrTo, Value.bool.injEq, true_implies, false_implies, Bool.true_eq_false, Bool.false_eq_true, true_and, and_true, Bool.not_true]
  refine m_cond (t := false) (by simp [evalT, SV]) (fun h => by cases h) (fun _ => m_skip ?_)
  refine m_seq (m_reg ?_)
  rw [reg81_9]
  refine m_ret ?_
  refine ⟨trivial, [.int .i64 0, .int .i64 0], ?_, hq _ (o2.trans (o34.trans o5))⟩
  rw [res_tmp, res_tmp, res_nil]; simp [SV]

/-- start -/
theorem start30 {O : Hook} (hO : Fr O) {X : Cx} {S0 : MS} {B : Nat} (ok : CxOk O X S0 B) {code : List Ins} (hcode : ∀ (i : Nat) ins, code[i]? = some ins → ∃ op, X.code[i]? = some op ∧ ins.is X.ints op) {ab ac : Nat} {nums : List Int} {mv : Value} {S : MS} (wf : S.WF) (hn : S.n ≤ 19000) (hB : B ≤ S.n) (lw : Lw B S0 S) (hs : IsSt S mv []) (hab : S.m ab = some (.cells (argL nums) 5)) (hna : nums.length = X.nargs) (hn0 : nums.length ≠ 0) (hrn : nums.length ≤ X.rn)
    {k : Nat} {s' : PS} (hr : runP code k ⟨0, (nums.map fun n => ((1, n) : En)) ++ List.replicate (X.rn - nums.length) (0, 0), 0, []⟩ = some s') {Q : Value → MS → Prop}
    (hq : ∀ (mb wb : Nat) (mv' : Value) S', Old S S' → S'.WF → ldS none S' (.pointer (some ⟨mb, 8, none⟩)) = some (.pointer (some ⟨wb, 0, none⟩)) → IsW S' wb [X.recs, X.mps, X.fns, X.evs] mv' 0 (.slice none 0 0) s'.fu → IsSt S' mv' s'.mp → Q (.tuple #[.pointer (some ⟨mb, 0, none⟩), .int .i64 0]) S') :
    CallM Tryz.prog O 30 [.agg X.c, .agg #[mv], evV X ab ac, .slice none 0 0, .int .i64 0] S Q := by
  refine callM_body (fnIs is30 body30 res30) (hO.at rfl _) (by simp) ?_
  refine m_seq (m_reg ?_)
  rw [reg30_0]
  have hc1 : (Value.cells (.agg X.c)).toList = [X.recs, X.mps, X.fns, X.evs, X.iv, X.tv, X.fv, X.ev] := rfl
  have hc2 : (Value.cells (.agg #[mv])).toList = [mv] := rfl
  have hc3 : (Value.cells (evV X ab ac)).toList = [.string ⟨⟨[101]⟩⟩, .slice (some ⟨ab, 0, none⟩) X.nargs ac] := rfl
  simp (decide := true) only [FT.get_set, FT.setL, faS_ptr, nilS_ptr, pickS_bool, cvInt_of, aminmax_max, abin_add, abin_sub, abin_eql, abin_neq, abin_lss, abin_leq, abin_gtr, abin_geq, aunary_not, Option.some.injEq, exists_eq_left', if_true, if_false, Nat.zero_add, Nat.add_zero, ptrTo, Value.bool.injEq, true_implies, false_implies, Bool.true_eq_false, Bool.false_eq_true, true_and, and_true, hc1, hc2, hc3, fresh_n]
  obtain ⟨S2, e2, o2, wf2, n2, k0, k1, k2⟩ := box3 S wf [X.recs, X.mps, X.fns, X.evs, X.iv, X.tv, X.fv, X.ev] [mv] [.string ⟨⟨[101]⟩⟩, .slice (some ⟨ab, 0, none⟩) X.nargs ac]
  rw [e2]
  have abn := wf _ _ hab
  have lw2 := lw.old o2 hB
  have q8 : ∀ S', Old S2 S' → ldS (some 8) S' (.pointer (some ⟨S.n, 0, none⟩)) = some (.agg X.c) := fun S' f => by rw [ldS_ptr, list_of ((f.2 _ (by omega)).trans k0)]; rfl
  have q4 : ∀ S', Old S2 S' → ldS (some 4) S' (.pointer (some ⟨S.n, 0, none⟩)) = some (.agg X.p) := fun S' f => by rw [ldS_ptr, list_of ((f.2 _ (by omega)).trans k0)]; rfl
  have q1 : ∀ S', Old S2 S' → ldS (some 1) S' (.pointer (some ⟨S.n + 1, 0, none⟩)) = some (.agg #[mv]) := fun S' f => by rw [ldS_ptr, list_of ((f.2 _ (by omega)).trans k1)]; rfl
  have q2 : ∀ S', Old S2 S' → ldS (some 2) S' (.pointer (some ⟨S.n + 2, 0, none⟩)) = some (evV X ab ac) := fun S' f => by rw [ldS_ptr, list_of ((f.2 _ (by omega)).trans k2)]; rfl
  have qe : ∀ S', Old S2 S' → ldS none S' (.pointer (some ⟨S.n, 7, none⟩)) = some X.ev := fun S' f => by rw [ldS_ptr, list_of ((f.2 _ (by omega)).trans k0)]; rfl
  have qa : ∀ S', Old S2 S' → ldS none S' (.pointer (some ⟨S.n + 2, 1, none⟩)) = some (.slice (some ⟨ab, 0, none⟩) X.nargs ac) := fun S' f => by rw [ldS_ptr, list_of ((f.2 _ (by omega)).trans k2)]; rfl
  have f2 := Old.refl S2
  refine m_seq (m_reg ?_)
  rw [reg30_1]
  simp (decide := true) only [FT.get_set, FT.setL, faS_ptr, nilS_ptr, pickS_bool, cvInt_of, aminmax_max, abin_add, abin_sub, abin_eql, abin_neq, abin_lss, abin_leq, abin_gtr, abin_geq, aunary_not, Option.some.injEq, exists_eq_left', if_true, if_false, Nat.zero_add, Nat.add_zero, ptrTo, Value.bool.injEq, true_implies, false_implies, Bool.true_eq_false, Bool.false_eq_true, true_and, and_true, q8 S2 f2, q1 S2 f2, q2 S2 f2]
  refine ready81 hO ok (nums := nums) wf2 (by omega) (by omega) lw2 (hs.old wf o2) ((o2.2 _ abn).trans hab) hna fun S3 o3 => ?_
  simp (decide := true) only [aextract, List.getElem?_cons_zero, List.getElem?_cons_succ, FT.get_set, FT.setL, faS_ptr, nilS_ptr, pickS_bool, cvInt_of, aminmax_max, abin_add, abin_sub, abin_eql, abin_neq, abin_lss, abin_leq, abin_gtr, abin_geq, aunary_not, Option.some.injEq, exists_eq_left', if_true, if_false, Nat.zero_add, Nat.add_zero, ptrTo, Value.bool.injEq, true_implies, false_implies, Bool.true_eq_false, Bool.false_eq_true, true_and, and_true]
  refine m_wf fun wf3 => ?_
  refine m_seq (m_seq (m_reg ?_))
  rw [reg30_2]
  simp (decide := true) only [FT.get_set, FT.setL, faS_ptr, nilS_ptr, pickS_bool, cvInt_of, aminmax_max, abin_add, abin_sub, abin_eql, abin_neq, abin_lss, abin_leq, abin_gtr, abin_geq, aunary_not, Option.some.injEq, exists_eq_left', if_true, if_false, Nat.zero_add, Nat.add_zero, ptrTo, Value.bool.injEq, true_implies, false_implies, Bool.true_eq_false, Bool.false_eq_true, true_and, and_true]
  refine m_cond (t := false) (by simp [evalT, SV]) (fun h => by cases h) (fun _ => m_skip ?_)
  refine m_seq (m_reg ?_)
  rw [reg30_4]
  simp (decide := true) only [FT.get_set, FT.setL, faS_ptr, nilS_ptr, pickS_bool, cvInt_of, aminmax_max, abin_add, abin_sub, abin_eql, abin_neq, abin_lss, abin_leq, abin_gtr, abin_geq, aunary_not, Option.some.injEq, exists_eq_left', if_true, if_false, Nat.zero_add, Nat.add_zero, ptrTo, Value.bool.injEq, true_implies, false_implies, Bool.true_eq_false, Bool.false_eq_true, true_and, and_true, q8 S3 o3, q4 S3 o3, q1 S3 o3]
  refine ⟨.agg (wL [X.recs, X.mps, X.fns, X.evs] mv 0 (.slice none 0 0) 0).toArray, rfl, ?_⟩
  refine ⟨.agg #[X.recs, X.mps, X.fns, X.evs, X.iv, X.tv, X.fv, X.ev, .pointer (some ⟨S3.n, 0, none⟩), .int .i64 0, .int .i64 0, .int .i64 0], rfl, ?_⟩
  have hw : (Value.cells (.agg (wL [X.recs, X.mps, X.fns, X.evs] mv 0 (.slice none 0 0) 0).toArray)).toList = wL [X.recs, X.mps, X.fns, X.evs] mv 0 (.slice none 0 0) 0 := rfl
  have hm : (Value.cells (.agg #[X.recs, X.mps, X.fns, X.evs, X.iv, X.tv, X.fv, X.ev, .pointer (some ⟨S3.n, 0, none⟩), .int .i64 0, .int .i64 0, .int .i64 0])).toList = [X.recs, X.mps, X.fns, X.evs, X.iv, X.tv, X.fv, X.ev, .pointer (some ⟨S3.n, 0, none⟩), .int .i64 0, .int .i64 0, .int .i64 0] := rfl
  rw [hw, hm]
  simp only [fresh_n]
  have wf4 := wf_fresh' (wf_fresh' wf3 (wL [X.recs, X.mps, X.fns, X.evs] mv 0 (.slice none 0 0) 0) 0) [X.recs, X.mps, X.fns, X.evs, X.iv, X.tv, X.fv, X.ev, .pointer (some ⟨S3.n, 0, none⟩), .int .i64 0, .int .i64 0, .int .i64 0] 0
  have o4 : Old S3 ((S3.fresh (wL [X.recs, X.mps, X.fns, X.evs] mv 0 (.slice none 0 0) 0) 0).fresh [X.recs, X.mps, X.fns, X.evs, X.iv, X.tv, X.fv, X.ev, .pointer (some ⟨S3.n, 0, none⟩), .int .i64 0, .int .i64 0, .int .i64 0] 0) := (old_fresh _ _ _).trans (old_fresh _ _ _)
  have kw : ((S3.fresh (wL [X.recs, X.mps, X.fns, X.evs] mv 0 (.slice none 0 0) 0) 0).fresh [X.recs, X.mps, X.fns, X.evs, X.iv, X.tv, X.fv, X.ev, .pointer (some ⟨S3.n, 0, none⟩), .int .i64 0, .int .i64 0, .int .i64 0] 0).m S3.n = some (.cells (wL [X.recs, X.mps, X.fns, X.evs] mv 0 (.slice none 0 0) 0) 0) := (fresh_old _ _ _ (by rw [fresh_n]; omega)).trans (fresh_at S3 _ _)
  have km : ((S3.fresh (wL [X.recs, X.mps, X.fns, X.evs] mv 0 (.slice none 0 0) 0) 0).fresh [X.recs, X.mps, X.fns, X.evs, X.iv, X.tv, X.fv, X.ev, .pointer (some ⟨S3.n, 0, none⟩), .int .i64 0, .int .i64 0, .int .i64 0] 0).m (S3.n + 1) = some (.cells [X.recs, X.mps, X.fns, X.evs, X.iv, X.tv, X.fv, X.ev, .pointer (some ⟨S3.n, 0, none⟩), .int .i64 0, .int .i64 0, .int .i64 0] 0) := fresh_at (S3.fresh (wL [X.recs, X.mps, X.fns, X.evs] mv 0 (.slice none 0 0) 0) 0) _ _
  have n4 : ((S3.fresh (wL [X.recs, X.mps, X.fns, X.evs] mv 0 (.slice none 0 0) 0) 0).fresh [X.recs, X.mps, X.fns, X.evs, X.iv, X.tv, X.fv, X.ev, .pointer (some ⟨S3.n, 0, none⟩), .int .i64 0, .int .i64 0, .int .i64 0] 0).n = S3.n + 2 := rfl
  generalize (S3.fresh (wL [X.recs, X.mps, X.fns, X.evs] mv 0 (.slice none 0 0) 0) 0).fresh [X.recs, X.mps, X.fns, X.evs, X.iv, X.tv, X.fv, X.ev, .pointer (some ⟨S3.n, 0, none⟩), .int .i64 0, .int .i64 0, .int .i64 0] 0 = S4 at wf4 o4 kw km n4
  have o34 := o3.trans o4
  have hn3 := o3.1
  have lw4 : Lw B S0 S4 := lw2.old o34 (by omega)
  obtain ⟨p, hp1, hp2⟩ := ok.cv
  refine m_seq (m_draw ?_)
  rw [reg30_5]
  simp (decide := true) only [FT.get_set, FT.setL, faS_ptr, nilS_ptr, pickS_bool, cvInt_of, aminmax_max, abin_add, abin_sub, abin_eql, abin_neq, abin_lss, abin_leq, abin_gtr, abin_geq, aunary_not, Option.some.injEq, exists_eq_left', if_true, if_false, Nat.zero_add, Nat.add_zero, ptrTo, Value.bool.injEq, true_implies, false_implies, Bool.true_eq_false, Bool.false_eq_true, true_and, and_true, qe S4 o34, hp1, hp2 S4 lw4, qa S4 o34]
  have hE : EnvOk ⟨S4, S3.n + 1, S3.n, [X.recs, X.mps, X.fns, X.evs], X.iv, X.tv, X.fv, X.ev, (X.rn : Int), X.ops, X.code, X.ints, 0, .slice none 0 0⟩ := by
    have hlo : ∀ S', Lo ⟨S4, S3.n + 1, S3.n, [X.recs, X.mps, X.fns, X.evs], X.iv, X.tv, X.fv, X.ev, (X.rn : Int), X.ops, X.code, X.ints, 0, .slice none 0 0⟩ S' → Lw B S0 S' := fun S' h y hy => by
      rw [h y (by show y < S4.n; omega) (by show y ≠ S3.n + 1; omega) (by show y ≠ S3.n; omega)]
      exact lw4 y hy
    refine ⟨fun S' h i op hop => ?_, fun S' h i n hi => ?_, by show S3.n + 1 < S4.n; omega, by show S3.n < S4.n; omega, by show S3.n + 1 ≠ S3.n; omega, rfl, ok.small⟩
    · obtain ⟨p, a1, a2⟩ := ok.hops i op hop
      exact ⟨p, a1, a2 S' (hlo S' h)⟩
    · obtain ⟨p, a1, a2⟩ := ok.hints i n hi
      exact ⟨p, a1, a2 S' (hlo S' h)⟩
  have hlen : (nums.map fun n => ((1, n) : En)).length = X.nargs := by rw [List.length_map]; exact hna
  have hab4 : S4.m ab = some (.cells (argL nums) 5) := (o34.2 _ (by omega)).trans ((o2.2 _ abn).trans hab)
  have hargs : (Value.slice (some ⟨ab, 0, none⟩) X.nargs ac) = .slice (some ⟨ab, 0, none⟩) (nums.map fun n => ((1, n) : En)).length ac := by rw [hlen]
  rw [hargs]
  refine run82 hO hE (code := code) (rn := X.rn) hcode rfl ok.rns (args := nums.map fun n => ((1, n) : En)) (ab := ab) (ac := ac) (by rw [list_of hab4, list_cells]; rfl) (by rw [List.length_map]; exact hrn) (by rw [List.length_map]; exact hn0) (by show ab < S4.n; omega)
    ⟨0, 0, 0, km⟩ (fu := 0) (mp := []) ⟨mv, ⟨rfl, kw⟩, (hs.old wf o2).old wf2 o34⟩ wf4 (by rw [List.length_map]; exact hr) fun S5 wf5 hend => ?_
  refine m_seq (m_reg ?_)
  rw [reg30_6]
  refine m_ret ?_
  obtain ⟨hen, helo, ⟨st, row, most, hem⟩, mv', hew, hes⟩ := hend
  refine ⟨trivial, [.pointer (some ⟨S3.n + 1, 0, none⟩), .int .i64 0], ?_, ?_⟩
  · rw [res_tmp, res_tmp, res_nil]; simp [SV]
  · refine hq (S3.n + 1) S3.n mv' S5 ⟨?_, fun y hy => ?_⟩ wf5 ?_ hew hes
    · have : S4.n ≤ S5.n := hen
      omega
    · have h1 := helo y (by show y < S4.n; omega) (by show y ≠ S3.n + 1; omega) (by show y ≠ S3.n; omega)
      rw [h1]
      exact (o2.trans o34).2 y hy
    · rw [ldS_ptr, list_of hem]
      exact mL_at ⟨S4, S3.n + 1, S3.n, [X.recs, X.mps, X.fns, X.evs], X.iv, X.tv, X.fv, X.ev, (X.rn : Int), X.ops, X.code, X.ints, 0, .slice none 0 0⟩ rfl st row most 4
end Go.Proofs.YtfgbeecipklkdaaGreat
namespace Go.Proofs.YtfgbeecipklkdaaGreat
open Go Go.Ag
set_option linter.unusedVariables false
set_option maxRecDepth 100000

def outV (mv em : Value) (fu : Int) : Array Value := #[.int .i64 0, .int .i64 0, mv, em, .slice none 0 0, .slice none 0 0, .int .i64 fu]
/-- Run of the reference's machine -/
theorem runRef11 {O : Hook} (hO : Fr O) {X : Cx} {S0 : MS} {B : Nat} (ok : CxOk O X S0 B) {code : List Ins} (hcode : ∀ (i : Nat) ins, code[i]? = some ins → ∃ op, X.code[i]? = some op ∧ ins.is X.ints op) {ab ac : Nat} {nums : List Int} {mv : Value} {S : MS} (wf : S.WF) (hn : S.n ≤ 18000) (hB : B ≤ S.n) (lw : Lw B S0 S) (hs : IsSt S mv []) (hab : S.m ab = some (.cells (argL nums) 5)) (hna : nums.length = X.nargs) (hn0 : nums.length ≠ 0) (hrn : nums.length ≤ X.rn)
    {k : Nat} {s' : PS} (hr : runP code k ⟨0, (nums.map fun n => ((1, n) : En)) ++ List.replicate (X.rn - nums.length) (0, 0), 0, []⟩ = some s') {Q : Value → MS → Prop}
    (hq : ∀ (mv' : Value) S', Old S S' → S'.WF → IsSt S' mv' s'.mp → Q (.tuple #[.agg (outV mv' (.slice none 0 0) s'.fu), .int .i64 0]) S') :
    CallM Tryz.prog O 11 [.agg X.c, .agg #[mv], evV X ab ac, .slice none 0 0, .int .i64 0] S Q := by
  refine callM_body (fnIs is11 body11 res11) (hO.at rfl _) (by simp) ?_
  refine m_seq (m_reg ?_)
  rw [reg11_0]
  have hc1 : (Value.cells (.agg X.c)).toList = [X.recs, X.mps, X.fns, X.evs, X.iv, X.tv, X.fv, X.ev] := rfl
  have hc2 : (Value.cells (.agg #[mv])).toList = [mv] := rfl
  have hc3 : (Value.cells (evV X ab ac)).toList = [.string ⟨⟨[101]⟩⟩, .slice (some ⟨ab, 0, none⟩) X.nargs ac] := rfl
  simp (decide := true) only [FT.get_set, FT.setL, faS_ptr, nilS_ptr, pickS_bool, cvInt_of, aminmax_max, abin_add, abin_sub, abin_eql, abin_neq, abin_lss, abin_leq, abin_gtr, abin_geq, aunary_not, Option.some.injEq, exists_eq_left', if_true, if_false, Nat.zero_add, Nat.add_zero, ptrTo, Value.bool.injEq, true_implies, false_implies, Bool.true_eq_false, Bool.false_eq_true, true_and, and_true, hc1, hc2, hc3, fresh_n]
  obtain ⟨S1, e1, o1, wf1, n1, k0, k1, k2⟩ := box3 S wf [X.recs, X.mps, X.fns, X.evs, X.iv, X.tv, X.fv, X.ev] [mv] [.string ⟨⟨[101]⟩⟩, .slice (some ⟨ab, 0, none⟩) X.nargs ac]
  rw [e1]
  have o2 : Old S (S1.fresh [.int .i64 0, .int .i64 0, .slice none 0 0, .slice none 0 0, .slice none 0 0, .slice none 0 0, .int .i64 0] 0) := o1.trans (old_fresh _ _ _)
  have wf2 := wf_fresh' wf1 [.int .i64 0, .int .i64 0, .slice none 0 0, .slice none 0 0, .slice none 0 0, .slice none 0 0, .int .i64 0] 0
  have n2 : (S1.fresh [.int .i64 0, .int .i64 0, .slice none 0 0, .slice none 0 0, .slice none 0 0, .slice none 0 0, .int .i64 0] 0).n = S.n + 4 := by rw [fresh_n, n1]
  have k3 : (S1.fresh [.int .i64 0, .int .i64 0, .slice none 0 0, .slice none 0 0, .slice none 0 0, .slice none 0 0, .int .i64 0] 0).m (S.n + 3) = some (.cells [.int .i64 0, .int .i64 0, .slice none 0 0, .slice none 0 0, .slice none 0 0, .slice none 0 0, .int .i64 0] 0) := by rw [← n1]; exact fresh_at _ _ _
  have k0' := (fresh_old S1 [.int .i64 0, .int .i64 0, .slice none 0 0, .slice none 0 0, .slice none 0 0, .slice none 0 0, .int .i64 0] 0 (x := S.n) (by omega)).trans k0
  have k1' := (fresh_old S1 [.int .i64 0, .int .i64 0, .slice none 0 0, .slice none 0 0, .slice none 0 0, .slice none 0 0, .int .i64 0] 0 (x := S.n + 1) (by omega)).trans k1
  have k2' := (fresh_old S1 [.int .i64 0, .int .i64 0, .slice none 0 0, .slice none 0 0, .slice none 0 0, .slice none 0 0, .int .i64 0] 0 (x := S.n + 2) (by omega)).trans k2
  generalize S1.fresh [.int .i64 0, .int .i64 0, .slice none 0 0, .slice none 0 0, .slice none 0 0, .slice none 0 0, .int .i64 0] 0 = S2 at o2 wf2 n2 k3 k0' k1' k2'
  have abn := wf _ _ hab
  have lw2 := lw.old o2 hB
  have q8 : ldS (some 8) S2 (.pointer (some ⟨S.n, 0, none⟩)) = some (.agg X.c) := by rw [ldS_ptr, list_of k0']; rfl
  have q1 : ∀ S', Old S2 S' → ldS (some 1) S' (.pointer (some ⟨S.n + 1, 0, none⟩)) = some (.agg #[mv]) := fun S' f => by rw [ldS_ptr, list_of ((f.2 _ (by omega)).trans k1')]; rfl
  have q2 : ldS (some 2) S2 (.pointer (some ⟨S.n + 2, 0, none⟩)) = some (evV X ab ac) := by rw [ldS_ptr, list_of k2']; rfl
  have en1 : S1.n = S.n + 3 := n1
  refine m_seq (m_reg ?_)
  rw [reg11_1]
  simp (decide := true) only [FT.get_set, FT.setL, faS_ptr, nilS_ptr, pickS_bool, cvInt_of, aminmax_max, abin_add, abin_sub, abin_eql, abin_neq, abin_lss, abin_leq, abin_gtr, abin_geq, aunary_not, Option.some.injEq, exists_eq_left', if_true, if_false, Nat.zero_add, Nat.add_zero, ptrTo, Value.bool.injEq, true_implies, false_implies, Bool.true_eq_false, Bool.false_eq_true, true_and, and_true, q8, q1 S2 (Old.refl _), q2]
  refine start30 hO ok hcode (nums := nums) wf2 (by omega) (by omega) lw2 (hs.old wf o2) ((o2.2 _ abn).trans hab) hna hn0 hrn hr fun mb wb mv' S3 o3 wf3 hmb hw hs3 => ?_
  simp (decide := true) only [aextract, List.getElem?_cons_zero, List.getElem?_cons_succ, FT.get_set, FT.setL, faS_ptr, nilS_ptr, pickS_bool, cvInt_of, aminmax_max, abin_add, abin_sub, abin_eql, abin_neq, abin_lss, abin_leq, abin_gtr, abin_geq, aunary_not, Option.some.injEq, exists_eq_left', if_true, if_false, Nat.zero_add, Nat.add_zero, ptrTo, Value.bool.injEq, true_implies, false_implies, Bool.true_eq_false, Bool.false_eq_true, true_and, and_true]
  refine m_seq (m_seq (m_reg ?_))
  rw [reg11_2]
  simp (decide := true) only [FT.get_set, FT.setL, faS_ptr, nilS_ptr, pickS_bool, cvInt_of, aminmax_max, abin_add, abin_sub, abin_eql, abin_neq, abin_lss, abin_leq, abin_gtr, abin_geq, aunary_not, Option.some.injEq, exists_eq_left', if_true, if_false, Nat.zero_add, Nat.add_zero, ptrTo, Value.bool.injEq, true_implies, false_implies, Bool.true_eq_false, Bool.false_eq_true, true_and, and_true]
  refine m_cond (t := false) (by simp [evalT, SV]) (fun h => by cases h) (fun _ => m_skip ?_)
  refine m_seq (m_draw ?_)
  rw [reg11_4]
  simp (decide := true) only [FT.get_set, FT.setL, faS_ptr, nilS_ptr, pickS_bool, cvInt_of, aminmax_max, abin_add, abin_sub, abin_eql, abin_neq, abin_lss, abin_leq, abin_gtr, abin_geq, aunary_not, Option.some.injEq, exists_eq_left', if_true, if_false, Nat.zero_add, Nat.add_zero, ptrTo, Value.bool.injEq, true_implies, false_implies, Bool.true_eq_false, Bool.false_eq_true, true_and, and_true, hmb, q1 S3 o3]
  have hone3 : oneCell mv' = true := by
    obtain ⟨b, c, lv, junk, rfl, _⟩ := hs3.ex
    rfl
  refine finish31 hO wf3 hw ⟨hone3, rfl⟩ fun S4 o4 => ?_
  have k34 : S4.m (S.n + 3) = some (.cells [.int .i64 0, .int .i64 0, .slice none 0 0, .slice none 0 0, .slice none 0 0, .slice none 0 0, .int .i64 0] 0) := by
    have := o3.1
    rw [o4.2 _ (by omega), o3.2 _ (by omega)]; exact k3
  obtain ⟨S5, e5, g5, n5, k5⟩ := st_all (n := 7) (cs := outV mv' (.slice none 0 0) s'.fu) k34 rfl rfl (by unfold outV; simp only [List.all_cons, List.all_nil, hone3]; rfl)
  refine ⟨S5, e5, ?_⟩
  refine m_wf fun wf5 => m_ret ?_
  have h3n := o3.1
  have h4n := o4.1
  refine ⟨trivial, [.agg (outV mv' (.slice none 0 0) s'.fu), .int .i64 0], ?_, hq mv' S5 ⟨by rw [n5]; have := o2.1; omega, fun y hy => ?_⟩ wf5 ?_⟩
  · have hT : ∀ (T : FT), T.get 10 = .pointer (some ⟨S.n + 3, 0, none⟩) → T.get 11 = .int .i64 0 → resM Tryz.prog T S5 [.cell 10 55, .tmp 11] = some [.agg (outV mv' (.slice none 0 0) s'.fu), .int .i64 0] := fun T h h' => by
      have e : mload Tryz.prog S5 55 (T.get 10) = some (.agg (outV mv' (.slice none 0 0) s'.fu)) := by
        unfold mload
        rw [agg55, h]
        show ldS (some 7) S5 _ = _
        rw [ldS_ptr, list_of g5]; rfl
      show (mload Tryz.prog S5 55 (T.get 10)).bind _ = _
      rw [e, res_tmp, res_nil, h']; rfl
    exact hT _ (by simp [SV, en1]) (by simp [SV])
  · rw [k5 _ (by omega), o4.2 _ (by omega), o3.2 _ (by omega)]; exact o2.2 y hy
  · refine (hs3.old wf3 o4).keepE (by rw [n5]; exact Nat.le_refl _) fun y l es he hm => k5 y fun e => ?_
    subst e
    rw [k34] at hm
    cases hm
    rcases he with h | h <;> cases h
end Go.Proofs.YtfgbeecipklkdaaGreat
namespace Go.Proofs.YtfgbeecipklkdaaGreat
open Go Go.Ag
set_option linter.unusedVariables false
set_option maxRecDepth 100000

def code3 : List Ins := [.charge, .int 4 0, .int 5 0, .charge, .move 6 5, .move 7 0, .lt 6 6 7, .unl 6 47, .move 6 5, .int 7 1, .add 6 6 7, .move 5 6, .int 6 0, .charge, .move 7 6, .move 8 1, .lt 7 7 8, .unl 7 43, .move 7 6, .int 8 1, .add 7 7 8, .move 6 7, .move 7 5, .move 8 6, .add 7 7 8, .move 8 2, .eq 7 7 8, .unl 7 30, .jump 47, .jump 30, .move 7 5, .move 8 6, .add 7 7 8, .move 8 3, .eq 7 7 8, .unl 7 38, .jump 3, .jump 38, .move 7 4, .int 8 1, .add 7 7 8, .move 4 7, .jump 13, .move 7 5, .move 8 6, .put 7 8, .jump 3, .int 6 0, .move 7 4, .put 6 7, .ret]
/-- a put that is allowed -/
def putC (l : List En) (k v : Int) : Option (List En) := if l.length < 24 ∧ isAt l (idx l k) k = false then some (putL l k v) else none
/-- the law's own loops: inside -/
def innerP (b l s i : Int) : Nat → Int → Int → Bool → Bool → Option (Int × Int × Bool × Bool)
  | 0, _, _, _, _ => none
  | m + 1, j, n, left, sk =>
    if j < b ∧ left = false ∧ sk = false then
      if i + (j + 1) = l then innerP b l s i m (j + 1) n true sk
      else if i + (j + 1) = s then innerP b l s i m (j + 1) n left true
      else innerP b l s i m (j + 1) (n + 1) left sk
    else some (j, n, left, sk)
/-- outside -/
def outerP (a b l s : Int) : Nat → Int → Int → Bool → List En → Option (Int × List En)
  | 0, _, _, _, _ => none
  | m + 1, i, n, left, mp =>
    if i ≤ a ∧ left = false then
      (innerP b l s i 20 0 n left false).bind fun r =>
        if r.2.2.1 = false ∧ r.2.2.2 = false then (putC mp i r.1).bind fun mp' => outerP a b l s m (i + 1) r.2.1 r.2.2.1 mp'
        else outerP a b l s m (i + 1) r.2.1 r.2.2.1 mp
    else some (n, mp)
def startP (a b l s : Int) : PS := ⟨0, [(1, a), (1, b), (1, l), (1, s), (0, 0), (0, 0), (0, 0), (0, 0), (0, 0)], 0, []⟩
end Go.Proofs.YtfgbeecipklkdaaGreat
namespace Go.Proofs.YtfgbeecipklkdaaGreat
open Go Go.Ag
set_option linter.unusedVariables false
set_option maxRecDepth 100000

/-! the plain law: the code does what the law's own loops do -/
theorem c3_0 : code3[0]? = some (.charge) := rfl
theorem c3_1 : code3[1]? = some (.int 4 0) := rfl
theorem c3_2 : code3[2]? = some (.int 5 0) := rfl
theorem c3_3 : code3[3]? = some (.charge) := rfl
theorem c3_4 : code3[4]? = some (.move 6 5) := rfl
theorem c3_5 : code3[5]? = some (.move 7 0) := rfl
theorem c3_6 : code3[6]? = some (.lt 6 6 7) := rfl
theorem c3_7 : code3[7]? = some (.unl 6 47) := rfl
theorem c3_8 : code3[8]? = some (.move 6 5) := rfl
theorem c3_9 : code3[9]? = some (.int 7 1) := rfl
theorem c3_10 : code3[10]? = some (.add 6 6 7) := rfl
theorem c3_11 : code3[11]? = some (.move 5 6) := rfl
theorem c3_12 : code3[12]? = some (.int 6 0) := rfl
theorem c3_13 : code3[13]? = some (.charge) := rfl
theorem c3_14 : code3[14]? = some (.move 7 6) := rfl
theorem c3_15 : code3[15]? = some (.move 8 1) := rfl
theorem c3_16 : code3[16]? = some (.lt 7 7 8) := rfl
theorem c3_17 : code3[17]? = some (.unl 7 43) := rfl
theorem c3_18 : code3[18]? = some (.move 7 6) := rfl
theorem c3_19 : code3[19]? = some (.int 8 1) := rfl
theorem c3_20 : code3[20]? = some (.add 7 7 8) := rfl
theorem c3_21 : code3[21]? = some (.move 6 7) := rfl
theorem c3_22 : code3[22]? = some (.move 7 5) := rfl
theorem c3_23 : code3[23]? = some (.move 8 6) := rfl
theorem c3_24 : code3[24]? = some (.add 7 7 8) := rfl
theorem c3_25 : code3[25]? = some (.move 8 2) := rfl
theorem c3_26 : code3[26]? = some (.eq 7 7 8) := rfl
theorem c3_27 : code3[27]? = some (.unl 7 30) := rfl
theorem c3_28 : code3[28]? = some (.jump 47) := rfl
theorem c3_29 : code3[29]? = some (.jump 30) := rfl
theorem c3_30 : code3[30]? = some (.move 7 5) := rfl
theorem c3_31 : code3[31]? = some (.move 8 6) := rfl
theorem c3_32 : code3[32]? = some (.add 7 7 8) := rfl
theorem c3_33 : code3[33]? = some (.move 8 3) := rfl
theorem c3_34 : code3[34]? = some (.eq 7 7 8) := rfl
theorem c3_35 : code3[35]? = some (.unl 7 38) := rfl
theorem c3_36 : code3[36]? = some (.jump 3) := rfl
theorem c3_37 : code3[37]? = some (.jump 38) := rfl
theorem c3_38 : code3[38]? = some (.move 7 4) := rfl
theorem c3_39 : code3[39]? = some (.int 8 1) := rfl
theorem c3_40 : code3[40]? = some (.add 7 7 8) := rfl
theorem c3_41 : code3[41]? = some (.move 4 7) := rfl
theorem c3_42 : code3[42]? = some (.jump 13) := rfl
theorem c3_43 : code3[43]? = some (.move 7 5) := rfl
theorem c3_44 : code3[44]? = some (.move 8 6) := rfl
theorem c3_45 : code3[45]? = some (.put 7 8) := rfl
theorem c3_46 : code3[46]? = some (.jump 3) := rfl
theorem c3_47 : code3[47]? = some (.int 6 0) := rfl
theorem c3_48 : code3[48]? = some (.move 7 4) := rfl
theorem c3_49 : code3[49]? = some (.put 6 7) := rfl
theorem c3_50 : code3[50]? = some (.ret) := rfl

theorem cmp_ltP (a b : Int) : (cmpI 1 a 1 b < 0) = (a < b) := propext (by have := cmp_lt a b; simpa using this)
theorem cmp_eqP (a b : Int) : (cmpI 1 a 1 b = 0) = (a = b) := propext (by have := cmp_eq a b; rw [Bool.eq_iff_iff] at this; simpa using this)
/-- registers -/
def R3 (a b l s n i : Int) (x6 x7 x8 : En) : List En := [(1, a), (1, b), (1, l), (1, s), (1, n), (1, i), x6, x7, x8]
theorem seg0 (a b l s : Int) (M : Nat) : runP code3 (M + 3) (startP a b l s) = runP code3 M ⟨3, R3 a b l s 0 0 (0, 0) (0, 0) (0, 0), 1, []⟩ := by
  simp [startP, R3, runP, stepP, Option.bind_some, List.getElem?_cons_zero, List.getElem?_cons_succ, List.set_cons_zero, List.set_cons_succ, List.length_cons, List.length_nil, c3_0, c3_1, c3_2, c3_3, c3_4, c3_5, c3_6, c3_7, c3_8, c3_9, c3_10, c3_11, c3_12, c3_13, c3_14, c3_15, c3_16, c3_17, c3_18, c3_19, c3_20, c3_21, c3_22, c3_23, c3_24, c3_25, c3_26, c3_27, c3_28, c3_29, c3_30, c3_31, c3_32, c3_33, c3_34, c3_35, c3_36, c3_37, c3_38, c3_39, c3_40, c3_41, c3_42, c3_43, c3_44, c3_45, c3_46, c3_47, c3_48, c3_49, c3_50]
theorem seg47 (a b l s n i fu : Int) (x6 x7 x8 : En) (mp w : List En) (hw : putC mp 0 n = some w) : runP code3 4 ⟨47, R3 a b l s n i x6 x7 x8, fu, mp⟩ = some ⟨51, R3 a b l s n i (1, 0) (1, n) x8, fu, w⟩ := by
  unfold putC at hw
  split at hw
  case isFalse => cases hw
  rename_i h
  cases hw
  simp [R3, h.1, h.2, runP, stepP, Option.bind_some, List.getElem?_cons_zero, List.getElem?_cons_succ, List.set_cons_zero, List.set_cons_succ, List.length_cons, List.length_nil, c3_0, c3_1, c3_2, c3_3, c3_4, c3_5, c3_6, c3_7, c3_8, c3_9, c3_10, c3_11, c3_12, c3_13, c3_14, c3_15, c3_16, c3_17, c3_18, c3_19, c3_20, c3_21, c3_22, c3_23, c3_24, c3_25, c3_26, c3_27, c3_28, c3_29, c3_30, c3_31, c3_32, c3_33, c3_34, c3_35, c3_36, c3_37, c3_38, c3_39, c3_40, c3_41, c3_42, c3_43, c3_44, c3_45, c3_46, c3_47, c3_48, c3_49, c3_50]
theorem seg3y (a b l s n i fu : Int) (x6 x7 x8 : En) (mp : List En) (hf : 0 ≤ fu ∧ fu < 400) (hi : i < a) (h0 : 0 ≤ i) (h1 : i ≤ 1000000) (M : Nat) : runP code3 (M + 10) ⟨3, R3 a b l s n i x6 x7 x8, fu, mp⟩ = runP code3 M ⟨13, R3 a b l s n (i + 1) (1, 0) (1, 1) x8, fu + 1, mp⟩ := by
  simp [R3, hf.1, hf.2, cmp_ltP, hi, h0, h1, runP, stepP, Option.bind_some, List.getElem?_cons_zero, List.getElem?_cons_succ, List.set_cons_zero, List.set_cons_succ, List.length_cons, List.length_nil, c3_0, c3_1, c3_2, c3_3, c3_4, c3_5, c3_6, c3_7, c3_8, c3_9, c3_10, c3_11, c3_12, c3_13, c3_14, c3_15, c3_16, c3_17, c3_18, c3_19, c3_20, c3_21, c3_22, c3_23, c3_24, c3_25, c3_26, c3_27, c3_28, c3_29, c3_30, c3_31, c3_32, c3_33, c3_34, c3_35, c3_36, c3_37, c3_38, c3_39, c3_40, c3_41, c3_42, c3_43, c3_44, c3_45, c3_46, c3_47, c3_48, c3_49, c3_50]
theorem seg3n (a b l s n i fu : Int) (x6 x7 x8 : En) (mp : List En) (hf : 0 ≤ fu ∧ fu < 400) (hi : ¬ i < a) (M : Nat) : runP code3 (M + 5) ⟨3, R3 a b l s n i x6 x7 x8, fu, mp⟩ = runP code3 M ⟨47, R3 a b l s n i (3, 0) (1, a) x8, fu + 1, mp⟩ := by
  simp [R3, hf.1, hf.2, cmp_ltP, hi, runP, stepP, Option.bind_some, List.getElem?_cons_zero, List.getElem?_cons_succ, List.set_cons_zero, List.set_cons_succ, List.length_cons, List.length_nil, c3_0, c3_1, c3_2, c3_3, c3_4, c3_5, c3_6, c3_7, c3_8, c3_9, c3_10, c3_11, c3_12, c3_13, c3_14, c3_15, c3_16, c3_17, c3_18, c3_19, c3_20, c3_21, c3_22, c3_23, c3_24, c3_25, c3_26, c3_27, c3_28, c3_29, c3_30, c3_31, c3_32, c3_33, c3_34, c3_35, c3_36, c3_37, c3_38, c3_39, c3_40, c3_41, c3_42, c3_43, c3_44, c3_45, c3_46, c3_47, c3_48, c3_49, c3_50]
theorem seg13n (a b l s n i j fu : Int) (x7 x8 : En) (mp : List En) (hf : 0 ≤ fu ∧ fu < 400) (hj : ¬ j < b) (M : Nat) : runP code3 (M + 5) ⟨13, R3 a b l s n i (1, j) x7 x8, fu, mp⟩ = runP code3 M ⟨43, R3 a b l s n i (1, j) (3, 0) (1, b), fu + 1, mp⟩ := by
  simp [R3, hf.1, hf.2, cmp_ltP, hj, runP, stepP, Option.bind_some, List.getElem?_cons_zero, List.getElem?_cons_succ, List.set_cons_zero, List.set_cons_succ, List.length_cons, List.length_nil, c3_0, c3_1, c3_2, c3_3, c3_4, c3_5, c3_6, c3_7, c3_8, c3_9, c3_10, c3_11, c3_12, c3_13, c3_14, c3_15, c3_16, c3_17, c3_18, c3_19, c3_20, c3_21, c3_22, c3_23, c3_24, c3_25, c3_26, c3_27, c3_28, c3_29, c3_30, c3_31, c3_32, c3_33, c3_34, c3_35, c3_36, c3_37, c3_38, c3_39, c3_40, c3_41, c3_42, c3_43, c3_44, c3_45, c3_46, c3_47, c3_48, c3_49, c3_50]
theorem seg43 (a b l s n i j fu : Int) (x7 x8 : En) (mp w : List En) (hw : putC mp i j = some w) (M : Nat) : runP code3 (M + 4) ⟨43, R3 a b l s n i (1, j) x7 x8, fu, mp⟩ = runP code3 M ⟨3, R3 a b l s n i (1, j) (1, i) (1, j), fu, w⟩ := by
  unfold putC at hw
  split at hw
  case isFalse => cases hw
  rename_i h
  cases hw
  simp [R3, h.1, h.2, runP, stepP, Option.bind_some, List.getElem?_cons_zero, List.getElem?_cons_succ, List.set_cons_zero, List.set_cons_succ, List.length_cons, List.length_nil, c3_0, c3_1, c3_2, c3_3, c3_4, c3_5, c3_6, c3_7, c3_8, c3_9, c3_10, c3_11, c3_12, c3_13, c3_14, c3_15, c3_16, c3_17, c3_18, c3_19, c3_20, c3_21, c3_22, c3_23, c3_24, c3_25, c3_26, c3_27, c3_28, c3_29, c3_30, c3_31, c3_32, c3_33, c3_34, c3_35, c3_36, c3_37, c3_38, c3_39, c3_40, c3_41, c3_42, c3_43, c3_44, c3_45, c3_46, c3_47, c3_48, c3_49, c3_50]
/-- inside, up to the first question -/
theorem seg13y (a b l s n i j fu : Int) (x7 x8 : En) (mp : List En) (hf : 0 ≤ fu ∧ fu < 400) (hj : j < b) (hi0 : 0 ≤ i) (hi1 : i ≤ 1000000) (hj0 : 0 ≤ j) (hj1 : j ≤ 1000) (M : Nat) : runP code3 (M + 15) ⟨13, R3 a b l s n i (1, j) x7 x8, fu, mp⟩ = runP code3 M ⟨if i + (j + 1) = l then 28 else 30, R3 a b l s n i (1, j + 1) (3, if i + (j + 1) = l then 1 else 0) (1, l), fu + 1, mp⟩ := by
  have e0 : 0 ≤ j + 1 := by omega
  have e1 : j + 1 ≤ 1000000 := by omega
  have e2 : j ≤ 1000000 := by omega
  by_cases h : i + (j + 1) = l
  · simp [R3, hf.1, hf.2, cmp_ltP, cmp_eqP, hj, hi0, hi1, hj0, hj1, e0, e1, e2, h, runP, stepP, Option.bind_some, List.getElem?_cons_zero, List.getElem?_cons_succ, List.set_cons_zero, List.set_cons_succ, List.length_cons, List.length_nil, c3_0, c3_1, c3_2, c3_3, c3_4, c3_5, c3_6, c3_7, c3_8, c3_9, c3_10, c3_11, c3_12, c3_13, c3_14, c3_15, c3_16, c3_17, c3_18, c3_19, c3_20, c3_21, c3_22, c3_23, c3_24, c3_25, c3_26, c3_27, c3_28, c3_29, c3_30, c3_31, c3_32, c3_33, c3_34, c3_35, c3_36, c3_37, c3_38, c3_39, c3_40, c3_41, c3_42, c3_43, c3_44, c3_45, c3_46, c3_47, c3_48, c3_49, c3_50]
  · simp [R3, hf.1, hf.2, cmp_ltP, cmp_eqP, hj, hi0, hi1, hj0, hj1, e0, e1, e2, h, runP, stepP, Option.bind_some, List.getElem?_cons_zero, List.getElem?_cons_succ, List.set_cons_zero, List.set_cons_succ, List.length_cons, List.length_nil, c3_0, c3_1, c3_2, c3_3, c3_4, c3_5, c3_6, c3_7, c3_8, c3_9, c3_10, c3_11, c3_12, c3_13, c3_14, c3_15, c3_16, c3_17, c3_18, c3_19, c3_20, c3_21, c3_22, c3_23, c3_24, c3_25, c3_26, c3_27, c3_28, c3_29, c3_30, c3_31, c3_32, c3_33, c3_34, c3_35, c3_36, c3_37, c3_38, c3_39, c3_40, c3_41, c3_42, c3_43, c3_44, c3_45, c3_46, c3_47, c3_48, c3_49, c3_50]
theorem seg28 (s : PS) (M : Nat) (h : s.pc = 28) : runP code3 (M + 1) s = runP code3 M { s with pc := 47 } := by
  obtain ⟨pc, r, f, m⟩ := s
  simp only at h
  subst h
  simp [runP, stepP, Option.bind_some, List.getElem?_cons_zero, List.getElem?_cons_succ, List.set_cons_zero, List.set_cons_succ, List.length_cons, List.length_nil, c3_0, c3_1, c3_2, c3_3, c3_4, c3_5, c3_6, c3_7, c3_8, c3_9, c3_10, c3_11, c3_12, c3_13, c3_14, c3_15, c3_16, c3_17, c3_18, c3_19, c3_20, c3_21, c3_22, c3_23, c3_24, c3_25, c3_26, c3_27, c3_28, c3_29, c3_30, c3_31, c3_32, c3_33, c3_34, c3_35, c3_36, c3_37, c3_38, c3_39, c3_40, c3_41, c3_42, c3_43, c3_44, c3_45, c3_46, c3_47, c3_48, c3_49, c3_50]
theorem seg30 (a b l s n i j fu : Int) (x7 x8 : En) (mp : List En) (hi0 : 0 ≤ i) (hi1 : i ≤ 1000000) (hj0 : 0 ≤ j) (hj1 : j ≤ 1000000) (M : Nat) : runP code3 (M + 6) ⟨30, R3 a b l s n i (1, j) x7 x8, fu, mp⟩ = runP code3 M ⟨if i + j = s then 36 else 38, R3 a b l s n i (1, j) (3, if i + j = s then 1 else 0) (1, s), fu, mp⟩ := by
  by_cases h : i + j = s
  · simp [R3, cmp_eqP, hi0, hi1, hj0, hj1, h, runP, stepP, Option.bind_some, List.getElem?_cons_zero, List.getElem?_cons_succ, List.set_cons_zero, List.set_cons_succ, List.length_cons, List.length_nil, c3_0, c3_1, c3_2, c3_3, c3_4, c3_5, c3_6, c3_7, c3_8, c3_9, c3_10, c3_11, c3_12, c3_13, c3_14, c3_15, c3_16, c3_17, c3_18, c3_19, c3_20, c3_21, c3_22, c3_23, c3_24, c3_25, c3_26, c3_27, c3_28, c3_29, c3_30, c3_31, c3_32, c3_33, c3_34, c3_35, c3_36, c3_37, c3_38, c3_39, c3_40, c3_41, c3_42, c3_43, c3_44, c3_45, c3_46, c3_47, c3_48, c3_49, c3_50]
  · simp [R3, cmp_eqP, hi0, hi1, hj0, hj1, h, runP, stepP, Option.bind_some, List.getElem?_cons_zero, List.getElem?_cons_succ, List.set_cons_zero, List.set_cons_succ, List.length_cons, List.length_nil, c3_0, c3_1, c3_2, c3_3, c3_4, c3_5, c3_6, c3_7, c3_8, c3_9, c3_10, c3_11, c3_12, c3_13, c3_14, c3_15, c3_16, c3_17, c3_18, c3_19, c3_20, c3_21, c3_22, c3_23, c3_24, c3_25, c3_26, c3_27, c3_28, c3_29, c3_30, c3_31, c3_32, c3_33, c3_34, c3_35, c3_36, c3_37, c3_38, c3_39, c3_40, c3_41, c3_42, c3_43, c3_44, c3_45, c3_46, c3_47, c3_48, c3_49, c3_50]
theorem seg36 (s : PS) (M : Nat) (h : s.pc = 36) : runP code3 (M + 1) s = runP code3 M { s with pc := 3 } := by
  obtain ⟨pc, r, f, m⟩ := s
  simp only at h
  subst h
  simp [runP, stepP, Option.bind_some, List.getElem?_cons_zero, List.getElem?_cons_succ, List.set_cons_zero, List.set_cons_succ, List.length_cons, List.length_nil, c3_0, c3_1, c3_2, c3_3, c3_4, c3_5, c3_6, c3_7, c3_8, c3_9, c3_10, c3_11, c3_12, c3_13, c3_14, c3_15, c3_16, c3_17, c3_18, c3_19, c3_20, c3_21, c3_22, c3_23, c3_24, c3_25, c3_26, c3_27, c3_28, c3_29, c3_30, c3_31, c3_32, c3_33, c3_34, c3_35, c3_36, c3_37, c3_38, c3_39, c3_40, c3_41, c3_42, c3_43, c3_44, c3_45, c3_46, c3_47, c3_48, c3_49, c3_50]
theorem seg38 (a b l s n i fu : Int) (x6 x7 x8 : En) (mp : List En) (hn0 : 0 ≤ n) (hn1 : n ≤ 1000000) (M : Nat) : runP code3 (M + 5) ⟨38, R3 a b l s n i x6 x7 x8, fu, mp⟩ = runP code3 M ⟨13, R3 a b l s (n + 1) i x6 (1, n + 1) (1, 1), fu, mp⟩ := by
  simp [R3, hn0, hn1, runP, stepP, Option.bind_some, List.getElem?_cons_zero, List.getElem?_cons_succ, List.set_cons_zero, List.set_cons_succ, List.length_cons, List.length_nil, c3_0, c3_1, c3_2, c3_3, c3_4, c3_5, c3_6, c3_7, c3_8, c3_9, c3_10, c3_11, c3_12, c3_13, c3_14, c3_15, c3_16, c3_17, c3_18, c3_19, c3_20, c3_21, c3_22, c3_23, c3_24, c3_25, c3_26, c3_27, c3_28, c3_29, c3_30, c3_31, c3_32, c3_33, c3_34, c3_35, c3_36, c3_37, c3_38, c3_39, c3_40, c3_41, c3_42, c3_43, c3_44, c3_45, c3_46, c3_47, c3_48, c3_49, c3_50]
end Go.Proofs.YtfgbeecipklkdaaGreat
namespace Go.Proofs.YtfgbeecipklkdaaGreat
open Go Go.Ag
set_option linter.unusedVariables false
set_option maxRecDepth 100000

theorem in_left {b l s i : Int} {q : Nat} {j n : Int} {sk : Bool} {r : Int × Int × Bool × Bool} (h : innerP b l s i q j n true sk = some r) : r = (j, n, true, sk) := by
  cases q with
  | zero => cases h
  | succ q =>
    unfold innerP at h
    rw [if_neg (by simp)] at h
    exact (Option.some.inj h).symm
theorem in_sk {b l s i : Int} {q : Nat} {j n : Int} {left : Bool} {r : Int × Int × Bool × Bool} (h : innerP b l s i q j n left true = some r) : r = (j, n, left, true) := by
  cases q with
  | zero => cases h
  | succ q =>
    unfold innerP at h
    rw [if_neg (by simp)] at h
    exact (Option.some.inj h).symm
def pcT (r : Int × Int × Bool × Bool) : Nat := if r.2.2.1 = true then 47 else if r.2.2.2 = true then 3 else 43

theorem inner_run {a b l s i : Int} (hi0 : 0 ≤ i) (hi1 : i ≤ 1000) (hb : b ≤ 100) {mp : List En} {r : Int × Int × Bool × Bool} : ∀ (q : Nat) (j n fu : Int) (x7 x8 : En), innerP b l s i q j n false false = some r → 0 ≤ j → j ≤ b → 0 ≤ n → n + (b - j) ≤ 10000 → 0 ≤ fu → fu + (b - j) + 1 ≤ 399 →
    ∃ (K : Nat) (y7 y8 : En) (fu' : Int), (∀ M, runP code3 (M + K) ⟨13, R3 a b l s n i (1, j) x7 x8, fu, mp⟩ = runP code3 M ⟨pcT r, R3 a b l s r.2.1 i (1, r.1) y7 y8, fu', mp⟩) ∧ 0 ≤ fu' ∧ fu' ≤ fu + (b - j) + 1 ∧ 0 ≤ r.2.1 ∧ r.2.1 ≤ n + (b - j) ∧ 0 ≤ r.1 := by
  intro q
  induction q with
  | zero => intro j n fu x7 x8 h; cases h
  | succ q ih =>
    intro j n fu x7 x8 h hj0 hjb hn0 hn1 hf0 hf1
    unfold innerP at h
    by_cases hj : j < b
    · rw [if_pos ⟨hj, rfl, rfl⟩] at h
      have s1 := fun M => seg13y a b l s n i j fu x7 x8 mp ⟨hf0, by omega⟩ hj hi0 (by omega) hj0 (by omega) M
      by_cases hl : i + (j + 1) = l
      · rw [if_pos hl] at h
        have e := in_left h
        subst e
        refine ⟨16, (3, 1), (1, l), fu + 1, fun M => ?_, by omega, by omega, hn0, by simp only; omega, by simp only; omega⟩
        rw [show M + 16 = (M + 1) + 15 by omega, s1, if_pos hl, if_pos hl, seg28 _ _ rfl]
        rfl
      · rw [if_neg hl] at h
        have s2 := fun M => seg30 a b l s n i (j + 1) (fu + 1) (3, 0) (1, l) mp hi0 (by omega) (by omega) (by omega) M
        by_cases hs : i + (j + 1) = s
        · rw [if_pos hs] at h
          have e := in_sk h
          subst e
          refine ⟨22, (3, 1), (1, s), fu + 1, fun M => ?_, by omega, by omega, hn0, by simp only; omega, by simp only; omega⟩
          rw [show M + 22 = (M + 7) + 15 by omega, s1, if_neg hl, if_neg hl, show M + 7 = (M + 1) + 6 by omega, s2, if_pos hs, if_pos hs, seg36 _ _ rfl]
          rfl
        · rw [if_neg hs] at h
          have s3 := fun M => seg38 a b l s n i (fu + 1) (1, j + 1) (3, 0) (1, s) mp hn0 (by omega) M
          obtain ⟨K, y7, y8, fu', g, f1, f2, f3, f4, f5⟩ := ih (j + 1) (n + 1) (fu + 1) (1, n + 1) (1, 1) h (by omega) (by omega) (by omega) (by omega) (by omega) (by omega)
          refine ⟨K + 26, y7, y8, fu', fun M => ?_, f1, by omega, f3, by omega, f5⟩
          rw [show M + (K + 26) = (M + K + 11) + 15 by omega, s1, if_neg hl, if_neg hl, show M + K + 11 = (M + K + 5) + 6 by omega, s2, if_neg hs, if_neg hs, s3, g]
    · rw [if_neg (fun h' => hj h'.1)] at h
      cases h
      refine ⟨5, (3, 0), (1, b), fu + 1, fun M => ?_, by omega, by omega, hn0, by simp only; omega, hj0⟩
      exact seg13n a b l s n i j fu x7 x8 mp ⟨hf0, by omega⟩ hj M

theorem outer_left {a b l s : Int} {m : Nat} {i n : Int} {mp : List En} {r : Int × List En} (h : outerP a b l s m i n true mp = some r) : r = (n, mp) := by
  cases m with
  | zero => cases h
  | succ m =>
    unfold outerP at h
    rw [if_neg (by simp)] at h
    exact (Option.some.inj h).symm
theorem outer_run {a b l s : Int} (ha : a ≤ 10) (hb0 : 0 ≤ b) (hb : b ≤ 10) {r : Int × List En} {w : List En} (hw : putC r.2 0 r.1 = some w) : ∀ (m : Nat) (i n fu : Int) (x6 x7 x8 : En) (mp : List En), outerP a b l s m i n false mp = some r → 1 ≤ i → i ≤ 1000 → 0 ≤ n → n ≤ 20 * (i - 1) → 0 ≤ fu → fu ≤ 1 + 20 * (i - 1) → (i ≤ a ∨ i ≤ 11) →
    ∃ (K : Nat) (s' : PS), runP code3 K ⟨3, R3 a b l s n (i - 1) x6 x7 x8, fu, mp⟩ = some s' ∧ s'.mp = w := by
  intro m
  induction m with
  | zero => intro i n fu x6 x7 x8 mp h; cases h
  | succ m ih =>
    intro i n fu x6 x7 x8 mp h hi hi2 hn0 hn1 hf0 hf1 hi3
    have hi11 : i ≤ 11 := by omega
    unfold outerP at h
    by_cases hia : i ≤ a
    · rw [if_pos ⟨hia, rfl⟩] at h
      obtain ⟨q, hq, h⟩ := Option.bind_eq_some_iff.1 h
      have s1 := fun M => seg3y a b l s n (i - 1) fu x6 x7 x8 mp ⟨hf0, by omega⟩ (by omega) (by omega) (by omega) M
      rw [show i - 1 + 1 = i by omega] at s1
      obtain ⟨K, y7, y8, fu', g, f1, f2, f3, f4, f5⟩ := inner_run (a := a) (s := s) (l := l) (mp := mp) (by omega : 0 ≤ i) (by omega) (by omega : b ≤ 100) 20 0 n (fu + 1) (1, 1) x8 hq (by omega) hb0 hn0 (by omega) (by omega) (by omega)
      obtain ⟨qj, qn, ql, qs⟩ := q
      simp only at g f1 f2 f3 f4 f5 h
      cases ql with
      | true =>
        rw [if_neg (by simp)] at h
        have e := outer_left h
        subst e
        refine ⟨4 + K + 10, ⟨51, R3 a b l s qn i (1, 0) (1, qn) y8, fu', w⟩, ?_, rfl⟩
        rw [s1, g]
        exact seg47 a b l s qn i fu' _ _ _ mp w hw
      | false =>
      cases qs with
      | true =>
        rw [if_neg (by simp)] at h
        obtain ⟨K2, s', g2, e2⟩ := ih (i + 1) qn fu' (1, qj) y7 y8 mp h (by omega) (by omega) f3 (by omega) f1 (by omega) (by omega)
        rw [show i + 1 - 1 = i by omega] at g2
        exact ⟨K2 + K + 10, s', by rw [s1, g]; exact g2, e2⟩
      | false =>
        rw [if_pos ⟨rfl, rfl⟩] at h
        obtain ⟨mp', hp, h⟩ := Option.bind_eq_some_iff.1 h
        obtain ⟨K2, s', g2, e2⟩ := ih (i + 1) qn fu' (1, qj) (1, i) (1, qj) mp' h (by omega) (by omega) f3 (by omega) f1 (by omega) (by omega)
        rw [show i + 1 - 1 = i by omega] at g2
        have s4 := fun M => seg43 a b l s qn i qj fu' y7 y8 mp mp' hp M
        exact ⟨K2 + 4 + K + 10, s', by rw [s1, g]; exact (s4 K2).trans g2, e2⟩
    · rw [if_neg (fun h' => hia h'.1)] at h
      cases h
      refine ⟨4 + 5, ⟨51, R3 a b l s n (i - 1) (1, 0) (1, n) x8, fu + 1, w⟩, ?_, rfl⟩
      rw [seg3n a b l s n (i - 1) fu x6 x7 x8 mp ⟨hf0, by omega⟩ (by omega)]
      exact seg47 a b l s n (i - 1) (fu + 1) _ _ _ mp w hw

/-! the law's own loops end -/
theorem inner_some {b l s i : Int} : ∀ (q : Nat) (j n : Int) (left sk : Bool), (1 ≤ q ∧ b - j + 1 ≤ q) → ∃ r, innerP b l s i q j n left sk = some r := by
  intro q
  induction q with
  | zero => intro j n left sk h; omega
  | succ q ih =>
    intro j n left sk h
    unfold innerP
    split
    · rename_i hc
      split
      · exact ih _ _ _ _ ⟨by omega, by omega⟩
      · split
        · exact ih _ _ _ _ ⟨by omega, by omega⟩
        · exact ih _ _ _ _ ⟨by omega, by omega⟩
    · exact ⟨_, rfl⟩
theorem idx_all {k : Int} : ∀ {l : List En}, (∀ e ∈ l, e.1 < k) → idx l k = l.length := by
  intro l
  induction l with
  | nil => intro _; rfl
  | cons x l ih =>
    intro h
    unfold idx
    rw [if_pos (h x (List.mem_cons_self ..)), ih fun e he => h e (List.mem_cons_of_mem _ he)]
    rfl
theorem putC_end {l : List En} {k v : Int} (h : ∀ e ∈ l, e.1 < k) (hl : l.length < 24) : putC l k v = some (l ++ [(k, v)]) := by
  have e := idx_all h
  unfold putC putL
  rw [e, if_pos ⟨hl, by unfold isAt; rw [List.getElem?_eq_none (Nat.le_refl _)]⟩]
  simp
theorem putC_front {l : List En} {v : Int} (h : ∀ e ∈ l, 1 ≤ e.1) (hl : l.length < 24) : ∃ w, putC l 0 v = some w := by
  have hna : isAt l (idx l 0) 0 = false := by
    cases l with
    | nil => rfl
    | cons x l =>
      have hx := h x (List.mem_cons_self ..)
      unfold idx
      rw [if_neg (by omega)]
      show (x.1 == 0) = false
      rw [beq_eq_false_iff_ne]; omega
  exact ⟨_, if_pos ⟨hl, hna⟩⟩
theorem outer_some {a b l s : Int} (ha : a ≤ 10) (hb : b ≤ 10) : ∀ (m : Nat) (i n : Int) (left : Bool) (mp : List En), (1 ≤ m ∧ a - i + 2 ≤ m) → 1 ≤ i → i ≤ 12 → (∀ e ∈ mp, 1 ≤ e.1 ∧ e.1 < i) → (mp.length : Int) < i → ∃ r, outerP a b l s m i n left mp = some r ∧ (∀ e ∈ r.2, 1 ≤ e.1) ∧ r.2.length < 24 := by
  intro m
  induction m with
  | zero => intro i n left mp h; omega
  | succ m ih =>
    intro i n left mp h hi hi2 hk hl
    unfold outerP
    split
    · rename_i hc
      obtain ⟨q, hq⟩ := inner_some (b := b) (l := l) (s := s) (i := i) 20 0 n left false ⟨by omega, by omega⟩
      rw [hq]
      simp only [Option.bind_some]
      split
      · rw [putC_end (fun e he => (hk e he).2) (by omega)]
        simp only [Option.bind_some]
        refine ih _ _ _ _ ⟨by omega, by omega⟩ (by omega) (by omega) (fun e he => ?_) (by rw [List.length_append, List.length_singleton]; omega)
        rcases List.mem_append.1 he with he | he
        · have := hk e he; omega
        · simp at he; subst he; simp only; omega
      · exact ih _ _ _ _ ⟨by omega, by omega⟩ (by omega) (by omega) (fun e he => by have := hk e he; omega) (by omega)
    · exact ⟨_, rfl, fun e he => (hk e he).1, by simp only; omega⟩

/-- all together -/
theorem plain3 {a b l s : Int} (ha0 : 0 ≤ a) (ha : a ≤ 10) (hb0 : 0 ≤ b) (hb : b ≤ 10) : ∃ (k : Nat) (s' : PS) (r : Int × List En), runP code3 k (startP a b l s) = some s' ∧ outerP a b l s 20 1 0 false [] = some r ∧ putC r.2 0 r.1 = some s'.mp := by
  obtain ⟨r, h1, h2, h3⟩ := outer_some (a := a) (b := b) (l := l) (s := s) ha hb 20 1 0 false [] ⟨by omega, by omega⟩ (by omega) (by omega) (fun e he => by cases he) (by simp)
  obtain ⟨w, hw⟩ := putC_front (v := r.1) h2 h3
  obtain ⟨K, s', g, e⟩ := outer_run ha hb0 hb hw 20 1 0 1 (0, 0) (0, 0) (0, 0) [] h1 (by omega) (by omega) (by omega) (by omega) (by omega) (by omega) (by omega)
  refine ⟨K + 3, s', r, ?_, h1, by rw [hw, e]⟩
  rw [seg0]
  exact g
end Go.Proofs.YtfgbeecipklkdaaGreat

