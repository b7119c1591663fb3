/-
  The walk through LowerLoops: what its functions do to memory, part Vn4. Nothing is asked.
-/
import Derived.Test.YtfgbeecipklkdaaGreatVn3
set_option linter.all false
namespace Go.Proofs.YtfgbeecipklkdaaGreat
open Go Go.Ag
set_option linter.unusedVariables false
set_option maxRecDepth 100000

theorem AtOp.upd {E : Env} {s : PS} {op : MOp} {T T' : FT} {S : MS} (h : AtOp E s op T S) (hT : ∀ i, i < 110 → T'.get i = T.get i) : AtOp E s op T' S := by
  obtain ⟨mm, ⟨t0, t4, t6, t7, t8, t9⟩, ⟨ob, hob, t10, mob⟩, t73⟩ := h
  exact ⟨mm, ⟨(hT _ (by decide)).trans t0, (hT _ (by decide)).trans t4, (hT _ (by decide)).trans t6, (hT _ (by decide)).trans t7, (hT _ (by decide)).trans t8, (hT _ (by decide)).trans t9⟩, ⟨ob, hob, (hT _ (by decide)).trans t10, mob⟩, (hT _ (by decide)).trans t73⟩
/-- one question of the switch -/
theorem lev {O : Hook} {E : Env} {s : PS} {op : MOp} {r t1 t2 : Nat} {c : Int} {A B : Code} (hreg : ∀ {T : FT} {S : MS} {Q : FT → MS → Prop}, mOps Tryz.prog O 555 (ro 82 r).toList (ro 82 r).toList [] T S Q = (∃ p0, abin Tryz.prog .eql 3 (.tmp 73) (.const (.int .i64 c)) (T.get 73) (.int .i64 c) = some p0 ∧ Q ((T.set p0 t1).set p0 t2) S)) (h1 : 110 ≤ t1) (h2 : 110 ≤ t2) {T : FT} {S : MS} {Q : AExit → FT → MS → Prop} (h : AtOp E s op T S)
    (hy : op.c = c → ∀ T', AtOp E s op T' S → MWp Tryz.prog O 555 A T' S Q) (hn : op.c ≠ c → ∀ T', AtOp E s op T' S → MWp Tryz.prog O 555 B T' S Q) : MWp Tryz.prog O 555 (.seq (.region r (ro 82 r) false) (.cond (.tmp t2) A B)) T S Q := by
  have up : ∀ v, AtOp E s op ((T.set v t1).set v t2) S := fun v => h.upd fun i hi => by rw [FT.get_set, if_neg (by omega), FT.get_set, if_neg (by omega)]
  refine m_seq (m_reg ?_)
  rw [hreg]
  refine ⟨_, by rw [h.t73, abin_eql], ?_⟩
  refine m_cond (t := op.c == c) (by show FT.get _ t2 = _; rw [FT.get_set, if_pos rfl]) (fun e => hy (by simpa using e) _ (up _)) (fun e => hn (by simpa using e) _ (up _))
theorem reg_ia {E : Env} {n : Nat} {a : Nat} (h : a < n) (b : Nat) : iaSS 5 (.slice (some ⟨b, 0, none⟩) n n) (.int .i64 (a : Int)) = some (.pointer (some ⟨b, a * 5, none⟩)) := by
  rw [iaSS_of (by omega) (by omega), Int.toNat_natCast, Nat.zero_add]
theorem MM.reg {E : Env} {s : PS} {S : MS} (h : MM E s S) {a : Nat} {e : En} (ha : s.regs[a]? = some e) : ldS (some 5) S (.pointer (some ⟨E.S0.n + 2, a * 5, none⟩)) = some (vN e.1 e.2) := fm_load lP_len h.rb ha
theorem MM.reg1 {E : Env} {s : PS} {S : MS} (h : MM E s S) {a : Nat} {e : En} (ha : s.regs[a]? = some e) : ldS none S (.pointer (some ⟨E.S0.n + 2, a * 5 + 1, none⟩)) = some (.int .i64 e.2) := by
  rw [ldS_ptr, list_of h.rb]
  exact fm_get lP_len ha (by decide)
theorem MM.setReg {E : Env} {s : PS} {S : MS} (ok : EnvOk E) (h : MM E s S) {d : Nat} (hd : d < s.regs.length) (e : En) :
    ∃ S1, stS 5 S (.pointer (some ⟨E.S0.n + 2, d * 5, none⟩)) (vN e.1 e.2) = some S1 ∧ MM E { s with regs := s.regs.set d e } S1 ∧ S1.n = S.n ∧ ∀ y, y ≠ E.S0.n + 2 → S1.m y = S.m y := by
  have hn := h.n
  have h1 := ok.mbn
  have h2 := ok.wbn
  obtain ⟨st, row, most, hm⟩ := h.mach
  obtain ⟨mv, hw, hs⟩ := h.world
  obtain ⟨S1, e1, g1, n1, k1⟩ := fm_store lP_len lP_one (x := e) h.rb hd
  refine ⟨S1, e1, ⟨by omega, fun y hy a b => (k1 y (by omega)).trans (h.lo y hy a b), (k1 _ (by omega)).trans h.fb, (k1 _ (by omega)).trans h.rc, g1, ⟨st, row, most, (k1 _ (by omega)).trans hm⟩, mv, ⟨hw.l4, (k1 _ (by omega)).trans hw.m⟩, ?_⟩, n1, k1⟩
  refine hs.keepE (by omega) fun y l es he hy => k1 y fun e => ?_
  subst e
  have := h.rb
  rw [this] at hy
  cases hy
  rcases he with h | h <;> cases h
theorem opD {op : MOp} : (opL op)[1]? = some (.int .i64 op.d) := rfl
theorem opA {op : MOp} : (opL op)[2]? = some (.int .i64 op.a) := rfl
theorem opB {op : MOp} : (opL op)[3]? = some (.int .i64 op.b) := rfl
theorem opK {op : MOp} : (opL op)[4]? = some (.int .i64 op.k) := rfl
theorem op0 {op : MOp} : (opL op)[0]? = some (.int .i64 op.c) := rfl
theorem lt_of_some {α : Type} {l : List α} {i : Nat} {x : α} (h : l[i]? = some x) : i < l.length := (List.getElem?_eq_some_iff.1 h).1
theorem veq_self {k : IntKind} {n : Int} : (if veq (.int k n) (.int k n) = true then some (Value.int k n) else none) = some (.int k n) := by rw [veq_int]; rfl

theorem op_jump {O : Hook} (hO : Fr O) {E : Env} (ok : EnvOk E) {s : PS} {op : MOp} (hc : op.c = 38) {k : Nat} (hk : op.k = (k : Int)) {T : FT} {S : MS} (h : AtOp E s op T S) {Q : AExit → FT → MS → Prop}
    (hq : ∀ T' S', MM E ({ s with pc := k }) S' → MT E ({ s with pc := k }) T' → Q .normal T' S') : MWp Tryz.prog O 555 blk82_2 T S Q := by
  refine m_wf fun wf => m_block ?_
  refine lev reg82_19 (by decide) (by decide) h (fun e => absurd (hc.symm.trans e) (by decide)) (fun _ T h => ?_)
  refine lev reg82_21 (by decide) (by decide) h (fun e => absurd (hc.symm.trans e) (by decide)) (fun _ T h => ?_)
  refine lev reg82_23 (by decide) (by decide) h (fun e => absurd (hc.symm.trans e) (by decide)) (fun _ T h => ?_)
  refine lev reg82_25 (by decide) (by decide) h (fun e => absurd (hc.symm.trans e) (by decide)) (fun _ T h => ?_)
  refine lev reg82_27 (by decide) (by decide) h (fun e => absurd (hc.symm.trans e) (by decide)) (fun _ T h => ?_)
  refine lev reg82_30 (by decide) (by decide) h (fun e => absurd (hc.symm.trans e) (by decide)) (fun _ T h => ?_)
  refine lev reg82_32 (by decide) (by decide) h (fun e => absurd (hc.symm.trans e) (by decide)) (fun _ T h => ?_)
  refine lev reg82_34 (by decide) (by decide) h (fun e => absurd (hc.symm.trans e) (by decide)) (fun _ T h => ?_)
  refine lev reg82_37 (by decide) (by decide) h (fun e => absurd (hc.symm.trans e) (by decide)) (fun _ T h => ?_)
  refine lev reg82_40 (by decide) (by decide) h (fun e => absurd (hc.symm.trans e) (by decide)) (fun _ T h => ?_)
  refine lev reg82_42 (by decide) (by decide) h (fun e => absurd (hc.symm.trans e) (by decide)) (fun _ T h => ?_)
  refine lev reg82_50 (by decide) (by decide) h (fun e => absurd (hc.symm.trans e) (by decide)) (fun _ T h => ?_)
  refine lev reg82_60 (by decide) (by decide) h (fun e => absurd (hc.symm.trans e) (by decide)) (fun _ T h => ?_)
  refine lev reg82_65 (by decide) (by decide) h (fun e => absurd (hc.symm.trans e) (by decide)) (fun _ T h => ?_)
  refine lev reg82_68 (by decide) (by decide) h (fun e => absurd (hc.symm.trans e) (by decide)) (fun _ T h => ?_)
  refine lev reg82_73 (by decide) (by decide) h (fun e => absurd (hc.symm.trans e) (by decide)) (fun _ T h => ?_)
  refine lev reg82_76 (by decide) (by decide) h (fun e => absurd (hc.symm.trans e) (by decide)) (fun _ T h => ?_)
  refine lev reg82_79 (by decide) (by decide) h (fun e => absurd (hc.symm.trans e) (by decide)) (fun _ T h => ?_)
  refine lev reg82_81 (by decide) (by decide) h (fun _ T h => ?_) (fun e => absurd hc e)
  obtain ⟨mm, ⟨t0, t4, t6, t7, t8, t9⟩, ⟨ob, hob, t10, mob⟩, t73⟩ := h
  have lop : S.list ob = some (opL op) := by rw [list_of mob, list_cells]
  refine m_reg ?_
  rw [reg82_82]
  simp (decide := true) only [SV, Option.some.injEq, Prod.mk.injEq, Value.bool.injEq, exists_eq_left', exists_and_left, and_assoc, decide_eq_true_eq, decide_eq_false_iff_not, if_true, if_false, Nat.zero_add, Nat.add_zero, Option.bind_some, true_and, and_true, forall_const, true_implies, Bool.not_eq_true, Bool.false_eq_true, false_implies, ite_self, Nat.mul_one, t10, lop, opK]
  rw [hk]
  exact hq _ _ ⟨mm.n, mm.lo, mm.fb, mm.rc, mm.rb, mm.mach, mm.world⟩ ⟨by simp [SV, t0], by simp [SV, t4], by simp [SV, t6], by simp [SV, t7], by simp [SV, t8], by simp [SV]⟩

theorem op_unless {O : Hook} (hO : Fr O) {E : Env} (ok : EnvOk E) {s : PS} {op : MOp} (hc : op.c = 39) {a k : Nat} {e : En} (ha : op.a = (a : Int)) (hk : op.k = (k : Int)) (he : s.regs[a]? = some e) {T : FT} {S : MS} (h : AtOp E s op T S) {Q : AExit → FT → MS → Prop}
    (hq : ∀ T' S', MM E ({ s with pc := if e.2 = 1 then s.pc else k }) S' → MT E ({ s with pc := if e.2 = 1 then s.pc else k }) T' → Q .normal T' S') : MWp Tryz.prog O 555 blk82_2 T S Q := by
  refine m_wf fun wf => m_block ?_
  refine lev reg82_19 (by decide) (by decide) h (fun e => absurd (hc.symm.trans e) (by decide)) (fun _ T h => ?_)
  refine lev reg82_21 (by decide) (by decide) h (fun e => absurd (hc.symm.trans e) (by decide)) (fun _ T h => ?_)
  refine lev reg82_23 (by decide) (by decide) h (fun e => absurd (hc.symm.trans e) (by decide)) (fun _ T h => ?_)
  refine lev reg82_25 (by decide) (by decide) h (fun e => absurd (hc.symm.trans e) (by decide)) (fun _ T h => ?_)
  refine lev reg82_27 (by decide) (by decide) h (fun e => absurd (hc.symm.trans e) (by decide)) (fun _ T h => ?_)
  refine lev reg82_30 (by decide) (by decide) h (fun e => absurd (hc.symm.trans e) (by decide)) (fun _ T h => ?_)
  refine lev reg82_32 (by decide) (by decide) h (fun e => absurd (hc.symm.trans e) (by decide)) (fun _ T h => ?_)
  refine lev reg82_34 (by decide) (by decide) h (fun e => absurd (hc.symm.trans e) (by decide)) (fun _ T h => ?_)
  refine lev reg82_37 (by decide) (by decide) h (fun e => absurd (hc.symm.trans e) (by decide)) (fun _ T h => ?_)
  refine lev reg82_40 (by decide) (by decide) h (fun e => absurd (hc.symm.trans e) (by decide)) (fun _ T h => ?_)
  refine lev reg82_42 (by decide) (by decide) h (fun e => absurd (hc.symm.trans e) (by decide)) (fun _ T h => ?_)
  refine lev reg82_50 (by decide) (by decide) h (fun e => absurd (hc.symm.trans e) (by decide)) (fun _ T h => ?_)
  refine lev reg82_60 (by decide) (by decide) h (fun e => absurd (hc.symm.trans e) (by decide)) (fun _ T h => ?_)
  refine lev reg82_65 (by decide) (by decide) h (fun e => absurd (hc.symm.trans e) (by decide)) (fun _ T h => ?_)
  refine lev reg82_68 (by decide) (by decide) h (fun e => absurd (hc.symm.trans e) (by decide)) (fun _ T h => ?_)
  refine lev reg82_73 (by decide) (by decide) h (fun e => absurd (hc.symm.trans e) (by decide)) (fun _ T h => ?_)
  refine lev reg82_76 (by decide) (by decide) h (fun e => absurd (hc.symm.trans e) (by decide)) (fun _ T h => ?_)
  refine lev reg82_79 (by decide) (by decide) h (fun e => absurd (hc.symm.trans e) (by decide)) (fun _ T h => ?_)
  refine lev reg82_81 (by decide) (by decide) h (fun e => absurd (hc.symm.trans e) (by decide)) (fun _ T h => ?_)
  refine lev reg82_83 (by decide) (by decide) h (fun _ T h => ?_) (fun e => absurd hc e)
  obtain ⟨mm, ⟨t0, t4, t6, t7, t8, t9⟩, ⟨ob, hob, t10, mob⟩, t73⟩ := h
  have lop : S.list ob = some (opL op) := by rw [list_of mob, list_cells]
  have ia := reg_ia (E := E) (lt_of_some he) (E.S0.n + 2)
  have la : ldS none S (.pointer (some ⟨ob, 2, none⟩)) = some (.int .i64 op.a) := by rw [ldS_ptr, lop]; exact opA
  have lk : ldS none S (.pointer (some ⟨ob, 4, none⟩)) = some (.int .i64 op.k) := by rw [ldS_ptr, lop]; exact opK
  rw [ha] at la
  rw [hk] at lk
  refine m_seq (m_reg ?_)
  rw [reg82_84]
  simp (decide := true) only [FT.get_set, FT.setL, faS_ptr, nilS_ptr, pickS_bool, lenSl_of, cvInt_of, aminmax_max, abin_add, abin_sub, abin_eql, abin_neq, abin_lss, abin_leq, abin_gtr, abin_geq, aunary_not, Option.some.injEq, exists_eq_left', if_true, if_false, Nat.zero_add, Nat.add_zero, ptrTo, t10, la, t8, ia, mm.reg1 he]
  refine m_cond (t := (e.2 != 1)) (by simp [evalT, SV]) (fun hn => m_reg ?_) (fun hn => m_skip ?_)
  · have hne : ¬ e.2 = 1 := by simpa using hn
    rw [reg82_85]
    simp (decide := true) only [FT.get_set, FT.setL, faS_ptr, nilS_ptr, pickS_bool, lenSl_of, cvInt_of, aminmax_max, abin_add, abin_sub, abin_eql, abin_neq, abin_lss, abin_leq, abin_gtr, abin_geq, aunary_not, Option.some.injEq, exists_eq_left', if_true, if_false, Nat.zero_add, Nat.add_zero, ptrTo, t10, lk]
    refine hq _ _ ?_ ?_
    · rw [if_neg hne]; exact ⟨mm.n, mm.lo, mm.fb, mm.rc, mm.rb, mm.mach, mm.world⟩
    · rw [if_neg hne]; exact ⟨by simp [SV, t0], by simp [SV, t4], by simp [SV, t6], by simp [SV, t7], by simp [SV, t8], by simp [SV]⟩
  · have hne : e.2 = 1 := by simpa using hn
    refine hq _ _ ?_ ?_
    · rw [if_pos hne]; exact ⟨mm.n, mm.lo, mm.fb, mm.rc, mm.rb, mm.mach, mm.world⟩
    · rw [if_pos hne]; exact ⟨by simp [SV, t0], by simp [SV, t4], by simp [SV, t6], by simp [SV, t7], by simp [SV, t8], by simp [SV, t9]⟩

theorem op_int {O : Hook} (hO : Fr O) {E : Env} (ok : EnvOk E) {s : PS} {op : MOp} (hc : op.c = 1) {d k : Nat} {n : Int} (hd : op.d = (d : Int)) (hk : op.k = (k : Int)) (hdl : d < s.regs.length) (hn : E.ints[k]? = some n) {T : FT} {S : MS} (h : AtOp E s op T S) {Q : AExit → FT → MS → Prop}
    (hq : ∀ T' S', MM E ({ s with regs := s.regs.set d (1, n) }) S' → MT E ({ s with regs := s.regs.set d (1, n) }) T' → Q .normal T' S') : MWp Tryz.prog O 555 blk82_2 T S Q := by
  refine m_wf fun wf => m_block ?_
  refine lev reg82_19 (by decide) (by decide) h (fun _ T h => ?_) (fun e => absurd hc e)
  obtain ⟨mm, ⟨t0, t4, t6, t7, t8, t9⟩, ⟨ob, hob, t10, mob⟩, t73⟩ := h
  have lop : S.list ob = some (opL op) := by rw [list_of mob, list_cells]
  have ia := reg_ia (E := E) hdl (E.S0.n + 2)
  have ld : ldS none S (.pointer (some ⟨ob, 1, none⟩)) = some (.int .i64 op.d) := by rw [ldS_ptr, lop]; exact opD
  have lk : ldS none S (.pointer (some ⟨ob, 4, none⟩)) = some (.int .i64 op.k) := by rw [ldS_ptr, lop]; exact opK
  rw [hd] at ld
  rw [hk] at lk
  obtain ⟨p, hp1, hp2⟩ := ok.hints S mm.lo _ _ hn
  refine m_draw ?_
  rw [reg82_20]
  simp (decide := true) only [FT.get_set, FT.setL, faS_ptr, nilS_ptr, pickS_bool, lenSl_of, cvInt_of, aminmax_max, abin_add, abin_sub, abin_eql, abin_neq, abin_lss, abin_leq, abin_gtr, abin_geq, aunary_not, Option.some.injEq, exists_eq_left', if_true, if_false, Nat.zero_add, Nat.add_zero, ptrTo, t0, t10, lk, mm.rdi ok, hp1, hp2]
  have obn := wf _ _ mob
  refine num10 hO fun S1 f1 => ?_
  have ld1 : ldS none S1 (.pointer (some ⟨ob, 1, none⟩)) = some (.int .i64 (d : Int)) := by
    rw [ldS_ptr] at ld ⊢
    unfold MS.list at ld ⊢
    rw [f1.2 _ obn]; exact ld
  have mm1 := mm.old ok wf f1
  simp (decide := true) only [FT.get_set, FT.setL, faS_ptr, nilS_ptr, pickS_bool, lenSl_of, cvInt_of, aminmax_max, abin_add, abin_sub, abin_eql, abin_neq, abin_lss, abin_leq, abin_gtr, abin_geq, aunary_not, Option.some.injEq, exists_eq_left', if_true, if_false, Nat.zero_add, Nat.add_zero, ptrTo, t8, t10, ld, ld1, Option.bind_some, veq_self, ia]
  obtain ⟨S2, e2, mm2, n2, k2⟩ := mm1.setReg ok hdl (1, n)
  refine ⟨S2, e2, ?_⟩
  exact hq _ _ mm2 ⟨by simp [SV, t0], by simp [SV, t4], by simp [SV, t6], by simp [SV, t7], by simp [SV, t8, List.length_set], by simp [SV, t9]⟩

theorem op_move {O : Hook} (hO : Fr O) {E : Env} (ok : EnvOk E) {s : PS} {op : MOp} (hc : op.c = 4) {d a : Nat} {e : En} (hd : op.d = (d : Int)) (ha : op.a = (a : Int)) (hdl : d < s.regs.length) (he : s.regs[a]? = some e) {T : FT} {S : MS} (h : AtOp E s op T S) {Q : AExit → FT → MS → Prop}
    (hq : ∀ T' S', MM E ({ s with regs := s.regs.set d e }) S' → MT E ({ s with regs := s.regs.set d e }) T' → Q .normal T' S') : MWp Tryz.prog O 555 blk82_2 T S Q := by
  refine m_wf fun wf => m_block ?_
  refine lev reg82_19 (by decide) (by decide) h (fun e => absurd (hc.symm.trans e) (by decide)) (fun _ T h => ?_)
  refine lev reg82_21 (by decide) (by decide) h (fun e => absurd (hc.symm.trans e) (by decide)) (fun _ T h => ?_)
  refine lev reg82_23 (by decide) (by decide) h (fun e => absurd (hc.symm.trans e) (by decide)) (fun _ T h => ?_)
  refine lev reg82_25 (by decide) (by decide) h (fun _ T h => ?_) (fun e => absurd hc e)
  obtain ⟨mm, ⟨t0, t4, t6, t7, t8, t9⟩, ⟨ob, hob, t10, mob⟩, t73⟩ := h
  have lop : S.list ob = some (opL op) := by rw [list_of mob, list_cells]
  have ia := reg_ia (E := E) hdl (E.S0.n + 2)
  have ib := reg_ia (E := E) (lt_of_some he) (E.S0.n + 2)
  have ld : ldS none S (.pointer (some ⟨ob, 1, none⟩)) = some (.int .i64 op.d) := by rw [ldS_ptr, lop]; exact opD
  have la : ldS none S (.pointer (some ⟨ob, 2, none⟩)) = some (.int .i64 op.a) := by rw [ldS_ptr, lop]; exact opA
  rw [hd] at ld
  rw [ha] at la
  refine m_draw ?_
  rw [reg82_26]
  simp (decide := true) only [FT.get_set, FT.setL, faS_ptr, nilS_ptr, pickS_bool, lenSl_of, cvInt_of, aminmax_max, abin_add, abin_sub, abin_eql, abin_neq, abin_lss, abin_leq, abin_gtr, abin_geq, aunary_not, Option.some.injEq, exists_eq_left', if_true, if_false, Nat.zero_add, Nat.add_zero, ptrTo, t10, t8, ld, la, ia, ib, mm.reg he]
  obtain ⟨S2, e2, mm2, n2, k2⟩ := mm.setReg ok hdl e
  refine ⟨S2, e2, ?_⟩
  exact hq _ _ mm2 ⟨by simp [SV, t0], by simp [SV, t4], by simp [SV, t6], by simp [SV, t7], by simp [SV, t8, List.length_set], by simp [SV, t9]⟩

theorem op_charge {O : Hook} (hO : Fr O) {E : Env} (ok : EnvOk E) {s : PS} {op : MOp} (hc : op.c = 35) (h0 : 0 ≤ s.fu) (h4 : s.fu < 400) {T : FT} {S : MS} (h : AtOp E s op T S) {Q : AExit → FT → MS → Prop}
    (hq : ∀ T' S', MM E ({ s with fu := s.fu + 1 }) S' → MT E ({ s with fu := s.fu + 1 }) T' → Q .normal T' S') : MWp Tryz.prog O 555 blk82_2 T S Q := by
  refine m_wf fun wf => m_block ?_
  refine lev reg82_19 (by decide) (by decide) h (fun e => absurd (hc.symm.trans e) (by decide)) (fun _ T h => ?_)
  refine lev reg82_21 (by decide) (by decide) h (fun e => absurd (hc.symm.trans e) (by decide)) (fun _ T h => ?_)
  refine lev reg82_23 (by decide) (by decide) h (fun e => absurd (hc.symm.trans e) (by decide)) (fun _ T h => ?_)
  refine lev reg82_25 (by decide) (by decide) h (fun e => absurd (hc.symm.trans e) (by decide)) (fun _ T h => ?_)
  refine lev reg82_27 (by decide) (by decide) h (fun e => absurd (hc.symm.trans e) (by decide)) (fun _ T h => ?_)
  refine lev reg82_30 (by decide) (by decide) h (fun e => absurd (hc.symm.trans e) (by decide)) (fun _ T h => ?_)
  refine lev reg82_32 (by decide) (by decide) h (fun e => absurd (hc.symm.trans e) (by decide)) (fun _ T h => ?_)
  refine lev reg82_34 (by decide) (by decide) h (fun e => absurd (hc.symm.trans e) (by decide)) (fun _ T h => ?_)
  refine lev reg82_37 (by decide) (by decide) h (fun e => absurd (hc.symm.trans e) (by decide)) (fun _ T h => ?_)
  refine lev reg82_40 (by decide) (by decide) h (fun e => absurd (hc.symm.trans e) (by decide)) (fun _ T h => ?_)
  refine lev reg82_42 (by decide) (by decide) h (fun e => absurd (hc.symm.trans e) (by decide)) (fun _ T h => ?_)
  refine lev reg82_50 (by decide) (by decide) h (fun e => absurd (hc.symm.trans e) (by decide)) (fun _ T h => ?_)
  refine lev reg82_60 (by decide) (by decide) h (fun e => absurd (hc.symm.trans e) (by decide)) (fun _ T h => ?_)
  refine lev reg82_65 (by decide) (by decide) h (fun e => absurd (hc.symm.trans e) (by decide)) (fun _ T h => ?_)
  refine lev reg82_68 (by decide) (by decide) h (fun e => absurd (hc.symm.trans e) (by decide)) (fun _ T h => ?_)
  refine lev reg82_73 (by decide) (by decide) h (fun _ T h => ?_) (fun e => absurd hc e)
  obtain ⟨mm, ⟨t0, t4, t6, t7, t8, t9⟩, ⟨ob, hob, t10, mob⟩, t73⟩ := h
  have lop : S.list ob = some (opL op) := by rw [list_of mob, list_cells]
  obtain ⟨mv, hw, hs⟩ := mm.world
  refine m_seq (m_reg ?_)
  rw [reg82_74]
  simp (decide := true) only [FT.get_set, FT.setL, faS_ptr, nilS_ptr, pickS_bool, lenSl_of, cvInt_of, aminmax_max, abin_add, abin_sub, abin_eql, abin_neq, abin_lss, abin_leq, abin_gtr, abin_geq, aunary_not, Option.some.injEq, exists_eq_left', if_true, if_false, Nat.zero_add, Nat.add_zero, ptrTo, t0, mm.rdw ok]
  refine charge168 hO hw.m (wL_len hw.l4) (wL_at hw.l4 10) h0 h4 fun S1 n1 g1 k1 => ?_
  refine m_cond (t := false) (by simp [evalT, SV]) (fun h => by cases h) (fun _ => m_skip ?_)
  have hn := mm.n
  have h1 := ok.mbn
  have h2 := ok.wbn
  obtain ⟨st, row, most, hm⟩ := mm.mach
  refine hq _ _ ⟨by omega, fun y hy a b => (k1 y b).trans (mm.lo y hy a b), (k1 _ (by omega)).trans mm.fb, (k1 _ (by omega)).trans mm.rc, (k1 _ (by omega)).trans mm.rb, ⟨st, row, most, (k1 _ ok.ne).trans hm⟩, mv, ⟨hw.l4, ?_⟩, ?_⟩ ⟨by simp [SV, t0], by simp [SV, t4], by simp [SV, t6], by simp [SV, t7], by simp [SV, t8], by simp [SV, t9]⟩
  · rw [g1]; exact congrArg (fun l => some (K.cells l 0)) (wL_set hw.l4 10 _)
  · refine hs.keepE (by omega) fun y l es he hy => k1 y fun e => ?_
    subst e
    rw [hw.m] at hy
    cases hy
    rcases he with h | h <;> cases h

theorem op_put {O : Hook} (hO : Fr O) {E : Env} (ok : EnvOk E) {s : PS} {op : MOp} (hc : op.c = 28) {a b : Nat} {x y : Int} (hk : op.k = 0) (ha : op.a = (a : Int)) (hb : op.b = (b : Int)) (hx : s.regs[a]? = some (1, x)) (hy : s.regs[b]? = some (1, y)) (hlen : s.mp.length < 24) (hna : isAt s.mp (idx s.mp x) x = false) {T : FT} {S : MS} (h : AtOp E s op T S) {Q : AExit → FT → MS → Prop}
    (hq : ∀ T' S', MM E ({ s with mp := putL s.mp x y }) S' → MT E ({ s with mp := putL s.mp x y }) T' → Q .normal T' S') : MWp Tryz.prog O 555 blk82_2 T S Q := by
  refine m_wf fun wf => m_block ?_
  refine lev reg82_19 (by decide) (by decide) h (fun e => absurd (hc.symm.trans e) (by decide)) (fun _ T h => ?_)
  refine lev reg82_21 (by decide) (by decide) h (fun e => absurd (hc.symm.trans e) (by decide)) (fun _ T h => ?_)
  refine lev reg82_23 (by decide) (by decide) h (fun e => absurd (hc.symm.trans e) (by decide)) (fun _ T h => ?_)
  refine lev reg82_25 (by decide) (by decide) h (fun e => absurd (hc.symm.trans e) (by decide)) (fun _ T h => ?_)
  refine lev reg82_27 (by decide) (by decide) h (fun e => absurd (hc.symm.trans e) (by decide)) (fun _ T h => ?_)
  refine lev reg82_30 (by decide) (by decide) h (fun e => absurd (hc.symm.trans e) (by decide)) (fun _ T h => ?_)
  refine lev reg82_32 (by decide) (by decide) h (fun e => absurd (hc.symm.trans e) (by decide)) (fun _ T h => ?_)
  refine lev reg82_34 (by decide) (by decide) h (fun e => absurd (hc.symm.trans e) (by decide)) (fun _ T h => ?_)
  refine lev reg82_37 (by decide) (by decide) h (fun _ T h => ?_) (fun e => absurd hc e)
  obtain ⟨mm, ⟨t0, t4, t6, t7, t8, t9⟩, ⟨ob, hob, t10, mob⟩, t73⟩ := h
  have lop : S.list ob = some (opL op) := by rw [list_of mob, list_cells]
  have ia := reg_ia (E := E) (lt_of_some hx) (E.S0.n + 2)
  have ib := reg_ia (E := E) (lt_of_some hy) (E.S0.n + 2)
  have la : ldS none S (.pointer (some ⟨ob, 2, none⟩)) = some (.int .i64 op.a) := by rw [ldS_ptr, lop]; exact opA
  have lb : ldS none S (.pointer (some ⟨ob, 3, none⟩)) = some (.int .i64 op.b) := by rw [ldS_ptr, lop]; exact opB
  have lk : ldS none S (.pointer (some ⟨ob, 4, none⟩)) = some (.int .i64 op.k) := by rw [ldS_ptr, lop]; exact opK
  rw [ha] at la
  rw [hb] at lb
  rw [hk] at lk
  have rx := mm.reg hx
  have ry := mm.reg hy
  obtain ⟨mv, hw, hs⟩ := mm.world
  refine m_seq (m_draw ?_)
  rw [reg82_38]
  simp (decide := true) only [FT.get_set, FT.setL, faS_ptr, nilS_ptr, pickS_bool, lenSl_of, cvInt_of, aminmax_max, abin_add, abin_sub, abin_eql, abin_neq, abin_lss, abin_leq, abin_gtr, abin_geq, aunary_not, Option.some.injEq, exists_eq_left', if_true, if_false, Nat.zero_add, Nat.add_zero, ptrTo, t0, t10, t8, la, lb, lk, ia, ib, rx, ry, mm.rdw ok]
  refine put160 hO wf hw hs hlen hna fun mv' S1 wf1 n1 k1 w1 s1 => ?_
  refine m_cond (t := false) (by simp [evalT, SV]) (fun h => by cases h) (fun _ => m_skip ?_)
  have hn := mm.n
  have h1 := ok.mbn
  have h2 := ok.wbn
  obtain ⟨st, row, most, hm⟩ := mm.mach
  exact hq _ _ ⟨by omega, fun y hy a b => (k1 y (by omega) b).trans (mm.lo y hy a b), (k1 _ (by omega) (by omega)).trans mm.fb, (k1 _ (by omega) (by omega)).trans mm.rc, (k1 _ (by omega) (by omega)).trans mm.rb, ⟨st, row, most, (k1 _ (by omega) ok.ne).trans hm⟩, mv', w1, s1⟩ ⟨by simp [SV, t0], by simp [SV, t4], by simp [SV, t6], by simp [SV, t7], by simp [SV, t8], by simp [SV, t9]⟩

/-- what a run leaves -/
structure MEnd (E : Env) (s : PS) (S : MS) : Prop where
  n : E.S0.n ≤ S.n
  lo : Lo E S
  mach : ∃ st row most : Int, S.m E.mb = some (.cells (mL E st row most) 0)
  world : ∃ mv, IsW S E.wb E.pr mv E.dp E.em s.fu ∧ IsSt S mv s.mp

theorem op_ret {O : Hook} (hO : Fr O) {E : Env} (ok : EnvOk E) {s : PS} {op : MOp} (hc : op.c = 40) (ha : op.a < 0) {T : FT} {S : MS} (h : AtOp E s op T S) {Q : AExit → FT → MS → Prop}
    (hq : ∀ T' S', MEnd E s S' → T'.get 6 = .pointer (some ⟨E.S0.n + 1, 0, none⟩) → T'.get 7 = .bool false → S'.m (E.S0.n + 1) = some (.cells zN 0) → Q .ret T' S') : MWp Tryz.prog O 555 blk82_2 T S Q := by
  refine m_wf fun wf => m_block ?_
  refine lev reg82_19 (by decide) (by decide) h (fun e => absurd (hc.symm.trans e) (by decide)) (fun _ T h => ?_)
  refine lev reg82_21 (by decide) (by decide) h (fun e => absurd (hc.symm.trans e) (by decide)) (fun _ T h => ?_)
  refine lev reg82_23 (by decide) (by decide) h (fun e => absurd (hc.symm.trans e) (by decide)) (fun _ T h => ?_)
  refine lev reg82_25 (by decide) (by decide) h (fun e => absurd (hc.symm.trans e) (by decide)) (fun _ T h => ?_)
  refine lev reg82_27 (by decide) (by decide) h (fun e => absurd (hc.symm.trans e) (by decide)) (fun _ T h => ?_)
  refine lev reg82_30 (by decide) (by decide) h (fun e => absurd (hc.symm.trans e) (by decide)) (fun _ T h => ?_)
  refine lev reg82_32 (by decide) (by decide) h (fun e => absurd (hc.symm.trans e) (by decide)) (fun _ T h => ?_)
  refine lev reg82_34 (by decide) (by decide) h (fun e => absurd (hc.symm.trans e) (by decide)) (fun _ T h => ?_)
  refine lev reg82_37 (by decide) (by decide) h (fun e => absurd (hc.symm.trans e) (by decide)) (fun _ T h => ?_)
  refine lev reg82_40 (by decide) (by decide) h (fun e => absurd (hc.symm.trans e) (by decide)) (fun _ T h => ?_)
  refine lev reg82_42 (by decide) (by decide) h (fun e => absurd (hc.symm.trans e) (by decide)) (fun _ T h => ?_)
  refine lev reg82_50 (by decide) (by decide) h (fun e => absurd (hc.symm.trans e) (by decide)) (fun _ T h => ?_)
  refine lev reg82_60 (by decide) (by decide) h (fun e => absurd (hc.symm.trans e) (by decide)) (fun _ T h => ?_)
  refine lev reg82_65 (by decide) (by decide) h (fun e => absurd (hc.symm.trans e) (by decide)) (fun _ T h => ?_)
  refine lev reg82_68 (by decide) (by decide) h (fun e => absurd (hc.symm.trans e) (by decide)) (fun _ T h => ?_)
  refine lev reg82_73 (by decide) (by decide) h (fun e => absurd (hc.symm.trans e) (by decide)) (fun _ T h => ?_)
  refine lev reg82_76 (by decide) (by decide) h (fun e => absurd (hc.symm.trans e) (by decide)) (fun _ T h => ?_)
  refine lev reg82_79 (by decide) (by decide) h (fun e => absurd (hc.symm.trans e) (by decide)) (fun _ T h => ?_)
  refine lev reg82_81 (by decide) (by decide) h (fun e => absurd (hc.symm.trans e) (by decide)) (fun _ T h => ?_)
  refine lev reg82_83 (by decide) (by decide) h (fun e => absurd (hc.symm.trans e) (by decide)) (fun _ T h => ?_)
  refine lev reg82_86 (by decide) (by decide) h (fun _ T h => ?_) (fun e => absurd hc e)
  obtain ⟨mm, ⟨t0, t4, t6, t7, t8, t9⟩, ⟨ob, hob, t10, mob⟩, t73⟩ := h
  have lop : S.list ob = some (opL op) := by rw [list_of mob, list_cells]
  have la : ldS none S (.pointer (some ⟨ob, 2, none⟩)) = some (.int .i64 op.a) := by rw [ldS_ptr, lop]; exact opA
  refine m_seq (m_seq (m_reg ?_))
  rw [reg82_87]
  simp (decide := true) only [FT.get_set, FT.setL, faS_ptr, nilS_ptr, pickS_bool, lenSl_of, cvInt_of, aminmax_max, abin_add, abin_sub, abin_eql, abin_neq, abin_lss, abin_leq, abin_gtr, abin_geq, aunary_not, Option.some.injEq, exists_eq_left', if_true, if_false, Nat.zero_add, Nat.add_zero, ptrTo, t10, la]
  refine m_cond (t := true) (by simp [evalT, SV]; try omega) (fun _ => m_seq (m_reg ?_)) (fun h => by cases h)
  rw [reg82_88]
  simp (decide := true) only [FT.get_set, FT.setL, faS_ptr, nilS_ptr, pickS_bool, lenSl_of, cvInt_of, aminmax_max, abin_add, abin_sub, abin_eql, abin_neq, abin_lss, abin_leq, abin_gtr, abin_geq, aunary_not, Option.some.injEq, exists_eq_left', if_true, if_false, Nat.zero_add, Nat.add_zero, ptrTo, t6]
  obtain ⟨S1, e1, g1, n1, k1⟩ := st_all (n := 5) (cs := zN.toArray) mm.rc rfl rfl rfl
  refine ⟨.agg zN.toArray, rfl, S1, e1, m_ret ?_⟩
  have hn := mm.n
  have h1 := ok.mbn
  have h2 := ok.wbn
  obtain ⟨st, row, most, hm⟩ := mm.mach
  obtain ⟨mv, hw, hs⟩ := mm.world
  refine hq _ _ ⟨by omega, fun y hy a b => (k1 y (by omega)).trans (mm.lo y hy a b), ⟨st, row, most, (k1 _ (by omega)).trans hm⟩, mv, ⟨hw.l4, (k1 _ (by omega)).trans hw.m⟩, ?_⟩ (by simp [SV, t6]) (by simp [SV]) g1
  refine hs.keepE (by omega) fun y l es he hy => k1 y fun e => ?_
  subst e
  have := mm.rc
  rw [this] at hy
  cases hy
  rcases he with h | h <;> cases h

theorem op_eq {O : Hook} (hO : Fr O) {E : Env} (ok : EnvOk E) {s : PS} {op : MOp} (hc : op.c = 14) {d a b : Nat} {x y : En} (hd : op.d = (d : Int)) (ha : op.a = (a : Int)) (hb : op.b = (b : Int)) (hdl : d < s.regs.length) (hx : s.regs[a]? = some x) (hy : s.regs[b]? = some y) {T : FT} {S : MS} (h : AtOp E s op T S) {Q : AExit → FT → MS → Prop}
    (hq : ∀ T' S', MM E ({ s with regs := s.regs.set d (3, if (cmpI x.1 x.2 y.1 y.2 == 0) = true then 1 else 0) }) S' → MT E ({ s with regs := s.regs.set d (3, if (cmpI x.1 x.2 y.1 y.2 == 0) = true then 1 else 0) }) T' → Q .normal T' S') : MWp Tryz.prog O 555 blk82_2 T S Q := by
  refine m_wf fun wf => m_block ?_
  refine lev reg82_19 (by decide) (by decide) h (fun e => absurd (hc.symm.trans e) (by decide)) (fun _ T h => ?_)
  refine lev reg82_21 (by decide) (by decide) h (fun e => absurd (hc.symm.trans e) (by decide)) (fun _ T h => ?_)
  refine lev reg82_23 (by decide) (by decide) h (fun e => absurd (hc.symm.trans e) (by decide)) (fun _ T h => ?_)
  refine lev reg82_25 (by decide) (by decide) h (fun e => absurd (hc.symm.trans e) (by decide)) (fun _ T h => ?_)
  refine lev reg82_27 (by decide) (by decide) h (fun e => absurd (hc.symm.trans e) (by decide)) (fun _ T h => ?_)
  refine lev reg82_30 (by decide) (by decide) h (fun e => absurd (hc.symm.trans e) (by decide)) (fun _ T h => ?_)
  refine lev reg82_32 (by decide) (by decide) h (fun e => absurd (hc.symm.trans e) (by decide)) (fun _ T h => ?_)
  refine lev reg82_34 (by decide) (by decide) h (fun e => absurd (hc.symm.trans e) (by decide)) (fun _ T h => ?_)
  refine lev reg82_37 (by decide) (by decide) h (fun e => absurd (hc.symm.trans e) (by decide)) (fun _ T h => ?_)
  refine lev reg82_40 (by decide) (by decide) h (fun e => absurd (hc.symm.trans e) (by decide)) (fun _ T h => ?_)
  refine lev reg82_42 (by decide) (by decide) h (fun e => absurd (hc.symm.trans e) (by decide)) (fun _ T h => ?_)
  refine lev reg82_50 (by decide) (by decide) h (fun e => absurd (hc.symm.trans e) (by decide)) (fun _ T h => ?_)
  refine lev reg82_60 (by decide) (by decide) h (fun e => absurd (hc.symm.trans e) (by decide)) (fun _ T h => ?_)
  refine lev reg82_65 (by decide) (by decide) h (fun e => absurd (hc.symm.trans e) (by decide)) (fun _ T h => ?_)
  refine lev reg82_68 (by decide) (by decide) h (fun e => absurd (hc.symm.trans e) (by decide)) (fun _ T h => ?_)
  refine lev reg82_73 (by decide) (by decide) h (fun e => absurd (hc.symm.trans e) (by decide)) (fun _ T h => ?_)
  refine lev reg82_76 (by decide) (by decide) h (fun e => absurd (hc.symm.trans e) (by decide)) (fun _ T h => ?_)
  refine lev reg82_79 (by decide) (by decide) h (fun e => absurd (hc.symm.trans e) (by decide)) (fun _ T h => ?_)
  refine lev reg82_81 (by decide) (by decide) h (fun e => absurd (hc.symm.trans e) (by decide)) (fun _ T h => ?_)
  refine lev reg82_83 (by decide) (by decide) h (fun e => absurd (hc.symm.trans e) (by decide)) (fun _ T h => ?_)
  refine lev reg82_86 (by decide) (by decide) h (fun e => absurd (hc.symm.trans e) (by decide)) (fun _ T h => ?_)
  obtain ⟨mm, ⟨t0, t4, t6, t7, t8, t9⟩, ⟨ob, hob, t10, mob⟩, t73⟩ := h
  have lop : S.list ob = some (opL op) := by rw [list_of mob, list_cells]
  have id := reg_ia (E := E) hdl (E.S0.n + 2)
  have ia := reg_ia (E := E) (lt_of_some hx) (E.S0.n + 2)
  have ib := reg_ia (E := E) (lt_of_some hy) (E.S0.n + 2)
  have lc : ∀ S', Old S S' → ldS none S' (.pointer (some ⟨ob, 0, none⟩)) = some (.int .i64 op.c) := fun S' f => by rw [ldS_ptr, list_of ((f.2 _ (wf _ _ mob)).trans mob)]; exact op0
  have ld : ∀ S', Old S S' → ldS none S' (.pointer (some ⟨ob, 1, none⟩)) = some (.int .i64 op.d) := fun S' f => by rw [ldS_ptr, list_of ((f.2 _ (wf _ _ mob)).trans mob)]; exact opD
  have la : ∀ S', Old S S' → ldS none S' (.pointer (some ⟨ob, 2, none⟩)) = some (.int .i64 op.a) := fun S' f => by rw [ldS_ptr, list_of ((f.2 _ (wf _ _ mob)).trans mob)]; exact opA
  have lb : ∀ S', Old S S' → ldS none S' (.pointer (some ⟨ob, 3, none⟩)) = some (.int .i64 op.b) := fun S' f => by rw [ldS_ptr, list_of ((f.2 _ (wf _ _ mob)).trans mob)]; exact opB
  rw [hc] at lc
  rw [hd] at ld
  rw [ha] at la
  rw [hb] at lb
  refine m_seq (m_reg ?_)
  rw [reg82_12]
  simp (decide := true) only [FT.get_set, FT.setL, faS_ptr, nilS_ptr, pickS_bool, lenSl_of, cvInt_of, aminmax_max, abin_add, abin_sub, abin_eql, abin_neq, abin_lss, abin_leq, abin_gtr, abin_geq, aunary_not, Option.some.injEq, exists_eq_left', if_true, if_false, Nat.zero_add, Nat.add_zero, ptrTo]
  obtain ⟨S1, e1, g1, n1, k1⟩ := st_all (n := 5) (cs := zN.toArray) (fresh_at S zN 0) rfl rfl rfl
  refine ⟨.agg zN.toArray, rfl, S1, e1, ?_⟩
  have o1 : Old S S1 := ⟨by rw [n1]; exact Nat.le_succ _, fun y hy => by rw [k1 y (by omega)]; exact fresh_old _ _ _ (by omega)⟩
  have mm1 := mm.old ok wf o1
  have obn := wf _ _ mob
  have hn := mm.n
  have nn1 : S1.n = S.n + 1 := n1
  refine m_wf fun wf1 => ?_
  refine m_seq (m_seq (m_reg ?_))
  rw [reg82_13]
  simp (decide := true) only [FT.get_set, FT.setL, faS_ptr, nilS_ptr, pickS_bool, lenSl_of, cvInt_of, aminmax_max, abin_add, abin_sub, abin_eql, abin_neq, abin_lss, abin_leq, abin_gtr, abin_geq, aunary_not, Option.some.injEq, exists_eq_left', if_true, if_false, Nat.zero_add, Nat.add_zero, ptrTo, t10, lc S1 o1]
  refine m_cond (t := true) (by simp [evalT, SV]) (fun _ => m_reg ?_) (fun h => by cases h)
  rw [reg82_14]
  simp (decide := true) only [FT.get_set, FT.setL, faS_ptr, nilS_ptr, pickS_bool, lenSl_of, cvInt_of, aminmax_max, abin_add, abin_sub, abin_eql, abin_neq, abin_lss, abin_leq, abin_gtr, abin_geq, aunary_not, Option.some.injEq, exists_eq_left', if_true, if_false, Nat.zero_add, Nat.add_zero, ptrTo, t10, t8, lb S1 o1, ib, mm1.reg hy]
  obtain ⟨S2, e2, g2, n2, k2⟩ := st_all (n := 5) (cs := (lN y.1 y.2).toArray) g1 rfl rfl rfl
  refine ⟨S2, e2, ?_⟩
  have o2 : Old S S2 := ⟨by omega, fun y hy => by rw [k2 y (by omega)]; exact o1.2 y hy⟩
  have mm2 := mm.old ok wf o2
  have lz : ldS (some 5) S2 (.pointer (some ⟨S.n, 0, none⟩)) = some (vN y.1 y.2) := by rw [ldS_ptr, list_of g2]; rfl
  refine m_wf fun wf2 => ?_
  refine m_seq (m_draw ?_)
  rw [reg82_15]
  simp (decide := true) only [FT.get_set, FT.setL, faS_ptr, nilS_ptr, pickS_bool, lenSl_of, cvInt_of, aminmax_max, abin_add, abin_sub, abin_eql, abin_neq, abin_lss, abin_leq, abin_gtr, abin_geq, aunary_not, Option.some.injEq, exists_eq_left', if_true, if_false, Nat.zero_add, Nat.add_zero, ptrTo, t10, t8, lc S2 o2, la S2 o2, ia, mm2.reg hx, lz]
  refine pure_eq hO fun S3 o3 => ?_
  simp (decide := true) only [aextract, List.getElem?_cons_zero, List.getElem?_cons_succ, FT.get_set, FT.setL, faS_ptr, nilS_ptr, pickS_bool, lenSl_of, cvInt_of, aminmax_max, abin_add, abin_sub, abin_eql, abin_neq, abin_lss, abin_leq, abin_gtr, abin_geq, aunary_not, Option.some.injEq, exists_eq_left', if_true, if_false, Nat.zero_add, Nat.add_zero, ptrTo]
  obtain ⟨S4, e4, g4, n4, k4⟩ := st_all (n := 5) (cs := (lN ((3, if (cmpI x.1 x.2 y.1 y.2 == 0) = true then 1 else 0)).1 ((3, if (cmpI x.1 x.2 y.1 y.2 == 0) = true then 1 else 0)).2).toArray) (fresh_at S3 zN 0) rfl rfl rfl
  refine ⟨S4, e4, ?_⟩
  have o34 : Old S3 S4 := ⟨by rw [n4]; exact Nat.le_succ _, fun y hy => by rw [k4 y (by omega)]; exact fresh_old _ _ _ (by omega)⟩
  have o4 : Old S S4 := o2.trans (o3.trans o34)
  have mm4 := mm.old ok wf o4
  have lr : ldS (some 5) S4 (.pointer (some ⟨S3.n, 0, none⟩)) = some (vN ((3, if (cmpI x.1 x.2 y.1 y.2 == 0) = true then 1 else 0)).1 ((3, if (cmpI x.1 x.2 y.1 y.2 == 0) = true then 1 else 0)).2) := by rw [ldS_ptr, list_of g4]; rfl
  refine m_seq (m_seq (m_reg ?_))
  rw [reg82_16]
  simp (decide := true) only [FT.get_set, FT.setL, faS_ptr, nilS_ptr, pickS_bool, lenSl_of, cvInt_of, aminmax_max, abin_add, abin_sub, abin_eql, abin_neq, abin_lss, abin_leq, abin_gtr, abin_geq, aunary_not, Option.some.injEq, exists_eq_left', if_true, if_false, Nat.zero_add, Nat.add_zero, ptrTo]
  refine m_cond (t := false) (by simp [evalT, SV]) (fun h => by cases h) (fun _ => m_skip ?_)
  refine m_reg ?_
  rw [reg82_18]
  simp (decide := true) only [FT.get_set, FT.setL, faS_ptr, nilS_ptr, pickS_bool, lenSl_of, cvInt_of, aminmax_max, abin_add, abin_sub, abin_eql, abin_neq, abin_lss, abin_leq, abin_gtr, abin_geq, aunary_not, Option.some.injEq, exists_eq_left', if_true, if_false, Nat.zero_add, Nat.add_zero, ptrTo, t10, t8, ld S4 o4, id, lr]
  obtain ⟨S5, e5, mm5, n5, k5⟩ := mm4.setReg ok hdl (3, if (cmpI x.1 x.2 y.1 y.2 == 0) = true then 1 else 0)
  refine ⟨S5, e5, ?_⟩
  exact hq _ _ mm5 ⟨by simp [SV, t0], by simp [SV, t4], by simp [SV, t6], by simp [SV, t7], by simp [SV, t8, List.length_set], by simp [SV, t9]⟩

theorem op_lt {O : Hook} (hO : Fr O) {E : Env} (ok : EnvOk E) {s : PS} {op : MOp} (hc : op.c = 16) {d a b : Nat} {x y : En} (hd : op.d = (d : Int)) (ha : op.a = (a : Int)) (hb : op.b = (b : Int)) (hdl : d < s.regs.length) (hx : s.regs[a]? = some x) (hy : s.regs[b]? = some y) {T : FT} {S : MS} (h : AtOp E s op T S) {Q : AExit → FT → MS → Prop}
    (hq : ∀ T' S', MM E ({ s with regs := s.regs.set d (3, if decide (cmpI x.1 x.2 y.1 y.2 < 0) = true then 1 else 0) }) S' → MT E ({ s with regs := s.regs.set d (3, if decide (cmpI x.1 x.2 y.1 y.2 < 0) = true then 1 else 0) }) T' → Q .normal T' S') : MWp Tryz.prog O 555 blk82_2 T S Q := by
  refine m_wf fun wf => m_block ?_
  refine lev reg82_19 (by decide) (by decide) h (fun e => absurd (hc.symm.trans e) (by decide)) (fun _ T h => ?_)
  refine lev reg82_21 (by decide) (by decide) h (fun e => absurd (hc.symm.trans e) (by decide)) (fun _ T h => ?_)
  refine lev reg82_23 (by decide) (by decide) h (fun e => absurd (hc.symm.trans e) (by decide)) (fun _ T h => ?_)
  refine lev reg82_25 (by decide) (by decide) h (fun e => absurd (hc.symm.trans e) (by decide)) (fun _ T h => ?_)
  refine lev reg82_27 (by decide) (by decide) h (fun e => absurd (hc.symm.trans e) (by decide)) (fun _ T h => ?_)
  refine lev reg82_30 (by decide) (by decide) h (fun e => absurd (hc.symm.trans e) (by decide)) (fun _ T h => ?_)
  refine lev reg82_32 (by decide) (by decide) h (fun e => absurd (hc.symm.trans e) (by decide)) (fun _ T h => ?_)
  refine lev reg82_34 (by decide) (by decide) h (fun e => absurd (hc.symm.trans e) (by decide)) (fun _ T h => ?_)
  refine lev reg82_37 (by decide) (by decide) h (fun e => absurd (hc.symm.trans e) (by decide)) (fun _ T h => ?_)
  refine lev reg82_40 (by decide) (by decide) h (fun e => absurd (hc.symm.trans e) (by decide)) (fun _ T h => ?_)
  refine lev reg82_42 (by decide) (by decide) h (fun e => absurd (hc.symm.trans e) (by decide)) (fun _ T h => ?_)
  refine lev reg82_50 (by decide) (by decide) h (fun e => absurd (hc.symm.trans e) (by decide)) (fun _ T h => ?_)
  refine lev reg82_60 (by decide) (by decide) h (fun e => absurd (hc.symm.trans e) (by decide)) (fun _ T h => ?_)
  refine lev reg82_65 (by decide) (by decide) h (fun e => absurd (hc.symm.trans e) (by decide)) (fun _ T h => ?_)
  refine lev reg82_68 (by decide) (by decide) h (fun e => absurd (hc.symm.trans e) (by decide)) (fun _ T h => ?_)
  refine lev reg82_73 (by decide) (by decide) h (fun e => absurd (hc.symm.trans e) (by decide)) (fun _ T h => ?_)
  refine lev reg82_76 (by decide) (by decide) h (fun e => absurd (hc.symm.trans e) (by decide)) (fun _ T h => ?_)
  refine lev reg82_79 (by decide) (by decide) h (fun e => absurd (hc.symm.trans e) (by decide)) (fun _ T h => ?_)
  refine lev reg82_81 (by decide) (by decide) h (fun e => absurd (hc.symm.trans e) (by decide)) (fun _ T h => ?_)
  refine lev reg82_83 (by decide) (by decide) h (fun e => absurd (hc.symm.trans e) (by decide)) (fun _ T h => ?_)
  refine lev reg82_86 (by decide) (by decide) h (fun e => absurd (hc.symm.trans e) (by decide)) (fun _ T h => ?_)
  obtain ⟨mm, ⟨t0, t4, t6, t7, t8, t9⟩, ⟨ob, hob, t10, mob⟩, t73⟩ := h
  have lop : S.list ob = some (opL op) := by rw [list_of mob, list_cells]
  have id := reg_ia (E := E) hdl (E.S0.n + 2)
  have ia := reg_ia (E := E) (lt_of_some hx) (E.S0.n + 2)
  have ib := reg_ia (E := E) (lt_of_some hy) (E.S0.n + 2)
  have lc : ∀ S', Old S S' → ldS none S' (.pointer (some ⟨ob, 0, none⟩)) = some (.int .i64 op.c) := fun S' f => by rw [ldS_ptr, list_of ((f.2 _ (wf _ _ mob)).trans mob)]; exact op0
  have ld : ∀ S', Old S S' → ldS none S' (.pointer (some ⟨ob, 1, none⟩)) = some (.int .i64 op.d) := fun S' f => by rw [ldS_ptr, list_of ((f.2 _ (wf _ _ mob)).trans mob)]; exact opD
  have la : ∀ S', Old S S' → ldS none S' (.pointer (some ⟨ob, 2, none⟩)) = some (.int .i64 op.a) := fun S' f => by rw [ldS_ptr, list_of ((f.2 _ (wf _ _ mob)).trans mob)]; exact opA
  have lb : ∀ S', Old S S' → ldS none S' (.pointer (some ⟨ob, 3, none⟩)) = some (.int .i64 op.b) := fun S' f => by rw [ldS_ptr, list_of ((f.2 _ (wf _ _ mob)).trans mob)]; exact opB
  rw [hc] at lc
  rw [hd] at ld
  rw [ha] at la
  rw [hb] at lb
  refine m_seq (m_reg ?_)
  rw [reg82_12]
  simp (decide := true) only [FT.get_set, FT.setL, faS_ptr, nilS_ptr, pickS_bool, lenSl_of, cvInt_of, aminmax_max, abin_add, abin_sub, abin_eql, abin_neq, abin_lss, abin_leq, abin_gtr, abin_geq, aunary_not, Option.some.injEq, exists_eq_left', if_true, if_false, Nat.zero_add, Nat.add_zero, ptrTo]
  obtain ⟨S1, e1, g1, n1, k1⟩ := st_all (n := 5) (cs := zN.toArray) (fresh_at S zN 0) rfl rfl rfl
  refine ⟨.agg zN.toArray, rfl, S1, e1, ?_⟩
  have o1 : Old S S1 := ⟨by rw [n1]; exact Nat.le_succ _, fun y hy => by rw [k1 y (by omega)]; exact fresh_old _ _ _ (by omega)⟩
  have mm1 := mm.old ok wf o1
  have obn := wf _ _ mob
  have hn := mm.n
  have nn1 : S1.n = S.n + 1 := n1
  refine m_wf fun wf1 => ?_
  refine m_seq (m_seq (m_reg ?_))
  rw [reg82_13]
  simp (decide := true) only [FT.get_set, FT.setL, faS_ptr, nilS_ptr, pickS_bool, lenSl_of, cvInt_of, aminmax_max, abin_add, abin_sub, abin_eql, abin_neq, abin_lss, abin_leq, abin_gtr, abin_geq, aunary_not, Option.some.injEq, exists_eq_left', if_true, if_false, Nat.zero_add, Nat.add_zero, ptrTo, t10, lc S1 o1]
  refine m_cond (t := true) (by simp [evalT, SV]) (fun _ => m_reg ?_) (fun h => by cases h)
  rw [reg82_14]
  simp (decide := true) only [FT.get_set, FT.setL, faS_ptr, nilS_ptr, pickS_bool, lenSl_of, cvInt_of, aminmax_max, abin_add, abin_sub, abin_eql, abin_neq, abin_lss, abin_leq, abin_gtr, abin_geq, aunary_not, Option.some.injEq, exists_eq_left', if_true, if_false, Nat.zero_add, Nat.add_zero, ptrTo, t10, t8, lb S1 o1, ib, mm1.reg hy]
  obtain ⟨S2, e2, g2, n2, k2⟩ := st_all (n := 5) (cs := (lN y.1 y.2).toArray) g1 rfl rfl rfl
  refine ⟨S2, e2, ?_⟩
  have o2 : Old S S2 := ⟨by omega, fun y hy => by rw [k2 y (by omega)]; exact o1.2 y hy⟩
  have mm2 := mm.old ok wf o2
  have lz : ldS (some 5) S2 (.pointer (some ⟨S.n, 0, none⟩)) = some (vN y.1 y.2) := by rw [ldS_ptr, list_of g2]; rfl
  refine m_wf fun wf2 => ?_
  refine m_seq (m_draw ?_)
  rw [reg82_15]
  simp (decide := true) only [FT.get_set, FT.setL, faS_ptr, nilS_ptr, pickS_bool, lenSl_of, cvInt_of, aminmax_max, abin_add, abin_sub, abin_eql, abin_neq, abin_lss, abin_leq, abin_gtr, abin_geq, aunary_not, Option.some.injEq, exists_eq_left', if_true, if_false, Nat.zero_add, Nat.add_zero, ptrTo, t10, t8, lc S2 o2, la S2 o2, ia, mm2.reg hx, lz]
  refine pure_lt hO fun S3 o3 => ?_
  simp (decide := true) only [aextract, List.getElem?_cons_zero, List.getElem?_cons_succ, FT.get_set, FT.setL, faS_ptr, nilS_ptr, pickS_bool, lenSl_of, cvInt_of, aminmax_max, abin_add, abin_sub, abin_eql, abin_neq, abin_lss, abin_leq, abin_gtr, abin_geq, aunary_not, Option.some.injEq, exists_eq_left', if_true, if_false, Nat.zero_add, Nat.add_zero, ptrTo]
  obtain ⟨S4, e4, g4, n4, k4⟩ := st_all (n := 5) (cs := (lN ((3, if decide (cmpI x.1 x.2 y.1 y.2 < 0) = true then 1 else 0)).1 ((3, if decide (cmpI x.1 x.2 y.1 y.2 < 0) = true then 1 else 0)).2).toArray) (fresh_at S3 zN 0) rfl rfl rfl
  refine ⟨S4, e4, ?_⟩
  have o34 : Old S3 S4 := ⟨by rw [n4]; exact Nat.le_succ _, fun y hy => by rw [k4 y (by omega)]; exact fresh_old _ _ _ (by omega)⟩
  have o4 : Old S S4 := o2.trans (o3.trans o34)
  have mm4 := mm.old ok wf o4
  have lr : ldS (some 5) S4 (.pointer (some ⟨S3.n, 0, none⟩)) = some (vN ((3, if decide (cmpI x.1 x.2 y.1 y.2 < 0) = true then 1 else 0)).1 ((3, if decide (cmpI x.1 x.2 y.1 y.2 < 0) = true then 1 else 0)).2) := by rw [ldS_ptr, list_of g4]; rfl
  refine m_seq (m_seq (m_reg ?_))
  rw [reg82_16]
  simp (decide := true) only [FT.get_set, FT.setL, faS_ptr, nilS_ptr, pickS_bool, lenSl_of, cvInt_of, aminmax_max, abin_add, abin_sub, abin_eql, abin_neq, abin_lss, abin_leq, abin_gtr, abin_geq, aunary_not, Option.some.injEq, exists_eq_left', if_true, if_false, Nat.zero_add, Nat.add_zero, ptrTo]
  refine m_cond (t := false) (by simp [evalT, SV]) (fun h => by cases h) (fun _ => m_skip ?_)
  refine m_reg ?_
  rw [reg82_18]
  simp (decide := true) only [FT.get_set, FT.setL, faS_ptr, nilS_ptr, pickS_bool, lenSl_of, cvInt_of, aminmax_max, abin_add, abin_sub, abin_eql, abin_neq, abin_lss, abin_leq, abin_gtr, abin_geq, aunary_not, Option.some.injEq, exists_eq_left', if_true, if_false, Nat.zero_add, Nat.add_zero, ptrTo, t10, t8, ld S4 o4, id, lr]
  obtain ⟨S5, e5, mm5, n5, k5⟩ := mm4.setReg ok hdl (3, if decide (cmpI x.1 x.2 y.1 y.2 < 0) = true then 1 else 0)
  refine ⟨S5, e5, ?_⟩
  exact hq _ _ mm5 ⟨by simp [SV, t0], by simp [SV, t4], by simp [SV, t6], by simp [SV, t7], by simp [SV, t8, List.length_set], by simp [SV, t9]⟩

theorem op_add {O : Hook} (hO : Fr O) {E : Env} (ok : EnvOk E) {s : PS} {op : MOp} (hc : op.c = 5) {d a b : Nat} {x y : En} (hd : op.d = (d : Int)) (ha : op.a = (a : Int)) (hb : op.b = (b : Int)) (hdl : d < s.regs.length) (hx : s.regs[a]? = some x) (hy : s.regs[b]? = some y) (hx1 : x.1 = 1) (hy1 : y.1 = 1) (h1 : 0 ≤ x.2 ∧ x.2 ≤ 1000000) (h2 : 0 ≤ y.2 ∧ y.2 ≤ 1000000) {T : FT} {S : MS} (h : AtOp E s op T S) {Q : AExit → FT → MS → Prop}
    (hq : ∀ T' S', MM E ({ s with regs := s.regs.set d (1, x.2 + y.2) }) S' → MT E ({ s with regs := s.regs.set d (1, x.2 + y.2) }) T' → Q .normal T' S') : MWp Tryz.prog O 555 blk82_2 T S Q := by
  refine m_wf fun wf => m_block ?_
  refine lev reg82_19 (by decide) (by decide) h (fun e => absurd (hc.symm.trans e) (by decide)) (fun _ T h => ?_)
  refine lev reg82_21 (by decide) (by decide) h (fun e => absurd (hc.symm.trans e) (by decide)) (fun _ T h => ?_)
  refine lev reg82_23 (by decide) (by decide) h (fun e => absurd (hc.symm.trans e) (by decide)) (fun _ T h => ?_)
  refine lev reg82_25 (by decide) (by decide) h (fun e => absurd (hc.symm.trans e) (by decide)) (fun _ T h => ?_)
  refine lev reg82_27 (by decide) (by decide) h (fun e => absurd (hc.symm.trans e) (by decide)) (fun _ T h => ?_)
  refine lev reg82_30 (by decide) (by decide) h (fun e => absurd (hc.symm.trans e) (by decide)) (fun _ T h => ?_)
  refine lev reg82_32 (by decide) (by decide) h (fun e => absurd (hc.symm.trans e) (by decide)) (fun _ T h => ?_)
  refine lev reg82_34 (by decide) (by decide) h (fun e => absurd (hc.symm.trans e) (by decide)) (fun _ T h => ?_)
  refine lev reg82_37 (by decide) (by decide) h (fun e => absurd (hc.symm.trans e) (by decide)) (fun _ T h => ?_)
  refine lev reg82_40 (by decide) (by decide) h (fun e => absurd (hc.symm.trans e) (by decide)) (fun _ T h => ?_)
  refine lev reg82_42 (by decide) (by decide) h (fun e => absurd (hc.symm.trans e) (by decide)) (fun _ T h => ?_)
  refine lev reg82_50 (by decide) (by decide) h (fun e => absurd (hc.symm.trans e) (by decide)) (fun _ T h => ?_)
  refine lev reg82_60 (by decide) (by decide) h (fun e => absurd (hc.symm.trans e) (by decide)) (fun _ T h => ?_)
  refine lev reg82_65 (by decide) (by decide) h (fun e => absurd (hc.symm.trans e) (by decide)) (fun _ T h => ?_)
  refine lev reg82_68 (by decide) (by decide) h (fun e => absurd (hc.symm.trans e) (by decide)) (fun _ T h => ?_)
  refine lev reg82_73 (by decide) (by decide) h (fun e => absurd (hc.symm.trans e) (by decide)) (fun _ T h => ?_)
  refine lev reg82_76 (by decide) (by decide) h (fun e => absurd (hc.symm.trans e) (by decide)) (fun _ T h => ?_)
  refine lev reg82_79 (by decide) (by decide) h (fun e => absurd (hc.symm.trans e) (by decide)) (fun _ T h => ?_)
  refine lev reg82_81 (by decide) (by decide) h (fun e => absurd (hc.symm.trans e) (by decide)) (fun _ T h => ?_)
  refine lev reg82_83 (by decide) (by decide) h (fun e => absurd (hc.symm.trans e) (by decide)) (fun _ T h => ?_)
  refine lev reg82_86 (by decide) (by decide) h (fun e => absurd (hc.symm.trans e) (by decide)) (fun _ T h => ?_)
  obtain ⟨mm, ⟨t0, t4, t6, t7, t8, t9⟩, ⟨ob, hob, t10, mob⟩, t73⟩ := h
  have lop : S.list ob = some (opL op) := by rw [list_of mob, list_cells]
  have id := reg_ia (E := E) hdl (E.S0.n + 2)
  have ia := reg_ia (E := E) (lt_of_some hx) (E.S0.n + 2)
  have ib := reg_ia (E := E) (lt_of_some hy) (E.S0.n + 2)
  have lc : ∀ S', Old S S' → ldS none S' (.pointer (some ⟨ob, 0, none⟩)) = some (.int .i64 op.c) := fun S' f => by rw [ldS_ptr, list_of ((f.2 _ (wf _ _ mob)).trans mob)]; exact op0
  have ld : ∀ S', Old S S' → ldS none S' (.pointer (some ⟨ob, 1, none⟩)) = some (.int .i64 op.d) := fun S' f => by rw [ldS_ptr, list_of ((f.2 _ (wf _ _ mob)).trans mob)]; exact opD
  have la : ∀ S', Old S S' → ldS none S' (.pointer (some ⟨ob, 2, none⟩)) = some (.int .i64 op.a) := fun S' f => by rw [ldS_ptr, list_of ((f.2 _ (wf _ _ mob)).trans mob)]; exact opA
  have lb : ∀ S', Old S S' → ldS none S' (.pointer (some ⟨ob, 3, none⟩)) = some (.int .i64 op.b) := fun S' f => by rw [ldS_ptr, list_of ((f.2 _ (wf _ _ mob)).trans mob)]; exact opB
  rw [hc] at lc
  rw [hd] at ld
  rw [ha] at la
  rw [hb] at lb
  refine m_seq (m_reg ?_)
  rw [reg82_12]
  simp (decide := true) only [FT.get_set, FT.setL, faS_ptr, nilS_ptr, pickS_bool, lenSl_of, cvInt_of, aminmax_max, abin_add, abin_sub, abin_eql, abin_neq, abin_lss, abin_leq, abin_gtr, abin_geq, aunary_not, Option.some.injEq, exists_eq_left', if_true, if_false, Nat.zero_add, Nat.add_zero, ptrTo]
  obtain ⟨S1, e1, g1, n1, k1⟩ := st_all (n := 5) (cs := zN.toArray) (fresh_at S zN 0) rfl rfl rfl
  refine ⟨.agg zN.toArray, rfl, S1, e1, ?_⟩
  have o1 : Old S S1 := ⟨by rw [n1]; exact Nat.le_succ _, fun y hy => by rw [k1 y (by omega)]; exact fresh_old _ _ _ (by omega)⟩
  have mm1 := mm.old ok wf o1
  have obn := wf _ _ mob
  have hn := mm.n
  have nn1 : S1.n = S.n + 1 := n1
  refine m_wf fun wf1 => ?_
  refine m_seq (m_seq (m_reg ?_))
  rw [reg82_13]
  simp (decide := true) only [FT.get_set, FT.setL, faS_ptr, nilS_ptr, pickS_bool, lenSl_of, cvInt_of, aminmax_max, abin_add, abin_sub, abin_eql, abin_neq, abin_lss, abin_leq, abin_gtr, abin_geq, aunary_not, Option.some.injEq, exists_eq_left', if_true, if_false, Nat.zero_add, Nat.add_zero, ptrTo, t10, lc S1 o1]
  refine m_cond (t := true) (by simp [evalT, SV]) (fun _ => m_reg ?_) (fun h => by cases h)
  rw [reg82_14]
  simp (decide := true) only [FT.get_set, FT.setL, faS_ptr, nilS_ptr, pickS_bool, lenSl_of, cvInt_of, aminmax_max, abin_add, abin_sub, abin_eql, abin_neq, abin_lss, abin_leq, abin_gtr, abin_geq, aunary_not, Option.some.injEq, exists_eq_left', if_true, if_false, Nat.zero_add, Nat.add_zero, ptrTo, t10, t8, lb S1 o1, ib, mm1.reg hy]
  obtain ⟨S2, e2, g2, n2, k2⟩ := st_all (n := 5) (cs := (lN y.1 y.2).toArray) g1 rfl rfl rfl
  refine ⟨S2, e2, ?_⟩
  have o2 : Old S S2 := ⟨by omega, fun y hy => by rw [k2 y (by omega)]; exact o1.2 y hy⟩
  have mm2 := mm.old ok wf o2
  have lz : ldS (some 5) S2 (.pointer (some ⟨S.n, 0, none⟩)) = some (vN y.1 y.2) := by rw [ldS_ptr, list_of g2]; rfl
  refine m_wf fun wf2 => ?_
  refine m_seq (m_draw ?_)
  rw [reg82_15]
  simp (decide := true) only [FT.get_set, FT.setL, faS_ptr, nilS_ptr, pickS_bool, lenSl_of, cvInt_of, aminmax_max, abin_add, abin_sub, abin_eql, abin_neq, abin_lss, abin_leq, abin_gtr, abin_geq, aunary_not, Option.some.injEq, exists_eq_left', if_true, if_false, Nat.zero_add, Nat.add_zero, ptrTo, t10, t8, lc S2 o2, la S2 o2, ia, mm2.reg hx, lz]
  rw [hx1, hy1]
  refine pure_add hO h1 h2 fun S3 o3 => ?_
  simp (decide := true) only [aextract, List.getElem?_cons_zero, List.getElem?_cons_succ, FT.get_set, FT.setL, faS_ptr, nilS_ptr, pickS_bool, lenSl_of, cvInt_of, aminmax_max, abin_add, abin_sub, abin_eql, abin_neq, abin_lss, abin_leq, abin_gtr, abin_geq, aunary_not, Option.some.injEq, exists_eq_left', if_true, if_false, Nat.zero_add, Nat.add_zero, ptrTo]
  obtain ⟨S4, e4, g4, n4, k4⟩ := st_all (n := 5) (cs := (lN ((1, x.2 + y.2)).1 ((1, x.2 + y.2)).2).toArray) (fresh_at S3 zN 0) rfl rfl rfl
  refine ⟨S4, e4, ?_⟩
  have o34 : Old S3 S4 := ⟨by rw [n4]; exact Nat.le_succ _, fun y hy => by rw [k4 y (by omega)]; exact fresh_old _ _ _ (by omega)⟩
  have o4 : Old S S4 := o2.trans (o3.trans o34)
  have mm4 := mm.old ok wf o4
  have lr : ldS (some 5) S4 (.pointer (some ⟨S3.n, 0, none⟩)) = some (vN ((1, x.2 + y.2)).1 ((1, x.2 + y.2)).2) := by rw [ldS_ptr, list_of g4]; rfl
  refine m_seq (m_seq (m_reg ?_))
  rw [reg82_16]
  simp (decide := true) only [FT.get_set, FT.setL, faS_ptr, nilS_ptr, pickS_bool, lenSl_of, cvInt_of, aminmax_max, abin_add, abin_sub, abin_eql, abin_neq, abin_lss, abin_leq, abin_gtr, abin_geq, aunary_not, Option.some.injEq, exists_eq_left', if_true, if_false, Nat.zero_add, Nat.add_zero, ptrTo]
  refine m_cond (t := false) (by simp [evalT, SV]) (fun h => by cases h) (fun _ => m_skip ?_)
  refine m_reg ?_
  rw [reg82_18]
  simp (decide := true) only [FT.get_set, FT.setL, faS_ptr, nilS_ptr, pickS_bool, lenSl_of, cvInt_of, aminmax_max, abin_add, abin_sub, abin_eql, abin_neq, abin_lss, abin_leq, abin_gtr, abin_geq, aunary_not, Option.some.injEq, exists_eq_left', if_true, if_false, Nat.zero_add, Nat.add_zero, ptrTo, t10, t8, ld S4 o4, id, lr]
  obtain ⟨S5, e5, mm5, n5, k5⟩ := mm4.setReg ok hdl (1, x.2 + y.2)
  refine ⟨S5, e5, ?_⟩
  exact hq _ _ mm5 ⟨by simp [SV, t0], by simp [SV, t4], by simp [SV, t6], by simp [SV, t7], by simp [SV, t8, List.length_set], by simp [SV, t9]⟩
end Go.Proofs.YtfgbeecipklkdaaGreat

