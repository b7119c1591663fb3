/-
  The walk through both clocks' code: what its functions do to memory, part PlF. Nothing is asked.
-/
import Derived.Test.YthkmkfgfabjhnaaPlE
set_option linter.all false
namespace Go.Proofs.Ythkmkfgfabjhnaa
open Go Go.Ag
set_option linter.unusedVariables false
set_option maxRecDepth 100000

/-! ### both clocks -/
structure Two (S : MS) (B c r : Nat) (n1 x1 : Int) (w : Value) (L : List Tm) (n2 x2 : Int) (w2 : Value) (R : List Tm) : Prop where
  cl : IsC S c B n1 x1 w L
  rf : IsC S r B n2 x2 w2 R
  ne : c ≠ r
  cB : B ≤ c
  rB : B ≤ r
  wr : Av w r
  w2c : Av w2 c
  dis : ∀ y, ¬ Av w2 y → Av w y
section
variable {S : MS} {B c r : Nat} {n1 x1 n2 x2 : Int} {w w2 : Value} {L R : List Tm}
theorem Two.old {S' : MS} (h : Two S B c r n1 x1 w L n2 x2 w2 R) (wf : S.WF) (f : Old S S') : Two S' B c r n1 x1 w L n2 x2 w2 R :=
  ⟨h.cl.keep wf f.2, h.rf.keep wf f.2, h.ne, h.cB, h.rB, h.wr, h.w2c, h.dis⟩
theorem Two.cn (h : Two S B c r n1 x1 w L n2 x2 w2 R) (wf : S.WF) : c < S.n := wf _ _ h.cl.1
theorem Two.rn (h : Two S B c r n1 x1 w L n2 x2 w2 R) (wf : S.WF) : r < S.n := wf _ _ h.rf.1
theorem Two.opC {S' : MS} {n1' x1' : Int} {w' : Value} {L' : List Tm} (h : Two S B c r n1 x1 w L n2 x2 w2 R) (wf : S.WF) (g1 : S.n ≤ S'.n) (g2 : ∀ y, y < S.n → y ≠ c → Av w y → S'.m y = S.m y) (g3 : ∀ y, y < S.n → Av w y → Av w' y) (g4 : IsC S' c B n1' x1' w' L') : Two S' B c r n1' x1' w' L' n2 x2 w2 R := by
  have hr := h.rn wf
  refine ⟨g4, ⟨?_, ?_, h.rf.2.2⟩, h.ne, h.cB, h.rB, g3 r hr h.wr, h.w2c, fun y hy => ?_⟩
  · rw [g2 r hr (fun e => h.ne e.symm) h.wr]; exact h.rf.1
  · refine h.rf.2.1.keep1 fun y k hy hk => g2 y (wf y k hk) (fun e => ?_) (h.dis y hy)
    subst e; exact hy h.w2c
  · exact g3 y (SlF.lt_of h.rf.2.1 wf hy) (h.dis y hy)
theorem Two.opR {S' : MS} {n2' x2' : Int} {w2' : Value} {R' : List Tm} (h : Two S B c r n1 x1 w L n2 x2 w2 R) (wf : S.WF) (g1 : S.n ≤ S'.n) (g2 : ∀ y, y < S.n → y ≠ r → Av w2 y → S'.m y = S.m y) (g3 : ∀ y, y < S.n → Av w2 y → Av w2' y) (g4 : IsC S' r B n2' x2' w2' R') : Two S' B c r n1 x1 w L n2' x2' w2' R' := by
  have hc := h.cn wf
  have hd : ∀ y, ¬ Av w y → Av w2 y := fun y hy => Classical.byContradiction fun h2 => hy (h.dis y h2)
  refine ⟨⟨?_, ?_, h.cl.2.2⟩, g4, h.ne, h.cB, h.rB, h.wr, g3 c hc h.w2c, fun y hy => ?_⟩
  · rw [g2 c hc h.ne h.w2c]; exact h.cl.1
  · refine h.cl.2.1.keep1 fun y k hy hk => g2 y (wf y k hk) (fun e => ?_) (hd y hy)
    subst e; exact hy h.wr
  · refine Classical.byContradiction fun h2 => hy ?_
    exact g3 y (SlF.lt_of h.cl.2.1 wf h2) (hd y h2)
theorem Two.lowC {S0 S' : MS} (h : Two S S0.n c r n1 x1 w L n2 x2 w2 R) (hold : Old S0 S) (g1 : S.n ≤ S'.n) (g2 : ∀ y, y < S.n → y ≠ c → Av w y → S'.m y = S.m y) : Old S0 S' :=
  ⟨Nat.le_trans hold.1 g1, fun y hy => by rw [g2 y (Nat.lt_of_lt_of_le hy hold.1) (by have := h.cB; omega) (h.cl.2.1.av hy)]; exact hold.2 y hy⟩
theorem Two.lowR {S0 S' : MS} (h : Two S S0.n c r n1 x1 w L n2 x2 w2 R) (hold : Old S0 S) (g1 : S.n ≤ S'.n) (g2 : ∀ y, y < S.n → y ≠ r → Av w2 y → S'.m y = S.m y) : Old S0 S' :=
  ⟨Nat.le_trans hold.1 g1, fun y hy => by rw [g2 y (Nat.lt_of_lt_of_le hy hold.1) (by have := h.rB; omega) (h.rf.2.1.av hy)]; exact hold.2 y hy⟩
end
theorem isort_mem (l : List Tm) (z : Tm) : z ∈ isort l ↔ z ∈ l := by
  have : ∀ (l acc : List Tm), z ∈ l.foldl insR acc ↔ z ∈ acc ∨ z ∈ l := by
    intro l
    induction l with
    | nil => intro acc; simp
    | cons x l ih =>
      intro acc
      rw [List.foldl_cons, ih, insR_mem]
      simp [or_assoc, or_comm, or_left_comm]
  unfold isort; rw [this]; simp
theorem Deep.sort {S0 : MS} {R : List Tm} (h : Deep S0 R) : Deep S0 (isort R) := fun x hx => h x ((isort_mem R x).1 hx)

/-- both clocks, in step -/
def Both (S0 S : MS) (c r : Nat) (now next : Int) (R : List Tm) : Prop := Old S0 S ∧ Deep S0 R ∧ R.length ≤ 12 ∧ ∃ w w2, Two S S0.n c r now next w (isort R) now next w2 R
theorem Both.go {S0 S S' : MS} {c r : Nat} {now next : Int} {R : List Tm} (h : Both S0 S c r now next R) (wf : S.WF) (f : Old S S') : Both S0 S' c r now next R := by
  obtain ⟨h1, h2, h3, w, w2, h4⟩ := h
  exact ⟨h1.trans f, h2, h3, w, w2, h4.old wf f⟩
/-- both tick, and tell the same -/
theorem ticks5 {S0 S : MS} (wf0 : S0.WF) {c r : Nat} {now next : Int} {R : List Tm} (h : Both S0 S c r now next R) (hn : 0 ≤ now ∧ now ≤ 4611686018427387904) {Q : Value → Value → Value → MS → Prop}
    (hq : ∀ p1 p3 S', Both S0 S' c r (now + 1) next (R.filter fun x => decide (x.t > now + 1)) → Q p1 p3 (.bool true) S') :
    CallM Try.prog O 9 [.pointer (some ⟨c, 0, none⟩)] S fun p1 S1 => CallM Try.prog O 16 [.pointer (some ⟨r, 0, none⟩)] S1 fun p3 S3 => CallM Try.prog O 15 [p1, p3] S3 (Q p1 p3) := by
  obtain ⟨hold, hd, hl, w, w2, h4⟩ := h
  refine callM_wf fun wf => ?_
  have hlen : (isort R).length ≤ 12 := by rw [isort_len]; exact hl
  refine callM_wf_post (tick9 h4.cl hold.1 hn (by omega) fun v1 w1 S1 a1 a2 a3 a4 a5 wf1 => ?_)
  have t1 := h4.opC wf a1 a2 a3 a4
  have o1 := h4.lowC hold a1 a2
  refine callM_wf_post (tick16 t1.rf o1.1 hn (by omega) fun v3 w3 S3 b1 b2 b3 b4 b5 wf3 => ?_)
  have t3 := t1.opR wf1 b1 (fun y hy hne _ => b2 y hy hne) (fun y hy _ => b3 y hy) b4
  have o3 := t1.lowR o1 b1 (fun y hy hne _ => b2 y hy hne)
  have hv1 : SlF tmL 4 S3 S.n v1 ((isort R).take (dueN (now + 1) (isort R))) := a5.keep1 fun y k hy hk => b2 y (wf1 y k hk) fun e => by subst e; exact hy (a5.av (h4.rn wf))
  have hdd : Deep S0 ((isort R).take (dueN (now + 1) (isort R))) := fun x hx => hd.sort x (List.mem_of_mem_take hx)
  refine callM_wf_post (same15 wf0 hv1 b5 hdd o3 (by rw [List.length_take]; omega) fun S4 f4 wf4 => ?_)
  refine hq v1 v3 S4 ⟨o3.trans f4, fun x hx => hd x (List.mem_filter.1 hx).1, Nat.le_trans (List.length_filter_le _ _) hl, w1, w3, ?_⟩
  have t4 := t3.old wf3 f4
  rw [sort_tick] at t4
  exact t4

/-- both wait for the same -/
theorem waits5 {S0 S : MS} (wf0 : S0.WF) {c r : Nat} {now next : Int} {R : List Tm} (h : Both S0 S c r now next R) {Q : Value → Value → Value → MS → Prop}
    (hq : ∀ p1 p3 S', Both S0 S' c r now next R → Q p1 p3 (.bool true) S') :
    CallM Try.prog O 11 [.pointer (some ⟨c, 0, none⟩)] S fun p1 S1 => CallM Try.prog O 18 [.pointer (some ⟨r, 0, none⟩)] S1 fun p3 S3 => CallM Try.prog O 15 [p1, p3] S3 (Q p1 p3) := by
  have hb := h
  obtain ⟨hold, hd, hl, w, w2, h4⟩ := h
  refine callM_wf fun wf => ?_
  have hlen : (isort R).length ≤ 12 := by rw [isort_len]; exact hl
  refine callM_wf_post (wait11 h4.cl (by omega) fun v1 S1 f1 a5 wf1 => ?_)
  have t1 := h4.old wf f1
  refine callM_wf_post (wait18 t1.rf (by omega) fun v3 S3 f3 b5 wf3 => ?_)
  have hv1 : SlF tmL 4 S3 S.n v1 (isort R) := a5.keep fun y k hk => f3.2 y (wf1 y k hk)
  refine same15 wf0 hv1 b5 hd.sort ((hold.trans f1).trans f3) (by omega) fun S4 f4 => ?_
  exact hq v1 v3 S4 (hb.go wf ((f1.trans f3).trans f4))
end Go.Proofs.Ythkmkfgfabjhnaa

