/-
  The walk through the journal's code: what its functions do to memory, part MoJ15. Nothing is asked.
-/
import Derived.Test.YtmfmbadfgnhonaaMoJ14
set_option linter.all false
namespace Go.Proofs.Ytmfmbadfgnhonaa
open Go Go.Ag
set_option linter.unusedVariables false
set_option maxRecDepth 100000

theorem under28 : Try.prog.underlying 28 = some (.pointer 66) := by kernel_rfl
theorem HW.lens {S : MS} {D : DK} {c0 : Nat → List UInt8} {W : List (Nat × List UInt8)} (h : HW S D c0 W) : Len D.made.length (appC c0 W) := fun i hi => (h.holds i hi).1

/-- a journal, alive, on a disk that says what it says -/
structure PJ (S : MS) (d : Nat) (D : DK) (c0 : Nat → List UInt8) (W : List (Nat × List UInt8)) (j : Nat) (rv : Value) (half : Nat) (base : List UInt8) (rs : List (List UInt8)) : Prop where
  is : IsD S d D
  hw : HW S D c0 W
  jj : JJ S d D j rv half (liveN base rs) base rs false
  says : Says D.made.length (appC c0 W) half (liveN base rs) base rs
  n : 64 ≤ D.made.length ∧ D.made.length ≤ 2000
  live : liveN base rs ≤ 32 * D.made.length
theorem PJ.old {S S' : MS} {d j : Nat} {D : DK} {c0 : Nat → List UInt8} {W : List (Nat × List UInt8)} {rv : Value} {half : Nat} {base : List UInt8} {rs : List (List UInt8)} (h : PJ S d D c0 W j rv half base rs) (wf : S.WF) (f : Old S S') : PJ S' d D c0 W j rv half base rs :=
  ⟨h.is.old' wf f, h.hw.old wf f, h.jj.old f, h.says, h.n, h.live⟩
/-- a disk that runs on -/
def Runs (D : DK) : Prop := D.cut = false ∧ D.halt = -1

theorem appW_len {n half : Nat} {base b : List UInt8} {rs : List (List UInt8)} (h : b.length ≤ 65536) : (appW n half base rs b).length ≤ 300 := by
  have := lastB_len base rs b
  unfold appW
  rw [List.length_append, piecesN_len]
  unfold pieceK
  simp only [List.length_cons, List.length_nil]
  omega
theorem snapW_len {n half : Nat} {b : List UInt8} (h : b.length ≤ 65536) : (snapW n half b).length ≤ 300 := by
  have := laid_len b
  unfold snapW
  rw [List.length_append, piecesN_len]
  unfold pieceK
  simp only [List.length_cons, List.length_nil]
  omega
theorem formW_len {n : Nat} {b : List UInt8} (h : b.length ≤ 65536) : (formW n b).length ≤ 301 := by
  have := @snapW_len n 0 b h
  unfold formW
  simp only [List.length_cons]
  omega
theorem formW_says {n : Nat} {c : Nat → List UInt8} (hl : Len n c) (hn : 64 ≤ n) (b : List UInt8) (hb : b.length + 8 ≤ 32 * n) : Says n (appC c (formW n b)) 0 (liveN b []) b [] := by
  have e : appC c (formW n b) = appC (fun j => if j = 0 then List.replicate 256 0 else c j) (snapW n 0 b) := rfl
  rw [e]
  unfold snapW
  refine snap_all (fun i hi => ?_) (by omega) (by omega) b (by rw [laid_len]; omega)
  show (if i = 0 then List.replicate 256 0 else c i).length = 256
  split
  · rw [List.length_replicate]
  · exact hl i hi

/-- Append, on a disk that runs on -/
theorem PJ.append {S : MS} {d j : Nat} {D : DK} {c0 : Nat → List UInt8} {W : List (Nat × List UInt8)} {rv v : Value} {half : Nat} {base b : List UInt8} {rs : List (List UInt8)} (h : PJ S d D c0 W j rv half base rs) (hr : Runs D) (hb : RB S v b) (hon : ∀ y, On v y → Fr S d D j rv y) (hbl : b.length ≤ 65536) (hws : D.ws.length ≤ 900000) {Q : Value → MS → Prop}
    (q0 : 32 * D.made.length < liveN base (rs ++ [b]) → Q (.int .i64 192) S)
    (q1 : liveN base (rs ++ [b]) ≤ 32 * D.made.length → ∀ S' D' rv', JGo S d D c0 W j rv S' D' rv' (appW D.made.length half base rs b) → PJ S' d D' c0 (W ++ appW D.made.length half base rs b) j rv' half base (rs ++ [b]) → Runs D' → D'.ws.length ≤ D.ws.length + 300 → D'.made.length = D.made.length → Q (.int .i64 0) S') :
    CallM Try.prog O 11 [.pointer (some ⟨j, 0, none⟩), v] S Q := by
  have hn := h.n
  refine append11 h.is h.hw h.jj h.n h.says.hh h.live hb hon hbl hws (by rw [hr.2]; omega) q0 (fun hf S' D' rv' g jj => ?_) fun hf k S' D' hk hcut g _ => ?_
  · have hm := g.wn.made
    have hlv := g.wn.live hr.1 (by rw [hr.2]; omega)
    have hwl := g.wn.ws
    have hal := @appW_len D.made.length half base b rs hbl
    refine q1 hf S' D' rv' g ⟨g.is, g.hw, jj, ?_, by rw [hm]; exact h.n, by rw [hm]; exact hf⟩ ⟨hlv.1, hlv.2.trans hr.2⟩ (by omega) (by rw [hm])
    rw [hm, appC_app]
    exact app_all h.says h.hw.lens (by omega) b (by omega)
  · have := (g.wn.live hr.1 (by rw [hr.2]; omega)).1
    rw [hcut] at this; cases this
theorem PJ.snap {S : MS} {d j : Nat} {D : DK} {c0 : Nat → List UInt8} {W : List (Nat × List UInt8)} {rv v : Value} {half : Nat} {base b : List UInt8} {rs : List (List UInt8)} (h : PJ S d D c0 W j rv half base rs) (hr : Runs D) (hb : RB S v b) (hon : ∀ y, On v y → Fr S d D j rv y) (hbl : b.length + 8 ≤ 32 * D.made.length) (hws : D.ws.length ≤ 900000) {Q : Value → MS → Prop}
    (q1 : ∀ S' D' rv', JGo S d D c0 W j rv S' D' rv' (snapW D.made.length (1 - half) b) → PJ S' d D' c0 (W ++ snapW D.made.length (1 - half) b) j rv' (1 - half) b [] → Runs D' → D'.ws.length ≤ D.ws.length + 300 → D'.made.length = D.made.length → Q (.int .i64 0) S') :
    CallM Try.prog O 12 [.pointer (some ⟨j, 0, none⟩), v] S Q := by
  have hn := h.n
  refine snap12 h.is h.hw h.jj h.n h.says.hh hb hon (by omega) hws (by rw [hr.2]; omega) (fun hf => absurd hf (by omega)) (fun hf S' D' g jj => ?_) fun hf k S' D' hk hcut g _ => ?_
  · have hm := g.wn.made
    have hlv := g.wn.live hr.1 (by rw [hr.2]; omega)
    have hwl := g.wn.ws
    have hal := @snapW_len D.made.length (1 - half) b (by omega)
    refine q1 S' D' _ g ⟨g.is, g.hw, jj, ?_, by rw [hm]; exact h.n, by rw [hm]; unfold liveN; simp [wsum]; omega⟩ ⟨hlv.1, hlv.2.trans hr.2⟩ (by omega) (by rw [hm])
    rw [hm, appC_app]
    exact snap_all h.hw.lens (by omega) (by omega) b (by rw [laid_len]; omega)
  · have := (g.wn.live hr.1 (by rw [hr.2]; omega)).1
    rw [hcut] at this; cases this
/-- Open: another journal on the same disk -/
theorem openP {S : MS} {d : Nat} {D : DK} {c0 : Nat → List UInt8} {W : List (Nat × List UInt8)} {half end' : Nat} {base : List UInt8} {rs : List (List UInt8)} (h : IsD S d D) (hw : HW S D c0 W) (hcut : D.cut = false) (hn : 64 ≤ D.made.length ∧ D.made.length ≤ 2000) (hs : Says D.made.length (appC c0 W) half end' base rs) (hl : liveN base rs ≤ 32 * D.made.length) {Q : Value → MS → Prop}
    (hq : ∀ j rv S', Old S S' → S.n ≤ j → (∀ y, ¬ Av rv y → S.n ≤ y) → PJ S' d D c0 W j rv half base rs → Q (.tuple #[.pointer (some ⟨j, 0, none⟩), .int .i64 0]) S') : CallM Try.prog O 10 [.pointer (some ⟨d, 0, none⟩)] S Q := by
  refine callM_wf fun wf => open10 h hw.holds hcut hn hs fun j rv S' f h1 h2 jj => hq j rv S' f h1 h2 ⟨h.old' wf f, hw.old wf f, hs.he ▸ jj, hs.he ▸ hs, hn, hl⟩
/-- Format and Open, on a disk that runs on -/
theorem formatP {S : MS} {d : Nat} {D : DK} {c0 : Nat → List UInt8} {W : List (Nat × List UInt8)} {v : Value} {b : List UInt8} (h : IsD S d D) (hw : HW S D c0 W) (hr : Runs D) (hn : 64 ≤ D.made.length ∧ D.made.length ≤ 2000) (hb : RB S v b) (hon : ∀ y, On v y → FrD S d D y) (hbl : b.length + 8 ≤ 32 * D.made.length) (hws : D.ws.length ≤ 900000) {Q : Value → MS → Prop}
    (q1 : ∀ S' D', Goes S d D c0 W S' D' (formW D.made.length b) → Says D'.made.length (appC c0 (W ++ formW D.made.length b)) 0 (liveN b []) b [] → Runs D' → D'.ws.length ≤ D.ws.length + 301 → D'.made.length = D.made.length → Q (.int .i64 0) S') :
    CallM Try.prog O 9 [.pointer (some ⟨d, 0, none⟩), v] S Q := by
  refine format9 h hw hn hb hon hbl hws (by rw [hr.2]; omega) (fun S' D' g => ?_) fun k S' D' hk hcut g => ?_
  · have hm := g.wn.made
    have hlv := g.wn.live hr.1 (by rw [hr.2]; omega)
    have hwl := g.wn.ws
    have hal := @formW_len D.made.length b (by omega)
    refine q1 S' D' g ?_ ⟨hlv.1, hlv.2.trans hr.2⟩ (by omega) (by rw [hm])
    rw [hm, appC_app]
    exact formW_says hw.lens (by omega) b hbl
  · have := (g.wn.live hr.1 (by rw [hr.2]; omega)).1
    rw [hcut] at this; cases this
/-- a new disk -/
theorem newW {S : MS} (n a : Nat) (d : Nat) (h : IsD S d (newDK a n)) : HW S (newDK a n) (fun _ => List.replicate 256 0) [] := by
  refine ⟨fun i hi => ⟨by simp, none, ?_, ?_⟩, rfl, rfl, fun k w x h1 => by cases h1⟩
  · have : i < n := by simpa [newDK] using hi
    simp [newDK, this]
  · exact ⟨by rw [bL_len]; simp, bL_one _, bL_rep 256⟩
end Go.Proofs.Ytmfmbadfgnhonaa
namespace Go.Proofs.Ytmfmbadfgnhonaa
open Go Go.Ag
set_option linter.unusedVariables false
set_option maxRecDepth 100000

/-! ### how arguments read -/
theorem under5 : Try.prog.underlying 5 = some (.int .u8) := by kernel_rfl
theorem under33 : Try.prog.underlying 33 = some (.slice 32) := by kernel_rfl
theorem cells5 : Try.prog.cellsOf 5 = 1 := by kernel_rfl
theorem cells32 : Try.prog.cellsOf 32 = 1 := by kernel_rfl
section
variable {H : Type} {S : MS}
theorem rd_int {t : TypeId} {k : IntKind} (hu : Try.prog.underlying t = some (.int k)) {cs : List Value} {d : DataW H} (h : RdS Try.prog S t cs d) : ∃ n, cs = [.int k n] ∧ (Lit.int k n).wf = true := by
  cases h with
  | int hu' hw => rw [hu] at hu'; cases hu'; exact ⟨_, rfl, hw⟩
  | bool hu' => rw [hu] at hu'; cases hu'
  | string hu' _ => rw [hu] at hu'; cases hu'
  | sliceNil hu' => rw [hu] at hu'; cases hu'
  | sliceZ hu' => rw [hu] at hu'; cases hu'
  | slice vs hu' => rw [hu] at hu'; cases hu'
  | struct hu' => rw [hu] at hu'; cases hu'
theorem list_of_each {α : Type} {p : Nat → α → Prop} : ∀ n, (∀ k, k < n → ∃ x, p k x) → ∃ xs : List α, xs.length = n ∧ ∀ (k : Nat) x, xs[k]? = some x → p k x := by
  intro n
  induction n with
  | zero => intro _; exact ⟨[], rfl, fun k x h => by cases h⟩
  | succ n ih =>
    intro h
    obtain ⟨xs, h1, h2⟩ := ih fun k hk => h k (by omega)
    obtain ⟨x, hx⟩ := h n (by omega)
    refine ⟨xs ++ [x], by simp [h1], fun k y hy => ?_⟩
    rw [List.getElem?_append] at hy
    split at hy
    · exact h2 k y hy
    · rename_i hk
      have : k = n := by have := (List.getElem?_eq_some_iff.1 hy).1; simp at this; omega
      subst this
      simp [h1] at hy
      subst hy; exact hx

theorem flat1 : ∀ (vs : List (List Value)), (∀ y ∈ vs, y.length = 1) → vs.flatten.length = vs.length ∧ ∀ (k : Nat), vs.flatten[k]? = (vs[k]?).bind (·[0]?) := by
  intro vs
  induction vs with
  | nil => intro _; exact ⟨rfl, fun k => rfl⟩
  | cons v vs ih =>
    intro h
    have hv := h v (by simp)
    obtain ⟨h1, h2⟩ := ih fun y hy => h y (by simp [hy])
    match v, hv with
    | [x], _ =>
      refine ⟨by simp [h1], fun k => ?_⟩
      cases k with
      | zero => rfl
      | succ k => simpa using h2 k
theorem unk_reach : reachBytes < unk := by decide
/-- bytes -/
theorem rd_bytes {cs : List Value} {d : DataW H} (h : RdS Try.prog S 32 cs d) : ∃ v bs, cs = [v] ∧ RB S v bs ∧ bs.length ≤ reachBytes ∧ ∀ y, On v y → ∃ l, S.m y = some (.ro l) := by
  cases h with
  | bool hu' => rw [under32] at hu'; cases hu'
  | int hu' => rw [under32] at hu'; cases hu'
  | string hu' _ => rw [under32] at hu'; cases hu'
  | struct hu' => rw [under32] at hu'; cases hu'
  | sliceNil hu' => exact ⟨_, [], rfl, .nil, Nat.zero_le _, fun y ⟨o, n, c, e⟩ => by cases e⟩
  | sliceZ hu' => exact ⟨_, [], rfl, .inr (.inl ⟨rfl, rfl⟩), Nat.zero_le _, fun y ⟨o, n, c, e⟩ => by cases e⟩
  | slice vs hu hcap hlen hmax he hs hvs hb hsz hr =>
    rename_i e b len cap elems spare
    rw [under32] at hu; cases hu
    rw [cells5] at hsz
    have hst : ∀ k, k < len → ∃ x : UInt8, vs[k]? = some [.int .u8 x.toNat] := by
      intro k hk
      have hkv : k < vs.length := by omega
      have hkd : k < (elems ++ spare).length := by rw [List.length_append]; omega
      obtain ⟨n, h1, h2⟩ := rd_int under5 (hr k _ _ (List.getElem?_eq_getElem hkv) (List.getElem?_eq_getElem hkd))
      simp [Lit.wf, IntKind.min, IntKind.max, IntKind.signed, IntKind.bits] at h2
      refine ⟨UInt8.ofNat n.toNat, ?_⟩
      rw [List.getElem?_eq_getElem hkv, h1, u8_nat _ (by omega), Int.toNat_of_nonneg (by omega)]
    obtain ⟨bs, hbl, hx⟩ := list_of_each (p := fun k (x : UInt8) => vs[k]? = some [.int .u8 x.toNat]) len hst
    obtain ⟨f1, f2⟩ := flat1 vs hsz
    have hlr := unk_reach
    refine ⟨_, bs, rfl, .inr (.inr ⟨b, 0, cap, vs.flatten, by rw [hbl], list_of hb, by omega, ?_, by omega, .inl (by omega)⟩), by omega, fun y ⟨o, n, c, e⟩ => by cases e; exact ⟨_, hb⟩⟩
    refine List.ext_getElem? fun k => ?_
    rw [List.getElem?_take, List.drop_zero]
    by_cases hk : k < bs.length
    · obtain ⟨x, hxk⟩ : ∃ x, bs[k]? = some x := ⟨_, List.getElem?_eq_getElem hk⟩
      rw [if_pos hk, f2, hx k x hxk, bL_get hxk]; rfl
    · rw [if_neg hk, List.getElem?_eq_none (by rw [bL_len]; omega)]
theorem rd_sv {t : TypeId} {cs : List Value} {d : DataW H} {v : Value} (h : (∃ fs, Try.prog.underlying t = some (.struct fs)) ∧ v = .agg cs.toArray ∨ (∀ fs, Try.prog.underlying t ≠ some (.struct fs)) ∧ cs = [v]) (hu : ∀ fs, Try.prog.underlying t ≠ some (.struct fs)) : cs = [v] := by
  rcases h with ⟨⟨fs, hf⟩, _⟩ | ⟨_, h⟩
  · exact absurd hf (hu fs)
  · exact h
end
end Go.Proofs.Ytmfmbadfgnhonaa

