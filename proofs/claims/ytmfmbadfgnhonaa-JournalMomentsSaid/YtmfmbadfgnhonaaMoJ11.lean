/-
  The walk through the journal's code: what its functions do to memory, part MoJ11. Nothing is asked.
-/
import Derived.Test.YtmfmbadfgnhonaaMoJ10
set_option linter.all false
namespace Go.Proofs.Ytmfmbadfgnhonaa
open Go Go.Ag
set_option linter.unusedVariables false
set_option maxRecDepth 100000

/-! ### plain facts: what writes make of what a disk says -/
theorem catB_get {c : Nat → List UInt8} {p : Nat} : ∀ (k : Nat), (∀ i, i < k → (c (p + i)).length = 256) → ∀ x, x < 256 * k → (catB c p k)[x]? = (c (p + x / 256))[x % 256]?
  | 0, _, x, h => by omega
  | k + 1, hl, x, h => by
    have hk := catB_len k fun i hi => hl i (by omega)
    rw [catB]
    by_cases hx : x < 256 * k
    · rw [List.getElem?_append_left (by rw [hk]; exact hx)]
      exact catB_get k (fun i hi => hl i (by omega)) x hx
    · rw [List.getElem?_append_right (by rw [hk]; omega), hk]
      have h1 : x / 256 = k := by omega
      have h2 : x % 256 = x - 256 * k := by omega
      rw [h1, h2]
/-- what stands in blocks, byte by byte -/
def Stands (c : Nat → List UInt8) (p : Nat) (l : List UInt8) : Prop := ∀ x, x < l.length → (c (p + x / 256))[x % 256]? = l[x]?
theorem stands_of {c : Nat → List UInt8} {p e : Nat} {l : List UInt8} (hl : ∀ i, i < (e + 255) / 256 → (c (p + i)).length = 256) (h : (catB c p ((e + 255) / 256)).take e = l) : l.length = e ∧ Stands c p l := by
  have hk := catB_len _ hl
  have hle : e ≤ 256 * ((e + 255) / 256) := by omega
  have hll : l.length = e := by rw [← h, List.length_take, hk]; omega
  refine ⟨hll, fun x hx => ?_⟩
  rw [← catB_get _ hl x (by omega), ← h, List.getElem?_take, if_pos (by omega)]
theorem of_stands {c : Nat → List UInt8} {p : Nat} {l : List UInt8} (hl : ∀ i, i < (l.length + 255) / 256 → (c (p + i)).length = 256) (h : Stands c p l) : (catB c p ((l.length + 255) / 256)).take l.length = l := by
  have hk := catB_len _ hl
  refine List.ext_getElem? fun x => ?_
  rw [List.getElem?_take]
  by_cases hx : x < l.length
  · rw [if_pos hx, catB_get _ hl x (by omega)]; exact h x hx
  · rw [if_neg hx, List.getElem?_eq_none (by omega)]

theorem pieceN_get (bs : List UInt8) (i y : Nat) (hy : y < 256) (h : 256 * i + y < bs.length) : (pieceN bs i)[y]? = bs[256 * i + y]? := by
  unfold pieceN
  rw [List.getElem?_append_left (by rw [List.length_take, List.length_drop]; omega), List.getElem?_take, if_pos hy, List.getElem?_drop]
/-- blocks behind the first k pieces -/
theorem appC_pieces (c : Nat → List UInt8) (bs : List UInt8) (p : Nat) : ∀ k, k ≤ pieceK bs → ∀ j, appC c ((piecesN bs p).take k) j = if p ≤ j ∧ j < p + k then pieceN bs (j - p) else c j := by
  intro k
  induction k with
  | zero => intro _ j; rw [if_neg (by omega)]; rfl
  | succ k ih =>
    intro hk j
    rw [piecesN_take _ _ _ (by omega), appC_snoc]
    simp only
    by_cases e : j = p + k
    · subst e
      rw [if_pos rfl, if_pos (by omega)]
      congr 1; omega
    · rw [if_neg e, ih (by omega) j]
      by_cases e2 : p ≤ j ∧ j < p + k
      · rw [if_pos e2, if_pos (by omega)]
      · rw [if_neg e2, if_neg (by omega)]
theorem appC_all (c : Nat → List UInt8) (bs : List UInt8) (p : Nat) (w : List UInt8) (hp : 1 ≤ p) (j : Nat) : appC c (piecesN bs p ++ [(0, w)]) j = if j = 0 then w else if p ≤ j ∧ j < p + pieceK bs then pieceN bs (j - p) else c j := by
  rw [appC_snoc]
  simp only
  by_cases e : j = 0
  · rw [if_pos e, if_pos e]
  · rw [if_neg e, if_neg e]
    have := appC_pieces c bs p (pieceK bs) (Nat.le_refl _) j
    rw [← piecesN_len bs p, List.take_length, piecesN_len] at this
    exact this

/-- bytes that were just laid down stand -/
theorem stands_new (c : Nat → List UInt8) (bs : List UInt8) (p : Nat) (w : List UInt8) (hp : 1 ≤ p) : Stands (appC c (piecesN bs p ++ [(0, w)])) p bs := fun x hx => by
  rw [appC_all _ _ _ _ hp, if_neg (by omega), if_pos (by unfold pieceK; omega), show p + x / 256 - p = x / 256 by omega, pieceN_get _ _ _ (by omega) (by omega)]
  congr 1; omega

def Len (n : Nat) (c : Nat → List UInt8) : Prop := ∀ i, i < n → (c i).length = 256
theorem Len.appC {n : Nat} {V : List (Nat × List UInt8)} : ∀ {c : Nat → List UInt8}, Len n c → (∀ w ∈ V, w.2.length = 256) → Len n (appC c V) := by
  induction V with
  | nil => intro c h _; exact h
  | cons w V ih =>
    intro c h hv
    refine ih (c := fun j => if j = w.1 then w.2 else c j) (fun i hi => ?_) fun x hx => hv x (List.mem_cons_of_mem _ hx)
    simp only
    split
    · exact hv w List.mem_cons_self
    · exact h i hi
theorem pieces_len (bs : List UInt8) (p : Nat) : ∀ w ∈ piecesN bs p, w.2.length = 256 := by
  intro w hw
  obtain ⟨i, _, rfl⟩ := List.mem_map.1 hw
  exact pieceN_len _ _

theorem Says.mk' {n : Nat} {c : Nat → List UInt8} {half : Nat} {base : List UInt8} {rs : List (List UInt8)} (hl : Len n c) (hh : half ≤ 1) (hn : 1 ≤ n) (h0 : c 0 = headB half (liveN base rs)) (hle : liveN base rs ≤ (n - 1) / 2 * 256) (hs : Stands c (placeN n half) (allB base rs)) : Says n c half (liveN base rs) base rs := by
  refine ⟨hh, h0, rfl, hle, ?_⟩
  have hmul : half * ((n - 1) / 2) ≤ 1 * ((n - 1) / 2) := Nat.mul_le_mul_right _ hh
  have := of_stands (c := c) (p := placeN n half) (l := allB base rs) (fun i hi => hl _ (by rw [allB_len] at hi; unfold placeN; omega)) hs
  rwa [allB_len] at this
theorem Says.stands {n : Nat} {c : Nat → List UInt8} {half end' : Nat} {base : List UInt8} {rs : List (List UInt8)} (h : Says n c half end' base rs) (hl : Len n c) (hn : 1 ≤ n) : Stands c (placeN n half) (allB base rs) := by
  have hh := h.hh
  have hle := h.le
  have hmul : half * ((n - 1) / 2) ≤ 1 * ((n - 1) / 2) := Nat.mul_le_mul_right _ hh
  exact (stands_of (fun i hi => hl _ (by unfold placeN; omega)) h.all).2

/-- where blocks that don't matter were written, all says what it said -/
theorem Says.other {n : Nat} {c c' : Nat → List UInt8} {half end' : Nat} {base : List UInt8} {rs : List (List UInt8)} (h : Says n c half end' base rs) (hl : Len n c) (hl' : Len n c') (hn : 1 ≤ n) (h0 : c' 0 = c 0) (hs : ∀ x, x < end' → (c' (placeN n half + x / 256))[x % 256]? = (c (placeN n half + x / 256))[x % 256]?) : Says n c' half end' base rs := by
  have hst := h.stands hl hn
  have he := h.he
  subst he
  exact Says.mk' hl' h.hh hn (h0.trans h.c0) h.le fun x hx => by
    rw [hs x (by rw [allB_len] at hx; exact hx)]; exact hst x hx

/-! #### a snapshot -/
theorem snap_part {n : Nat} {c : Nat → List UInt8} {half end' : Nat} {base : List UInt8} {rs : List (List UInt8)} (h : Says n c half end' base rs) (hl : Len n c) (hn : 1 ≤ n) (b : List UInt8) (hb : (laid b).length ≤ (n - 1) / 2 * 256) {k : Nat} (hk : k ≤ pieceK (laid b)) : Says n (appC c ((piecesN (laid b) (placeN n (1 - half))).take k)) half end' base rs := by
  have hh := h.hh
  have hle := h.le
  have hpk : pieceK (laid b) ≤ (n - 1) / 2 := by unfold pieceK; omega
  refine h.other hl (hl.appC fun w hw => pieces_len _ _ w (List.mem_of_mem_take hw)) hn ?_ fun x hx => ?_
  · rw [appC_pieces _ _ _ _ hk, if_neg (by unfold placeN; omega)]
  · rw [appC_pieces _ _ _ _ hk, if_neg]
    unfold placeN
    rcases (by omega : half = 0 ∨ half = 1) with rfl | rfl <;> simp <;> omega
theorem snap_all {n : Nat} {c : Nat → List UInt8} {half : Nat} (hl : Len n c) (hn : 1 ≤ n) (hh : half ≤ 1) (b : List UInt8) (hb : (laid b).length ≤ (n - 1) / 2 * 256) : Says n (appC c (piecesN (laid b) (placeN n half) ++ [(0, headB half (laid b).length)])) half (liveN b []) b [] := by
  have e : (laid b).length = liveN b [] := by rw [laid_len]; rfl
  have e2 : allB b [] = laid b := by simp [allB]
  refine Says.mk' (hl.appC fun w hw => ?_) hh hn ?_ (by rw [← e]; exact hb) ?_
  · rcases List.mem_append.1 hw with hw | hw
    · exact pieces_len _ _ w hw
    · have : w = (0, headB half (laid b).length) := by simpa using hw
      subst this; exact headB_len _ _
  · rw [appC_all _ _ _ _ (by unfold placeN; omega), if_pos rfl, e]
  · rw [e2]; exact stands_new _ _ _ _ (by unfold placeN; omega)

/-! #### a record behind the others -/
/-- the last block's bytes, and the record -/
def lastB (base : List UInt8) (rs : List (List UInt8)) (b : List UInt8) : List UInt8 := (allB base rs).drop (liveN base rs / 256 * 256) ++ laid b
theorem lastB_eq (base : List UInt8) (rs : List (List UInt8)) (b : List UInt8) : lastB base rs b = (allB base (rs ++ [b])).drop (liveN base rs / 256 * 256) := by
  unfold lastB
  rw [allB_snoc, List.drop_append_of_le_length (by rw [allB_len]; omega)]
theorem liveN_snoc (base : List UInt8) (rs : List (List UInt8)) (b : List UInt8) : liveN base (rs ++ [b]) = liveN base rs + (b.length + 8) := by
  unfold liveN; rw [wsum_append]; simp [wsum]; omega
theorem lastB_len (base : List UInt8) (rs : List (List UInt8)) (b : List UInt8) : (lastB base rs b).length = liveN base rs % 256 + (b.length + 8) := by
  unfold lastB
  rw [List.length_append, List.length_drop, allB_len, laid_len]; omega
theorem app_part {n : Nat} {c : Nat → List UInt8} {half end' : Nat} {base : List UInt8} {rs : List (List UInt8)} (h : Says n c half end' base rs) (hl : Len n c) (hn : 1 ≤ n) (b : List UInt8) {k : Nat} (hk : k ≤ pieceK (lastB base rs b)) : Says n (appC c ((piecesN (lastB base rs b) (placeN n half + end' / 256)).take k)) half end' base rs := by
  have hst := h.stands hl hn
  have hh := h.hh
  have he := h.he
  have hll := lastB_len base rs b
  refine h.other hl (hl.appC fun w hw => pieces_len _ _ w (List.mem_of_mem_take hw)) hn ?_ fun x hx => ?_
  · rw [appC_pieces _ _ _ _ hk, if_neg (by unfold placeN; omega)]
  · rw [appC_pieces _ _ _ _ hk]
    split
    · rename_i hx2
      have hd : x / 256 = end' / 256 := by omega
      rw [hst x (by rw [allB_len]; omega), hd, show placeN n half + end' / 256 - (placeN n half + end' / 256) = 0 by omega, pieceN_get _ _ _ (by omega) (by omega), lastB_eq, List.getElem?_drop, allB_snoc, List.getElem?_append_left (by rw [allB_len]; omega)]
      congr 1; omega
    · rfl
theorem app_all {n : Nat} {c : Nat → List UInt8} {half end' : Nat} {base : List UInt8} {rs : List (List UInt8)} (h : Says n c half end' base rs) (hl : Len n c) (hn : 1 ≤ n) (b : List UInt8) (hb : liveN base (rs ++ [b]) ≤ (n - 1) / 2 * 256) : Says n (appC c (piecesN (lastB base rs b) (placeN n half + end' / 256) ++ [(0, headB half (liveN base (rs ++ [b])))])) half (liveN base (rs ++ [b])) base (rs ++ [b]) := by
  have hst := h.stands hl hn
  have hh := h.hh
  have he := h.he
  have hll := lastB_len base rs b
  have hls := liveN_snoc base rs b
  have hp : 1 ≤ placeN n half := by unfold placeN; omega
  refine Says.mk' (hl.appC fun w hw => ?_) hh hn ?_ hb fun x hx => ?_
  · rcases List.mem_append.1 hw with hw | hw
    · exact pieces_len _ _ w hw
    · have : w = (0, headB half (liveN base (rs ++ [b]))) := by simpa using hw
      subst this; exact headB_len _ _
  · rw [appC_all _ _ _ _ (by omega), if_pos rfl]
  · rw [allB_len] at hx
    rw [appC_all _ _ _ _ (by omega), if_neg (by omega)]
    by_cases hx2 : x / 256 < end' / 256
    · rw [if_neg (by omega), hst x (by rw [allB_len]; omega), allB_snoc, List.getElem?_append_left (by rw [allB_len]; omega)]
    · rw [if_pos (by unfold pieceK; omega), pieceN_get _ _ _ (by omega) (by omega), lastB_eq, List.getElem?_drop]
      congr 1; omega
theorem app_tail (base : List UInt8) (rs : List (List UInt8)) (b : List UInt8) : (lastB base rs b).drop ((lastB base rs b).length - liveN base (rs ++ [b]) % 256) = (allB base (rs ++ [b])).drop (liveN base (rs ++ [b]) / 256 * 256) := by
  have hll := lastB_len base rs b
  have hls := liveN_snoc base rs b
  rw [lastB_eq, List.drop_drop, ← lastB_eq, hll]
  congr 1; omega
end Go.Proofs.Ytmfmbadfgnhonaa
namespace Go.Proofs.Ytmfmbadfgnhonaa
open Go Go.Ag
set_option linter.unusedVariables false
set_option maxRecDepth 100000

theorem jl0 (d : Nat) (h e : Int) (a b c : Value) (k : Bool) : (jouL d h e a b c k)[0]? = some (.pointer (some ⟨d, 0, none⟩)) := rfl
theorem jl1 (d : Nat) (h e : Int) (a b c : Value) (k : Bool) : (jouL d h e a b c k)[1]? = some (.int .i64 h) := rfl
theorem jl2 (d : Nat) (h e : Int) (a b c : Value) (k : Bool) : (jouL d h e a b c k)[2]? = some (.int .i64 e) := rfl
theorem jl5 (d : Nat) (h e : Int) (a b c : Value) (k : Bool) : (jouL d h e a b c k)[5]? = some c := rfl
theorem js1 (d : Nat) (h e x : Int) (a b c : Value) (k : Bool) : (jouL d h e a b c k).set 1 (.int .i64 x) = jouL d x e a b c k := rfl
theorem js2 (d : Nat) (h e x : Int) (a b c : Value) (k : Bool) : (jouL d h e a b c k).set 2 (.int .i64 x) = jouL d h x a b c k := rfl
theorem js5 (d : Nat) (h e : Int) (a b c x : Value) (k : Bool) : (jouL d h e a b c k).set 5 x = jouL d h e a b x k := rfl

/-- blocks that are neither the disk's nor the journal's -/
def Fr (S : MS) (d : Nat) (D : DK) (j : Nat) (rv : Value) (y : Nat) : Prop := FrD S d D y ∧ y ≠ j ∧ Av rv y
/-- a journal on its disk goes on -/
structure JGo (S : MS) (d : Nat) (D : DK) (c0 : Nat → List UInt8) (W : List (Nat × List UInt8)) (j : Nat) (rv : Value) (S' : MS) (D' : DK) (rv' : Value) (V : List (Nat × List UInt8)) : Prop where
  is : IsD S' d D'
  hw : HW S' D' c0 (W ++ V)
  wn : Wn D D' V.length
  le : S.n ≤ S'.n
  fr : ∀ y, Fr S d D j rv y → S'.m y = S.m y ∧ Fr S' d D' j rv' y
section
variable {S S1 S2 : MS} {d j : Nat} {D D1 D2 : DK} {c0 : Nat → List UInt8} {W V U : List (Nat × List UInt8)} {rv rv1 : Value}
theorem JGo.refl (h : IsD S d D) (hw : HW S D c0 W) : JGo S d D c0 W j rv S D rv [] := ⟨h, by rw [List.append_nil]; exact hw, Wn.refl D, Nat.le_refl _, fun y hy => ⟨rfl, hy⟩⟩
theorem JGo.goes (h : JGo S d D c0 W j rv S1 D1 rv1 V) (g : Goes S1 d D1 c0 (W ++ V) S2 D2 U) : JGo S d D c0 W j rv S2 D2 rv1 (V ++ U) :=
  ⟨g.is, by rw [← List.append_assoc]; exact g.hw, by rw [List.length_append]; exact h.wn.trans g.wn, Nat.le_trans h.le g.le, fun y hy => by
    obtain ⟨h1, h2⟩ := h.fr y hy
    obtain ⟨h3, h4⟩ := g.fr y h2.1
    exact ⟨h3.trans h1, h4, h2.2⟩⟩
theorem JGo.trans {rv2 : Value} (h : JGo S d D c0 W j rv S1 D1 rv1 V) (g : JGo S1 d D1 c0 (W ++ V) j rv1 S2 D2 rv2 U) : JGo S d D c0 W j rv S2 D2 rv2 (V ++ U) :=
  ⟨g.is, by rw [← List.append_assoc]; exact g.hw, by rw [List.length_append]; exact h.wn.trans g.wn, Nat.le_trans h.le g.le, fun y hy => by
    obtain ⟨h1, h2⟩ := h.fr y hy
    obtain ⟨h3, h4⟩ := g.fr y h2
    exact ⟨h3.trans h1, h4⟩⟩
theorem JGo.old (h : JGo S d D c0 W j rv S1 D1 rv1 V) (wf : S1.WF) (f : Old S1 S2) : JGo S d D c0 W j rv S2 D1 rv1 V := by
  have := h.goes (Goes.old h.is h.hw wf f)
  rwa [List.append_nil] at this
/-- the journal's struct is changed -/
theorem JGo.touch (h : JGo S d D c0 W j rv S1 D1 rv1 V) (wf : S1.WF) (hj : FrD S1 d D1 j) {l : List Value} (hl : S1.m j = some (.cells l 0)) (hl7 : l.length = 7) (hn : S2.n = S1.n) (hm : ∀ x, x ≠ j → S2.m x = S1.m x) : JGo S d D c0 W j rv S2 D1 rv1 V := by
  refine ⟨h.is.keep fun x hx => ?_, h.hw.keep fun x hx => ?_, h.wn, by rw [hn]; exact h.le, fun y hy => ?_⟩
  · rcases hx with rfl | rfl | rfl | ⟨hw, rfl⟩
    · exact hm _ (Ne.symm hj.2.1)
    · exact hm _ (Ne.symm hj.2.2.2.2)
    · exact hm _ (Ne.symm hj.2.2.1)
    · exact hm _ (Ne.symm (hj.2.2.2.1 hw))
  · obtain ⟨l', h1, h2⟩ := hx
    refine hm x fun e => ?_
    subst e
    rw [hl] at h1; cases h1; omega
  · obtain ⟨h1, h2⟩ := h.fr y hy
    exact ⟨(hm y h2.2.1).trans h1, ⟨by rw [hn]; exact h2.1.1, h2.1.2⟩, h2.2⟩
/-- the records' slice grows -/
theorem JGo.app {B : Nat} {rv2 : Value} {rl : List Sv} (h : JGo S d D c0 W j rv S1 D1 rv1 V) (wf : S1.WF) (hs : SlF svF 1 S1 B rv1 rl) (hf : ∀ y, ¬ Av rv1 y → FrD S1 d D1 y) (hn : S1.n ≤ S2.n) (hm : ∀ y, y < S1.n → Av rv1 y → S2.m y = S1.m y) (ha : ∀ y, y < S1.n → Av rv1 y → Av rv2 y) : JGo S d D c0 W j rv S2 D1 rv2 V := by
  have hav : ∀ y, ¬ FrD S1 d D1 y → Av rv1 y := fun y hy => Classical.byContradiction fun h => hy (hf y h)
  refine ⟨h.is.keep fun x hx => ?_, h.hw.keep fun x hx => ?_, h.wn, Nat.le_trans h.le hn, fun y hy => ?_⟩
  · rcases hx with rfl | rfl | rfl | ⟨hw, rfl⟩
    · exact hm _ (wf _ _ h.is.hd) (hav _ fun e => e.2.1 rfl)
    · exact hm _ (wf _ _ h.is.hm) (hav _ fun e => e.2.2.2.2 rfl)
    · exact hm _ (wf _ _ h.is.hn) (hav _ fun e => e.2.2.1 rfl)
    · exact hm _ (wf _ _ (h.is.hw hw)) (hav _ fun e => e.2.2.2.1 hw rfl)
  · obtain ⟨l', h1, h2⟩ := hx
    refine hm x (wf _ _ h1) ?_
    cases hs with
    | non => intro l c e; cases e
    | own hb hB hc hj =>
      intro l c e
      cases e
      rw [hb] at h1; cases h1
  · obtain ⟨h1, h2⟩ := h.fr y hy
    exact ⟨(hm y h2.1.1 h2.2.2).trans h1, ⟨Nat.lt_of_lt_of_le h2.1.1 hn, h2.1.2⟩, h2.2.1, ha y h2.1.1 h2.2.2⟩
theorem Fr.old (f : Old S S1) {y : Nat} (h : Fr S d D j rv y) : Fr S1 d D j rv y := ⟨h.1.old f, h.2⟩
theorem JJ.old {half end' : Nat} {base : List UInt8} {rs : List (List UInt8)} {dead : Bool} (h : JJ S d D j rv half end' base rs dead) (f : Old S S1) : JJ S1 d D j rv half end' base rs dead := h.keep fun y hy => ⟨f.2 y hy.1, hy.old f⟩
/-- a new block is nobody's -/
theorem Fr.new {half end' : Nat} {base : List UInt8} {rs : List (List UInt8)} {dead : Bool} (h : IsD S d D) (wf : S.WF) (hj : JJ S d D j rv half end' base rs dead) {y : Nat} (h1 : S.n ≤ y) (h2 : y < S1.n) : Fr S1 d D j rv y :=
  ⟨FrD.new h wf h1 h2, fun e => by have := hj.fj.1.1; omega, Classical.byContradiction fun e => by have := (hj.frv y e).1; omega⟩
end

/-- dies, of a journal -/
theorem dies41J {S : MS} {d j : Nat} {D : DK} {rv : Value} {half end' : Nat} {base : List UInt8} {rs : List (List UInt8)} {dead : Bool} (hj : JJ S d D j rv half end' base rs dead) (e : Int) (he : e ≠ 0) {Q : Value → MS → Prop}
    (hq : ∀ S', JJ S' d D j rv half end' base rs true → S'.n = S.n → (∀ x, x ≠ j → S'.m x = S.m x) → Q (.int .i64 e) S') : CallM Try.prog O 41 [.pointer (some ⟨j, 0, none⟩), .int .i64 e] S Q := by
  obtain ⟨bv, tv, rl, h1, h2, h3, h4, h5, h6⟩ := hj.ex
  refine dies41 h1 e he fun S' g1 g2 g3 => hq S' ⟨⟨bv, tv, rl, g1, h2.keepOn fun y hy => g3 y (h6 y (.inl hy)).2.1, h3.keep1 fun y k hy _ => g3 y fun e => ?_, ⟨h4.1, fun i x r hx hr => (h4.2 i x r hx hr).keepOn fun y hy => g3 y (h6 y (.inr (.inr ⟨x, List.mem_of_getElem? hx, hy⟩))).2.1⟩, h5.keepOn fun y hy => g3 y (h6 y (.inr (.inl hy))).2.1, fun y hy => ?_⟩, ?_, fun y hy => ?_⟩ g2 g3
  · subst e; exact hy hj.fj.2
  · obtain ⟨k1, k2⟩ := h6 y hy
    exact ⟨⟨by rw [g2]; exact k1.1, k1.2⟩, k2⟩
  · exact ⟨⟨by rw [g2]; exact hj.fj.1.1, hj.fj.1.2⟩, hj.fj.2⟩
  · have := hj.frv y hy
    exact ⟨by rw [g2]; exact this.1, this.2⟩

theorem fin11 {S S1 : MS} {d j : Nat} {D D1 : DK} {c0 : Nat → List UInt8} {W V : List (Nat × List UInt8)} {rv v v7 : Value} {half : Nat} {base b : List UInt8} {rs : List (List UInt8)} (hg : JGo S d D c0 W j rv S1 D1 rv V) (wf1 : S1.WF) (hj : JJ S1 d D1 j rv half (liveN base rs) base rs false) (hb : RB S1 v b) (hon : ∀ y, On v y → Fr S1 d D1 j rv y) (hv7 : RB S1 v7 (lastB base rs b)) (hbl : b.length ≤ 65536) (hlive : liveN base (rs ++ [b]) ≤ 400000)
    {T : FT} (t0 : T.get 0 = .pointer (some ⟨j, 0, none⟩)) (t1 : T.get 1 = v) (t5 : T.get 5 = v7) (t7 : T.get 7 = .int .i64 (liveN base (rs ++ [b]) : Nat)) :
    MWp Try.prog O 111 (.seq (.region 15 (ro 11 15) false) (.seq (.region 16 (ro 11 16) false) (.seq (.region 17 (ro 11 17) true) (.seq (.region 18 (ro 11 18) false) .ret)))) T S1 fun x T' S' => x = .ret ∧ T'.get 4 = .int .i64 0 ∧ ∃ rv', JGo S d D c0 W j rv S' D1 rv' V ∧ JJ S' d D1 j rv' half (liveN base (rs ++ [b])) base (rs ++ [b]) false := by
  obtain ⟨bv, tv, rl, h1, h2, h3, h4, h5, h6⟩ := hj.ex
  have hjlt := wf1 _ _ h1
  have hll := lastB_len base rs b
  have hls := liveN_snoc base rs b
  refine m_seq (m_reg ?_)
  rw [reg11_15]
  obtain ⟨e2, he2⟩ : ∃ e2, e2 = liveN base (rs ++ [b]) := ⟨_, rfl⟩
  rw [← he2] at t7 hlive hls ⊢
  have w1 : (e2 : Int).tmod 256 = ((e2 % 256 : Nat) : Int) := by rw [Int.tmod_eq_emod_of_nonneg (by omega)]; rfl
  have q1 : abin Try.prog .rem 3 (.tmp 89) (.const (.int .i64 256)) (.int .i64 (e2 : Int)) (.int .i64 256) = some (.int .i64 ((e2 % 256 : Nat) : Int)) := by rw [abin_rem _ _ _ _ _ _ _ (by decide), w1]
  have w2 : IntKind.i64.wrap (((lastB base rs b).length : Int) - ((e2 % 256 : Nat) : Int)) = (((lastB base rs b).length - e2 % 256 : Nat) : Int) := by rw [wrap_i64 (by omega) (by omega)]; omega
  obtain ⟨v8, a1, a2⟩ := hv7.sub (i := (lastB base rs b).length - e2 % 256) (j := (lastB base rs b).length) (low := some (.int .i64 (((lastB base rs b).length - e2 % 256 : Nat) : Int))) (high := none) (by omega) (Nat.le_refl _) (.inr rfl) (.inl ⟨rfl, rfl⟩)
  rw [List.take_of_length_le (by rw [List.length_drop]; omega)] at a2
  have htail := app_tail base rs b
  rw [← he2] at htail
  rw [htail] at a2
  have hal : ((allB base (rs ++ [b])).drop (e2 / 256 * 256)).length ≤ 255 := by rw [List.length_drop, allB_len, ← he2]; omega
  simp (decide := true) only [FT.get_set, FT.setL, faS_ptr, nilS_ptr, nilS_func, nilS_yield, pickS_bool, ldS_ptr, list_cells, list_ro, partS_none, lenSl_of, lenStr_of, cvInt_of, aminmax_max, aminmax_min, abin_add, abin_sub, abin_mul, abin_eql, abin_neq, abin_lss, abin_leq, abin_gtr, abin_geq, aunary_not, aextract, Option.some.injEq, Prod.mk.injEq, Value.bool.injEq, exists_eq_left', exists_and_left, and_assoc, decide_eq_true_eq, decide_eq_false_iff_not, if_true, if_false, Nat.zero_add, Nat.add_zero, Option.bind_some, true_and, and_true, forall_const, true_implies, Bool.not_eq_true, Bool.false_eq_true, false_implies, ite_self, Nat.mul_one, t0, t5, t7, hv7.len, q1, w2, a1]
  refine callM_wf_post (clone40 a2 (by omega) fun v9 S2 f2 s9 wf2 => ?_)
  have hj2 : S2.m j = some (.cells (jouL d half (liveN base rs : Nat) bv rv tv false) 0) := by rw [f2.2 j hjlt]; exact h1
  obtain ⟨S3, u1, u2, u3, u4⟩ := st_one (off := 5) (v := v9) hj2 (by rw [jlen]; decide) (SlF.one s9).1 (SlF.one s9).2
  rw [js5] at u2
  refine ⟨S3, u1, ?_⟩
  refine m_seq (m_reg ?_)
  rw [reg11_16]
  obtain ⟨S4, x1, x2, x3, x4⟩ := st_one (off := 2) (v := .int .i64 e2) u2 (by rw [jlen]; decide) rfl rfl
  rw [js2] at x2
  simp (decide := true) only [FT.get_set, FT.setL, faS_ptr, nilS_ptr, nilS_func, nilS_yield, pickS_bool, ldS_ptr, list_cells, list_ro, partS_none, lenSl_of, lenStr_of, cvInt_of, aminmax_max, aminmax_min, abin_add, abin_sub, abin_mul, abin_eql, abin_neq, abin_lss, abin_leq, abin_gtr, abin_geq, aunary_not, aextract, Option.some.injEq, Prod.mk.injEq, Value.bool.injEq, exists_eq_left', exists_and_left, and_assoc, decide_eq_true_eq, decide_eq_false_iff_not, if_true, if_false, Nat.zero_add, Nat.add_zero, Option.bind_some, true_and, and_true, forall_const, true_implies, Bool.not_eq_true, Bool.false_eq_true, false_implies, ite_self, Nat.mul_one, t0, t7]
  refine ⟨S4, x1, ?_⟩
  refine m_wf fun wf4 => m_seq (m_draw ?_)
  rw [reg11_17]
  have e24 : ∀ x, x ≠ j → S4.m x = S2.m x := fun x hx => by rw [x4 x hx, u4 x hx]
  have e14 : ∀ x, x < S1.n → x ≠ j → S4.m x = S1.m x := fun x hx hne => by rw [e24 x hne, f2.2 x hx]
  have hn4 : S4.n = S2.n := by rw [x3, u3]
  have hb4 : RB S4 v b := hb.keepOn fun y hy => e14 y (hon y hy).1.1 (hon y hy).2.1
  simp (decide := true) only [FT.get_set, FT.setL, faS_ptr, nilS_ptr, nilS_func, nilS_yield, pickS_bool, ldS_ptr, list_cells, list_ro, partS_none, lenSl_of, lenStr_of, cvInt_of, aminmax_max, aminmax_min, abin_add, abin_sub, abin_mul, abin_eql, abin_neq, abin_lss, abin_leq, abin_gtr, abin_geq, aunary_not, aextract, Option.some.injEq, Prod.mk.injEq, Value.bool.injEq, exists_eq_left', exists_and_left, and_assoc, decide_eq_true_eq, decide_eq_false_iff_not, if_true, if_false, Nat.zero_add, Nat.add_zero, Option.bind_some, true_and, and_true, forall_const, true_implies, Bool.not_eq_true, Bool.false_eq_true, false_implies, ite_self, Nat.mul_one, t0, t1]
  refine callM_wf_post (clone40 hb4 (by omega) fun v10 S5 f5 s10 wf5 => ?_)
  have hj5 : S5.m j = some (.cells (jouL d half e2 bv rv v9 false) 0) := by rw [f5.2 j (by have := f2.1; omega)]; exact x2
  obtain ⟨s, rfl⟩ := (RB.own s10).sv
  have h15 : ∀ x, x < S1.n → x ≠ j → S5.m x = S1.m x := fun x hx hne => by rw [f5.2 x (by have := f2.1; omega), e14 x hx hne]
  have hrv5 : SlF svF 1 S5 0 rv rl := h3.keep1 fun y k hy hk => h15 y (wf1 _ _ hk) fun e => by subst e; exact hy hj.fj.2
  have hrveq : veq rv rv = true := by cases h3 <;> exact veq_slice _ _ _
  have hbs : bsS S5 1 1 [.slice none 0 0] [(0, s.v)] = some (.slice (some ⟨S5.n, 0, none⟩) 1 1, S5.fresh [s.v] 1) := bsS_one S5 1 _ s.v rfl rfl
  have wf6 := wf_fresh' wf5 [s.v] 1
  have f6 := old_fresh S5 [s.v] 1
  have hnew : firstCellsM (S5.fresh [s.v] 1) 1 [s].length (.slice (some ⟨S5.n, 0, none⟩) 1 1) = some ([s].flatMap svF) := by
    exact (first_of (sz := 1) (n := 1) (len := 1) (cap := 1) (off := 0) (list_of (fresh_at S5 [s.v] 1)) (Nat.le_refl _) (by decide) (by simp)).trans rfl
  have hrv6 : SlF svF 1 (S5.fresh [s.v] 1) 0 rv rl := hrv5.keep fun y k hk => f6.2 y (wf5 _ _ hk)
  have hrl : rl.length ≤ 100000 := by
    have h8 := wsum_len rs
    have : liveN base rs ≤ 400000 := by omega
    unfold liveN at this
    rw [h4.1]; omega
  obtain ⟨rv', S7, c1, c2, c3, c4, c5⟩ := hrv6.app2 (bytes := 24) (z := [.slice none 0 0]) sv_len sv_one (by decide) (x := .slice (some ⟨S5.n, 0, none⟩) 1 1) (new := [s]) wf6 (Nat.zero_le _) rfl hnew (by simp; omega) (by simp; omega)
  have hj7 : S7.m j = some (.cells (jouL d half e2 bv rv v9 false) 0) := by
    have h25 := f2.1
    have h55 := f5.1
    rw [c4 j (by simp only [fresh_n]; omega) hj.fj.2, f6.2 j (by omega)]; exact hj5
  have hone := SlF.one c2
  obtain ⟨S8, y1, y2, y3, y4⟩ := st_one (off := 4) (v := rv') hj7 (by rw [jlen]; decide) hone.1 hone.2
  rw [js4] at y2
  simp (decide := true) only [FT.get_set, FT.setL, faS_ptr, nilS_ptr, nilS_func, nilS_yield, pickS_bool, ldS_ptr, list_cells, list_ro, partS_none, lenSl_of, lenStr_of, cvInt_of, aminmax_max, aminmax_min, abin_add, abin_sub, abin_mul, abin_eql, abin_neq, abin_lss, abin_leq, abin_gtr, abin_geq, aunary_not, aextract, Option.some.injEq, Prod.mk.injEq, Value.bool.injEq, exists_eq_left', exists_and_left, and_assoc, decide_eq_true_eq, decide_eq_false_iff_not, if_true, if_false, Nat.zero_add, Nat.add_zero, Option.bind_some, true_and, and_true, forall_const, true_implies, Bool.not_eq_true, Bool.false_eq_true, false_implies, ite_self, Nat.mul_one, list_of hj5, list_of x2, jl4, hrveq, hbs, c1]
  refine ⟨S8, y1, ?_⟩
  refine m_seq (m_reg ?_)
  rw [reg11_18]
  refine m_wf fun wf8 => m_ret ?_
  simp [FT.get_set, FT.setL, faS_ptr, nilS_ptr, nilS_func, nilS_yield, pickS_bool, ldS_ptr, list_cells, list_ro, partS_none, lenSl_of, lenStr_of, cvInt_of, aminmax_max, aminmax_min, abin_add, abin_sub, abin_mul, abin_eql, abin_neq, abin_lss, abin_leq, abin_gtr, abin_geq, aunary_not, aextract]
  have hn6 : (S5.fresh [s.v] 1).n = S5.n + 1 := rfl
  rw [hn6] at c3 c4 c5
  have n12 := f2.1
  have n45 := f5.1
  -- how the memory goes
  have g2 : JGo S d D c0 W j rv S2 D1 rv V := hg.old wf1 f2
  have fj2 : FrD S2 d D1 j := hj.fj.1.old f2
  have g4 : JGo S d D c0 W j rv S4 D1 rv V := g2.touch wf2 fj2 hj2 (jlen _ _ _ _ _ _ _) hn4 e24
  have g5 : JGo S d D c0 W j rv S5 D1 rv V := g4.old wf4 f5
  have g6 : JGo S d D c0 W j rv (S5.fresh [s.v] 1) D1 rv V := g5.old wf5 f6
  have hfrv : ∀ y, ¬ Av rv y → FrD (S5.fresh [s.v] 1) d D1 y := fun y hy => by
    have := hj.frv y hy
    exact ⟨by rw [hn6]; have := this.1; omega, this.2⟩
  have g7 : JGo S d D c0 W j rv S7 D1 rv' V := g6.app wf6 hrv6 hfrv c3 (by rw [hn6]; exact c4) (by rw [hn6]; exact c5)
  have fj7 : FrD S7 d D1 j := ⟨by omega, hj.fj.1.2⟩
  have wf7 : S7.WF := fun x k hk => by
    by_cases e : x = j
    · omega
    · rw [← y4 x e] at hk; rw [← y3]; exact wf8 x k hk
  have g8 : JGo S d D c0 W j rv S8 D1 rv' V := g7.touch wf7 fj7 hj7 (jlen _ _ _ _ _ _ _) y3 y4
  refine ⟨rv', g8, ?_⟩
  -- the journal
  have hE : ∀ y, y < S1.n → y ≠ j → Av rv y → S8.m y = S1.m y := fun y hy hne hav => by
    rw [y4 y hne, c4 y (by omega) hav, f6.2 y (by omega), h15 y hy hne]
  have hnew1 : ∀ y, S1.n ≤ y → Av rv y := fun y hy => SlF.avN h3 wf1 hy
  have hE2 : ∀ y, S1.n ≤ y → y < S5.n → S8.m y = S5.m y := fun y hy hlt => by
    rw [y4 y (by omega), c4 y (by omega) (hnew1 y hy), f6.2 y hlt]
  have hE24 : ∀ y, S1.n ≤ y → y < S2.n → S5.m y = S2.m y := fun y hy hlt => by rw [f5.2 y (by omega), e24 y (by omega)]
  have hAv' : ∀ y, y < S5.n → Av rv y → Av rv' y := fun y hy hav => c5 y (by omega) hav
  have hFold : ∀ y, y < S1.n → FrD S1 d D1 y → FrD S8 d D1 y := fun y hy hf => ⟨by omega, hf.2⟩
  have hFnew : ∀ y, S1.n ≤ y → y < S8.n → FrD S8 d D1 y := fun y h1 h2 => FrD.new hg.is wf1 h1 h2
  refine ⟨⟨bv, v9, rl ++ [s], y2, h2.keepOn fun y hy => ?_, c2.keep1 fun y k hy _ => ?_, ⟨?_, fun i x r hx hr => ?_⟩, ?_, fun y hy => ?_⟩, ⟨hFold j hjlt hj.fj.1, hAv' j (by omega) hj.fj.2⟩, fun y hy => ?_⟩
  · obtain ⟨k1, k2, k3⟩ := h6 y (.inl hy)
    exact hE y k1.1 k2 k3
  · refine y4 y fun e => ?_
    subst e
    exact hy (hAv' y (by omega) hj.fj.2)
  · rw [List.length_append, List.length_append, h4.1]; rfl
  · by_cases hil : i < rl.length
    · rw [List.getElem?_append_left hil] at hx
      rw [List.getElem?_append_left (by rw [← h4.1]; exact hil)] at hr
      refine (h4.2 i x r hx hr).keepOn fun y hy => ?_
      obtain ⟨k1, k2, k3⟩ := h6 y (.inr (.inr ⟨x, List.mem_of_getElem? hx, hy⟩))
      exact hE y k1.1 k2 k3
    · rw [List.getElem?_append_right (by omega)] at hx
      rw [List.getElem?_append_right (by rw [← h4.1]; omega), ← h4.1] at hr
      obtain ⟨e1, _⟩ := List.getElem?_eq_some_iff.1 hx
      have : i - rl.length = 0 := by simp at e1; omega
      rw [this] at hx hr
      cases hx; cases hr
      refine (RB.own s10).keepOn fun y hy => ?_
      have := SlF.on s10 hy
      exact hE2 y (by omega) ((RB.own s10).on_lt wf5 hy)
  · refine (RB.own s9).keepOn fun y hy => ?_
    have k1 := SlF.on s9 hy
    have k2 := (RB.own s9).on_lt wf2 hy
    rw [hE2 y k1 (by omega), hE24 y k1 k2]
  · rcases hy with hy | hy | ⟨x, hx, hy⟩
    · obtain ⟨k1, k2, k3⟩ := h6 y (.inl hy)
      exact ⟨hFold y k1.1 k1, k2, hAv' y (by have := k1.1; omega) k3⟩
    · have k1 := SlF.on s9 hy
      have k2 := (RB.own s9).on_lt wf2 hy
      exact ⟨hFnew y k1 (by omega), by omega, hAv' y (by omega) (hnew1 y k1)⟩
    · rcases List.mem_append.1 hx with hx | hx
      · obtain ⟨k1, k2, k3⟩ := h6 y (.inr (.inr ⟨x, hx, hy⟩))
        exact ⟨hFold y k1.1 k1, k2, hAv' y (by have := k1.1; omega) k3⟩
      · have : x = s := by simpa using hx
        subst this
        have k1 := SlF.on s10 hy
        have k2 := (RB.own s10).on_lt wf5 hy
        exact ⟨hFnew y (by omega) (by omega), by omega, hAv' y k2 (hnew1 y (by omega))⟩
  · by_cases hlt : y < S1.n
    · exact hFold y hlt (hj.frv y fun hav => hy (hAv' y (by omega) hav))
    · refine hFnew y (by omega) ?_
      exact Nat.lt_of_not_le fun e => hy (SlF.avN c2 wf7 (by omega))
end Go.Proofs.Ytmfmbadfgnhonaa

