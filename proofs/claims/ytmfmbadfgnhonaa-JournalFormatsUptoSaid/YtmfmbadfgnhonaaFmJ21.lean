/-
  The walk through the journal's code: what its functions do to memory, part FmJ21. Nothing is asked.
-/
import Derived.Test.YtmfmbadfgnhonaaFmJ20
set_option linter.all false
namespace Go.Proofs.Ytmfmbadfgnhonaa
open Go Go.Ag
set_option linter.unusedVariables false
set_option maxRecDepth 100000

/-! ### plain facts: what writes make of what a disk says -/
theorem catB_get {c : Nat → List UInt8} {p : Nat} : ∀ (k : Nat), (∀ i, i < k → (c (p + i)).length = 256) → ∀ x, x < 256 * k → (catB c p k)[x]? = (c (p + x / 256))[x % 256]?
  | 0, _, x, h => by omega
  | k + 1, hl, x, h => by
    have hk := catB_len k fun i hi => hl i (by omega)
    rw [catB]
    by_cases hx : x < 256 * k
    · rw [List.getElem?_append_left (by rw [hk]; exact hx)]
      exact catB_get k (fun i hi => hl i (by omega)) x hx
    · rw [List.getElem?_append_right (by rw [hk]; omega), hk]
      have h1 : x / 256 = k := by omega
      have h2 : x % 256 = x - 256 * k := by omega
      rw [h1, h2]
/-- what stands in blocks, byte by byte -/
def Stands (c : Nat → List UInt8) (p : Nat) (l : List UInt8) : Prop := ∀ x, x < l.length → (c (p + x / 256))[x % 256]? = l[x]?
theorem stands_of {c : Nat → List UInt8} {p e : Nat} {l : List UInt8} (hl : ∀ i, i < (e + 255) / 256 → (c (p + i)).length = 256) (h : (catB c p ((e + 255) / 256)).take e = l) : l.length = e ∧ Stands c p l := by
  have hk := catB_len _ hl
  have hle : e ≤ 256 * ((e + 255) / 256) := by omega
  have hll : l.length = e := by rw [← h, List.length_take, hk]; omega
  refine ⟨hll, fun x hx => ?_⟩
  rw [← catB_get _ hl x (by omega), ← h, List.getElem?_take, if_pos (by omega)]
theorem of_stands {c : Nat → List UInt8} {p : Nat} {l : List UInt8} (hl : ∀ i, i < (l.length + 255) / 256 → (c (p + i)).length = 256) (h : Stands c p l) : (catB c p ((l.length + 255) / 256)).take l.length = l := by
  have hk := catB_len _ hl
  refine List.ext_getElem? fun x => ?_
  rw [List.getElem?_take]
  by_cases hx : x < l.length
  · rw [if_pos hx, catB_get _ hl x (by omega)]; exact h x hx
  · rw [if_neg hx, List.getElem?_eq_none (by omega)]

theorem pieceN_get (bs : List UInt8) (i y : Nat) (hy : y < 256) (h : 256 * i + y < bs.length) : (pieceN bs i)[y]? = bs[256 * i + y]? := by
  unfold pieceN
  rw [List.getElem?_append_left (by rw [List.length_take, List.length_drop]; omega), List.getElem?_take, if_pos hy, List.getElem?_drop]
/-- blocks behind the first k pieces -/
theorem appC_pieces (c : Nat → List UInt8) (bs : List UInt8) (p : Nat) : ∀ k, k ≤ pieceK bs → ∀ j, appC c ((piecesN bs p).take k) j = if p ≤ j ∧ j < p + k then pieceN bs (j - p) else c j := by
  intro k
  induction k with
  | zero => intro _ j; rw [if_neg (by omega)]; rfl
  | succ k ih =>
    intro hk j
    rw [piecesN_take _ _ _ (by omega), appC_snoc]
    simp only
    by_cases e : j = p + k
    · subst e
      rw [if_pos rfl, if_pos (by omega)]
      congr 1; omega
    · rw [if_neg e, ih (by omega) j]
      by_cases e2 : p ≤ j ∧ j < p + k
      · rw [if_pos e2, if_pos (by omega)]
      · rw [if_neg e2, if_neg (by omega)]
theorem appC_all (c : Nat → List UInt8) (bs : List UInt8) (p : Nat) (w : List UInt8) (hp : 1 ≤ p) (j : Nat) : appC c (piecesN bs p ++ [(0, w)]) j = if j = 0 then w else if p ≤ j ∧ j < p + pieceK bs then pieceN bs (j - p) else c j := by
  rw [appC_snoc]
  simp only
  by_cases e : j = 0
  · rw [if_pos e, if_pos e]
  · rw [if_neg e, if_neg e]
    have := appC_pieces c bs p (pieceK bs) (Nat.le_refl _) j
    rw [← piecesN_len bs p, List.take_length, piecesN_len] at this
    exact this

/-- bytes that were just laid down stand -/
theorem stands_new (c : Nat → List UInt8) (bs : List UInt8) (p : Nat) (w : List UInt8) (hp : 1 ≤ p) : Stands (appC c (piecesN bs p ++ [(0, w)])) p bs := fun x hx => by
  rw [appC_all _ _ _ _ hp, if_neg (by omega), if_pos (by unfold pieceK; omega), show p + x / 256 - p = x / 256 by omega, pieceN_get _ _ _ (by omega) (by omega)]
  congr 1; omega

def Len (n : Nat) (c : Nat → List UInt8) : Prop := ∀ i, i < n → (c i).length = 256
theorem Len.appC {n : Nat} {V : List (Nat × List UInt8)} : ∀ {c : Nat → List UInt8}, Len n c → (∀ w ∈ V, w.2.length = 256) → Len n (appC c V) := by
  induction V with
  | nil => intro c h _; exact h
  | cons w V ih =>
    intro c h hv
    refine ih (c := fun j => if j = w.1 then w.2 else c j) (fun i hi => ?_) fun x hx => hv x (List.mem_cons_of_mem _ hx)
    simp only
    split
    · exact hv w List.mem_cons_self
    · exact h i hi
theorem pieces_len (bs : List UInt8) (p : Nat) : ∀ w ∈ piecesN bs p, w.2.length = 256 := by
  intro w hw
  obtain ⟨i, _, rfl⟩ := List.mem_map.1 hw
  exact pieceN_len _ _

theorem Says.mk' {n : Nat} {c : Nat → List UInt8} {half : Nat} {base : List UInt8} {rs : List (List UInt8)} (hl : Len n c) (hh : half ≤ 1) (hn : 1 ≤ n) (h0 : c 0 = headB half (liveN base rs)) (hle : liveN base rs ≤ (n - 1) / 2 * 256) (hs : Stands c (placeN n half) (allB base rs)) : Says n c half (liveN base rs) base rs := by
  refine ⟨hh, h0, rfl, hle, ?_⟩
  have hmul : half * ((n - 1) / 2) ≤ 1 * ((n - 1) / 2) := Nat.mul_le_mul_right _ hh
  have := of_stands (c := c) (p := placeN n half) (l := allB base rs) (fun i hi => hl _ (by rw [allB_len] at hi; unfold placeN; omega)) hs
  rwa [allB_len] at this
theorem Says.stands {n : Nat} {c : Nat → List UInt8} {half end' : Nat} {base : List UInt8} {rs : List (List UInt8)} (h : Says n c half end' base rs) (hl : Len n c) (hn : 1 ≤ n) : Stands c (placeN n half) (allB base rs) := by
  have hh := h.hh
  have hle := h.le
  have hmul : half * ((n - 1) / 2) ≤ 1 * ((n - 1) / 2) := Nat.mul_le_mul_right _ hh
  exact (stands_of (fun i hi => hl _ (by unfold placeN; omega)) h.all).2

/-- where blocks that don't matter were written, all says what it said -/
theorem Says.other {n : Nat} {c c' : Nat → List UInt8} {half end' : Nat} {base : List UInt8} {rs : List (List UInt8)} (h : Says n c half end' base rs) (hl : Len n c) (hl' : Len n c') (hn : 1 ≤ n) (h0 : c' 0 = c 0) (hs : ∀ x, x < end' → (c' (placeN n half + x / 256))[x % 256]? = (c (placeN n half + x / 256))[x % 256]?) : Says n c' half end' base rs := by
  have hst := h.stands hl hn
  have he := h.he
  subst he
  exact Says.mk' hl' h.hh hn (h0.trans h.c0) h.le fun x hx => by
    rw [hs x (by rw [allB_len] at hx; exact hx)]; exact hst x hx

/-! #### a snapshot -/
theorem snap_all {n : Nat} {c : Nat → List UInt8} {half : Nat} (hl : Len n c) (hn : 1 ≤ n) (hh : half ≤ 1) (b : List UInt8) (hb : (laid b).length ≤ (n - 1) / 2 * 256) : Says n (appC c (piecesN (laid b) (placeN n half) ++ [(0, headB half (laid b).length)])) half (liveN b []) b [] := by
  have e : (laid b).length = liveN b [] := by rw [laid_len]; rfl
  have e2 : allB b [] = laid b := by simp [allB]
  refine Says.mk' (hl.appC fun w hw => ?_) hh hn ?_ (by rw [← e]; exact hb) ?_
  · rcases List.mem_append.1 hw with hw | hw
    · exact pieces_len _ _ w hw
    · have : w = (0, headB half (laid b).length) := by simpa using hw
      subst this; exact headB_len _ _
  · rw [appC_all _ _ _ _ (by unfold placeN; omega), if_pos rfl, e]
  · rw [e2]; exact stands_new _ _ _ _ (by unfold placeN; omega)

/-! #### a record behind the others -/
/-- the last block's bytes, and the record -/
def lastB (base : List UInt8) (rs : List (List UInt8)) (b : List UInt8) : List UInt8 := (allB base rs).drop (liveN base rs / 256 * 256) ++ laid b
theorem lastB_eq (base : List UInt8) (rs : List (List UInt8)) (b : List UInt8) : lastB base rs b = (allB base (rs ++ [b])).drop (liveN base rs / 256 * 256) := by
  unfold lastB
  rw [allB_snoc, List.drop_append_of_le_length (by rw [allB_len]; omega)]
theorem liveN_snoc (base : List UInt8) (rs : List (List UInt8)) (b : List UInt8) : liveN base (rs ++ [b]) = liveN base rs + (b.length + 8) := by
  unfold liveN; rw [wsum_append]; simp [wsum]; omega
theorem lastB_len (base : List UInt8) (rs : List (List UInt8)) (b : List UInt8) : (lastB base rs b).length = liveN base rs % 256 + (b.length + 8) := by
  unfold lastB
  rw [List.length_append, List.length_drop, allB_len, laid_len]; omega
theorem app_all {n : Nat} {c : Nat → List UInt8} {half end' : Nat} {base : List UInt8} {rs : List (List UInt8)} (h : Says n c half end' base rs) (hl : Len n c) (hn : 1 ≤ n) (b : List UInt8) (hb : liveN base (rs ++ [b]) ≤ (n - 1) / 2 * 256) : Says n (appC c (piecesN (lastB base rs b) (placeN n half + end' / 256) ++ [(0, headB half (liveN base (rs ++ [b])))])) half (liveN base (rs ++ [b])) base (rs ++ [b]) := by
  have hst := h.stands hl hn
  have hh := h.hh
  have he := h.he
  have hll := lastB_len base rs b
  have hls := liveN_snoc base rs b
  have hp : 1 ≤ placeN n half := by unfold placeN; omega
  refine Says.mk' (hl.appC fun w hw => ?_) hh hn ?_ hb fun x hx => ?_
  · rcases List.mem_append.1 hw with hw | hw
    · exact pieces_len _ _ w hw
    · have : w = (0, headB half (liveN base (rs ++ [b]))) := by simpa using hw
      subst this; exact headB_len _ _
  · rw [appC_all _ _ _ _ (by omega), if_pos rfl]
  · rw [allB_len] at hx
    rw [appC_all _ _ _ _ (by omega), if_neg (by omega)]
    by_cases hx2 : x / 256 < end' / 256
    · rw [if_neg (by omega), hst x (by rw [allB_len]; omega), allB_snoc, List.getElem?_append_left (by rw [allB_len]; omega)]
    · rw [if_pos (by unfold pieceK; omega), pieceN_get _ _ _ (by omega) (by omega), lastB_eq, List.getElem?_drop]
      congr 1; omega
theorem app_tail (base : List UInt8) (rs : List (List UInt8)) (b : List UInt8) : (lastB base rs b).drop ((lastB base rs b).length - liveN base (rs ++ [b]) % 256) = (allB base (rs ++ [b])).drop (liveN base (rs ++ [b]) / 256 * 256) := by
  have hll := lastB_len base rs b
  have hls := liveN_snoc base rs b
  rw [lastB_eq, List.drop_drop, ← lastB_eq, hll]
  congr 1; omega
end Go.Proofs.Ytmfmbadfgnhonaa

