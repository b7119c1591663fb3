/-
  The walk through the journal's code: what its functions do to memory, part RnJ18. Nothing is asked.
-/
import Derived.Test.YtmfmbadfgnhonaaRnJ17
set_option linter.all false
namespace Go.Proofs.Ytmfmbadfgnhonaa
open Go Go.Ag
set_option linter.unusedVariables false
set_option maxRecDepth 100000

theorem veq_ptr (a : Option Addr) : veq (.pointer a) (.pointer a) = true := by simp [veq, veq1]
theorem RB.veq {S : MS} {v : Value} {bs : List UInt8} (h : RB S v bs) : veq v v = true := by
  rcases h with ⟨rfl, _⟩ | ⟨rfl, _⟩ | ⟨b, off, cap, L, rfl, _⟩ <;> exact veq_slice _ _ _
theorem RB.sv {S : MS} {v : Value} {bs : List UInt8} (h : RB S v bs) : ∃ s : Sv, v = s.v := by
  rcases h with ⟨rfl, _⟩ | ⟨rfl, _⟩ | ⟨b, off, cap, L, rfl, _⟩ <;> exact ⟨⟨_, _, _⟩, rfl⟩

theorem headB_8 (h e : Nat) : (((headB h e).drop 8).take (256 - 8)).take 8 = num8 h := by
  unfold headB
  rw [List.take_take, List.append_assoc, List.append_assoc, List.drop_left' (num8_len _), List.take_left' (by rw [num8_len]; rfl)]
theorem headB_16 (h e : Nat) : (((headB h e).drop 16).take (256 - 16)).take 8 = num8 e := by
  unfold headB
  rw [List.take_take, List.append_assoc, List.drop_left' (by simp [num8_len]), List.take_left' (by rw [num8_len]; rfl)]

/-- a disk's blocks say: this base, these records -/
structure Says (n : Nat) (c : Nat → List UInt8) (half end' : Nat) (base : List UInt8) (rs : List (List UInt8)) : Prop where
  hh : half ≤ 1
  c0 : c 0 = headB half end'
  he : end' = liveN base rs
  le : end' ≤ (n - 1) / 2 * 256
  all : (catB c (placeN n half) ((end' + 255) / 256)).take end' = allB base rs

/-- an open journal: on this disk, with this base, these records -/
structure JJ (S : MS) (d : Nat) (D : DK) (j : Nat) (rv : Value) (half end' : Nat) (base : List UInt8) (rs : List (List UInt8)) (dead : Bool) : Prop where
  ex : ∃ bv tv rl, S.m j = some (.cells (jouL d half end' bv rv tv dead) 0) ∧ RB S bv base ∧ SlF svF 1 S 0 rv rl ∧ RBs S rl rs ∧ RB S tv ((allB base rs).drop (end' / 256 * 256)) ∧ ∀ y, On bv y ∨ On tv y ∨ (∃ x ∈ rl, On x.v y) → FrD S d D y ∧ y ≠ j ∧ Av rv y
  fj : FrD S d D j ∧ Av rv j
  frv : ∀ y, ¬ Av rv y → FrD S d D y
theorem JJ.isJ {S : MS} {d : Nat} {D : DK} {j : Nat} {rv : Value} {half end' : Nat} {base : List UInt8} {rs : List (List UInt8)} {dead : Bool} (h : JJ S d D j rv half end' base rs dead) : IsJ S j d 0 half end' base rs ((allB base rs).drop (end' / 256 * 256)) dead := by
  obtain ⟨bv, tv, rl, h1, h2, h3, h4, h5, h6⟩ := h.ex
  exact ⟨bv, rv, tv, rl, h1, h2, h3, h4, h5, h.fj.2⟩
/-- where the disk's other blocks stay, a journal stays -/
theorem JJ.keep {S S' : MS} {d : Nat} {D D' : DK} {j : Nat} {rv : Value} {half end' : Nat} {base : List UInt8} {rs : List (List UInt8)} {dead : Bool} (h : JJ S d D j rv half end' base rs dead) (hk : ∀ y, FrD S d D y → S'.m y = S.m y ∧ FrD S' d D' y) : JJ S' d D' j rv half end' base rs dead := by
  obtain ⟨bv, tv, rl, h1, h2, h3, h4, h5, h6⟩ := h.ex
  refine ⟨⟨bv, tv, rl, by rw [(hk j h.fj.1).1]; exact h1, h2.keepOn fun y hy => (hk y (h6 y (.inl hy)).1).1, h3.keep1 fun y k hy _ => (hk y (h.frv y hy)).1, ⟨h4.1, fun i x r hx hr => (h4.2 i x r hx hr).keepOn fun y hy => (hk y (h6 y (.inr (.inr ⟨x, List.mem_of_getElem? hx, hy⟩))).1).1⟩, h5.keepOn fun y hy => (hk y (h6 y (.inr (.inl hy))).1).1, fun y hy => ⟨(hk y (h6 y hy).1).2, (h6 y hy).2⟩⟩, ⟨(hk j h.fj.1).2, h.fj.2⟩, fun y hy => (hk y (h.frv y hy)).2⟩

theorem bd_j (d : Nat) (h e : Int) (t : Value) (ht : t.cells = #[t]) : bdS (fun i => [(0, 1), (1, 1), (2, 1), (3, 1), (4, 1), (5, 1), (6, 1)][i]?) [.pointer none, .int .i64 0, .int .i64 0, .slice none 0 0, .slice none 0 0, .slice none 0 0, .bool false] [(0, .pointer (some ⟨d, 0, none⟩)), (1, .int .i64 h), (2, .int .i64 e), (5, t)] = some (.agg (jouL d h e (.slice none 0 0) (.slice none 0 0) t false).toArray) := by
  simp [bdS, fillL, spliceL, ht, cells_int, cells_ptr, jouL]

/-- a first block as a fresh slice -/
theorem RB.block {S : MS} {b : Nat} {bs : List UInt8} {es : Nat} (h : S.m b = some (.cells (bL bs) es)) (hl : bs.length = 256) : RB S (.slice (some ⟨b, 0, none⟩) 256 256) bs :=
  .inr (.inr ⟨b, 0, 256, bL bs, by rw [hl], list_of h, by rw [bL_len]; omega, by rw [List.drop_zero, ← bL_len, List.take_length], by omega, .inl (by decide)⟩)

/-! ### the checks on the first block -/
theorem ff {p : Prop} (h : false = true) : p := by cases h
theorem tf {p : Prop} (h : true = false) : p := by cases h
theorem g10_ok {S : MS} {d : Nat} {D : DK} (wf : S.WF) (h : IsD S d D) (hn : 64 ≤ D.made.length ∧ D.made.length ≤ 2000) {T : FT} {v : Value} {half end' : Nat} (t0 : T.get 0 = .pointer (some ⟨d, 0, none⟩)) (t4 : T.get 4 = v) (t6 : T.get 6 = .int .i64 half) (t7 : T.get 7 = .int .i64 end') (hv : RB S v (headB half end')) (hh : half ≤ 1) (h8 : 8 ≤ end') (he : end' ≤ (D.made.length - 1) / 2 * 256) {Q : FT → MS → Prop} (hq : ∀ T' S', Old S S' → T'.get 0 = T.get 0 → T'.get 4 = T.get 4 → T'.get 6 = T.get 6 → T'.get 7 = T.get 7 → T'.get 57 = .bool false → Q T' S') : mOps Try.prog O 97 (ro 10 5).toList (ro 10 5).toList [] T S Q := by
  rw [reg10_5, t0, t4, t6, t7]
  have e1 : decide ((D.made.length : Int) < 64) = false := decide_eq_false (by omega)
  have e2 : decide ((half : Int) < 0) = false := decide_eq_false (by omega)
  have e3 : decide ((half : Int) > 1) = false := decide_eq_false (by omega)
  have e4 : decide ((end' : Int) < 8) = false := decide_eq_false (by omega)
  have e5 : decide ((end' : Int) > (((D.made.length - 1) / 2 * 256 : Nat) : Int)) = false := decide_eq_false (by omega)
  have w1 : IntKind.i64.wrap ((D.made.length : Int) - 1) = ((D.made.length - 1 : Nat) : Int) := by rw [wrap_i64 (by omega) (by omega)]; omega
  have w2 : ((D.made.length - 1 : Nat) : Int).tdiv 2 = (((D.made.length - 1) / 2 : Nat) : Int) := by rw [Int.tdiv_eq_ediv_of_nonneg (by omega)]; rfl
  have w3 : IntKind.i64.wrap (((D.made.length - 1) / 2 : Nat) : Int) = (((D.made.length - 1) / 2 : Nat) : Int) := wrap_i64 (by omega) (by omega)
  have w4 : IntKind.i64.wrap ((((D.made.length - 1) / 2 : Nat) : Int) * 256) = (((D.made.length - 1) / 2 * 256 : Nat) : Int) := by rw [wrap_i64 (by omega) (by omega)]; omega
  refine blocksD h ⟨.bool false, (abin_lss _ _ _ _ _ _ _).trans (by rw [e1]), false, rfl, ff, fun _ => ⟨.bool false, (abin_lss _ _ _ _ _ _ _).trans (by rw [e2]), .bool false, rfl, false, rfl, ff, fun _ => ⟨.bool false, (abin_gtr _ _ _ _ _ _ _).trans (by rw [e3]), .bool false, rfl, false, rfl, ff, fun _ => ⟨.bool false, (abin_lss _ _ _ _ _ _ _).trans (by rw [e4]), .bool false, rfl, false, rfl, ff, fun _ => blocksD h ⟨.int .i64 ((D.made.length - 1 : Nat) : Int), (abin_sub _ _ _ _ _ _ _).trans (by rw [w1]), .int .i64 (((D.made.length - 1) / 2 : Nat) : Int), (abin_quo _ _ _ _ _ _ _ (by decide)).trans (by rw [w2, w3]), .int .i64 (((D.made.length - 1) / 2 * 256 : Nat) : Int), (abin_mul _ _ _ _ _ _ _).trans (by rw [w4]), .bool false, (abin_gtr _ _ _ _ _ _ _).trans (by rw [e5]), .bool false, rfl, false, rfl, ff, fun _ => ?_⟩⟩⟩⟩⟩
  refine head34 half end' (by omega) (by omega) fun hv2 S2 f2 b2 => ?_
  refine equal37 (hv.keep wf f2.2) (RB.own b2) ⟨.bool false, rfl, .bool false, rfl, hq _ _ f2 ?_ ?_ ?_ ?_ ?_⟩
  · simp [FT.get_set, t0]
  · simp [FT.get_set, t4]
  · simp [FT.get_set, t6]
  · simp [FT.get_set, t7]
  · simp [FT.get_set]

end Go.Proofs.Ytmfmbadfgnhonaa

