/-
  An abstract machine for Go functions: code and calls. Nothing is asked.
-/
import Derived.Test.YtfgbeecipklkdaaGreatVAg1
import Derived.ChangeSame
import Derived.Orders
import Derived.RowKit3
set_option linter.all false
namespace Go.Ag
section
variable {P : Program} {ρ : Ren} {τ : Nat → Option Nat} {A A' : AState} {w : World}
theorem append_fam (S : Sim P ρ τ A w) {st xt elem : TypeId} {e : TypeInfo} {z : Value} {x' : Value} {n : Nat} {new : List Value} {new' : Array Value} (hpos : 0 < e.size) (ap : Appends P w st xt elem e z x' n new')
    (hnew : VRels ρ new new'.toList) (hone : new.all Ag.oneCell = true) (hln : new.length = n * e.size) (hz : z.cells.size = e.size) (hn0 : n ≠ 0) {b off len : Nat} {k : Blk} (hk : A.blk b = some k)
    {i : BInfo} {c : Array Value} {el : TypeId} {fz : Nat × Nat} (B : BlkRel ρ τ w b k i c el fz) (hes : k.es = e.size) {cap : Nat} (hcl : len ≤ cap)
    {o' : Nat} (ho : cap ≠ 0 → o' = i.off + off) (hroom : i.off + off + cap * e.size ≤ i.room)
    (hin : off + len * e.size ≤ k.n) (hbig : k.n < off + (len + n) * e.size) {old : List Value} (hold : readN k.cs k.d off (len * e.size) = some old)
    (hb1 : (2 * (len + n) + 1000) * e.bytes ≤ 281474976710656) (hb2 : len + n < 2147483648)
    {keep : Bool} (hkeep : keep = true → A.ownOf k.root = some 0 ∧ off + len * e.size = k.n ∧ ∃ rcs rd rn res rr ro, A.get k.root = some (.cells rcs rd rn res rr ro b)) {id : Nat}
    (hgrown : A.grown (old ++ new) e.size (some (k.root, keep)) = some (id, A')) (hfree : ρ A.size = none) (ty : TypeId) :
    Gives P ρ τ A w (Builtin.append_ #[st, xt] ty #[.slice (some ⟨i.blk, o', none⟩) len cap, x']) (.slice (some ⟨id, 0, none⟩) (len + n) unk) A' := by
  unfold AState.grown at hgrown
  simp only at hgrown
  split at hgrown
  case h_2 => cases hgrown
  rename_i rcs rd rn res rroot rown rtop hgr
  split at hgrown
  case isFalse => cases hgrown
  rename_i hrr
  have hrr' : rroot = k.root := Nat.eq_of_beq_eq_true hrr
  subst hrr'
  simp only [Option.some.injEq, Prod.mk.injEq] at hgrown
  obtain ⟨rfl, hA'⟩ := hgrown
  have hownr : A.ownOf k.root = some rown := by unfold AState.ownOf; rw [hgr]
  have hkeep0 : keep = true → rown = 0 := fun h => by have := (hkeep h).1; rw [hownr] at this; exact Option.some.inj this
  obtain ⟨hlo, hgo⟩ := readN_some hold
  obtain ⟨vs', hvr, hvl, hvc⟩ := B.read hold hin
  have hl : (old ++ new).length = (len + n) * e.size := by rw [List.length_append, hlo, hln, Nat.add_mul]
  have hcells := hvr.append hnew
  have hnlen := hnew.length
  -- the family's members, if all may be looked at
  have hmem : keep = true → ∀ b2 o2 i2, A.get b2 = some o2 → famOf b2 o2 = k.root → ρ b2 = some i2 → i2.blk = i.blk → i2.off + i2.sz ≤ i.off + (off + len * e.size) := by
    intro hkt b2 o2 i2 h2 hf2 hr2 hbb
    obtain ⟨_, hk2, rcs2, rd2, rn2, res2, rr2, ro2, hk3⟩ := hkeep hkt
    rw [hgr] at hk3
    injection hk3 with hk3
    injection hk3 with _ _ _ _ _ _ htop
    have h0 := hkeep0 hkt
    subst h0
    have hcase : ∃ cs2 d2 n2 es2 own2 top2, o2 = .cells cs2 d2 n2 es2 k.root own2 top2 := by
      cases o2 with
      | cells cs2 d2 n2 es2 root2 own2 top2 => have : root2 = k.root := hf2; subst this; exact ⟨_, _, _, _, _, _, rfl⟩
      | ro cs2 n2 root2 =>
        exact absurd hf2 (S.roNot h2 hgr rfl rfl)
      | map es => have e : b2 = k.root := hf2; rw [e, hgr] at h2; cases h2
      | strIter s p => have e : b2 = k.root := hf2; rw [e, hgr] at h2; cases h2
      | loop l => have e : b2 = k.root := hf2; rw [e, hgr] at h2; cases h2
    obtain ⟨cs2, d2, n2, es2, own2, top2, rfl⟩ := hcase
    obtain ⟨ot, i1, j1, k1, k2, k3, k4, k5⟩ := S.top _ _ _ _ _ _ _ _ h2 _ _ _ _ _ hgr
    rw [htop, B.ren] at k4
    cases k4
    rw [hr2] at k3
    cases k3
    have := k5 hbb
    rw [B.sz] at this
    omega
  by_cases hfit : len + n ≤ cap
  · -- in place
    have hcap0 : cap ≠ 0 := by omega
    have ho' := ho hcap0
    subst ho'
    have hroom2 : i.off + off + (len + n) * e.size ≤ i.room := by
      have : (len + n) * e.size ≤ cap * e.size := Nat.mul_le_mul hfit (Nat.le_refl _)
      omega
    have hmul : (len + n) * e.size = len * e.size + n * e.size := Nat.add_mul _ _ _
    obtain ⟨g1, g2, g3, g4, g5⟩ := setCells_heap i.blk el fz new'.toList (i.off + (off + len * e.size)) w c B.row
    have hsl := setL_size new'.toList c (i.off + (off + len * e.size))
    have hst := run_storeCells_cells (P := P) i.blk (i.off + off + len * e.size) new'.toList 0 w (fun j hj => by
        rw [cell?_of B.row, Array.getElem?_eq_getElem (by rw [B.room]; omega)]; rfl)
      (fun j hj => by
        rw [frozen?_of B.row]
        have := B.thaw.at (i.off + off + len * e.size + 0 + j) (by omega)
        simp only [Bool.and_eq_false_iff, decide_eq_false_iff_not]
        by_cases h1 : fz.1 ≤ i.off + off + len * e.size + 0 + j
        · right; intro h2; exact this ⟨h1, h2⟩
        · left; exact h1) (one_all hone hnew)
    rw [show i.off + off + len * e.size + 0 = i.off + (off + len * e.size) by omega] at hst
    have hrun := ap.fits (some ⟨i.blk, i.off + off, none⟩) len cap ty (w.setCells i.blk (i.off + (off + len * e.size)) new'.toList) hfit (by simp only [add_addr]; exact hst)
    have hext := S.grow (w' := w.setCells i.blk (i.off + (off + len * e.size)) new'.toList) hgr hkeep0 (ncs := writeL .nil 0 (old ++ new)) (n := (old ++ new).length) (es := e.size)
      (j := ⟨i.blk, i.off + off, i.room, e.size, (old ++ new).length⟩) hfree rfl rfl (fun h => absurd h (by omega)) hA'.symm
      ⟨by rw [g2]; exact Nat.le_refl _, fun r hr ht => world_eq_keep g1 (by intro e; subst e; rw [B.terr] at ht; cases ht), g3, g4, g5⟩
      (by rw [g2]; exact B.lt) (fun _ => B.terr) (fun _ => B.row) (fun r hr hne => world_eq_keep g1 (Ne.symm hne)) (by rw [g1, if_pos rfl]) (by rw [hsl]; exact B.room) B.thaw (by rw [hl]; exact hroom2)
      (fun q hq => by
        rw [setL_get _ _ _ _ (by rw [B.room]; rw [hl] at hq; simp only; omega)]
        obtain ⟨y, hy, hr⟩ := hcells.get (List.getElem?_eq_getElem hq)
        refine ⟨_, y, by rw [cellAt_list _ _ _ hq, List.getElem?_eq_getElem hq], ?_, hr⟩
        simp only
        by_cases hql : q < len * e.size
        · rw [if_neg (by omega)]
          rw [List.getElem?_append_left (by omega)] at hy
          have := hvc q y hy
          rw [cell?_of B.row] at this
          exact this
        · rw [List.getElem?_append_right (by omega)] at hy
          rw [hl] at hq
          rw [if_pos (by omega), ← hy]
          congr 1
          omega)
      (E := i.off + (off + len * e.size)) (by rw [hl]; simp only; omega) (fun hkt b2 o2 i2 h2 hf2 hr2 hbb => hmem hkt b2 o2 i2 h2 hf2 hr2 hbb)
      (fun c3 el3 fz3 h3 => by
        have h3' : w.heap[i.blk]? = some (.cells c3 el3 fz3) := h3
        rw [B.row] at h3'
        cases h3'
        refine ⟨hsl, rfl, rfl, fun q hq => ?_⟩
        by_cases hqc : q < c.size
        · rw [setL_get _ _ _ _ hqc, if_neg (by omega)]
        · rw [Array.getElem?_eq_none (by rw [hsl]; omega), Array.getElem?_eq_none (by omega)])
    refine ⟨_, _, _, _, hrun, ?_, hext⟩
    refine VRel.sliceUn (i := ⟨i.blk, i.off + off, i.room, e.size, (old ++ new).length⟩) (Ren.upd_same _ _ _) hfit (fun _ => rfl) ?_ ?_
    · simp only [Nat.zero_add]; rw [hl]; exact Nat.mul_le_mul hfit (Nat.le_refl _)
    · simp only [Nat.add_zero]; exact hroom
  · -- in a new row
    have hg : cap < len + n := by omega
    have hcap : Builtin.nextslicecap (len + n) cap * e.bytes ≤ 281474976710656 := by
      have h1 := nextslicecap_le hg
      have : Builtin.nextslicecap (len + n) cap * e.bytes ≤ (2 * (len + n) + 1000) * e.bytes := Nat.mul_le_mul (by omega) (Nat.le_refl _)
      omega
    have hrold : ∀ w2, w2.heap = w.heap → (Builtin.firstCells e.size len (.slice (some ⟨i.blk, o', none⟩) len cap)).run P w2 = .ok vs'.toArray w2 := by
      intro w2 hw2
      simp only [Builtin.firstCells]
      rw [← hvl]
      refine run_loadCells_list (P := P) w2 _ vs' (fun q v hv => ?_)
      have hq : q < len * e.size := by have := (List.getElem?_eq_some_iff.1 hv).1; omega
      have hlen : len ≠ 0 := by intro e0; rw [e0] at hq; omega
      rw [ho (by omega), add_addr]
      have := hvc q v hv
      unfold World.cell? at this ⊢
      rw [hw2]; exact this
    have hrun := ap.grows (some ⟨i.blk, o', none⟩) len cap ty vs'.toArray hg (by omega) hcap hrold
    have hge : len + n ≤ grownCap w (len + n) cap elem := by simp [grownCap, Question.cut]
    have hl' : (vs' ++ new'.toList).length = (len + n) * e.size := by rw [← hcells.length, hl]
    have hl2 : (vs'.toArray ++ new').size = (len + n) * e.size := by simpa using hl'
    have hsize : (vs'.toArray ++ new' ++ Builtin.zeroCells z.cells (grownCap w (len + n) cap elem - (len + n))).size = grownCap w (len + n) cap elem * e.size := by
      rw [Array.size_append, zeroCells_size hz, hl2, ← Nat.add_mul]; congr 1; omega
    have hheap : ∀ r, (w.drew.alloc (.cells (vs'.toArray ++ new' ++ Builtin.zeroCells z.cells (grownCap w (len + n) cap elem - (len + n))) elem)).heap[r]? =
        if r = w.heap.size then some (.cells (vs'.toArray ++ new' ++ Builtin.zeroCells z.cells (grownCap w (len + n) cap elem - (len + n))) elem) else w.heap[r]? := fun r => by
      show (w.heap.push _)[r]? = _
      rw [Array.getElem?_push]
    have hext := S.grow (w' := w.drew.alloc (.cells (vs'.toArray ++ new' ++ Builtin.zeroCells z.cells (grownCap w (len + n) cap elem - (len + n))) elem)) hgr hkeep0 (ncs := writeL .nil 0 (old ++ new)) (n := (old ++ new).length) (es := e.size)
      (j := ⟨w.heap.size, 0, grownCap w (len + n) cap elem * e.size, e.size, (old ++ new).length⟩) hfree rfl rfl (fun _ => rfl) hA'.symm
      ⟨by show w.heap.size ≤ (w.heap.push _).size; simp, fun r hr ht => by rw [hheap, if_neg (by omega)], rfl, rfl, rfl⟩
      (by show w.heap.size < (w.heap.push _).size; simp) (fun h => absurd h (Nat.lt_irrefl _)) (c0 := #[]) (el0 := 0) (fz0 := (0, 0)) (fun h => absurd h (Nat.lt_irrefl _)) (fun r hr hne => by rw [hheap, if_neg (by omega)]) (by rw [hheap, if_pos rfl]) hsize thaw0
      (by rw [hl]; simp only [Nat.zero_add]; exact Nat.mul_le_mul hge (Nat.le_refl _))
      (fun q hq => by
        obtain ⟨y, hy, hr⟩ := hcells.get (List.getElem?_eq_getElem hq)
        refine ⟨_, y, by rw [cellAt_list _ _ _ hq, List.getElem?_eq_getElem hq], ?_, hr⟩
        simp only [Nat.zero_add]
        rw [Array.getElem?_append_left (by rw [hl2, ← hl]; exact hq), ← Array.getElem?_toList]
        simpa using hy)
      (E := 0) (Nat.zero_le _) (fun _ b2 o2 i2 h2 _ hr2 hbb => by
        obtain ⟨i3, q1, q2, _, _⟩ := S.obj _ _ h2
        rw [hr2] at q1; cases q1
        have : i2.blk = w.heap.size := hbb
        omega)
      (fun c3 el3 fz3 h3 => by
        have h3' : w.heap[w.heap.size]? = some (.cells c3 el3 fz3) := h3
        simp at h3')
    refine ⟨_, _, _, _, hrun, ?_, hext⟩
    refine .sliceUn (Ren.upd_same _ _ _) hge (fun _ => rfl) ?_ ?_
    · simp only [Nat.zero_add]; rw [hl]; exact Nat.mul_le_mul hge (Nat.le_refl _)
    · simp only [Nat.zero_add]; exact Nat.le_refl _
theorem aappend_run (S : Sim P ρ τ A w) {ts : List TypeId} {args args' : List Value} {v : Value} (h : aappend P A ts args = some (v, A')) (hargs : VRels ρ args args')
    (hfree : ∀ b, A.size ≤ b → b < A'.size → ρ b = none) (ty : TypeId) : Gives P ρ τ A w (Builtin.append_ ts.toArray ty args'.toArray) v A' := by
  unfold aappend at h
  split at h
  case h_2 => cases h
  rename_i st xt s x
  cases hargs with
  | cons hs hargs => cases hargs with
    | cons hx hargs => cases hargs with
      | nil =>
  rename_i s' x'
  split at h
  case h_2 => cases h
  rename_i elem xd hst hxt
  simp only [Option.bind_eq_some_iff] at h
  obtain ⟨e, he, z, hz, zeros, hzeros, ⟨n, new⟩, happ, h⟩ := h
  dsimp only at h
  split at h
  case isFalse => cases h
  rename_i hcond
  simp only [Bool.and_eq_true] at hcond
  obtain ⟨⟨⟨c1, c2⟩, c3⟩, c4⟩ := hcond
  have hpos : 0 < e.size := by have := c1; simp [Nat.blt] at this; omega
  have hzs : z.cells.size = e.size := Nat.eq_of_beq_eq_true c2
  have hln : new.length = n * e.size := Nat.eq_of_beq_eq_true c3
  -- what is appended
  obtain ⟨new', ap, hnew⟩ : ∃ new', Appends P w st xt elem e z x' n new' ∧ VRels ρ new new'.toList := by
    unfold appended at happ
    cases zeros with
    | true =>
      simp only [if_true] at happ
      have hxd : ∃ k0, xd = .int k0 := by cases xd <;> simp [addKind] at hzeros ⊢
      obtain ⟨k0, rfl⟩ := hxd
      split at happ
      case h_2 => cases happ
      rename_i k l0
      cases hx
      split at happ
      case isFalse => cases happ
      rename_i hc
      obtain ⟨g1, g2, g3⟩ := hc
      simp only [Option.some.injEq, Prod.mk.injEq] at happ
      obtain ⟨rfl, rfl⟩ := happ
      refine ⟨_, appends_zeros hst hxt he hz g1 g2 hpos, ?_⟩
      split
      · rename_i h0
        have : (List.replicate (IntKind.i64.wrap l0).toNat z.cells.toList).flatten = [] := by
          apply List.eq_nil_of_length_eq_zero
          rw [replicate_length]; simp only [Array.length_toList]; rw [hzs]; exact h0
        rw [this]; exact .nil
      · exact zeroCells_rel g3 _
    | false =>
      simp only [Bool.false_eq_true, if_false, Option.bind_eq_some_iff, Option.map_eq_some_iff, Prod.mk.injEq] at happ
      obtain ⟨n', hn', new2, hnew2, rfl, rfl⟩ := happ
      obtain ⟨cs', h1, h2⟩ := firstCells_run S hnew2 hx
      exact ⟨cs', appends_plain hst hxt hzeros he hz (fun w => lenOf_run hn' hx w) h2, h1⟩
  show Gives P ρ τ A w (Builtin.append_ #[st, xt] ty #[s', x']) v A'
  have hn_new : n = 0 → new' = #[] := fun h0 => by
    have := hnew.length
    rw [hln, h0] at this
    simp at this
    exact Array.eq_empty_of_size_eq_zero this.symm
  split at h
  · -- nothing yet
    cases hs
    split at h
    · rename_i h0
      simp only [Option.some.injEq, Prod.mk.injEq] at h
      obtain ⟨rfl, rfl⟩ := h
      have hrun := ap.fits none 0 0 ty w (by omega) rfl
      rw [h0] at hrun
      exact ⟨_, _, ρ, τ, hrun, .sliceNil, .refl S⟩
    · rename_i h0
      split at h
      case isFalse => cases h
      rename_i hb
      obtain ⟨hb1, hb2⟩ := hb
      simp only [Option.bind_eq_some_iff] at h
      obtain ⟨⟨id, A2⟩, hg, h⟩ := h
      simp only [AState.grown, Option.some.injEq, Prod.mk.injEq] at hg
      obtain ⟨rfl, rfl⟩ := hg
      simp only [Option.some.injEq, Prod.mk.injEq] at h
      obtain ⟨rfl, rfl⟩ := h
      have := append_new S ap hnew hln hzs none 0 0 (old := []) (old' := #[]) .nil (by simp) (fun w2 _ => by simp [Builtin.firstCells]) (by omega) (by simpa using hb1) (by omega)
        (hfree A.size (Nat.le_refl _) (by simp [AState.fresh, size_push])) ty
      simpa using this
  · -- behind what is there
    rename_i b off len cap
    simp only [Option.bind_eq_some_iff] at h
    obtain ⟨k, hk, h⟩ := h
    obtain ⟨i, c, el, fz, B⟩ := S.blk hk
    split at h
    · -- nothing is appended
      rename_i h0
      simp only [Option.some.injEq, Prod.mk.injEq] at h
      obtain ⟨rfl, rfl⟩ := h
      have hne := hn_new h0
      subst hne
      subst h0
      have hrun0 := fun (a : Addr) (c : Nat) (hc : len ≤ c) => ap.fits (some a) len c ty w (by omega) (by simp [storeCells])
      cases hs with
      | sliceEx hb hk' hn ho =>
        exact ⟨_, _, ρ, τ, hrun0 _ _ hn, .sliceEx hb hk' hn ho, .refl S⟩
      | sliceUn hb hn ho hs' hr =>
        exact ⟨_, _, ρ, τ, hrun0 _ _ hn, .sliceUn hb hn ho hs' hr, .refl S⟩
    rename_i h0
    split at h
    · -- the capacity isn't known
      rename_i hcap
      have hcap' : cap = unk := Nat.eq_of_beq_eq_true hcap
      subst hcap'
      split at h
      case isFalse => cases h
      rename_i hes
      have hes' : k.es = e.size := Nat.eq_of_beq_eq_true hes
      cases hs with
      | sliceEx _ hk' _ _ => exact absurd hk' (Nat.lt_irrefl _)
      | sliceUn hb hn ho hs' hr =>
      rename_i o' cc j
      obtain rfl : j = i := Option.some.inj (hb.symm.trans B.ren)
      have hje : j.es = e.size := B.es.trans hes'
      rw [hje] at hs' hr
      have hjs := B.sz
      split at h
      · -- in what the block is known to have
        rename_i hfit
        simp only [Nat.ble_eq] at hfit
        simp only [Option.bind_eq_some_iff] at h
        obtain ⟨A2, hw, h⟩ := h
        simp only [Option.some.injEq, Prod.mk.injEq] at h
        obtain ⟨rfl, rfl⟩ := h
        have hcc : len + n ≤ cc := by
          have h1 : (len + n) * e.size ≤ cc * e.size := by omega
          exact Nat.le_of_mul_le_mul_right h1 hpos
        have ho' := ho (by omega)
        subst ho'
        obtain ⟨w', hrun, hext⟩ := append_in S ap hnew c4 hw hb hcc ty
        exact ⟨_, _, ρ, τ, hrun, .sliceUn hb hcc ho (by rw [hje]; exact hs') (by rw [hje]; exact hr), hext⟩
      · rename_i hfit
        simp only [Nat.ble_eq] at hfit
        split at h
        case isFalse => cases h
        rename_i hbs
        obtain ⟨hb1, hb2, hb3⟩ := hbs
        simp only [Option.bind_eq_some_iff] at h
        obtain ⟨old, hold, own, hown, ro, hro, ⟨id, A2⟩, hg, h⟩ := h
        simp only [Option.some.injEq, Prod.mk.injEq] at h
        obtain ⟨rfl, rfl⟩ := h
        have hfr : ρ A.size = none := by
          apply hfree A.size (Nat.le_refl _)
          unfold AState.grown at hg
          simp only at hg
          split at hg
          case h_2 => cases hg
          split at hg
          case isFalse => cases hg
          simp only [Option.some.injEq, Prod.mk.injEq] at hg
          rw [← hg.2, size_push, size_put]; omega
        exact append_fam S hpos ap hnew c4 hln hzs h0 hk B hes' hn ho hr hb3 (by omega) hold hb1 hb2 (fun hkt => by
          simp only [Bool.and_eq_true] at hkt
          obtain ⟨⟨q1, q2⟩, q3⟩ := hkt
          have q1' : own = 0 := Nat.eq_of_beq_eq_true q1
          subst q1'
          refine ⟨hown, Nat.eq_of_beq_eq_true q2, ?_⟩
          cases ro with
          | cells rcs rd rn res rr ro rt =>
            have : rt = b := Nat.eq_of_beq_eq_true q3
            subst this
            exact ⟨_, _, _, _, _, _, hro⟩
          | ro _ _ _ => cases q3
          | map _ => cases q3
          | strIter _ _ => cases q3
          | loop _ => cases q3) hg hfr ty
    · -- the capacity is known
      rename_i hcap
      cases hs with
      | sliceUn _ _ _ _ _ => simp at hcap
      | sliceEx hb hk' hn ho =>
      rename_i o' j
      obtain rfl : j = i := Option.some.inj (hb.symm.trans B.ren)
      split at h
      · rename_i hfit
        simp only [Nat.ble_eq] at hfit
        simp only [Option.bind_eq_some_iff] at h
        obtain ⟨A2, hw, h⟩ := h
        simp only [Option.some.injEq, Prod.mk.injEq] at h
        obtain ⟨rfl, rfl⟩ := h
        have ho' := ho (by omega)
        subst ho'
        obtain ⟨w', hrun, hext⟩ := append_in S ap hnew c4 hw hb hfit ty
        exact ⟨_, _, ρ, τ, hrun, .sliceEx hb hk' hfit ho, hext⟩
      · rename_i hfit
        simp only [Nat.ble_eq] at hfit
        split at h
        case isFalse => cases h
        rename_i hbs
        obtain ⟨hb1, hb2, hb3⟩ := hbs
        simp only [Option.bind_eq_some_iff] at h
        obtain ⟨old, hold, ⟨id, A2⟩, hg, h⟩ := h
        simp only [AState.grown, Option.some.injEq, Prod.mk.injEq] at hg
        obtain ⟨rfl, rfl⟩ := hg
        simp only [Option.some.injEq, Prod.mk.injEq] at h
        obtain ⟨rfl, rfl⟩ := h
        obtain ⟨vs', g1, g2, g3⟩ := B.read hold hb3
        refine append_new S ap hnew hln hzs (some ⟨j.blk, o', none⟩) len cap (old := old) (old' := vs'.toArray) (by simpa using g1) (readN_some hold).1 (fun w2 hw2 => ?_) (by omega) hb1 hb2
          (hfree A.size (Nat.le_refl _) (by simp [AState.fresh, size_push])) ty
        simp only [Builtin.firstCells]
        rw [← g2]
        refine run_loadCells_list (P := P) w2 _ vs' (fun q v hv => ?_)
        have hq : q < len * e.size := by have := (List.getElem?_eq_some_iff.1 hv).1; omega
        have hlen : len ≠ 0 := by intro e0; rw [e0] at hq; omega
        rw [ho (by omega), add_addr]
        have := g3 q v hv
        unfold World.cell? at this ⊢
        rw [hw2]; exact this
  · cases h
theorem acopy_run (S : Sim P ρ τ A w) {ts : List TypeId} {args args' : List Value} {v : Value} (h : acopy P A ts args = some (v, A')) (hargs : VRels ρ args args') (ty : TypeId) :
    Gives P ρ τ A w (Builtin.copy_ ts.toArray ty args'.toArray) v A' := by
  unfold acopy at h
  split at h
  case h_2 => cases h
  rename_i st ts dst x
  cases hargs with
  | cons hs hargs => cases hargs with
    | cons hx hargs => cases hargs with
      | nil =>
  rename_i dst' x'
  split at h
  case h_2 => cases h
  rename_i elem base dlen dcap hst
  simp only [Option.bind_eq_some_iff] at h
  obtain ⟨e, he, xl, hxl, cs, hcs, h⟩ := h
  split at h
  case isFalse => cases h
  rename_i hone
  obtain ⟨cs', h1, h2⟩ := firstCells_run S hcs hx
  have hl := lenOf_run (P := P) hxl hx
  have hcopy : ∀ (base' : Option Addr) (c' : Nat) w', (match base' with | some a => (storeCells a cs'.toList).run P w | none => .ok () w) = .ok () w' →
      (Builtin.copy_ (st :: ts).toArray ty [.slice base' dlen c', x'].toArray).run P w = .ok (goInt (Nat.min xl dlen)) w' := by
    intro base' c' w' hst'
    cases base' with
    | none => simp at hst'; subst hst'; simp [Builtin.copy_, run_underlying hst, run_size he, hl, h2 w rfl]
    | some a => simp at hst'; simp [Builtin.copy_, run_underlying hst, run_size he, hl, h2 w rfl, hst']
  split at h
  · rename_i h0
    simp only [Option.some.injEq, Prod.mk.injEq] at h
    obtain ⟨rfl, rfl⟩ := h
    have hcs0 : cs = [] := by
      rw [h0] at hcs
      unfold firstCellsA at hcs
      split at hcs
      · split at hcs
        · exact (Option.some.inj hcs).symm
        · cases hcs
      · exact (Option.some.inj hcs).symm
      · split at hcs
        · simp at hcs; exact hcs
        · cases hcs
      · simp at hcs; exact hcs
      · cases hcs
    subst hcs0
    have hcs' : cs'.toList = [] := by
      have := h1.length
      exact List.eq_nil_of_length_eq_zero (by rw [← this]; rfl)
    have hall : ∀ (base' : Option Addr) c', (Builtin.copy_ (st :: ts).toArray ty [.slice base' dlen c', x'].toArray).run P w = .ok (goInt (Nat.min xl dlen)) w := fun base' c' => hcopy base' c' w (by
      cases base' <;> simp [hcs', storeCells])
    cases hs with
    | sliceNil => exact ⟨_, _, ρ, τ, hall none 0, .int _ _, .refl S⟩
    | sliceZ => exact ⟨_, _, ρ, τ, hall (some _) _, .int _ _, .refl S⟩
    | sliceEx _ _ _ _ => exact ⟨_, _, ρ, τ, hall (some _) _, .int _ _, .refl S⟩
    | sliceUn _ _ _ _ _ => exact ⟨_, _, ρ, τ, hall (some _) _, .int _ _, .refl S⟩
  · rename_i h0
    split at h
    case h_2 => cases h
    rename_i b off
    simp only [Option.bind_eq_some_iff] at h
    obtain ⟨A2, hw, h⟩ := h
    simp only [Option.some.injEq, Prod.mk.injEq] at h
    obtain ⟨rfl, rfl⟩ := h
    obtain ⟨i, g1, g2, g3, g4⟩ := S.write hw h1
    have hdl : dlen ≠ 0 := by intro e0; rw [e0] at h0; simp at h0
    have hst' : (storeCells ⟨i.blk, i.off + off, none⟩ cs'.toList).run P w = .ok () (w.setCells i.blk (i.off + off) cs'.toList) := by
      have := run_storeCells_cells (P := P) i.blk (i.off + off) cs'.toList 0 w (by simpa using g2) (by simpa using g3) (one_all hone h1)
      simpa using this
    cases hs with
    | sliceEx hb hk hn ho =>
      rw [g1] at hb; cases hb
      have ho' := ho (by omega)
      subst ho'
      exact ⟨_, _, ρ, τ, hcopy (some _) _ _ hst', .int _ _, g4⟩
    | sliceUn hb hn ho hs' hr =>
      rw [g1] at hb; cases hb
      have ho' := ho (by omega)
      subst ho'
      exact ⟨_, _, ρ, τ, hcopy (some _) _ _ hst', .int _ _, g4⟩
theorem aclear_run (S : Sim P ρ τ A w) {ts : List TypeId} {args args' : List Value} {v : Value} (h : aclear P A ts args = some (v, A')) (hargs : VRels ρ args args') (ty : TypeId) :
    Gives P ρ τ A w (Builtin.clear_ ts.toArray ty args'.toArray) v A' := by
  unfold aclear at h
  split at h
  case h_2 => cases h
  rename_i st x
  cases hargs with
  | cons hs hargs => cases hargs with
    | nil =>
  rename_i x'
  split at h
  case h_2 => cases h
  rename_i elem base n cap hst
  split at h
  · rename_i h0
    simp only [Option.some.injEq, Prod.mk.injEq] at h
    obtain ⟨rfl, rfl⟩ := h
    subst h0
    cases hs with
    | sliceNil => exact ⟨.tuple #[], w, ρ, τ, by simp [Builtin.clear_, run_underlying hst], .tuple .nil, .refl S⟩
    | sliceZ => exact ⟨.tuple #[], w, ρ, τ, by simp [Builtin.clear_, run_underlying hst], .tuple .nil, .refl S⟩
    | sliceEx _ _ _ _ => exact ⟨.tuple #[], w, ρ, τ, by simp [Builtin.clear_, run_underlying hst], .tuple .nil, .refl S⟩
    | sliceUn _ _ _ _ _ => exact ⟨.tuple #[], w, ρ, τ, by simp [Builtin.clear_, run_underlying hst], .tuple .nil, .refl S⟩
  · rename_i h0
    split at h
    case h_2 => cases h
    rename_i b off
    simp only [Option.bind_eq_some_iff] at h
    obtain ⟨e, he, z, hz, h⟩ := h
    split at h
    case isFalse => cases h
    rename_i hp
    simp only [Option.map_eq_some_iff, Prod.mk.injEq] at h
    obtain ⟨A2, hw, rfl, rfl⟩ := h
    have hzr := zeroCells_rel (ρ := ρ) hp n
    obtain ⟨i, g1, g2, g3, g4⟩ := S.write hw hzr
    have hone : ∀ v ∈ (Builtin.zeroCells z.cells n).toList, v.oneCell' = true := by
      intro v hv
      obtain ⟨q, hq, rfl⟩ := List.getElem_of_mem hv
      have hq2 : q < ((List.replicate n z.cells.toList).flatten).length := by rw [hzr.length]; exact hq
      obtain ⟨y, hy, hr⟩ := hzr.get (List.getElem?_eq_getElem hq2)
      rw [List.getElem?_eq_getElem hq] at hy
      cases hy
      rw [← hr.oneCell]
      have hmem : ((List.replicate n z.cells.toList).flatten)[q] ∈ z.cells.toList := by
        have := List.getElem_mem hq2
        rw [List.mem_flatten] at this
        obtain ⟨l, hl, hm⟩ := this
        rw [List.eq_of_mem_replicate hl] at hm
        exact hm
      have := List.all_eq_true.1 hp _ hmem
      revert this
      generalize ((List.replicate n z.cells.toList).flatten)[q] = u
      intro this
      cases u <;> first | rfl | (simp [plain1] at this)
    have hst' : (storeCells ⟨i.blk, i.off + off, none⟩ (Builtin.zeroCells z.cells n).toList).run P w = .ok () (w.setCells i.blk (i.off + off) (Builtin.zeroCells z.cells n).toList) := by
      have := run_storeCells_cells (P := P) i.blk (i.off + off) (Builtin.zeroCells z.cells n).toList 0 w (by simpa using g2) (by simpa using g3) hone
      simpa using this
    have hclear : ∀ c', (Builtin.clear_ [st].toArray ty [.slice (some ⟨i.blk, i.off + off, none⟩) n c'].toArray).run P w = .ok (.tuple #[]) (w.setCells i.blk (i.off + off) (Builtin.zeroCells z.cells n).toList) := by
      intro c'
      obtain ⟨m, rfl⟩ : ∃ m, n = m + 1 := ⟨n - 1, by omega⟩
      simp [Builtin.clear_, run_underlying hst, run_zero he hz, hst']
    cases hs with
    | sliceEx hb hk hn ho =>
      rw [g1] at hb; cases hb
      have ho' := ho (by omega)
      subst ho'
      exact ⟨_, _, ρ, τ, hclear _, .tuple .nil, g4⟩
    | sliceUn hb hn ho hs' hr =>
      rw [g1] at hb; cases hb
      have ho' := ho (by omega)
      subst ho'
      exact ⟨_, _, ρ, τ, hclear _, .tuple .nil, g4⟩
end
end Go.Ag
namespace Go.Ag
inductive NextRel (ρ : Ren) (v : Value) : Next → Prop
  | value {v' : Value} (h : VRel ρ v v') : NextRel ρ v (.value v')
  | skip (h : v = undef) : NextRel ρ v .skip
def OpGives (P : Program) (ρ : Ren) (τ : Nat → Option Nat) (A : AState) (w : World) (s : Sem Next) (v : Value) (A' : AState) : Prop :=
  ∃ nx w' ρ' τ', s.run P w = .ok nx w' ∧ NextRel ρ' v nx ∧ Ext P ρ τ A w ρ' τ' A' w'
def OpdRel (ρ : Ren) (ρa ρr : Operand → Value) (o : Oper) : Prop := ∀ x ∈ o.op.operands.toList, VRel ρ (ρa x) (ρr x)
section
variable {P : Program} {ρ : Ren} {τ : Nat → Option Nat} {A A' : AState} {w : World} {ρa ρr : Operand → Value} {o : Oper} {v : Value}
theorem Gives.op {s : Sem Value} (h : Gives P ρ τ A w s v A') : OpGives P ρ τ A w (do pure (.value (← s))) v A' := by
  obtain ⟨v', w', ρ', τ', h1, h2, h3⟩ := h
  exact ⟨.value v', w', ρ', τ', by simp [Sem.run_bind, h1], .value h2, h3⟩
theorem same_op (S : Sim P ρ τ A w) {s : Sem Value} (h : ∃ v', s.run P w = .ok v' w ∧ VRel ρ v v') : OpGives P ρ τ A w (do pure (.value (← s))) v A := by
  obtain ⟨v', h1, h2⟩ := h
  exact ⟨.value v', w, ρ, τ, by simp [Sem.run_bind, h1], .value h2, .refl S⟩
theorem skip_op {s : Sem Unit} (h : ∃ w', s.run P w = .ok () w' ∧ Ext P ρ τ A w ρ τ A' w') : OpGives P ρ τ A w (do s; pure .skip) undef A' := by
  obtain ⟨w', h1, h2⟩ := h
  exact ⟨.skip, w', ρ, τ, by simp [Sem.run_bind, h1], .skip rfl, h2⟩
theorem parts_rel {parts : Array (Nat × Operand)} (h : ∀ x ∈ (parts.toList.map (·.2)), VRel ρ (ρa x) (ρr x)) :
    (parts.toList.map fun (i, x) => (i, ρa x)).map (·.1) = (parts.map fun (i, x) => (i, ρr x)).toList.map (·.1) ∧
    VRels ρ ((parts.toList.map fun (i, x) => (i, ρa x)).map (·.2)) ((parts.map fun (i, x) => (i, ρr x)).toList.map (·.2)) := by
  refine ⟨by simp, ?_⟩
  simp only [Array.toList_map, List.map_map]
  exact VRels.map _ fun x hx => h _ (List.mem_map.2 ⟨x, hx, rfl⟩)
theorem args_rel {args : Array Operand} (h : ∀ x ∈ args.toList, VRel ρ (ρa x) (ρr x)) : VRels ρ (args.toList.map ρa) ((args.map ρr).toList) := by
  rw [Array.toList_map]
  exact VRels.map _ fun x hx => h x hx
theorem opt_rel {x : Option Operand} (h : ∀ y ∈ x.toArray.toList, VRel ρ (ρa y) (ρr y)) : OptRel ρ (x.map ρa) (x.map ρr) := by
  cases x with
  | none => exact .none
  | some y => exact .some (h y (by simp))
theorem blk_notro (S : Sim P ρ τ A w) {b : Nat} {k : Blk} (h : A.blk b = some k) : k.root ≠ P.globals.size := by
  intro hro
  unfold AState.blk at h
  split at h
  · rename_i cs d n es root own top hg
    split at h
    · rename_i ho
      cases h
      have := (S.ro _ _ hg).1 hro
      cases this
    · cases h
  · cases h
theorem mark_run (S : Sim P ρ τ A w) {r o : Nat} {c : Array Value} {el : TypeId} {fz : Nat × Nat} (hrow : w.heap[r]? = some (.cells c el fz)) (hfz : Thawed fz c.size) (ht : ∃ f, τ r = some f ∧ f ≠ P.globals.size) :
    ∃ w', (markStringish ⟨r, o, none⟩).run P w = .ok () w' ∧ Ext P ρ τ A w ρ τ A w' := by
  have hshape : w.shape? r = some (el, c.size) := by simp [World.shape?, hrow]
  refine ⟨w.freeze { block := r, off := c.size } 1, by simp [markStringish, Sem.run_bind, hshape], ?_⟩
  have hheap : ∃ fz', Thawed fz' c.size ∧ (∀ q, (w.freeze { block := r, off := c.size } 1).heap[q]? = if r = q then some (.cells c el fz') else w.heap[q]?) ∧ (w.freeze { block := r, off := c.size } 1).heap.size = w.heap.size := by
    refine ⟨if fz.1 == fz.2 then (c.size, c.size + 1) else (min fz.1 c.size, max fz.2 (c.size + 1)), ?_, fun q => ?_, by simp [World.freeze]⟩
    · split
      · exact .inr (Nat.le_refl _)
      · rename_i hne
        rcases hfz with h | h
        · simp [h] at hne
        · right; show c.size ≤ min fz.1 c.size; omega
    · simp only [World.freeze, Array.getElem?_modify]
      rw [if_neg (by omega)]
      simp only [Array.getElem?_modify]
      by_cases e : r = q
      · subst e; simp [hrow]
      · simp [e]
  obtain ⟨fz', h1, h2, h3⟩ := hheap
  have hother : (w.freeze { block := r, off := c.size } 1).os = w.os ∧ (w.freeze { block := r, off := c.size } 1).output = w.output ∧ (w.freeze { block := r, off := c.size } 1).tape = w.tape := by
    simp [World.freeze]
  generalize w.freeze { block := r, off := c.size } 1 = w' at *
  obtain ⟨o1, o2, o3⟩ := hother
  refine ⟨Ren.le_refl _, fun _ _ => rfl, Nat.le_refl _, ⟨by omega, fun q hq hn => ?_, o1, o2, o3⟩, fun _ _ => .inl rfl, fun q R hR => ⟨R, by rw [h2, if_neg (by intro e; subst e; rw [hrow] at hR; cases hR)]; exact hR⟩, fun q hq htq => ?_, ?_⟩
  · rw [h2, if_neg (by intro e; subst e; obtain ⟨f, hf, _⟩ := ht; rw [hf] at hn; cases hn)]
  · rw [h2, if_neg (by intro e; subst e; obtain ⟨f', hf', hx⟩ := ht; rw [hf'] at htq; exact hx (Option.some.inj htq))]
  refine ⟨fun b ob hb => ?_, S.root, S.top, S.solo, S.ro, S.fresh, S.terr, S.glob, S.globs⟩
  obtain ⟨i, a1, a2, a3, a4⟩ := S.obj _ _ hb
  refine ⟨i, a1, by omega, a3, ?_⟩
  by_cases e : r = i.blk
  · subst e
    cases a4 with
    | cells c2 el2 fz2 ho hroom hsz hes hin hfz2 h0' hc =>
      rw [hrow] at ho; cases ho
      exact .cells c el fz' (by rw [h2, if_pos rfl]) hroom hsz hes hin (by rw [← hroom]; exact h1) h0' hc
    | ro c2 el2 fz2 ho hroom hsz hin hc _ =>
      obtain ⟨f', hf', hx⟩ := ht
      have a3' := hf'.symm.trans a3
      rw [Option.some.inj a3'] at hx
      exact absurd ((S.ro _ _ hb).2 rfl) hx
    | map es' clock ho hm => rw [hrow] at ho; cases ho
    | strIter ho h0 => rw [hrow] at ho; cases ho
    | loop R ho hs hp he hps ha' hb' => rw [hrow] at ho; cases ho
  · exact a4.keep (by rw [h2, if_neg e]) (fun _ _ _ _ _ _ _ _ h => h)
theorem aconvRead_run (S : Sim P ρ τ A w) {src dst : TypeId} {x x' v : Value} (h : aconvRead P A src dst x = some v) (hx : VRel ρ x x') :
    Gives P ρ τ A w (convert src dst x') v A := by
  have gv : (∃ v', (convert src dst x').run P w = .ok v' w ∧ VRel ρ v v') → Gives P ρ τ A w (convert src dst x') v A := fun ⟨v', h1, h2⟩ => ⟨v', w, ρ, τ, h1, h2, .refl S⟩
  unfold aconvRead at h
  split at h
  · rename_i e hs hd
    cases hx
    split at h
    · rename_i hm
      cases h
      have he := isU8_iff hm
      refine gv ?_
      rw [run_convert_bytes_string w src dst e _ _ _ hs he hd]
      exact ⟨_, rfl, .string _⟩
    · cases h
  · -- an empty slice that is not nil
    rename_i e hs hd
    split at h
    · rename_i hm
      cases h
      have he := isU8_iff hm
      refine gv ?_
      cases hx with
      | sliceZ =>
        rename_i a
        have hload : (loadCells a 0).run P w = .ok (([] : List Int).map (Value.int .u8)).toArray w := run_loadCells_list (P := P) w a [] (fun q v hv => by simp at hv)
        rw [run_convert_bytes_string w src dst e _ _ _ hs he hd, run_bytesToString w a 0 0 [] hload]
        exact ⟨_, rfl, .string _⟩
    · cases h
  · -- a slice as another type of slices
    rename_i e e2 a n c hus hud
    split at h
    case isFalse => cases h
    rename_i hc
    obtain ⟨rfl, hu8, hsp, hblk⟩ := hc
    cases h
    have he := isU8_iff hu8
    have hrun : ∀ (r o' c' : Nat) (w' : World), (markStringish ⟨r, o', none⟩).run P w = .ok () w' → (convert src src (.slice (some ⟨r, o', none⟩) n c')).run P w = .ok (.slice (some ⟨r, o', none⟩) n c') w' := by
      intro r o' c' w' hm
      simp [convert, Sem.run_bind, run_underlying hus, run_underlying he, hm]
    cases hk : A.blk a.block with
    | none => rw [hk] at hblk; simp at hblk
    | some k =>
    obtain ⟨i, cc, el, fz, B⟩ := S.blk hk
    have main : ∀ o', ∃ w', (markStringish ⟨i.blk, o', none⟩).run P w = .ok () w' ∧ Ext P ρ τ A w ρ τ A w' := fun o' =>
      mark_run S B.row (by rw [B.room]; exact B.thaw) ⟨_, B.terr, blk_notro S hk⟩
    cases hx with
    | sliceZ => cases hsp
    | sliceEx hb hk' hn ho =>
      obtain rfl := Option.some.inj (hb.symm.trans B.ren)
      obtain ⟨w', m1, m2⟩ := main _
      exact ⟨_, w', ρ, τ, hrun _ _ _ _ m1, .sliceEx hb hk' hn ho, m2⟩
    | sliceUn hb hn ho hs hr =>
      obtain rfl := Option.some.inj (hb.symm.trans B.ren)
      obtain ⟨w', m1, m2⟩ := main _
      exact ⟨_, w', ρ, τ, hrun _ _ _ _ m1, .sliceUn hb hn ho hs hr, m2⟩
  · rename_i e b off len cap hs hd
    refine gv ?_
    split at h
    · rename_i hm
      have he := isU8_iff hm
      simp only [Option.bind_eq_some_iff, Option.map_eq_some_iff] at h
      obtain ⟨cs, hcs, l, hl, rfl⟩ := h
      obtain ⟨i, vs', h1, h2, h3, h4⟩ := S.readAt hcs
      obtain ⟨ns, rfl, rfl⟩ := toBytes_some hl
      have := vrels_ints h2
      subst this
      have hlen : ns.length = len := by simpa using h3
      have main : ∀ (o' c' : Nat), (len ≠ 0 → o' = i.off + off) → ∃ v', (convert src dst (.slice (some ⟨i.blk, o', none⟩) len c')).run P w = .ok v' w ∧ VRel ρ (.string ⟨(ns.map fun n => UInt8.ofNat n.toNat).toArray⟩) v' := by
        intro o' c' ho
        have hload : (loadCells ⟨i.blk, o', none⟩ len).run P w = .ok (ns.map (Value.int .u8)).toArray w := by
          have := run_loadCells_list (P := P) w ⟨i.blk, o', none⟩ (ns.map (Value.int .u8)) (fun q v hv => by
            rw [add_addr]
            have hq : q < ns.length := by have := (List.getElem?_eq_some_iff.1 hv).1; simpa using this
            rw [ho (by omega)]; exact h4 q v hv)
          rwa [List.length_map, hlen] at this
        rw [run_convert_bytes_string w src dst e _ _ _ hs he hd, run_bytesToString w _ _ _ ns hload, foldl_push]
        exact ⟨_, rfl, .string _⟩
      cases hx with
      | sliceEx hb hk hn ho => 
        rw [h1] at hb; cases hb
        exact main _ _ (fun hne => ho (by omega))
      | sliceUn hb hn ho hs' hr =>
        rw [h1] at hb; cases hb
        exact main _ _ (fun hne => ho (by omega))
    · cases h
  · cases h
theorem aconv_run {src dst : TypeId} {x x' : Value} (h : aconv P src dst x = some v) (hx : VRel ρ x x') (w : World) : ∃ v', (convert src dst x').run P w = .ok v' w ∧ VRel ρ v v' := by
  unfold aconv at h
  simp only [Option.bind_eq_some_iff] at h
  obtain ⟨us, hus, ud, hud, h⟩ := h
  split at h
  · rename_i k k0 n
    cases hx; cases h
    exact ⟨_, by simp [convert, Sem.run_bind, run_underlying hus, run_underlying hud, Conv.intToInt], .int _ _⟩
  · rename_i k0 n
    cases hx; cases h
    exact ⟨_, by simp [convert, Sem.run_bind, run_underlying hus, run_underlying hud, Conv.intToString], .string _⟩
  · rename_i s
    cases hx; cases h
    exact ⟨_, by simp [convert, Sem.run_bind, run_underlying hus, run_underlying hud], .string _⟩
  · cases h
theorem same_pure {s : Sem Value} (h : ∃ v', s.run P w = .ok v' w ∧ VRel ρ v v') : ∃ v', (do pure (.value (← s)) : Sem Next).run P w = .ok (.value v') w ∧ VRel ρ v v' := by
  obtain ⟨v', h1, h2⟩ := h
  exact ⟨v', by simp [Sem.run_bind, h1], h2⟩
theorem pure_sound (h : aPure P ρa o = some v) (hop : OpdRel ρ ρa ρr o) (w : World) : ∃ v', (execOp ρr o).run P w = .ok (.value v') w ∧ VRel ρ v v' := by
  unfold aPure at h
  unfold OpdRel at hop
  unfold execOp
  split at h <;> first | (rename_i heq; rw [heq] at hop ⊢; simp only []) | (cases h; done)
  · -- move
    rename_i x
    cases h
    exact ⟨_, rfl, (hop x (by simp [Op.operands]))⟩
  · rename_i x
    cases h
    exact ⟨_, rfl, (hop x (by simp [Op.operands]))⟩
  · -- pick
    rename_i c a b
    have hc := hop c (by simp [Op.operands])
    split at h
    · rename_i t hct
      rw [hct] at hc
      cases h
      generalize ρr c = rc at hc
      cases hc
      cases t
      · exact ⟨(ρr b), rfl, (hop b (by simp [Op.operands]))⟩
      · exact ⟨(ρr a), rfl, (hop a (by simp [Op.operands]))⟩
    · cases h
  · -- build
    rename_i t parts
    have hp := parts_rel (ρ := ρ) (ρa := ρa) (ρr := ρr) (parts := parts) (fun x hx => hop x (by simpa [Op.operands] using hx))
    exact same_pure (abuild_run h hp.1 hp.2 w)
  · -- nilCheck
    rename_i x
    have hx := hop x (by simp [Op.operands])
    split at h
    · rename_i a hxa
      rw [hxa] at hx
      cases h
      generalize ρr x = rx at hx
      cases hx with
      | ptr hb => exact ⟨_, rfl, (.ptr hb)⟩
    · rename_i f a b hxa
      rw [hxa] at hx
      cases h
      generalize ρr x = rx at hx
      cases hx with
      | func h1 h2 => exact ⟨_, rfl, (.func h1 h2)⟩
    · rename_i f a b hxa
      rw [hxa] at hx
      cases h
      generalize ρr x = rx at hx
      cases hx with
      | yield h0 h1 h2 => exact ⟨_, rfl, (.yield h0 h1 h2)⟩
    · cases h
  · -- binOp
    rename_i op t x y yt
    exact same_pure (abin_run h (hop x (by simp [Op.operands])) (hop y (by simp [Op.operands])) w)
  · rename_i op t x
    exact same_pure (aunary_run h (hop x (by simp [Op.operands])) w)
  · -- convert
    rename_i src dst x
    have hx := hop x (by simp [Op.operands])
    exact same_pure (aconv_run h hx w)
  · -- makeInterface
    rename_i t x
    have hx := hop x (by simp [Op.operands])
    split at h
    · cases h
    · rename_i u hno hu
      cases h
      refine same_pure ⟨.iface t (ρr x), ?_, .iface hx⟩
      simp only [Instr.makeInterface, Sem.run_bind, run_underlying hu, Result.andThen_ok, Sem.run_pure]
    · cases h
  · -- makeFunc
    rename_i fn first captured
    split at h
    · rename_i f
      cases h
      refine same_pure ⟨.func (.func f) (first.map ρr) (captured.map ρr), rfl, ?_⟩
      refine .func ?_ ?_
      · simpa using args_rel (args := first) (fun x hx => hop x (by simp [Op.operands]; left; simpa using hx))
      · simpa using args_rel (args := captured) (fun x hx => hop x (by simp [Op.operands]; right; simpa using hx))
    · cases h
  · rename_i t x f
    exact same_pure (afieldAddr_run h (hop x (by simp [Op.operands])) w)
  · rename_i t x f
    exact same_pure (afield_run h (hop x (by simp [Op.operands])) w)
  · rename_i t x ix
    exact same_pure (aindexAddr_run h (hop x (by simp [Op.operands])) (hop ix (by simp [Op.operands])) w)
  · rename_i t x ix
    exact same_pure (aindex_run h (hop x (by simp [Op.operands])) (hop ix (by simp [Op.operands])) w)
  · rename_i x ix
    exact same_pure (aextract_run h (hop x (by simp [Op.operands])) w)
  · rename_i x xt asserted
    exact same_pure (atypeAssert_run h (hop x (by simp [Op.operands])) w)
  · -- max, min
    rename_i b args ats
    have ha := args_rel (ρ := ρ) (ρa := ρa) (ρr := ρr) (args := args) (fun x hx => hop x (by simp [Op.operands, Call.operands]; simpa using hx))
    split at h
    · obtain ⟨v', h1, h2⟩ := aminmax_run (P := P) (ts := ats) (t := o.type) h ha w
      simp only [if_true] at h1
      exact ⟨v', by simp [resolve, invoke, builtin, Sem.run_bind, h1], h2⟩
    · obtain ⟨v', h1, h2⟩ := aminmax_run (P := P) (ts := ats) (t := o.type) h ha w
      simp only [Bool.false_eq_true, if_false] at h1
      exact ⟨v', by simp [resolve, invoke, builtin, Sem.run_bind, h1], h2⟩
    · cases h
end
end Go.Ag
namespace Go.Ag
section
variable {P : Program} {ρ : Ren} {τ : Nat → Option Nat} {A A' : AState} {w : World} {ρa ρr : Operand → Value} {o : Oper} {v : Value}
theorem read_sound (S : Sim P ρ τ A w) (h : aRead P ρa o A = some v) (hop : OpdRel ρ ρa ρr o) : OpGives P ρ τ A w (execOp ρr o) v A := by
  unfold aRead at h
  unfold OpdRel at hop
  unfold execOp
  split at h <;> first | (rename_i heq; rw [heq] at hop ⊢; simp only []) | (cases h; done)
  · rename_i t a
    exact same_op S (aload_run S h (hop a (by simp [Op.operands])))
  · rename_i t x key ok
    exact same_op S (alookup_run S h (hop x (by simp [Op.operands])) (hop key (by simp [Op.operands])))
  · rename_i t x lo hi mx
    refine same_op S (aslice_run S h (hop x (by simp [Op.operands])) (opt_rel fun y hy => hop y ?_) (opt_rel fun y hy => hop y ?_) (opt_rel fun y hy => hop y ?_))
    all_goals (simp only [Op.operands, Array.toList_append, List.mem_append]; simp only [hy, or_true, true_or])
  · rename_i src dst x
    exact (aconvRead_run S h (hop x (by simp [Op.operands]))).op
  · rename_i args ats
    split at h
    · rename_i x t ts hargs hts
      have hx := hop x (by simp only [Op.operands, Call.operands, Array.toList_append, List.mem_append]; right; rw [hargs]; simp)
      obtain ⟨v', h1, h2⟩ := alen_run S h hx ts o.type []
      have e1 : ats = (t :: ts).toArray := by rw [← hts]
      have e2 : args.map ρr = [ρr x].toArray := by
        apply Array.ext'; rw [Array.toList_map, hargs]; rfl
      exact ⟨.value v', w, ρ, τ, by simp only [resolve, Sem.run_bind, Sem.run_pure, Result.andThen_ok, invoke, builtin, e1, e2, h1], .value h2, .refl S⟩
    · cases h
theorem aMake_size (h : aMake P ρa o A = some (v, A')) : A'.size = A.size + 1 := by
  unfold aMake at h
  split at h
  · unfold aalloc at h
    simp only [Option.bind_eq_some_iff] at h
    obtain ⟨i, hi, z, hz, h⟩ := h
    split at h
    · simp only [Option.some.injEq, Prod.mk.injEq] at h; rw [← h.2]; rfl
    · cases h
  · simp only [Option.some.injEq] at h
    have := congrArg Prod.snd h
    simp only at this; rw [← this]; rfl
  · unfold abuildSlice at h
    split at h
    · simp only [Option.bind_eq_some_iff] at h
      obtain ⟨e, he, h⟩ := h
      split at h
      · cases h
      · simp only [Option.bind_eq_some_iff] at h
        obtain ⟨z, hz, cs, hcs, h⟩ := h
        simp only [Option.some.injEq, Prod.mk.injEq] at h; rw [← h.2]; rfl
    · cases h
  · unfold amakeSlice at h
    split at h
    · simp only [Option.bind_eq_some_iff] at h
      obtain ⟨e, he, h⟩ := h
      split at h
      · split at h
        · simp only [Option.some.injEq, Prod.mk.injEq] at h; rw [← h.2]; rfl
        · simp only [Option.bind_eq_some_iff] at h
          obtain ⟨z, hz, h⟩ := h
          split at h
          · simp only [Option.some.injEq, Prod.mk.injEq] at h; rw [← h.2]; rfl
          · cases h
      · cases h
    · cases h
  · unfold amakeMap at h
    split at h
    · simp only [Option.some.injEq, Prod.mk.injEq] at h; rw [← h.2]; rfl
    · cases h
  · unfold arange at h
    split at h
    · simp only [Option.some.injEq, Prod.mk.injEq] at h; rw [← h.2]; rfl
    · cases h
  · unfold abytes at h
    split at h
    · split at h
      · simp only [Option.some.injEq, Prod.mk.injEq] at h; rw [← h.2]; rfl
      · cases h
    · cases h
  · cases h
theorem make_sound (S : Sim P ρ τ A w) (h : aMake P ρa o A = some (v, A')) (hop : OpdRel ρ ρa ρr o) (hfree : ρ A.size = none) : OpGives P ρ τ A w (execOp ρr o) v A' := by
  unfold aMake at h
  unfold OpdRel at hop
  unfold execOp
  split at h <;> first | (rename_i heq; rw [heq] at hop ⊢; simp only []) | (cases h; done)
  · exact (aalloc_run S h hfree).op
  · rename_i t x
    have hx := hop x (by simp [Op.operands])
    simp only [Option.some.injEq] at h
    have h1 := congrArg Prod.fst h
    have h2 := congrArg Prod.snd h
    simp only at h1 h2
    have := abox_run (t := t) S hx hfree
    rw [h1, h2] at this
    exact this.op
  · rename_i t len parts
    have hp := parts_rel (ρ := ρ) (ρa := ρa) (ρr := ρr) (parts := parts) (fun x hx => hop x (by simpa [Op.operands] using hx))
    exact (abuildSlice_run S h hp.1 hp.2 hfree).op
  · rename_i t l c
    exact (amakeSlice_run S h (hop l (by simp [Op.operands])) (hop c (by simp [Op.operands])) hfree).op
  · rename_i t r
    exact (amakeMap_run S h (opt_rel fun y hy => hop y (by simpa [Op.operands] using hy)) hfree).op
  · rename_i t x
    exact (arange_run S h (hop x (by simp [Op.operands])) hfree).op
  · rename_i src dst x
    exact (abytes_run S h (hop x (by simp [Op.operands])) hfree).op
theorem write_sound (S : Sim P ρ τ A w) (h : aWrite P ρa o A = some (v, A')) (hop : OpdRel ρ ρa ρr o) (hfree : ∀ b, A.size ≤ b → b < A'.size → ρ b = none) : OpGives P ρ τ A w (execOp ρr o) v A' := by
  unfold aWrite at h
  unfold OpdRel at hop
  unfold execOp
  have hargs : ∀ (args : Array Operand) (b : Builtin) (ats : Array TypeId), o.op = .call { callee := .builtin b, args := args, argTypes := ats } → VRels ρ (args.toList.map ρa) (args.toList.map ρr) ∧ (args.map ρr) = (args.toList.map ρr).toArray := by
    intro args b ats he
    refine ⟨VRels.map _ fun x hx => hop x ?_, by apply Array.ext'; simp⟩
    rw [he]
    simp only [Op.operands, Call.operands, Array.toList_append, List.mem_append]; right; exact hx
  split at h <;> first | (rename_i heq; have hargs' := hargs; rw [heq] at hop ⊢; simp only []) | (cases h; done)
  · rename_i t p x
    simp only [Option.map_eq_some_iff, Prod.mk.injEq] at h
    obtain ⟨A2, h, rfl, rfl⟩ := h
    exact skip_op (astore_run S h (hop p (by simp [Op.operands])) (hop x (by simp [Op.operands])))
  · rename_i t m k x
    simp only [Option.map_eq_some_iff, Prod.mk.injEq] at h
    obtain ⟨A2, h, rfl, rfl⟩ := h
    exact skip_op (amapUpdate_run S h (hop m (by simp [Op.operands])) (hop k (by simp [Op.operands])) (hop x (by simp [Op.operands])))
  · rename_i t m k x
    simp only [Option.map_eq_some_iff, Prod.mk.injEq] at h
    obtain ⟨A2, h, rfl, rfl⟩ := h
    exact skip_op (amapUpdate_run S h (hop m (by simp [Op.operands])) (hop k (by simp [Op.operands])) (hop x (by simp [Op.operands])))
  · rename_i args ats
    obtain ⟨h1, h2⟩ := hargs _ _ _ heq
    have := (aappend_run S h h1 hfree o.type).op
    simpa [resolve, invoke, builtin, h2] using this
  · rename_i args ats
    obtain ⟨h1, h2⟩ := hargs _ _ _ heq
    have := (acopy_run S h h1 o.type).op
    simpa [resolve, invoke, builtin, h2] using this
  · rename_i args ats
    obtain ⟨h1, h2⟩ := hargs _ _ _ heq
    have := (aclear_run S h h1 o.type).op
    simpa [resolve, invoke, builtin, h2] using this
  · rename_i x isString
    exact (anext_run S h (hop x (by simp [Op.operands]))).op
end
end Go.Ag
namespace Go.Ag
section
variable {P : Program} {ρ ρ' : Ren} {τ τ' : Nat → Option Nat} {A A' : AState} {w w' : World} {E E' : Env} {a : Act}
theorem yielded_eq {tmps : Array Value} (h : ERel ρ E tmps) (ops : Array Oper) : yieldedA ops.toList E = yielded ops tmps := by
  funext j
  unfold yieldedA yielded
  rw [Array.getElem?_toList]
  cases hd : (ops[j]?).bind (·.dst) with
  | none => rfl
  | some t =>
    have hg := h.get t
    simp only [Option.bind_some]
    have hD : tmps.getD t undef = (tmps[t]?).getD undef := by
      simp [Array.getD_eq_getD_getElem?]
    rw [hD] at hg
    cases hv : tmps[t]? with
    | none =>
      rw [hv] at hg
      simp only [Option.getD_none] at hg
      generalize E.get t = x at hg ⊢
      cases hg <;> rfl
    | some y =>
      rw [hv] at hg
      simp only [Option.getD_some] at hg
      generalize E.get t = x at hg ⊢
      cases hg <;> rfl
theorem wanted_eq {tmps : Array Value} (h : ERel ρ E tmps) (ops : Array Oper) (o : Oper) : wantedA ops.toList E o = Region.wanted o (yielded ops tmps) := by
  unfold wantedA
  rw [yielded_eq h]
theorem ERel.opd (S : Sim P ρ τ A w) (h : ERel ρ E a.tmps) {x : Operand} (hx : opdOk P x = true) : VRel ρ (E.eval x) (a.eval x) := by
  cases x with
  | tmp t => exact h.get t
  | const v => exact .plain hx
  | global g =>
    obtain ⟨i, h1, h2, h3⟩ := S.glob g (Nat.blt_eq.mp hx)
    have := VRel.ptr (o := 0) h1
    rw [h2, h3] at this
    exact this
  | func f => exact .func .nil .nil
theorem ERel.opds (S : Sim P ρ τ A w) (h : ERel ρ E a.tmps) {o : Oper} (ho : operOk P o = true) : OpdRel ρ E.eval a.eval o :=
  fun x hx => h.opd S (List.all_eq_true.1 ho x hx)
theorem Env.put_some {d : Tmp} {v : Value} (h : E.put (some d) v = some E') : d < E.n ∧ E' = ⟨E.t.set v d, E.n⟩ := by
  have h1 : E.put (some d) v = if Nat.blt d E.n then some ⟨E.t.set v d, E.n⟩ else none := rfl
  rw [h1] at h
  split at h
  · rename_i hb
    exact ⟨Nat.blt_eq.mp hb, (Option.some.inj h).symm⟩
  · cases h
theorem Env.get_put {d : Tmp} {v : Value} (h : E.put (some d) v = some E') (t : Nat) : E'.get t = if d = t then v else E.get t := by
  obtain ⟨_, rfl⟩ := Env.put_some h
  exact FT.get_set _ _ _ _
theorem Env.put_n {d : Option Tmp} {v : Value} (h : E.put d v = some E') : E'.n = E.n := by
  cases d with
  | none => exact congrArg Env.n (Option.some.inj h).symm
  | some d => obtain ⟨_, rfl⟩ := Env.put_some h; rfl
theorem Env.put_lt {d : Tmp} {v : Value} (h : E.put (some d) v = some E') : d < E.n := (Env.put_some h).1
theorem ERel.put (h : ERel ρ E a.tmps) {d : Option Tmp} {v v' : Value} (hv : VRel ρ v v') (hp : E.put d v = some E') : ERel ρ E' (a.put d v').tmps := by
  cases d with
  | none =>
    obtain rfl := Option.some.inj hp
    exact h
  | some d =>
    have hd := Env.put_lt hp
    refine ⟨by rw [Env.put_n hp, ← h.size]; simp [Act.put], fun t => ?_⟩
    rw [Env.get_put hp]
    simp only [Act.put, Array.getD_eq_getD_getElem?, Array.getElem?_setIfInBounds]
    by_cases e : d = t
    · subst e
      rw [if_pos rfl, if_pos rfl, if_pos (by rw [h.size]; exact hd)]
      exact hv
    · rw [if_neg e, if_neg e]
      have := h.get t
      rwa [Array.getD_eq_getD_getElem?] at this
def OpRuns (P : Program) (b : Frame) (ops : Array Oper) (a : Act) (w : World) (i : Nat) (rest : List Nat) (k : List Item) (cs : List Frame) (v' : Value) (w' : World) : Prop :=
  Steps P (lone (b.atR a (.inRegion ops (i :: rest) :: k)) cs w) (lone (b.atR (a.put ((ops[i]?).bind (·.dst)) v') (.inRegion ops rest :: k)) cs w')
theorem kind_no_defer {o : Oper} (h : kindOf P o ≠ .no) (c : Call) : o.op ≠ .defer c := by
  intro e
  apply h
  unfold kindOf
  rw [e]
variable {b : Frame} {ops : Array Oper} {i : Nat} {rest : List Nat} {k : List Item} {cs : List Frame} {o : Oper} {v : Value}
theorem run_value (ho : ops[i]? = some o) (hw : Region.wanted o (yielded ops a.tmps) = true) (hk : kindOf P o ≠ .no) {v' : Value} (hr : (execOp a.eval o).run P w = .ok (.value v') w') :
    OpRuns P b ops a w i rest k cs v' w' := by
  refine .one (step_lone_go ?_)
  rw [stepGR_op ho hw, Oper.semAt_eq _ _ _ (kind_no_defer hk), ← Frame.finish_atR]
  simp [stepG.apply, hr]
theorem run_skip (ho : ops[i]? = some o) (hw : Region.wanted o (yielded ops a.tmps) = true) (hk : kindOf P o ≠ .no) (hr : (execOp a.eval o).run P w = .ok .skip w') :
    OpRuns P b ops a w i rest k cs undef w' := by
  refine .one (step_lone_go ?_)
  rw [stepGR_op ho hw, Oper.semAt_eq _ _ _ (kind_no_defer hk), ← Frame.finish_atR]
  simp [stepG.apply, hr]
theorem run_unwanted (ho : ops[i]? = some o) (hw : Region.wanted o (yielded ops a.tmps) = false) : OpRuns P b ops a w i rest k cs undef w :=
  .one (stepR_op_skip (by rw [ho]; simpa using hw))
theorem OpGives.runs (ho : ops[i]? = some o) (hw : Region.wanted o (yielded ops a.tmps) = true) (hk : kindOf P o ≠ .no) (h : OpGives P ρ τ A w (execOp a.eval o) v A') :
    ∃ v' w' ρ' τ', OpRuns P b ops a w i rest k cs v' w' ∧ VRel ρ' v v' ∧ Ext P ρ τ A w ρ' τ' A' w' := by
  obtain ⟨nx, w', ρ', τ', h1, h2, h3⟩ := h
  cases h2 with
  | value hv => exact ⟨_, w', ρ', τ', run_value ho hw hk h1, hv, h3⟩
  | skip hv => exact ⟨_, w', ρ', τ', run_skip ho hw hk h1, by rw [hv]; exact .undef, h3⟩
end
end Go.Ag
namespace Go.Ag
section
variable {P : Program} {A A' : AState} {ρ : Operand → Value} {o : Oper} {v : Value}
theorem AState.write_size {b off : Nat} {vs : List Value} (h : A.write b off vs = some A') : A'.size = A.size := by
  unfold AState.write at h
  split at h
  · split at h
    · split at h
      · cases h; rfl
      · split at h
        · split at h
          · cases h; rfl
          · cases h
        · cases h
    · cases h
  · cases h
theorem AState.grown_size {cells : List Value} {es : Nat} {fam : Option (Nat × Bool)} {id : Nat} (h : A.grown cells es fam = some (id, A')) : A.size ≤ A'.size := by
  unfold AState.grown at h
  split at h
  · cases h; exact Nat.le_succ _
  · split at h
    · split at h
      · cases h; exact Nat.le_succ _
      · cases h
    · cases h
theorem amapUpdate_size {t : TypeId} {m k x : Value} (h : amapUpdate P A t m k x = some A') : A'.size = A.size := by
  unfold amapUpdate at h
  split at h
  · split at h
    · split at h
      · simp only [Option.bind_eq_some_iff] at h
        obtain ⟨f, _, h⟩ := h
        split at h <;> (cases h; rfl)
      · cases h
    · cases h
  · cases h
theorem astore_size {t : TypeId} {p x : Value} (h : astore P A t p x = some A') : A'.size = A.size := by
  unfold astore at h
  split at h
  · simp only [Option.bind_eq_some_iff] at h
    obtain ⟨i, _, h⟩ := h
    split at h
    · exact AState.write_size h
    · cases h
  · cases h
theorem aappend_size {ts : List TypeId} {as : List Value} (h : aappend P A ts as = some (v, A')) : A.size ≤ A'.size := by
  unfold aappend at h
  split at h
  case h_2 => cases h
  split at h
  case h_2 => cases h
  simp only [Option.bind_eq_some_iff] at h
  obtain ⟨e, _, z, _, zeros, _, ⟨n, new⟩, _, h⟩ := h
  split at h
  case isFalse => cases h
  split at h
  · split at h
    · cases h; exact Nat.le_refl _
    · split at h
      · simp only [Option.bind_eq_some_iff] at h
        obtain ⟨⟨id, A2⟩, hg, h⟩ := h
        cases h
        exact AState.grown_size hg
      · cases h
  · simp only [Option.bind_eq_some_iff] at h
    obtain ⟨k, _, h⟩ := h
    split at h
    · cases h; exact Nat.le_refl _
    · split at h
      · split at h
        · split at h
          · simp only [Option.bind_eq_some_iff] at h
            obtain ⟨A2, hw, h⟩ := h
            cases h
            exact Nat.le_of_eq (AState.write_size hw).symm
          · split at h
            · simp only [Option.bind_eq_some_iff] at h
              obtain ⟨_, _, _, _, _, _, ⟨id, A2⟩, hg, h⟩ := h
              cases h
              exact AState.grown_size hg
            · cases h
        · cases h
      · split at h
        · simp only [Option.bind_eq_some_iff] at h
          obtain ⟨A2, hw, h⟩ := h
          cases h
          exact Nat.le_of_eq (AState.write_size hw).symm
        · split at h
          · simp only [Option.bind_eq_some_iff] at h
            obtain ⟨_, _, ⟨id, A2⟩, hg, h⟩ := h
            cases h
            exact AState.grown_size hg
          · cases h
  · cases h
theorem acopy_size {ts : List TypeId} {as : List Value} (h : acopy P A ts as = some (v, A')) : A.size ≤ A'.size := by
  unfold acopy at h
  split at h
  case h_2 => cases h
  split at h
  case h_2 => cases h
  simp only [Option.bind_eq_some_iff] at h
  obtain ⟨e, _, xl, _, cs, _, h⟩ := h
  split at h
  case isFalse => cases h
  split at h
  · cases h; exact Nat.le_refl _
  · split at h
    · simp only [Option.bind_eq_some_iff] at h
      obtain ⟨A2, hw, h⟩ := h
      cases h
      exact Nat.le_of_eq (AState.write_size hw).symm
    · cases h
theorem aclear_size {ts : List TypeId} {as : List Value} (h : aclear P A ts as = some (v, A')) : A.size ≤ A'.size := by
  unfold aclear at h
  split at h
  case h_2 => cases h
  split at h
  case h_2 => cases h
  split at h
  · cases h; exact Nat.le_refl _
  · split at h
    · simp only [Option.bind_eq_some_iff] at h
      obtain ⟨e, _, z, _, h⟩ := h
      split at h
      · simp only [Option.map_eq_some_iff, Prod.mk.injEq] at h
        obtain ⟨A2, hw, _, rfl⟩ := h
        exact Nat.le_of_eq (AState.write_size hw).symm
      · cases h
    · cases h
theorem anext_size {x : Value} {s : Bool} (h : anext A x s = some (v, A')) : A.size ≤ A'.size := by
  unfold anext at h
  split at h
  · split at h
    · split at h <;> (cases h; exact Nat.le_refl _)
    · cases h
  · cases h
theorem aWrite_size (h : aWrite P ρ o A = some (v, A')) : A.size ≤ A'.size := by
  unfold aWrite at h
  split at h
  · simp only [Option.map_eq_some_iff, Prod.mk.injEq] at h
    obtain ⟨A2, h, _, rfl⟩ := h
    exact Nat.le_of_eq (astore_size h).symm
  · simp only [Option.map_eq_some_iff, Prod.mk.injEq] at h
    obtain ⟨A2, h, _, rfl⟩ := h
    exact Nat.le_of_eq (amapUpdate_size h).symm
  · simp only [Option.map_eq_some_iff, Prod.mk.injEq] at h
    obtain ⟨A2, h, _, rfl⟩ := h
    exact Nat.le_of_eq (amapUpdate_size h).symm
  · exact aappend_size h
  · exact acopy_size h
  · exact aclear_size h
  · exact anext_size h
  · cases h
end
def Free (ρ : Ren) (A A' : AState) : Prop := ∀ b, A.size ≤ b → b < A'.size → ρ b = none
theorem Free.head {ρ : Ren} {A A' A'' : AState} (h : Free ρ A A'') (hs : A'.size ≤ A''.size) : Free ρ A A' := fun b h1 h2 => h b h1 (Nat.lt_of_lt_of_le h2 hs)
theorem Free.tail {P : Program} {ρ ρ' : Ren} {τ τ' : Nat → Option Nat} {A A' A'' : AState} {w w' : World} (h : Free ρ A A'') (x : Ext P ρ τ A w ρ' τ' A' w') : Free ρ' A' A'' := fun b h1 h2 => by
  rw [x.same b (.inr h1)]
  exact h b (Nat.le_trans x.size h1) h2
end Go.Ag
namespace Go.Ag
structure FrameOk (b : Frame) (a : Act) (τ : Nat → Option Nat) (w : World) (lo : Nat) : Prop where
  kind : b.kind = .normal
  low : lo ≤ w.heap.size
  loop : ∀ l, b.roundOf = some l → ∃ R : Loop, w.heap[l]? = some (.loop R)
  marks : ∃ rs : List Nat, a.defers = rs.map (fun r => { target := .collected r, args := #[] }) ∧ rs.Nodup ∧ ∀ r ∈ rs, lo ≤ r ∧ τ r = none ∧ w.heap[r]? = some (.deferred (some []))
theorem FrameOk.ext {P : Program} {ρ ρ' : Ren} {τ τ' : Nat → Option Nat} {A A' : AState} {w w' : World} {b : Frame} {a a' : Act} {lo : Nat}
    (h : FrameOk b a τ w lo) (x : Ext P ρ τ A w ρ' τ' A' w') (ha : a'.defers = a.defers) : FrameOk b a' τ' w' lo where
  kind := h.kind
  low := Nat.le_trans h.low x.frm.size
  loop l hl := by
    obtain ⟨R, hR⟩ := h.loop l hl
    exact x.loops l R hR
  marks := by
    obtain ⟨rs, h1, h2, h3⟩ := h.marks
    refine ⟨rs, by rw [ha, h1], h2, fun r hr => ?_⟩
    obtain ⟨h0, h4, h5⟩ := h3 r hr
    have hlt : r < w.heap.size := (Array.getElem?_eq_some_iff.1 h5).1
    exact ⟨h0, (x.told r hlt).elim (fun e => e.trans h4) id, by rw [x.frm.keep r hlt h4]; exact h5⟩
inductive Lands (P : Program) (b : Frame) (k : List Item) (cs : List Frame) (m : Machine) (a' : Act) (w' : World) : AExit → Prop
  | normal (h : Steps P m (lone (b.atR a' k) cs w')) : Lands P b k cs m a' w' .normal
  | exit {id : Nat} (k1 : List Item) (hx : exitTo id k1 = exitTo id k) (h : Steps P m (lone (b.atR a' (.code (.exit id) :: k1)) cs w')) : Lands P b k cs m a' w' (.exit id)
  | ret (k1 : List Item) (h : Steps P m (lone (b.atR a' (.code .ret :: k1)) cs w')) : Lands P b k cs m a' w' .ret
theorem Lands.of_steps {P : Program} {b : Frame} {k : List Item} {cs : List Frame} {m m' : Machine} {a' : Act} {w' : World} {x : AExit}
    (h : Steps P m m') (l : Lands P b k cs m' a' w' x) : Lands P b k cs m a' w' x := by
  cases l with
  | normal h1 => exact .normal (h.trans h1)
  | exit k1 hx h1 => exact .exit k1 hx (h.trans h1)
  | ret k1 h1 => exact .ret k1 (h.trans h1)
def Gives' (P : Program) (its : List Item) (E : Env) (A : AState) (x : AExit) (E' : Env) (A' : AState) : Prop :=
  ∀ {ρ : Ren} {τ : Nat → Option Nat} {w : World} {a : Act} {lo : Nat} {b : Frame}, Sim P ρ τ A w → ERel ρ E a.tmps → Free ρ A A' → FrameOk b a τ w lo →
    ∀ (k : List Item) (cs : List Frame), ∃ ρ' τ' a' w', Ext P ρ τ A w ρ' τ' A' w' ∧ ERel ρ' E' a'.tmps ∧ FrameOk b a' τ' w' lo ∧ Lands P b k cs (lone (b.atR a (its ++ k)) cs w) a' w' x
def roundTmps (R : Loop) (args : Array Value) : Array Value := (R.params.zip args).foldl (fun tmps (t, a) => tmps.setIfInBounds t a) R.tmps
structure FnsOk (P : Program) (F : Fns) : Prop where
  callSize : ∀ {f : FuncId} {args : List Value} {A A' : AState} {v : Value}, F.call f args A = some (v, A') → A.size ≤ A'.size
  callBody : ∀ {f : FuncId} {args : List Value} {A A' : AState} {v : Value}, F.call f args A = some (v, A') → ∃ fn, P.funcs[f]? = some fn ∧ (fn.name == "runtime.NumGoroutine") = false ∧ fn.body.isSome = true
  call : ∀ {f : FuncId} {args : List Value} {A A' : AState} {v : Value}, F.call f args A = some (v, A') →
    ∀ {ρ : Ren} {τ : Nat → Option Nat} {w : World} {args' : Array Value}, Sim P ρ τ A w → VRels ρ args args'.toList → Free ρ A A' →
      Calls P f args' w fun e w' => ∃ v' ρ' τ', e = .returned v' ∧ VRel ρ' v v' ∧ Ext P ρ τ A w ρ' τ' A' w'
  roundSize : ∀ {l : Nat} {args : List Value} {A A' : AState} {v : Value}, F.round l args A = some (v, A') → A.size ≤ A'.size
  round : ∀ {l : Nat} {args : List Value} {A A' : AState} {v : Value}, F.round l args A = some (v, A') →
    ∀ {ρ : Ren} {τ : Nat → Option Nat} {w : World} {args' : Array Value} {i : BInfo}, Sim P ρ τ A w → VRels ρ args args'.toList → Free ρ A A' → ρ l = some i →
      ∃ R : Loop, w.heap[i.blk]? = some (.loop R) ∧ args'.size = R.params.size ∧
        ∀ c cs, ∃ v' w' ρ' τ', VRel ρ' v v' ∧ Ext P ρ τ A w ρ' τ' A' w' ∧ Steps P (lone (Frame.round i.blk R.fn (roundTmps R args') R.assign R.body .normal) (c :: cs) w) (lone (c.finish v') cs w')
  loopSize : ∀ {c : Code} {E E' : Env} {A A' : AState} {x : AExit}, F.loop c E A = some (x, E', A') → A.size ≤ A'.size
  loop : ∀ {c : Code} {E E' : Env} {A A' : AState} {x : AExit}, F.loop c E A = some (x, E', A') → Gives' P [.code c, .inLoop c] E A x E' A'
section
variable {P : Program} {F : Fns} {ρ ρ' : Ren} {τ τ' : Nat → Option Nat} {A A' : AState} {w w' : World} {E E' : Env} {a : Act}
variable {b : Frame} {ops : Array Oper} {i : Nat} {rest : List Nat} {k : List Item} {cs : List Frame} {o : Oper} {v : Value}
theorem callV_size (H : FnsOk P F) {f : Value} {args : List Value} (h : callV F f args A = some (v, A')) : A.size ≤ A'.size := by
  unfold callV at h
  split at h
  · exact H.callSize h
  · exact H.roundSize h
  · cases h
theorem runOp_size (H : FnsOk P F) (h : runOp P F E o A = some (v, A')) : A.size ≤ A'.size := by
  unfold runOp at h
  split at h
  · simp only [Option.map_eq_some_iff, Prod.mk.injEq] at h
    obtain ⟨_, _, _, rfl⟩ := h; exact Nat.le_refl _
  · simp only [Option.map_eq_some_iff, Prod.mk.injEq] at h
    obtain ⟨_, _, _, rfl⟩ := h; exact Nat.le_refl _
  · rw [aMake_size h]; exact Nat.le_succ _
  · exact aWrite_size h
  · unfold aCall at h
    split at h
    · exact callV_size H h
    · cases h
  · cases h
theorem runOps_size (H : FnsOk P F) {ops : List Oper} : ∀ {l : List Oper} {E E' : Env} {A A' : AState}, runOps P F ops l E A = some (E', A') → A.size ≤ A'.size := by
  intro l
  induction l with
  | nil => intro E E' A A' h; cases h; exact Nat.le_refl _
  | cons o l ih =>
    intro E E' A A' h
    unfold runOps at h
    split at h
    · split at h
      · simp only [Option.bind_eq_some_iff] at h
        obtain ⟨⟨v, A2⟩, h1, E2, h2, h3⟩ := h
        exact Nat.le_trans (runOp_size H h1) (ih h3)
      · cases h
    · simp only [Option.bind_eq_some_iff] at h
      obtain ⟨E2, h2, h3⟩ := h
      exact ih h3
theorem run_callFunc {f : FuncId} {args : Array Value} {fn : Func} (hf : P.funcs[f]? = some fn) (hn : (fn.name == "runtime.NumGoroutine") = false) (hb : fn.body.isSome = true) (w : World) :
    (callFunc f args).run P w = .ok (.enter f args) w := by
  have hb' : fn.body.isNone = false := by cases h : fn.body <;> simp_all
  simp only [callFunc, Sem.run_bind, run_program, Result.andThen_ok, hf, hn, hb', Bool.false_eq_true, if_false, Sem.run_pure]
theorem run_yield {l : Nat} {args : Array Value} {R : Loop} (hl : w.heap[l]? = some (.loop R)) (hs : args.size = R.params.size) :
    (Instr.yield l args).run P w = .ok (.round l R.fn (roundTmps R args) R.assign R.body) w := by
  have hg : (getObj l).run P w = .ok (.loop R) w := by simp [getObj, Sem.run, hl]
  simp [Instr.yield, Instr.getLoop, Sem.run_bind, hg, hs, roundTmps]
theorem callV_enters (H : FnsOk P F) {f f' : Value} {args : List Value} {args' : Array Value} (h : callV F f args A = some (v, A')) (S : Sim P ρ τ A w) (hf : VRel ρ f f') (ha : VRels ρ args args'.toList) (hfree : Free ρ A A') :
    ∃ s : Next, (do let d ← Deferred.ofValue f' args'; invoke d.target d.args : Sem Next).run P w = .ok s w ∧
      ((∃ g xs, s = .enter g xs ∧ Calls P g xs w fun e w' => ∃ v' ρ' τ', e = .returned v' ∧ VRel ρ' v v' ∧ Ext P ρ τ A w ρ' τ' A' w') ∨
       (∃ l fn tmps as body, s = .round l fn tmps as body ∧ ∀ c cs, ∃ v' w' ρ' τ', VRel ρ' v v' ∧ Ext P ρ τ A w ρ' τ' A' w' ∧ Steps P (lone (Frame.round l fn tmps as body .normal) (c :: cs) w) (lone (c.finish v') cs w'))) := by
  unfold callV at h
  split at h
  · rename_i g first captured
    cases hf with
    | func h1 h2 =>
      rename_i xs' ys'
      obtain ⟨fn, hf, hn, hb⟩ := H.callBody h
      refine ⟨.enter g (xs' ++ args' ++ ys'), ?_, .inl ⟨g, _, rfl, H.call h S ?_ hfree⟩⟩
      · simp [Deferred.ofValue, invoke, run_callFunc hf hn hb]
      · simp only [Array.toList_append]
        exact (h1.append ha).append h2
  · rename_i l first captured
    cases hf with
    | yield h0 h1 h2 =>
      rename_i i xs' ys'
      obtain ⟨R, hR, hs, hc⟩ := H.round (args' := xs' ++ args') h S (by simp only [Array.toList_append]; exact h1.append ha) hfree h0
      exact ⟨.round i.blk R.fn (roundTmps R (xs' ++ args')) R.assign R.body, by simp [Deferred.ofValue, invoke, run_yield hR hs], .inr ⟨_, _, _, _, _, rfl, hc⟩⟩
  · cases h
theorem call_runs (H : FnsOk P F) (S : Sim P ρ τ A w) (hE : OpdRel ρ E.eval a.eval o) (h : aCall F E.eval o A = some (v, A')) (hfree : Free ρ A A')
    (ho : ops[i]? = some o) (hw : Region.wanted o (yielded ops a.tmps) = true) (hkind : b.kind = .normal) :
    ∃ v' w' ρ' τ', OpRuns P b ops a w i rest k cs v' w' ∧ VRel ρ' v v' ∧ Ext P ρ τ A w ρ' τ' A' w' := by
  unfold aCall at h
  split at h
  case h_2 => cases h
  rename_i f args ats heq
  have hd : ∀ c, o.op ≠ .defer c := fun c e => by rw [heq] at e; cases e
  unfold OpdRel at hE
  rw [heq] at hE
  have hf := hE f (by simp [Op.operands, Call.operands])
  have hargs : VRels ρ (args.toList.map E.eval) (args.map a.eval).toList := by
    rw [Array.toList_map]
    exact VRels.map _ fun x hx => hE x (by simp only [Op.operands, Call.operands, Array.toList_append, List.mem_append]; right; exact hx)
  obtain ⟨s, hs, hcase⟩ := callV_enters H h S hf hargs hfree
  have hrun : (execOp a.eval o).run P w = .ok s w := by
    unfold execOp
    rw [heq]
    exact hs
  have hg := stepGR_op (P := P) (b := b) (k := k) (cs := cs) (w := w) (rest := rest) ho hw
  rw [Oper.semAt_eq _ _ _ hd] at hg
  rcases hcase with ⟨g, xs, rfl, hc⟩ | ⟨l, fn, tmps, as, body, rfl, hc⟩
  · obtain ⟨e, w', fr, ⟨v', ρ', τ', rfl, h1, h2⟩, hsteps, _, hleave⟩ := hc (b.atR a (.inRegion ops (i :: rest) :: k) :: cs)
    refine ⟨v', w', ρ', τ', ?_, h1, h2⟩
    unfold OpRuns
    rw [← Frame.finish_atR]
    refine .head (step_lone_go ?_) (Steps.trans hsteps (.one (step_leave_returned hleave)))
    rw [hg]
    simp [stepG.apply, hrun, Frame.atR]
  · obtain ⟨v', w', ρ', τ', h1, h2, hsteps⟩ := hc (b.atR a (.inRegion ops (i :: rest) :: k)) cs
    refine ⟨v', w', ρ', τ', ?_, h1, h2⟩
    unfold OpRuns
    rw [← Frame.finish_atR]
    refine .head (step_lone_go ?_) hsteps
    rw [hg]
    simp [stepG.apply, hrun]
theorem runOp_runs (H : FnsOk P F) (S : Sim P ρ τ A w) (hE : OpdRel ρ E.eval a.eval o) (h : runOp P F E o A = some (v, A')) (hfree : Free ρ A A')
    (ho : ops[i]? = some o) (hw : Region.wanted o (yielded ops a.tmps) = true) (hkind : b.kind = .normal) :
    ∃ v' w' ρ' τ', OpRuns P b ops a w i rest k cs v' w' ∧ VRel ρ' v v' ∧ Ext P ρ τ A w ρ' τ' A' w' := by
  unfold runOp at h
  split at h
  · rename_i hk
    simp only [Option.map_eq_some_iff, Prod.mk.injEq] at h
    obtain ⟨v2, h, rfl, rfl⟩ := h
    obtain ⟨v', h1, h2⟩ := pure_sound h hE w
    exact ⟨v', w, ρ, τ, run_value ho hw (by rw [hk]; decide) h1, h2, .refl S⟩
  · rename_i hk
    simp only [Option.map_eq_some_iff, Prod.mk.injEq] at h
    obtain ⟨v2, h, rfl, rfl⟩ := h
    exact (read_sound S h hE).runs ho hw (by rw [hk]; decide)
  · rename_i hk
    exact (make_sound S h hE (hfree _ (Nat.le_refl _) (by rw [aMake_size h]; exact Nat.lt_succ_self _))).runs ho hw (by rw [hk]; decide)
  · rename_i hk
    exact (write_sound S h hE hfree).runs ho hw (by rw [hk]; decide)
  · exact call_runs H S hE h hfree ho hw hkind
  · cases h
theorem Act.put_defers (a : Act) (d : Option Tmp) (v : Value) : (a.put d v).defers = a.defers := by cases d <;> rfl
theorem runOps_runs (H : FnsOk P F) (ops : Array Oper) : ∀ {l : List Oper} {n : Nat} {E : Env} {A : AState} {ρ : Ren} {τ : Nat → Option Nat} {w : World} {a : Act} {lo : Nat},
    ops.toList.drop n = l → runOps P F ops.toList l E A = some (E', A') → Sim P ρ τ A w → ERel ρ E a.tmps → Free ρ A A' → FrameOk b a τ w lo →
    ∃ ρ' τ' a' w', Ext P ρ τ A w ρ' τ' A' w' ∧ ERel ρ' E' a'.tmps ∧ FrameOk b a' τ' w' lo ∧
      Steps P (lone (b.atR a (.inRegion ops (List.range' n (ops.size - n)) :: k)) cs w) (lone (b.atR a' k) cs w') := by
  intro l
  induction l with
  | nil =>
    intro n E A ρ τ w a lo hl h S hE hfree hfo
    cases h
    refine ⟨ρ, τ, a, w, .refl S, hE, hfo, ?_⟩
    have hn : ops.size - n = 0 := by
      have := List.drop_eq_nil_iff.1 hl
      simp at this; omega
    rw [hn]
    exact .one stepR_region_end
  | cons o l ih =>
    intro n E A ρ τ w a lo hl h S hE hfree hfo
    have hn : n < ops.size := by
      rcases Nat.lt_or_ge n ops.size with h | h
      · exact h
      · rw [List.drop_eq_nil_iff.2 (by simpa using h)] at hl; cases hl
    have ho : ops[n]? = some o := by
      have : (ops.toList.drop n)[0]? = some o := by rw [hl]; rfl
      simpa using this
    have hl' : ops.toList.drop (n + 1) = l := by
      have : (ops.toList.drop n).drop 1 = l := by rw [hl]; rfl
      simpa [List.drop_drop] using this
    have hr : List.range' n (ops.size - n) = n :: List.range' (n + 1) (ops.size - (n + 1)) := by
      have : ops.size - n = (ops.size - (n + 1)) + 1 := by omega
      rw [this]; rfl
    rw [hr]
    unfold runOps at h
    rw [wanted_eq hE] at h
    split at h
    · rename_i hw
      split at h
      case isFalse => cases h
      rename_i hok
      simp only [Option.bind_eq_some_iff] at h
      obtain ⟨⟨v, A2⟩, h1, E2, h2, h3⟩ := h
      have hsz := runOps_size H h3
      obtain ⟨v', w2, ρ2, τ2, r1, r2, r3⟩ := runOp_runs (b := b) (rest := List.range' (n + 1) (ops.size - (n + 1))) (k := k) (cs := cs) H S (hE.opds S hok) h1 (hfree.head hsz) ho hw hfo.kind
      obtain ⟨ρ3, τ3, a3, w3, q1, q2, q3, q4⟩ := ih hl' h3 r3.sim ((hE.mono r3.le).put r2 h2) (hfree.tail r3) (hfo.ext r3 (Act.put_defers _ _ _))
      refine ⟨ρ3, τ3, a3, w3, r3.trans q1, q2, q3, Steps.trans ?_ q4⟩
      have := r1
      unfold OpRuns at this
      rw [ho] at this
      exact this
    · rename_i hw
      simp only [Option.bind_eq_some_iff] at h
      obtain ⟨E2, h2, h3⟩ := h
      obtain ⟨ρ3, τ3, a3, w3, q1, q2, q3, q4⟩ := ih hl' h3 S (hE.put .undef h2) hfree (hfo.ext (.refl S) (Act.put_defers _ _ _))
      refine ⟨ρ3, τ3, a3, w3, q1, q2, q3, Steps.trans ?_ q4⟩
      have := run_unwanted (P := P) (b := b) (rest := List.range' (n + 1) (ops.size - (n + 1))) (k := k) (cs := cs) (w := w) ho (by simpa using hw)
      unfold OpRuns at this
      rw [ho] at this
      exact this
end
end Go.Ag
namespace Go.Ag
theorem Sim.aside {P : Program} {ρ : Ren} {τ τ' : Nat → Option Nat} {A : AState} {w w' : World} (S : Sim P ρ τ A w) (hs : w.heap.size ≤ w'.heap.size)
    (hk : ∀ r f, τ r = some f → r < w.heap.size → w'.heap[r]? = w.heap[r]?) (hτ : ∀ r, r < w.heap.size → τ' r = τ r) (hτ' : ∀ r f, τ' r = some f → τ r = some f) : Sim P ρ τ' A w' := by
  refine ⟨fun b o h => ?_, S.root, S.top, S.solo, S.ro, S.fresh, fun r f hf => S.terr r f (hτ' r f hf), S.glob, S.globs⟩
  obtain ⟨i, h1, h2, h3, h4⟩ := S.obj b o h
  exact ⟨i, h1, Nat.lt_of_lt_of_le h2 hs, by rw [hτ _ h2]; exact h3, h4.keep (hk _ _ h3 h2) (fun _ _ _ _ _ _ _ _ h => h)⟩
section
variable {P : Program} {b : Frame} {a : Act} {k : List Item} {cs : List Frame} {w : World}
theorem stepR_scope {c : Code} : step P (lone (b.atR a (.code (.scope c) :: k)) cs w) = .next (lone (b.atR a (.code c :: .inScope c :: k)) cs w) :=
  step_lone_go (by simp [stepG, stepG.exec, Frame.atR])
theorem stepR_inScope {c : Code} : step P (lone (b.atR a (.inScope c :: k)) cs w) = .next (lone (b.atR a k) cs w) :=
  step_lone_go (by simp [stepG, stepG.exec, Frame.atR])
end
def CodeOk (P : Program) (c : Code) (E : Env) (A : AState) (x : AExit) (E' : Env) (A' : AState) : Prop := A.size ≤ A'.size ∧ Gives' P [.code c] E A x E' A'
theorem Lands.pass {P : Program} {b : Frame} {it : Item} {k : List Item} {cs : List Frame} {m : Machine} {a' : Act} {w' : World} {x : AExit} (hi : ∀ id, exitTo id (it :: k) = exitTo id k) (hx : ∀ h : x = .normal, False)
    (l : Lands P b (it :: k) cs m a' w' x) : Lands P b k cs m a' w' x := by
  cases l with
  | normal h1 => exact (hx rfl).elim
  | exit k1 h h1 => exact .exit k1 (by rw [h, hi]) h1
  | ret k1 h1 => exact .ret k1 h1
section
variable {P : Program} {F : Fns} {E E' : Env} {A A' : AState} {x : AExit}
theorem same_gives {c : Code} (h : ∀ (b : Frame) (a : Act) (k : List Item) (cs : List Frame) (w : World), Lands P b k cs (lone (b.atR a (.code c :: k)) cs w) a w x) : CodeOk P c E A x E A :=
  ⟨Nat.le_refl _, fun {ρ τ w a lo b} S hE _ hfo k cs => ⟨ρ, τ, a, w, .refl S, hE, hfo, h b a k cs w⟩⟩
theorem seq_gives {c d : Code} {E1 : Env} {A1 : AState} (h1 : CodeOk P c E A .normal E1 A1) (h2 : CodeOk P d E1 A1 x E' A') : CodeOk P (.seq c d) E A x E' A' := by
  refine ⟨Nat.le_trans h1.1 h2.1, fun {ρ τ w a lo b} S hE hfree hfo k cs => ?_⟩
  obtain ⟨ρ1, τ1, a1, w1, e1, r1, f1, l1⟩ := h1.2 S hE (hfree.head h2.1) hfo (.code d :: k) cs
  obtain ⟨ρ2, τ2, a2, w2, e2, r2, f2, l2⟩ := h2.2 e1.sim r1 (hfree.tail e1) f1 k cs
  refine ⟨ρ2, τ2, a2, w2, e1.trans e2, r2, f2, ?_⟩
  cases l1 with
  | normal s => exact .of_steps (.head stepR_seq s) l2
theorem seq_leaves {c d : Code} (h1 : CodeOk P c E A x E' A') (hx : ∀ h : x = .normal, False) : CodeOk P (.seq c d) E A x E' A' := by
  refine ⟨h1.1, fun {ρ τ w a lo b} S hE hfree hfo k cs => ?_⟩
  obtain ⟨ρ1, τ1, a1, w1, e1, r1, f1, l1⟩ := h1.2 S hE hfree hfo (.code d :: k) cs
  exact ⟨ρ1, τ1, a1, w1, e1, r1, f1, .of_steps (.one stepR_seq) (l1.pass (fun _ => rfl) hx)⟩
theorem cond_gives {o : Operand} {c d : Code} {t : Bool} (ht : E.eval o = .bool t) (h : CodeOk P (if t then c else d) E A x E' A') : CodeOk P (.cond o c d) E A x E' A' := by
  refine ⟨h.1, fun {ρ τ w a lo b} S hE hfree hfo k cs => ?_⟩
  have he : a.eval o = .bool t := by
    cases o with
    | tmp u =>
      have hv : E.get u = .bool t := ht
      have := hE.get u
      rw [hv] at this
      show a.tmps.getD u undef = _
      generalize a.tmps.getD u undef = y at this
      cases this; rfl
    | const v => exact ht
    | global g => cases ht
    | func f => cases ht
  obtain ⟨ρ1, τ1, a1, w1, e1, r1, f1, l1⟩ := h.2 S hE hfree hfo k cs
  exact ⟨ρ1, τ1, a1, w1, e1, r1, f1, .of_steps (.one (stepR_cond he)) l1⟩
theorem block_gives {id : Nat} {c : Code} {y : AExit} (h : CodeOk P c E A y E' A')
    (hx : x = match y with | .exit id' => if id' = id then .normal else .exit id' | r => r) : CodeOk P (.block id c) E A x E' A' := by
  refine ⟨h.1, fun {ρ τ w a lo b} S hE hfree hfo k cs => ?_⟩
  obtain ⟨ρ1, τ1, a1, w1, e1, r1, f1, l1⟩ := h.2 S hE hfree hfo (.inBlock id :: k) cs
  refine ⟨ρ1, τ1, a1, w1, e1, r1, f1, .of_steps (.one stepR_block) ?_⟩
  cases l1 with
  | normal s => subst hx; exact .normal (s.trans (.one stepR_inBlock))
  | ret k1 s => subst hx; exact .ret k1 s
  | exit k1 he s =>
    rename_i id'
    simp only at hx
    by_cases e : id' = id
    · rw [if_pos e] at hx; subst hx
      refine .normal (s.trans (.one (stepR_exit ?_)))
      rw [he, e]; simp [exitTo]
    · rw [if_neg e] at hx; subst hx
      refine .exit k1 ?_ s
      rw [he]; simp [exitTo]; intro h; exact absurd h.symm e
theorem scope_gives {c : Code} (h : CodeOk P c E A x E' A') : CodeOk P (.scope c) E A x E' A' := by
  refine ⟨h.1, fun {ρ τ w a lo b} S hE hfree hfo k cs => ?_⟩
  obtain ⟨ρ1, τ1, a1, w1, e1, r1, f1, l1⟩ := h.2 S hE hfree hfo (.inScope c :: k) cs
  refine ⟨ρ1, τ1, a1, w1, e1, r1, f1, .of_steps (.one stepR_scope) ?_⟩
  cases l1 with
  | normal s => exact .normal (s.trans (.one stepR_inScope))
  | ret k1 s => exact .ret k1 s
  | exit k1 he s => exact .exit k1 (by rw [he]; rfl) s
theorem loop_gives (H : FnsOk P F) {c : Code} (h : F.loop c E A = some (x, E', A')) : CodeOk P (.loop c) E A x E' A' := by
  refine ⟨H.loopSize h, fun {ρ τ w a lo b} S hE hfree hfo k cs => ?_⟩
  obtain ⟨ρ1, τ1, a1, w1, e1, r1, f1, l1⟩ := H.loop h S hE hfree hfo k cs
  exact ⟨ρ1, τ1, a1, w1, e1, r1, f1, .of_steps (.one stepR_loop) l1⟩
theorem region_gives (H : FnsOk P F) {id : Nat} {ops : Array Oper} (h : runOps P F ops.toList ops.toList E A = some (E', A')) : CodeOk P (.region id ops false) E A .normal E' A' := by
  refine ⟨runOps_size H h, fun {ρ τ w a lo b} S hE hfree hfo k cs => ?_⟩
  obtain ⟨ρ1, τ1, a1, w1, e1, r1, f1, l1⟩ := runOps_runs (b := b) (k := k) (cs := cs) H ops (n := 0) rfl h S hE hfree hfo
  refine ⟨ρ1, τ1, a1, w1, e1, r1, f1, .normal (.head stepR_region ?_)⟩
  rw [List.range_eq_range']
  exact l1
end
end Go.Ag
namespace Go.Ag
theorem setObj_loop {P : Program} {w : World} {l : Nat} {R : Loop} (h : w.heap[l]? = some (.loop R)) (o : Obj) : (setObj l o).run P w = .ok () { w with heap := w.heap.setIfInBounds l o } := by
  simp [setObj, Sem.run, h]
theorem getLoop_run {P : Program} {w : World} {l : Nat} {R : Loop} (h : w.heap[l]? = some (.loop R)) : (Instr.getLoop l).run P w = .ok R w := by
  have hg : (getObj l).run P w = .ok (.loop R) w := by simp [getObj, Sem.run, h]
  simp [Instr.getLoop, Sem.run_bind, hg]
section
variable {P : Program} {F : Fns} {ρ : Ren} {τ : Nat → Option Nat} {E : Env} {A : AState} {w : World} {a : Act} {lo : Nat} {b : Frame}
theorem loopObj_push (S : Sim P ρ τ A w) (hE : ERel ρ E a.tmps) (hfree : ρ A.size = none) (fn : FuncId) (params : Array Tmp) (as body : Code) (d : Nat) :
    Ext P ρ τ A w (ρ.upd A.size ⟨w.heap.size, 0, 0, 0, 0⟩) (tup τ w.heap.size A.size) (A.push (.loop ⟨.ready, none, E, params.toList, as, body⟩))
      { w with heap := w.heap.push (.loop ⟨.ready, none, fn, a.tmps, params, as, body, d⟩) } := by
  refine S.push (ob := .loop ⟨.ready, none, fn, a.tmps, params, as, body, d⟩) (i := ⟨w.heap.size, 0, 0, 0, 0⟩) rfl rfl rfl rfl rfl trivial hfree ?_
  exact .loop ⟨.ready, none, fn, a.tmps, params, as, body, d⟩ (by simp) rfl rfl (hE.mono (Ren.le_upd _ hfree)) rfl rfl rfl
theorem enterLoop_gives (S : Sim P ρ τ A w) (hE : ERel ρ E a.tmps) (hfree : ρ A.size = none) (hfo : FrameOk b a τ w lo) (params : Array Tmp) (as body : Code) :
    ∃ l mark w1 ρ1 τ1 i, (Instr.enterLoop b.fn a.tmps params as body b.roundOf).run P w = .ok (l, mark) w1 ∧ Ext P ρ τ A w ρ1 τ1 (A.push (.loop ⟨.ready, none, E, params.toList, as, body⟩)) w1 ∧
      ρ1 A.size = some i ∧ i.blk = l ∧ FrameOk b { a with defers := mark ++ a.defers } τ1 w1 lo := by
  cases hb : b.roundOf with
  | some l0 =>
    obtain ⟨R, hR⟩ := hfo.loop l0 hb
    have hx := loopObj_push S hE hfree b.fn params as body R.defers
    refine ⟨_, [], _, _, _, _, ?_, hx, Ren.upd_same _ _ _, rfl, hfo.ext hx rfl⟩
    simp [Instr.enterLoop, Sem.run_bind, getLoop_run hR]
  | none =>
    let wd : World := { w with heap := w.heap.push (.deferred (some [])) }
    let τd : Nat → Option Nat := fun r => if r = w.heap.size then none else τ r
    have hrow : ∀ r, r < w.heap.size → wd.heap[r]? = w.heap[r]? := fun r hr => by
      show (w.heap.push _)[r]? = _
      rw [Array.getElem?_push, if_neg (by omega)]
    have hsz : wd.heap.size = w.heap.size + 1 := by show (w.heap.push _).size = _; simp
    have Sd : Sim P ρ τd A wd := S.aside (by omega) (fun r f _ hr => hrow r hr) (fun r hr => by show (if _ then _ else _) = _; rw [if_neg (by omega)]) (fun r f hf => by
      change (if _ then _ else _) = _ at hf
      split at hf
      · cases hf
      · exact hf)
    have x0 : Ext P ρ τ A w ρ τd A wd := ⟨Ren.le_refl _, fun _ _ => rfl, Nat.le_refl _, ⟨by omega, fun r hr _ => hrow r hr, rfl, rfl, rfl⟩, fun r hr => .inl (by show (if _ then _ else _) = _; rw [if_neg (by omega)]),
      fun r R hR => ⟨R, by rw [hrow r (Array.getElem?_eq_some_iff.1 hR).1]; exact hR⟩, fun r hr _ => hrow r hr, Sd⟩
    have hx := loopObj_push Sd hE hfree b.fn params as body w.heap.size
    refine ⟨_, [{ target := .collected w.heap.size, args := #[] }], _, _, _, _, ?_, x0.trans hx, Ren.upd_same _ _ _, rfl, ?_⟩
    · simp [Instr.enterLoop, wd]; rfl
    · have hf := (hfo.ext x0 (a' := a) rfl)
      refine ⟨hf.kind, Nat.le_trans hf.low hx.frm.size, fun l hl => (by rw [hb] at hl; cases hl), ?_⟩
      obtain ⟨rs, h1, h2, h3⟩ := (hfo.ext (x0.trans hx) (a' := a) rfl).marks
      obtain ⟨rs0, h1', h2', h3'⟩ := hfo.marks
      have : rs = rs0 := by
        rw [h1] at h1'
        have inj : ∀ (xs ys : List Nat), xs.map (fun r => ({ target := .collected r, args := #[] } : Deferred)) = ys.map (fun r => { target := .collected r, args := #[] }) → xs = ys := by
          intro xs
          induction xs with
          | nil => intro ys h; cases ys with | nil => rfl | cons y ys => simp at h
          | cons x xs ih => intro ys h; cases ys with | nil => simp at h | cons y ys => simp at h; rw [h.1, ih ys (by simpa using h.2)]
        exact inj _ _ h1'
      subst this
      refine ⟨w.heap.size :: rs, by rw [h1]; rfl, ?_, ?_⟩
      · refine List.nodup_cons.2 ⟨fun hm => ?_, h2⟩
        have := (Array.getElem?_eq_some_iff.1 (h3' _ hm).2.2).1
        omega
      · intro r hr
        rcases List.mem_cons.1 hr with rfl | hr
        · refine ⟨hfo.low, ?_, ?_⟩
          · exact (hx.told _ (by omega)).elim (fun e => e.trans (by show (if _ then _ else _) = _; rw [if_pos rfl])) id
          · rw [hx.frm.keep _ (by omega) (by show (if _ then _ else _) = _; rw [if_pos rfl])]
            show (w.heap.push _)[w.heap.size]? = _
            simp
        · exact h3 r hr
variable {E' : Env} {A' : AState} {x : AExit}
theorem rangeFunc_gives (H : FnsOk P F) {f : Operand} {params : Array Tmp} {as body : Code} (h : stepC P F (.rangeFunc f params as body) E A = some (x, E', A')) : CodeOk P (.rangeFunc f params as body) E A x E' A' := by
  simp only [stepC] at h
  split at h
  · cases h
  rename_i hok
  simp only [Bool.not_eq_true', Bool.not_eq_false] at hok
  simp only [Option.bind_eq_some_iff] at h
  obtain ⟨⟨v, A2⟩, h1, h2⟩ := h
  simp only at h2
  split at h2
  case h_2 => cases h2
  rename_i L hL
  split at h2
  · cases h2
  rename_i hbusy
  have hA' : A' = A2.put A.size (.loop { L with state := .exhausted }) ∧ E' = E ∧ ((L.pending = none ∧ x = .normal) ∨ (L.pending = some .ret ∧ x = .ret) ∨ ∃ id, L.pending = some (.exit id) ∧ x = .exit id) := by
    split at h2
    · rename_i hp; cases h2; exact ⟨rfl, rfl, .inl ⟨hp, rfl⟩⟩
    · rename_i hp; cases h2; exact ⟨rfl, rfl, .inr (.inl ⟨hp, rfl⟩)⟩
    · rename_i id hp; cases h2; exact ⟨rfl, rfl, .inr (.inr ⟨id, hp, rfl⟩)⟩
    · cases h2
  obtain ⟨rfl, rfl, hx⟩ := hA'
  have hsz := callV_size H h1
  refine ⟨by rw [size_put]; rw [size_push] at hsz; omega, fun {ρ τ w a lo b} S hE hfree hfo k cs => ?_⟩
  have hsize : A.size < A2.size := by rw [size_push] at hsz; omega
  have hfr : Free ρ A A2 := hfree
  obtain ⟨l, mark, w1, ρ1, τ1, i, e1, x1, e2, e3, f1⟩ := enterLoop_gives S hE (hfr _ (Nat.le_refl _) hsize) hfo params as body
  have hE1 := hE.mono x1.le
  obtain ⟨s, hs, hcase⟩ := callV_enters H h1 x1.sim (ERel.opd (a := a) x1.sim hE1 hok) (args' := #[.func (.yield l) #[] #[]]) (.cons (e3 ▸ .yield e2 .nil .nil) .nil) (hfr.tail x1)
  -- the call
  have key : ∃ v' w2 ρ2 τ2, VRel ρ2 v v' ∧ Ext P ρ1 τ1 (A.push (.loop ⟨.ready, none, E', params.toList, as, body⟩)) w1 ρ2 τ2 A2 w2 ∧
      Steps P (lone (b.atR a (.code (.rangeFunc f params as body) :: k)) cs w) (lone (b.atR { a with defers := mark ++ a.defers } (.endRangeFunc l :: k)) cs w2) := by
    have hev := Frame.eval_atR b { a with defers := mark ++ a.defers } (.inRangeFunc l :: k)
    have hev2 : ({ a with defers := mark ++ a.defers } : Act).eval = a.eval := funext fun y => by cases y <;> rfl
    rw [hev2] at hev
    have hres : (do let d ← resolve (b.atR { a with defers := mark ++ a.defers } (.inRangeFunc l :: k)).eval { callee := .value f, args := #[.const (.func (.yield l) #[] #[])], argTypes := #[] } 0; invoke d.target d.args : Sem Next).run P w1 = .ok s w1 := by
      rw [hev]
      have he : (#[Operand.const (.func (.yield l) #[] #[])] : Array Operand).map a.eval = #[.func (.yield l) #[] #[]] := by simp [Act.eval]
      simp only [resolve, he]
      exact hs
    have hfin : ∀ v', (b.atR { a with defers := mark ++ a.defers } (.inRangeFunc l :: k)).finish v' = b.atR { a with defers := mark ++ a.defers } (.endRangeFunc l :: k) := fun v' => rfl
    have hg : (stepG P true { frame := b.atR a (.code (.rangeFunc f params as body) :: k), callers := cs, status := .running, dying := none } w).bare =
        (stepG.apply P true (b.atR { a with defers := mark ++ a.defers } (.inRangeFunc l :: k)) cs none (do let d ← resolve (b.atR { a with defers := mark ++ a.defers } (.inRangeFunc l :: k)).eval { callee := .value f, args := #[.const (.func (.yield l) #[] #[])], argTypes := #[] } 0; invoke d.target d.args) w1).bare := by
      simp only [stepG, stepG.exec, Frame.atR, Sem.runT_eq, e1, GStep.bare_after]
    rcases hcase with ⟨g, xs, rfl, hc⟩ | ⟨l', fn, tmps, as', body', rfl, hc⟩
    · obtain ⟨e, w2, fr, ⟨v', ρ2, τ2, rfl, q1, q2⟩, hsteps, _, hleave⟩ := hc (b.atR { a with defers := mark ++ a.defers } (.inRangeFunc l :: k) :: cs)
      refine ⟨v', w2, ρ2, τ2, q1, q2, ?_⟩
      rw [← hfin v']
      refine .head (step_lone_go ?_) (Steps.trans hsteps (.one (step_leave_returned hleave)))
      rw [hg]
      have hk : (match (b.atR { a with defers := mark ++ a.defers } (.inRangeFunc l :: k)).todo with | .call _ true _ _ :: _ => CallKind.wrapped | _ => CallKind.normal) = .normal := rfl
      simp only [stepG.apply, Sem.runT_eq, hres, GStep.bare_after, if_true, hk]
      rfl
    · obtain ⟨v', w2, ρ2, τ2, q1, q2, hsteps⟩ := hc (b.atR { a with defers := mark ++ a.defers } (.inRangeFunc l :: k)) cs
      refine ⟨v', w2, ρ2, τ2, q1, q2, ?_⟩
      rw [← hfin v']
      refine .head (step_lone_go ?_) hsteps
      rw [hg]
      simp only [stepG.apply, Sem.runT_eq, hres, GStep.bare_after, if_true]
      rfl
  obtain ⟨v', w2, ρ2, τ2, q1, q2, hsteps⟩ := key
  -- the end
  obtain ⟨i', p1, p2, p3, p4⟩ := q2.sim.obj _ _ hL
  obtain rfl : i = i' := Option.some.inj ((q2.le _ _ e2).symm.trans p1)
  cases p4 with
  | loop R2 o1 o2 o3 o4 o5 o6 o7 =>
  let w3 : World := { w2 with heap := w2.heap.setIfInBounds i.blk (.loop { R2 with state := .exhausted }) }
  have hrow3 : w3.heap[i.blk]? = some (.loop { R2 with state := .exhausted }) := by
    show (w2.heap.setIfInBounds _ _)[i.blk]? = _
    rw [Array.getElem?_setIfInBounds, if_pos rfl, if_pos p2]
  have hx3 : Ext P ρ2 τ2 A2 w2 ρ2 τ2 (A2.put A.size (.loop { L with state := .exhausted })) w3 :=
    q2.sim.putObj (ob := .loop { R2 with state := .exhausted }) hL p1 rfl rfl rfl rfl (fun _ _ _ _ _ _ _ h => by cases h) (fun _ _ _ _ _ _ _ h => by cases h) (fun _ _ _ h => by cases h) (fun _ _ _ h => by cases h) (fun R _ => ⟨_, rfl⟩)
      (.loop { R2 with state := .exhausted } hrow3 rfl o3 o4 o5 o6 o7)
  have hend : (Instr.endLoop l).run P w2 = .ok R2.pending w3 := by
    rw [← e3]
    have hb : (R2.state == .busy) = false := by rw [o2]; simpa using hbusy
    simp only [Instr.endLoop, Sem.run_bind, getLoop_run o1, Result.andThen_ok, hb, Bool.false_eq_true, if_false, setObj_loop o1, Sem.run_pure]
    rfl
  have hstep : Steps P (lone (b.atR { a with defers := mark ++ a.defers } (.endRangeFunc l :: k)) cs w2) (lone (b.atR { a with defers := mark ++ a.defers } ((R2.pending.map Item.code).toList ++ k)) cs w3) := by
    refine .one (step_lone_go ?_)
    simp [stepG, stepG.exec, Frame.atR, Sem.runT_eq, hend]
  have hall := x1.trans (q2.trans hx3)
  refine ⟨ρ2, τ2, { a with defers := mark ++ a.defers }, w3, hall, hE.mono hall.le, f1.ext (q2.trans hx3) rfl, .of_steps (hsteps.trans hstep) ?_⟩
  rw [o3]
  rcases hx with ⟨hp, rfl⟩ | ⟨hp, rfl⟩ | ⟨id, hp, rfl⟩
  · rw [hp]; exact .normal (.refl _ _)
  · rw [hp]; exact .ret k (.refl _ _)
  · rw [hp]; exact .exit k rfl (.refl _ _)
end
end Go.Ag
namespace Go.Ag
theorem cellAt_none (cs : Tr Value) (j : Nat) : cellAt cs [] j = cs.get j := by
  unfold cellAt
  cases cs.get j <;> simp
theorem writeL_get (vs : List Value) (j : Nat) : (writeL .nil 0 vs).get j = vs[j]? := by
  rw [← cellAt_none, cellAt_writeL]
  by_cases h : j < vs.length
  · rw [if_pos (by omega)]; simp
  · rw [if_neg (by omega), cellAt_none, Tr.get_nil, List.getElem?_eq_none (by omega)]
theorem enter_rel {ρ : Ren} {args : List Value} {args' : Array Value} (h : VRels ρ args args'.toList) (n : Nat) :
    ERel ρ ⟨FT.empty.setL 0 args, args.length + (n - args.length)⟩ (args' ++ Array.replicate (n - args'.size) undef) := by
  have hl : args.length = args'.size := by rw [h.length]; simp
  refine ⟨by simp [hl], fun t => ?_⟩
  have hg : (⟨FT.empty.setL 0 args, args.length + (n - args.length)⟩ : Env).get t = (args[t]?).getD undef := by
    show (FT.empty.setL 0 args).get t = _
    rw [FT.get_setL, FT.get_empty, Nat.sub_zero, Nat.zero_add]
    split
    · rfl
    · rw [List.getElem?_eq_none (by omega)]; rfl
  rw [hg, Array.getD_eq_getD_getElem?]
  cases hx : args[t]? with
  | some v =>
    obtain ⟨y, hy, hr⟩ := h.get hx
    rw [Array.getElem?_toList] at hy
    have ht : t < args'.size := (Array.getElem?_eq_some_iff.1 hy).1
    rw [Array.getElem?_append_left ht, hy]
    exact hr
  | none =>
    have ht : args'.size ≤ t := by rw [← hl]; exact List.getElem?_eq_none_iff.1 hx
    rw [Array.getElem?_append_right ht, Array.getElem?_replicate]
    simp only [Option.getD_none]
    split <;> exact .undef
theorem take_marks {P : Program} {cs : List Frame} : ∀ (rs : List Nat) (fr : Frame) (w : World), fr.mode = .returning → fr.defers = rs.map (fun r => { target := .collected r, args := #[] }) → rs.Nodup →
    (∀ r ∈ rs, w.heap[r]? = some (.deferred (some []))) →
    ∃ w', Steps P (lone fr cs w) (lone { fr with defers := [] } cs w') ∧ w'.heap.size = w.heap.size ∧ (∀ q, q ∉ rs → w'.heap[q]? = w.heap[q]?) ∧ w'.os = w.os ∧ w'.output = w.output ∧ w'.tape = w.tape := by
  intro rs
  induction rs with
  | nil =>
    intro fr w hm hd _ _
    refine ⟨w, ?_, rfl, fun _ _ => rfl, rfl, rfl, rfl⟩
    have : ({ fr with defers := [] } : Frame) = fr := by cases fr; simp at hd ⊢; exact hd
    rw [this]; exact .refl _ _
  | cons r rs ih =>
    intro fr w hm hd hnd hrow
    obtain ⟨hnr, hnd'⟩ := List.nodup_cons.1 hnd
    have h0 := hrow r (by simp)
    let w1 : World := { w with heap := w.heap.setIfInBounds r (.deferred none) }
    have htake : (Instr.takeDeferred r).run P w = .ok [] w1 := by
      have hg : (getObj r).run P w = .ok (.deferred (some [])) w := by simp [getObj, Sem.run, h0]
      have hs : (setObj r (.deferred none)).run P w = .ok () w1 := by simp [setObj, Sem.run, h0, w1]
      simp [Instr.takeDeferred, Sem.run_bind, hg, hs]
    let fr1 : Frame := { fr with defers := rs.map (fun r => { target := .collected r, args := #[] }) }
    have hstep : step P (lone fr cs w) = .next (lone fr1 cs w1) := by
      refine step_lone_go ?_
      have hd' : fr.defers = { target := .collected r, args := #[] } :: rs.map (fun r => { target := .collected r, args := #[] }) := hd
      simp [stepG, hm, unwind, hd', Sem.runT_eq, htake, fr1]
    have hrow1 : ∀ q, q ≠ r → w1.heap[q]? = w.heap[q]? := fun q hq => by
      show (w.heap.setIfInBounds _ _)[q]? = _
      rw [Array.getElem?_setIfInBounds, if_neg (Ne.symm hq)]
    obtain ⟨w', s1, s2, s3, s4, s5, s6⟩ := ih fr1 w1 hm rfl hnd' (fun q hq => by rw [hrow1 q (by rintro rfl; exact hnr hq)]; exact hrow q (by simp [hq]))
    refine ⟨w', .head hstep s1, by rw [s2]; simp [w1], fun q hq => ?_, s4, s5, s6⟩
    rw [s3 q (fun h => hq (by simp [h])), hrow1 q (fun h => hq (by simp [h]))]
section
variable {P : Program} {F : Fns} {ρ : Ren} {τ : Nat → Option Nat} {E E' : Env} {A A' : AState} {w : World} {a : Act} {lo : Nat} {b : Frame} {x : AExit}
def resF (tmps : Array Value) : ResultVar → Sem Value
  | .tmp t => pure (tmps.getD t undef)
  | .cell a t => do loadVar t (← asAddr (tmps.getD a undef))
theorem results_eq (fn : Func) (tmps : Array Value) : results fn tmps = (do
    let vs ← fn.results.mapM (resF tmps)
    pure (if h : vs.size = 1 then vs[0] else .tuple vs)) := rfl
theorem resultOf_run (S : Sim P ρ τ A w) (hE : ERel ρ E a.tmps) {r : ResultVar} {v : Value} (h : resultOf P E A r = some v) :
    ∃ v', (resF a.tmps r).run P w = .ok v' w ∧ VRel ρ v v' := by
  cases r with
  | tmp t => cases h; exact ⟨_, rfl, hE.get t⟩
  | cell c t =>
    have hx := hE.get c
    obtain ⟨v', h1, h2⟩ := aload_run S h hx
    refine ⟨v', ?_, h2⟩
    have h' : aload P A t (E.get c) = some v := h
    unfold aload at h'
    split at h'
    · rename_i b off hv
      rw [hv] at hx
      show (do loadVar t (← asAddr (a.tmps.getD c undef)) : Sem Value).run P w = _
      revert h1 hx
      generalize a.tmps.getD c undef = y
      intro h1 hx
      cases hx with
      | ptr hb => exact h1
    · cases h'
theorem resultsOf_run (S : Sim P ρ τ A w) (hE : ERel ρ E a.tmps) : ∀ {rs : List ResultVar} {vs : List Value}, resultsOf P E A rs = some vs →
    ∃ vs', (rs.mapM (resF a.tmps) : Sem (List Value)).run P w = .ok vs' w ∧ VRels ρ vs vs' := by
  intro rs
  induction rs with
  | nil => intro vs h; cases h; exact ⟨[], by simp, .nil⟩
  | cons r rs ih =>
    intro vs h
    unfold resultsOf at h
    simp only [Option.bind_eq_some_iff] at h
    obtain ⟨v, h1, vs2, h2, h3⟩ := h
    cases h3
    obtain ⟨v', r1, r2⟩ := resultOf_run S hE h1
    obtain ⟨vs', q1, q2⟩ := ih h2
    refine ⟨v' :: vs', ?_, .cons r2 q2⟩
    rw [List.mapM_cons]
    simp only [Sem.run_bind, r1, q1, Result.andThen_ok, Sem.run_pure]
theorem oneOrTuple_rel {vs vs' : List Value} (h : VRels ρ vs vs') : VRel ρ (oneOrTuple vs) (oneOrTuple vs') := by
  cases h with
  | nil => exact .tuple .nil
  | cons h hs =>
    cases hs with
    | nil => exact h
    | cons h2 hs => exact .tuple (.cons h (.cons h2 hs))
theorem results_run (S : Sim P ρ τ A w) (hE : ERel ρ E a.tmps) {fn : Func} {vs : List Value} (h : resultsOf P E A fn.results.toList = some vs) :
    ∃ v', (results fn a.tmps).run P w = .ok v' w ∧ VRel ρ (oneOrTuple vs) v' := by
  obtain ⟨vs', h1, h2⟩ := resultsOf_run S hE h
  refine ⟨oneOrTuple vs', ?_, oneOrTuple_rel h2⟩
  rw [results_eq, Array.mapM_eq_mapM_toList]
  simp only [Sem.run_bind, Sem.run_map, h1, Result.andThen_ok, Sem.run_pure]
  congr 1
  cases vs' with
  | nil => rfl
  | cons v vs2 => cases vs2 <;> rfl
end
end Go.Ag
namespace Go.Ag
def DrawOk (P : Program) (F : Fns) : Prop := ∀ (id : Nat) (ops : Array Oper) (E : Env) (A : AState) (E' : Env) (A' : AState),
  runDraw P F ops.toList E A = some (E', A') → CodeOk P (.region id ops true) E A .normal E' A'
section
variable {P : Program} {F : Fns}
theorem stepC_gives (H : FnsOk P F) (hd : DrawOk P F) : ∀ (c : Code) {E E' : Env} {A A' : AState} {x : AExit}, stepC P F c E A = some (x, E', A') → CodeOk P c E A x E' A' := by
  intro c
  induction c with
  | skip => intro E E' A A' x h; cases h; exact same_gives fun b a k cs w => .normal (.one stepR_skip)
  | label l => intro E E' A A' x h; cases h; exact same_gives fun b a k cs w => .normal (.one stepR_label)
  | region id ops draw =>
    intro E E' A A' x h
    simp only [stepC, Option.map_eq_some_iff] at h
    obtain ⟨⟨E1, A1⟩, h1, h2⟩ := h
    cases h2
    cases draw with
    | true => exact hd id ops _ _ _ _ h1
    | false => exact region_gives H h1
  | seq c d ihc ihd =>
    intro E E' A A' x h
    simp only [stepC, Option.bind_eq_some_iff] at h
    obtain ⟨⟨y, E1, A1⟩, h1, h2⟩ := h
    cases y with
    | normal => exact seq_gives (ihc h1) (ihd h2)
    | exit id => cases h2; exact seq_leaves (ihc h1) (fun h => by cases h)
    | ret => cases h2; exact seq_leaves (ihc h1) (fun h => by cases h)
  | cond o c d ihc ihd =>
    intro E E' A A' x h
    simp only [stepC] at h
    split at h
    · rename_i t ht
      refine cond_gives ht ?_
      cases t
      · exact ihd (by simpa using h)
      · exact ihc (by simpa using h)
    · cases h
  | block id c ih =>
    intro E E' A A' x h
    simp only [stepC, Option.map_eq_some_iff] at h
    obtain ⟨⟨y, E1, A1⟩, h1, h2⟩ := h
    cases y with
    | normal => cases h2; exact block_gives (ih h1) rfl
    | ret => cases h2; exact block_gives (ih h1) rfl
    | exit id' =>
      simp only at h2
      by_cases e : id' = id
      · rw [if_pos e] at h2; cases h2; exact block_gives (ih h1) (by simp [e])
      · rw [if_neg e] at h2; cases h2; exact block_gives (ih h1) (by simp [e])
  | loop c ih => intro E E' A A' x h; exact loop_gives H h
  | exit id => intro E E' A A' x h; cases h; exact same_gives fun b a k cs w => .exit k rfl (.refl _ _)
  | ret => intro E E' A A' x h; cases h; exact same_gives fun b a k cs w => .ret k (.refl _ _)
  | scope c ih => intro E E' A A' x h; exact scope_gives (ih h)
  | rangeFunc f params as body _ _ => intro E E' A A' x h; exact rangeFunc_gives H h
  | _ => intro E E' A A' x h; cases h
theorem Ext.aside {ρ ρ' : Ren} {τ τ' : Nat → Option Nat} {A A' : AState} {w w' w'' : World} (x : Ext P ρ τ A w ρ' τ' A' w') (rs : List Nat) (hrs : ∀ r ∈ rs, w.heap.size ≤ r ∧ τ' r = none ∧ w'.heap[r]? = some (.deferred (some [])))
    (hs : w''.heap.size = w'.heap.size) (hk : ∀ q, q ∉ rs → w''.heap[q]? = w'.heap[q]?) (hos : w''.os = w'.os) (hout : w''.output = w'.output) (htape : w''.tape = w'.tape) : Ext P ρ τ A w ρ' τ' A' w'' where
  le := x.le
  same := x.same
  size := x.size
  frm := ⟨by rw [hs]; exact x.frm.size, fun r hr ht => by
    rw [hk r (fun hm => by have := (hrs r hm).1; omega)]; exact x.frm.keep r hr ht, hos.trans x.frm.os, hout.trans x.frm.out, htape.trans x.frm.tape⟩
  told := x.told
  loops r R hR := by
    have hlt := (Array.getElem?_eq_some_iff.1 hR).1
    obtain ⟨R', h'⟩ := x.loops r R hR
    exact ⟨R', by rw [hk r (fun hm => by have := (hrs r hm).1; omega)]; exact h'⟩
  ro r hr ht := by rw [hk r (fun hm => by have := (hrs r hm).1; omega)]; exact x.ro r hr ht
  sim := x.sim.aside (Nat.le_of_eq hs.symm) (fun r f hf _ => hk r (fun hm => by rw [(hrs r hm).2.1] at hf; cases hf)) (fun _ _ => rfl) (fun _ _ h => h)
theorem callBody_ok (H : FnsOk P F) (hd : DrawOk P F) {f : FuncId} {args : List Value} {A A' : AState} {v : Value} (h : callBody P F f args A = some (v, A')) :
    A.size ≤ A'.size ∧ (∃ fn, P.funcs[f]? = some fn ∧ (fn.name == "runtime.NumGoroutine") = false ∧ fn.body.isSome = true) ∧
    ∀ {ρ : Ren} {τ : Nat → Option Nat} {w : World} {args' : Array Value}, Sim P ρ τ A w → VRels ρ args args'.toList → Free ρ A A' →
      Calls P f args' w fun e w' => ∃ v' ρ' τ', e = .returned v' ∧ VRel ρ' v v' ∧ Ext P ρ τ A w ρ' τ' A' w' := by
  unfold callBody at h
  simp only [Option.bind_eq_some_iff] at h
  obtain ⟨fn, hf, h⟩ := h
  split at h
  · cases h
  rename_i hn
  simp only [Option.bind_eq_some_iff] at h
  obtain ⟨c, hc, ⟨y, E', A2⟩, h1, h2⟩ := h
  have hy : A' = A2 ∧ (y = .normal ∨ y = .ret) ∧ ∃ vs, resultsOf P E' A' fn.results.toList = some vs ∧ v = oneOrTuple vs := by
    cases y with
    | normal => 
      simp only [Option.map_eq_some_iff, Prod.mk.injEq] at h2
      obtain ⟨vs, q1, rfl, rfl⟩ := h2
      exact ⟨rfl, .inl rfl, vs, q1, rfl⟩
    | ret =>
      simp only [Option.map_eq_some_iff, Prod.mk.injEq] at h2
      obtain ⟨vs, q1, rfl, rfl⟩ := h2
      exact ⟨rfl, .inr rfl, vs, q1, rfl⟩
    | exit id => cases h2
  obtain ⟨rfl, hy, vs, hvs, rfl⟩ := hy
  have hg := stepC_gives H hd c h1
  refine ⟨hg.1, ⟨fn, hf, by simpa using hn, by rw [hc]; rfl⟩, fun {ρ τ w args'} S ha hfree cs => ?_⟩
  let b : Frame := { (default : Frame) with fn := f, kind := .normal, roundOf := none }
  let a0 : Act := { tmps := args' ++ Array.replicate (fn.ntmps - args'.size) undef, defers := [] }
  have henter : Frame.enter P f args' .normal = b.atR a0 [.code c] := by
    simp [Frame.enter, Frame.atR, hf, hc, b, a0]
  have hfo : FrameOk b a0 τ w w.heap.size := ⟨rfl, Nat.le_refl _, fun l hl => (by cases hl), [], rfl, List.nodup_nil, fun r hr => (by cases hr)⟩
  obtain ⟨ρ', τ', a', w', x', hE', hfo', l'⟩ := hg.2 S (enter_rel ha fn.ntmps) hfree hfo [] cs
  -- the end
  have hret : ∃ todo, Steps P (lone (Frame.enter P f args' .normal) cs w) (lone { b.atR a' todo with mode := .returning } cs w') := by
    rw [henter]
    rcases hy with rfl | rfl
    · cases l' with | normal s => exact ⟨[], s.trans (.one (stepR_end rfl))⟩
    · cases l' with | ret k1 s => exact ⟨_, s.trans (.one (stepR_ret rfl))⟩
  obtain ⟨todo, hret⟩ := hret
  obtain ⟨rs, m1, m2, m3⟩ := hfo'.marks
  obtain ⟨w2, s1, s2, s3, s4, s5, s6⟩ := take_marks (P := P) (cs := cs) rs { b.atR a' todo with mode := .returning } w' rfl m1 m2 (fun r hr => (m3 r hr).2.2)
  have x2 := x'.aside rs m3 s2 s3 s4 s5 s6
  obtain ⟨v', r1, r2⟩ := results_run x2.sim hE' hvs
  exact ⟨.returned v', w2, _, ⟨v', ρ', τ', rfl, r2, x2⟩, hret.trans s1, rfl, rfl, rfl, rfl, fn, hf, r1⟩
theorem setAll_rel {ρ : Ren} : ∀ {ps : List Tmp} {args args' : List Value} {E E' : Env} {tmps : Array Value}, setAll E ps args = some E' → VRels ρ args args' → ERel ρ E tmps →
    args'.length = ps.length ∧ ERel ρ E' ((ps.zip args').foldl (fun tmps (p : Tmp × Value) => tmps.setIfInBounds p.1 p.2) tmps) := by
  intro ps
  induction ps with
  | nil =>
    intro args args' E E' tmps h ha hE
    cases ha with
    | nil => cases h; exact ⟨rfl, hE⟩
    | cons h1 hs => cases h
  | cons p ps ih =>
    intro args args' E E' tmps h ha hE
    cases ha with
    | nil => cases h
    | cons h1 hs =>
      unfold setAll at h
      simp only [Option.bind_eq_some_iff] at h
      obtain ⟨E1, h2, h3⟩ := h
      have := ERel.put (a := ⟨tmps, []⟩) hE h1 h2
      obtain ⟨q1, q2⟩ := ih h3 hs this
      exact ⟨by simp [q1], q2⟩
theorem roundBody_ok (H : FnsOk P F) (hd : DrawOk P F) {l : Nat} {args : List Value} {A A' : AState} {v : Value} (h : roundBody P F l args A = some (v, A')) :
    A.size ≤ A'.size ∧ ∀ {ρ : Ren} {τ : Nat → Option Nat} {w : World} {args' : Array Value} {i : BInfo}, Sim P ρ τ A w → VRels ρ args args'.toList → Free ρ A A' → ρ l = some i →
      ∃ R : Loop, w.heap[i.blk]? = some (.loop R) ∧ args'.size = R.params.size ∧
        ∀ c cs, ∃ v' w' ρ' τ', VRel ρ' v v' ∧ Ext P ρ τ A w ρ' τ' A' w' ∧ Steps P (lone (Frame.round i.blk R.fn (roundTmps R args') R.assign R.body .normal) (c :: cs) w) (lone (c.finish v') cs w') := by
  unfold roundBody at h
  split at h
  case h_2 => cases h
  rename_i L hL
  simp only [Option.bind_eq_some_iff] at h
  obtain ⟨E0, h1, ⟨y, E1, A1⟩, h2, h3⟩ := h
  cases y with
  | exit id => cases h3
  | ret => cases h3
  | normal =>
  simp only at h3
  split at h3
  case h_2 => cases h3
  rename_i L1 hL1
  split at h3
  case isFalse => cases h3
  rename_i hready
  simp only [Option.bind_eq_some_iff] at h3
  obtain ⟨⟨y, E2, A2⟩, h4, h5⟩ := h3
  have hA := stepC_gives H hd _ h2
  have hB := stepC_gives H hd _ h4
  rw [CodeOk, size_put] at hB
  have hend : ∃ jump, endRoundA A2 l jump = some (v, A') ∧ ((y = .normal ∧ jump = none) ∨ (y = .ret ∧ jump = some .ret) ∨ ∃ id, y = .exit id ∧ jump = some (.exit id)) := by
    cases y with
    | normal => exact ⟨none, h5, .inl ⟨rfl, rfl⟩⟩
    | ret => exact ⟨some .ret, h5, .inr (.inl ⟨rfl, rfl⟩)⟩
    | exit id => exact ⟨some (.exit id), h5, .inr (.inr ⟨id, rfl, rfl⟩)⟩
  obtain ⟨jump, hend, hy⟩ := hend
  unfold endRoundA at hend
  split at hend
  case h_2 => cases hend
  rename_i L2 hL2
  simp only [Option.some.injEq, Prod.mk.injEq] at hend
  obtain ⟨rfl, rfl⟩ := hend
  refine ⟨by rw [size_put]; exact Nat.le_trans hA.1 hB.1, fun {ρ τ w args' i} S ha hfree hi => ?_⟩
  have hfree2 : Free ρ A A2 := hfree
  obtain ⟨i', p1, p2, p3, p4⟩ := S.obj _ _ hL
  obtain rfl : i = i' := Option.some.inj (hi.symm.trans p1)
  cases p4 with
  | loop R o1 o2 o3 o4 o5 o6 o7 =>
  rw [← o5] at h1
  obtain ⟨z1, z2⟩ := setAll_rel h1 ha o4
  have hsz : args'.size = R.params.size := by simpa using z1
  have hE0 : ERel ρ E0 (roundTmps R args') := by
    have : roundTmps R args' = (R.params.toList.zip args'.toList).foldl (fun tmps (p : Tmp × Value) => tmps.setIfInBounds p.1 p.2) R.tmps := by
      unfold roundTmps
      rw [← Array.foldl_toList, Array.toList_zip]
    rw [this]; exact z2
  refine ⟨R, o1, hsz, fun c cs => ?_⟩
  let b : Frame := { (default : Frame) with fn := R.fn, kind := .normal, roundOf := some i.blk }
  let a0 : Act := { tmps := roundTmps R args', defers := [] }
  have henter : Frame.round i.blk R.fn (roundTmps R args') R.assign R.body .normal = b.atR a0 [.code R.assign, .beginRound, .code R.body] := by
    simp [Frame.round, Frame.atR, b, a0]
  have hfo : FrameOk b a0 τ w w.heap.size := ⟨rfl, Nat.le_refl _, fun l hl => (by cases hl; exact ⟨R, o1⟩), [], rfl, List.nodup_nil, fun r hr => (by cases hr)⟩
  obtain ⟨ρ1, τ1, a1, w1, x1, hE1, hfo1, l1⟩ := hA.2 S hE0 (hfree2.head hB.1) hfo [.beginRound, .code R.body] (c :: cs)
  cases l1 with
  | normal s1 =>
  -- the round begins
  obtain ⟨i1, u1, u2, u3, u4⟩ := x1.sim.obj _ _ hL1
  obtain rfl : i = i1 := Option.some.inj ((x1.le _ _ hi).symm.trans u1)
  cases u4 with
  | loop R1 o1' o2' o3' o4' o5' o6' o7' =>
  let wb : World := { w1 with heap := w1.heap.setIfInBounds i.blk (.loop { R1 with state := .busy }) }
  have hrowb : wb.heap[i.blk]? = some (.loop { R1 with state := .busy }) := by
    show (w1.heap.setIfInBounds _ _)[i.blk]? = _
    rw [Array.getElem?_setIfInBounds, if_pos rfl, if_pos u2]
  have hbegin : (Instr.beginRound i.blk).run P w1 = .ok () wb := by
    have hst : R1.state = .ready := by rw [o2', hready]
    simp only [Instr.beginRound, Sem.run_bind, getLoop_run o1', Result.andThen_ok, setObj_loop o1', hst, Sem.run_pure]
    rfl
  have xb : Ext P ρ1 τ1 A1 w1 ρ1 τ1 (A1.put l (.loop { L1 with state := .busy })) wb :=
    x1.sim.putObj (ob := .loop { R1 with state := .busy }) hL1 u1 rfl rfl rfl rfl (fun _ _ _ _ _ _ _ h => by cases h) (fun _ _ _ _ _ _ _ h => by cases h) (fun _ _ _ h => by cases h) (fun _ _ _ h => by cases h) (fun R _ => ⟨_, rfl⟩)
      (.loop { R1 with state := .busy } hrowb rfl o3' o4' o5' o6' o7')
  have hfree3 : Free ρ1 (A1.put l (.loop { L1 with state := .busy })) A2 := fun b hb1 hb2 => (hfree2.tail x1) b (by rw [size_put] at hb1; exact hb1) hb2
  rw [← o7] at hB
  obtain ⟨ρ2, τ2, a2, w2, x2, hE2, hfo2, l2⟩ := hB.2 xb.sim hE1 hfree3 (hfo1.ext xb rfl) [] (c :: cs)
  -- the round ends
  obtain ⟨i2, v1, v2, v3, v4⟩ := x2.sim.obj _ _ hL2
  obtain rfl : i = i2 := Option.some.inj ((x2.le _ _ u1).symm.trans v1)
  cases v4 with
  | loop R2 q1 q2 q3 q4 q5 q6 q7 =>
  let w3 : World := { w2 with heap := w2.heap.setIfInBounds i.blk (.loop { R2 with state := if jump.isNone then .ready else .done, pending := jump }) }
  have hrow3 : w3.heap[i.blk]? = some (.loop { R2 with state := if jump.isNone then .ready else .done, pending := jump }) := by
    show (w2.heap.setIfInBounds _ _)[i.blk]? = _
    rw [Array.getElem?_setIfInBounds, if_pos rfl, if_pos v2]
  have x3 : Ext P ρ2 τ2 A2 w2 ρ2 τ2 (A2.put l (.loop { L2 with state := if jump.isNone then .ready else .done, pending := jump })) w3 :=
    x2.sim.putObj (ob := .loop { R2 with state := if jump.isNone then .ready else .done, pending := jump }) hL2 v1 rfl rfl rfl rfl (fun _ _ _ _ _ _ _ h => by cases h) (fun _ _ _ _ _ _ _ h => by cases h) (fun _ _ _ h => by cases h) (fun _ _ _ h => by cases h) (fun R _ => ⟨_, rfl⟩)
      (.loop { R2 with state := if jump.isNone then .ready else .done, pending := jump } hrow3 rfl rfl q4 q5 q6 q7)
  have hendR : (Instr.endRound i.blk jump).run P w2 = .ok (.bool jump.isNone) w3 := by
    simp only [Instr.endRound, Sem.run_bind, getLoop_run q1, Result.andThen_ok, setObj_loop q1, Sem.run_pure]
    rfl
  refine ⟨.bool jump.isNone, w3, ρ2, τ2, .bool _, x1.trans (xb.trans (x2.trans x3)), ?_⟩
  rw [henter]
  rw [← o6] at s1
  refine Steps.trans s1 (.head (stepR_beginRound (b := b) (l := i.blk) rfl hbegin) ?_)
  rcases hy with ⟨rfl, rfl⟩ | ⟨rfl, rfl⟩ | ⟨id, rfl, rfl⟩
  · cases l2 with | normal s2 => exact s2.trans (.one (stepR_round_end rfl rfl hendR))
  · cases l2 with | ret k1 s2 => exact s2.trans (.one (stepR_round_ret rfl rfl hendR))
  · cases l2 with | exit k1 hx s2 => exact s2.trans (.one (stepR_round_exit rfl rfl (by rw [hx]; rfl) hendR))
end
theorem run_ok {P : Program} (hd : ∀ F, FnsOk P F → DrawOk P F) : ∀ n, FnsOk P (run P n) := by
  intro n
  induction n with
  | zero => exact ⟨fun h => (by cases h), fun h => (by cases h), fun h => (by cases h), fun h => (by cases h), fun h => (by cases h), fun h => (by cases h), fun h => (by cases h)⟩
  | succ n ih =>
    have hd' := hd _ ih
    have hloop : ∀ {c : Code} {E E' : Env} {A A' : AState} {x : AExit}, (run P (n + 1)).loop c E A = some (x, E', A') → A.size ≤ A'.size ∧ Gives' P [.code c, .inLoop c] E A x E' A' := by
      intro c E E' A A' x h
      change (stepC P (run P n) c E A).bind _ = _ at h
      simp only [Option.bind_eq_some_iff] at h
      obtain ⟨⟨y, E1, A1⟩, h1, h2⟩ := h
      have hc := stepC_gives ih hd' c h1
      have other : (y = x ∧ E1 = E' ∧ A1 = A' ∧ ∀ h : x = .normal, False) → A.size ≤ A'.size ∧ Gives' P [.code c, .inLoop c] E A x E' A' := by
        rintro ⟨rfl, rfl, rfl, hx⟩
        refine ⟨hc.1, fun {ρ τ w a lo b} S hE hfree hfo k cs => ?_⟩
        obtain ⟨ρ1, τ1, a1, w1, e1, r1, f1, l1⟩ := hc.2 S hE hfree hfo (.inLoop c :: k) cs
        exact ⟨ρ1, τ1, a1, w1, e1, r1, f1, l1.pass (fun _ => rfl) hx⟩
      cases y with
      | exit id => cases h2; exact other ⟨rfl, rfl, rfl, fun h => by cases h⟩
      | ret => cases h2; exact other ⟨rfl, rfl, rfl, fun h => by cases h⟩
      | normal =>
        have h2' : (run P n).loop c E1 A1 = some (x, E', A') := h2
        have hs := ih.loopSize h2'
        refine ⟨Nat.le_trans hc.1 hs, fun {ρ τ w a lo b} S hE hfree hfo k cs => ?_⟩
        obtain ⟨ρ1, τ1, a1, w1, e1, r1, f1, l1⟩ := hc.2 S hE (hfree.head hs) hfo (.inLoop c :: k) cs
        obtain ⟨ρ2, τ2, a2, w2, e2, r2, f2, l2⟩ := ih.loop h2' e1.sim r1 (hfree.tail e1) f1 k cs
        refine ⟨ρ2, τ2, a2, w2, e1.trans e2, r2, f2, ?_⟩
        cases l1 with | normal s1 => exact .of_steps (s1.trans (.one stepR_inLoop)) l2
    exact ⟨fun h => (callBody_ok ih hd' h).1, fun h => (callBody_ok ih hd' h).2.1, fun h => (callBody_ok ih hd' h).2.2, fun h => (roundBody_ok ih hd' h).1, fun h => (roundBody_ok ih hd' h).2, fun h => (hloop h).1, fun h => (hloop h).2⟩
end Go.Ag
namespace Go.Ag
theorem veq1_eq {a b : Value} (h : veq1 a b = true) : a = b := by
  unfold veq1 at h
  split at h <;> simp_all
theorem veqL_eq : ∀ {xs ys : List Value}, veqL xs ys = true → xs = ys
  | [], [], _ => rfl
  | [], _ :: _, h => by simp [veqL] at h
  | _ :: _, [], h => by simp [veqL] at h
  | x :: xs, y :: ys, h => by
    simp only [veqL, Bool.and_eq_true] at h
    rw [veq1_eq h.1, veqL_eq h.2]
theorem veq_eq {a b : Value} (h : veq a b = true) : a = b := by
  unfold veq at h
  split at h
  · congr 1; exact Array.ext' (veqL_eq h)
  · congr 1; exact Array.ext' (veqL_eq h)
  · simp only [Bool.and_eq_true] at h
    rw [veq1_eq h.2]
    have := Nat.eq_of_beq_eq_true h.1
    rw [this]
  · exact veq1_eq h
theorem readVers_all {P : Program} {ρ : Operand → Value} {o : Oper} : ∀ {vers : List AState} {v : Value}, readVers P ρ o vers = some v → ∀ B ∈ vers, aRead P ρ o B = some v := by
  intro vers
  induction vers with
  | nil => intro v h B hB; cases hB
  | cons A As ih =>
    intro v h B hB
    cases As with
    | nil =>
      unfold readVers at h
      rcases List.mem_cons.1 hB with rfl | hB
      · exact h
      · cases hB
    | cons A2 As =>
      unfold readVers at h
      simp only [Option.bind_eq_some_iff] at h
      obtain ⟨v1, h1, v2, h2, h3⟩ := h
      split at h3
      · rename_i hv
        cases h3
        have := veq_eq hv
        subst this
        rcases List.mem_cons.1 hB with rfl | hB
        · exact h1
        · exact ih h2 B hB
      · cases h3
inductive StepK (P : Program) (F : Fns) (o : Oper) (a : Nat) (E : Env) (A : AState) (vers : List AState) (v : Value) (A' : AState) : Prop
  | pure (hk : kindOf P o = .pure) (h : aPure P E.eval o = some v) (hA : A' = A)
  | read (hk : kindOf P o = .read) (h : ∀ B ∈ vers.take (vers.length - a), aRead P E.eval o B = some v) (hA : A' = A)
  | make (hk : kindOf P o = .make) (h : aMake P E.eval o A = some (v, A'))
  | eff (hk : isEff P o = true) (h : runOp P F E o A = some (v, A'))
structure StepAt (P : Program) (F : Fns) (ops : List Oper) (o : Oper) (a : Nat) (E : Env) (A : AState) (vers : List AState) (v : Value) (E' : Env) (A' : AState) (vers' : List AState) : Prop where
  put : E.put o.dst v = some E'
  did : (wantedA ops E o = true ∧ StepK P F o a E A vers v A') ∨ (wantedA ops E o = false ∧ v = undef ∧ A' = A)
  vers : vers' = if isEff P o then A' :: vers else vers
theorem chain_trace {P : Program} {F : Fns} {ops : List Oper} : ∀ {ch : List (Nat × Nat)} {E E' : Env} {A A' : AState} {vers : List AState}, runChain P F ops ch E A vers = some (E', A') →
    ∃ (cE : Nat → Env) (cA : Nat → AState) (cv : Nat → Value) (cV : Nat → List AState), cE 0 = E ∧ cA 0 = A ∧ cV 0 = vers ∧ cE ch.length = E' ∧ cA ch.length = A' ∧
      ∀ p i a, ch[p]? = some (i, a) → ∃ o, ops[i]? = some o ∧ StepAt P F ops o a (cE p) (cA p) (cV p) (cv p) (cE (p + 1)) (cA (p + 1)) (cV (p + 1)) := by
  intro ch
  induction ch with
  | nil =>
    intro E E' A A' vers h
    cases h
    exact ⟨fun _ => E, fun _ => A, fun _ => undef, fun _ => vers, rfl, rfl, rfl, rfl, rfl, fun p i a h => by simp at h⟩
  | cons x ch ih =>
    intro E E' A A' vers h
    obtain ⟨i, a⟩ := x
    unfold runChain at h
    simp only [Option.bind_eq_some_iff] at h
    obtain ⟨o, ho, h⟩ := h
    have main : ∃ v E1 A1 vers1, StepAt P F ops o a E A vers v E1 A1 vers1 ∧ runChain P F ops ch E1 A1 vers1 = some (E', A') := by
      split at h
      · rename_i hw
        split at h
        · rename_i hk
          simp only [Option.bind_eq_some_iff] at h
          obtain ⟨v, h1, E1, h2, h3⟩ := h
          exact ⟨v, E1, A, vers, ⟨h2, .inl ⟨hw, .pure hk h1 rfl⟩, by simp [isEff, hk]⟩, h3⟩
        · rename_i hk
          simp only [Option.bind_eq_some_iff] at h
          obtain ⟨v, h1, E1, h2, h3⟩ := h
          exact ⟨v, E1, A, vers, ⟨h2, .inl ⟨hw, .read hk (readVers_all h1) rfl⟩, by simp [isEff, hk]⟩, h3⟩
        · rename_i hk
          simp only [Option.bind_eq_some_iff] at h
          obtain ⟨⟨v, A1⟩, h1, E1, h2, h3⟩ := h
          exact ⟨v, E1, A1, vers, ⟨h2, .inl ⟨hw, .make hk h1⟩, by simp [isEff, hk]⟩, h3⟩
        · rename_i hk
          simp only [Option.bind_eq_some_iff] at h
          obtain ⟨⟨v, A1⟩, h1, E1, h2, h3⟩ := h
          have he : isEff P o = true := by simp [isEff, hk]
          exact ⟨v, E1, A1, A1 :: vers, ⟨h2, .inl ⟨hw, .eff he (by unfold runOp; rw [hk]; exact h1)⟩, by rw [if_pos he]⟩, h3⟩
        · rename_i hk
          simp only [Option.bind_eq_some_iff] at h
          obtain ⟨⟨v, A1⟩, h1, E1, h2, h3⟩ := h
          have he : isEff P o = true := by simp [isEff, hk]
          exact ⟨v, E1, A1, A1 :: vers, ⟨h2, .inl ⟨hw, .eff he (by unfold runOp; rw [hk]; exact h1)⟩, by rw [if_pos he]⟩, h3⟩
        · cases h
      · rename_i hw
        simp only [Option.bind_eq_some_iff] at h
        obtain ⟨E1, h2, h3⟩ := h
        exact ⟨undef, E1, A, _, ⟨h2, .inr ⟨by simpa using hw, rfl, rfl⟩, rfl⟩, h3⟩
    obtain ⟨v, E1, A1, vers1, hs, hr⟩ := main
    obtain ⟨cE, cA, cv, cV, h1, h2, h3, h4, h5, h6⟩ := ih hr
    refine ⟨fun p => match p with | 0 => E | p + 1 => cE p, fun p => match p with | 0 => A | p + 1 => cA p, fun p => match p with | 0 => v | p + 1 => cv p, fun p => match p with | 0 => vers | p + 1 => cV p, rfl, rfl, rfl, h4, h5, fun p j b hp => ?_⟩
    cases p with
    | zero =>
      simp at hp
      obtain ⟨rfl, rfl⟩ := hp
      refine ⟨o, ho, ?_⟩
      show StepAt P F ops o _ E A vers v (cE 0) (cA 0) (cV 0)
      rw [h1, h2, h3]
      exact hs
    | succ p => exact h6 p j b (by simpa using hp)
end Go.Ag
namespace Go.Ag
def anc (T : List Nat) (i j : Nat) : Prop := ((T[i]?).getD 0).testBit j = true
theorem ancs_snoc (ops : List Oper) (o : Oper) : ancs (ops ++ [o]) = ancs ops ++ [(preds o).foldl (fun s e => s ||| 2 ^ e ||| ((ancs ops)[e]?).getD 0) 0] := by
  unfold ancs
  rw [List.foldl_append]
  rfl
theorem mask_bit (acc : List Nat) (j : Nat) : ∀ (es : List Nat) (s : Nat), (es.foldl (fun s e => s ||| 2 ^ e ||| (acc[e]?).getD 0) s).testBit j = true → s.testBit j = true ∨ ∃ e ∈ es, j = e ∨ ((acc[e]?).getD 0).testBit j = true := by
  intro es
  induction es with
  | nil => intro s h; exact .inl h
  | cons e es ih =>
    intro s h
    rcases ih _ h with h1 | ⟨e', he, h1⟩
    · rw [Nat.testBit_or, Nat.testBit_or, Nat.testBit_two_pow] at h1
      simp only [Bool.or_eq_true, decide_eq_true_eq] at h1
      rcases h1 with (h1 | h1) | h1
      · exact .inl h1
      · exact .inr ⟨e, by simp, .inl h1.symm⟩
      · exact .inr ⟨e, by simp, .inr h1⟩
    · exact .inr ⟨e', by simp [he], h1⟩
theorem ancs_length (ops : List Oper) : (ancs ops).length = ops.length := by
  induction h : ops.length generalizing ops with
  | zero => rw [List.length_eq_zero_iff.1 h]; rfl
  | succ n ih =>
    rcases List.eq_nil_or_concat ops with rfl | ⟨l, o, rfl⟩
    · simp at h
    · rw [List.concat_eq_append] at h ⊢
      rw [ancs_snoc]
      simp at h ⊢
      exact ih l h
theorem ancs_bit : ∀ (ops : List Oper) (i j : Nat), anc (ancs ops) i j → ∃ o, ops[i]? = some o ∧ ∃ e ∈ preds o, j = e ∨ (e < i ∧ anc (ancs ops) e j) := by
  intro ops
  induction h : ops.length generalizing ops with
  | zero => intro i j ha; rw [List.length_eq_zero_iff.1 h] at ha; simp [anc, ancs] at ha
  | succ n ih =>
    rcases List.eq_nil_or_concat ops with rfl | ⟨l, o, rfl⟩
    · simp at h
    · rw [List.concat_eq_append] at h ⊢
      have hl : l.length = n := by simpa using h
      have hlen := ancs_length l
      have low : ∀ e, e < l.length → (ancs (l ++ [o]))[e]? = (ancs l)[e]? := fun e he => by
        rw [ancs_snoc, List.getElem?_append_left (by omega)]
      intro i j ha
      rcases Nat.lt_trichotomy i l.length with hi | hi | hi
      · have ha' : anc (ancs l) i j := by unfold anc at ha ⊢; rw [low i hi] at ha; exact ha
        obtain ⟨o', ho, e, he, h1⟩ := ih l hl i j ha'
        refine ⟨o', by rw [List.getElem?_append_left hi]; exact ho, e, he, ?_⟩
        rcases h1 with h1 | ⟨h1, h2⟩
        · exact .inl h1
        · exact .inr ⟨h1, by unfold anc at h2 ⊢; rw [low e (by omega)]; exact h2⟩
      · subst hi
        unfold anc at ha
        rw [ancs_snoc, List.getElem?_append_right (by omega), hlen] at ha
        simp only [Nat.sub_self, List.getElem?_cons_zero, Option.getD_some] at ha
        refine ⟨o, by simp, ?_⟩
        rcases mask_bit _ _ _ _ ha with h1 | ⟨e, he, h1⟩
        · simp at h1
        · refine ⟨e, he, ?_⟩
          rcases h1 with h1 | h1
          · exact .inl h1
          · have hlt : e < l.length := by
              rcases Nat.lt_or_ge e l.length with h2 | h2
              · exact h2
              · rw [List.getElem?_eq_none (by omega)] at h1; simp at h1
            exact .inr ⟨hlt, by unfold anc; rw [low e hlt]; exact h1⟩
      · unfold anc at ha
        rw [List.getElem?_eq_none (by rw [ancs_length]; simp; omega)] at ha
        simp at ha
def ex (listed : Array Bool) (i : Nat) : Prop := listed[i]? = some true
def Closed (ops : Array Oper) (listed : Array Bool) : Prop := ∀ i o, ex listed i → ops[i]? = some o → ∀ e ∈ preds o, ex listed e
theorem anc_ex {ops : Array Oper} {listed : Array Bool} (hc : Closed ops listed) : ∀ (i : Nat) {o : Oper} {j : Nat}, ops[i]? = some o → (∀ e ∈ preds o, ex listed e) → anc (ancs ops.toList) i j → ex listed j := by
  intro i
  induction i using Nat.strongRecOn with
  | _ i ih =>
    intro o j ho hp ha
    obtain ⟨o', ho', e, he, h1⟩ := ancs_bit _ _ _ ha
    rw [Array.getElem?_toList, ho] at ho'
    cases ho'
    rcases h1 with rfl | ⟨h1, h2⟩
    · exact hp _ he
    · have hee := hp _ he
      obtain ⟨oe, hoe, _⟩ := ancs_bit _ _ _ h2
      rw [Array.getElem?_toList] at hoe
      exact ih e h1 hoe (hc e oe hee hoe) h2
theorem anc_ex' {ops : Array Oper} {listed : Array Bool} (hc : Closed ops listed) {i j : Nat} (hi : ex listed i) (ha : anc (ancs ops.toList) i j) : ex listed j := by
  obtain ⟨o, ho, _⟩ := ancs_bit _ _ _ ha
  rw [Array.getElem?_toList] at ho
  exact anc_ex hc i ho (hc i o hi ho) ha
structure Canon where
  ops : Array Oper
  ch : List (Nat × Nat)
  last : List Nat
  cE : Nat → Env
  cA : Nat → AState
  cv : Nat → Value
  cV : Nat → List AState
def Canon.T (C : Canon) : List Nat := ancs C.ops.toList
def Canon.At (C : Canon) (p i : Nat) (o : Oper) : Prop := (∃ a, C.ch[p]? = some (i, a)) ∧ C.ops[i]? = some o
def Canon.effAt (C : Canon) (P : Program) (p : Nat) : Bool := match C.ch[p]? with
  | some (i, _) => (match C.ops[i]? with | some o => isEff P o | none => false)
  | none => false
def Canon.ec (C : Canon) (P : Program) : Nat → Nat
  | 0 => 0
  | p + 1 => C.ec P p + (if C.effAt P p then 1 else 0)
structure Canon.Plan (C : Canon) (P : Program) : Prop where
  cover : ∀ i, i < C.ops.size → (∃ p o, C.At p i o) ∨ i ∈ C.last
  inj : ∀ p q i o o', C.At p i o → C.At q i o' → p = q
  disj : ∀ i ∈ C.last, ∀ p o, ¬ C.At p i o
  nodup : C.last.Nodup
  dst : ∀ p q i j o o' t, C.At p i o → C.At q j o' → o.dst = some t → o'.dst = some t → p = q
  ok : ∀ (i : Nat) (o : Oper), C.ops[i]? = some o → operOk P o = true
  looks : ∀ p i o, C.At p i o → ∀ t ∈ looks C.ops.toList o, ∀ q j o', C.At q j o' → o'.dst = some t → (q < p ∧ anc C.T i j) ∨ q = p ∨ (p < q ∧ anc C.T j i)
  eff : ∀ p i o, C.At p i o → isEff P o = true → ∀ q j o', C.At q j o' → q < p → anc C.T i j
  read : ∀ (p i a : Nat) (o : Oper), C.ch[p]? = some (i, a) → C.ops[i]? = some o → kindOf P o = .read → a = 0 ∨ ∃ e j o', C.At e j o' ∧ e < p ∧ isEff P o' = true ∧ anc C.T i j ∧ a ≤ C.ec P e + 1
  topo : ∀ p i o, C.At p i o → ∀ e ∈ preds o, ∃ q o', q < p ∧ C.At q e o'
  topoLast : ∀ i ∈ C.last, ∀ o, C.ops[i]? = some o → ∀ e ∈ preds o, ∃ q o', C.At q e o'
  last : ∀ i ∈ C.last, ∃ o, C.ops[i]? = some o ∧ isStore o = true ∧ o.dst = none ∧ (∀ p j o', C.At p j o' → kindOf P o' ≠ .pure → anc C.T i j) ∧
    ∀ t ∈ Ag.looks C.ops.toList o, ∀ q j o', C.At q j o' → o'.dst = some t → anc C.T i j
structure Canon.Runs (C : Canon) (P : Program) (F : Fns) : Prop where
  v0 : C.cV 0 = [C.cA 0]
  step : ∀ (p i a : Nat), C.ch[p]? = some (i, a) → ∃ o, C.ops[i]? = some o ∧ StepAt P F C.ops.toList o a (C.cE p) (C.cA p) (C.cV p) (C.cv p) (C.cE (p + 1)) (C.cA (p + 1)) (C.cV (p + 1))
section
variable {P : Program} {F : Fns} {C : Canon}
theorem Canon.Runs.at (R : C.Runs P F) {p : Nat} (hp : p < C.ch.length) : ∃ i a o, C.ch[p]? = some (i, a) ∧ C.ops[i]? = some o ∧ C.At p i o ∧
    StepAt P F C.ops.toList o a (C.cE p) (C.cA p) (C.cV p) (C.cv p) (C.cE (p + 1)) (C.cA (p + 1)) (C.cV (p + 1)) := by
  have h : C.ch[p]? = some C.ch[p] := List.getElem?_eq_getElem hp
  obtain ⟨o, ho, hs⟩ := R.step p _ _ h
  exact ⟨_, _, o, h, ho, ⟨⟨_, h⟩, ho⟩, hs⟩
theorem Canon.At.lt {p i : Nat} {o : Oper} (h : C.At p i o) : p < C.ch.length := by
  obtain ⟨⟨a, h⟩, _⟩ := h
  exact (List.getElem?_eq_some_iff.1 h).1
theorem Canon.At.same {p i j : Nat} {o o' : Oper} (h : C.At p i o) (h' : C.At p j o') : i = j ∧ o = o' := by
  obtain ⟨⟨a, h⟩, h2⟩ := h
  obtain ⟨⟨a', h'⟩, h2'⟩ := h'
  rw [h] at h'
  cases h'
  rw [h2] at h2'
  cases h2'
  exact ⟨rfl, rfl⟩
theorem Canon.Runs.env (R : C.Runs P F) (t : Tmp) : ∀ p, p ≤ C.ch.length →
    (∃ q i o, q < p ∧ C.At q i o ∧ o.dst = some t ∧ (C.cE p).get t = C.cv q) ∨ ((∀ q i o, q < p → C.At q i o → o.dst ≠ some t) ∧ (C.cE p).get t = (C.cE 0).get t) := by
  intro p
  induction p with
  | zero => intro _; exact .inr ⟨fun q i o h => by omega, rfl⟩
  | succ p ih =>
    intro hp
    obtain ⟨i, a, o, h1, h2, h3, hs⟩ := R.at (p := p) (by omega)
    have hput := hs.put
    by_cases hd : o.dst = some t
    · refine .inl ⟨p, i, o, by omega, h3, hd, ?_⟩
      rw [hd] at hput
      rw [Env.get_put hput, if_pos rfl]
    · have hget : (C.cE (p + 1)).get t = (C.cE p).get t := by
        cases ho : o.dst with
        | none => rw [ho] at hput; rw [← Option.some.inj hput]
        | some d =>
          rw [ho] at hput
          rw [Env.get_put hput, if_neg (by intro e; subst e; exact hd ho)]
      rcases ih (by omega) with ⟨q, j, o', hq, hat, hd', hv⟩ | ⟨hno, hv⟩
      · exact .inl ⟨q, j, o', by omega, hat, hd', by rw [hget]; exact hv⟩
      · refine .inr ⟨fun q j o' hq hat hd' => ?_, by rw [hget]; exact hv⟩
        rcases Nat.lt_or_ge q p with h | h
        · exact hno q j o' h hat hd'
        · obtain rfl : q = p := by omega
          obtain ⟨_, rfl⟩ := hat.same h3
          exact hd hd'
theorem Canon.Runs.n (R : C.Runs P F) : ∀ p, p ≤ C.ch.length → (C.cE p).n = (C.cE 0).n := by
  intro p
  induction p with
  | zero => intro _; rfl
  | succ p ih =>
    intro hp
    obtain ⟨i, a, o, h1, h2, h3, hs⟩ := R.at (p := p) (by omega)
    rw [Env.put_n hs.put, ih (by omega)]
theorem StepAt.size (HF : FnsOk P F) {ops : List Oper} {o : Oper} {a : Nat} {E E' : Env} {A A' : AState} {V V' : List AState} {v : Value} (h : StepAt P F ops o a E A V v E' A' V') : A.size ≤ A'.size := by
  rcases h.did with ⟨_, h | h | h | h⟩ | ⟨_, _, rfl⟩
  · rename_i hA; rw [hA]; exact Nat.le_refl _
  · rename_i hA; rw [hA]; exact Nat.le_refl _
  · rename_i h; rw [aMake_size h]; exact Nat.le_succ _
  · rename_i h; exact runOp_size HF h
  · exact Nat.le_refl _
theorem Canon.Runs.size (R : C.Runs P F) (HF : FnsOk P F) {p : Nat} : ∀ {q : Nat}, p ≤ q → q ≤ C.ch.length → (C.cA p).size ≤ (C.cA q).size := by
  intro q
  induction q with
  | zero => intro h _; obtain rfl : p = 0 := by omega
            exact Nat.le_refl _
  | succ q ih =>
    intro h hq
    rcases Nat.lt_or_ge p (q + 1) with h1 | h1
    · obtain ⟨i, a, o, _, _, _, hs⟩ := R.at (p := q) (by omega)
      exact Nat.le_trans (ih (by omega) (by omega)) (hs.size HF)
    · obtain rfl : p = q + 1 := by omega
      exact Nat.le_refl _
theorem Canon.ec_mono (C : Canon) (P : Program) {p : Nat} : ∀ {q : Nat}, p ≤ q → C.ec P p ≤ C.ec P q := by
  intro q
  induction q with
  | zero => intro h; obtain rfl : p = 0 := by omega
            exact Nat.le_refl _
  | succ q ih =>
    intro h
    rcases Nat.lt_or_ge p (q + 1) with h1 | h1
    · exact Nat.le_trans (ih (by omega)) (Nat.le_add_right _ _)
    · obtain rfl : p = q + 1 := by omega
      exact Nat.le_refl _
theorem Canon.At.eff {p i : Nat} {o : Oper} (h : C.At p i o) : C.effAt P p = isEff P o := by
  obtain ⟨⟨a, h1⟩, h2⟩ := h
  unfold Canon.effAt
  rw [h1]; simp only [h2]
theorem Canon.Runs.vers (R : C.Runs P F) : ∀ p, p ≤ C.ch.length → (C.cV p).length = C.ec P p + 1 ∧
    ∀ j, j ≤ p → (j = 0 ∨ C.effAt P (j - 1) = true) → (C.cV p)[C.ec P p - C.ec P j]? = some (C.cA j) := by
  intro p
  induction p with
  | zero =>
    intro _
    refine ⟨by rw [R.v0]; rfl, fun j hj _ => ?_⟩
    obtain rfl : j = 0 := by omega
    rw [R.v0]; simp
  | succ p ih =>
    intro hp
    obtain ⟨i, a, o, h1, h2, h3, hs⟩ := R.at (p := p) (by omega)
    obtain ⟨i1, i2⟩ := ih (by omega)
    have he := h3.eff (P := P)
    have hv := hs.vers
    have hec : C.ec P (p + 1) = C.ec P p + (if C.effAt P p then 1 else 0) := rfl
    cases hb : isEff P o with
    | true =>
      rw [hb] at hv he
      rw [if_pos he] at hec
      rw [hv, hec]
      refine ⟨by simp [i1], fun j hj h0 => ?_⟩
      rcases Nat.lt_or_ge j (p + 1) with hlt | hge
      · have := i2 j (by omega) h0
        have hm := C.ec_mono P (p := j) (q := p) (by omega)
        rw [show C.ec P p + 1 - C.ec P j = (C.ec P p - C.ec P j) + 1 by omega]
        simpa using this
      · obtain rfl : j = p + 1 := by omega
        rw [hec]; simp
    | false =>
      rw [hb] at hv he
      have hv' : C.cV (p + 1) = C.cV p := hv
      rw [if_neg (by rw [he]; simp)] at hec
      rw [hv', hec]
      refine ⟨i1, fun j hj h0 => ?_⟩
      rcases Nat.lt_or_ge j (p + 1) with hlt | hge
      · exact i2 j (by omega) h0
      · obtain rfl : j = p + 1 := by omega
        rcases h0 with h0 | h0
        · omega
        · simp only [Nat.add_sub_cancel] at h0
          rw [he] at h0; cases h0
end
end Go.Ag
namespace Go.Ag
def NoLoop (ob : AObj) : Prop := ∀ L, ob ≠ .loop L
section
variable {P : Program} {ρ : Operand → Value} {o : Oper} {v : Value} {A A' : AState}
theorem aMake_any (h : aMake P ρ o A = some (v, A')) : ∃ ob, A' = A.push ob ∧ newShape A.size ob ∧ NoLoop ob ∧ ∀ t, aMake P ρ o ⟨t, A.size⟩ = some (v, AState.push ⟨t, A.size⟩ ob) := by
  unfold aMake at h ⊢
  split at h
  · rename_i t heq
    unfold aalloc at h
    simp only [Option.bind_eq_some_iff] at h
    obtain ⟨i, hi, z, hz, h⟩ := h
    split at h
    · rename_i hp
      cases h
      refine ⟨_, rfl, ⟨rfl, rfl, rfl⟩, fun L => by simp, fun t => ?_⟩
      simp only [aalloc, hi, hz, Option.bind_some, if_pos hp]
      rfl
    · cases h
  · simp only [Option.some.injEq] at h
    have h1 := congrArg Prod.fst h
    have h2 := congrArg Prod.snd h
    simp only at h1 h2
    subst h1 h2
    refine ⟨_, rfl, ⟨rfl, rfl, rfl⟩, fun L => by simp, fun t => rfl⟩
  · unfold abuildSlice at h
    split at h
    · rename_i elem heq
      simp only [Option.bind_eq_some_iff] at h
      obtain ⟨e, he, h⟩ := h
      split at h
      · cases h
      · rename_i hb
        simp only [Option.bind_eq_some_iff] at h
        obtain ⟨z, hz, cs, hcs, h⟩ := h
        cases h
        refine ⟨_, rfl, ⟨rfl, rfl, rfl⟩, fun L => by simp, fun t => ?_⟩
        simp only [abuildSlice, heq, he, Option.bind_some, if_neg hb]
        rw [Option.bind_eq_some_iff]
        refine ⟨z, hz, ?_⟩
        rw [Option.bind_eq_some_iff]
        exact ⟨cs, hcs, rfl⟩
    · cases h
  · unfold amakeSlice at h
    split at h
    · rename_i elem k1 l0 k2 c0 heq hl hc
      simp only [Option.bind_eq_some_iff] at h
      obtain ⟨e, he, h⟩ := h
      split at h
      · rename_i hr
        split at h
        · rename_i h0
          cases h
          refine ⟨_, rfl, ⟨rfl, rfl, rfl⟩, fun L => by simp, fun t => ?_⟩
          simp only [amakeSlice, heq, he, Option.bind_some, hl, hc]
          rw [if_pos hr, if_pos h0]
          rfl
        · rename_i h0
          simp only [Option.bind_eq_some_iff] at h
          obtain ⟨z, hz, h⟩ := h
          split at h
          · rename_i hp
            cases h
            refine ⟨_, rfl, ⟨rfl, rfl, rfl⟩, fun L => by simp, fun t => ?_⟩
            simp only [amakeSlice, heq, he, Option.bind_some, hl, hc, hz]
            rw [if_pos hr, if_neg h0, if_pos hp]
            rfl
          · cases h
      · cases h
    · cases h
  · unfold amakeMap at h
    split at h
    · rename_i t r heq hn
      cases h
      refine ⟨_, rfl, trivial, fun L => by simp, fun t => ?_⟩
      simp only [amakeMap, hn]
    · cases h
  · unfold arange at h
    split at h
    · rename_i heq hx
      cases h
      refine ⟨_, rfl, trivial, fun L => by simp, fun t => ?_⟩
      simp only [arange, heq, hx]
    · cases h
  · unfold abytes at h
    split at h
    · rename_i heq hd hx
      split at h
      · rename_i hc
        cases h
        refine ⟨_, rfl, ⟨rfl, rfl, rfl⟩, fun L => by simp, fun t => ?_⟩
        simp only [abytes, heq, hd, hx]
        rw [if_pos hc]
        rfl
      · cases h
    · cases h
  · cases h
end
section
variable {P : Program} {ρ : Ren} {τ τ' : Nat → Option Nat} {A : AState} {w : World} {ob : AObj} {N : Nat}
theorem Sim.bound (S : Sim P ρ τ A w) {b : Nat} {o : AObj} (h : A.get b = some o) : b < A.size := by
  rcases Nat.lt_or_ge b A.size with h1 | h1
  · exact h1
  · rw [S.fresh b h1] at h; cases h
theorem ORel.fit {A A' : AState} {b : Nat} {i : BInfo} {o : AObj} (h : ORel ρ A w b i o)
    (ha : ∀ cs d n es root own top, o = .cells cs d n es root own top → A'.isOpen b root own = true → A.isOpen b root own = true) : ORel ρ A' w b i o := h.keep rfl ha
theorem Sim.drop {ρ' : Ren} {w' : World} (S0 : Sim P ρ τ' A w') (hN : A.size ≤ N) {w : World} (S : Sim P ρ' τ ((⟨A.heap, N⟩ : AState).push ob) w) (hob : newShape N ob) : Sim P ρ' (fun r => if τ r = some N then none else τ r) A w := by
  have hlt : ∀ b o, A.get b = some o → b < A.size := fun b o h => S0.bound h
  have hget : ∀ b, b < A.size → ((⟨A.heap, N⟩ : AState).push ob).get b = A.get b := fun b hb => by
    rw [get_push, if_neg (by show ¬ N = b; omega)]; rfl
  have up : ∀ b o, A.get b = some o → ((⟨A.heap, N⟩ : AState).push ob).get b = some o := fun b o h => by rw [hget b (hlt b o h)]; exact h
  refine ⟨fun b o h => ?_, S0.root, fun b cs d n es root own top h rcs rd rn res rtop hr => ?_, S0.solo, S0.ro, S0.fresh, fun r f hf => ?_, S.glob, S0.globs⟩
  · obtain ⟨i, h1, h2, h3, h4⟩ := S.obj b o (up b o h)
    obtain ⟨o', h5, _⟩ := S0.root b o h
    have hfl := hlt _ _ h5
    refine ⟨i, h1, h2, ?_, h4.fit fun cs d n es root own top eo hop => ?_⟩
    · show (if τ i.blk = some N then none else τ i.blk) = _
      rw [h3, if_neg (by intro e; have := Option.some.inj e; omega)]
    · subst eo
      by_cases er : root = b
      · subst er; rw [isOpen_root] at hop ⊢; exact hop
      · rw [isOpen_other _ _ er] at hop ⊢
        have : ((⟨A.heap, N⟩ : AState).push ob).ownOf root = A.ownOf root := by unfold AState.ownOf; rw [hget root hfl]
        rw [this]; exact hop
  · obtain ⟨ot, i, j, k1, k2, k3, k4, k5⟩ := S.top b cs d n es root own top (up _ _ h) rcs rd rn res rtop (up _ _ hr)
    have hrl := hlt _ _ hr
    have hne : rtop ≠ N := by
      intro e
      subst e
      rw [get_push, if_pos rfl] at k1
      cases k1
      rw [hob.fam] at k2
      omega
    rw [get_push, if_neg (by show ¬ N = rtop; exact Ne.symm hne)] at k1
    exact ⟨ot, i, j, k1, k2, k3, k4, k5⟩
  · change (if τ r = some N then none else τ r) = some f at hf
    split at hf
    · cases hf
    · rename_i hne
      obtain ⟨o, ho⟩ := S.terr r f hf
      have : f ≠ N := fun e => hne (by rw [hf, e])
      rw [get_push, if_neg (by show ¬ N = f; exact Ne.symm this)] at ho
      exact ⟨o, ho⟩
theorem Sim.take (S : Sim P ρ τ A w) {i : BInfo} (hi : ρ A.size = some i) (hlt : i.blk < w.heap.size) (ht : τ i.blk = none) (hr : ∀ A', ORel ρ A' w A.size i ob) (hn : newShape A.size ob) :
    Sim P ρ (tup τ i.blk A.size) (A.push ob) w := by
  have hold : ∀ b o2, A.get b = some o2 → b ≠ A.size ∧ b < A.size := fun b o2 h => by have := S.bound h; omega
  have hget : ∀ b, b ≠ A.size → (A.push ob).get b = A.get b := fun b hb => by rw [get_push, if_neg (Ne.symm hb)]
  have hgets : (A.push ob).get A.size = some ob := by rw [get_push, if_pos rfl]
  have hfam := hn.fam
  have hget' : ∀ b o2, A.get b = some o2 → (A.push ob).get b = some o2 := fun b o2 h => by rw [hget b (hold b o2 h).1]; exact h
  refine ⟨fun b o2 h2 => ?_, fun b o2 h2 => ?_, ?_, ?_, fun b o2 h2 => ?_, fun b hb => ?_, fun r f hf => ?_, S.glob, Nat.lt_of_lt_of_le S.globs (by simp [size_push])⟩
  · by_cases e : b = A.size
    · subst e; rw [hgets] at h2; cases h2
      exact ⟨i, hi, hlt, by unfold tup; rw [if_pos rfl, hfam], hr _⟩
    · rw [hget b e] at h2
      obtain ⟨i2, a1, a2, a3, a4⟩ := S.obj _ _ h2
      refine ⟨i2, a1, a2, by unfold tup; rw [if_neg (by intro e; rw [e, ht] at a3; cases a3)]; exact a3, ?_⟩
      refine a4.fit fun cs2 d2 n2 es2 root2 own2 top2 eo hop => ?_
      by_cases er : root2 = b
      · subst er; rw [isOpen_root] at hop ⊢; exact hop
      · rw [isOpen_other _ _ er] at hop ⊢
        subst eo
        obtain ⟨o4, h4, _⟩ := S.root _ _ h2
        have hne : root2 ≠ A.size := (hold root2 o4 h4).1
        have : (A.push ob).ownOf root2 = A.ownOf root2 := by unfold AState.ownOf; rw [hget _ hne]
        rw [this] at hop; exact hop
  · by_cases e : b = A.size
    · subst e; rw [hgets] at h2; cases h2
      exact ⟨_, by rw [hfam]; exact hgets, by rw [hfam, hfam]⟩
    · rw [hget b e] at h2
      obtain ⟨o4, h4, e4⟩ := S.root _ _ h2
      exact ⟨o4, hget' _ _ h4, e4⟩
  · intro b cs d n es root own top h2 rcs rd rn res rtop hro
    by_cases e : b = A.size
    · subst e; rw [hgets] at h2; cases h2
      obtain ⟨rfl, rfl, rfl⟩ := hn
      rw [hgets] at hro
      cases hro
      exact ⟨_, i, i, hgets, rfl, hi, hi, fun _ => Nat.le_refl _⟩
    · rw [hget b e] at h2
      obtain ⟨o4, h4, e4⟩ := S.root _ _ h2
      have hne : root ≠ A.size := (hold _ o4 h4).1
      rw [hget _ hne] at hro
      obtain ⟨ot, i1, j1, k1, k2, k3, k4, k5⟩ := S.top _ _ _ _ _ _ _ _ h2 _ _ _ _ _ hro
      exact ⟨ot, i1, j1, hget' _ _ k1, k2, k3, k4, k5⟩
  · intro b o2 h2 cs d n es root own hro
    by_cases e : b = A.size
    · subst e; rw [hgets] at h2; cases h2; exact hfam.symm
    · rw [hget b e] at h2
      obtain ⟨o4, h4, e4⟩ := S.root _ _ h2
      rw [hget _ (hold _ o4 h4).1] at hro
      exact S.solo _ _ h2 _ _ _ _ _ _ hro
  · by_cases e : b = A.size
    · subst e; rw [hgets] at h2; cases h2; exact hn.ro S.globs
    · rw [hget b e] at h2; exact S.ro _ _ h2
  · rw [size_push] at hb
    rw [hget b (by omega)]; exact S.fresh b (by omega)
  · unfold tup at hf
    split at hf
    · cases hf; exact ⟨_, hgets⟩
    · obtain ⟨o3, h3⟩ := S.terr r f hf
      exact ⟨o3, hget' _ _ h3⟩
theorem Sim.gap (S : Sim P ρ τ A w) (hN : A.size ≤ N) : Sim P ρ τ ⟨A.heap, N⟩ w :=
  ⟨fun b o h => by
    obtain ⟨i, h1, h2, h3, h4⟩ := S.obj b o h
    exact ⟨i, h1, h2, h3, h4.fit fun _ _ _ _ _ _ _ _ h => h⟩, S.root, S.top, S.solo, S.ro, fun b hb => S.fresh b (Nat.le_trans hN hb), S.terr, S.glob, Nat.lt_of_lt_of_le S.globs hN⟩
end
end Go.Ag
namespace Go.Ag
def Canon.exP (C : Canon) (listed : Array Bool) (p : Nat) : Prop := ∃ i o, C.At p i o ∧ ex listed i
structure Canon.Mk (C : Canon) (P : Program) (p : Nat) (ob : AObj) : Prop where
  lt : p < C.ch.length
  push : C.cA (p + 1) = (C.cA p).push ob
  shape : newShape (C.cA p).size ob
  noloop : NoLoop ob
  noeff : C.effAt P p = false
structure Early (C : Canon) (P : Program) (listed : Array Bool) (j : Nat) (ρ : Ren) (τ : Nat → Option Nat) (w : World) (lo : Nat) : Prop where
  made : ∀ p ob, j ≤ p → C.exP listed p → C.Mk P p ob → ∃ i, ρ (C.cA p).size = some i ∧ lo ≤ i.blk ∧ i.blk < w.heap.size ∧ τ i.blk = none ∧ ∀ A, ORel ρ A w (C.cA p).size i ob
  apart : ∀ p q ob ob' i i', j ≤ p → j ≤ q → C.exP listed p → C.exP listed q → C.Mk P p ob → C.Mk P q ob' → ρ (C.cA p).size = some i → ρ (C.cA q).size = some i' → p ≠ q → i.blk ≠ i'.blk
structure Base (P : Program) (ρ0 : Ren) (τ0 : Nat → Option Nat) (w0 : World) (A0 : AState) (hi : Nat) (ρ : Ren) (τ : Nat → Option Nat) (w : World) : Prop where
  le : ρ0.le ρ
  same : ∀ b, (b < A0.size ∨ hi ≤ b) → ρ b = ρ0 b
  frm : Frm τ0 w0 w
  told : ∀ r, r < w0.heap.size → τ r = τ0 r ∨ τ r = none
  loops : ∀ (r : Nat) (R : Loop), w0.heap[r]? = some (Obj.loop R) → ∃ R' : Loop, w.heap[r]? = some (Obj.loop R')
  ro : ∀ r, r < w0.heap.size → τ0 r = some P.globals.size → w.heap[r]? = w0.heap[r]?
theorem Base.step {P : Program} {ρ0 ρ ρ' : Ren} {τ0 τ τ' : Nat → Option Nat} {w0 w w' : World} {A0 A A' : AState} {hi : Nat} (B : Base P ρ0 τ0 w0 A0 hi ρ τ w) (x : Ext P ρ τ A w ρ' τ' A' w')
    (h0 : A0.size ≤ A.size) (h1 : A'.size ≤ hi) : Base P ρ0 τ0 w0 A0 hi ρ' τ' w' where
  le := B.le.trans x.le
  same b hb := by rw [x.same b (by omega), B.same b hb]
  frm := ⟨Nat.le_trans B.frm.size x.frm.size, fun r hr ht => by rw [x.frm.keep r (Nat.lt_of_lt_of_le hr B.frm.size) ((B.told r hr).elim (fun e => e.trans ht) id), B.frm.keep r hr ht],
    x.frm.os.trans B.frm.os, x.frm.out.trans B.frm.out, x.frm.tape.trans B.frm.tape⟩
  told r hr := (x.told r (Nat.lt_of_lt_of_le hr B.frm.size)).elim (fun e => (B.told r hr).imp (fun e' => e.trans e') (fun e' => e.trans e')) .inr
  loops r R hR := by
    obtain ⟨R1, h1⟩ := B.loops r R hR
    exact x.loops r R1 h1
  ro r hr ht := by rw [(B.told r hr).elim (fun e => x.ro r (Nat.lt_of_lt_of_le hr B.frm.size) (e.trans ht)) (fun e => x.frm.keep r (Nat.lt_of_lt_of_le hr B.frm.size) e), B.ro r hr ht]
theorem Base.retag {P : Program} {ρ0 ρ : Ren} {τ0 τ τ' : Nat → Option Nat} {w0 w : World} {A0 : AState} {hi : Nat} (B : Base P ρ0 τ0 w0 A0 hi ρ τ w) (h : ∀ r, r < w0.heap.size → τ' r = τ r) : Base P ρ0 τ0 w0 A0 hi ρ τ' w :=
  ⟨B.le, B.same, B.frm, fun r hr => (B.told r hr).imp (fun e' => (h r hr).trans e') (fun e' => (h r hr).trans e'), B.loops, B.ro⟩
theorem FrameOk.retag {b : Frame} {a : Act} {τ τ' : Nat → Option Nat} {w : World} {lo : Nat} (h : FrameOk b a τ w lo) (ht : ∀ r : Nat, w.heap[r]? = some (.deferred (some [])) → τ r = none → τ' r = none) : FrameOk b a τ' w lo := by
  obtain ⟨rs, h1, h2, h3⟩ := h.marks
  exact ⟨h.kind, h.low, h.loop, rs, h1, h2, fun r hr => let ⟨q1, q2, q3⟩ := h3 r hr; ⟨q1, ht r q3 q2, q3⟩⟩
structure Mem1 (C : Canon) (P : Program) (listed : Array Bool) (j : Nat) (ρ : Ren) (τ : Nat → Option Nat) (w : World) (lo : Nat) : Prop where
  jm : j ≤ C.ch.length
  done : ∀ p, p < j → C.exP listed p
  quiet : ∀ p, j ≤ p → C.exP listed p → C.effAt P p = false
  edge : j = 0 ∨ C.effAt P (j - 1) = true
  sim : Sim P ρ τ (C.cA j) w
  early : Early C P listed j ρ τ w lo
  free : ∀ b, (C.cA j).size ≤ b → b < (C.cA C.ch.length).size → (∀ p ob, j ≤ p → C.exP listed p → C.Mk P p ob → b ≠ (C.cA p).size) → ρ b = none
theorem ORel.row {ρ : Ren} {A : AState} {w : World} {b : Nat} {i : BInfo} {o : AObj} (h : ORel ρ A w b i o) : w.heap[i.blk]? ≠ some (.deferred (some [])) := by
  cases h with
  | cells c el fz ho => rw [ho]; intro h; cases h
  | ro c el fz ho => rw [ho]; intro h; cases h
  | map es' clock ho => rw [ho]; intro h; cases h
  | strIter ho => rw [ho]; intro h; cases h
  | loop R ho => rw [ho]; intro h; cases h
section
variable {P : Program} {F : Fns} {C : Canon} {listed : Array Bool} {ρ : Ren} {τ : Nat → Option Nat} {w : World} {lo j : Nat}
theorem Canon.Runs.cases (R : C.Runs P F) {p : Nat} (hp : p < C.ch.length) : C.effAt P p = true ∨ (C.effAt P p = false ∧ ((∃ ob, C.Mk P p ob) ∨ C.cA (p + 1) = C.cA p)) := by
  obtain ⟨i, a, o, h1, h2, h3, hs⟩ := R.at hp
  have he := h3.eff (P := P)
  cases hb : isEff P o with
  | true => left; rw [he, hb]
  | false =>
    right
    rw [hb] at he
    refine ⟨he, ?_⟩
    rcases hs.did with ⟨_, h | h | h | h⟩ | ⟨_, _, h⟩
    · rename_i hA; exact .inr hA
    · rename_i hA; exact .inr hA
    · rename_i hk h
      obtain ⟨ob, e1, e2, e3, _⟩ := aMake_any h
      exact .inl ⟨ob, hp, e1, e2, e3, he⟩
    · rw [hb] at h; cases h
    · exact .inr h
theorem Canon.Mk.size {p : Nat} {ob : AObj} (M : C.Mk P p ob) : (C.cA (p + 1)).size = (C.cA p).size + 1 := by rw [M.push]; rfl
theorem Canon.Mk.not_same {p : Nat} {ob : AObj} (M : C.Mk P p ob) : C.cA (p + 1) ≠ C.cA p := fun h => by
  have := M.size; rw [h] at this; omega
theorem Mem1.absorb (R : C.Runs P F) (M : Mem1 C P listed j ρ τ w lo) : ∀ u, j ≤ u → u ≤ C.ch.length → (∀ q, q < u → C.exP listed q ∨ C.cA (q + 1) = C.cA q) →
    ∃ τ1, Sim P ρ τ1 (C.cA u) w ∧ Early C P listed u ρ τ1 w lo ∧ ∀ r, τ1 r = τ r ∨ (lo ≤ r ∧ τ r = none ∧ w.heap[r]? ≠ some (.deferred (some []))) := by
  intro u
  induction u with
  | zero =>
    intro h _ _
    obtain rfl : j = 0 := by omega
    exact ⟨τ, M.sim, M.early, fun r => .inl rfl⟩
  | succ u ih =>
    intro hj hu hall
    rcases Nat.lt_or_ge j (u + 1) with hlt | hge
    · obtain ⟨τ1, S1, E1, T1⟩ := ih (by omega) (by omega) (fun q hq => hall q (by omega))
      have hcase : (C.exP listed u ∧ ∃ ob, C.Mk P u ob) ∨ C.cA (u + 1) = C.cA u := by
        rcases hall u (by omega) with hex | hs
        · rcases R.cases (p := u) (by omega) with he | ⟨he, hm | hsame⟩
          · rw [M.quiet u (by omega) hex] at he; cases he
          · exact .inl ⟨hex, hm⟩
          · exact .inr hsame
        · exact .inr hs
      rcases hcase with ⟨hex, ob, hm⟩ | hsame
      · obtain ⟨i, i1, i2, i3, i4, i5⟩ := E1.made u ob (Nat.le_refl _) hex hm
        have S2 := S1.take i1 i3 i4 i5 hm.shape
        rw [← hm.push] at S2
        refine ⟨_, S2, ⟨fun p ob' hp hexp hmp => ?_, fun p q ob1 ob2 i1 i2 hp hq => E1.apart p q ob1 ob2 i1 i2 (by omega) (by omega)⟩, fun r => ?_⟩
        · obtain ⟨i', k1, k2, k3, k4, k5⟩ := E1.made p ob' (by omega) hexp hmp
          refine ⟨i', k1, k2, k3, ?_, k5⟩
          unfold tup
          rw [if_neg (E1.apart p u ob' ob i' i (by omega) (Nat.le_refl _) hexp hex hmp hm k1 i1 (by omega))]
          exact k4
        · unfold tup
          by_cases e : r = i.blk
          · right
            rw [e]
            rcases T1 i.blk with h | ⟨h1, h2, h3⟩
            · exact ⟨i2, by rw [← h]; exact i4, (i5 (C.cA u)).row⟩
            · exact ⟨h1, h2, h3⟩
          · rw [if_neg e]; exact T1 r
      · rw [hsame]
        exact ⟨τ1, S1, ⟨fun p ob' hp => E1.made p ob' (by omega), fun p q ob1 ob2 i1 i2 hp hq => E1.apart p q ob1 ob2 i1 i2 (by omega) (by omega)⟩, T1⟩
    · obtain rfl : j = u + 1 := by omega
      exact ⟨τ, M.sim, M.early, fun r => .inl rfl⟩
theorem Mem1.free_at (R : C.Runs P F) (HF : FnsOk P F) (M : Mem1 C P listed j ρ τ w lo) {u : Nat} (hj : j ≤ u) (hu : u ≤ C.ch.length) :
    ∀ b, (C.cA u).size ≤ b → b < (C.cA C.ch.length).size → (∀ p ob, u ≤ p → C.exP listed p → C.Mk P p ob → b ≠ (C.cA p).size) → ρ b = none := by
  intro b h1 h2 h3
  refine M.free b (Nat.le_trans (R.size HF hj hu) h1) h2 fun p ob hp hex hm => ?_
  rcases Nat.lt_or_ge p u with hlt | hge
  · have hs := hm.size
    have := R.size HF (p := p + 1) (q := u) (by omega) hu
    omega
  · exact h3 p ob hge hex hm
theorem Early.keep {ρ' : Ren} {τ' : Nat → Option Nat} {A A' : AState} {w' : World} (E : Early C P listed j ρ τ w lo) (x : Ext P ρ τ A w ρ' τ' A' w') : Early C P listed j ρ' τ' w' lo := by
  refine ⟨fun p ob hp hex hm => ?_, fun p q ob ob' i i' hp hq h1 h2 h3 h4 h5 h6 => ?_⟩
  · obtain ⟨i, k1, k2, k3, k4, k5⟩ := E.made p ob hp hex hm
    exact ⟨i, x.le _ _ k1, k2, Nat.lt_of_lt_of_le k3 x.frm.size, (x.told _ k3).elim (fun e => e.trans k4) id, fun A1 => ((k5 A1).mono x.le).keep (x.frm.keep _ k3 k4) (fun _ _ _ _ _ _ _ _ h => h)⟩
  · obtain ⟨i1, k1, _⟩ := E.made p ob hp h1 h3
    obtain ⟨i2, k2, _⟩ := E.made q ob' hq h2 h4
    have e1 := x.le _ _ k1
    have e2 := x.le _ _ k2
    rw [h5] at e1
    rw [h6] at e2
    cases e1; cases e2
    exact E.apart p q ob ob' _ _ hp hq h1 h2 h3 h4 k1 k2
end
end Go.Ag
namespace Go.Ag
structure Tmps (C : Canon) (listed : Array Bool) (ρ : Ren) (a : Act) : Prop where
  size : a.tmps.size = (C.cE 0).n
  put : ∀ p i o t, C.At p i o → ex listed i → o.dst = some t → VRel ρ (C.cv p) (a.tmps.getD t undef)
  old : ∀ t, (∀ p i o, C.At p i o → ex listed i → o.dst ≠ some t) → VRel ρ ((C.cE 0).get t) (a.tmps.getD t undef)
structure Ready (C : Canon) (listed : Array Bool) (i : Nat) (o : Oper) : Prop where
  op : C.ops[i]? = some o
  new : ¬ ex listed i
  preds : ∀ e ∈ preds o, ex listed e
section
variable {P : Program} {F : Fns} {C : Canon} {listed : Array Bool} {ρ ρ' : Ren} {τ : Nat → Option Nat} {A : AState} {w : World} {a : Act} {lo j p i : Nat} {o : Oper}
theorem Tmps.agree (T : Tmps C listed ρ a) (L : C.Plan P) (R : C.Runs P F) (hc : Closed C.ops listed) (hr : Ready C listed i o) (hat : C.At p i o) :
    ∀ t ∈ looks C.ops.toList o, VRel ρ ((C.cE p).get t) (a.tmps.getD t undef) := by
  intro t ht
  rcases R.env t p (Nat.le_of_lt hat.lt) with ⟨q, j, o', hq, hat', hd, hv⟩ | ⟨hno, hv⟩
  · rw [hv]
    rcases L.looks p i o hat t ht q j o' hat' hd with ⟨_, h⟩ | h | ⟨h, _⟩
    · exact T.put q j o' t hat' (anc_ex hc i hr.op hr.preds h) hd
    · omega
    · omega
  · rw [hv]
    refine T.old t fun q j o' hat' hex hd => ?_
    rcases L.looks p i o hat t ht q j o' hat' hd with ⟨h, _⟩ | h | ⟨_, h⟩
    · exact hno q j o' h hat' hd
    · subst h
      obtain ⟨rfl, rfl⟩ := hat.same hat'
      exact hr.new hex
    · exact hr.new (anc_ex' hc hex h)
theorem Tmps.agree_last (T : Tmps C listed ρ a) (R : C.Runs P F) (hc : Closed C.ops listed) (hr : Ready C listed i o)
    (hl : ∀ t ∈ looks C.ops.toList o, ∀ q j o', C.At q j o' → o'.dst = some t → anc C.T i j) :
    ∀ t ∈ looks C.ops.toList o, VRel ρ ((C.cE C.ch.length).get t) (a.tmps.getD t undef) := by
  intro t ht
  rcases R.env t C.ch.length (Nat.le_refl _) with ⟨q, j, o', hq, hat', hd, hv⟩ | ⟨hno, hv⟩
  · rw [hv]
    exact T.put q j o' t hat' (anc_ex hc i hr.op hr.preds (hl t ht q j o' hat' hd)) hd
  · rw [hv]
    exact T.old t fun q j o' hat' _ hd => hno q j o' hat'.lt hat' hd
theorem opds_of {E : Env} (S : Sim P ρ τ A w) (hok : operOk P o = true) (h : ∀ t ∈ looks C.ops.toList o, VRel ρ (E.get t) (a.tmps.getD t undef)) : OpdRel ρ E.eval a.eval o := by
  intro x hx
  have hx' := List.all_eq_true.1 hok x hx
  cases x with
  | tmp t =>
    refine h t ?_
    unfold looks
    exact List.mem_append_left _ (List.mem_filterMap.2 ⟨_, hx, rfl⟩)
  | const v => exact .plain hx'
  | global g =>
    obtain ⟨i, h1, h2, h3⟩ := S.glob g (Nat.blt_eq.mp hx')
    have := VRel.ptr (o := 0) h1
    rw [h2, h3] at this
    exact this
  | func f => exact .func .nil .nil
theorem wanted_of {E : Env} (h : ∀ t ∈ looks C.ops.toList o, VRel ρ (E.get t) (a.tmps.getD t undef)) : wantedA C.ops.toList E o = Region.wanted o (yielded C.ops a.tmps) := by
  unfold wantedA Region.wanted
  cases hg : o.guard with
  | none => rfl
  | some gw =>
    obtain ⟨g, want⟩ := gw
    simp only
    have key : yieldedA C.ops.toList E g = yielded C.ops a.tmps g := by
      unfold yieldedA yielded
      rw [Array.getElem?_toList]
      cases hd : (C.ops[g]?).bind (·.dst) with
      | none => rfl
      | some t =>
        have hr := h t (by
          unfold looks
          refine List.mem_append_right _ ?_
          rw [hg]
          simp only [Array.getElem?_toList, hd]
          simp)
        simp only [Option.bind_some]
        rw [Array.getD_eq_getD_getElem?] at hr
        cases hv : a.tmps[t]? with
        | none =>
          rw [hv] at hr
          simp only [Option.getD_none] at hr
          generalize E.get t = x at hr ⊢
          cases hr <;> rfl
        | some y =>
          rw [hv] at hr
          simp only [Option.getD_some] at hr
          generalize E.get t = x at hr ⊢
          cases hr <;> rfl
    rw [key]
theorem ex_set {k : Nat} (hi : i < listed.size) : ex (listed.setIfInBounds i true) k ↔ k = i ∨ ex listed k := by
  unfold ex
  rw [Array.getElem?_setIfInBounds]
  by_cases e : i = k
  · subst e; simp [hi]
  · rw [if_neg e]
    constructor
    · exact fun h => .inr h
    · rintro (h | h)
      · exact absurd h.symm e
      · exact h
theorem Act.getD_put {d t : Tmp} {v : Value} (hd : d < a.tmps.size) : (a.put (some d) v).tmps.getD t undef = if d = t then v else a.tmps.getD t undef := by
  simp only [Act.put, Array.getD_eq_getD_getElem?, Array.getElem?_setIfInBounds]
  by_cases e : d = t
  · subst e; simp [hd]
  · simp [e]
theorem Tmps.step (T : Tmps C listed ρ a) (L : C.Plan P) (R : C.Runs P F) (hle : ρ.le ρ') (hr : Ready C listed i o) (hat : C.At p i o) (hi : i < listed.size) {v' : Value} (hv : VRel ρ' (C.cv p) v') :
    Tmps C (listed.setIfInBounds i true) ρ' (a.put o.dst v') := by
  obtain ⟨i', a', o', h1, h2, h3, hs⟩ := R.at hat.lt
  obtain ⟨rfl, rfl⟩ := hat.same h3
  cases hd : o.dst with
  | none =>
    refine ⟨T.size, fun q k o2 t hat2 hex hd2 => ?_, fun t hno => (T.old t fun q k o2 hat2 hex => hno q k o2 hat2 ((ex_set hi).2 (.inr hex))).mono hle⟩
    rcases (ex_set hi).1 hex with rfl | hex
    · have := L.inj q p _ _ _ hat2 hat
      subst this
      obtain ⟨_, rfl⟩ := hat.same hat2
      rw [hd] at hd2; cases hd2
    · exact (T.put q k o2 t hat2 hex hd2).mono hle
  | some d =>
    have hlt : d < a.tmps.size := by
      have hp := hs.put
      rw [hd] at hp
      rw [T.size, ← R.n p (Nat.le_of_lt hat.lt)]
      exact Env.put_lt hp
    refine ⟨by rw [← T.size]; simp [Act.put], fun q k o2 t hat2 hex hd2 => ?_, fun t hno => ?_⟩
    · rw [Act.getD_put hlt]
      by_cases e : d = t
      · subst e
        have := L.dst q p _ _ _ _ _ hat2 hat hd2 hd
        subst this
        rw [if_pos rfl]; exact hv
      · rw [if_neg e]
        rcases (ex_set hi).1 hex with rfl | hex
        · have := L.inj q p _ _ _ hat2 hat
          subst this
          obtain ⟨_, rfl⟩ := hat.same hat2
          rw [hd] at hd2; exact absurd (Option.some.inj hd2) e
        · exact (T.put q k o2 t hat2 hex hd2).mono hle
    · rw [Act.getD_put hlt]
      have hne : d ≠ t := fun e => hno p i o hat ((ex_set hi).2 (.inl rfl)) (by rw [hd, e])
      rw [if_neg hne]
      exact (T.old t fun q k o2 hat2 hex => hno q k o2 hat2 ((ex_set hi).2 (.inr hex))).mono hle
theorem Closed.step (hc : Closed C.ops listed) (hr : Ready C listed i o) (hi : i < listed.size) : Closed C.ops (listed.setIfInBounds i true) := by
  intro k o' hk ho' e he
  refine (ex_set hi).2 (.inr ?_)
  rcases (ex_set hi).1 hk with rfl | hk
  · rw [hr.op] at ho'; cases ho'; exact hr.preds e he
  · exact hc k o' hk ho' e he
theorem exP_set (L : C.Plan P) (hat : C.At p i o) (hi : i < listed.size) {q : Nat} : C.exP (listed.setIfInBounds i true) q ↔ q = p ∨ C.exP listed q := by
  constructor
  · rintro ⟨k, o', h1, h2⟩
    rcases (ex_set hi).1 h2 with rfl | h2
    · exact .inl (L.inj q p _ _ _ h1 hat)
    · exact .inr ⟨k, o', h1, h2⟩
  · rintro (rfl | ⟨k, o', h1, h2⟩)
    · exact ⟨i, o, hat, (ex_set hi).2 (.inl rfl)⟩
    · exact ⟨k, o', h1, (ex_set hi).2 (.inr h2)⟩
theorem Mem1.quiet' (M : Mem1 C P listed j ρ τ w lo) (L : C.Plan P) (hat : C.At p i o) (hi : i < listed.size) (he : C.effAt P p = false) (hs : C.cA (p + 1) = C.cA p) : Mem1 C P (listed.setIfInBounds i true) j ρ τ w lo := by
  have nm : ∀ ob, ¬ C.Mk P p ob := fun ob h => h.not_same hs
  refine ⟨M.jm, fun q hq => (exP_set L hat hi).2 (.inr (M.done q hq)), fun q hq hex => ?_, M.edge, M.sim, ⟨fun q ob hq hex hm => ?_, fun q q' ob ob' i1 i2 hq hq' hex hex' hm hm' => ?_⟩, fun b h1 h2 h3 => M.free b h1 h2 fun q ob hq hex hm => h3 q ob hq ((exP_set L hat hi).2 (.inr hex)) hm⟩
  · rcases (exP_set L hat hi).1 hex with rfl | hex
    · exact he
    · exact M.quiet q hq hex
  · rcases (exP_set L hat hi).1 hex with rfl | hex
    · exact absurd hm (nm ob)
    · exact M.early.made q ob hq hex hm
  · rcases (exP_set L hat hi).1 hex with rfl | hex
    · exact absurd hm (nm ob)
    · rcases (exP_set L hat hi).1 hex' with rfl | hex'
      · exact absurd hm' (nm ob')
      · exact M.early.apart q q' ob ob' i1 i2 hq hq' hex hex' hm hm'
theorem Mem1.ext {ρ' : Ren} {τ' : Nat → Option Nat} {w' : World} (M : Mem1 C P listed j ρ τ w lo) (x : Ext P ρ τ (C.cA j) w ρ' τ' (C.cA j) w') : Mem1 C P listed j ρ' τ' w' lo :=
  ⟨M.jm, M.done, M.quiet, M.edge, x.sim, M.early.keep x, fun b h1 h2 h3 => by rw [x.same b (.inr h1)]; exact M.free b h1 h2 h3⟩
theorem Mem1.effect {ρ' : Ren} {τ1 τ' : Nat → Option Nat} {w' : World} (M : Mem1 C P listed j ρ τ w lo) (L : C.Plan P) (R : C.Runs P F) (HF : FnsOk P F) (hat : C.At p i o) (hi : i < listed.size) (hj : j ≤ p) (he : C.effAt P p = true)
    (hall : ∀ q, q < p → C.exP listed q) (E1 : Early C P listed p ρ τ1 w lo) (x : Ext P ρ τ1 (C.cA p) w ρ' τ' (C.cA (p + 1)) w') : Mem1 C P (listed.setIfInBounds i true) (p + 1) ρ' τ' w' lo := by
  have hlt := hat.lt
  have E2 := E1.keep x
  have old : ∀ q, p + 1 ≤ q → C.exP (listed.setIfInBounds i true) q → C.exP listed q := fun q hq hex => by
    rcases (exP_set L hat hi).1 hex with rfl | h
    · omega
    · exact h
  refine ⟨hlt, fun q hq => ?_, fun q hq hex => M.quiet q (by omega) (old q hq hex), .inr he, x.sim, ⟨fun q ob hq hex => E2.made q ob (by omega) (old q hq hex), fun q q' ob ob' i1 i2 hq hq' hex hex' => E2.apart q q' ob ob' i1 i2 (by omega) (by omega) (old q hq hex) (old q' hq' hex')⟩,
    fun b h1 h2 h3 => ?_⟩
  · rcases Nat.lt_or_ge q p with h | h
    · exact (exP_set L hat hi).2 (.inr (hall q h))
    · exact (exP_set L hat hi).2 (.inl (by omega))
  · rw [x.same b (.inr h1)]
    refine M.free_at R HF hj (Nat.le_of_lt hlt) b (Nat.le_trans x.size h1) h2 fun q ob hq hex hm => ?_
    rcases Nat.lt_or_ge p q with h | h
    · exact h3 q ob (by omega) ((exP_set L hat hi).2 (.inr hex)) hm
    · obtain rfl : q = p := by omega
      have := hm.noeff
      rw [he] at this; cases this
end
end Go.Ag
namespace Go.Ag
theorem ORel.every {ρ : Ren} {A : AState} {w : World} {b : Nat} {i : BInfo} {ob : AObj} (h : ORel ρ A w b i ob) (hn : newShape b ob) (A' : AState) : ORel ρ A' w b i ob :=
  h.fit fun cs d n es root own top eo hop => by
    subst eo
    obtain ⟨rfl, rfl, rfl⟩ := hn
    rw [isOpen_root] at hop ⊢; exact hop
section
variable {P : Program} {F : Fns} {C : Canon} {listed : Array Bool} {ρ0 ρ : Ren} {τ0 τ : Nat → Option Nat} {w0 w : World} {a : Act} {j p i : Nat} {o : Oper} {b : Frame}
theorem Mem1.at_le {lo : Nat} (M : Mem1 C P listed j ρ τ w lo) (hr : Ready C listed i o) (hat : C.At p i o) : j ≤ p := by
  rcases Nat.lt_or_ge p j with h | h
  · obtain ⟨k, o', h1, h2⟩ := M.done p h
    obtain ⟨rfl, rfl⟩ := hat.same h1
    exact absurd h2 hr.new
  · exact h
def Chain (C : Canon) (P : Program) (b : Frame) (listed : Array Bool) (ρ0 : Ren) (τ0 : Nat → Option Nat) (w0 : World) (lo : Nat) (a : Act) (ρ : Ren) (w : World) (i p : Nat) (o : Oper) (rest : List Nat) (k : List Item) (cs : List Frame) : Prop :=
  ∃ v' w' ρ' τ' j', OpRuns P b C.ops a w i rest k cs v' w' ∧ VRel ρ' (C.cv p) v' ∧ ρ.le ρ' ∧ Mem1 C P (listed.setIfInBounds i true) j' ρ' τ' w' w0.heap.size ∧
    Base P ρ0 τ0 w0 (C.cA 0) (C.cA C.ch.length).size ρ' τ' w' ∧ FrameOk b (a.put o.dst v') τ' w' lo
theorem exec_make {lo : Nat} {rest : List Nat} {k : List Item} {cs : List Frame} (M : Mem1 C P listed j ρ τ w w0.heap.size) (B : Base P ρ0 τ0 w0 (C.cA 0) (C.cA C.ch.length).size ρ τ w) (fo : FrameOk b a τ w lo) (L : C.Plan P) (R : C.Runs P F) (HF : FnsOk P F)
    (hr : Ready C listed i o) (hat : C.At p i o) (hi : i < listed.size) (hop : OpdRel ρ (C.cE p).eval a.eval o) (hw : Region.wanted o (yielded C.ops a.tmps) = true) (hk : kindOf P o = .make)
    (h : aMake P (C.cE p).eval o (C.cA p) = some (C.cv p, C.cA (p + 1))) : Chain C P b listed ρ0 τ0 w0 lo a ρ w i p o rest k cs := by
  obtain ⟨ob, e1, e2, e3, e4⟩ := aMake_any h
  have hlt := hat.lt
  have hj := M.at_le hr hat
  have hne : C.effAt P p = false := by rw [hat.eff]; simp [isEff, hk]
  have hm : C.Mk P p ob := ⟨hlt, e1, e2, e3, hne⟩
  have hsz := hm.size
  have hN := R.size HF hj (Nat.le_of_lt hlt)
  have hhi := R.size HF (p := p + 1) (q := C.ch.length) hlt (Nat.le_refl _)
  have hp0 : ¬ C.exP listed p := fun ⟨k, o', h1, h2⟩ => by
    obtain ⟨rfl, rfl⟩ := hat.same h1
    exact hr.new h2
  have nums : ∀ q ob', C.exP listed q → C.Mk P q ob' → (C.cA p).size ≠ (C.cA q).size := fun q ob' hex hmq => by
    have hq := hmq.size
    rcases Nat.lt_trichotomy q p with h1 | h1 | h1
    · have := R.size HF (p := q + 1) (q := p) h1 (Nat.le_of_lt hlt); omega
    · subst h1; exact absurd hex hp0
    · have := R.size HF (p := p + 1) (q := q) h1 (Nat.le_of_lt hmq.lt); omega
  have hfree : ρ (C.cA p).size = none := M.free _ hN (by omega) fun q ob' _ hex hmq => nums q ob' hex hmq
  have S' := M.sim.gap hN
  obtain ⟨v', w', ρ', τ', r1, r2, x⟩ := (make_sound (o := o) (ρr := a.eval) S' (e4 (C.cA j).heap) hop hfree).runs (b := b) (rest := rest) (k := k) (cs := cs) hr.op hw (by rw [hk]; decide)
  have S2 := Sim.drop M.sim hN x.sim e2
  have fresh : ∀ r, r < w.heap.size → τ' r ≠ some (C.cA p).size := fun r hr2 hc => by
    rw [(x.told r hr2).resolve_right (fun e => by rw [e] at hc; cases hc)] at hc
    obtain ⟨o', ho'⟩ := M.sim.terr r _ hc
    have := M.sim.bound ho'
    omega
  have hx1 : (⟨(C.cA j).heap, (C.cA p).size⟩ : AState).size = (C.cA p).size := rfl
  have hx2 : ((⟨(C.cA j).heap, (C.cA p).size⟩ : AState).push ob).size = (C.cA p).size + 1 := rfl
  obtain ⟨ip, p1, p2, p3, p4⟩ := x.sim.obj (C.cA p).size ob (by rw [get_push, if_pos rfl])
  rw [e2.fam] at p3
  have hnew : w.heap.size ≤ ip.blk := by
    rcases Nat.lt_or_ge ip.blk w.heap.size with h1 | h1
    · exact absurd p3 (fresh _ h1)
    · exact h1
  have hlo : w0.heap.size ≤ w.heap.size := B.frm.size
  have E := M.early.keep x
  have old : ∀ q, C.exP (listed.setIfInBounds i true) q → q = p ∨ C.exP listed q := fun q hex => (exP_set L hat hi).1 hex
  refine ⟨v', w', ρ', _, j, r1, r2, x.le, ⟨M.jm, fun q hq => (exP_set L hat hi).2 (.inr (M.done q hq)), fun q hq hex => ?_, M.edge, S2, ⟨fun q ob' hq hex hmq => ?_, fun q q' ob1 ob2 i1 i2 hq hq' hex hex' hm1 hm2 g1 g2 hqq => ?_⟩, fun b2 h1 h2 h3 => ?_⟩, ?_, ?_⟩
  · rcases old q hex with rfl | hex
    · exact hne
    · exact M.quiet q hq hex
  · rcases old q hex with rfl | hex
    · have : ob' = ob := by
        have e5 := hmq.push
        rw [e1] at e5
        have e6 := congrArg (fun A : AState => A.get (C.cA q).size) e5
        simp only [get_push, if_true] at e6
        exact (Option.some.inj e6).symm
      subst this
      refine ⟨ip, p1, by omega, p2, ?_, fun A => p4.every e2 A⟩
      show (if τ' ip.blk = _ then none else τ' ip.blk) = none
      rw [if_pos p3]
    · obtain ⟨i1, k1, k2, k3, k4, k5⟩ := E.made q ob' hq hex hmq
      refine ⟨i1, k1, k2, k3, ?_, k5⟩
      show (if τ' i1.blk = _ then none else τ' i1.blk) = none
      split
      · rfl
      · exact k4
  · have low : ∀ q ob1 i1, j ≤ q → C.exP listed q → C.Mk P q ob1 → ρ' (C.cA q).size = some i1 → i1.blk < w.heap.size := fun q ob1 i1 hq hex hmq hg => by
      obtain ⟨i3, k1, k2, k3, _⟩ := M.early.made q ob1 hq hex hmq
      have := x.le _ _ k1
      rw [hg] at this
      cases this
      exact k3
    rcases old q hex with rfl | hex
    · rcases old q' hex' with rfl | hex'
      · exact absurd rfl hqq
      · rw [p1] at g1; cases g1
        have := low q' ob2 i2 hq' hex' hm2 g2
        omega
    · rcases old q' hex' with rfl | hex'
      · rw [p1] at g2; cases g2
        have := low q ob1 i1 hq hex hm1 g1
        omega
      · exact E.apart q q' ob1 ob2 i1 i2 hq hq' hex hex' hm1 hm2 g1 g2 hqq
  · have hb : b2 ≠ (C.cA p).size := h3 p ob hj ((exP_set L hat hi).2 (.inl rfl)) hm
    rw [x.same b2 (by rw [hx1, hx2]; omega)]
    exact M.free b2 h1 h2 fun q ob' hq hex hmq => h3 q ob' hq ((exP_set L hat hi).2 (.inr hex)) hmq
  · refine (B.step x (by rw [hx1]; exact R.size HF (Nat.zero_le _) (Nat.le_of_lt hlt)) (by rw [hx2]; omega)).retag fun r hr2 => ?_
    show (if τ' r = _ then none else τ' r) = τ' r
    rw [if_neg (fresh r (by omega))]
  · refine (fo.ext x (Act.put_defers _ _ _)).retag fun r _ h1 => ?_
    show (if τ' r = _ then none else τ' r) = none
    split
    · rfl
    · exact h1
theorem exec_read {lo : Nat} {rest : List Nat} {k : List Item} {cs : List Frame} (M : Mem1 C P listed j ρ τ w w0.heap.size) (B : Base P ρ0 τ0 w0 (C.cA 0) (C.cA C.ch.length).size ρ τ w) (fo : FrameOk b a τ w lo) (L : C.Plan P) (R : C.Runs P F) (HF : FnsOk P F)
    (hc : Closed C.ops listed) (hr : Ready C listed i o) (hat : C.At p i o) (hi : i < listed.size) (hop : OpdRel ρ (C.cE p).eval a.eval o) (hw : Region.wanted o (yielded C.ops a.tmps) = true) (hk : kindOf P o = .read) {n : Nat} (hn : C.ch[p]? = some (i, n))
    (h : ∀ B ∈ (C.cV p).take ((C.cV p).length - n), aRead P (C.cE p).eval o B = some (C.cv p)) (hs : C.cA (p + 1) = C.cA p) : Chain C P b listed ρ0 τ0 w0 lo a ρ w i p o rest k cs := by
  have hlt := hat.lt
  have hj := M.at_le hr hat
  have hne : C.effAt P p = false := by rw [hat.eff]; simp [isEff, hk]
  obtain ⟨v1, v2⟩ := R.vers p (Nat.le_of_lt hlt)
  have v3 := v2 j hj M.edge
  have hmono := C.ec_mono P hj
  have hn2 : n ≤ C.ec P j := by
    rcases L.read p i n o hn hr.op hk with h0 | ⟨e, k2, o', h1, h2, h3, h4, h5⟩
    · omega
    · have hex : C.exP listed e := ⟨k2, o', h1, anc_ex hc i hr.op hr.preds h4⟩
      have heff := h1.eff (P := P)
      rw [h3] at heff
      have hej : e < j := by
        rcases Nat.lt_or_ge e j with h6 | h6
        · exact h6
        · rw [M.quiet e h6 hex] at heff; cases heff
      have h7 := C.ec_mono P (p := e + 1) (q := j) hej
      have h8 : C.ec P (e + 1) = C.ec P e + 1 := by
        show C.ec P e + (if C.effAt P e then 1 else 0) = _
        rw [if_pos heff]
      omega
  have hmem : C.cA j ∈ (C.cV p).take ((C.cV p).length - n) := by
    refine List.mem_of_getElem? (i := C.ec P p - C.ec P j) ?_
    rw [List.getElem?_take, if_pos (by omega)]
    exact v3
  obtain ⟨v', w', ρ', τ', r1, r2, x⟩ := (read_sound (o := o) (ρr := a.eval) M.sim (h _ hmem) hop).runs (b := b) (rest := rest) (k := k) (cs := cs) hr.op hw (by rw [hk]; decide)
  exact ⟨v', w', ρ', τ', j, r1, r2, x.le, (M.ext x).quiet' L hat hi hne hs, B.step x (R.size HF (Nat.zero_le _) M.jm) (R.size HF M.jm (Nat.le_refl _)), fo.ext x (Act.put_defers _ _ _)⟩
theorem exec_eff {lo : Nat} {rest : List Nat} {k : List Item} {cs : List Frame} (M : Mem1 C P listed j ρ τ w w0.heap.size) (B : Base P ρ0 τ0 w0 (C.cA 0) (C.cA C.ch.length).size ρ τ w) (fo : FrameOk b a τ w lo) (L : C.Plan P) (R : C.Runs P F) (HF : FnsOk P F)
    (hc : Closed C.ops listed) (hr : Ready C listed i o) (hat : C.At p i o) (hi : i < listed.size) (he : isEff P o = true)
    (hrun : ∀ {τ1 : Nat → Option Nat}, Sim P ρ τ1 (C.cA p) w → Free ρ (C.cA p) (C.cA (p + 1)) → ∃ v' w' ρ' τ', OpRuns P b C.ops a w i rest k cs v' w' ∧ VRel ρ' (C.cv p) v' ∧ Ext P ρ τ1 (C.cA p) w ρ' τ' (C.cA (p + 1)) w') : Chain C P b listed ρ0 τ0 w0 lo a ρ w i p o rest k cs := by
  have hlt := hat.lt
  have hj := M.at_le hr hat
  have heff : C.effAt P p = true := by rw [hat.eff]; exact he
  have hall : ∀ q, q < p → C.exP listed q := fun q hq => by
    obtain ⟨i2, a2, o2, _, _, h3, _⟩ := R.at (p := q) (by omega)
    exact ⟨i2, o2, h3, anc_ex hc i hr.op hr.preds (L.eff p i o hat he q i2 o2 h3 hq)⟩
  obtain ⟨τ1, S1, E1, T1⟩ := M.absorb R p hj (Nat.le_of_lt hlt) (fun q hq => .inl (hall q hq))
  have hfree : Free ρ (C.cA p) (C.cA (p + 1)) := fun b2 h1 h2 => by
    have hhi := R.size HF (p := p + 1) (q := C.ch.length) hlt (Nat.le_refl _)
    refine M.free_at R HF hj (Nat.le_of_lt hlt) b2 h1 (by omega) fun q ob hq hex hm => ?_
    rcases Nat.lt_or_ge p q with h | h
    · have := R.size HF (p := p + 1) (q := q) h (Nat.le_of_lt hm.lt); omega
    · obtain rfl : q = p := by omega
      have := hm.noeff
      rw [heff] at this; cases this
  obtain ⟨v', w', ρ', τ', r1, r2, x⟩ := hrun S1 hfree
  have B1 : Base P ρ0 τ0 w0 (C.cA 0) (C.cA C.ch.length).size ρ τ1 w := B.retag fun r hr2 => by
    rcases T1 r with h | ⟨h, _⟩
    · exact h
    · omega
  have fo1 : FrameOk b a τ1 w lo := fo.retag fun r h1 h2 => by
    rcases T1 r with h | ⟨_, _, h⟩
    · rw [h]; exact h2
    · exact absurd h1 h
  exact ⟨v', w', ρ', τ', p + 1, r1, r2, x.le, M.effect L R HF hat hi hj heff hall E1 x, B1.step x (R.size HF (Nat.zero_le _) (Nat.le_of_lt hlt)) (R.size HF hlt (Nat.le_refl _)), fo1.ext x (Act.put_defers _ _ _)⟩
theorem exec_chain {lo : Nat} {rest : List Nat} {k : List Item} {cs : List Frame} (M : Mem1 C P listed j ρ τ w w0.heap.size) (B : Base P ρ0 τ0 w0 (C.cA 0) (C.cA C.ch.length).size ρ τ w) (fo : FrameOk b a τ w lo) (T : Tmps C listed ρ a) (L : C.Plan P) (R : C.Runs P F) (HF : FnsOk P F)
    (hc : Closed C.ops listed) (hr : Ready C listed i o) (hat : C.At p i o) (hi : i < listed.size) : Chain C P b listed ρ0 τ0 w0 lo a ρ w i p o rest k cs := by
  obtain ⟨i', n, o', h1, h2, h3, hs⟩ := R.at hat.lt
  obtain ⟨rfl, rfl⟩ := hat.same h3
  have hag := T.agree L R hc hr hat
  have hop := opds_of M.sim (L.ok i o hr.op) hag
  have hwt := wanted_of hag
  rcases hs.did with ⟨hw, hd⟩ | ⟨hw, hv, hA⟩
  · rw [hwt] at hw
    cases hd with
    | pure hk h hA =>
      obtain ⟨v', q1, q2⟩ := pure_sound h hop w
      exact ⟨v', w, ρ, τ, j, run_value hr.op hw (by rw [hk]; decide) q1, q2, Ren.le_refl _, M.quiet' L hat hi (by rw [hat.eff]; simp [isEff, hk]) hA, B, fo.ext (.refl M.sim) (Act.put_defers _ _ _)⟩
    | read hk h hA => exact exec_read M B fo L R HF hc hr hat hi hop hw hk h1 h hA
    | make hk h => exact exec_make M B fo L R HF hr hat hi hop hw hk h
    | eff hk h => exact exec_eff M B fo L R HF hc hr hat hi hk fun S1 hfree => runOp_runs HF S1 hop h hfree hr.op hw fo.kind
  · rw [hwt] at hw
    cases he : isEff P o with
    | true =>
      refine exec_eff M B fo L R HF hc hr hat hi he fun {τ1} S1 hfree => ⟨undef, w, ρ, τ1, run_unwanted hr.op hw, by rw [hv]; exact .undef, ?_⟩
      rw [hA]; exact .refl S1
    | false => exact ⟨undef, w, ρ, τ, j, run_unwanted hr.op hw, by rw [hv]; exact .undef, Ren.le_refl _, M.quiet' L hat hi (by rw [hat.eff]; exact he) hA, B, fo.ext (.refl M.sim) (Act.put_defers _ _ _)⟩
end
end Go.Ag
namespace Go.Ag
namespace Tr
variable {α : Type}
theorem one_fuel (x : α) : ∀ (f g i : Nat), i < f → i < g → one x f i = one x g i := by
  intro f
  induction f with
  | zero => intro g i h; omega
  | succ f ih =>
    intro g i h h'
    cases g with
    | zero => omega
    | succ g =>
      cases i with
      | zero => rw [one_succ_zero, one_succ_zero]
      | succ n =>
        rw [one_succ_succ, one_succ_succ, ih g (n / 2) (by omega) (by omega)]
theorem set_empty (x : α) (k : Nat) : (nil : Tr α).set x k = (node nil none nil : Tr α).set x k := by
  cases k with
  | zero => rw [set_nil, set_node_zero, one_succ_zero]
  | succ n =>
    rw [set_nil, set_node_succ, one_succ_succ, set_nil, one_fuel x (n + 1) (n / 2 + 1) (n / 2) (by omega) (by omega)]
theorem set_comm (x y : α) : ∀ (i j : Nat), i ≠ j → ∀ t : Tr α, (t.set x i).set y j = (t.set y j).set x i := by
  intro i
  induction i using Nat.strongRecOn with
  | _ i ih =>
    intro j hne t
    have main : ∀ (l : Tr α) (v : Option α) (r : Tr α), ((node l v r).set x i).set y j = ((node l v r).set y j).set x i := by
      intro l v r
      cases i with
      | zero =>
        cases j with
        | zero => exact absurd rfl hne
        | succ m =>
          rw [set_node_zero, set_node_succ, set_node_succ]
          split <;> rw [set_node_zero]
      | succ n =>
        cases j with
        | zero =>
          rw [set_node_zero, set_node_succ, set_node_succ]
          split <;> rw [set_node_zero]
        | succ m =>
          rw [set_node_succ, set_node_succ]
          split
          · rename_i hn
            split
            · rename_i hm
              rw [set_node_succ, set_node_succ, if_pos hm, if_pos hn, ih (n / 2) (by omega) (m / 2) (by omega) l]
            · rename_i hm
              rw [set_node_succ, set_node_succ, if_neg hm, if_pos hn]
          · rename_i hn
            split
            · rename_i hm
              rw [set_node_succ, set_node_succ, if_pos hm, if_neg hn]
            · rename_i hm
              rw [set_node_succ, set_node_succ, if_neg hm, if_neg hn, ih (n / 2) (by omega) (m / 2) (by omega) r]
    cases t with
    | nil => rw [set_empty x i, set_empty y j]; exact main nil none nil
    | node l v r => exact main l v r
theorem set_set (x y : α) : ∀ (i : Nat) (t : Tr α), (t.set x i).set y i = t.set y i := by
  intro i
  induction i using Nat.strongRecOn with
  | _ i ih =>
    intro t
    have main : ∀ (l : Tr α) (v : Option α) (r : Tr α), ((node l v r).set x i).set y i = (node l v r).set y i := by
      intro l v r
      cases i with
      | zero => rw [set_node_zero, set_node_zero, set_node_zero]
      | succ n =>
        rw [set_node_succ, set_node_succ]
        split
        · rename_i hn; rw [set_node_succ, if_pos hn, ih (n / 2) (by omega) l]
        · rename_i hn; rw [set_node_succ, if_neg hn, ih (n / 2) (by omega) r]
    cases t with
    | nil => rw [set_empty x i, set_empty y i]; exact main nil none nil
    | node l v r => exact main l v r
end Tr
theorem put_comm (A : AState) {b c : Nat} (h : b ≠ c) (o o' : AObj) : (A.put b o).put c o' = (A.put c o').put b o := by
  unfold AState.put
  rw [Tr.set_comm _ _ _ _ h]
theorem put_put (A : AState) (b : Nat) (o o' : AObj) : (A.put b o).put b o' = A.put b o' := by
  unfold AState.put
  rw [Tr.set_set]
theorem writeL_set (v : Value) : ∀ (vs : List Value) (cs : Tr Value) (k off : Nat), (k < off ∨ off + vs.length ≤ k) → writeL (cs.set v k) off vs = (writeL cs off vs).set v k := by
  intro vs
  induction vs with
  | nil => intro cs k off _; rfl
  | cons x vs ih =>
    intro cs k off h
    simp only [List.length_cons] at h
    show writeL ((cs.set v k).set x off) (off + 1) vs = (writeL (cs.set x off) (off + 1) vs).set v k
    rw [Tr.set_comm _ _ k off (by omega), ih _ k (off + 1) (by omega)]
theorem writeL_comm : ∀ (vs vs' : List Value) (cs : Tr Value) (off off' : Nat), (off + vs.length ≤ off' ∨ off' + vs'.length ≤ off) → writeL (writeL cs off vs) off' vs' = writeL (writeL cs off' vs') off vs := by
  intro vs
  induction vs with
  | nil => intro vs' cs off off' _; rfl
  | cons x vs ih =>
    intro vs' cs off off' h
    simp only [List.length_cons] at h
    show writeL (writeL (cs.set x off) (off + 1) vs) off' vs' = writeL ((writeL cs off' vs').set x off) (off + 1) vs
    rw [ih vs' (cs.set x off) (off + 1) off' (by omega), writeL_set x vs' cs off off' (by omega)]
end Go.Ag
namespace Go.Ag
noncomputable def puts (A : AState) (l : List (Nat × AObj)) : AState := l.foldl (fun A kv => A.put kv.1 kv.2) A
theorem puts_cons (A : AState) (k : Nat) (o : AObj) (l : List (Nat × AObj)) : puts A ((k, o) :: l) = puts (A.put k o) l := rfl
theorem puts_get : ∀ (l : List (Nat × AObj)) (A : AState) (c : Nat), (∀ kv ∈ l, kv.1 ≠ c) → (puts A l).get c = A.get c := by
  intro l
  induction l with
  | nil => intro A c _; rfl
  | cons kv l ih =>
    intro A c h
    obtain ⟨k, o⟩ := kv
    rw [puts_cons, ih _ _ (fun kv hkv => h kv (by simp [hkv])), get_put, if_neg (h (k, o) (by simp))]
theorem puts_put : ∀ (l : List (Nat × AObj)) (A : AState) (k : Nat) (o : AObj), (∀ kv ∈ l, kv.1 ≠ k) → puts (A.put k o) l = (puts A l).put k o := by
  intro l
  induction l with
  | nil => intro A k o _; rfl
  | cons kv l ih =>
    intro A k o h
    obtain ⟨k2, o2⟩ := kv
    rw [puts_cons, puts_cons, put_comm A (Ne.symm (h (k2, o2) (by simp))), ih _ _ _ (fun kv hkv => h kv (by simp [hkv]))]
theorem puts_comm : ∀ (l l' : List (Nat × AObj)) (A : AState), (∀ kv ∈ l, ∀ kv' ∈ l', kv.1 ≠ kv'.1) → puts (puts A l) l' = puts (puts A l') l := by
  intro l
  induction l with
  | nil => intro l' A _; rfl
  | cons kv l ih =>
    intro l' A h
    obtain ⟨k, o⟩ := kv
    rw [puts_cons, puts_cons, ih l' _ (fun a ha => h a (by simp [ha])), puts_put l' A k o (fun kv' hkv' => Ne.symm (h (k, o) (by simp) kv' hkv'))]
theorem rootA_put (A : AState) (k c : Nat) (cs : Tr Value) (d : List Value) (n es root own top : Nat) : rootA (A.put k (.cells cs d n es root own top)) c = if k = c then some root else rootA A c := by
  unfold rootA
  rw [get_put]
  by_cases e : k = c
  · rw [if_pos e, if_pos e]
  · rw [if_neg e, if_neg e]
theorem write_local {A A1 : AState} {b off : Nat} {vs : List Value} (h : A.write b off vs = some A1) : ∃ r l, rootA A b = some r ∧ rootA A r = some r ∧ A1 = puts A l ∧ (∀ kv ∈ l, kv.1 = b ∨ kv.1 = r) ∧
    (∀ c, rootA A1 c = rootA A c) ∧ ∀ A2 : AState, A2.get b = A.get b → A2.get r = A.get r → A2.write b off vs = some (puts A2 l) := by
  unfold AState.write at h
  split at h
  case h_2 => cases h
  rename_i cs d n es root own top hg
  have hroot : rootA A b = some root := by unfold rootA; rw [hg]
  split at h
  case isFalse => cases h
  rename_i hc
  split at h
  · rename_i hrb
    have hrb := Nat.eq_of_beq_eq_true hrb
    subst hrb
    cases h
    refine ⟨root, [(root, .cells (writeL cs off vs) d n es root (if Nat.beq top root then own else root + 1) top)], hroot, hroot, rfl, fun kv hkv => ?_, fun c => ?_, fun A2 h1 _ => ?_⟩
    · simp only [List.mem_singleton] at hkv; subst hkv; exact .inl rfl
    · rw [rootA_put]
      split
      · rename_i e; subst e; exact hroot.symm
      · rfl
    · have hop : A2.isOpen root root own = A.isOpen root root own := by rw [isOpen_root, isOpen_root]
      unfold AState.write
      rw [h1, hg]
      simp only [hop]
      rw [if_pos hc, if_pos (by simp)]
      rfl
  · rename_i hrb
    have hrb : root ≠ b := fun e => hrb (by rw [e]; simp)
    split at h
    case h_2 => cases h
    rename_i rcs rd rn res rroot rown rtop hr
    split at h
    case isFalse => cases h
    rename_i hrr
    have hrr := Nat.eq_of_beq_eq_true hrr
    subst hrr
    cases h
    refine ⟨rroot, [(b, .cells (writeL cs off vs) d n es rroot own top), (rroot, .cells rcs rd rn res rroot (b + 1) rtop)], hroot, by unfold rootA; rw [hr], rfl, fun kv hkv => ?_, fun c => ?_, fun A2 h1 h2 => ?_⟩
    · simp only [List.mem_cons, List.not_mem_nil, or_false] at hkv
      rcases hkv with rfl | rfl
      · exact .inl rfl
      · exact .inr rfl
    · rw [rootA_put, rootA_put]
      split
      · rename_i e; subst e; unfold rootA; rw [hr]
      · split
        · rename_i e; subst e; exact hroot.symm
        · rfl
    · have hop : A2.isOpen b rroot own = A.isOpen b rroot own := by
        rw [isOpen_other _ _ hrb, isOpen_other _ _ hrb]
        unfold AState.ownOf; rw [h2]
      unfold AState.write
      rw [h1, hg]
      simp only [hop]
      rw [if_pos hc, if_neg (by simpa using hrb), h2, hr]
      simp only [Nat.beq_refl, if_true]
      rfl
theorem write_comm_far {A A1 A2 : AState} {b off b' off' r r' : Nat} {vs vs' : List Value} (hx : A.write b off vs = some A1) (hy : A1.write b' off' vs' = some A2) (hr : rootA A b = some r) (hr' : rootA A b' = some r') (hne : r ≠ r') :
    ∃ A1', A.write b' off' vs' = some A1' ∧ A1'.write b off vs = some A2 := by
  obtain ⟨r1, l, p1, p2, p3, p4, p5, p6⟩ := write_local hx
  obtain ⟨r2, l', q1, q2, q3, q4, q5, q6⟩ := write_local hy
  rw [hr] at p1; cases p1
  rw [p5, hr'] at q1; cases q1
  rw [p5] at q2
  have n1 : b' ≠ b := fun e => by subst e; rw [hr] at hr'; exact hne (Option.some.inj hr')
  have n2 : b' ≠ r := fun e => by subst e; rw [p2] at hr'; exact hne (Option.some.inj hr')
  have n3 : r' ≠ b := fun e => by subst e; rw [hr] at q2; exact hne (Option.some.inj q2)
  have off1 : ∀ kv ∈ l, kv.1 ≠ b' ∧ kv.1 ≠ r' := fun kv hkv => by
    rcases p4 kv hkv with h | h <;> rw [h]
    · exact ⟨Ne.symm n1, Ne.symm n3⟩
    · exact ⟨Ne.symm n2, hne⟩
  have off2 : ∀ kv ∈ l', kv.1 ≠ b ∧ kv.1 ≠ r := fun kv hkv => by
    rcases q4 kv hkv with h | h <;> rw [h]
    · exact ⟨n1, n2⟩
    · exact ⟨n3, Ne.symm hne⟩
  subst p3
  refine ⟨puts A l', q6 A (puts_get l A b' fun kv hkv => (off1 kv hkv).1).symm (puts_get l A r' fun kv hkv => (off1 kv hkv).2).symm, ?_⟩
  rw [p6 (puts A l') (puts_get l' A b fun kv hkv => (off2 kv hkv).1) (puts_get l' A r fun kv hkv => (off2 kv hkv).2), q3]
  rw [puts_comm l l' A fun kv hkv kv' hkv' => by
    rcases q4 kv' hkv' with h | h <;> rw [h]
    · exact (off1 kv hkv).1
    · exact (off1 kv hkv).2]
theorem write_own {A : AState} {b : Nat} {cs : Tr Value} {d : List Value} {n es own top : Nat} (hg : A.get b = some (.cells cs d n es b own top)) (off : Nat) (vs : List Value) :
    A.write b off vs = if Nat.ble (off + vs.length) n && (Nat.beq own 0 || Nat.beq own (b + 1)) then some (A.put b (.cells (writeL cs off vs) d n es b (if Nat.beq top b then own else b + 1) top)) else none := by
  unfold AState.write
  rw [hg]
  simp only [isOpen_root, Nat.beq_refl, if_true]
theorem write_member {A : AState} {b : Nat} {cs rcs : Tr Value} {d rd : List Value} {n es root own top rn res rown rtop : Nat} (hne : root ≠ b) (hg : A.get b = some (.cells cs d n es root own top)) (hr : A.get root = some (.cells rcs rd rn res root rown rtop)) (off : Nat) (vs : List Value) :
    A.write b off vs = if Nat.ble (off + vs.length) n && (Nat.beq rown 0 || Nat.beq rown (b + 1)) then some ((A.put b (.cells (writeL cs off vs) d n es root own top)).put root (.cells rcs rd rn res root (b + 1) rtop)) else none := by
  have hb : Nat.beq root b = false := by
    cases h : Nat.beq root b with
    | false => rfl
    | true => exact absurd (Nat.eq_of_beq_eq_true h) hne
  unfold AState.write
  rw [hg]
  simp only [isOpen_other _ _ hne, AState.ownOf, hr, hb, Nat.beq_refl, if_true, Bool.false_eq_true, if_false]
theorem write_comm_near {A A1 A2 : AState} {b off off' : Nat} {vs vs' : List Value} (hx : A.write b off vs = some A1) (hy : A1.write b off' vs' = some A2) (hd : off + vs.length ≤ off' ∨ off' + vs'.length ≤ off) :
    ∃ A1', A.write b off' vs' = some A1' ∧ A1'.write b off vs = some A2 := by
  obtain ⟨r, l, p1, p2, _⟩ := write_local hx
  have hg : ∃ cs d n es own top, A.get b = some (.cells cs d n es r own top) := by
    unfold rootA at p1
    split at p1
    · rename_i h; cases p1; exact ⟨_, _, _, _, _, _, h⟩
    · cases p1
  have hr : ∃ cs d n es own top, A.get r = some (.cells cs d n es r own top) := by
    unfold rootA at p2
    split at p2
    · rename_i h; cases p2; exact ⟨_, _, _, _, _, _, h⟩
    · cases p2
  obtain ⟨cs, d, n, es, own, top, hg⟩ := hg
  obtain ⟨rcs, rd, rn, res, rown, rtop, hr⟩ := hr
  by_cases hrb : r = b
  · subst hrb
    rw [write_own hg] at hx
    by_cases hc : (Nat.ble (off + vs.length) n && (Nat.beq own 0 || Nat.beq own (r + 1))) = true
    case neg => rw [if_neg hc] at hx; cases hx
    rw [if_pos hc] at hx
    have hx := Option.some.inj hx
    have hg1 : A1.get r = some (.cells (writeL cs off vs) d n es r (if Nat.beq top r then own else r + 1) top) := by rw [← hx, get_put, if_pos rfl]
    rw [write_own hg1] at hy
    by_cases hc2 : (Nat.ble (off' + vs'.length) n && (Nat.beq (if Nat.beq top r then own else r + 1) 0 || Nat.beq (if Nat.beq top r then own else r + 1) (r + 1))) = true
    case neg => rw [if_neg hc2] at hy; cases hy
    rw [if_pos hc2] at hy
    have hy := Option.some.inj hy
    simp only [Bool.and_eq_true] at hc hc2
    have e1 : A.write r off' vs' = some (A.put r (.cells (writeL cs off' vs') d n es r (if Nat.beq top r then own else r + 1) top)) := by
      rw [write_own hg, if_pos (by simp only [Bool.and_eq_true]; exact ⟨hc2.1, hc.2⟩)]
    refine ⟨_, e1, ?_⟩
    rw [write_own (by rw [get_put, if_pos rfl])]
    rw [if_pos (by simp only [Bool.and_eq_true]; exact ⟨hc.1, hc2.2⟩), ← hy, ← hx, put_put, put_put, writeL_comm vs vs' cs off off' hd]
  · rw [write_member hrb hg hr] at hx
    by_cases hc : (Nat.ble (off + vs.length) n && (Nat.beq rown 0 || Nat.beq rown (b + 1))) = true
    case neg => rw [if_neg hc] at hx; cases hx
    rw [if_pos hc] at hx
    have hx := Option.some.inj hx
    have hg1 : A1.get b = some (.cells (writeL cs off vs) d n es r own top) := by rw [← hx, get_put, if_neg hrb, get_put, if_pos rfl]
    have hr1 : A1.get r = some (.cells rcs rd rn res r (b + 1) rtop) := by rw [← hx, get_put, if_pos rfl]
    rw [write_member hrb hg1 hr1] at hy
    by_cases hc2 : (Nat.ble (off' + vs'.length) n && (Nat.beq (b + 1) 0 || Nat.beq (b + 1) (b + 1))) = true
    case neg => rw [if_neg hc2] at hy; cases hy
    rw [if_pos hc2] at hy
    have hy := Option.some.inj hy
    simp only [Bool.and_eq_true] at hc hc2
    have e1 : A.write b off' vs' = some ((A.put b (.cells (writeL cs off' vs') d n es r own top)).put r (.cells rcs rd rn res r (b + 1) rtop)) := by
      rw [write_member hrb hg hr, if_pos (by simp only [Bool.and_eq_true]; exact ⟨hc2.1, hc.2⟩)]
    refine ⟨_, e1, ?_⟩
    rw [write_member hrb (cs := writeL cs off' vs') (d := d) (n := n) (es := es) (own := own) (top := top) (by rw [get_put, if_neg hrb, get_put, if_pos rfl]) (by rw [get_put, if_pos rfl])]
    rw [if_pos (by simp only [Bool.and_eq_true]; exact ⟨hc.1, hc2.2⟩), ← hy, ← hx]
    have e : ∀ (X Y : AObj) (Z : AObj), (((A.put b X).put r Z).put b Y).put r Z = (A.put b Y).put r Z := fun X Y Z => by
      rw [put_comm (A.put b X) hrb, put_put, put_put]
    rw [e, e, writeL_comm vs vs' cs off off' hd]
end Go.Ag
namespace Go.Ag
noncomputable def runW (P : Program) (ops : List Oper) (E : Env) : List Nat → AState → Option AState
  | [], A => some A
  | i :: is, A => (stW P ops E i A).bind fun A' => runW P ops E is A'
section
variable {P : Program} {ops : List Oper} {E : Env} {A A1 A2 : AState}
theorem runW_append (is js : List Nat) : ∀ A, runW P ops E (is ++ js) A = (runW P ops E is A).bind fun A' => runW P ops E js A' := by
  induction is with
  | nil => intro A; rfl
  | cons i is ih =>
    intro A
    show (stW P ops E i A).bind _ = ((stW P ops E i A).bind _).bind _
    cases stW P ops E i A with
    | none => rfl
    | some A' => exact ih A'
theorem stW_size {i : Nat} (h : stW P ops E i A = some A1) : A1.size = A.size := by
  unfold stW at h
  simp only [Option.bind_eq_some_iff] at h
  obtain ⟨o, _, h⟩ := h
  split at h
  · exact astore_size h
  · cases h
theorem runW_size : ∀ {is : List Nat} {A A1 : AState}, runW P ops E is A = some A1 → A1.size = A.size := by
  intro is
  induction is with
  | nil => intro A A1 h; cases h; rfl
  | cons i is ih =>
    intro A A1 h
    unfold runW at h
    simp only [Option.bind_eq_some_iff] at h
    obtain ⟨A2, h1, h2⟩ := h
    rw [ih h2, stW_size h1]
theorem stW_spot {A0 : AState} {i : Nat} {o : Oper} {s : Spot} (ho : ops[i]? = some o) (hs : spotOf P A0 E.eval o = some s) (h : stW P ops E i A = some A1) :
    ∃ vs : List Value, vs.length = s.n ∧ rootA A0 s.b = some s.root ∧ ∀ B, stW P ops E i B = B.write s.b s.off vs := by
  unfold spotOf at hs
  split at hs
  case h_2 => cases hs
  rename_i t p x heq
  split at hs
  case h_2 => cases hs
  rename_i b off hp
  simp only [Option.bind_eq_some_iff, Option.map_eq_some_iff] at hs
  obtain ⟨inf, hi, r, hr, rfl⟩ := hs
  have hst : ∀ B, stW P ops E i B = astore P B t (E.eval p) (E.eval x) := fun B => by
    unfold stW
    rw [ho]
    simp only [Option.bind_some, heq]
  have hc : (Nat.beq (E.eval x).cells.size inf.size && (E.eval x).cells.toList.all oneCell) = true := by
    rw [hst, hp] at h
    unfold astore at h
    simp only [hi, Option.bind_some] at h
    split at h
    · assumption
    · cases h
  refine ⟨(E.eval x).cells.toList, ?_, hr, fun B => ?_⟩
  · simp only [Bool.and_eq_true] at hc
    simpa using Nat.eq_of_beq_eq_true hc.1
  · rw [hst, hp]
    unfold astore
    simp only [hi, Option.bind_some]
    rw [if_pos hc]
def SpotOf (P : Program) (ops : List Oper) (E : Env) (A0 : AState) (i : Nat) (s : Spot) : Prop := ∃ o, ops[i]? = some o ∧ spotOf P A0 E.eval o = some s
theorem stW_swap {A0 : AState} {i j : Nat} {si sj : Spot} (hi : SpotOf P ops E A0 i si) (hj : SpotOf P ops E A0 j sj) (ha : apart si sj = true) (hroot : ∀ c, rootA A c = rootA A0 c)
    (h1 : stW P ops E i A = some A1) (h2 : stW P ops E j A1 = some A2) : ∃ A1', stW P ops E j A = some A1' ∧ stW P ops E i A1' = some A2 := by
  obtain ⟨oi, hi1, hi2⟩ := hi
  obtain ⟨oj, hj1, hj2⟩ := hj
  obtain ⟨vi, li, ri, wi⟩ := stW_spot hi1 hi2 h1
  obtain ⟨vj, lj, rj, wj⟩ := stW_spot hj1 hj2 h2
  rw [wi] at h1
  rw [wj] at h2
  simp only [wi, wj]
  unfold apart at ha
  split at ha
  · rename_i hb
    have hb := Nat.eq_of_beq_eq_true hb
    rw [← hb] at h2 ⊢
    simp only [Bool.or_eq_true, Nat.ble_eq] at ha
    exact write_comm_near h1 h2 (by omega)
  · have hne : si.root ≠ sj.root := fun e => by rw [e] at ha; simp at ha
    exact write_comm_far h1 h2 (by rw [hroot]; exact ri) (by rw [hroot]; exact rj) hne
theorem stW_root {i : Nat} {A0 : AState} {s : Spot} (hi : SpotOf P ops E A0 i s) (h : stW P ops E i A = some A1) (c : Nat) : rootA A1 c = rootA A c := by
  obtain ⟨o, h1, h2⟩ := hi
  obtain ⟨v, _, _, w⟩ := stW_spot h1 h2 h
  rw [w] at h
  obtain ⟨_, _, _, _, _, _, h5, _⟩ := write_local h
  exact h5 c
theorem apart_symm {s t : Spot} (h : apart s t = true) : apart t s = true := by
  unfold apart at h ⊢
  split at h
  · rename_i hb
    have hb := Nat.eq_of_beq_eq_true hb
    rw [if_pos (by rw [hb]; simp)]
    rw [Bool.or_comm]; exact h
  · rename_i hb
    rw [if_neg (fun e => hb (by rw [Nat.eq_of_beq_eq_true e]; simp))]
    simp only [Bool.not_eq_true', Bool.eq_false_iff] at h ⊢
    exact fun e => h (by rw [Nat.eq_of_beq_eq_true e]; simp)
def Far (P : Program) (ops : List Oper) (E : Env) (A0 : AState) (i j : Nat) : Prop := ∃ si sj, SpotOf P ops E A0 i si ∧ SpotOf P ops E A0 j sj ∧ apart si sj = true
theorem Far.symm {A0 : AState} {i j : Nat} (h : Far P ops E A0 i j) : Far P ops E A0 j i := by
  obtain ⟨si, sj, h1, h2, h3⟩ := h
  exact ⟨sj, si, h2, h1, apart_symm h3⟩
theorem runW_perm {A0 : AState} {l l' : List Nat} (hp : l.Perm l') : ∀ {A A' : AState}, (∀ i ∈ l, ∃ s, SpotOf P ops E A0 i s) → l.Pairwise (Far P ops E A0) → (∀ c, rootA A c = rootA A0 c) → runW P ops E l A = some A' → runW P ops E l' A = some A' := by
  induction hp with
  | nil => intro A A' _ _ _ h; exact h
  | cons x _ ih =>
    intro A A' hs hf hr h
    unfold runW at h ⊢
    simp only [Option.bind_eq_some_iff] at h ⊢
    obtain ⟨A1, h1, h2⟩ := h
    obtain ⟨s, hsx⟩ := hs x (by simp)
    exact ⟨A1, h1, ih (fun i hi => hs i (by simp [hi])) (List.pairwise_cons.1 hf).2 (fun c => by rw [stW_root hsx h1, hr]) h2⟩
  | swap x y l =>
    intro A A' hs hf hr h
    unfold runW at h
    simp only [Option.bind_eq_some_iff] at h
    obtain ⟨A1, h1, h2⟩ := h
    unfold runW at h2
    simp only [Option.bind_eq_some_iff] at h2
    obtain ⟨A2, h2, h3⟩ := h2
    obtain ⟨sy, sx, q1, q2, q3⟩ := (List.pairwise_cons.1 hf).1 x (by simp)
    obtain ⟨A1', r1, r2⟩ := stW_swap q1 q2 q3 hr h1 h2
    unfold runW
    simp only [Option.bind_eq_some_iff]
    refine ⟨A1', r1, ?_⟩
    unfold runW
    simp only [Option.bind_eq_some_iff]
    exact ⟨A2, r2, h3⟩
  | trans h1 h2 ih1 ih2 =>
    intro A A' hs hf hr h
    refine ih2 (fun i hi => hs i (h1.mem_iff.2 hi)) ?_ hr (ih1 hs hf hr h)
    exact (h1.pairwise_iff (fun {a b} h => Far.symm h)).1 hf
theorem runLast_runW {A0 : AState} : ∀ {l : List Nat} {spots : List Spot} {A A' : AState}, runLast P ops E A0 l spots A = some A' →
    runW P ops E l A = some A' ∧ (∀ i ∈ l, ∃ o s, ops[i]? = some o ∧ wantedA ops E o = true ∧ spotOf P A0 E.eval o = some s ∧ ∀ t ∈ spots, apart s t = true) ∧ l.Pairwise (Far P ops E A0) := by
  intro l
  induction l with
  | nil => intro spots A A' h; cases h; exact ⟨rfl, fun i hi => (by cases hi), List.Pairwise.nil⟩
  | cons i l ih =>
    intro spots A A' h
    unfold runLast at h
    simp only [Option.bind_eq_some_iff] at h
    obtain ⟨o, ho, h⟩ := h
    split at h
    case isFalse => cases h
    rename_i hw
    simp only [Option.bind_eq_some_iff] at h
    obtain ⟨s, hs, h⟩ := h
    split at h
    case isFalse => cases h
    rename_i ha
    simp only [Option.bind_eq_some_iff] at h
    obtain ⟨A1, h1, h2⟩ := h
    obtain ⟨r1, r2, r3⟩ := ih h2
    refine ⟨?_, fun k hk => ?_, List.pairwise_cons.2 ⟨fun k hk => ?_, r3⟩⟩
    · unfold runW
      simp only [Option.bind_eq_some_iff]
      exact ⟨A1, h1, r1⟩
    · rcases List.mem_cons.1 hk with rfl | hk
      · exact ⟨o, s, ho, hw, hs, fun t ht => List.all_eq_true.1 ha t ht⟩
      · obtain ⟨o', s', q1, q2, q3, q4⟩ := r2 k hk
        exact ⟨o', s', q1, q2, q3, fun t ht => q4 t (by simp [ht])⟩
    · obtain ⟨o', s', q1, q2, q3, q4⟩ := r2 k hk
      exact ⟨s, s', ⟨o, ho, hs⟩, ⟨o', q1, q3⟩, apart_symm (q4 s (by simp))⟩
end
end Go.Ag
namespace Go.Ag
structure Mem2 (C : Canon) (P : Program) (listed : Array Bool) (Lx : List Nat) (A : AState) (ρ : Ren) (τ : Nat → Option Nat) (w : World) : Prop where
  full : ∀ p i o, C.At p i o → kindOf P o ≠ .pure → ex listed i
  lx : ∀ i ∈ C.last, ex listed i ↔ i ∈ Lx
  sub : ∀ i ∈ Lx, i ∈ C.last
  nodup : Lx.Nodup
  run : runW P C.ops.toList (C.cE C.ch.length) Lx (C.cA C.ch.length) = some A
  sim : Sim P ρ τ A w
section
variable {P : Program} {F : Fns} {C : Canon} {listed : Array Bool} {ρ0 ρ ρ' : Ren} {τ0 τ : Nat → Option Nat} {w0 w : World} {a : Act} {j p i : Nat} {o : Oper} {b : Frame} {lo : Nat}
theorem pure_same (R : C.Runs P F) (hat : C.At p i o) (hk : kindOf P o = .pure) : C.cA (p + 1) = C.cA p := by
  obtain ⟨i', n, o', h1, h2, h3, hs⟩ := R.at hat.lt
  obtain ⟨rfl, rfl⟩ := hat.same h3
  rcases hs.did with ⟨_, hd⟩ | ⟨_, _, hA⟩
  · cases hd with
    | pure _ _ hA => exact hA
    | read _ _ hA => exact hA
    | make hk2 _ => rw [hk] at hk2; cases hk2
    | eff hk2 _ => simp [isEff, hk] at hk2
  · exact hA
theorem Mem1.turn (M : Mem1 C P listed j ρ τ w w0.heap.size) (B : Base P ρ0 τ0 w0 (C.cA 0) (C.cA C.ch.length).size ρ τ w) {a : Act} (fo : FrameOk b a τ w lo) (R : C.Runs P F)
    (full : ∀ p i o, C.At p i o → kindOf P o ≠ .pure → ex listed i) (hno : ∀ i ∈ C.last, ¬ ex listed i) :
    ∃ τ1, Mem2 C P listed [] (C.cA C.ch.length) ρ τ1 w ∧ Base P ρ0 τ0 w0 (C.cA 0) (C.cA C.ch.length).size ρ τ1 w ∧ FrameOk b a τ1 w lo := by
  obtain ⟨τ1, S1, _, T1⟩ := M.absorb R C.ch.length M.jm (Nat.le_refl _) (fun q hq => by
    obtain ⟨i2, a2, o2, _, _, h3, _⟩ := R.at (p := q) hq
    by_cases hk : kindOf P o2 = .pure
    · exact .inr (pure_same R h3 hk)
    · exact .inl ⟨i2, o2, h3, full q i2 o2 h3 hk⟩)
  refine ⟨τ1, ⟨full, fun i hi => ⟨fun h => absurd h (hno i hi), fun h => by cases h⟩, fun i hi => (by cases hi), List.nodup_nil, rfl, S1⟩, B.retag fun r hr2 => ?_, fo.retag fun r h1 h2 => ?_⟩
  · rcases T1 r with h | ⟨h, _⟩
    · exact h
    · omega
  · rcases T1 r with h | ⟨_, _, h⟩
    · rw [h]; exact h2
    · exact absurd h1 h
structure Lasts (C : Canon) (P : Program) (A' : AState) : Prop where
  run : runW P C.ops.toList (C.cE C.ch.length) C.last (C.cA C.ch.length) = some A'
  each : ∀ i ∈ C.last, ∃ o s, C.ops[i]? = some o ∧ wantedA C.ops.toList (C.cE C.ch.length) o = true ∧ spotOf P (C.cA C.ch.length) (C.cE C.ch.length).eval o = some s
  far : C.last.Pairwise (Far P C.ops.toList (C.cE C.ch.length) (C.cA C.ch.length))
theorem Tmps.last (T : Tmps C listed ρ a) (L : C.Plan P) (hl : i ∈ C.last) (hi : i < listed.size) (hle : ρ.le ρ') : Tmps C (listed.setIfInBounds i true) ρ' a := by
  have old : ∀ q k o2, C.At q k o2 → (ex (listed.setIfInBounds i true) k ↔ ex listed k) := fun q k o2 hat2 => by
    rw [ex_set hi]
    constructor
    · rintro (rfl | h)
      · exact absurd hat2 (L.disj k hl q o2)
      · exact h
    · exact .inr
  exact ⟨T.size, fun q k o2 t hat2 hex hd2 => (T.put q k o2 t hat2 ((old q k o2 hat2).1 hex) hd2).mono hle, fun t hno => (T.old t fun q k o2 hat2 hex => hno q k o2 hat2 ((old q k o2 hat2).2 hex)).mono hle⟩
theorem exec_last {A A' : AState} {Lx rest : List Nat} {k : List Item} {cs : List Frame} (M : Mem2 C P listed Lx A ρ τ w) (B : Base P ρ0 τ0 w0 (C.cA 0) (C.cA C.ch.length).size ρ τ w) (fo : FrameOk b a τ w lo) (T : Tmps C listed ρ a) (L : C.Plan P) (R : C.Runs P F) (X : Lasts C P A') (HF : FnsOk P F)
    (hc : Closed C.ops listed) (hr : Ready C listed i o) (hl : i ∈ C.last) (hi : i < listed.size) :
    ∃ v' w' ρ' τ' A2, OpRuns P b C.ops a w i rest k cs v' w' ∧ a.put o.dst v' = a ∧ ρ.le ρ' ∧ Mem2 C P (listed.setIfInBounds i true) (Lx ++ [i]) A2 ρ' τ' w' ∧ Base P ρ0 τ0 w0 (C.cA 0) (C.cA C.ch.length).size ρ' τ' w' ∧ FrameOk b a τ' w' lo := by
  obtain ⟨o1, ho1, hst, hdst, hall, hlk⟩ := L.last i hl
  obtain rfl : o = o1 := Option.some.inj (hr.op.symm.trans ho1)
  have hag := T.agree_last R hc hr hlk
  have hop := opds_of M.sim (L.ok i o hr.op) hag
  obtain ⟨o2, s, ho2, hw, hs⟩ := X.each i hl
  obtain rfl : o = o2 := Option.some.inj (hr.op.symm.trans ho2)
  rw [wanted_of hag] at hw
  have hnx : i ∉ Lx := fun h => hr.new ((M.lx i hl).2 h)
  have hperm : C.last.Perm (Lx ++ i :: C.last.filter fun q => decide (q ∉ Lx ∧ q ≠ i)) := by
    refine (List.perm_ext_iff_of_nodup L.nodup ?_).2 fun q => ?_
    · refine List.nodup_append.2 ⟨M.nodup, List.nodup_cons.2 ⟨by simp, L.nodup.filter _⟩, ?_⟩
      intro x hx y hy hxy
      subst hxy
      rcases List.mem_cons.1 hy with rfl | hy
      · exact hnx hx
      · simp only [List.mem_filter, decide_eq_true_eq] at hy
        exact hy.2.1 hx
    · simp only [List.mem_append, List.mem_cons, List.mem_filter, decide_eq_true_eq]
      constructor
      · intro hq
        by_cases h1 : q ∈ Lx
        · exact .inl h1
        · by_cases h2 : q = i
          · exact .inr (.inl h2)
          · exact .inr (.inr ⟨hq, h1, h2⟩)
      · rintro (h | h | h)
        · exact M.sub q h
        · exact h ▸ hl
        · exact h.1
  have hrun := runW_perm hperm (fun q hq => by obtain ⟨oq, sq, q1, _, q3⟩ := X.each q hq; exact ⟨sq, oq, by rw [Array.getElem?_toList]; exact q1, q3⟩) X.far (fun c => rfl) X.run
  rw [runW_append, M.run, Option.bind_some] at hrun
  have hstep : ∃ A2, stW P C.ops.toList (C.cE C.ch.length) i A = some A2 := by
    unfold runW at hrun
    simp only [Option.bind_eq_some_iff] at hrun
    obtain ⟨A2, h1, _⟩ := hrun
    exact ⟨A2, h1⟩
  obtain ⟨A2, h2⟩ := hstep
  have hsz := stW_size h2
  have hAm := runW_size M.run
  have hwr : aWrite P (C.cE C.ch.length).eval o A = some (undef, A2) := by
    unfold stW at h2
    rw [Array.getElem?_toList, hr.op] at h2
    simp only [Option.bind_some] at h2
    split at h2
    · rename_i t pp xx heq
      unfold aWrite
      rw [heq]
      simp only [h2, Option.map_some]
    · cases h2
  have hk : kindOf P o ≠ .no := by
    intro hk
    unfold isStore at hst
    split at hst
    · rename_i heq
      unfold kindOf at hk
      rw [heq] at hk
      cases hk
    · cases hst
  obtain ⟨v', w', ρ', τ', r1, r2, x⟩ := (write_sound (o := o) (ρr := a.eval) M.sim hwr hop (fun b2 h3 h4 => by omega)).runs (b := b) (rest := rest) (k := k) (cs := cs) hr.op hw hk
  have hput : a.put o.dst v' = a := by rw [hdst]; rfl
  refine ⟨v', w', ρ', τ', A2, r1, hput, x.le, ⟨fun p q o3 hat hkk => (ex_set hi).2 (.inr (M.full p q o3 hat hkk)), fun q hq => ?_, fun q hq => ?_, ?_, ?_, x.sim⟩,
    B.step x (by rw [hAm]; exact R.size HF (Nat.zero_le _) (Nat.le_refl _)) (by omega), by have := fo.ext x (Act.put_defers a o.dst v'); rw [hput] at this; exact this⟩
  · rw [ex_set hi, M.lx q hq]
    simp only [List.mem_append, List.mem_singleton]
    exact Or.comm
  · rcases List.mem_append.1 hq with h | h
    · exact M.sub q h
    · rw [List.mem_singleton.1 h]; exact hl
  · refine List.nodup_append.2 ⟨M.nodup, by simp, ?_⟩
    intro x1 hx y hy hxy
    rw [List.mem_singleton.1 hy] at hxy
    exact hnx (hxy ▸ hx)
  · rw [runW_append, M.run, Option.bind_some]
    unfold runW
    rw [h2, Option.bind_some]
    rfl
theorem exec_late {A : AState} {Lx rest : List Nat} {k : List Item} {cs : List Frame} (M : Mem2 C P listed Lx A ρ τ w) (fo : FrameOk b a τ w lo) (T : Tmps C listed ρ a) (L : C.Plan P) (R : C.Runs P F)
    (hc : Closed C.ops listed) (hr : Ready C listed i o) (hat : C.At p i o) (hi : i < listed.size) :
    ∃ v', OpRuns P b C.ops a w i rest k cs v' w ∧ VRel ρ (C.cv p) v' ∧ Mem2 C P (listed.setIfInBounds i true) Lx A ρ τ w ∧ FrameOk b (a.put o.dst v') τ w lo := by
  have hk : kindOf P o = .pure := Decidable.byContradiction fun h => hr.new (M.full p i o hat h)
  obtain ⟨i', n, o', h1, h2, h3, hs⟩ := R.at hat.lt
  obtain ⟨rfl, rfl⟩ := hat.same h3
  have hag := T.agree L R hc hr hat
  have hop := opds_of M.sim (L.ok i o hr.op) hag
  have hwt := wanted_of hag
  have M' : Mem2 C P (listed.setIfInBounds i true) Lx A ρ τ w := ⟨fun q q2 o3 hat3 hkk => (ex_set hi).2 (.inr (M.full q q2 o3 hat3 hkk)), fun q hq => by
    rw [ex_set hi, M.lx q hq]
    constructor
    · rintro (rfl | h)
      · exact absurd hat (L.disj q hq p o)
      · exact h
    · exact .inr, M.sub, M.nodup, M.run, M.sim⟩
  rcases hs.did with ⟨hw, hd⟩ | ⟨hw, hv, hA⟩
  · rw [hwt] at hw
    cases hd with
    | pure _ h hA =>
      obtain ⟨v', q1, q2⟩ := pure_sound h hop w
      exact ⟨v', run_value hr.op hw (by rw [hk]; decide) q1, q2, M', fo.ext (.refl M.sim) (Act.put_defers _ _ _)⟩
    | read hk2 _ _ => rw [hk] at hk2; cases hk2
    | make hk2 _ => rw [hk] at hk2; cases hk2
    | eff hk2 _ => simp [isEff, hk] at hk2
  · rw [hwt] at hw
    exact ⟨undef, run_unwanted hr.op hw, by rw [hv]; exact .undef, M', fo.ext (.refl M.sim) (Act.put_defers _ _ _)⟩
end
end Go.Ag
namespace Go.Ag
structure Inv (C : Canon) (P : Program) (A' : AState) (ρ0 : Ren) (τ0 : Nat → Option Nat) (w0 : World) (lo : Nat) (b : Frame) (listed : Array Bool) (a : Act) (ρ : Ren) (τ : Nat → Option Nat) (w : World) : Prop where
  size : listed.size = C.ops.size
  closed : Closed C.ops listed
  tmps : Tmps C listed ρ a
  base : Base P ρ0 τ0 w0 (C.cA 0) (C.cA C.ch.length).size ρ τ w
  fo : FrameOk b a τ w lo
  mem : ((∃ j, Mem1 C P listed j ρ τ w w0.heap.size) ∧ ∀ i ∈ C.last, ¬ ex listed i) ∨ ∃ Lx A, Mem2 C P listed Lx A ρ τ w
section
variable {P : Program} {F : Fns} {C : Canon} {A' : AState} {ρ0 ρ : Ren} {τ0 τ : Nat → Option Nat} {w0 w : World} {lo i : Nat} {b : Frame} {listed : Array Bool} {a : Act} {o : Oper}
theorem Inv.step (I : Inv C P A' ρ0 τ0 w0 lo b listed a ρ τ w) (L : C.Plan P) (R : C.Runs P F) (X : Lasts C P A') (HF : FnsOk P F) (hr : Ready C listed i o) (rest : List Nat) (k : List Item) (cs : List Frame) :
    ∃ a' w' ρ' τ', Steps P (lone (b.atR a (.inRegion C.ops (i :: rest) :: k)) cs w) (lone (b.atR a' (.inRegion C.ops rest :: k)) cs w') ∧ Inv C P A' ρ0 τ0 w0 lo b (listed.setIfInBounds i true) a' ρ' τ' w' := by
  have hlt : i < C.ops.size := (Array.getElem?_eq_some_iff.1 hr.op).1
  have hi : i < listed.size := by rw [I.size]; exact hlt
  have hsz : (listed.setIfInBounds i true).size = C.ops.size := by simp [I.size]
  have hcl := I.closed.step hr hi
  have opr : ∀ {v' : Value} {w' : World}, OpRuns P b C.ops a w i rest k cs v' w' → Steps P (lone (b.atR a (.inRegion C.ops (i :: rest) :: k)) cs w) (lone (b.atR (a.put o.dst v') (.inRegion C.ops rest :: k)) cs w') := fun h => by
    unfold OpRuns at h
    rw [hr.op] at h
    exact h
  rcases L.cover i hlt with ⟨p, o', hat⟩ | hl
  · have : o' = o := Option.some.inj (hat.2.symm.trans hr.op)
    subst this
    rcases I.mem with ⟨⟨j, M⟩, hno⟩ | ⟨Lx, A, M⟩
    · obtain ⟨v', w', ρ', τ', j', r1, r2, r3, r4, r5, r6⟩ := exec_chain (rest := rest) (k := k) (cs := cs) M I.base I.fo I.tmps L R HF I.closed hr hat hi
      refine ⟨_, w', ρ', τ', opr r1, hsz, hcl, I.tmps.step L R r3 hr hat hi r2, r5, r6, .inl ⟨⟨j', r4⟩, fun q hq hex => ?_⟩⟩
      rcases (ex_set hi).1 hex with rfl | hex
      · exact L.disj q hq p _ hat
      · exact hno q hq hex
    · obtain ⟨v', r1, r2, r3, r4⟩ := exec_late (rest := rest) (k := k) (cs := cs) M I.fo I.tmps L R I.closed hr hat hi
      exact ⟨_, w, ρ, τ, opr r1, hsz, hcl, I.tmps.step L R (Ren.le_refl _) hr hat hi r2, I.base, r4, .inr ⟨Lx, A, r3⟩⟩
  · have go : ∀ {τ1 : Nat → Option Nat} {Lx : List Nat} {A : AState}, Mem2 C P listed Lx A ρ τ1 w → Base P ρ0 τ0 w0 (C.cA 0) (C.cA C.ch.length).size ρ τ1 w → FrameOk b a τ1 w lo →
        ∃ a' w' ρ' τ', Steps P (lone (b.atR a (.inRegion C.ops (i :: rest) :: k)) cs w) (lone (b.atR a' (.inRegion C.ops rest :: k)) cs w') ∧ Inv C P A' ρ0 τ0 w0 lo b (listed.setIfInBounds i true) a' ρ' τ' w' := by
      intro τ1 Lx A M B fo
      obtain ⟨v', w', ρ', τ', A2, r1, r2, r3, r4, r5, r6⟩ := exec_last (rest := rest) (k := k) (cs := cs) M B fo I.tmps L R X HF I.closed hr hl hi
      have := opr r1
      rw [r2] at this
      exact ⟨a, w', ρ', τ', this, hsz, hcl, I.tmps.last L hl hi r3, r5, r6, .inr ⟨_, A2, r4⟩⟩
    rcases I.mem with ⟨⟨j, M⟩, hno⟩ | ⟨Lx, A, M⟩
    · obtain ⟨τ1, M2, B2, f2⟩ := M.turn I.base I.fo R (fun p q o3 hat hk => by
        obtain ⟨o1, ho1, _, _, hall, _⟩ := L.last i hl
        exact anc_ex I.closed i hr.op hr.preds (hall p q o3 hat hk)) hno
      exact go M2 B2 f2
    · exact go M I.base I.fo
theorem Inv.final (I : Inv C P A' ρ0 τ0 w0 lo b listed a ρ τ w) (L : C.Plan P) (R : C.Runs P F) (X : Lasts C P A') (hall : ∀ i, i < C.ops.size → ex listed i) :
    ∃ τ1, Sim P ρ τ1 A' w ∧ Base P ρ0 τ0 w0 (C.cA 0) (C.cA C.ch.length).size ρ τ1 w ∧ FrameOk b a τ1 w lo ∧ ERel ρ (C.cE C.ch.length) a.tmps := by
  have hin : ∀ i ∈ C.last, i < C.ops.size := fun i hi => by
    obtain ⟨o, ho, _⟩ := L.last i hi
    exact (Array.getElem?_eq_some_iff.1 ho).1
  have atlt : ∀ p i o, C.At p i o → i < C.ops.size := fun p i o h => (Array.getElem?_eq_some_iff.1 h.2).1
  have hE : ERel ρ (C.cE C.ch.length) a.tmps := by
    refine ⟨by rw [R.n _ (Nat.le_refl _)]; exact I.tmps.size, fun t => ?_⟩
    rcases R.env t C.ch.length (Nat.le_refl _) with ⟨q, j, o', hq, hat', hd, hv⟩ | ⟨hno, hv⟩
    · rw [hv]; exact I.tmps.put q j o' t hat' (hall j (atlt _ _ _ hat')) hd
    · rw [hv]; exact I.tmps.old t fun q j o' hat' _ hd => hno q j o' hat'.lt hat' hd
  have go : ∀ {τ1 : Nat → Option Nat} {Lx : List Nat} {A : AState}, Mem2 C P listed Lx A ρ τ1 w → Sim P ρ τ1 A' w := by
    intro τ1 Lx A M
    have hperm : C.last.Perm Lx := (List.perm_ext_iff_of_nodup L.nodup M.nodup).2 fun q => ⟨fun h => (M.lx q h).1 (hall q (hin q h)), M.sub q⟩
    have hrun := runW_perm hperm (fun q hq => by obtain ⟨oq, sq, q1, _, q3⟩ := X.each q hq; exact ⟨sq, oq, by rw [Array.getElem?_toList]; exact q1, q3⟩) X.far (fun c => rfl) X.run
    rw [M.run] at hrun
    cases hrun
    exact M.sim
  rcases I.mem with ⟨⟨j, M⟩, hno⟩ | ⟨Lx, A, M⟩
  · obtain ⟨τ1, M2, B2, f2⟩ := M.turn I.base I.fo R (fun p q o3 hat _ => hall q (atlt _ _ _ hat)) hno
    exact ⟨τ1, go M2, B2, f2, hE⟩
  · exact ⟨τ, go M, I.base, I.fo, hE⟩
theorem mem_ready {listed : Array Bool} (hs : listed.size = C.ops.size) : i ∈ Region.ready .any C.ops listed ↔ ∃ o, Ready C listed i o := by
  unfold Region.ready
  simp only [List.mem_filter, List.mem_range]
  constructor
  · rintro ⟨h1, h2⟩
    have ho : C.ops[i]? = some C.ops[i] := Array.getElem?_eq_getElem h1
    rw [ho] at h2
    simp only [Option.map_some, Option.getD_some, Bool.and_eq_true] at h2
    refine ⟨_, ho, ?_, fun e he => ?_⟩
    · intro hex
      unfold ex at hex
      rw [Array.getD_eq_getD_getElem?, hex] at h2
      simp at h2
    · unfold preds at he
      obtain ⟨ed, hed, h3⟩ := List.mem_filterMap.1 he
      split at h3
      · rename_i hb
        cases h3
        have h4 := Array.all_eq_true'.1 h2.2 ed (Array.mem_toList_iff.1 hed)
        rw [hb] at h4
        simp only [Bool.not_true, Bool.false_or] at h4
        unfold ex
        rw [Array.getD_eq_getD_getElem?] at h4
        cases hx : listed[ed.on]? with
        | none => rw [hx] at h4; cases h4
        | some v => rw [hx] at h4; simp only [Option.getD_some] at h4; rw [h4]
      · cases h3
  · rintro ⟨o, ho, hn, hp⟩
    have hlt : i < C.ops.size := (Array.getElem?_eq_some_iff.1 ho).1
    refine ⟨hlt, ?_⟩
    rw [ho]
    simp only [Option.map_some, Option.getD_some, Bool.and_eq_true]
    refine ⟨?_, ?_⟩
    · rw [Array.getD_eq_getD_getElem?]
      have hx : listed[i]? = some listed[i] := Array.getElem?_eq_getElem (by omega)
      rw [hx]
      simp only [Option.getD_some]
      cases hv : listed[i] with
      | true => exact absurd (by unfold ex; rw [hx, hv]) hn
      | false => rfl
    · rw [Array.all_eq_true']
      intro ed hed
      cases hb : Region.binds .any ed with
      | false => rfl
      | true =>
        have := hp ed.on (List.mem_filterMap.2 ⟨ed, Array.mem_toList_iff.2 hed, by rw [hb]; rfl⟩)
        unfold ex at this
        rw [Array.getD_eq_getD_getElem?, this]
        rfl
theorem progress (L : C.Plan P) (R : C.Runs P F) {listed : Array Bool} (h : ∃ i, i < C.ops.size ∧ ¬ ex listed i) : ∃ i o, Ready C listed i o := by
  by_cases hch : ∃ p i o, C.At p i o ∧ ¬ ex listed i
  · -- the first of the chain
    obtain ⟨p, i, o, hat, hne⟩ := hch
    have : ∀ n, ∀ p, p ≤ n → ∀ i o, C.At p i o → ¬ ex listed i → ∃ i o, Ready C listed i o := by
      intro n
      induction n with
      | zero =>
        intro p hp i o hat hne
        obtain rfl : p = 0 := by omega
        exact ⟨i, o, hat.2, hne, fun e he => by obtain ⟨q, o', hq, _⟩ := L.topo 0 i o hat e he; omega⟩
      | succ n ih =>
        intro p hp i o hat hne
        by_cases hall : ∀ e ∈ preds o, ex listed e
        · exact ⟨i, o, hat.2, hne, hall⟩
        · simp only [Classical.not_forall] at hall
          obtain ⟨e, he, hx⟩ := hall
          obtain ⟨q, o', hq, hat'⟩ := L.topo p i o hat e he
          exact ih q (by omega) e o' hat' hx
    exact this p p (Nat.le_refl _) i o hat hne
  · obtain ⟨i, hi, hne⟩ := h
    rcases L.cover i hi with ⟨p, o, hat⟩ | hl
    · exact absurd ⟨p, i, o, hat, hne⟩ hch
    · have ho : C.ops[i]? = some C.ops[i] := Array.getElem?_eq_getElem hi
      refine ⟨i, _, ho, hne, fun e he => ?_⟩
      obtain ⟨q, o', hat⟩ := L.topoLast i hl _ ho e he
      exact Classical.byContradiction fun hx => hch ⟨q, e, o', hat, hx⟩
theorem go_steps (L : C.Plan P) (R : C.Runs P F) (X : Lasts C P A') (HF : FnsOk P F) (k : List Item) (cs : List Frame) : ∀ (fuel t : Nat) (listed : Array Bool) (a : Act) (w : World) (ρ : Ren) (τ : Nat → Option Nat) (U : List Nat),
    Inv C P A' ρ0 τ0 w0 lo b listed a ρ τ w → (∀ i, i < C.ops.size → ¬ ex listed i → i ∈ U) → U.length ≤ fuel →
    ∃ a' w' ρ' τ', Steps P (lone (b.atR a (.inRegion C.ops (Region.linearise.go .any C.ops fuel t listed []) :: k)) cs w) (lone (b.atR a' k) cs w') ∧
      Sim P ρ' τ' A' w' ∧ Base P ρ0 τ0 w0 (C.cA 0) (C.cA C.ch.length).size ρ' τ' w' ∧ FrameOk b a' τ' w' lo ∧ ERel ρ' (C.cE C.ch.length) a'.tmps := by
  intro fuel
  induction fuel with
  | zero =>
    intro t listed a w ρ τ U I hU hf
    have hall : ∀ i, i < C.ops.size → ex listed i := fun i hi => Classical.byContradiction fun hx => by
      have := hU i hi hx
      rw [List.length_eq_zero_iff.1 (by omega : U.length = 0)] at this
      cases this
    obtain ⟨τ1, h1, h2, h3, h4⟩ := I.final L R X hall
    exact ⟨a, w, ρ, τ1, .one stepR_region_end, h1, h2, h3, h4⟩
  | succ fuel ih =>
    intro t listed a w ρ τ U I hU hf
    by_cases hdone : ∃ i, i < C.ops.size ∧ ¬ ex listed i
    · obtain ⟨i0, o0, hr0⟩ := progress L R hdone
      have hmem0 := (mem_ready I.size).2 ⟨o0, hr0⟩
      have hpos : 0 < (Region.ready .any C.ops listed).length := List.length_pos_of_mem hmem0
      have hlt : t % (Region.ready .any C.ops listed).length < (Region.ready .any C.ops listed).length := Nat.mod_lt _ hpos
      obtain ⟨i, hi⟩ : ∃ i, (Region.ready .any C.ops listed)[t % (Region.ready .any C.ops listed).length]? = some i := ⟨_, List.getElem?_eq_getElem hlt⟩
      have hgo : Region.linearise.go .any C.ops (fuel + 1) t listed [] = i :: Region.linearise.go .any C.ops fuel (t / (Region.ready .any C.ops listed).length) (listed.setIfInBounds i true) [] := by
        simp only [Region.linearise.go]
        change (match (Region.ready .any C.ops listed)[t % (Region.ready .any C.ops listed).length]? with
          | some i => Region.linearise.go .any C.ops fuel (t / (Region.ready .any C.ops listed).length) (listed.setIfInBounds i true) [i]
          | none => [].reverse) = _
        rw [hi]
        simp only []
        rw [linearise_go_acc, List.reverse_singleton, List.singleton_append]
      rw [hgo]
      obtain ⟨o, hr⟩ := (mem_ready I.size).1 (List.mem_of_getElem? hi)
      obtain ⟨a1, w1, ρ1, τ1, s1, I1⟩ := I.step L R X HF hr (Region.linearise.go .any C.ops fuel (t / (Region.ready .any C.ops listed).length) (listed.setIfInBounds i true) []) k cs
      have hil : i < listed.size := by rw [I.size]; exact (Array.getElem?_eq_some_iff.1 hr.op).1
      have hiU : i ∈ U := hU i (by rw [← I.size]; exact hil) hr.new
      obtain ⟨a', w', ρ', τ', s2, h⟩ := ih (t / (Region.ready .any C.ops listed).length) _ a1 w1 ρ1 τ1 (U.erase i) I1 (fun q hq hx => by
        have hne : q ≠ i := fun e => hx ((ex_set hil).2 (.inl e))
        exact (List.mem_erase_of_ne hne).2 (hU q hq fun he => hx ((ex_set hil).2 (.inr he)))) (by rw [List.length_erase_of_mem hiU]; omega)
      exact ⟨a', w', ρ', τ', s1.trans s2, h⟩
    · have hall : ∀ i, i < C.ops.size → ex listed i := fun i hi => Classical.byContradiction fun hx => hdone ⟨i, hi, hx⟩
      have hnil : Region.ready .any C.ops listed = [] := by
        cases hrd : Region.ready .any C.ops listed with
        | nil => rfl
        | cons x xs =>
          obtain ⟨o, hr⟩ := (mem_ready (i := x) I.size).1 (by rw [hrd]; simp)
          exact absurd (hall x (Array.getElem?_eq_some_iff.1 hr.op).1) hr.new
      have hgo : Region.linearise.go .any C.ops (fuel + 1) t listed [] = [] := by
        simp only [Region.linearise.go]
        change (match (Region.ready .any C.ops listed)[t % (Region.ready .any C.ops listed).length]? with
          | some i => Region.linearise.go .any C.ops fuel (t / (Region.ready .any C.ops listed).length) (listed.setIfInBounds i true) [i]
          | none => [].reverse) = _
        rw [hnil]
        rfl
      rw [hgo]
      obtain ⟨τ1, h1, h2, h3, h4⟩ := I.final L R X hall
      exact ⟨a, w, ρ, τ1, .one stepR_region_end, h1, h2, h3, h4⟩
end
theorem draw_gives {P : Program} {F : Fns} (hmix : P.follows .mixedOrders = true) (HF : FnsOk P F) {C : Canon} (L : C.Plan P) (R : C.Runs P F) {A' : AState} (X : Lasts C P A') (id : Nat) :
    CodeOk P (.region id C.ops true) (C.cE 0) (C.cA 0) .normal (C.cE C.ch.length) A' := by
  have hsz : A'.size = (C.cA C.ch.length).size := runW_size X.run
  have hmono := R.size HF (p := 0) (q := C.ch.length) (Nat.zero_le _) (Nat.le_refl _)
  refine ⟨by omega, fun {ρ τ w a lo b} S hE hfree hfo k cs => ?_⟩
  let w1 : World := { w with drawn := w.drawn + 1 }
  have S1 : Sim P ρ τ (C.cA 0) w1 := S.aside (Nat.le_refl _) (fun _ _ _ _ => rfl) (fun _ _ => rfl) (fun _ _ h => h)
  have x0 : Ext P ρ τ (C.cA 0) w ρ τ (C.cA 0) w1 := ⟨Ren.le_refl _, fun _ _ => rfl, Nat.le_refl _, ⟨Nat.le_refl _, fun _ _ _ => rfl, rfl, rfl, rfl⟩, fun _ _ => .inl rfl, fun _ R h => ⟨R, h⟩, fun _ _ _ => rfl, S1⟩
  have hnone : ∀ i, ¬ ex (Array.replicate C.ops.size false) i := fun i h => by
    unfold ex at h
    rw [Array.getElem?_replicate] at h
    split at h <;> cases h
  have hnoP : ∀ p, ¬ C.exP (Array.replicate C.ops.size false) p := fun p ⟨i, o, _, h⟩ => hnone i h
  have I : Inv C P A' ρ τ w1 lo b (Array.replicate C.ops.size false) a ρ τ w1 := {
    size := by simp
    closed := fun i o h => absurd h (hnone i)
    tmps := ⟨hE.size, fun p i o t _ h => absurd h (hnone i), fun t _ => hE.get t⟩
    base := ⟨Ren.le_refl _, fun _ _ => rfl, Frm.refl _ _, fun _ _ => .inl rfl, fun _ R h => ⟨R, h⟩, fun _ _ _ => rfl⟩
    fo := hfo.ext x0 rfl
    mem := .inl ⟨⟨0, Nat.zero_le _, fun p hp => by omega, fun p _ h => absurd h (hnoP p), .inl rfl, S1, ⟨fun p ob _ h => absurd h (hnoP p), fun p q ob ob' i i' _ _ h => absurd h (hnoP p)⟩,
      fun b2 h1 h2 _ => hfree b2 h1 (by omega)⟩, fun i _ => hnone i⟩ }
  obtain ⟨a', w', ρ', τ', s, h1, h2, h3, h4⟩ := go_steps L R X HF k cs C.ops.size (w.tape w.drawn (.order b.fn id)) _ a w1 ρ τ (List.range C.ops.size) I (fun i hi _ => List.mem_range.2 hi) (by simp)
  refine ⟨ρ', τ', a', w', ⟨h2.le, fun b2 hb => h2.same b2 (by omega), by omega, ⟨h2.frm.size, h2.frm.keep, h2.frm.os, h2.frm.out, h2.frm.tape⟩, h2.told, h2.loops, h2.ro, h1⟩, h4, h3, .normal ?_⟩
  refine .head stepR_region_draw ?_
  simp only [Region.schedule, hmix, Bool.true_or, if_true]
  exact s
end Go.Ag
namespace Go.Ag
theorem isIn_iff {i : Nat} : ∀ {l : List Nat}, isIn i l = true ↔ i ∈ l := by
  intro l
  induction l with
  | nil => simp [isIn]
  | cons j js ih =>
    simp only [isIn, Bool.or_eq_true, ih, List.mem_cons]
    constructor
    · rintro (h | h)
      · exact .inl (Nat.eq_of_beq_eq_true h)
      · exact .inr h
    · rintro (h | h)
      · left; rw [h]; simp
      · exact .inr h
theorem nodupB_ok : ∀ {l : List Nat}, nodupB l = true → l.Nodup := by
  intro l
  induction l with
  | nil => intro _; exact List.nodup_nil
  | cons i l ih =>
    intro h
    simp only [nodupB, Bool.and_eq_true, Bool.not_eq_true'] at h
    refine List.nodup_cons.2 ⟨fun hm => ?_, ih h.2⟩
    rw [isIn_iff.2 hm] at h; cases h.1
section
variable {P : Program} {C : Canon} {p i : Nat} {o : Oper}
theorem opAt_some {a : Nat} (h : opAt C.ops.toList C.ch p = some (i, a, o)) : C.ch[p]? = some (i, a) ∧ C.ops[i]? = some o ∧ C.At p i o := by
  unfold opAt at h
  simp only [Option.bind_eq_some_iff, Option.map_eq_some_iff] at h
  obtain ⟨⟨i', a'⟩, h1, o', h2, h3⟩ := h
  cases h3
  rw [Array.getElem?_toList] at h2
  exact ⟨h1, h2, ⟨⟨_, h1⟩, h2⟩⟩
theorem at_opAt (h : C.At p i o) : ∃ a, opAt C.ops.toList C.ch p = some (i, a, o) := by
  obtain ⟨⟨a, h1⟩, h2⟩ := h
  refine ⟨a, ?_⟩
  unfold opAt
  rw [h1]
  simp only [Option.bind_some, Array.getElem?_toList, h2, Option.map_some]
theorem effL_eq (p : Nat) : effL P C.ops.toList C.ch p = C.effAt P p := by
  unfold effL opAt Canon.effAt
  cases C.ch[p]? with
  | none => rfl
  | some x =>
    obtain ⟨i, a⟩ := x
    simp only [Option.bind_some, Array.getElem?_toList]
    cases C.ops[i]? <;> rfl
theorem ecL_eq (p : Nat) : ecL P C.ops.toList C.ch p = C.ec P p := by
  induction p with
  | zero => rfl
  | succ p ih =>
    show ecL P C.ops.toList C.ch p + (if effL P C.ops.toList C.ch p then 1 else 0) = C.ec P p + (if C.effAt P p then 1 else 0)
    rw [ih, effL_eq]
theorem aheadB_ok {e : Nat} (h : aheadB C.ops.toList C.ch p e = true) : ∃ q o', q < p ∧ C.At q e o' := by
  unfold aheadB at h
  obtain ⟨q, _, hq⟩ := List.any_eq_true.1 h
  simp only [Bool.and_eq_true] at hq
  obtain ⟨h1, h2⟩ := hq
  split at h2
  · rename_i k a o' heq
    have := Nat.eq_of_beq_eq_true h2
    subst this
    exact ⟨q, o', Nat.blt_eq.mp h1, (opAt_some heq).2.2⟩
  · cases h2
theorem planB_ok (h : planB P C.ops.toList ⟨C.ch, C.last⟩ = true) : C.Plan P := by
  unfold planB at h
  simp only [Bool.and_eq_true] at h
  obtain ⟨h1, h2, h3, h4⟩ := h
  have cover : ∀ i, i < C.ops.size → (∃ p o, C.At p i o) ∨ i ∈ C.last := fun i hi => by
    have := List.all_eq_true.1 h1 i (List.mem_range.2 (by simpa using hi))
    simp only [Bool.or_eq_true] at this
    rcases this with h | h
    · obtain ⟨q, o', _, h⟩ := aheadB_ok h
      exact .inl ⟨q, o', h⟩
    · exact .inr (isIn_iff.1 h)
  have chain : ∀ p i a o, opAt C.ops.toList C.ch p = some (i, a, o) → operOk P o = true ∧ ¬ i ∈ C.last ∧ (∀ e ∈ preds o, aheadB C.ops.toList C.ch p e = true) ∧
      (∀ q j a' o', opAt C.ops.toList C.ch q = some (j, a', o') → pairB P C.ops.toList (ancs C.ops.toList) p i o q j o' = true) ∧
      (kindOf P o = .read → a = 0 ∨ ∃ e j a' o', opAt C.ops.toList C.ch e = some (j, a', o') ∧ e < p ∧ isEff P o' = true ∧ ancB (ancs C.ops.toList) i j = true ∧ a ≤ ecL P C.ops.toList C.ch e + 1) := by
    intro p i a o hat
    have hp : p < C.ch.length := by
      have := (opAt_some hat).1
      exact (List.getElem?_eq_some_iff.1 this).1
    have := List.all_eq_true.1 h2 p (List.mem_range.2 hp)
    unfold chainB at this
    rw [hat] at this
    simp only [Bool.and_eq_true] at this
    obtain ⟨k1, k2, k3, k4, k5⟩ := this
    refine ⟨k1, fun hm => ?_, fun e he => List.all_eq_true.1 k3 e he, fun q j a' o' hq => ?_, fun hk => ?_⟩
    · rw [isIn_iff.2 hm] at k2; cases k2
    · have hql : q < C.ch.length := by
        have := (opAt_some hq).1
        exact (List.getElem?_eq_some_iff.1 this).1
      have := List.all_eq_true.1 k4 q (List.mem_range.2 hql)
      rw [hq] at this
      exact this
    · rw [hk] at k5
      simp only [isRead, Bool.not_true, Bool.false_or, Bool.or_eq_true] at k5
      rcases k5 with h | h
      · exact .inl (Nat.eq_of_beq_eq_true h)
      · obtain ⟨e, _, he⟩ := List.any_eq_true.1 h
        split at he
        · rename_i j a' o' heq
          simp only [Bool.and_eq_true] at he
          exact .inr ⟨e, j, a', o', heq, Nat.blt_eq.mp he.1, he.2.1, he.2.2.1, Nat.le_of_ble_eq_true he.2.2.2⟩
        · cases he
  have pair : ∀ {p i o q j o'}, C.At p i o → C.At q j o' → pairB P C.ops.toList (ancs C.ops.toList) p i o q j o' = true := fun hat hat' => by
    obtain ⟨a, ha⟩ := at_opAt hat
    obtain ⟨a', ha'⟩ := at_opAt hat'
    exact (chain _ _ _ _ ha).2.2.2.1 _ _ _ _ ha'
  have lasts : ∀ i ∈ C.last, ∃ o, C.ops[i]? = some o ∧ operOk P o = true ∧ isStore o = true ∧ o.dst = none ∧ (∀ e ∈ preds o, aheadB C.ops.toList C.ch C.ch.length e = true) ∧
      ∀ p j a o', opAt C.ops.toList C.ch p = some (j, a, o') → (isPure (kindOf P o') = true ∨ ancB (ancs C.ops.toList) i j = true) ∧ ∀ t, o'.dst = some t → t ∈ looks C.ops.toList o → ancB (ancs C.ops.toList) i j = true := by
    intro i hi
    have := List.all_eq_true.1 h4 i hi
    unfold lastB at this
    split at this
    · cases this
    · rename_i o ho
      simp only [Bool.and_eq_true] at this
      obtain ⟨k1, k2, k3, k4, k5⟩ := this
      rw [Array.getElem?_toList] at ho
      refine ⟨o, ho, k1, k2, by simpa using k3, fun e he => List.all_eq_true.1 k4 e he, fun p j a o' hp => ?_⟩
      have hpl : p < C.ch.length := by
        have := (opAt_some hp).1
        exact (List.getElem?_eq_some_iff.1 this).1
      have := List.all_eq_true.1 k5 p (List.mem_range.2 hpl)
      rw [hp] at this
      simp only [Bool.and_eq_true, Bool.or_eq_true] at this
      refine ⟨this.1, fun t ht hl => ?_⟩
      have h6 := this.2
      rw [ht] at h6
      simp only [Bool.or_eq_true, Bool.not_eq_true'] at h6
      rcases h6 with h | h
      · rw [isIn_iff.2 hl] at h; cases h
      · exact h
  refine ⟨cover, fun p q i o o' hat hat' => ?_, fun i hi p o hat => ?_, nodupB_ok h3, fun p q i j o o' t hat hat' hd hd' => ?_, fun i o ho => ?_, fun p i o hat t ht q j o' hat' hd => ?_, fun p i o hat he q j o' hat' hq => ?_, fun p i a o hp ho hk => ?_,
    fun p i o hat e he => ?_, fun i hi o ho e he => ?_, fun i hi => ?_⟩
  · have := pair hat hat'
    unfold pairB at this
    simp only [Bool.and_eq_true, Bool.or_eq_true] at this
    rcases this.1 with h | h
    · exact Nat.eq_of_beq_eq_true h
    · simp at h
  · obtain ⟨a, ha⟩ := at_opAt hat
    exact (chain _ _ _ _ ha).2.1 hi
  · have := pair hat hat'
    unfold pairB at this
    simp only [Bool.and_eq_true] at this
    have h5 := this.2.1
    rw [hd, hd'] at h5
    simp only [Bool.or_eq_true] at h5
    rcases h5 with h | h
    · exact Nat.eq_of_beq_eq_true h
    · simp at h
  · rcases cover i (Array.getElem?_eq_some_iff.1 ho).1 with ⟨p, o', hat⟩ | hi
    · obtain ⟨a, ha⟩ := at_opAt hat
      obtain rfl : o' = o := Option.some.inj (hat.2.symm.trans ho)
      exact (chain _ _ _ _ ha).1
    · obtain ⟨o', ho', h, _⟩ := lasts i hi
      obtain rfl : o' = o := Option.some.inj (ho'.symm.trans ho)
      exact h
  · have := pair hat hat'
    unfold pairB at this
    simp only [Bool.and_eq_true] at this
    have h5 := this.2.2.1
    rw [hd] at h5
    simp only [Bool.or_eq_true, Bool.and_eq_true, Bool.not_eq_true'] at h5
    rcases h5 with h | h | h | h
    · rw [isIn_iff.2 ht] at h; cases h
    · exact .inl ⟨Nat.blt_eq.mp h.1, h.2⟩
    · exact .inr (.inl (Nat.eq_of_beq_eq_true h))
    · exact .inr (.inr ⟨Nat.blt_eq.mp h.1, h.2⟩)
  · have := pair hat hat'
    unfold pairB at this
    simp only [Bool.and_eq_true] at this
    have h5 := this.2.2.2
    rw [he] at h5
    simp only [Bool.not_true, Bool.false_or, Bool.or_eq_true, Bool.not_eq_true'] at h5
    rcases h5 with h | h
    · have := Nat.blt_eq.mpr hq
      rw [h] at this; cases this
    · exact h
  · have hat : opAt C.ops.toList C.ch p = some (i, a, o) := by
      unfold opAt
      rw [hp]
      simp only [Option.bind_some, Array.getElem?_toList, ho, Option.map_some]
    rcases (chain _ _ _ _ hat).2.2.2.2 hk with h | ⟨e, j, a', o', q1, q2, q3, q4, q5⟩
    · exact .inl h
    · exact .inr ⟨e, j, o', (opAt_some q1).2.2, q2, q3, q4, by rw [ecL_eq] at q5; exact q5⟩
  · obtain ⟨a, ha⟩ := at_opAt hat
    exact aheadB_ok ((chain _ _ _ _ ha).2.2.1 e he)
  · obtain ⟨o', ho', _, _, _, h, _⟩ := lasts i hi
    obtain rfl : o' = o := Option.some.inj (ho'.symm.trans ho)
    obtain ⟨q, o2, _, h2⟩ := aheadB_ok (h e he)
    exact ⟨q, o2, h2⟩
  · obtain ⟨o, ho, _, k2, k3, _, k5⟩ := lasts i hi
    refine ⟨o, ho, k2, k3, fun p j o' hat hk => ?_, fun t ht q j o' hat hd => ?_⟩
    · obtain ⟨a, ha⟩ := at_opAt hat
      rcases (k5 _ _ _ _ ha).1 with h | h
      · unfold isPure at h
        split at h
        · rename_i heq; exact absurd heq hk
        · cases h
      · exact h
    · obtain ⟨a, ha⟩ := at_opAt hat
      exact (k5 _ _ _ _ ha).2 t hd ht
end
theorem drawOk {P : Program} {F : Fns} (hmix : P.follows .mixedOrders = true) (HF : FnsOk P F) : DrawOk P F := by
  intro id ops E A E' A' h
  unfold runDraw at h
  split at h
  case isFalse => cases h
  rename_i hb
  simp only [Option.bind_eq_some_iff, Option.map_eq_some_iff] at h
  obtain ⟨⟨E1, A1⟩, h1, A2, h2, h3⟩ := h
  cases h3
  obtain ⟨cE, cA, cv, cV, e1, e2, e3, e4, e5, hs⟩ := chain_trace h1
  let C : Canon := ⟨ops, (planOf P ops.toList).chain, (planOf P ops.toList).last, cE, cA, cv, cV⟩
  have L : C.Plan P := planB_ok (C := C) hb
  have R : C.Runs P F := ⟨by show cV 0 = [cA 0]; rw [e3, e2], fun p i a hp => by
    obtain ⟨o, ho, h⟩ := hs p i a hp
    rw [Array.getElem?_toList] at ho
    exact ⟨o, ho, h⟩⟩
  obtain ⟨r1, r2, r3⟩ := runLast_runW h2
  have X : Lasts C P A' := by
    refine ⟨?_, fun i hi => ?_, ?_⟩
    · show runW P ops.toList (cE _) (planOf P ops.toList).last (cA _) = some A'
      rw [e4, e5]; exact r1
    · obtain ⟨o, s, q1, q2, q3, _⟩ := r2 i hi
      rw [Array.getElem?_toList] at q1
      refine ⟨o, s, q1, ?_, ?_⟩
      · show wantedA ops.toList (cE _) o = true
        rw [e4]; exact q2
      · show spotOf P (cA _) (cE _).eval o = some s
        rw [e4, e5]; exact q3
    · show (planOf P ops.toList).last.Pairwise (Far P ops.toList (cE _) (cA _))
      rw [e4, e5]; exact r3
  have := draw_gives hmix HF L R X id
  have g : CodeOk P (.region id ops true) (cE 0) (cA 0) .normal (cE (planOf P ops.toList).chain.length) A' := this
  rw [e1, e2, e4] at g
  exact g
theorem sound {P : Program} (hmix : P.follows .mixedOrders = true) (n : Nat) : FnsOk P (run P n) := run_ok (fun _ HF => drawOk hmix HF) n
end Go.Ag
namespace Go.Ag
theorem sim_start (P : Program) (w : World) : Sim P (fun g => if g < P.globals.size then some ⟨g, 0, 0, 0, 0⟩ else none) (fun _ => none) ⟨.nil, P.globals.size + 1⟩ w := by
  have hn : ∀ b, (⟨.nil, P.globals.size + 1⟩ : AState).get b = none := fun b => rfl
  refine ⟨fun b o h => ?_, fun b o h => ?_, fun b cs d n es root own top h => ?_, fun b o h => ?_, fun b o h => ?_, fun b _ => hn b, fun r f h => (by cases h), fun g hg => ⟨_, if_pos hg, rfl, rfl⟩, Nat.lt_succ_self _⟩
  all_goals (rw [hn] at h; cases h)
end Go.Ag
namespace Go.Ag
open Go.ChangeShapes Go.WideShapes
section
variable {H : Type} {enc : TypeId × Value → H} {P : Program}
structure Kept (W W' : World) : Prop where
  os : W'.os = W.os
  out : W'.output = W.output
  size : W.heap.size ≤ W'.heap.size
  rows : ∀ r, r < W.heap.size → W'.heap[r]? = W.heap[r]?
theorem Kept.frozen {W W' : World} (h : Kept W W') {a : Addr} (ha : a.block < W.heap.size) : W'.frozen? a = W.frozen? a := by
  unfold World.frozen?
  rw [h.rows _ ha]
theorem Kept.but {W W' : World} (h : Kept W W') (may : MemPlace → Prop) : W.keptBut W' may := by
  have := World.keptBut_refl W may
  refine ⟨h.os, h.out, fun i hi => ?_⟩
  rw [h.rows i hi]
  exact this.2.2 i hi
theorem post_of_kept {f : Func} {s : ChangeSpec} {apart fresh handsOn again : Bool} {W W' : World} {args : Array Value} {v : Value} {ds gs : List (DataW H)} {before pa pv : List MemPlace}
    (hW : DataW.Whole enc P f.params.toList s.vars apart W args.toList ds gs before)
    (hres : ∀ (b : Nat) (sp : Nat → Bool) (hd : Bool), DataW.TrodAll enc P W' b sp hd f.resultTypes.toList (v.resultList f.resultTypes.size) (s.fn H (ds ++ gs)).results [])
    (hargs : ∀ sp : Nat → Bool, (∀ p ∈ before, sp p.block = true) → DataW.TrodAll enc P W' 0 sp true f.params.toList args.toList (s.fn H (ds ++ gs)).args pa)
    (hvars : ∀ sp : Nat → Bool, (∀ p ∈ before, sp p.block = true) → DataW.TrodVars enc P W' sp s.vars (s.fn H (ds ++ gs)).vars pv)
    (hps : before = pa ++ pv) (hk : Kept W W')
    (hok : ∀ (j : Nat) (t : TypeId) (r : Value), f.resultTypes[j]? = some t → (v.resultList f.resultTypes.size)[j]? = some r → Value.okWide P W' .any 0 t r) :
    s.post enc P f apart fresh handsOn again W args v W' := by
  have hlt : ∀ p ∈ before, p.block < W.heap.size := fun p hp => hW.lt p hp
  have hold : ∀ p ∈ before, (fun b => decide (b < W.heap.size)) p.block = true := fun p hp => by simpa using hW.lt p hp
  refine ⟨ds, gs, before, [], pa, pv, hW, hres _ _ _, hargs _ hold, hvars _ hold, World.keptBut_mono (fun p hp => ⟨hp, ?_⟩) (hk.but (· ∈ before)), fun _ => ?_⟩
  · rw [hps, List.mem_append] at hp
    exact Or.inr hp
  · obtain ⟨_, _, _, _, _, hz, hn⟩ := hW
    refine ⟨hok, _, _, ([] ++ pa) ++ pv, ⟨[] ++ pa, pv, trodAll_append (hargs _ (fun _ _ => rfl)) (hres _ _ _), hvars _ (fun _ _ => rfl), rfl, ?_, ?_⟩, ?_⟩
    · intro b off hp
      have hp' : MemPlace.cell b off ∈ before := by rw [hps]; simpa using hp
      rw [hk.frozen (hlt _ hp')]
      exact hz b off hp'
    · intro ha
      have := hn ha
      rw [hps] at this
      simpa using this
    · intro p hp _
      rw [hps]
      simpa using hp
end
end Go.Ag
