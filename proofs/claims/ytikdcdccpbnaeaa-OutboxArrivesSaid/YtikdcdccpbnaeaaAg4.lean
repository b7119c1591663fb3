/-
  An abstract machine for Go functions, over memory as a function of blocks: rules of reasoning. Nothing is asked.
-/
import Derived.Test.YtikdcdccpbnaeaaAg3
import Derived.Shelf.SlIterI.Collect
import Derived.Shelf.SlIterI.Sorted
set_option linter.all false
namespace Go.Ag
set_option linter.unusedVariables false
section
variable {P : Program} {ρ : Ren} {τ : Nat → Option Nat} {A : AState} {w : World}
theorem Sim.adopt (S : Sim P ρ τ A w) {g n es : Nat} {cs : Tr Value} {d : List Value} {c : Array Value} {el : TypeId} {fz : Nat × Nat} (hlt : g < w.heap.size) (hτ : τ g = none) (hg : w.heap[g]? = some (.cells c el fz)) (hfz : Thawed fz c.size) (hfree : ρ A.size = none) (hnc : n ≤ c.size)
    (hc : ∀ j, j < n → ∃ v v', cellAt cs d j = some v ∧ c[j]? = some v' ∧ VRel ρ v v') :
    Sim P (ρ.upd A.size ⟨g, 0, c.size, es, n⟩) (tup τ g A.size) (A.fresh cs d n es) w := by
  have hle := Ren.le_upd (⟨g, 0, c.size, es, n⟩ : BInfo) hfree
  have hold : ∀ b o2, A.get b = some o2 → b ≠ A.size ∧ b < A.size := by
    intro b o2 h
    have : b < A.size := by
      rcases Nat.lt_or_ge b A.size with h1 | h1
      · exact h1
      · rw [S.fresh b h1] at h; cases h
    exact ⟨by omega, this⟩
  have hget : ∀ b, b ≠ A.size → (A.fresh cs d n es).get b = A.get b := fun b hb => by unfold AState.fresh; rw [get_push, if_neg (Ne.symm hb)]
  have hgets : (A.fresh cs d n es).get A.size = some (.cells cs d n es A.size 0 A.size) := by unfold AState.fresh; rw [get_push, if_pos rfl]
  have hsz : (A.fresh cs d n es).size = A.size + 1 := rfl
  have hget' : ∀ b o2, A.get b = some o2 → (A.fresh cs d n es).get b = some o2 := fun b o2 h => by rw [hget b (hold b o2 h).1]; exact h
  refine ⟨fun b o2 h2 => ?_, fun b o2 h2 => ?_, ?_, ?_, fun b o2 h2 => ?_, fun b hb => ?_, fun r f hf => ?_, fun g hg => ?_, Nat.lt_of_lt_of_le S.globs (by rw [hsz]; omega)⟩
  · by_cases e : b = A.size
    · subst e; rw [hgets] at h2; cases h2
      refine ⟨_, Ren.upd_same _ _ _, hlt, by unfold tup; rw [if_pos rfl]; rfl, ?_⟩
      refine .cells c el fz hg rfl rfl rfl (by simp; exact hnc) hfz (fun _ => rfl) (fun _ j hj => ?_)
      obtain ⟨v, v', a, b, r⟩ := hc j hj
      exact ⟨v, v', a, by simpa using b, r.mono hle⟩
    · rw [hget b e] at h2
      obtain ⟨i2, a1, a2, a3, a4⟩ := S.obj _ _ h2
      refine ⟨i2, by rw [Ren.upd_other _ _ e]; exact a1, a2, by unfold tup; rw [if_neg (by intro e; rw [e, hτ] at a3; cases a3)]; exact a3, ?_⟩
      refine (a4.mono hle).keep rfl fun cs2 d2 n2 es2 root2 own2 top2 eo hop => ?_
      by_cases er : root2 = b
      · subst er; rw [isOpen_root] at hop ⊢; exact hop
      · rw [isOpen_other _ _ er] at hop ⊢
        subst eo
        obtain ⟨o4, h4, _⟩ := S.root _ _ h2
        have hne : root2 ≠ A.size := (hold root2 o4 h4).1
        have : (A.fresh cs d n es).ownOf root2 = A.ownOf root2 := by unfold AState.ownOf; rw [hget _ hne]
        rw [this] at hop; exact hop
  · by_cases e : b = A.size
    · subst e; rw [hgets] at h2; cases h2
      exact ⟨_, hgets, rfl⟩
    · rw [hget b e] at h2
      obtain ⟨o4, h4, e4⟩ := S.root _ _ h2
      exact ⟨o4, hget' _ _ h4, e4⟩
  · intro b cs d n es root own top h2 rcs rd rn res rtop hro
    by_cases e : b = A.size
    · subst e; rw [hgets] at h2; cases h2
      rw [hgets] at hro
      cases hro
      exact ⟨_, _, _, hgets, rfl, Ren.upd_same _ _ _, Ren.upd_same _ _ _, fun _ => Nat.le_refl _⟩
    · rw [hget b e] at h2
      obtain ⟨o4, h4, e4⟩ := S.root _ _ h2
      have hne : root ≠ A.size := (hold _ o4 h4).1
      rw [hget _ hne] at hro
      obtain ⟨ot, i1, j1, k1, k2, k3, k4, k5⟩ := S.top _ _ _ _ _ _ _ _ h2 _ _ _ _ _ hro
      exact ⟨ot, i1, j1, hget' _ _ k1, k2, hle _ _ k3, hle _ _ k4, k5⟩
  · intro b o2 h2 cs d n es root own hro
    by_cases e : b = A.size
    · subst e; rw [hgets] at h2; cases h2; rfl
    · rw [hget b e] at h2
      obtain ⟨o4, h4, e4⟩ := S.root _ _ h2
      rw [hget _ (hold _ o4 h4).1] at hro
      exact S.solo _ _ h2 _ _ _ _ _ _ hro
  · by_cases e : b = A.size
    · subst e; rw [hgets] at h2; cases h2
      have := S.globs
      exact ⟨fun e => (by have e' : A.size = P.globals.size := e; omega), fun e => by cases e⟩
    · rw [hget b e] at h2
      exact S.ro _ _ h2
  · rw [hsz] at hb
    rw [hget b (by omega)]; exact S.fresh b (by omega)
  · unfold tup at hf
    split at hf
    · cases hf; exact ⟨_, hgets⟩
    · obtain ⟨o3, h3⟩ := S.terr r f hf
      exact ⟨o3, hget' _ _ h3⟩
  · obtain ⟨j, h1, h2, h3⟩ := S.glob g hg
    exact ⟨j, hle _ _ h1, h2, h3⟩
end

/-! ### the keys of a map, sorted -/
open Go.RowKit Go.Maps Go.Sort Go.Proofs
/-- what the library's contracts say of 'slices.Sorted(maps.Keys(m))' -/
structure SortedOk (P : Program) (fS fI : FuncId) (kt : TypeId) : Prop where
  body : ∃ fn, P.funcs[fS]? = some fn ∧ (fn.name == "runtime.NumGoroutine") = false ∧ fn.body.isSome = true
  int : P.underlying kt = some (.int .i64)
  calls : ∀ (Bm b nn : Nat) (D0 : DataW Unit) (R : Value → Option (DataW Unit × List MemPlace)) (w : World), Bm < w.heap.size → w.cell? ⟨Bm, 0, none⟩ = some (.map (some b)) → w.ownsMap P kt R b nn D0 → Maps.size D0 ≤ maxLen → Maps.size D0 * 8 ≤ 140737488355328 →
    Calls P fS #[.func (.func fI) #[] #[.pointer (some ⟨Bm, 0, none⟩)]] w fun e w' => ∃ (v : Value) (ss : List Int), e = .returned v ∧ ss.Perm (intKeys D0) ∧
      w'.ownsRow w.heap.size kt 1 v ss.length ((ss.mergeSort (fun x y => decide (x ≤ y))).map encZ) ∧ (v = .slice none 0 0 ↔ ss = []) ∧ Below w.heap.size w w'

def isKeyI (x : Value × Value) : Bool := match x.1 with
  | .int .i64 n => (Lit.int .i64 n).wf
  | _ => false
def keyI (x : Value × Value) : Int := match x.1 with
  | .int _ n => n
  | _ => 0
/-- the keys of a map, sorted -/
def keysI (es : List (Value × Value)) : List Int := (es.map keyI).mergeSort (fun x y => decide (x ≤ y))
noncomputable def sortA (fI : FuncId) (args : List Value) (A : AState) : Option (Value × AState) :=
  match args with
  | [.func (.func g) xs ys] =>
    if g = fI ∧ xs = #[] then
      match ys.toList with
      | [.pointer (some ⟨bx, 0, none⟩)] =>
        match A.get bx with
        | some (.cells cs d (n + 1) es root own top) =>
          if es = 0 ∧ A.isOpen bx root own = true then
            match cellAt cs d 0 with
            | some (.map (some mb)) =>
              match A.get mb with
              | some (.map es) =>
                if es.all isKeyI = true ∧ es.length ≤ 1000 then
                  if es = [] then some (.slice none 0 0, A)
                  else some (.slice (some ⟨A.size, 0, none⟩) es.length unk, A.fresh .nil ((keysI es).map encZ) es.length 1)
                else none
              | _ => none
            | _ => none
          else none
        | _ => none
      | _ => none
    else none
  | _ => none
noncomputable def sortH (fS fI : FuncId) : Hook := fun f args => if f = fS then fun A => sortA fI args A else fun _ => none

theorem MRel.keys {ρ : Ren} : ∀ {es : List (Value × Value)} {es' : List MapEntry}, VRels ρ (es.map (·.1)) (es'.map (·.key)) → es.all isKeyI = true → es'.map (fun x => keyI (x.key, x.val)) = es.map keyI ∧ (∀ x ∈ es', ∃ n, x.key = .int .i64 n ∧ (Lit.int .i64 n).wf = true)
  | [], es', h, _ => by
    cases es' with
    | nil => exact ⟨rfl, fun x hx => by cases hx⟩
    | cons y ys => cases h
  | x :: es, es', h, hk => by
    cases es' with
    | nil => cases h
    | cons y ys =>
      cases h with
      | cons h hs =>
        simp only [List.all_cons, Bool.and_eq_true] at hk
        obtain ⟨i1, i2⟩ := MRel.keys hs hk.2
        have h1 := hk.1
        unfold isKeyI at h1
        split at h1
        · rename_i n hx
          have h : VRel ρ x.1 y.key := h
          rw [hx] at h
          have hy : y.key = .int .i64 n := by
            generalize y.key = yk at h
            cases h
            rfl
          refine ⟨?_, fun z hz => ?_⟩
          · rw [List.map_cons, List.map_cons, i1]
            simp only [keyI, hx, hy]
          · rcases List.mem_cons.1 hz with rfl | hz
            · exact ⟨n, hy, h1⟩
            · exact i2 z hz
        · cases h1

theorem fit_keys {P : Program} {kt : TypeId} (hk : P.underlying kt = some (.int .i64)) {es' : Array MapEntry} {clock : Nat} (hst : MapKept.Stamped es' clock) (hl : es'.size ≤ 1000) (h : ∀ x ∈ es'.toList, ∃ n, x.key = .int .i64 n ∧ (Lit.int .i64 n).wf = true) :
    Go.WideElems.Fit P kt (fun _ => some ((.nil : DataW Unit), [])) es' clock := by
  refine ⟨Nat.le_trans hl (by decide), hst, fun x hx => ?_⟩
  obtain ⟨n, h1, h2⟩ := h x hx
  refine ⟨(.int .i64 n, .nil), ?_⟩
  unfold Go.WideElems.rd
  have : keyOf P kt x.key = some (.int .i64 n) := by rw [h1]; simp [keyOf, hk, mapKey, h2]
  rw [this]; rfl
theorem intKeys_perm {P : Program} {kt : TypeId} (hk : P.underlying kt = some (.int .i64)) {es' : List MapEntry} (h : ∀ x ∈ es', ∃ n, x.key = .int .i64 n ∧ (Lit.int .i64 n).wf = true) :
    (intKeys (.map ((es'.map (Go.WideElems.rg P kt (fun _ => some ((.nil : DataW Unit), [])))).foldr DataW.insert []))).Perm (es'.map (fun x => keyI (x.key, x.val))) := by
  show (List.map _ _).Perm _
  refine ((Go.WideShapes.sorted_perm _).map _).trans (List.Perm.of_eq ?_)
  rw [List.map_map]
  refine List.map_congr_left fun x hx => ?_
  obtain ⟨n, h1, h2⟩ := h x hx
  have : keyOf P kt x.key = some (.int .i64 n) := by rw [h1]; simp [keyOf, hk, mapKey, h2]
  simp only [Function.comp, Go.WideElems.rg, Go.WideElems.rd, this, Option.bind_some, Option.map_some, Option.getD_some]
  simp only [Go.intOf, keyI, h1]

theorem sortH_ok {P : Program} {fS fI : FuncId} {kt : TypeId} (K : SortedOk P fS fI kt) : HookOk P (sortH fS fI) := by
  intro f args A v A' h
  unfold sortH at h
  split at h
  case isFalse => cases h
  rename_i hf
  subst hf
  unfold sortA at h
  split at h
  case h_2 => cases h
  rename_i g xs ys
  split at h
  case isFalse => cases h
  rename_i hg
  obtain ⟨rfl, rfl⟩ := hg
  split at h
  case h_2 => cases h
  rename_i bx hys
  change (match A.get bx with | some (.cells cs d (n + 1) es root own top) => _ | _ => none) = _ at h
  split at h
  case h_2 => cases h
  rename_i cs d n es root own top hbx
  split at h
  case isFalse => cases h
  rename_i hop
  obtain ⟨hes00, hop⟩ := hop
  split at h
  case h_2 => cases h
  rename_i mb hcell
  split at h
  case h_2 => cases h
  rename_i ms hmb
  split at h
  case isFalse => cases h
  rename_i hall
  obtain ⟨hkeys, hlen⟩ := hall
  have hsz : A.size ≤ A'.size := by
    split at h <;> cases h
    · exact Nat.le_refl _
    · unfold AState.fresh; rw [size_push]; omega
  refine ⟨hsz, K.body, fun {ρ τ w args'} S ha hfree => ?_⟩
  -- the arguments
  obtain ⟨i, hri, hlt, hti, hor⟩ := S.obj _ _ hbx
  obtain ⟨im, ms', clock, hrm, hhm, hmr, hst⟩ := S.mapAt' hmb
  cases hor with
  | cells c el fz ho hroom hs1 hes hin hfz h0 hc =>
  obtain ⟨x, x', c1, c2, c3⟩ := hc hop 0 (Nat.succ_pos _)
  rw [hcell] at c1
  cases c1
  have hz : i.off = 0 := h0 hes00
  have hargs : args' = #[.func (.func g) #[] #[.pointer (some ⟨i.blk, 0, none⟩)]] := by
    refine Array.ext' ?_
    generalize args'.toList = l at ha
    cases ha with
    | cons ha hn =>
      cases hn
      cases ha with
      | func g1 g2 =>
        rename_i xs' ys'
        rw [hys] at g2
        have e1 : xs' = #[] := by
          refine Array.ext' ?_
          generalize xs'.toList = l1 at g1
          cases g1; rfl
        have e2 : ys' = #[.pointer (some ⟨i.blk, 0, none⟩)] := by
          refine Array.ext' ?_
          generalize ys'.toList = l1 at g2
          cases g2 with
          | cons g2 g3 =>
            cases g3
            cases g2 with
            | ptr g4 =>
              obtain rfl := Option.some.inj (hri.symm.trans g4)
              rw [hz]
        rw [e1, e2]
  cases c3 with
  | map hm =>
  rename_i im2
  obtain rfl : im = im2 := Option.some.inj (hrm.symm.trans hm)
  obtain ⟨k1, k2⟩ := MRel.keys hmr.1 hkeys
  have hl' : ms'.size ≤ 1000 := by have := hmr.1.length; simp at this; omega
  have hF := fit_keys (P := P) K.int hst hl' k2
  have hsize : Maps.size (.map ((ms'.toList.map (Go.WideElems.rg P kt (fun _ => some ((.nil : DataW Unit), [])))).foldr DataW.insert [])) = ms'.size := by
    rw [Maps.size_eq, length_sorted]; simp
  have hcon := K.calls i.blk im.blk ms'.size (.map ((ms'.toList.map (Go.WideElems.rg P kt (fun _ => some ((.nil : DataW Unit), [])))).foldr DataW.insert [])) (fun _ => some ((.nil : DataW Unit), [])) w hlt
    (by rw [cell?_of ho]; rw [hz] at c2; simpa using c2) ⟨ms', clock, hhm, hF, Nat.le_refl _, rfl⟩ (by rw [hsize]; exact Nat.le_trans hl' (by decide)) (by rw [hsize]; omega)
  rw [hargs]
  refine hcon.mono fun e w' hR => ?_
  obtain ⟨v', ss, rfl, hperm, hrow, hnil, hb⟩ := hR
  have hperm2 : ss.Perm (ms.map keyI) := by rw [← k1]; exact hperm.trans (intKeys_perm K.int k2)
  have hsort : ss.mergeSort (fun x y => decide (x ≤ y)) = keysI ms := mergeSort_of_perm_i hperm2
  have hlen2 : ss.length = ms.length := by rw [hperm2.length_eq]; simp
  have S1 : Sim P ρ (fun r => if r < w.heap.size then τ r else none) A w' := S.aside hb.size (fun r f _ hr => hb.block r hr) (fun r hr => if_pos hr) (fun r f hf => by
    split at hf
    · exact hf
    · cases hf)
  have hfrm : Frm τ w w' := ⟨hb.size, fun r hr _ => hb.block r hr, hb.os, hb.output, hb.tape⟩
  have hloops : ∀ (r : Nat) (R : Loop), w.heap[r]? = some (Obj.loop R) → ∃ R' : Loop, w'.heap[r]? = some (Obj.loop R') := fun r R hR => ⟨R, by rw [hb.block r (Array.getElem?_eq_some_iff.1 hR).1]; exact hR⟩
  split at h
  · rename_i he
    cases h
    have hss : ss = [] := List.eq_nil_of_length_eq_zero (by rw [hlen2, he]; rfl)
    obtain rfl := hnil.2 hss
    exact ⟨_, ρ, _, rfl, .sliceNil, Ren.le_refl _, fun _ _ => rfl, Nat.le_refl _, hfrm, fun r hr => .inl (if_pos hr), hloops, fun r hr _ => hb.block r hr, S1⟩
  · rename_i he
    cases h
    have hss : ss ≠ [] := fun e => he (List.eq_nil_of_length_eq_zero (by rw [← hlen2, e]; rfl))
    rcases hrow.2 with ⟨e, _⟩ | ⟨gb, cap, cur, rfl, hbase, hgb, r1, r2, r3, r4⟩
    · exact absurd (hnil.1 e) hss
    have hgl : gb < w'.heap.size := (Array.getElem?_eq_some_iff.1 hgb).1
    have hfree' : ρ A.size = none := hfree _ (Nat.le_refl _) (by unfold AState.fresh; rw [size_push]; omega)
    have S2 := S1.adopt (g := gb) (n := ms.length) (es := 1) (cs := .nil) (d := (keysI ms).map encZ) hgl (if_neg (by omega)) hgb (.inl rfl) hfree' (by rw [r3]; omega) (fun j hj => by
      have hk : (keysI ms).length = ms.length := by unfold keysI; simp
      refine ⟨((keysI ms).map encZ)[j]'(by simpa [hk] using hj), ((keysI ms).map encZ)[j]'(by simpa [hk] using hj), ?_, ?_, ?_⟩
      · unfold cellAt
        rw [show (Tr.nil : Tr Value).get j = none from rfl]
        simp only
        rw [Nat.mod_eq_of_lt (by simpa [hk] using hj)]
        exact List.getElem?_eq_getElem _
      · rw [hsort] at r4
        have h1 : (cur.toList.take (ss.length * 1))[j]? = ((keysI ms).map encZ)[j]? := by rw [r4]
        rw [List.getElem?_take_of_lt (by omega), Array.getElem?_toList] at h1
        rw [h1]
        exact List.getElem?_eq_getElem _
      · rw [List.getElem_map]; exact .int _ _)
    refine ⟨_, _, _, rfl, ?_, Ren.le_upd _ hfree', fun b hb' => Ren.upd_other _ _ (by unfold AState.fresh at hb'; rw [size_push] at hb'; omega), hsz, hfrm, fun r hr => .inl (by unfold tup; rw [if_neg (by omega)]; exact if_pos hr), hloops, fun r hr _ => hb.block r hr, S2⟩
    rw [← hlen2]
    exact .sliceUn (i := ⟨gb, 0, cur.size, 1, ss.length⟩) (Ren.upd_same _ _ _) r1 (fun _ => rfl) (by simp; omega) (by simp; omega)
end Go.Ag
namespace Go.Ag
set_option linter.unusedVariables false
theorem callM_sorted {P : Program} {O : Hook} {fS fI : FuncId} {bx mb : Nat} {es : List (Value × Value)} {S : MS} {Q : Value → MS → Prop}
    (hO : ∀ args, O fS args = fun A => sortA fI args A) (hbx : S.m bx = some (.cells [.map (some mb)] 0)) (hmb : S.m mb = some (.map es)) (hk : es.all isKeyI = true) (hl : es.length ≤ 1000)
    (h0 : es = [] → Q (.slice none 0 0) S) (h1 : es ≠ [] → Q (.slice (some ⟨S.n, 0, none⟩) es.length unk) (S.fresh ((keysI es).map encZ) 1)) :
    CallM P O fS [.func (.func fI) #[] #[.pointer (some ⟨bx, 0, none⟩)]] S Q := by
  intro A hA
  obtain ⟨cs, d, root, own, top, c1, c2, c3, _⟩ := hA.cur _ _ hbx
  have c4 : A.get mb = some (.map es) := hA.cur _ _ hmb
  have hcell : cellAt cs d 0 = some (.map (some mb)) := c2 0 (by simp)
  have hlen : (keysI es).length = es.length := by unfold keysI; simp
  have e : sortA fI [.func (.func fI) #[] #[.pointer (some ⟨bx, 0, none⟩)]] A = if es = [] then some (.slice none 0 0, A) else some (.slice (some ⟨A.size, 0, none⟩) es.length unk, A.fresh .nil ((keysI es).map encZ) es.length 1) := by
    unfold sortA
    simp only [List.length_cons, List.length_nil, Nat.zero_add] at c1
    simp only [and_self, if_true, c1, c3, hcell, c4, hk, hl]
  by_cases he : es = []
  · refine ⟨_, A, S, lim_known (r := (.slice none 0 0, A)) ((congrFun (hO _) A).trans (e.trans (if_pos he))), hA, h0 he⟩
  · have hst : St (A.fresh .nil ((keysI es).map encZ) es.length 1) (S.fresh ((keysI es).map encZ) 1) := by
      have := hA.pushCells (cs := .nil) (d := (keysI es).map encZ) (l := (keysI es).map encZ) (es := 1) (fun i hi => by
        unfold cellAt
        rw [show (Tr.nil : Tr Value).get i = none from rfl]
        simp only
        rw [Nat.mod_eq_of_lt hi])
      rw [List.length_map, hlen] at this
      exact this
    refine ⟨_, _, _, lim_known (r := (_, _)) ((congrFun (hO _) A).trans (e.trans (if_neg he))), hst, ?_⟩
    rw [hA.size]
    exact h1 he
end Go.Ag

