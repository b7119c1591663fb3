/-
  The walk through the journal's code: what its functions do to memory, part PyP11. Nothing is asked.
-/
import Derived.Test.YtmfmbadfgnhonaaPyP10
import Derived.Test.YtmfmbadfgnhonaaRows
set_option linter.all false
namespace Go.Proofs.Ytmfmbadfgnhonaa
open Go Go.Ag
set_option linter.unusedVariables false
set_option maxRecDepth 100000

section
variable {H : Type} {S : MS}
theorem bulk_pos (d : DataW H) : 1 ≤ Rows.uptoBulk d := by
  cases d with
  | lit x => cases x <;> simp [Rows.uptoBulk]
  | nil => simp [Rows.uptoBulk]
  | ptr d => simp [Rows.uptoBulk]
  | slice e s => simp [Rows.uptoBulk]
  | agg ps => simp [Rows.uptoBulk]
  | iface t d => simp [Rows.uptoBulk]
  | map es => simp [Rows.uptoBulk]
  | held h => simp [Rows.uptoBulk]
theorem bulk_len : ∀ l : List (DataW H), l.length ≤ Rows.uptoBulkAll l := by
  intro l
  induction l with
  | nil => simp [Rows.uptoBulkAll]
  | cons d l ih => have := bulk_pos d; simp [Rows.uptoBulkAll]; omega
theorem bulk_mem : ∀ (l : List (DataW H)) (k : Nat) d, l[k]? = some d → Rows.uptoBulk d ≤ Rows.uptoBulkAll l := by
  intro l
  induction l with
  | nil => intro k d h; cases h
  | cons x l ih =>
    intro k d h
    cases k with
    | zero => cases h; simp [Rows.uptoBulkAll]
    | succ k => have := ih k d h; simp [Rows.uptoBulkAll]; omega
theorem rd_len {v : Value} {d : DataW H} (h : RdS Try.prog S 32 [v] d) : ∀ n, lenOfA v = some n → n ≤ Rows.uptoBulk d := by
  generalize hc : [v] = cs at h
  cases h with
  | bool hu' => rw [under32] at hu'; cases hu'
  | int hu' => rw [under32] at hu'; cases hu'
  | string hu' _ => rw [under32] at hu'; cases hu'
  | struct hu' => rw [under32] at hu'; cases hu'
  | sliceNil hu' => cases hc; intro n hn; cases hn; omega
  | sliceZ hu' => cases hc; intro n hn; cases hn; omega
  | slice vs hu hcap hlen hmax he hs hvs hb hsz hr =>
    rename_i e b len cap elems spare
    cases hc
    intro n hn
    cases hn
    have := bulk_len elems
    simp [Rows.uptoBulk]; omega

theorem under40 : ∃ fs, Try.prog.underlying 40 = some (.struct fs) ∧ fs.toList.map (fun f => (f.type, f.offset)) = [(3, 0), (3, 1), (32, 2)] := by
  have h : (match Try.prog.underlying 40 with | some (.struct fs) => fs.toList.map (fun f => (f.type, f.offset)) | _ => []) = [(3, 0), (3, 1), (32, 2)] := by kernel_rfl
  split at h
  · rename_i fs e; exact ⟨fs, e, h⟩
  · cases h
theorem rd_step {cs : List Value} {d : DataW H} (h : RdS Try.prog S 40 cs d) : ∃ s x, cs = stpL s x ∧ RB S x s.bytes ∧ s.cut ≤ 9223372036854775807 ∧ s.bytes.length ≤ Rows.uptoBulk d := by
  obtain ⟨fs0, hu, hfs⟩ := under40
  cases h with
  | bool hu' => rw [hu] at hu'; cases hu'
  | int hu' => rw [hu] at hu'; cases hu'
  | string hu' _ => rw [hu] at hu'; cases hu'
  | sliceNil hu' => rw [hu] at hu'; cases hu'
  | sliceZ hu' => rw [hu] at hu'; cases hu'
  | slice vs hu' => rw [hu] at hu'; cases hu'
  | struct hu' hl hd hr =>
    rename_i fs ds
    rw [hu] at hu'; cases hu'
    rw [cells40] at hl
    have fld : ∀ (i : Nat) t o, [(3, 0), (3, 1), (32, 2)][i]? = some (t, o) → ∃ d : DataW H, ds[i]? = some d ∧ RdS Try.prog S t ((cs.drop o).take (Try.prog.cellsOf t)) d := by
      intro i t o hi
      rw [← hfs, List.getElem?_map] at hi
      cases hf : fs0.toList[i]? with
      | none => rw [hf] at hi; cases hi
      | some f =>
        rw [hf] at hi
        cases hi
        have hlt : i < ds.length := by rw [hd]; exact (List.getElem?_eq_some_iff.1 hf).1
        exact ⟨_, List.getElem?_eq_getElem hlt, hr i f _ hf (List.getElem?_eq_getElem hlt)⟩
    match cs, hl with
    | [a, b, c], _ =>
      obtain ⟨_, _, h0⟩ := fld 0 3 0 rfl
      obtain ⟨_, _, h1⟩ := fld 1 3 1 rfl
      obtain ⟨d2, g2, h2⟩ := fld 2 32 2 rfl
      rw [cells3] at h0 h1
      rw [cells32] at h2
      obtain ⟨n0, e0, _⟩ := rd_int under3 h0
      obtain ⟨n1, e1, w1⟩ := rd_int under3 h1
      simp at e0 e1 h2
      subst e0 e1
      obtain ⟨v, bs, e2, r2, _⟩ := rd_bytes h2
      cases e2
      simp [Lit.wf, IntKind.min, IntKind.max, IntKind.signed, IntKind.bits] at w1
      refine ⟨⟨n0, n1, bs⟩, c, rfl, r2, w1.2, ?_⟩
      have k1 := rd_len h2 bs.length r2.lenA
      have k2 := bulk_mem ds 2 d2 g2
      simp [Rows.uptoBulk]
      omega

theorem rd_steps {cs : List Value} {d : DataW H} (h : RdS Try.prog S 37 cs d) (wf : S.WF) (hb : Rows.uptoBulk d ≤ 1048576) : ∃ v l, cs = [v] ∧ ArgS S v l := by
  cases h with
  | bool hu' => rw [under37] at hu'; cases hu'
  | int hu' => rw [under37] at hu'; cases hu'
  | string hu' _ => rw [under37] at hu'; cases hu'
  | struct hu' => rw [under37] at hu'; cases hu'
  | sliceNil hu' => exact ⟨_, [], rfl, rfl, Nat.zero_le _, (fun k b hb => by cases hb), (fun s hs => by cases hs)⟩
  | sliceZ hu' => exact ⟨_, [], rfl, rfl, Nat.zero_le _, (fun k b hb => by cases hb), (fun s hs => by cases hs)⟩
  | slice vs hu hcap hlen hmax he hs hvs hbb hsz hr =>
    rename_i e b len cap elems spare
    rw [under37] at hu; cases hu
    rw [cells40] at hsz
    have hbl : Rows.uptoBulkAll elems + Rows.uptoBulkAll spare + 1 ≤ 1048576 := by simpa [Rows.uptoBulk] using hb
    have hbe := bulk_len elems
    have hst : ∀ k, k < len → ∃ s : Stp, ∃ x, vs[k]? = some (stpL s x) ∧ RB S x s.bytes ∧ s.cut ≤ 9223372036854775807 ∧ s.bytes.length ≤ 1048576 := by
      intro k hk
      have hkv : k < vs.length := by omega
      have hke : k < elems.length := by omega
      have hkd : (elems ++ spare)[k]? = some elems[k] := by rw [List.getElem?_append_left hke, List.getElem?_eq_getElem hke]
      obtain ⟨s, x, h1, h2, h3, h4⟩ := rd_step (hr k _ _ (List.getElem?_eq_getElem hkv) hkd)
      have := bulk_mem elems k elems[k] (List.getElem?_eq_getElem hke)
      exact ⟨s, x, by rw [List.getElem?_eq_getElem hkv, h1], h2, h3, by omega⟩
    obtain ⟨l, hll, hx⟩ := list_of_each (p := fun k (s : Stp) => ∃ x, vs[k]? = some (stpL s x) ∧ RB S x s.bytes ∧ s.cut ≤ 9223372036854775807 ∧ s.bytes.length ≤ 1048576) len hst
    refine ⟨_, l, rfl, by rw [lenSl_of, hll], by omega, fun k s hk => ?_, fun s hs => ?_⟩
    · obtain ⟨x, hx1, hx2, _⟩ := hx k s hk
      have hkl : k < l.length := (List.getElem?_eq_some_iff.1 hk).1
      obtain ⟨g1, g2⟩ := flat_at vs k _ hsz hx1
      refine ⟨x, b, k * 3, vs.flatten, ?_, list_of hbb, g2, g1, wf _ _ hbb, hx2⟩
      rw [iaSS_of (k := .i64) (i := (k : Int)) (by omega) (by omega : (k : Int) < (len : Int)), Int.toNat_natCast, Nat.zero_add]
    · obtain ⟨k, hk⟩ := List.getElem?_of_mem hs
      obtain ⟨x, _, _, h3, h4⟩ := hx k s hk
      exact ⟨h3, h4⟩
theorem run4 (ds : List (DataW H)) (vs : List Value) (h : RdSAll Try.prog S [3, 32, 37] vs ds) (hk : Rows.uptoSmall H ds = true) : CallM Try.prog O 4 vs S fun v _ => v = .bool true := by
  refine callM_wf fun wf => ?_
  obtain ⟨a, b, c, d1, d2, d3, rfl, rfl⟩ := three h
  obtain ⟨⟨cs1, r1, k1⟩, ⟨cs2, r2, k2⟩, ⟨cs3, r3, k3⟩, _⟩ := h
  have e1 := rd_sv (d := d1) k1 (fun fs e => by rw [under3] at e; cases e)
  have e2 := rd_sv (d := d1) k2 (fun fs e => by rw [under32] at e; cases e)
  have e3 := rd_sv (d := d1) k3 (fun fs e => by rw [under37] at e; cases e)
  subst e1 e2 e3
  have hb : Rows.uptoBulkAll [d1, d2, d3] ≤ 1048576 := by simpa [Rows.uptoSmall] using hk
  have hb3 := bulk_mem [d1, d2, d3] 2 d3 rfl
  obtain ⟨n1, e1, _⟩ := rd_int under3 r1
  obtain ⟨v2, b2, e2, h2, _⟩ := rd_bytes r2
  obtain ⟨v3, l, e3, h3⟩ := rd_steps r3 wf (by omega)
  cases e1; cases e2; cases e3
  exact law4 n1 h2 h3
end
end Go.Proofs.Ytmfmbadfgnhonaa

